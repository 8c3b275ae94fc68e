/-
  Contracts: the document's order, done in a cell.
-/
import Derived.Test.YtkclfaldmghkeaaGreatGnJ
import Derived.Test.YtkclfaldmghkeaaGreatM1
set_option linter.unusedVariables false
set_option linter.unusedSimpArgs false
set_option maxRecDepth 100000
set_option maxHeartbeats 8000000
namespace Go.Proofs.YtkclfaldmghkeaaGreat
open Go.Sx Go.Proofs Go.Mo
noncomputable def sL5Do : Sx.Spec := ⟨false, true, [.map, .row .cll, .ord], [nCll, [none]], fun _ _ ⟨m, c, o, _⟩ => .asrt (fun _ => r7 (m ()) (c ()) = true ∧ K6 (o ()) = true) (.ret (.tup [oCll fun _ => (F4 (m ()) (c ()) (o ())).c, vI fun _ => (F4 (m ()) (c ()) (o ())).code], fun _ => 0))⟩
theorem okL5Do : b8 Tryz.prog 118 sL5Do := j6 j4 (ss := [(51, M9), (166, T8), (66, a0S), (134, a0T), (112, D3), (212, Q1)]) ⟨a0A, a2p, a7m, b1T, L5, a4M, trivial⟩ rfl rfl <| by
 intro (bs : Th (List Int)) (p : Th Int) ⟨(m : Th PMap), (c : Th Cll), (o : Th Sx.Ord), u⟩ K _ _ ho h
 obtain ⟨m, rfl⟩ := b6 m; obtain ⟨c, rfl⟩ := b6 c; obtain ⟨o, rfl⟩ := b6 o
 obtain ⟨hpre, h⟩ := h
 have hpre := hpre.out
 refine ⟨noAnn, noAnn, 20, ?_⟩
 cbv
 repeat' first | ((with_reducible intro _); cbv) | (with_reducible refine And.intro ?_ ?_)
 all_goals first | (refine retK h ?_; clear h; simp only [fin0]) | (with_reducible refine Ob.mk ?_; clear h) | (clear h)
 all_goals (try simp only [eta0, RT.bytes] at *)
 all_goals have hcl := hpre.1
 all_goals have hsr := a7H hpre.1
 all_goals (try have hh : o7 c.wlks o.who = true := by assumption)
 all_goals (try have hwb := H9 hpre.1 (M5 hh).1)
 all_goals (try simp only [B2, a3y hh, id_w hh, c0l hsr hh, put_w1 hsr hh, a4S hh, find_w1 hh, has_out, Bool.false_eq_true] at *)
 all_goals (try have ht : o7 c.wlks o.dest = true := by assumption)
 all_goals (try have hne := a1K hpre.2 (by assumption))
 all_goals (try simp only [find_t hh ht hne, a3y ht, id_w ht, put_t hsr hh ht, b8L hh ht, find_w2 hh ht hne, put_w2 hsr hh ht hne, List.length_set] at *)
 all_goals (try have hws := b7A (o := o) hpre.1 (M5 hh).1 (by assumption))
 all_goals (try have hws := b7z (o := o) hpre.1 (M5 hh).1 hpre.2 (by assumption) (by assumption))
 all_goals (try simp only [hws] at *)
 all_goals have hlen := X4 hpre.1
 all_goals have hf := n0 hpre.1
 all_goals have hoi := H8.1 hpre.2
 all_goals have hsd := @C5 m c hpre.1
 all_goals (try have hid := id_w hh)
 all_goals (try have hpl := M5 hh)
 all_goals (try have hidt := id_w ht)
 all_goals (try have hplt := M5 ht)
 all_goals (try have hwd := H9 hpre.1 (M5 ht).1)
 all_goals grind [F4, M7, X0, X2, X3, X1, P1, E3, B4, E2, b9, b4c, M5, a2d, a8P]
end Go.Proofs.YtkclfaldmghkeaaGreat
