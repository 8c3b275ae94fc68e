/-
  Contracts: the document's order, done in a cell.
-/
import Derived.Test.YtkclfaldmghkeaaGreatFnP
import Derived.Test.YtkclfaldmghkeaaGreatM1
set_option linter.unusedVariables false
set_option linter.unusedSimpArgs false
set_option maxRecDepth 100000
set_option maxHeartbeats 8000000
namespace Go.Proofs.YtkclfaldmghkeaaGreat
open Go.Sx Go.Proofs Go.Mo
noncomputable def sL5Do : Sx.Spec := ⟨false, true, [.map, .row .cll, .ord], [nCll, [none]], fun _ _ ⟨m, c, o, _⟩ => .asrt (fun _ => q9 (m ()) (c ()) = true ∧ J6 (o ()) = true) (.ret (.tup [oCll fun _ => (E6 (m ()) (c ()) (o ())).c, vI fun _ => (E6 (m ()) (c ()) (o ())).code], fun _ => 0))⟩
theorem okL5Do : b7 Tryz.prog 118 sL5Do := j8 j3 (ss := [(51, O0), (166, X0), (66, a0x), (134, a0y), (112, D0), (212, P1)]) ⟨a0h, a1R, a6K, b1k, K6, a4n, trivial⟩ rfl rfl <| by
 intro (bs : Th (List Int)) (p : Th Int) ⟨(m : Th PMap), (c : Th Cll), (o : Th Sx.Ord), u⟩ K _ _ ho h
 obtain ⟨m, rfl⟩ := a8 m; obtain ⟨c, rfl⟩ := a8 c; obtain ⟨o, rfl⟩ := a8 o
 obtain ⟨hpre, h⟩ := h
 have hpre := hpre.out
 refine ⟨noAnn, noAnn, 20, ?_⟩
 cbv
 repeat' first | ((with_reducible intro _); cbv) | (with_reducible refine And.intro ?_ ?_)
 all_goals first | (refine retK h ?_; clear h; simp only [fin0]) | (with_reducible refine Ob.mk ?_; clear h) | (clear h)
 all_goals (try simp only [eta0, RT.bytes] at *)
 all_goals have hcl := hpre.1
 all_goals have hsr := a7g hpre.1
 all_goals (try have hh : o9 c.wlks o.who = true := by assumption)
 all_goals (try have hwb := G7 hpre.1 (L7 hh).1)
 all_goals (try simp only [B5, a2Z hh, id_w hh, b9o hsr hh, put_w1 hsr hh, a4u hh, c8b hh, c7U, Bool.false_eq_true] at *)
 all_goals (try have ht : o9 c.wlks o.dest = true := by assumption)
 all_goals (try have hne := a1n hpre.2 (by assumption))
 all_goals (try simp only [find_t hh ht hne, a2Z ht, id_w ht, put_t hsr hh ht, b7O hh ht, c8a hh ht hne, put_w2 hsr hh ht hne, List.length_set] at *)
 all_goals (try have hws := b6H (o := o) hpre.1 (L7 hh).1 (by assumption))
 all_goals (try have hws := b6G (o := o) hpre.1 (L7 hh).1 hpre.2 (by assumption) (by assumption))
 all_goals (try simp only [hws] at *)
 all_goals have hlen := V6 hpre.1
 all_goals have hf := n6 hpre.1
 all_goals have hoi := G6.1 hpre.2
 all_goals have hsd := @C2 m c hpre.1
 all_goals (try have hid := id_w hh)
 all_goals (try have hpl := L7 hh)
 all_goals (try have hidt := id_w ht)
 all_goals (try have hplt := L7 ht)
 all_goals (try have hwd := G7 hpre.1 (L7 ht).1)
 all_goals grind [E6, L9, V2, V4, V5, V3, O2, D9, A7, D8, e8, b3m, L7, a1F, a8n]
end Go.Proofs.YtkclfaldmghkeaaGreat
