/-
  Contract: a record applied to the cell that a pointer shows.
-/
import Derived.Test.YtkclfaldmghkeaaGreatGnD
import Derived.Test.YtkclfaldmghkeaaGreatFoE
set_option linter.unusedVariables false
set_option linter.unusedSimpArgs false
set_option maxRecDepth 100000
set_option maxHeartbeats 16000000
namespace Go.Proofs.YtkclfaldmghkeaaGreat
open Go.Sx Go.Proofs Go.Mo
noncomputable def c0f : Sx.Io := ⟨.row .cll, true, [.map, .row .rcd], [], fun c ⟨m, r, _⟩ => .asrt (fun _ => r7 (m ()) (c ()) = true ∧ D4 (m ()) (r ()) = true) (.ret (.tup [vI fun _ => (j9 (m ()) (c ()) (r ())).code, vB fun _ => (j9 (m ()) (c ()) (r ())).ok], fun _ => (j9 (m ()) (c ()) (r ())).c))⟩
theorem okApplyP : b8 Tryz.prog 91 (ioX c0f) := io1 j4 (ss := [(149, a7d), (43, a9g), (97, a3Q), (45, D3), (187, a0T), (46, Q1), (85, E7), (189, a0S), (190, a1D)]) ⟨b3K, a8F, a3l, W6, a5V, a1M, S1, a9w, a7n, trivial⟩ rfl rfl <| by
 intro (x : Th Cll) ⟨(m : Th PMap), (r : Th Sx.Rec), u⟩ K _ ho h
 obtain ⟨x, rfl⟩ := b6 x; obtain ⟨m, rfl⟩ := b6 m; obtain ⟨r, rfl⟩ := b6 r
 obtain ⟨ha, h⟩ := h
 have ha := ha.out
 have hck : r7 m x = true := ha.1
 have hlo : D4 m r = true := ha.2
 clear ha
 refine ⟨noAnn, noAnn, 20, ?_⟩
 cbv
 repeat' first | ((with_reducible intro _); cbv) | (with_reducible refine And.intro ?_ ?_)
 all_goals first | refine ioK h ?_ ?_ | (with_reducible refine Ob.mk ?_; clear h) | (clear h)
 all_goals (try clear h)
 all_goals (try clear K)
 all_goals (try simp only [fin0])
 all_goals (try simp only [eta0, RT.bytes] at *)
 all_goals (try have hlt := E9 (l := x.wlks) (id := r.ord.who) (by assumption))
 all_goals (try simp only [B2, m5 .wlk hlt, List.set_set, List.length_set, a3Y] at *)
 all_goals (try simp only [B2] at *)
 all_goals (try have hf := @n0 m x hck)
 all_goals (try have hwk := @H9 m x hck)
 all_goals (try have hsd := @C5 m x hck)
 all_goals (try have hlen := X4 hck)
 all_goals (try have hps := @G7 m x.cell r.side)
 all_goals (try have hdo := a9Q (m := m) (r := r) hlo (by assumption))
 all_goals (try have hoi := H8.1 hdo)
 all_goals (try have hpd := N9 x.wlks r.ord.dest)
 all_goals (try have hwr := a6V (m := m) (c := x) (o := r.ord) hck hlt hdo (by assumption))
 all_goals (try simp only [hwr] at *)
 all_goals (try have hld := E9 (l := x.wlks) (id := r.ord.dest) (by assumption))
 all_goals (try have hne := a3f (l := x.wlks) (a := r.ord.who) (b := r.ord.dest) (by assumption) (by assumption) (a1K hdo (by assumption)))
 all_goals (try simp only [a5t hne, o9 .wlk hne, o9 .wlk hne.symm, m5 .wlk hlt, m5 .wlk hld] at *)
 all_goals (try have hin := a6g (m := m) (r := r) hlo (by assumption))
 all_goals (try have hpi := M3.1 hin)
 all_goals (try have hwg := gwrap (c := x) (p := r.pcl) hck hin)
 all_goals (try simp only [hwg] at *)
 all_goals (try have hfr := @S5 x r.ord (by assumption))
 all_goals (try have hlf := fun (h2 : r.side.toNat < 2) h0 => R4 (m := m) (hsd (s := r.side.toNat) h2).2.2.2 h0)
 all_goals first | grind [Y4, P7, j9, s9, D6, C3, N0, F4, M7, X0, X2, X3, X1, P1, E3, B4, E2, b9, N9, E9, R4] | grind (splits := 30) [Y4, P7, j9, s9, D6, C3, N0, F4, M7, X0, X2, X3, X1, P1, E3, B4, E2, b9, N9, E9, R4]
end Go.Proofs.YtkclfaldmghkeaaGreat
