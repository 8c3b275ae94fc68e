/-
  Contract: a record written at the end of the store that a pointer shows.
-/
import Derived.Test.YtkclfaldmghkeaaGreatGnD
import Derived.Test.YtkclfaldmghkeaaGreatFoE
set_option linter.unusedVariables false
set_option linter.unusedSimpArgs false
set_option maxRecDepth 100000
set_option maxHeartbeats 16000000
namespace Go.Proofs.YtkclfaldmghkeaaGreat
open Go.Sx Go.Proofs Go.Mo
noncomputable def sAddP : Sx.Io := ⟨.row .sto, true, [.map, .int .i64, .int .i64, .row .rcd], [], fun s ⟨m, a, b, r, _⟩ => .asrt (fun _ => x8 (m ()) (s ()) = true) (.ret (vI fun _ => (u7 (m ()) (s ()) (a ()) (b ()) (r ())).n, fun _ => (u7 (m ()) (s ()) (a ()) (b ()) (r ())).s))⟩
theorem okAddP : b7 Tryz.prog 233 (ioX sAddP) := io1 j3 (ss := [(90, a6A), (228, b6O), (149, a6D), (43, a8E), (97, a3q), (45, D0), (187, a0y), (46, P1), (85, E2), (189, a0x), (190, a1i)]) ⟨b9C, b9A, b2V, a8e, a2P, U9, a5u, a1p, Q5, a8T, a6L, trivial⟩ rfl rfl <| by
 intro (s : Th Sto) ⟨(m : Th PMap), (a : Th Int), (b : Th Int), (r : Th Sx.Rec), u⟩ K _ ho h
 obtain ⟨s, rfl⟩ := a8 s; obtain ⟨m, rfl⟩ := a8 m; obtain ⟨a, rfl⟩ := a8 a; obtain ⟨b, rfl⟩ := a8 b; obtain ⟨r, rfl⟩ := a8 r
 obtain ⟨hs, h⟩ := h
 have hso : x8 m s = true := hs.out
 refine ⟨noAnn, noAnn, 20, ?_⟩
 cbv
 repeat' first | ((with_reducible intro _); cbv) | (with_reducible refine And.intro ?_ ?_)
 all_goals first | refine ioK h ?_ ?_ | (with_reducible refine Ob.mk ?_; clear h) | (clear h)
 all_goals (try clear h)
 all_goals (try clear K)
 all_goals (try simp only [fin0])
 all_goals (try simp only [eta0, RT.bytes] at *)
 all_goals (try have hck := a2y hso)
 all_goals (try have hsl := (u0.1 hso).2.2.1)
 all_goals (try have hap := b8p (a := a) (b := b) (r := r) hso)
 all_goals (try generalize hx : p5 m s = x at *)
 all_goals (try have hlo := (by assumption : D1 m r = true))
 all_goals (try have hlt := E4 (l := x.wlks) (id := r.ord.who) (by assumption))
 all_goals (try simp only [B5, l9 .wlk hlt, List.set_set, List.length_set, a3x] at *)
 all_goals (try simp only [B5] at *)
 all_goals (try have hf := @n6 m x hck)
 all_goals (try have hwk := @G7 m x hck)
 all_goals (try have hsd := @C2 m x hck)
 all_goals (try have hlen := V6 hck)
 all_goals (try have hps := @F8 m x.cell r.side)
 all_goals (try have hdo := a9l (m := m) (r := r) hlo (by assumption))
 all_goals (try have hoi := G6.1 hdo)
 all_goals (try have hpd := N1 x.wlks r.ord.dest)
 all_goals (try have hwr := a6u (m := m) (c := x) (o := r.ord) hck hlt hdo (by assumption))
 all_goals (try simp only [hwr] at *)
 all_goals (try have hld := E4 (l := x.wlks) (id := r.ord.dest) (by assumption))
 all_goals (try have hne := a2J (l := x.wlks) (a := r.ord.who) (b := r.ord.dest) (by assumption) (by assumption) (a1n hdo (by assumption)))
 all_goals (try simp only [a4R hne, n9 .wlk hne, n9 .wlk hne.symm, l9 .wlk hlt, l9 .wlk hld] at *)
 all_goals (try have hin := a5G (m := m) (r := r) hlo (by assumption))
 all_goals (try have hpi := L5.1 hin)
 all_goals (try have hwg := c5G (c := x) (p := r.pcl) hck hin)
 all_goals (try simp only [hwg] at *)
 all_goals (try have hfr := @Q7 x r.ord (by assumption))
 all_goals (try have hlf := fun (h2 : r.side.toNat < 2) h0 => Q0 (m := m) (hsd (s := r.side.toNat) h2).2.2.2 h0)
 all_goals first | grind [W8, O7, j7, s7, D3, C0, M1, E6, L9, V2, V4, V5, V3, O2, D9, A7, D8, e8, N1, E4, Q0] | grind (splits := 30) [W8, O7, j7, s7, D3, C0, M1, E6, L9, V2, V4, V5, V3, O2, D9, A7, D8, e8, N1, E4, Q0]
end Go.Proofs.YtkclfaldmghkeaaGreat
