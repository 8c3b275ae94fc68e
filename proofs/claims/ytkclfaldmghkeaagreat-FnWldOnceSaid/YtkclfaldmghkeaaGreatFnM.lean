/-
  Contracts: records one behind the other.
-/
import Derived.Test.YtkclfaldmghkeaaGreatFnFb
import Derived.Test.YtkclfaldmghkeaaGreatFnP
import Derived.Test.YtkclfaldmghkeaaGreatFnIc
import Derived.Test.YtkclfaldmghkeaaGreatM1
set_option linter.unusedVariables false
set_option linter.unusedSimpArgs false
set_option maxRecDepth 100000
set_option maxHeartbeats 16000000
namespace Go.Proofs.YtkclfaldmghkeaaGreat
open Go.Sx Go.Proofs Go.Mo
noncomputable def c3O : Sx.Spec := ⟨false, true, [.map, .row .cll, .list .rcd], [nCll, [none]], fun _ _ ⟨m, c, l, _⟩ => .asrt (fun _ => q9 (m ()) (c ()) = true ∧ (l ()).length ≤ 250) (.ret (.tup [oCll fun _ => a1x (m ()) (c ()) (l ()), vI fun _ => (T6 (m ()) (c ()) (l ()) : Int)], fun _ => 0))⟩
theorem a6U {m : PMap} {c : Cll} {i : Nat} {w : Wlk} {o : Sx.Ord} : (L9 m c i w o).c.cell = c.cell := by
 unfold L9 V2 V4 V5 V3 O2 D9
 repeat' split
 all_goals rfl
theorem V8 {m : PMap} {c : Cll} {r : Sx.Rec} : (j7 m c r).c.cell = c.cell := by
 unfold j7
 split
 ·split
  ·unfold E6
   split
   ·rfl
   dsimp only
   split
   ·rfl
   split
   ·rfl
   exact a6U
  ·rfl
 split
 ·rfl
 split
 ·unfold s7
  repeat' split
  all_goals rfl
 ·unfold D3
  split <;> rfl
theorem c2G (m : PMap) (c : Cll) (l : List Sx.Rec) (k : Nat) : (r7 m c l k).cell = (r7 m c l (k + 1)).cell := by rw [J8, V8]
theorem c4G : b7 Tryz.prog 41 c3O := j8 j3 (ss := [(42, O0), (90, a6A), (149, a6D), (85, E2), (190, a1i), (43, a8E), (97, a3q), (45, D0), (187, a0y), (189, a0x), (46, P1)])
  ⟨a5z, b9C, b2V, Q5, a6L, a8e, a2P, U9, a5u, a8T, a1p, trivial⟩ rfl rfl <| by
 intro (bs : Th (List Int)) (p : Th Int) ⟨(m : Th PMap), (c : Th Cll), (l : Th (List Sx.Rec)), u⟩ K _ _ ho h
 obtain ⟨m, rfl⟩ := a8 m; obtain ⟨c, rfl⟩ := a8 c; obtain ⟨l, rfl⟩ := a8 l
 obtain ⟨hpre, h⟩ := h
 have hpre := hpre.out
 refine ⟨annL [(41, 3, ⟨Nat, [⟨.cell 9 1, some 8449, .wlk⟩, ⟨.cell 9 3, some 8451, .pcls⟩, ⟨.cell 9 4, some 8452, .int⟩, ⟨.cell 9 5, some 8453, .int⟩],
  fun σ k => ((((((((((((σ.fgs [8449, 8451, 8452, 8453]).t 17 (vI fun _ => (k : Int))).E7 9 0 (.att (.int .i64 fun _ => (r7 m c l k).cell))).E7 9 1 (.own 8449 1)).E7 9 2 (.att (.int .i64 fun _ => (r7 m c l k).ground))).E7 9 3 (.own 8451 1)).E7 9 4 (.own 8452 1)).E7 9 5 (.own 8453 1)).row 8449 1 .wlk (fun _ => (r7 m c l k).wlks)).row 8451 1 .pcls (fun _ => (r7 m c l k).outs)).row 8452 1 .int (fun _ => (r7 m c l k).next)).row 8453 1 .int (fun _ => (r7 m c l k).ins)),
  fun _ k _ => k ≤ l.length ∧ l8 k (H8 m c l) = true, fun _ k _ => l.length - k⟩)], noAnn, 20, ?_⟩
 cbv
 repeat' first | ((with_reducible refine fun (k : Nat) => ?_); cbv) | ((with_reducible intro _); cbv) | (with_reducible refine And.intro ?_ ?_)
 all_goals try ((first | (with_reducible refine LoopIn.mk ((0 : Nat)) ?_ ?_) | (with_reducible refine LoopBack.mk ((k + 1 : Nat)) ?_ ?_ ?_)) )
 all_goals try ((with_reducible show m6 _ _); cbv; (try simp only [and_true, true_and]))
 all_goals try (repeat' with_reducible refine And.intro ?_ ?_)
 all_goals first | (refine retK h ?_; clear h; simp only [fin0]) | (with_reducible refine Ob.mk ?_; clear h) | (clear h)
 all_goals (try simp only [eta0, RT.bytes] at *)
 all_goals try first | exact c2G m c l k | exact Nat.sub_lt_sub_left (by assumption) (Nat.lt_succ_self k) | exact Nat.succ_le_of_lt (by assumption)
 all_goals (try have hc2 := (by assumption : k ≤ l.length ∧ l8 k (H8 m c l) = true))
 all_goals (try have hck := a3D hpre.1 hc2.2)
 all_goals (try have hfk : H8 m c l k = (D1 m (nth .rcd l k) && (j7 m (r7 m c l k) (nth .rcd l k)).ok) := rfl)
 all_goals (try have hfs := J8 m c l k)
 all_goals (try have hfa := @b5Z m c l k)
 all_goals (try have hfc : a1x m c l = r7 m c l (T6 m c l) := rfl)
 all_goals (try generalize hx : r7 m c l k = x at *)
 all_goals (try generalize hr : nth RT.rcd l k = r at *)
 all_goals (try have hlt := E4 (l := x.wlks) (id := r.ord.who) (by assumption))
 all_goals (try simp only [B5, l9 .wlk hlt, List.set_set, List.length_set, a3x] at *)
 all_goals (try have hf := @n6 m x hck)
 all_goals (try have hwk := @G7 m x hck)
 all_goals (try have hsd := @C2 m x hck)
 all_goals (try have hlen := V6 hck)
 all_goals (try have hps := @F8 m x.cell r.side)
 all_goals (try have hdo := a9l (m := m) (r := r) (by assumption) (by assumption))
 all_goals (try have hoi := G6.1 hdo)
 all_goals (try have hpd := N1 x.wlks r.ord.dest)
 all_goals (try have hwr := a6u (m := m) (c := x) (o := r.ord) hck hlt hdo (by assumption))
 all_goals (try simp only [hwr] at *)
 all_goals (try have hld := E4 (l := x.wlks) (id := r.ord.dest) (by assumption))
 all_goals (try have hne := a2J (l := x.wlks) (a := r.ord.who) (b := r.ord.dest) (by assumption) (by assumption) (a1n hdo (by assumption)))
 all_goals (try simp only [a4R hne, n9 .wlk hne, n9 .wlk hne.symm, l9 .wlk hlt, l9 .wlk hld] at *)
 all_goals (try have hin := a5G (m := m) (r := r) (by assumption) (by assumption))
 all_goals (try have hpi := L5.1 hin)
 all_goals (try have hwg := c5G (c := x) (p := r.pcl) hck hin)
 all_goals (try simp only [hwg] at *)
 all_goals (try have hfr := @Q7 x r.ord (by assumption))
 all_goals (try simp only [B5] at *)
 all_goals grind [j7, s7, D3, C0, M1, E6, L9, V2, V4, V5, V3, O2, D9, A7, D8, e8, N1, E4, m8, m7, j5, a3E, Q0, a7M]
end Go.Proofs.YtkclfaldmghkeaaGreat
