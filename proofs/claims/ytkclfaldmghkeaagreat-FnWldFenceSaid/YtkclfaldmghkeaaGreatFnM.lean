/-
  Contracts: records one behind the other.
-/
import Derived.Test.YtkclfaldmghkeaaGreatFnFb
import Derived.Test.YtkclfaldmghkeaaGreatGnJ
import Derived.Test.YtkclfaldmghkeaaGreatFnYs
import Derived.Test.YtkclfaldmghkeaaGreatM1
set_option linter.unusedVariables false
set_option linter.unusedSimpArgs false
set_option maxRecDepth 100000
set_option maxHeartbeats 16000000
namespace Go.Proofs.YtkclfaldmghkeaaGreat
open Go.Sx Go.Proofs Go.Mo
noncomputable def b9X : Sx.Spec := ⟨false, true, [.map, .row .cll, .list .rcd], [nCll, [none]], fun _ _ ⟨m, c, l, _⟩ => .asrt (fun _ => r7 (m ()) (c ()) = true ∧ (l ()).length ≤ 250) (.ret (.tup [oCll fun _ => a0a (m ()) (c ()) (l ()), vI fun _ => (S6 (m ()) (c ()) (l ()) : Int)], fun _ => 0))⟩
theorem a7w {m : PMap} {c : Cll} {i : Nat} {w : Wlk} {o : Sx.Ord} : (M7 m c i w o).c.cell = c.cell := by
 unfold M7 X0 X2 X3 X1 P1 E3
 repeat' split
 all_goals rfl
theorem X6 {m : PMap} {c : Cll} {r : Sx.Rec} : (j9 m c r).c.cell = c.cell := by
 unfold j9
 split
 ·split
  ·unfold F4
   split
   ·rfl
   dsimp only
   split
   ·rfl
   split
   ·rfl
   exact a7w
  ·rfl
 split
 ·rfl
 split
 ·unfold s9
  repeat' split
  all_goals rfl
 ·unfold D6
  split <;> rfl
theorem fold_cell (m : PMap) (c : Cll) (l : List Sx.Rec) (k : Nat) : (r9 m c l k).cell = (r9 m c l (k + 1)).cell := by rw [K8, X6]
theorem b8p : b8 Tryz.prog 41 b9X := j6 j4 (ss := [(42, M9), (90, a7a), (149, a7d), (85, E7), (190, a1D), (43, a9g), (97, a3Q), (45, D3), (187, a0T), (189, a0S), (46, Q1)])
  ⟨a3o, c0y, b3K, S1, a7n, a8F, a3l, W6, a5V, a9w, a1M, trivial⟩ rfl rfl <| by
 intro (bs : Th (List Int)) (p : Th Int) ⟨(m : Th PMap), (c : Th Cll), (l : Th (List Sx.Rec)), u⟩ K _ _ ho h
 obtain ⟨m, rfl⟩ := b6 m; obtain ⟨c, rfl⟩ := b6 c; obtain ⟨l, rfl⟩ := b6 l
 obtain ⟨hpre, h⟩ := h
 have hpre := hpre.out
 refine ⟨annL [(41, 3, ⟨Nat, [⟨.cell 9 1, some 8449, .wlk⟩, ⟨.cell 9 3, some 8451, .pcls⟩, ⟨.cell 9 4, some 8452, .int⟩, ⟨.cell 9 5, some 8453, .int⟩],
  fun σ k => ((((((((((((σ.fgs [8449, 8451, 8452, 8453]).t 17 (vI fun _ => (k : Int))).F5 9 0 (.att (.int .i64 fun _ => (r9 m c l k).cell))).F5 9 1 (.own 8449 1)).F5 9 2 (.att (.int .i64 fun _ => (r9 m c l k).ground))).F5 9 3 (.own 8451 1)).F5 9 4 (.own 8452 1)).F5 9 5 (.own 8453 1)).row 8449 1 .wlk (fun _ => (r9 m c l k).wlks)).row 8451 1 .pcls (fun _ => (r9 m c l k).outs)).row 8452 1 .int (fun _ => (r9 m c l k).next)).row 8453 1 .int (fun _ => (r9 m c l k).ins)),
  fun _ k _ => k ≤ l.length ∧ m4 k (H3 m c l) = true, fun _ k _ => l.length - k⟩)], noAnn, 20, ?_⟩
 cbv
 repeat' first | ((with_reducible refine fun (k : Nat) => ?_); cbv) | ((with_reducible intro _); cbv) | (with_reducible refine And.intro ?_ ?_)
 all_goals try ((first | (with_reducible refine LoopIn.mk ((0 : Nat)) ?_ ?_) | (with_reducible refine LoopBack.mk ((k + 1 : Nat)) ?_ ?_ ?_)) )
 all_goals try ((with_reducible show l8 _ _); cbv; (try simp only [and_true, true_and]))
 all_goals try (repeat' with_reducible refine And.intro ?_ ?_)
 all_goals first | (refine retK h ?_; clear h; simp only [fin0]) | (with_reducible refine Ob.mk ?_; clear h) | (clear h)
 all_goals (try simp only [eta0, RT.bytes] at *)
 all_goals try first | exact fold_cell m c l k | exact Nat.sub_lt_sub_left (by assumption) (Nat.lt_succ_self k) | exact Nat.succ_le_of_lt (by assumption)
 all_goals (try have hc2 := (by assumption : k ≤ l.length ∧ m4 k (H3 m c l) = true))
 all_goals (try have hck := a2y hpre.1 hc2.2)
 all_goals (try have hfk : H3 m c l k = (D4 m (nth .rcd l k) && (j9 m (r9 m c l k) (nth .rcd l k)).ok) := rfl)
 all_goals (try have hfs := K8 m c l k)
 all_goals (try have hfa := @b6R m c l k)
 all_goals (try have hfc : a0a m c l = r9 m c l (S6 m c l) := rfl)
 all_goals (try generalize hx : r9 m c l k = x at *)
 all_goals (try generalize hr : nth RT.rcd l k = r at *)
 all_goals (try have hlt := E9 (l := x.wlks) (id := r.ord.who) (by assumption))
 all_goals (try simp only [B2, m5 .wlk hlt, List.set_set, List.length_set, a3Y] at *)
 all_goals (try have hf := @n0 m x hck)
 all_goals (try have hwk := @H9 m x hck)
 all_goals (try have hsd := @C5 m x hck)
 all_goals (try have hlen := X4 hck)
 all_goals (try have hps := @G7 m x.cell r.side)
 all_goals (try have hdo := a9Q (m := m) (r := r) (by assumption) (by assumption))
 all_goals (try have hoi := H8.1 hdo)
 all_goals (try have hpd := N9 x.wlks r.ord.dest)
 all_goals (try have hwr := a6V (m := m) (c := x) (o := r.ord) hck hlt hdo (by assumption))
 all_goals (try simp only [hwr] at *)
 all_goals (try have hld := E9 (l := x.wlks) (id := r.ord.dest) (by assumption))
 all_goals (try have hne := a3f (l := x.wlks) (a := r.ord.who) (b := r.ord.dest) (by assumption) (by assumption) (a1K hdo (by assumption)))
 all_goals (try simp only [a5t hne, o9 .wlk hne, o9 .wlk hne.symm, m5 .wlk hlt, m5 .wlk hld] at *)
 all_goals (try have hin := a6g (m := m) (r := r) (by assumption) (by assumption))
 all_goals (try have hpi := M3.1 hin)
 all_goals (try have hwg := gwrap (c := x) (p := r.pcl) hck hin)
 all_goals (try simp only [hwg] at *)
 all_goals (try have hfr := @S5 x r.ord (by assumption))
 all_goals (try simp only [B2] at *)
 all_goals grind [j9, s9, D6, C3, N0, F4, M7, X0, X2, X3, X1, P1, E3, B4, E2, b9, N9, E9, n4, n3, j3, a4e, R4, a8n]
end Go.Proofs.YtkclfaldmghkeaaGreat
