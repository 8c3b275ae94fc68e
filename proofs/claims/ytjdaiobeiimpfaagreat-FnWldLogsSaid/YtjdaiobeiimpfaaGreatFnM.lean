/-
  Contracts: records one behind the other.
-/
import Derived.Test.YtjdaiobeiimpfaaGreatFnFb
import Derived.Test.YtjdaiobeiimpfaaGreatGnF
import Derived.Test.YtjdaiobeiimpfaaGreatFnYs
import Derived.Test.YtjdaiobeiimpfaaGreatM1
set_option linter.unusedVariables false
set_option linter.unusedSimpArgs false
set_option maxRecDepth 100000
set_option maxHeartbeats 16000000
namespace Go.Proofs.YtjdaiobeiimpfaaGreat
open Go.Sx Go.Proofs Go.Mo
noncomputable def sFold : Sx.Spec := ⟨false, true, [.map, .row .cll, .list .rcd], [nCll, [none]], fun _ _ ⟨m, c, l, _⟩ => .asrt (fun _ => cllOk (m ()) (c ()) = true ∧ (l ()).length ≤ 250) (.ret (.tup [oCll fun _ => foldC (m ()) (c ()) (l ()), vI fun _ => (foldN (m ()) (c ()) (l ()) : Int)], fun _ => 0))⟩
theorem kind_cell {m : PMap} {c : Cll} {i : Nat} {w : Wlk} {o : Sx.Ord} : (doKind m c i w o).c.cell = c.cell := by
 unfold doKind doStep doGive doDrop doPick doThrow cllFin
 repeat' split
 all_goals rfl
theorem apply_cell {m : PMap} {c : Cll} {r : Sx.Rec} : (cllApply m c r).c.cell = c.cell := by
 unfold cllApply
 split
 ·split
  ·unfold cllDo
   split
   ·rfl
   dsimp only
   split
   ·rfl
   split
   ·rfl
   exact kind_cell
  ·rfl
 split
 ·rfl
 split
 ·unfold cllRecv
  repeat' split
  all_goals rfl
 ·unfold cllRel
  split <;> rfl
theorem fold_cell (m : PMap) (c : Cll) (l : List Sx.Rec) (k : Nat) : (foldTo m c l k).cell = (foldTo m c l (k + 1)).cell := by rw [foldTo_succ, apply_cell]
theorem okFold : SpecOk1 Tryz.prog 136 sFold := spec1 tabOk (ss := [(154, sCloneC), (180, sLogOk), (213, sFresh), (93, sPlcSide), (237, sPclFrom), (225, sPlace), (139, sToward), (142, sPlcCell), (234, sWlkOut), (236, sWlkPut), (143, sPlcEdge)])
  ⟨okCloneC, okLogOk, okFresh, okPlcSide, okPclFrom, okPlace, okToward, okPlcCell, okWlkOut, okWlkPut, okPlcEdge, trivial⟩ rfl rfl <| by
 intro (bs : Th (List Int)) (p : Th Int) ⟨(m : Th PMap), (c : Th Cll), (l : Th (List Sx.Rec)), u⟩ K _ _ ho h
 obtain ⟨m, rfl⟩ := th_ex m; obtain ⟨c, rfl⟩ := th_ex c; obtain ⟨l, rfl⟩ := th_ex l
 obtain ⟨hpre, h⟩ := h
 have hpre := hpre.out
 refine ⟨annL [(136, 3, ⟨Nat, [⟨.cell 9 1, some 8449, .wlk⟩, ⟨.cell 9 3, some 8451, .pcls⟩, ⟨.cell 9 4, some 8452, .int⟩, ⟨.cell 9 5, some 8453, .int⟩],
  fun σ k => ((((((((((((σ.fgs [8449, 8451, 8452, 8453]).t 17 (vI fun _ => (k : Int))).cellC 9 0 (.att (.int .i64 fun _ => (foldTo m c l k).cell))).cellC 9 1 (.own 8449 1)).cellC 9 2 (.att (.int .i64 fun _ => (foldTo m c l k).ground))).cellC 9 3 (.own 8451 1)).cellC 9 4 (.own 8452 1)).cellC 9 5 (.own 8453 1)).row 8449 1 .wlk (fun _ => (foldTo m c l k).wlks)).row 8451 1 .pcls (fun _ => (foldTo m c l k).outs)).row 8452 1 .int (fun _ => (foldTo m c l k).next)).row 8453 1 .int (fun _ => (foldTo m c l k).ins)),
  fun _ k _ => k ≤ l.length ∧ allTo k (fitAt m c l) = true, fun _ k _ => l.length - k⟩)], noAnn, 20, ?_⟩
 cbv
 repeat' first | ((with_reducible refine fun (k : Nat) => ?_); cbv) | ((with_reducible intro _); cbv) | (with_reducible refine And.intro ?_ ?_)
 all_goals try ((first | (with_reducible refine LoopIn.mk ((0 : Nat)) ?_ ?_) | (with_reducible refine LoopBack.mk ((k + 1 : Nat)) ?_ ?_ ?_)) )
 all_goals try ((with_reducible show matchSt _ _); cbv; (try simp only [and_true, true_and]))
 all_goals try (repeat' with_reducible refine And.intro ?_ ?_)
 all_goals first | (refine retK h ?_; clear h; simp only [fin0]) | (with_reducible refine Ob.mk ?_; clear h) | (clear h)
 all_goals (try simp only [eta0, RT.bytes] at *)
 all_goals try first | exact fold_cell m c l k | exact Nat.sub_lt_sub_left (by assumption) (Nat.lt_succ_self k) | exact Nat.succ_le_of_lt (by assumption)
 all_goals (try have hc2 := (by assumption : k ≤ l.length ∧ allTo k (fitAt m c l) = true))
 all_goals (try have hck := fold_ok hpre.1 hc2.2)
 all_goals (try have hfk : fitAt m c l k = (logOk m (nth .rcd l k) && (cllApply m (foldTo m c l k) (nth .rcd l k)).ok) := rfl)
 all_goals (try have hfs := foldTo_succ m c l k)
 all_goals (try have hfa := @foldN_at m c l k)
 all_goals (try have hfc : foldC m c l = foldTo m c l (foldN m c l) := rfl)
 all_goals (try generalize hx : foldTo m c l k = x at *)
 all_goals (try generalize hr : nth RT.rcd l k = r at *)
 all_goals (try have hlt := place_ge (l := x.wlks) (id := r.ord.who) (by assumption))
 all_goals (try simp only [setNth_app, nth_set_eq .wlk hlt, List.set_set, List.length_set, place_set] at *)
 all_goals (try have hf := @cllOk_facts m x hck)
 all_goals (try have hwk := @cllOk_wlk m x hck)
 all_goals (try have hsd := @cllOk_side m x hck)
 all_goals (try have hlen := cllOk_len hck)
 all_goals (try have hps := @plcSide_ne m x.cell r.side)
 all_goals (try have hdo := logOk_do (m := m) (r := r) (by assumption) (by assumption))
 all_goals (try have hoi := ordOk_iff.1 hdo)
 all_goals (try have hpd := place_lt x.wlks r.ord.dest)
 all_goals (try have hwr := step_wrap (m := m) (c := x) (o := r.ord) hck hlt hdo (by assumption))
 all_goals (try simp only [hwr] at *)
 all_goals (try have hld := place_ge (l := x.wlks) (id := r.ord.dest) (by assumption))
 all_goals (try have hne := place_ne (l := x.wlks) (a := r.ord.who) (b := r.ord.dest) (by assumption) (by assumption) (ord_give hdo (by assumption)))
 all_goals (try simp only [set_swap hne, nth_set_ne .wlk hne, nth_set_ne .wlk hne.symm, nth_set_eq .wlk hlt, nth_set_eq .wlk hld] at *)
 all_goals (try have hin := logOk_in (m := m) (r := r) (by assumption) (by assumption))
 all_goals (try have hpi := pclOk_iff.1 hin)
 all_goals (try have hwg := gwrap (c := x) (p := r.pcl) hck hin)
 all_goals (try simp only [hwg] at *)
 all_goals (try have hfr := @fresh_place x r.ord (by assumption))
 all_goals (try simp only [setNth_app] at *)
 all_goals grind [cllApply, cllRecv, cllRel, insNext, relOuts, cllDo, doKind, doStep, doGive, doDrop, doPick, doThrow, cllFin, sendOuts, sendNext, wrap_id, place_lt, place_ge, allTo_zero, allTo_succ, wrap_succ, foldN_all, list_first, foldTo_zero]
end Go.Proofs.YtjdaiobeiimpfaaGreat
