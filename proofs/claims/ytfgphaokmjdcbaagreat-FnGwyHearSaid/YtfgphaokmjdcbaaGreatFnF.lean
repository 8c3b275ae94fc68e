/-
  Contracts: a walker put among others.
-/
import Derived.Test.YtfgphaokmjdcbaaGreatFnD
import Derived.Test.YtfgphaokmjdcbaaGreatInsW
import Derived.Test.YtfgphaokmjdcbaaGreatM1
import Derived.Test.YtfgphaokmjdcbaaGreatFoT
set_option linter.unusedVariables false
set_option linter.unusedSimpArgs false
namespace Go.Proofs.YtfgphaokmjdcbaaGreat
open Go.Sx Go.Proofs Go.Mo
set_option maxRecDepth 100000
set_option maxHeartbeats 8000000
set_option linter.unusedSimpArgs false
set_option linter.unusedVariables false

noncomputable def sWlkPut : Sx.Spec := ⟨false, true, [.list .wlk, .row .wlk], [[some .wlk]], fun _ _ ⟨l, w, _⟩ => .asrt (fun _ => ((l ()).length + 1) * 40 ≤ 140737488355328) (.ret (vW .wlk fun _ => wlkPut (l ()) (w ()), fun _ => 0))⟩

theorem okSWlkPut : SpecOk1 Tryz.prog 184 sWlkPut := spec1 tabOk (ss := [(202, sWlkOut)]) ⟨okSWlkOut, trivial⟩ rfl rfl <| by
  intro (bs : Th (List Int)) (p : Th Int) ⟨(l : Th (List Wlk)), (w : Th Wlk), u⟩ K _ _ ho h
  obtain ⟨l, rfl⟩ := th_ex l; obtain ⟨w, rfl⟩ := th_ex w
  obtain ⟨hp, h⟩ := h
  have hp := hp.out
  have hl := wlkOut_len l w.id
  have hz := putTo_len (wlkOut l w.id) w
  refine ⟨annL [(184, 5, ⟨Nat, [⟨.tmp 6 0, some 14, .wlk⟩], fun σ k => ((((σ.fg 14).t 8 (vI fun _ => (k : Int))).t 6 (vO 14 1)).t 7 (vB fun _ => putDone (wlkOut l w.id) w k)).row 14 1 .wlk (fun _ => putTo (wlkOut l w.id) w k), fun _ k _ => k ≤ (wlkOut l w.id).length, fun _ k _ => (wlkOut l w.id).length - k⟩)], noAnn, 20, ?_⟩
  cbv
  repeat' first | ((with_reducible refine fun (k : Nat) => ?_); cbv) | ((with_reducible intro _); cbv) | ((with_reducible show _ ∧ _); (with_reducible apply And.intro))
  all_goals try ((first | (with_reducible refine LoopIn.mk ((0 : Nat)) ?_ ?_) | (with_reducible refine LoopBack.mk ((k + 1 : Nat)) ?_ ?_ ?_)) )
  all_goals try ((with_reducible show matchSt _ _); cbv; (try simp only [and_true, true_and]))
  all_goals try (with_reducible show _ ∧ _; (repeat' (with_reducible apply And.intro)))
  all_goals first | (refine retK h ?_; clear h; simp only [fin0]) | (with_reducible refine Ob.mk ?_; clear h) | (clear h)
  all_goals (try simp only [eta0, RT.bytes] at *)
  all_goals grind [putTo_zero, putDone_zero, putTo_succ1, putTo_succ2, putTo_succ3, putDone_succ1, putDone_succ2, putDone_succ3, putTo_end1, putTo_end2, putTo_len2, wrap_succ, wlkPut_eq]

end Go.Proofs.YtfgphaokmjdcbaaGreat

/-
  Contracts: cells asked.
-/
namespace Go.Proofs.YtfgphaokmjdcbaaGreat
open Go.Sx Go.Proofs Go.Mo
set_option maxRecDepth 100000
set_option maxHeartbeats 8000000
set_option linter.unusedSimpArgs false
set_option linter.unusedVariables false

theorem okSCllOk : SpecOk1 Tryz.prog 142 sCllOk := spec1 tabOk (ss := [(45, sPlcOk), (47, sIn), (172, sWlkListOkS), (103, sPlcCell), (173, sL5Side)]) ⟨okSPlcOk, okL1In, okSWlkListOk, okSPlcCell, okL5Side, trivial⟩ rfl rfl <| by
  intro (bs : Th (List Int)) (p : Th Int) ⟨(m : Th PMap), (c : Th Cll), u⟩ K _ _ ho h
  obtain ⟨m, rfl⟩ := th_ex m; obtain ⟨c, rfl⟩ := th_ex c
  obtain ⟨hw, hou, hoi, hn, hi, _, _⟩ := okCll ho.2.1
  have hi := plcOk_iff (m := m)
  refine ⟨annL [(142, 4, ⟨Nat, [], fun σ k => (σ.t 5 (vI fun _ => (k : Int))), fun _ k _ => k ≤ c.wlks.length ∧ cllHead m c = true ∧ allTo k (wlkIn m c) = true, fun _ k _ => c.wlks.length - k⟩)], noAnn, 20, ?_⟩
  cbv
  repeat' first | ((with_reducible refine fun (k : Nat) => ?_); cbv) | ((with_reducible intro _); cbv) | ((with_reducible show _ ∧ _); (with_reducible apply And.intro))
  all_goals try ((first | (with_reducible refine LoopIn.mk ((0 : Nat)) ?_ ?_) | (with_reducible refine LoopBack.mk ((k + 1 : Nat)) ?_ ?_ ?_)) )
  all_goals try ((with_reducible show matchSt _ _); cbv; (try simp only [and_true, true_and]))
  all_goals try (with_reducible show _ ∧ _; (repeat' (with_reducible apply And.intro)))
  all_goals first | (refine retK h ?_; clear h; simp only [fin0]) | (with_reducible refine Ob.mk ?_; clear h) | (clear h)
  all_goals (try simp only [eta0, RT.bytes] at *)
  all_goals grind [inR, allTo_zero, allTo_succ, wlkIn, cllHead, cllOk, cllOk_bad1, cllOk_bad2, wrap_succ, wrap_id]

end Go.Proofs.YtfgphaokmjdcbaaGreat
