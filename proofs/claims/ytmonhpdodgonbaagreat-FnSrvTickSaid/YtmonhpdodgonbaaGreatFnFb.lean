/-
  Contracts: cells asked.
-/
import Derived.Test.YtmonhpdodgonbaaGreatInsW
import Derived.Test.YtmonhpdodgonbaaGreatM1
set_option linter.unusedVariables false
set_option linter.unusedSimpArgs false
namespace Go.Proofs.YtmonhpdodgonbaaGreat
open Go.Sx Go.Proofs Go.Mo
set_option maxRecDepth 100000
set_option maxHeartbeats 8000000
set_option linter.unusedSimpArgs false
set_option linter.unusedVariables false


noncomputable def sCllDo : Sx.Spec := ⟨false, true, [.map, .row .cll, .ord], [nCll, [none]], fun _ _ ⟨m, c, o, _⟩ => .ret (.tup [oCll fun _ => (cllDoX (m ()) (c ()) (o ())).c, vI fun _ => (cllDoX (m ()) (c ()) (o ())).code], fun _ => 0)⟩

theorem okCllOk : SpecOk1 Tryz.prog 54 sCllOk := spec1 tabOk (ss := [(76, sWlkListOkI), (32, sHasCell), (31, sIn), (59, sPlcCell), (14, sPlcSide), (77, sPclListOk)]) ⟨okWlkListOk, okHasCell, okIn, okPlcCell, okPlcSide, okPclListOk, trivial⟩ rfl rfl <| by
  intro (bs : Th (List Int)) (p : Th Int) ⟨(m : Th PMap), (c : Th Cll), u⟩ K _ _ ho h
  obtain ⟨m, rfl⟩ := th_ex m; obtain ⟨c, rfl⟩ := th_ex c
  obtain ⟨hw, hou, hoi, hn, hi, _, _⟩ := okCll ho.2.1
  have hi := plcOk_iff (m := m)
  refine ⟨annL [(54, 4, ⟨Nat, [], fun σ k => (σ.t 50 (vI fun _ => (k : Int))), fun _ k _ => k ≤ c.wlks.length ∧ cllHead m c = true ∧ allTo k (wlkIn m c) = true, fun _ k _ => c.wlks.length - k⟩),
    (54, 10, ⟨Nat × Unit, [], fun σ q => (σ.t 62 (vI fun _ => (q.1 : Int))), fun _ q _ => q.1 ≤ 2 ∧ cllHead m c = true ∧ allTo c.wlks.length (wlkIn m c) = true ∧ allTo q.1 (cllSide m c) = true, fun _ q _ => 2 - q.1⟩),
    (54, 16, ⟨Nat, [], fun σ k => σ.t 118 (vI fun _ => (k : Int)), fun σ k _ => sideInv m c (σ.nat 62) k, fun σ k _ => (nth .pcls c.outs (σ.nat 62)).length - k⟩)], noAnn, 20, ?_⟩
  cbv
  repeat' first | ((with_reducible refine fun (k : Nat) => ?_); cbv) | ((with_reducible refine fun (q : Nat × Unit) => ?_); obtain ⟨s, _⟩ := q; cbv) | ((with_reducible refine fun (q : Nat × Nat) => ?_); obtain ⟨s, k⟩ := q; cbv) | ((with_reducible intro _); cbv) | ((with_reducible show _ ∧ _); (with_reducible apply And.intro))
  all_goals try ((first | (with_reducible refine LoopIn.mk ((0 : Nat)) ?_ ?_) | (with_reducible refine LoopIn.mk (((0, ()) : Nat × Unit)) ?_ ?_) | (with_reducible refine LoopBack.mk ((k + 1 : Nat)) ?_ ?_ ?_) | (with_reducible refine LoopBack.mk (((s + 1, ()) : Nat × Unit)) ?_ ?_ ?_)) )
  all_goals try ((with_reducible show matchSt _ _); cbv; (try simp only [and_true, true_and]))
  all_goals (try simp only [St.nat, St.int, Tr.get, Nat.reduceMod, Nat.reduceDiv, Nat.one_ne_zero, if_false, if_true, ↓reduceIte] at *)
  all_goals try (with_reducible show _ ∧ _; (repeat' (with_reducible apply And.intro)))
  all_goals first | (refine retK h ?_; clear h; simp only [fin0]) | (with_reducible refine Ob.mk ?_; clear h) | (clear h)
  all_goals (try simp only [eta0, RT.bytes] at *)
  all_goals grind [sideInv, inR, allTo_zero, allTo_succ, wlkIn, sideHead, pclDest, cllSide, cllHead, cllOk, cllOk_bad1, cllOk_bad2, cllSide_bad, wrap_succ, wrap_id]

end Go.Proofs.YtmonhpdodgonbaaGreat
