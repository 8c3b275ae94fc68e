/-
  Contracts: walkers found, left out.
-/
import Derived.Test.YtfgphaokmjdcbaaGreatFnB
import Derived.Test.YtfgphaokmjdcbaaGreatM1
set_option linter.unusedVariables false
set_option linter.unusedSimpArgs false
namespace Go.Proofs.YtfgphaokmjdcbaaGreat
open Go.Sx Go.Proofs Go.Mo
set_option maxRecDepth 100000
set_option maxHeartbeats 8000000
set_option linter.unusedSimpArgs false
set_option linter.unusedVariables false

noncomputable def sWlkOut : Sx.Spec := ⟨false, true, [.list .wlk, .int .i64], [[some .wlk]], fun _ _ ⟨l, i, _⟩ => .ret (vW .wlk fun _ => wlkOut (l ()) (i ()), fun _ => 0)⟩
noncomputable def sCloneW : Sx.Spec := ⟨false, true, [.list .wlk], [[some .wlk]], fun _ _ ⟨l, _⟩ => .ret (vW .wlk fun _ => l (), fun _ => 0)⟩
noncomputable def sWlkFind : Sx.Spec := ⟨false, true, [.list .wlk, .int .i64], [], fun _ _ ⟨l, i, _⟩ => .ret (.tup [oWlk fun _ => wlkFind (l ()) (i ()), vB fun _ => wlkHas (l ()) (i ())], fun _ => 0)⟩

theorem okSWlkOut : SpecOk1 Tryz.prog 202 sWlkOut := spec1 tabOk (ss := []) trivial rfl rfl <| by
  intro (bs : Th (List Int)) (p : Th Int) ⟨(l : Th (List Wlk)), (i : Th Int), u⟩ K _ _ ho h
  obtain ⟨l, rfl⟩ := th_ex l; obtain ⟨i, rfl⟩ := th_ex i
  have hl := okB (ho.1 _ (.head _))
  have hz := wlkOutTo_len l i
  refine ⟨annL [(202, 3, ⟨Nat, [⟨.tmp 5 0, some 8, .wlk⟩], fun σ k => (((σ.fg 8).t 6 (vI fun _ => (k : Int))).t 5 (vO 8 1)).row 8 1 .wlk (fun _ => wlkOutTo l i k), fun _ k _ => k ≤ l.length, fun _ k _ => l.length - k⟩)], noAnn, 20, ?_⟩
  cbv
  repeat' first | ((with_reducible refine fun (k : Nat) => ?_); cbv) | ((with_reducible intro _); cbv) | ((with_reducible show _ ∧ _); (with_reducible apply And.intro))
  all_goals try ((first | (with_reducible refine LoopIn.mk ((0 : Nat)) ?_ ?_) | (with_reducible refine LoopBack.mk ((k + 1 : Nat)) ?_ ?_ ?_)) )
  all_goals try ((with_reducible show matchSt _ _); cbv; (try simp only [and_true, true_and]))
  all_goals try (with_reducible show _ ∧ _; (repeat' (with_reducible apply And.intro)))
  all_goals first | (refine retK h ?_; clear h; simp only [fin0]) | (with_reducible refine Ob.mk ?_; clear h) | (clear h)
  all_goals (try simp only [eta0, RT.bytes] at *)
  all_goals grind [wlkOutTo_zero, wlkOutTo_all, wlkOutTo_yes, wlkOutTo_no, wrap_succ]
theorem okL2Copy : SpecOk1 Tryz.prog 169 sCloneW := spec1 tabOk (ss := []) trivial rfl rfl <| by
  intro (bs : Th (List Int)) (p : Th Int) ⟨(l : Th (List Wlk)), u⟩ K _ _ ho h
  obtain ⟨l, rfl⟩ := th_ex l
  have hl := okB (ho.1 _ (.head _))
  refine ⟨noAnn, noAnn, 20, ?_⟩
  cbv
  repeat' first | ((with_reducible intro _); cbv) | ((with_reducible show _ ∧ _); (with_reducible apply And.intro))
  all_goals first | (refine retK h ?_; clear h; simp only [fin0]) | (with_reducible refine Ob.mk ?_; clear h) | (clear h)
  all_goals (try simp only [eta0, RT.bytes] at *)
  all_goals grind
theorem okSWlkFind : SpecOk1 Tryz.prog 32 sWlkFind := spec1 tabOk (ss := []) trivial rfl rfl <| by
  intro (bs : Th (List Int)) (p : Th Int) ⟨(l : Th (List Wlk)), (i : Th Int), u⟩ K _ _ ho h
  obtain ⟨l, rfl⟩ := th_ex l; obtain ⟨i, rfl⟩ := th_ex i
  have hl := okL (ho.1 _ (.head _))
  refine ⟨annL [(32, 2, ⟨Nat, [], fun σ k => σ.t 6 (vI fun _ => (k : Int)), fun _ k _ => k ≤ l.length ∧ allTo k (nid l i) = true, fun _ k _ => l.length - k⟩)], noAnn, 20, ?_⟩
  cbv
  repeat' first | ((with_reducible refine fun (k : Nat) => ?_); cbv) | ((with_reducible intro _); cbv) | ((with_reducible show _ ∧ _); (with_reducible apply And.intro))
  all_goals try ((first | (with_reducible refine LoopIn.mk ((0 : Nat)) ?_ ?_) | (with_reducible refine LoopBack.mk ((k + 1 : Nat)) ?_ ?_ ?_)) )
  all_goals try ((with_reducible show matchSt _ _); cbv; (try simp only [and_true, true_and]))
  all_goals try (with_reducible show _ ∧ _; (repeat' (with_reducible apply And.intro)))
  all_goals first | (refine retK h ?_; clear h; simp only [fin0]) | (with_reducible refine Ob.mk ?_; clear h) | (clear h)
  all_goals (try simp only [eta0, RT.bytes] at *)
  all_goals grind [allTo_zero, allTo_succ, nid, isId, place_at, place_none, wrap_succ, wlkFind, wlkHas]

end Go.Proofs.YtfgphaokmjdcbaaGreat

/-
  Contracts: orders, parcels.
-/
namespace Go.Proofs.YtfgphaokmjdcbaaGreat
open Go.Sx Go.Proofs Go.Mo
set_option maxRecDepth 100000
set_option maxHeartbeats 8000000
set_option linter.unusedSimpArgs false
set_option linter.unusedVariables false

noncomputable def sOrdOk : Sx.Spec := ⟨false, true, [.ord], [], fun _ _ ⟨o, _⟩ => .ret (vB fun _ => ordOk (o ()), fun _ => 0)⟩
noncomputable def sPclFormed : Sx.Spec := ⟨false, true, [.row .pcl], [], fun _ _ ⟨o, _⟩ => .ret (vB fun _ => pclFormed (o ()), fun _ => 0)⟩
noncomputable def sPclOk : Sx.Spec := ⟨false, true, [.map, .row .pcl], [], fun _ _ ⟨m, o, _⟩ => .ret (vB fun _ => pclOk (m ()) (o ()), fun _ => 0)⟩
noncomputable def sPclListOk : Sx.Spec := ⟨false, true, [.map, .list .pcl, .int .i64], [], fun _ _ ⟨m, l, n, _⟩ => .ret (vB fun _ => pclListOk (m ()) (l ()) (n ()), fun _ => 0)⟩
noncomputable def sPclFrom : Sx.Spec := ⟨false, true, [.list .pcl, .int .i64], [[some .pcl]], fun _ _ ⟨l, n, _⟩ => .ret (vW .pcl fun _ => pclFrom (l ()) (n ()), fun _ => 0)⟩
theorem okOrdOk : SpecOk1 Tryz.prog 56 sOrdOk := spec1 tabOk (ss := [(55, sIn), (53, sIsWalker), (105, sIsSide)]) ⟨okIn, okIsWalker, okIsSide, trivial⟩ rfl rfl <| by
  intro (bs : Th (List Int)) (p : Th Int) ⟨(o : Th Sx.Ord), u⟩ K _ _ ho h
  obtain ⟨o, rfl⟩ := th_ex o
  refine ⟨noAnn, noAnn, 20, ?_⟩
  cbv
  repeat' first | ((with_reducible intro _); cbv) | ((with_reducible show _ ∧ _); (with_reducible apply And.intro))
  all_goals first | (refine retK h ?_; clear h; simp only [fin0]) | (with_reducible refine Ob.mk ?_; clear h) | (clear h)
  all_goals (try simp only [eta0, RT.bytes] at *)
  all_goals grind [inR, ordOk]
theorem okSOrdOk : SpecOk1 Tryz.prog 50 sOrdOk := spec1 tabOk (ss := [(47, sIn)]) ⟨okL1In, trivial⟩ rfl rfl <| by
  intro (bs : Th (List Int)) (p : Th Int) ⟨(o : Th Sx.Ord), u⟩ K _ _ ho h
  obtain ⟨o, rfl⟩ := th_ex o
  refine ⟨noAnn, noAnn, 20, ?_⟩
  cbv
  repeat' first | ((with_reducible intro _); cbv) | ((with_reducible show _ ∧ _); (with_reducible apply And.intro))
  all_goals first | (refine retK h ?_; clear h; simp only [fin0]) | (with_reducible refine Ob.mk ?_; clear h) | (clear h)
  all_goals (try simp only [eta0, RT.bytes] at *)
  all_goals grind [inR, ordOk]
theorem okPclFormed : SpecOk1 Tryz.prog 125 sPclFormed := spec1 tabOk (ss := [(55, sIn)]) ⟨okIn, trivial⟩ rfl rfl <| by
  intro (bs : Th (List Int)) (p : Th Int) ⟨(o : Th Pcl), u⟩ K _ _ ho h
  obtain ⟨o, rfl⟩ := th_ex o
  refine ⟨noAnn, noAnn, 20, ?_⟩
  cbv
  repeat' first | ((with_reducible intro _); cbv) | ((with_reducible show _ ∧ _); (with_reducible apply And.intro))
  all_goals first | (refine retK h ?_; clear h; simp only [fin0]) | (with_reducible refine Ob.mk ?_; clear h) | (clear h)
  all_goals (try simp only [eta0, RT.bytes] at *)
  all_goals grind [inR, pclFormed, zeroW]
theorem okPclOk : SpecOk1 Tryz.prog 83 sPclOk := spec1 tabOk (ss := [(57, sPlcOk), (125, sPclFormed), (126, sWlkOk)]) ⟨okPlcOk, okPclFormed, okWlkOk, trivial⟩ rfl rfl <| by
  intro (bs : Th (List Int)) (p : Th Int) ⟨(m : Th PMap), (o : Th Pcl), u⟩ K _ _ ho h
  obtain ⟨m, rfl⟩ := th_ex m; obtain ⟨o, rfl⟩ := th_ex o
  refine ⟨noAnn, noAnn, 20, ?_⟩
  cbv
  repeat' first | ((with_reducible intro _); cbv) | ((with_reducible show _ ∧ _); (with_reducible apply And.intro))
  all_goals first | (refine retK h ?_; clear h; simp only [fin0]) | (with_reducible refine Ob.mk ?_; clear h) | (clear h)
  all_goals (try simp only [eta0, RT.bytes] at *)
  all_goals grind [pclFormed, pclOk]
theorem okSPclOk : SpecOk1 Tryz.prog 51 sPclOk := spec1 tabOk (ss := [(45, sPlcOk), (47, sIn), (102, sWlkOk)]) ⟨okSPlcOk, okL1In, okSWlkOk, trivial⟩ rfl rfl <| by
  intro (bs : Th (List Int)) (p : Th Int) ⟨(m : Th PMap), (o : Th Pcl), u⟩ K _ _ ho h
  obtain ⟨m, rfl⟩ := th_ex m; obtain ⟨o, rfl⟩ := th_ex o
  refine ⟨noAnn, noAnn, 20, ?_⟩
  cbv
  repeat' first | ((with_reducible intro _); cbv) | ((with_reducible show _ ∧ _); (with_reducible apply And.intro))
  all_goals first | (refine retK h ?_; clear h; simp only [fin0]) | (with_reducible refine Ob.mk ?_; clear h) | (clear h)
  all_goals (try simp only [eta0, RT.bytes] at *)
  all_goals grind [inR, pclOk, zeroW]
theorem okSPclListOk : SpecOk1 Tryz.prog 195 sPclListOk := spec1 tabOk (ss := [(45, sPlcOk), (47, sIn), (51, sPclOk)]) ⟨okSPlcOk, okL1In, okSPclOk, trivial⟩ rfl rfl <| by
  intro (bs : Th (List Int)) (p : Th Int) ⟨(m : Th PMap), (l : Th (List Pcl)), (n : Th Int), u⟩ K _ _ ho h
  obtain ⟨m, rfl⟩ := th_ex m; obtain ⟨l, rfl⟩ := th_ex l; obtain ⟨n, rfl⟩ := th_ex n
  have hl := okL (ho.2.1 _ (.head _))
  refine ⟨annL [(195, 4, ⟨Nat, [], fun σ k => σ.t 7 (vI fun _ => (k : Int)), fun _ k _ => k ≤ l.length ∧ allTo k (pclAt m l n) = true, fun _ k _ => l.length - k⟩)], noAnn, 20, ?_⟩
  cbv
  repeat' first | ((with_reducible refine fun (k : Nat) => ?_); cbv) | ((with_reducible intro _); cbv) | ((with_reducible show _ ∧ _); (with_reducible apply And.intro))
  all_goals try ((first | (with_reducible refine LoopIn.mk ((0 : Nat)) ?_ ?_) | (with_reducible refine LoopBack.mk ((k + 1 : Nat)) ?_ ?_ ?_)) )
  all_goals try ((with_reducible show matchSt _ _); cbv; (try simp only [and_true, true_and]))
  all_goals try (with_reducible show _ ∧ _; (repeat' (with_reducible apply And.intro)))
  all_goals first | (refine retK h ?_; clear h; simp only [fin0]) | (with_reducible refine Ob.mk ?_; clear h) | (clear h)
  all_goals (try simp only [eta0, RT.bytes] at *)
  all_goals grind [inR, allTo_zero, allTo_succ, pclAt, pclListOk, pclListOk_bad, pclListOk_bad2, wrap_succ, wrap_id]
theorem okSPclFrom : SpecOk1 Tryz.prog 197 sPclFrom := spec1 tabOk (ss := []) trivial rfl rfl <| by
  intro (bs : Th (List Int)) (p : Th Int) ⟨(l : Th (List Pcl)), (i : Th Int), u⟩ K _ _ ho h
  obtain ⟨l, rfl⟩ := th_ex l; obtain ⟨i, rfl⟩ := th_ex i
  have hl := okB (ho.1 _ (.head _))
  have hz := pclFromTo_len l i
  refine ⟨annL [(197, 3, ⟨Nat, [⟨.tmp 5 0, some 8, .pcl⟩], fun σ k => (((σ.fg 8).t 6 (vI fun _ => (k : Int))).t 5 (vO 8 1)).row 8 1 .pcl (fun _ => pclFromTo l i k), fun _ k _ => k ≤ l.length, fun _ k _ => l.length - k⟩)], noAnn, 20, ?_⟩
  cbv
  repeat' first | ((with_reducible refine fun (k : Nat) => ?_); cbv) | ((with_reducible intro _); cbv) | ((with_reducible show _ ∧ _); (with_reducible apply And.intro))
  all_goals try ((first | (with_reducible refine LoopIn.mk ((0 : Nat)) ?_ ?_) | (with_reducible refine LoopBack.mk ((k + 1 : Nat)) ?_ ?_ ?_)) )
  all_goals try ((with_reducible show matchSt _ _); cbv; (try simp only [and_true, true_and]))
  all_goals try (with_reducible show _ ∧ _; (repeat' (with_reducible apply And.intro)))
  all_goals first | (refine retK h ?_; clear h; simp only [fin0]) | (with_reducible refine Ob.mk ?_; clear h) | (clear h)
  all_goals (try simp only [eta0, RT.bytes] at *)
  all_goals grind [pclFromTo_zero, pclFromTo_all, pclFromTo_yes, pclFromTo_no, wrap_succ]
end Go.Proofs.YtfgphaokmjdcbaaGreat
