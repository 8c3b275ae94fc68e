/-
  Contracts: walkers found, left out.
-/
import Derived.Test.YtgglmcbmkeefoaaGreatFnB
import Derived.Test.YtgglmcbmkeefoaaGreatM1
set_option linter.unusedVariables false
set_option linter.unusedSimpArgs false
namespace Go.Proofs.YtgglmcbmkeefoaaGreat
open Go.Sx Go.Proofs Go.Mo
set_option maxRecDepth 100000
set_option maxHeartbeats 8000000
set_option linter.unusedSimpArgs false
set_option linter.unusedVariables false

noncomputable def sWlkOut : Sx.Spec := ⟨false, true, [.list .wlk, .int .i64], [[some .wlk]], fun _ _ ⟨l, i, _⟩ => .ret (vW .wlk fun _ => wlkOut (l ()) (i ()), fun _ => 0)⟩
noncomputable def sCloneW : Sx.Spec := ⟨false, true, [.list .wlk], [[some .wlk]], fun _ _ ⟨l, _⟩ => .ret (vW .wlk fun _ => l (), fun _ => 0)⟩
noncomputable def sPlace : Sx.Spec := ⟨false, true, [.list .wlk, .int .i64], [], fun _ _ ⟨l, i, _⟩ => .ret (vI fun _ => wlkPlace (l ()) (i ()), fun _ => 0)⟩
noncomputable def sWlkFind : Sx.Spec := ⟨false, true, [.list .wlk, .int .i64], [], fun _ _ ⟨l, i, _⟩ => .ret (.tup [oWlk fun _ => wlkFind (l ()) (i ()), vB fun _ => wlkHas (l ()) (i ())], fun _ => 0)⟩

theorem okWlkOut : SpecOk1 Tryz.prog 205 sWlkOut := spec1 tabOk (ss := []) trivial rfl rfl <| by
  intro (bs : Th (List Int)) (p : Th Int) ⟨(l : Th (List Wlk)), (i : Th Int), u⟩ K _ _ ho h
  obtain ⟨l, rfl⟩ := th_ex l; obtain ⟨i, rfl⟩ := th_ex i
  have hl := okB (ho.1 _ (.head _))
  have hz := wlkOutTo_len l i
  refine ⟨annL [(205, 3, ⟨Nat, [⟨.tmp 5 0, some 22, .wlk⟩], fun σ k => ((σ.t 10 (vI fun _ => (k : Int))).t 5 (vO 22 1)).row 22 1 .wlk (fun _ => wlkOutTo l i k), fun _ k _ => k ≤ l.length, fun _ k _ => l.length - k⟩)], noAnn, 20, ?_⟩
  cbv
  repeat' first | ((with_reducible refine fun (k : Nat) => ?_); cbv) | ((with_reducible refine fun (q : Nat × Unit) => ?_); obtain ⟨s, _⟩ := q; cbv) | ((with_reducible refine fun (q : Nat × Nat) => ?_); obtain ⟨s, k⟩ := q; cbv) | ((with_reducible intro _); cbv) | ((with_reducible show _ ∧ _); (with_reducible apply And.intro))
  all_goals try ((first | (with_reducible refine LoopIn.mk ((0 : Nat)) ?_ ?_) | (with_reducible refine LoopBack.mk ((k + 1 : Nat)) ?_ ?_ ?_)) )
  all_goals try ((with_reducible show matchSt _ _); cbv; (try simp only [and_true, true_and]))
  all_goals try (with_reducible show _ ∧ _; (repeat' (with_reducible apply And.intro)))
  all_goals first | (refine retK h ?_; clear h; simp only [fin0]) | (with_reducible refine Ob.mk ?_; clear h) | (clear h)
  all_goals (try simp only [eta0, RT.bytes] at *)
  all_goals grind [wlkOutTo_zero, wlkOutTo_all, wlkOutTo_yes, wlkOutTo_no, wrap_succ]
theorem okSWlkOut : SpecOk1 Tryz.prog 153 sWlkOut := spec1 tabOk (ss := []) trivial rfl rfl <| by
  intro (bs : Th (List Int)) (p : Th Int) ⟨(l : Th (List Wlk)), (i : Th Int), u⟩ K _ _ ho h
  obtain ⟨l, rfl⟩ := th_ex l; obtain ⟨i, rfl⟩ := th_ex i
  have hl := okB (ho.1 _ (.head _))
  have hz := wlkOutTo_len l i
  refine ⟨annL [(153, 3, ⟨Nat, [⟨.tmp 5 0, some 8, .wlk⟩], fun σ k => (((σ.fg 8).t 6 (vI fun _ => (k : Int))).t 5 (vO 8 1)).row 8 1 .wlk (fun _ => wlkOutTo l i k), fun _ k _ => k ≤ l.length, fun _ k _ => l.length - k⟩)], noAnn, 20, ?_⟩
  cbv
  repeat' first | ((with_reducible refine fun (k : Nat) => ?_); cbv) | ((with_reducible refine fun (q : Nat × Unit) => ?_); obtain ⟨s, _⟩ := q; cbv) | ((with_reducible refine fun (q : Nat × Nat) => ?_); obtain ⟨s, k⟩ := q; cbv) | ((with_reducible intro _); cbv) | ((with_reducible show _ ∧ _); (with_reducible apply And.intro))
  all_goals try ((first | (with_reducible refine LoopIn.mk ((0 : Nat)) ?_ ?_) | (with_reducible refine LoopBack.mk ((k + 1 : Nat)) ?_ ?_ ?_)) )
  all_goals try ((with_reducible show matchSt _ _); cbv; (try simp only [and_true, true_and]))
  all_goals try (with_reducible show _ ∧ _; (repeat' (with_reducible apply And.intro)))
  all_goals first | (refine retK h ?_; clear h; simp only [fin0]) | (with_reducible refine Ob.mk ?_; clear h) | (clear h)
  all_goals (try simp only [eta0, RT.bytes] at *)
  all_goals grind [wlkOutTo_zero, wlkOutTo_all, wlkOutTo_yes, wlkOutTo_no, wrap_succ]
theorem okCloneW : SpecOk1 Tryz.prog 181 sCloneW := spec1 tabOk (ss := []) trivial rfl rfl <| by
  intro (bs : Th (List Int)) (p : Th Int) ⟨(l : Th (List Wlk)), u⟩ K _ _ ho h
  obtain ⟨l, rfl⟩ := th_ex l
  have hl := okB (ho.1 _ (.head _))
  refine ⟨noAnn, noAnn, 20, ?_⟩
  cbv
  repeat' first | ((with_reducible refine fun (k : Nat) => ?_); cbv) | ((with_reducible refine fun (q : Nat × Unit) => ?_); obtain ⟨s, _⟩ := q; cbv) | ((with_reducible refine fun (q : Nat × Nat) => ?_); obtain ⟨s, k⟩ := q; cbv) | ((with_reducible intro _); cbv) | ((with_reducible show _ ∧ _); (with_reducible apply And.intro))
  all_goals first | (refine retK h ?_; clear h; simp only [fin0]) | (with_reducible refine Ob.mk ?_; clear h) | (clear h)
  all_goals (try simp only [eta0, RT.bytes] at *)
  all_goals grind
theorem okL2Copy : SpecOk1 Tryz.prog 227 sCloneW := spec1 tabOk (ss := []) trivial rfl rfl <| by
  intro (bs : Th (List Int)) (p : Th Int) ⟨(l : Th (List Wlk)), u⟩ K _ _ ho h
  obtain ⟨l, rfl⟩ := th_ex l
  have hl := okB (ho.1 _ (.head _))
  refine ⟨noAnn, noAnn, 20, ?_⟩
  cbv
  repeat' first | ((with_reducible refine fun (k : Nat) => ?_); cbv) | ((with_reducible refine fun (q : Nat × Unit) => ?_); obtain ⟨s, _⟩ := q; cbv) | ((with_reducible refine fun (q : Nat × Nat) => ?_); obtain ⟨s, k⟩ := q; cbv) | ((with_reducible intro _); cbv) | ((with_reducible show _ ∧ _); (with_reducible apply And.intro))
  all_goals first | (refine retK h ?_; clear h; simp only [fin0]) | (with_reducible refine Ob.mk ?_; clear h) | (clear h)
  all_goals (try simp only [eta0, RT.bytes] at *)
  all_goals grind
theorem okPlace : SpecOk1 Tryz.prog 203 sPlace := spec1 tabOk (ss := []) trivial rfl rfl <| by
  intro (bs : Th (List Int)) (p : Th Int) ⟨(l : Th (List Wlk)), (i : Th Int), u⟩ K _ _ ho h
  obtain ⟨l, rfl⟩ := th_ex l; obtain ⟨i, rfl⟩ := th_ex i
  have hl := okL (ho.1 _ (.head _))
  refine ⟨annL [(221, 2, ⟨Nat, [], fun σ k => σ.t 8 (vI fun _ => (k : Int)), fun _ k _ => k ≤ l.length ∧ allTo k (nid l i) = true, fun _ k _ => l.length - k⟩)], noAnn, 20, ?_⟩
  cbv
  repeat' first | ((with_reducible refine fun (k : Nat) => ?_); cbv) | ((with_reducible refine fun (q : Nat × Unit) => ?_); obtain ⟨s, _⟩ := q; cbv) | ((with_reducible refine fun (q : Nat × Nat) => ?_); obtain ⟨s, k⟩ := q; cbv) | ((with_reducible intro _); cbv) | ((with_reducible show _ ∧ _); (with_reducible apply And.intro))
  all_goals try ((first | (with_reducible refine LoopIn.mk ((0 : Nat)) ?_ ?_) | (with_reducible refine LoopBack.mk ((k + 1 : Nat)) ?_ ?_ ?_)) )
  all_goals try ((with_reducible show matchSt _ _); cbv; (try simp only [and_true, true_and]))
  all_goals try (with_reducible show _ ∧ _; (repeat' (with_reducible apply And.intro)))
  all_goals first | (refine retK h ?_; clear h; simp only [fin0]) | (with_reducible refine Ob.mk ?_; clear h) | (clear h)
  all_goals (try simp only [eta0, RT.bytes] at *)
  all_goals grind [allTo_zero, allTo_succ, nid, isId, place_at, place_none, wrap_succ]
theorem okWlkFind : SpecOk1 Tryz.prog 202 sWlkFind := spec1 tabOk (ss := [(203, sPlace)]) ⟨okPlace, trivial⟩ rfl rfl <| by
  intro (bs : Th (List Int)) (p : Th Int) ⟨(l : Th (List Wlk)), (i : Th Int), u⟩ K _ _ ho h
  obtain ⟨l, rfl⟩ := th_ex l; obtain ⟨i, rfl⟩ := th_ex i
  have hp := place_lt l i
  refine ⟨noAnn, noAnn, 20, ?_⟩
  cbv
  repeat' first | ((with_reducible refine fun (k : Nat) => ?_); cbv) | ((with_reducible refine fun (q : Nat × Unit) => ?_); obtain ⟨s, _⟩ := q; cbv) | ((with_reducible refine fun (q : Nat × Nat) => ?_); obtain ⟨s, k⟩ := q; cbv) | ((with_reducible intro _); cbv) | ((with_reducible show _ ∧ _); (with_reducible apply And.intro))
  all_goals first | (refine retK h ?_; clear h; simp only [fin0]) | (with_reducible refine Ob.mk ?_; clear h) | (clear h)
  all_goals (try simp only [eta0, RT.bytes] at *)
  all_goals grind [wlkFind, wlkHas]
theorem okSWlkFind : SpecOk1 Tryz.prog 243 sWlkFind := spec1 tabOk (ss := []) trivial rfl rfl <| by
  intro (bs : Th (List Int)) (p : Th Int) ⟨(l : Th (List Wlk)), (i : Th Int), u⟩ K _ _ ho h
  obtain ⟨l, rfl⟩ := th_ex l; obtain ⟨i, rfl⟩ := th_ex i
  have hl := okL (ho.1 _ (.head _))
  refine ⟨annL [(243, 2, ⟨Nat, [], fun σ k => σ.t 6 (vI fun _ => (k : Int)), fun _ k _ => k ≤ l.length ∧ allTo k (nid l i) = true, fun _ k _ => l.length - k⟩)], noAnn, 20, ?_⟩
  cbv
  repeat' first | ((with_reducible refine fun (k : Nat) => ?_); cbv) | ((with_reducible refine fun (q : Nat × Unit) => ?_); obtain ⟨s, _⟩ := q; cbv) | ((with_reducible refine fun (q : Nat × Nat) => ?_); obtain ⟨s, k⟩ := q; cbv) | ((with_reducible intro _); cbv) | ((with_reducible show _ ∧ _); (with_reducible apply And.intro))
  all_goals try ((first | (with_reducible refine LoopIn.mk ((0 : Nat)) ?_ ?_) | (with_reducible refine LoopBack.mk ((k + 1 : Nat)) ?_ ?_ ?_)) )
  all_goals try ((with_reducible show matchSt _ _); cbv; (try simp only [and_true, true_and]))
  all_goals try (with_reducible show _ ∧ _; (repeat' (with_reducible apply And.intro)))
  all_goals first | (refine retK h ?_; clear h; simp only [fin0]) | (with_reducible refine Ob.mk ?_; clear h) | (clear h)
  all_goals (try simp only [eta0, RT.bytes] at *)
  all_goals grind [allTo_zero, allTo_succ, nid, isId, place_at, place_none, wrap_succ, wlkFind, wlkHas]

end Go.Proofs.YtgglmcbmkeefoaaGreat

/-
  Contracts: orders, parcels.
-/
namespace Go.Proofs.YtgglmcbmkeefoaaGreat
open Go.Sx Go.Proofs Go.Mo
set_option maxRecDepth 100000
set_option maxHeartbeats 8000000
set_option linter.unusedSimpArgs false
set_option linter.unusedVariables false

noncomputable def sOrdOk : Sx.Spec := ⟨false, true, [.ord], [], fun _ _ ⟨o, _⟩ => .ret (vB fun _ => ordOk (o ()), fun _ => 0)⟩
noncomputable def sPclFormed : Sx.Spec := ⟨false, true, [.row .pcl], [], fun _ _ ⟨o, _⟩ => .ret (vB fun _ => pclFormed (o ()), fun _ => 0)⟩
noncomputable def sPclOk : Sx.Spec := ⟨false, true, [.map, .row .pcl], [], fun _ _ ⟨m, o, _⟩ => .ret (vB fun _ => pclOk (m ()) (o ()), fun _ => 0)⟩
noncomputable def sPclListOk : Sx.Spec := ⟨false, true, [.map, .list .pcl, .int .i64], [], fun _ _ ⟨m, l, n, _⟩ => .ret (vB fun _ => pclListOk (m ()) (l ()) (n ()), fun _ => 0)⟩
noncomputable def sPclFrom : Sx.Spec := ⟨false, true, [.list .pcl, .int .i64], [[some .pcl]], fun _ _ ⟨l, n, _⟩ => .ret (vW .pcl fun _ => pclFrom (l ()) (n ()), fun _ => 0)⟩
noncomputable def sCloneP : Sx.Spec := ⟨false, true, [.list .pcl], [[some .pcl]], fun _ _ ⟨l, _⟩ => .ret (vW .pcl fun _ => l (), fun _ => 0)⟩

theorem okOrdOk : SpecOk1 Tryz.prog 59 sOrdOk := spec1 tabOk (ss := [(58, sIn), (56, sIsWalker), (105, sIsSide)]) ⟨okIn, okIsWalker, okIsSide, trivial⟩ rfl rfl <| by
  intro (bs : Th (List Int)) (p : Th Int) ⟨(o : Th Sx.Ord), u⟩ K _ _ ho h
  obtain ⟨o, rfl⟩ := th_ex o
  refine ⟨noAnn, noAnn, 20, ?_⟩
  cbv
  repeat' first | ((with_reducible refine fun (k : Nat) => ?_); cbv) | ((with_reducible refine fun (q : Nat × Unit) => ?_); obtain ⟨s, _⟩ := q; cbv) | ((with_reducible refine fun (q : Nat × Nat) => ?_); obtain ⟨s, k⟩ := q; cbv) | ((with_reducible intro _); cbv) | ((with_reducible show _ ∧ _); (with_reducible apply And.intro))
  all_goals first | (refine retK h ?_; clear h; simp only [fin0]) | (with_reducible refine Ob.mk ?_; clear h) | (clear h)
  all_goals (try simp only [eta0, RT.bytes] at *)
  all_goals grind [inR, ordOk]
theorem okSOrdOk : SpecOk1 Tryz.prog 46 sOrdOk := spec1 tabOk (ss := [(66, sIn)]) ⟨okL1In, trivial⟩ rfl rfl <| by
  intro (bs : Th (List Int)) (p : Th Int) ⟨(o : Th Sx.Ord), u⟩ K _ _ ho h
  obtain ⟨o, rfl⟩ := th_ex o
  refine ⟨noAnn, noAnn, 20, ?_⟩
  cbv
  repeat' first | ((with_reducible refine fun (k : Nat) => ?_); cbv) | ((with_reducible refine fun (q : Nat × Unit) => ?_); obtain ⟨s, _⟩ := q; cbv) | ((with_reducible refine fun (q : Nat × Nat) => ?_); obtain ⟨s, k⟩ := q; cbv) | ((with_reducible intro _); cbv) | ((with_reducible show _ ∧ _); (with_reducible apply And.intro))
  all_goals first | (refine retK h ?_; clear h; simp only [fin0]) | (with_reducible refine Ob.mk ?_; clear h) | (clear h)
  all_goals (try simp only [eta0, RT.bytes] at *)
  all_goals grind [inR, ordOk]
theorem okPclFormed : SpecOk1 Tryz.prog 151 sPclFormed := spec1 tabOk (ss := [(58, sIn)]) ⟨okIn, trivial⟩ rfl rfl <| by
  intro (bs : Th (List Int)) (p : Th Int) ⟨(o : Th Pcl), u⟩ K _ _ ho h
  obtain ⟨o, rfl⟩ := th_ex o
  refine ⟨noAnn, noAnn, 20, ?_⟩
  cbv
  repeat' first | ((with_reducible refine fun (k : Nat) => ?_); cbv) | ((with_reducible refine fun (q : Nat × Unit) => ?_); obtain ⟨s, _⟩ := q; cbv) | ((with_reducible refine fun (q : Nat × Nat) => ?_); obtain ⟨s, k⟩ := q; cbv) | ((with_reducible intro _); cbv) | ((with_reducible show _ ∧ _); (with_reducible apply And.intro))
  all_goals first | (refine retK h ?_; clear h; simp only [fin0]) | (with_reducible refine Ob.mk ?_; clear h) | (clear h)
  all_goals (try simp only [eta0, RT.bytes] at *)
  all_goals grind [inR, pclFormed, zeroW]
theorem okPclOk : SpecOk1 Tryz.prog 119 sPclOk := spec1 tabOk (ss := [(60, sPlcOk), (151, sPclFormed), (126, sWlkOk)]) ⟨okPlcOk, okPclFormed, okWlkOk, trivial⟩ rfl rfl <| by
  intro (bs : Th (List Int)) (p : Th Int) ⟨(m : Th PMap), (o : Th Pcl), u⟩ K _ _ ho h
  obtain ⟨m, rfl⟩ := th_ex m; obtain ⟨o, rfl⟩ := th_ex o
  refine ⟨noAnn, noAnn, 20, ?_⟩
  cbv
  repeat' first | ((with_reducible refine fun (k : Nat) => ?_); cbv) | ((with_reducible refine fun (q : Nat × Unit) => ?_); obtain ⟨s, _⟩ := q; cbv) | ((with_reducible refine fun (q : Nat × Nat) => ?_); obtain ⟨s, k⟩ := q; cbv) | ((with_reducible intro _); cbv) | ((with_reducible show _ ∧ _); (with_reducible apply And.intro))
  all_goals first | (refine retK h ?_; clear h; simp only [fin0]) | (with_reducible refine Ob.mk ?_; clear h) | (clear h)
  all_goals (try simp only [eta0, RT.bytes] at *)
  all_goals grind [pclFormed, pclOk]
theorem okSPclOk : SpecOk1 Tryz.prog 69 sPclOk := spec1 tabOk (ss := [(25, sPlcOk), (66, sIn), (86, sWlkOk)]) ⟨okSPlcOk, okL1In, okSWlkOk, trivial⟩ rfl rfl <| by
  intro (bs : Th (List Int)) (p : Th Int) ⟨(m : Th PMap), (o : Th Pcl), u⟩ K _ _ ho h
  obtain ⟨m, rfl⟩ := th_ex m; obtain ⟨o, rfl⟩ := th_ex o
  refine ⟨noAnn, noAnn, 20, ?_⟩
  cbv
  repeat' first | ((with_reducible refine fun (k : Nat) => ?_); cbv) | ((with_reducible refine fun (q : Nat × Unit) => ?_); obtain ⟨s, _⟩ := q; cbv) | ((with_reducible refine fun (q : Nat × Nat) => ?_); obtain ⟨s, k⟩ := q; cbv) | ((with_reducible intro _); cbv) | ((with_reducible show _ ∧ _); (with_reducible apply And.intro))
  all_goals first | (refine retK h ?_; clear h; simp only [fin0]) | (with_reducible refine Ob.mk ?_; clear h) | (clear h)
  all_goals (try simp only [eta0, RT.bytes] at *)
  all_goals grind [inR, pclOk, zeroW]
theorem okPclListOk : SpecOk1 Tryz.prog 189 sPclListOk := spec1 tabOk (ss := [(60, sPlcOk), (58, sIn), (119, sPclOk)]) ⟨okPlcOk, okIn, okPclOk, trivial⟩ rfl rfl <| by
  intro (bs : Th (List Int)) (p : Th Int) ⟨(m : Th PMap), (l : Th (List Pcl)), (n : Th Int), u⟩ K _ _ ho h
  obtain ⟨m, rfl⟩ := th_ex m; obtain ⟨l, rfl⟩ := th_ex l; obtain ⟨n, rfl⟩ := th_ex n
  have hl := okL (ho.2.1 _ (.head _))
  refine ⟨annL [(189, 4, ⟨Nat, [], fun σ k => σ.t 25 (vI fun _ => (k : Int)), fun _ k _ => k ≤ l.length ∧ allTo k (pclAt m l n) = true, fun _ k _ => l.length - k⟩)], noAnn, 20, ?_⟩
  cbv
  repeat' first | ((with_reducible refine fun (k : Nat) => ?_); cbv) | ((with_reducible refine fun (q : Nat × Unit) => ?_); obtain ⟨s, _⟩ := q; cbv) | ((with_reducible refine fun (q : Nat × Nat) => ?_); obtain ⟨s, k⟩ := q; cbv) | ((with_reducible intro _); cbv) | ((with_reducible show _ ∧ _); (with_reducible apply And.intro))
  all_goals try ((first | (with_reducible refine LoopIn.mk ((0 : Nat)) ?_ ?_) | (with_reducible refine LoopBack.mk ((k + 1 : Nat)) ?_ ?_ ?_)) )
  all_goals try ((with_reducible show matchSt _ _); cbv; (try simp only [and_true, true_and]))
  all_goals try (with_reducible show _ ∧ _; (repeat' (with_reducible apply And.intro)))
  all_goals first | (refine retK h ?_; clear h; simp only [fin0]) | (with_reducible refine Ob.mk ?_; clear h) | (clear h)
  all_goals (try simp only [eta0, RT.bytes] at *)
  all_goals grind [inR, allTo_zero, allTo_succ, pclAt, pclListOk, pclListOk_bad, pclListOk_bad2, wrap_succ, wrap_id]
theorem okSPclListOk : SpecOk1 Tryz.prog 180 sPclListOk := spec1 tabOk (ss := [(25, sPlcOk), (66, sIn), (69, sPclOk)]) ⟨okSPlcOk, okL1In, okSPclOk, trivial⟩ rfl rfl <| by
  intro (bs : Th (List Int)) (p : Th Int) ⟨(m : Th PMap), (l : Th (List Pcl)), (n : Th Int), u⟩ K _ _ ho h
  obtain ⟨m, rfl⟩ := th_ex m; obtain ⟨l, rfl⟩ := th_ex l; obtain ⟨n, rfl⟩ := th_ex n
  have hl := okL (ho.2.1 _ (.head _))
  refine ⟨annL [(180, 4, ⟨Nat, [], fun σ k => σ.t 7 (vI fun _ => (k : Int)), fun _ k _ => k ≤ l.length ∧ allTo k (pclAt m l n) = true, fun _ k _ => l.length - k⟩)], noAnn, 20, ?_⟩
  cbv
  repeat' first | ((with_reducible refine fun (k : Nat) => ?_); cbv) | ((with_reducible refine fun (q : Nat × Unit) => ?_); obtain ⟨s, _⟩ := q; cbv) | ((with_reducible refine fun (q : Nat × Nat) => ?_); obtain ⟨s, k⟩ := q; cbv) | ((with_reducible intro _); cbv) | ((with_reducible show _ ∧ _); (with_reducible apply And.intro))
  all_goals try ((first | (with_reducible refine LoopIn.mk ((0 : Nat)) ?_ ?_) | (with_reducible refine LoopBack.mk ((k + 1 : Nat)) ?_ ?_ ?_)) )
  all_goals try ((with_reducible show matchSt _ _); cbv; (try simp only [and_true, true_and]))
  all_goals try (with_reducible show _ ∧ _; (repeat' (with_reducible apply And.intro)))
  all_goals first | (refine retK h ?_; clear h; simp only [fin0]) | (with_reducible refine Ob.mk ?_; clear h) | (clear h)
  all_goals (try simp only [eta0, RT.bytes] at *)
  all_goals grind [inR, allTo_zero, allTo_succ, pclAt, pclListOk, pclListOk_bad, pclListOk_bad2, wrap_succ, wrap_id]
theorem okPclFrom : SpecOk1 Tryz.prog 89 sPclFrom := spec1 tabOk (ss := []) trivial rfl rfl <| by
  intro (bs : Th (List Int)) (p : Th Int) ⟨(l : Th (List Pcl)), (i : Th Int), u⟩ K _ _ ho h
  obtain ⟨l, rfl⟩ := th_ex l; obtain ⟨i, rfl⟩ := th_ex i
  have hl := okB (ho.1 _ (.head _))
  have hz := pclFromTo_len l i
  refine ⟨annL [(89, 3, ⟨Nat, [⟨.tmp 5 0, some 22, .pcl⟩], fun σ k => ((σ.t 10 (vI fun _ => (k : Int))).t 5 (vO 22 1)).row 22 1 .pcl (fun _ => pclFromTo l i k), fun _ k _ => k ≤ l.length, fun _ k _ => l.length - k⟩)], noAnn, 20, ?_⟩
  cbv
  repeat' first | ((with_reducible refine fun (k : Nat) => ?_); cbv) | ((with_reducible refine fun (q : Nat × Unit) => ?_); obtain ⟨s, _⟩ := q; cbv) | ((with_reducible refine fun (q : Nat × Nat) => ?_); obtain ⟨s, k⟩ := q; cbv) | ((with_reducible intro _); cbv) | ((with_reducible show _ ∧ _); (with_reducible apply And.intro))
  all_goals try ((first | (with_reducible refine LoopIn.mk ((0 : Nat)) ?_ ?_) | (with_reducible refine LoopBack.mk ((k + 1 : Nat)) ?_ ?_ ?_)) )
  all_goals try ((with_reducible show matchSt _ _); cbv; (try simp only [and_true, true_and]))
  all_goals try (with_reducible show _ ∧ _; (repeat' (with_reducible apply And.intro)))
  all_goals first | (refine retK h ?_; clear h; simp only [fin0]) | (with_reducible refine Ob.mk ?_; clear h) | (clear h)
  all_goals (try simp only [eta0, RT.bytes] at *)
  all_goals grind [pclFromTo_zero, pclFromTo_all, pclFromTo_yes, pclFromTo_no, wrap_succ]
theorem okSPclFrom : SpecOk1 Tryz.prog 198 sPclFrom := spec1 tabOk (ss := []) trivial rfl rfl <| by
  intro (bs : Th (List Int)) (p : Th Int) ⟨(l : Th (List Pcl)), (i : Th Int), u⟩ K _ _ ho h
  obtain ⟨l, rfl⟩ := th_ex l; obtain ⟨i, rfl⟩ := th_ex i
  have hl := okB (ho.1 _ (.head _))
  have hz := pclFromTo_len l i
  refine ⟨annL [(198, 3, ⟨Nat, [⟨.tmp 5 0, some 8, .pcl⟩], fun σ k => (((σ.fg 8).t 6 (vI fun _ => (k : Int))).t 5 (vO 8 1)).row 8 1 .pcl (fun _ => pclFromTo l i k), fun _ k _ => k ≤ l.length, fun _ k _ => l.length - k⟩)], noAnn, 20, ?_⟩
  cbv
  repeat' first | ((with_reducible refine fun (k : Nat) => ?_); cbv) | ((with_reducible refine fun (q : Nat × Unit) => ?_); obtain ⟨s, _⟩ := q; cbv) | ((with_reducible refine fun (q : Nat × Nat) => ?_); obtain ⟨s, k⟩ := q; cbv) | ((with_reducible intro _); cbv) | ((with_reducible show _ ∧ _); (with_reducible apply And.intro))
  all_goals try ((first | (with_reducible refine LoopIn.mk ((0 : Nat)) ?_ ?_) | (with_reducible refine LoopBack.mk ((k + 1 : Nat)) ?_ ?_ ?_)) )
  all_goals try ((with_reducible show matchSt _ _); cbv; (try simp only [and_true, true_and]))
  all_goals try (with_reducible show _ ∧ _; (repeat' (with_reducible apply And.intro)))
  all_goals first | (refine retK h ?_; clear h; simp only [fin0]) | (with_reducible refine Ob.mk ?_; clear h) | (clear h)
  all_goals (try simp only [eta0, RT.bytes] at *)
  all_goals grind [pclFromTo_zero, pclFromTo_all, pclFromTo_yes, pclFromTo_no, wrap_succ]
theorem okCloneP : SpecOk1 Tryz.prog 182 sCloneP := spec1 tabOk (ss := []) trivial rfl rfl <| by
  intro (bs : Th (List Int)) (p : Th Int) ⟨(l : Th (List Pcl)), u⟩ K _ _ ho h
  obtain ⟨l, rfl⟩ := th_ex l
  have hl := okB (ho.1 _ (.head _))
  refine ⟨noAnn, noAnn, 20, ?_⟩
  cbv
  repeat' first | ((with_reducible refine fun (k : Nat) => ?_); cbv) | ((with_reducible refine fun (q : Nat × Unit) => ?_); obtain ⟨s, _⟩ := q; cbv) | ((with_reducible refine fun (q : Nat × Nat) => ?_); obtain ⟨s, k⟩ := q; cbv) | ((with_reducible intro _); cbv) | ((with_reducible show _ ∧ _); (with_reducible apply And.intro))
  all_goals first | (refine retK h ?_; clear h; simp only [fin0]) | (with_reducible refine Ob.mk ?_; clear h) | (clear h)
  all_goals (try simp only [eta0, RT.bytes] at *)
  all_goals grind

end Go.Proofs.YtgglmcbmkeefoaaGreat
