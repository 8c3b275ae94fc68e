/-
  Contracts: messages, the book.
-/
import Derived.Test.YtfgphaokmjdcbaaGreatGnA
import Derived.Test.YtfgphaokmjdcbaaGreatFoT
import Derived.Test.YtfgphaokmjdcbaaGreatInsW
set_option linter.unusedVariables false
set_option linter.unusedSimpArgs false
namespace Go.Proofs.YtfgphaokmjdcbaaGreat
open Go.Sx Go.Proofs Go.Mo
set_option maxRecDepth 100000
set_option maxHeartbeats 8000000
set_option linter.unusedSimpArgs false
set_option linter.unusedVariables false

noncomputable def sRowOk : Sx.Spec := ⟨false, true, [.map, .row .row], [], fun _ _ ⟨m, r, _⟩ => .asrt (fun _ => plcOk (m ()) = true) (.ret (vB fun _ => rowOk (m ()) (r ()), fun _ => 0))⟩
noncomputable def sGwyOk : Sx.Spec := ⟨false, true, [.map, .book], [], fun _ _ ⟨m, l, _⟩ => .ret (vB fun _ => gwyOk (m ()) (l ()), fun _ => 0)⟩
noncomputable def sRowPlace : Sx.Spec := ⟨false, true, [.book, .int .i64], [], fun _ _ ⟨l, w, _⟩ => .ret (vI fun _ => rowPlace (l ()) (w ()), fun _ => 0)⟩
noncomputable def sCloneB : Sx.Spec := ⟨false, true, [.book], [[some .row]], fun _ _ ⟨l, _⟩ => .ret (oAs [.list .row l], fun _ => 0)⟩
noncomputable def sGwyAsk : Sx.Spec := ⟨false, true, [.map, .book, .int .i64, .int .i64, .int .i64, .int .i64], [[some .row], [none]], fun _ _ ⟨m, l, w, k, d, n, _⟩ => .ret (.tup [oAs [.list .row fun _ => (gwyAskX (m ()) (l ()) (w ()) (k ()) (d ()) (n ())).b], vB fun _ => (gwyAskX (m ()) (l ()) (w ()) (k ()) (d ()) (n ())).ok], fun _ => 0)⟩

theorem okL12Row : SpecOk1 Tryz.prog 46 sRowOk := spec1 tabOk (ss := [(47, sIn), (50, sOrdOk)]) ⟨okL1In, okSOrdOk, trivial⟩ rfl rfl <| by
  intro (bs : Th (List Int)) (p : Th Int) ⟨(m : Th PMap), (r : Th Row), u⟩ K _ _ ho h
  obtain ⟨m, rfl⟩ := th_ex m; obtain ⟨r, rfl⟩ := th_ex r
  obtain ⟨ha, h⟩ := h
  have ha := ha.out
  refine ⟨noAnn, noAnn, 20, ?_⟩
  cbv
  repeat' first | ((with_reducible intro _); cbv) | ((with_reducible show _ ∧ _); (with_reducible apply And.intro))
  all_goals first | (refine retK h ?_; clear h; simp only [fin0]) | (with_reducible refine Ob.mk ?_; clear h) | (clear h)
  all_goals (try simp only [eta0, RT.bytes] at *)
  all_goals grind (splits := 20) [rowOk, inR, zeroO, wrap_id, plcOk]
theorem okGwyOk : SpecOk1 Tryz.prog 16 sGwyOk := spec1 tabOk (ss := [(53, sIsWalker), (55, sIn), (56, sOrdOk), (57, sPlcOk)]) ⟨okIsWalker, okIn, okOrdOk, okPlcOk, trivial⟩ rfl rfl <| by
  intro (bs : Th (List Int)) (p : Th Int) ⟨(m : Th PMap), (l : Th (List Row)), u⟩ K _ _ ho h
  obtain ⟨m, rfl⟩ := th_ex m; obtain ⟨l, rfl⟩ := th_ex l
  have hl := okL (ho.2.1 _ (.head _))
  refine ⟨annL [(16, 2, ⟨Nat, [], fun σ k => σ.t 10 (vI fun _ => (k : Int)), fun _ k _ => k ≤ l.length ∧ (plcOk m = true → allTo k (gwRowAt m l) = true), fun _ k _ => l.length - k⟩)], noAnn, 20, ?_⟩
  cbv
  repeat' first | ((with_reducible refine fun (k : Nat) => ?_); cbv) | ((with_reducible intro _); cbv) | ((with_reducible show _ ∧ _); (with_reducible apply And.intro))
  all_goals try ((first | (with_reducible refine LoopIn.mk ((0 : Nat)) ?_ ?_) | (with_reducible refine LoopBack.mk ((k + 1 : Nat)) ?_ ?_ ?_)) )
  all_goals try ((with_reducible show matchSt _ _); cbv; (try simp only [and_true, true_and]))
  all_goals try (with_reducible show _ ∧ _; (repeat' (with_reducible apply And.intro)))
  all_goals first | (refine retK h ?_; clear h; simp only [fin0]) | (with_reducible refine Ob.mk ?_; clear h) | (clear h)
  all_goals (try simp only [eta0, RT.bytes] at *)
  all_goals (try have hwp : IntKind.i64.wrap ((k : Int) - 1) = ((k - 1 : Nat) : Int) := wrap_pred (by omega) (by omega))
  all_goals (try simp only [hwp, Int.toNat_natCast] at *)
  all_goals (by_cases hpo : plcOk m = true)
  all_goals grind (splits := 20) [plcOk, wrap_succ, wrap_id, gwy_bad1, gwy_bad2, gwy_all, gwyOk, gwRowAt, rowOk, zeroO, allTo_zero, allTo_succ, inR]
theorem okSGwyOk : SpecOk1 Tryz.prog 14 sGwyOk := spec1 tabOk (ss := [(45, sPlcOk), (46, sRowOk)]) ⟨okSPlcOk, okL12Row, trivial⟩ rfl rfl <| by
  intro (bs : Th (List Int)) (p : Th Int) ⟨(m : Th PMap), (l : Th (List Row)), u⟩ K _ _ ho h
  obtain ⟨m, rfl⟩ := th_ex m; obtain ⟨l, rfl⟩ := th_ex l
  have hl := okL (ho.2.1 _ (.head _))
  refine ⟨annL [(14, 4, ⟨Nat, [], fun σ k => σ.t 5 (vI fun _ => (k : Int)), fun _ k _ => k ≤ l.length ∧ plcOk m = true ∧ allTo k (gwRowAt m l) = true, fun _ k _ => l.length - k⟩)], noAnn, 20, ?_⟩
  cbv
  repeat' first | ((with_reducible refine fun (k : Nat) => ?_); cbv) | ((with_reducible intro _); cbv) | ((with_reducible show _ ∧ _); (with_reducible apply And.intro))
  all_goals try ((first | (with_reducible refine LoopIn.mk ((0 : Nat)) ?_ ?_) | (with_reducible refine LoopBack.mk ((k + 1 : Nat)) ?_ ?_ ?_)) )
  all_goals try ((with_reducible show matchSt _ _); cbv; (try simp only [and_true, true_and]))
  all_goals try (with_reducible show _ ∧ _; (repeat' (with_reducible apply And.intro)))
  all_goals first | (refine retK h ?_; clear h; simp only [fin0]) | (with_reducible refine Ob.mk ?_; clear h) | (clear h)
  all_goals (try simp only [eta0, RT.bytes] at *)
  all_goals grind [wrap_succ, wrap_id, gwy_bad1, gwy_bad2, gwy_all, gwyOk, gwRowAt, allTo_zero, allTo_succ]
theorem okRow : SpecOk1 Tryz.prog 101 sRowPlace := spec1 tabOk (ss := []) trivial rfl rfl <| by
  intro (bs : Th (List Int)) (p : Th Int) ⟨(l : Th (List Row)), (w : Th Int), u⟩ K _ _ ho h
  obtain ⟨l, rfl⟩ := th_ex l; obtain ⟨w, rfl⟩ := th_ex w
  have hl := okL (ho.1 _ (.head _))
  refine ⟨annL [(148, 2, ⟨Nat, [], fun σ k => σ.t 8 (vI fun _ => (k : Int)), fun _ k _ => k ≤ l.length ∧ allTo k (nwho l w) = true, fun _ k _ => l.length - k⟩)], noAnn, 20, ?_⟩
  cbv
  repeat' first | ((with_reducible refine fun (k : Nat) => ?_); cbv) | ((with_reducible intro _); cbv) | ((with_reducible show _ ∧ _); (with_reducible apply And.intro))
  all_goals try ((first | (with_reducible refine LoopIn.mk ((0 : Nat)) ?_ ?_) | (with_reducible refine LoopBack.mk ((k + 1 : Nat)) ?_ ?_ ?_)) )
  all_goals try ((with_reducible show matchSt _ _); cbv; (try simp only [and_true, true_and]))
  all_goals try (with_reducible show _ ∧ _; (repeat' (with_reducible apply And.intro)))
  all_goals first | (refine retK h ?_; clear h; simp only [fin0]) | (with_reducible refine Ob.mk ?_; clear h) | (clear h)
  all_goals (try simp only [eta0, RT.bytes] at *)
  all_goals grind [allTo_zero, allTo_succ, nwho, isWho, row_at, row_none, wrap_succ]
theorem okL12At : SpecOk1 Tryz.prog 44 sRowPlace := spec1 tabOk (ss := []) trivial rfl rfl <| by
  intro (bs : Th (List Int)) (p : Th Int) ⟨(l : Th (List Row)), (w : Th Int), u⟩ K _ _ ho h
  obtain ⟨l, rfl⟩ := th_ex l; obtain ⟨w, rfl⟩ := th_ex w
  have hl := okL (ho.1 _ (.head _))
  refine ⟨annL [(44, 2, ⟨Nat, [], fun σ k => σ.t 5 (vI fun _ => (k : Int)), fun _ k _ => k ≤ l.length ∧ allTo k (nwho l w) = true, fun _ k _ => l.length - k⟩)], noAnn, 20, ?_⟩
  cbv
  repeat' first | ((with_reducible refine fun (k : Nat) => ?_); cbv) | ((with_reducible intro _); cbv) | ((with_reducible show _ ∧ _); (with_reducible apply And.intro))
  all_goals try ((first | (with_reducible refine LoopIn.mk ((0 : Nat)) ?_ ?_) | (with_reducible refine LoopBack.mk ((k + 1 : Nat)) ?_ ?_ ?_)) )
  all_goals try ((with_reducible show matchSt _ _); cbv; (try simp only [and_true, true_and]))
  all_goals try (with_reducible show _ ∧ _; (repeat' (with_reducible apply And.intro)))
  all_goals first | (refine retK h ?_; clear h; simp only [fin0]) | (with_reducible refine Ob.mk ?_; clear h) | (clear h)
  all_goals (try simp only [eta0, RT.bytes] at *)
  all_goals grind [allTo_zero, allTo_succ, nwho, isWho, row_at, row_none, wrap_succ]
theorem okCloneB : SpecOk1 Tryz.prog 41 sCloneB := spec1 tabOk (ss := []) trivial rfl rfl <| by
  intro (bs : Th (List Int)) (p : Th Int) ⟨(l : Th (List Row)), u⟩ K _ _ ho h
  obtain ⟨l, rfl⟩ := th_ex l
  have hl := okB (ho.1 _ (.head _))
  refine ⟨noAnn, noAnn, 20, ?_⟩
  cbv
  repeat' first | ((with_reducible intro _); cbv) | ((with_reducible show _ ∧ _); (with_reducible apply And.intro))
  all_goals first | (refine retK h ?_; clear h; simp only [fin0]) | (with_reducible refine Ob.mk ?_; clear h) | (clear h)
  all_goals (try simp only [eta0, RT.bytes] at *)
  all_goals grind
theorem okL12Copy : SpecOk1 Tryz.prog 43 sCloneB := spec1 tabOk (ss := []) trivial rfl rfl <| by
  intro (bs : Th (List Int)) (p : Th Int) ⟨(l : Th (List Row)), u⟩ K _ _ ho h
  obtain ⟨l, rfl⟩ := th_ex l
  have hl := okB (ho.1 _ (.head _))
  refine ⟨noAnn, noAnn, 20, ?_⟩
  cbv
  repeat' first | ((with_reducible intro _); cbv) | ((with_reducible show _ ∧ _); (with_reducible apply And.intro))
  all_goals first | (refine retK h ?_; clear h; simp only [fin0]) | (with_reducible refine Ob.mk ?_; clear h) | (clear h)
  all_goals (try simp only [eta0, RT.bytes] at *)
  all_goals grind
end Go.Proofs.YtfgphaokmjdcbaaGreat
