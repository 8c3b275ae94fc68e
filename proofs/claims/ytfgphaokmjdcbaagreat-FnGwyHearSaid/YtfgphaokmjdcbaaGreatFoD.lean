/-
  Contracts: logs folded by the document, into new memory.
-/
import Derived.Test.YtfgphaokmjdcbaaGreatFnYs
import Derived.Test.YtfgphaokmjdcbaaGreatFnM
set_option linter.unusedVariables false
set_option linter.unusedSimpArgs false
namespace Go.Proofs.YtfgphaokmjdcbaaGreat
open Go.Sx Go.Proofs Go.Mo
set_option maxRecDepth 100000
set_option maxHeartbeats 8000000
set_option linter.unusedSimpArgs false
set_option linter.unusedVariables false

theorem okNLogFold : SpecOk1 Tryz.prog 94 sLogFold := spec1 tabOk (ss := [(142, sCllOk), (135, sCloneC), (143, sL6Apply)]) ⟨okSCllOk, okL5Copy, okL6Apply, trivial⟩ rfl rfl <| by
  intro (bs : Th (List Int)) (p : Th Int) ⟨(m : Th PMap), (c : Th Cll), (l : Th (List Sx.Rec)), u⟩ K _ _ ho h
  obtain ⟨m, rfl⟩ := th_ex m; obtain ⟨c, rfl⟩ := th_ex c; obtain ⟨l, rfl⟩ := th_ex l
  refine ⟨annL [(94, 5, ⟨Nat, [⟨.cell 9 1, some 13569, .wlk⟩, ⟨.cell 9 3, some 13571, .pcls⟩, ⟨.cell 9 4, some 13572, .int⟩, ⟨.cell 9 5, some 13573, .int⟩],
    fun σ k => (((((((((((((σ.fgs [13569, 13571, 13572, 13573]).t 24 (.one .unk)).t 9 (vI fun _ => (k : Int))).cellC 9 0 (.att (.int .i64 fun _ => (foldTo m c l k).cell))).cellC 9 1 (.own 13569 1)).cellC 9 2 (.att (.int .i64 fun _ => (foldTo m c l k).ground))).cellC 9 3 (.own 13571 1)).cellC 9 4 (.own 13572 1)).cellC 9 5 (.own 13573 1)).row 13569 1 .wlk (fun _ => (foldTo m c l k).wlks)).row 13571 1 .pcls (fun _ => (foldTo m c l k).outs)).row 13572 1 .int (fun _ => (foldTo m c l k).next)).row 13573 1 .int (fun _ => (foldTo m c l k).ins)),
    fun _ k _ => k ≤ l.length ∧ l.length ≤ 250 ∧ cllOk m c = true ∧ allTo k (fitAt m c l) = true, fun _ k _ => l.length - k⟩)], noAnn, 20, ?_⟩
  cbv
  repeat' first | ((with_reducible refine fun (k : Nat) => ?_); cbv) | ((with_reducible intro _); cbv) | ((with_reducible show _ ∧ _); (with_reducible apply And.intro))
  all_goals try ((first | (with_reducible refine LoopIn.mk ((0 : Nat)) ?_ ?_) | (with_reducible refine LoopBack.mk ((k + 1 : Nat)) ?_ ?_ ?_)) )
  all_goals try ((with_reducible show matchSt _ _); cbv; (try simp only [and_true, true_and]))
  all_goals try (with_reducible show _ ∧ _; (repeat' (with_reducible apply And.intro)))
  all_goals first | (refine retK h ?_; clear h; simp only [fin0]) | (with_reducible refine Ob.mk ?_; clear h) | (clear h)
  all_goals (try simp only [eta0, RT.bytes] at *)
  all_goals grind [zeroC, applyL_fit, applyL_succ, fold_ok, allTo_zero, allTo_succ, wrap_succ, logFold_at, logFold_all, logFold_bad, foldTo_zero]

end Go.Proofs.YtfgphaokmjdcbaaGreat

/-
  Contracts: stores.
-/
namespace Go.Proofs.YtfgphaokmjdcbaaGreat
open Go.Sx Go.Proofs Go.Mo
set_option maxRecDepth 100000
set_option maxHeartbeats 1000000
set_option linter.unusedSimpArgs false
set_option linter.unusedVariables false

def nSto : List (Option RT) := [none, none, some .wlk, none, some .pcls, some .int, some .int, some .rcd]
noncomputable def sCloneS : Sx.Spec := ⟨false, true, [.row .sto], [nSto], fun _ _ ⟨s, _⟩ => .ret (oSto s, fun _ => 0)⟩
noncomputable def sStoOk : Sx.Spec := ⟨false, true, [.map, .row .sto], [], fun _ _ ⟨m, s, _⟩ => .ret (vB fun _ => stoOk (m ()) (s ()), fun _ => 0)⟩
noncomputable def sStoState : Sx.Spec := ⟨false, true, [.map, .row .sto], [nCll], fun _ _ ⟨m, s, _⟩ => .ret (oCll fun _ => stoStateX (m ()) (s ()), fun _ => 0)⟩
noncomputable def sStoFence : Sx.Spec := ⟨false, true, [.map, .row .sto, .int .i64], [nSto, [none]], fun _ _ ⟨m, s, a, _⟩ => .ret (.tup [oSto fun _ => (stoFence (m ()) (s ()) (a ())).s, vB fun _ => (stoFence (m ()) (s ()) (a ())).ok], fun _ => 0)⟩
noncomputable def sStoAppend : Sx.Spec := ⟨false, true, [.map, .row .sto, .int .i64, .int .i64, .row .rcd], [nSto, [none]], fun _ _ ⟨m, s, a, b, r, _⟩ => .ret (.tup [oSto fun _ => (stoAppend (m ()) (s ()) (a ()) (b ()) (r ())).s, vI fun _ => (stoAppend (m ()) (s ()) (a ()) (b ()) (r ())).n], fun _ => 0)⟩

theorem okStoL {s : Sto} (h : ∀ a ∈ (PT.row .sto).encA (fun _ => s), OkA a) : s.recs.length * 128 ≤ 140737488355328 := okB (h _ (.tail _ (.tail _ (.tail _ (.tail _ (.tail _ (.tail _ (.tail _ (.head _)))))))))

theorem okL6Copy : SpecOk1 Tryz.prog 116 sCloneS := spec1 tabOk (ss := [(135, sCloneC)]) ⟨okL5Copy, trivial⟩ rfl rfl <| by
  intro (bs : Th (List Int)) (p : Th Int) ⟨(s : Th Sto), u⟩ K _ _ ho h
  obtain ⟨s, rfl⟩ := th_ex s
  have hrl := okStoL ho.1
  refine ⟨noAnn, noAnn, 20, ?_⟩
  cbv
  repeat' first | ((with_reducible intro _); cbv) | ((with_reducible show _ ∧ _); (with_reducible apply And.intro))
  all_goals first | (refine retK h ?_; clear h; simp only [fin0]) | (with_reducible refine Ob.mk ?_; clear h) | (clear h)
  all_goals (try simp only [eta0, RT.bytes] at *)
  all_goals grind
theorem okSStoOk : SpecOk1 Tryz.prog 93 sStoOk := spec1 tabOk (ss := [(47, sIn), (142, sCllOk), (94, sLogFold)]) ⟨okL1In, okSCllOk, okNLogFold, trivial⟩ rfl rfl <| by
  intro (bs : Th (List Int)) (p : Th Int) ⟨(m : Th PMap), (s : Th Sto), u⟩ K _ _ ho h
  obtain ⟨m, rfl⟩ := th_ex m; obtain ⟨s, rfl⟩ := th_ex s
  have hso := @stoOk_iff m s
  refine ⟨noAnn, noAnn, 20, ?_⟩
  cbv
  repeat' first | ((with_reducible intro _); cbv) | ((with_reducible show _ ∧ _); (with_reducible apply And.intro))
  all_goals first | (refine retK h ?_; clear h; simp only [fin0]) | (with_reducible refine Ob.mk ?_; clear h) | (clear h)
  all_goals (try simp only [eta0, RT.bytes] at *)
  all_goals grind [inR, logFold]
theorem okSStoState : SpecOk1 Tryz.prog 35 sStoState := spec1 tabOk (ss := [(93, sStoOk), (94, sLogFold)]) ⟨okSStoOk, okNLogFold, trivial⟩ rfl rfl <| by
  intro (bs : Th (List Int)) (p : Th Int) ⟨(m : Th PMap), (s : Th Sto), u⟩ K _ _ ho h
  obtain ⟨m, rfl⟩ := th_ex m; obtain ⟨s, rfl⟩ := th_ex s
  have hso := @stoOk_iff m s
  refine ⟨noAnn, noAnn, 20, ?_⟩
  cbv
  repeat' first | ((with_reducible intro _); cbv) | ((with_reducible show _ ∧ _); (with_reducible apply And.intro))
  all_goals first | (refine retK h ?_; clear h; simp only [fin0]) | (with_reducible refine Ob.mk ?_; clear h) | (clear h)
  all_goals (try simp only [eta0, RT.bytes] at *)
  all_goals grind [stoStateX, stoState, zeroC, logFold]
theorem okSStoFence : SpecOk1 Tryz.prog 160 sStoFence := spec1 tabOk (ss := [(93, sStoOk), (47, sIn), (116, sCloneS)]) ⟨okSStoOk, okL1In, okL6Copy, trivial⟩ rfl rfl <| by
  intro (bs : Th (List Int)) (p : Th Int) ⟨(m : Th PMap), (s : Th Sto), (a : Th Int), u⟩ K _ _ ho h
  obtain ⟨m, rfl⟩ := th_ex m; obtain ⟨s, rfl⟩ := th_ex s; obtain ⟨a, rfl⟩ := th_ex a
  refine ⟨noAnn, noAnn, 20, ?_⟩
  cbv
  repeat' first | ((with_reducible intro _); cbv) | ((with_reducible show _ ∧ _); (with_reducible apply And.intro))
  all_goals first | (refine retK h ?_; clear h; simp only [fin0]) | (with_reducible refine Ob.mk ?_; clear h) | (clear h)
  all_goals (try simp only [eta0, RT.bytes] at *)
  all_goals grind [stoFence, zeroS, zeroC, inR]
theorem okSStoAppend : SpecOk1 Tryz.prog 162 sStoAppend := spec1 tabOk (ss := [(93, sStoOk), (116, sCloneS), (94, sLogFold), (143, sL6Apply)]) ⟨okSStoOk, okL6Copy, okNLogFold, okL6Apply, trivial⟩ rfl rfl <| by
  intro (bs : Th (List Int)) (p : Th Int) ⟨(m : Th PMap), (s : Th Sto), (a : Th Int), (b : Th Int), (r : Th Sx.Rec), u⟩ K _ _ ho h
  obtain ⟨m, rfl⟩ := th_ex m; obtain ⟨s, rfl⟩ := th_ex s; obtain ⟨a, rfl⟩ := th_ex a; obtain ⟨b, rfl⟩ := th_ex b; obtain ⟨r, rfl⟩ := th_ex r
  have hso := @stoOk_iff m s
  have hst := @state_ok m s
  refine ⟨noAnn, noAnn, 20, ?_⟩
  cbv
  repeat' first | ((with_reducible intro _); cbv) | ((with_reducible show _ ∧ _); (with_reducible apply And.intro))
  all_goals first | (refine retK h ?_; clear h; simp only [fin0]) | (with_reducible refine Ob.mk ?_; clear h) | (clear h)
  all_goals (try simp only [eta0, RT.bytes] at *)
  all_goals grind [stoAppend, stoAdd, stoState, zeroS, zeroC, logFold, cllApplyL]

end Go.Proofs.YtfgphaokmjdcbaaGreat
