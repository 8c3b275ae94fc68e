/-
  Contracts: stores.
-/
import Derived.Test.YtfdohbjamanomaaGreatFoA
import Derived.Test.YtfdohbjamanomaaGreatFoS
import Derived.Test.YtfdohbjamanomaaGreatFnM
set_option linter.unusedVariables false
set_option linter.unusedSimpArgs false
namespace Go.Proofs.YtfdohbjamanomaaGreat
open Go.Sx Go.Proofs Go.Mo
set_option maxRecDepth 100000
set_option maxHeartbeats 1000000
set_option linter.unusedSimpArgs false
set_option linter.unusedVariables false

def nSto : List (Option RT) := [none, none, some .wlk, none, some .pcls, some .int, some .int, some .rcd]
noncomputable def sCloneS : Sx.Spec := ⟨false, true, [.row .sto], [nSto], fun _ _ ⟨s, _⟩ => .ret (oSto s, fun _ => 0)⟩
noncomputable def sStoOk : Sx.Spec := ⟨false, true, [.map, .row .sto], [], fun _ _ ⟨m, s, _⟩ => .ret (vB fun _ => stoOk (m ()) (s ()), fun _ => 0)⟩
noncomputable def sState : Sx.Spec := ⟨false, true, [.row .sto, .map], [nCll], fun _ _ ⟨s, m, _⟩ => .asrt (fun _ => stoOk (m ()) (s ()) = true) (.ret (oCll fun _ => stoState (m ()) (s ()), fun _ => 0))⟩
noncomputable def sStoState : Sx.Spec := ⟨false, true, [.map, .row .sto], [nCll], fun _ _ ⟨m, s, _⟩ => .ret (oCll fun _ => stoStateX (m ()) (s ()), fun _ => 0)⟩
noncomputable def sStoFence : Sx.Spec := ⟨false, true, [.map, .row .sto, .int .i64], [nSto, [none]], fun _ _ ⟨m, s, a, _⟩ => .ret (.tup [oSto fun _ => (stoFence (m ()) (s ()) (a ())).s, vB fun _ => (stoFence (m ()) (s ()) (a ())).ok], fun _ => 0)⟩
noncomputable def sStoAppend : Sx.Spec := ⟨false, true, [.map, .row .sto, .int .i64, .int .i64, .row .rcd], [nSto, [none]], fun _ _ ⟨m, s, a, b, r, _⟩ => .ret (.tup [oSto fun _ => (stoAppend (m ()) (s ()) (a ()) (b ()) (r ())).s, vI fun _ => (stoAppend (m ()) (s ()) (a ()) (b ()) (r ())).n], fun _ => 0)⟩

theorem okStoL {s : Sto} (h : ∀ a ∈ (PT.row .sto).encA (fun _ => s), OkA a) : s.recs.length * 128 ≤ 140737488355328 := okB (h _ (.tail _ (.tail _ (.tail _ (.tail _ (.tail _ (.tail _ (.tail _ (.head _)))))))))

theorem okCloneS : SpecOk1 Tryz.prog 85 sCloneS := spec1 tabOk (ss := [(52, sCloneC)]) ⟨okCloneC, trivial⟩ rfl rfl <| by
  intro (bs : Th (List Int)) (p : Th Int) ⟨(s : Th Sto), u⟩ K _ _ ho h
  obtain ⟨s, rfl⟩ := th_ex s
  have hrl := okStoL ho.1
  refine ⟨noAnn, noAnn, 20, ?_⟩
  cbv
  repeat' first | ((with_reducible refine fun (k : Nat) => ?_); cbv) | ((with_reducible refine fun (q : Nat × Unit) => ?_); obtain ⟨s, _⟩ := q; cbv) | ((with_reducible refine fun (q : Nat × Nat) => ?_); obtain ⟨s, k⟩ := q; cbv) | ((with_reducible intro _); cbv) | ((with_reducible show _ ∧ _); (with_reducible apply And.intro))
  all_goals first | (refine retK h ?_; clear h; simp only [fin0]) | (with_reducible refine Ob.mk ?_; clear h) | (clear h)
  all_goals (try simp only [eta0, RT.bytes] at *)
  all_goals grind
theorem okL6Copy : SpecOk1 Tryz.prog 89 sCloneS := spec1 tabOk (ss := [(77, sCloneC)]) ⟨okL5Copy, trivial⟩ rfl rfl <| by
  intro (bs : Th (List Int)) (p : Th Int) ⟨(s : Th Sto), u⟩ K _ _ ho h
  obtain ⟨s, rfl⟩ := th_ex s
  have hrl := okStoL ho.1
  refine ⟨noAnn, noAnn, 20, ?_⟩
  cbv
  repeat' first | ((with_reducible refine fun (k : Nat) => ?_); cbv) | ((with_reducible refine fun (q : Nat × Unit) => ?_); obtain ⟨s, _⟩ := q; cbv) | ((with_reducible refine fun (q : Nat × Nat) => ?_); obtain ⟨s, k⟩ := q; cbv) | ((with_reducible intro _); cbv) | ((with_reducible show _ ∧ _); (with_reducible apply And.intro))
  all_goals first | (refine retK h ?_; clear h; simp only [fin0]) | (with_reducible refine Ob.mk ?_; clear h) | (clear h)
  all_goals (try simp only [eta0, RT.bytes] at *)
  all_goals grind
theorem okStoOk : SpecOk1 Tryz.prog 31 sStoOk := spec1 tabOk (ss := [(80, sIn), (27, sCllOk), (76, sFold)]) ⟨okIn, okCllOk, okFold, trivial⟩ rfl rfl <| by
  intro (bs : Th (List Int)) (p : Th Int) ⟨(m : Th PMap), (s : Th Sto), u⟩ K _ _ ho h
  obtain ⟨m, rfl⟩ := th_ex m; obtain ⟨s, rfl⟩ := th_ex s
  have hso := @stoOk_iff m s
  refine ⟨noAnn, noAnn, 20, ?_⟩
  cbv
  repeat' first | ((with_reducible refine fun (k : Nat) => ?_); cbv) | ((with_reducible refine fun (q : Nat × Unit) => ?_); obtain ⟨s, _⟩ := q; cbv) | ((with_reducible refine fun (q : Nat × Nat) => ?_); obtain ⟨s, k⟩ := q; cbv) | ((with_reducible intro _); cbv) | ((with_reducible show _ ∧ _); (with_reducible apply And.intro))
  all_goals first | (refine retK h ?_; clear h; simp only [fin0]) | (with_reducible refine Ob.mk ?_; clear h) | (clear h)
  all_goals (try simp only [eta0, RT.bytes] at *)
  all_goals grind [inR]
theorem okSStoOk : SpecOk1 Tryz.prog 32 sStoOk := spec1 tabOk (ss := [(63, sIn), (18, sCllOk), (26, sLogFold)]) ⟨okL1In, okSCllOk, okNLogFold, trivial⟩ rfl rfl <| by
  intro (bs : Th (List Int)) (p : Th Int) ⟨(m : Th PMap), (s : Th Sto), u⟩ K _ _ ho h
  obtain ⟨m, rfl⟩ := th_ex m; obtain ⟨s, rfl⟩ := th_ex s
  have hso := @stoOk_iff m s
  refine ⟨noAnn, noAnn, 20, ?_⟩
  cbv
  repeat' first | ((with_reducible refine fun (k : Nat) => ?_); cbv) | ((with_reducible refine fun (q : Nat × Unit) => ?_); obtain ⟨s, _⟩ := q; cbv) | ((with_reducible refine fun (q : Nat × Nat) => ?_); obtain ⟨s, k⟩ := q; cbv) | ((with_reducible intro _); cbv) | ((with_reducible show _ ∧ _); (with_reducible apply And.intro))
  all_goals first | (refine retK h ?_; clear h; simp only [fin0]) | (with_reducible refine Ob.mk ?_; clear h) | (clear h)
  all_goals (try simp only [eta0, RT.bytes] at *)
  all_goals grind [inR, logFold]
theorem okState : SpecOk1 Tryz.prog 84 sState := spec1 tabOk (ss := [(76, sFold)]) ⟨okFold, trivial⟩ rfl rfl <| by
  intro (bs : Th (List Int)) (p : Th Int) ⟨(s : Th Sto), (m : Th PMap), u⟩ K _ _ ho h
  obtain ⟨s, rfl⟩ := th_ex s; obtain ⟨m, rfl⟩ := th_ex m
  obtain ⟨hpre, h⟩ := h
  have hpre := stoOk_iff.1 hpre.out
  refine ⟨noAnn, noAnn, 20, ?_⟩
  cbv
  repeat' first | ((with_reducible refine fun (k : Nat) => ?_); cbv) | ((with_reducible refine fun (q : Nat × Unit) => ?_); obtain ⟨s, _⟩ := q; cbv) | ((with_reducible refine fun (q : Nat × Nat) => ?_); obtain ⟨s, k⟩ := q; cbv) | ((with_reducible intro _); cbv) | ((with_reducible show _ ∧ _); (with_reducible apply And.intro))
  all_goals first | (refine retK h ?_; clear h; simp only [fin0]) | (with_reducible refine Ob.mk ?_; clear h) | (clear h)
  all_goals (try simp only [eta0, RT.bytes] at *)
  all_goals grind [stoState]
theorem okStoState : SpecOk1 Tryz.prog 29 sStoState := spec1 tabOk (ss := [(31, sStoOk), (84, sState), (52, sCloneC)]) ⟨okStoOk, okState, okCloneC, trivial⟩ rfl rfl <| by
  intro (bs : Th (List Int)) (p : Th Int) ⟨(m : Th PMap), (s : Th Sto), u⟩ K _ _ ho h
  obtain ⟨m, rfl⟩ := th_ex m; obtain ⟨s, rfl⟩ := th_ex s
  refine ⟨noAnn, noAnn, 20, ?_⟩
  cbv
  repeat' first | ((with_reducible refine fun (k : Nat) => ?_); cbv) | ((with_reducible refine fun (q : Nat × Unit) => ?_); obtain ⟨s, _⟩ := q; cbv) | ((with_reducible refine fun (q : Nat × Nat) => ?_); obtain ⟨s, k⟩ := q; cbv) | ((with_reducible intro _); cbv) | ((with_reducible show _ ∧ _); (with_reducible apply And.intro))
  all_goals first | (refine retK h ?_; clear h; simp only [fin0]) | (with_reducible refine Ob.mk ?_; clear h) | (clear h)
  all_goals (try simp only [eta0, RT.bytes] at *)
  all_goals grind [stoStateX, zeroC]
theorem okSStoState : SpecOk1 Tryz.prog 30 sStoState := spec1 tabOk (ss := [(32, sStoOk), (26, sLogFold)]) ⟨okSStoOk, okNLogFold, trivial⟩ rfl rfl <| by
  intro (bs : Th (List Int)) (p : Th Int) ⟨(m : Th PMap), (s : Th Sto), u⟩ K _ _ ho h
  obtain ⟨m, rfl⟩ := th_ex m; obtain ⟨s, rfl⟩ := th_ex s
  have hso := @stoOk_iff m s
  refine ⟨noAnn, noAnn, 20, ?_⟩
  cbv
  repeat' first | ((with_reducible refine fun (k : Nat) => ?_); cbv) | ((with_reducible refine fun (q : Nat × Unit) => ?_); obtain ⟨s, _⟩ := q; cbv) | ((with_reducible refine fun (q : Nat × Nat) => ?_); obtain ⟨s, k⟩ := q; cbv) | ((with_reducible intro _); cbv) | ((with_reducible show _ ∧ _); (with_reducible apply And.intro))
  all_goals first | (refine retK h ?_; clear h; simp only [fin0]) | (with_reducible refine Ob.mk ?_; clear h) | (clear h)
  all_goals (try simp only [eta0, RT.bytes] at *)
  all_goals grind [stoStateX, stoState, zeroC, logFold]
theorem okStoFence : SpecOk1 Tryz.prog 42 sStoFence := spec1 tabOk (ss := [(31, sStoOk), (80, sIn), (85, sCloneS)]) ⟨okStoOk, okIn, okCloneS, trivial⟩ rfl rfl <| by
  intro (bs : Th (List Int)) (p : Th Int) ⟨(m : Th PMap), (s : Th Sto), (a : Th Int), u⟩ K _ _ ho h
  obtain ⟨m, rfl⟩ := th_ex m; obtain ⟨s, rfl⟩ := th_ex s; obtain ⟨a, rfl⟩ := th_ex a
  refine ⟨noAnn, noAnn, 20, ?_⟩
  cbv
  repeat' first | ((with_reducible refine fun (k : Nat) => ?_); cbv) | ((with_reducible refine fun (q : Nat × Unit) => ?_); obtain ⟨s, _⟩ := q; cbv) | ((with_reducible refine fun (q : Nat × Nat) => ?_); obtain ⟨s, k⟩ := q; cbv) | ((with_reducible intro _); cbv) | ((with_reducible show _ ∧ _); (with_reducible apply And.intro))
  all_goals first | (refine retK h ?_; clear h; simp only [fin0]) | (with_reducible refine Ob.mk ?_; clear h) | (clear h)
  all_goals (try simp only [eta0, RT.bytes] at *)
  all_goals grind [stoFence, zeroS, zeroC, inR]
theorem okSStoFence : SpecOk1 Tryz.prog 43 sStoFence := spec1 tabOk (ss := [(32, sStoOk), (63, sIn), (89, sCloneS)]) ⟨okSStoOk, okL1In, okL6Copy, trivial⟩ rfl rfl <| by
  intro (bs : Th (List Int)) (p : Th Int) ⟨(m : Th PMap), (s : Th Sto), (a : Th Int), u⟩ K _ _ ho h
  obtain ⟨m, rfl⟩ := th_ex m; obtain ⟨s, rfl⟩ := th_ex s; obtain ⟨a, rfl⟩ := th_ex a
  refine ⟨noAnn, noAnn, 20, ?_⟩
  cbv
  repeat' first | ((with_reducible refine fun (k : Nat) => ?_); cbv) | ((with_reducible refine fun (q : Nat × Unit) => ?_); obtain ⟨s, _⟩ := q; cbv) | ((with_reducible refine fun (q : Nat × Nat) => ?_); obtain ⟨s, k⟩ := q; cbv) | ((with_reducible intro _); cbv) | ((with_reducible show _ ∧ _); (with_reducible apply And.intro))
  all_goals first | (refine retK h ?_; clear h; simp only [fin0]) | (with_reducible refine Ob.mk ?_; clear h) | (clear h)
  all_goals (try simp only [eta0, RT.bytes] at *)
  all_goals grind [stoFence, zeroS, zeroC, inR]
theorem okSStoAppend : SpecOk1 Tryz.prog 44 sStoAppend := spec1 tabOk (ss := [(32, sStoOk), (89, sCloneS), (26, sLogFold), (54, sL6Apply)]) ⟨okSStoOk, okL6Copy, okNLogFold, okL6Apply, trivial⟩ rfl rfl <| by
  intro (bs : Th (List Int)) (p : Th Int) ⟨(m : Th PMap), (s : Th Sto), (a : Th Int), (b : Th Int), (r : Th Sx.Rec), u⟩ K _ _ ho h
  obtain ⟨m, rfl⟩ := th_ex m; obtain ⟨s, rfl⟩ := th_ex s; obtain ⟨a, rfl⟩ := th_ex a; obtain ⟨b, rfl⟩ := th_ex b; obtain ⟨r, rfl⟩ := th_ex r
  have hso := @stoOk_iff m s
  have hst := @state_ok m s
  refine ⟨noAnn, noAnn, 20, ?_⟩
  cbv
  repeat' first | ((with_reducible refine fun (k : Nat) => ?_); cbv) | ((with_reducible refine fun (q : Nat × Unit) => ?_); obtain ⟨s, _⟩ := q; cbv) | ((with_reducible refine fun (q : Nat × Nat) => ?_); obtain ⟨s, k⟩ := q; cbv) | ((with_reducible intro _); cbv) | ((with_reducible show _ ∧ _); (with_reducible apply And.intro))
  all_goals first | (refine retK h ?_; clear h; simp only [fin0]) | (with_reducible refine Ob.mk ?_; clear h) | (clear h)
  all_goals (try simp only [eta0, RT.bytes] at *)
  all_goals grind [stoAppend, stoAdd, stoState, zeroS, zeroC, logFold, cllApplyL]

end Go.Proofs.YtfdohbjamanomaaGreat
