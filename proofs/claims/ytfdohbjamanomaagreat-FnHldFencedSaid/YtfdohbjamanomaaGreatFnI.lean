/-
  Contracts: records.
-/
import Derived.Test.YtfdohbjamanomaaGreatFnC
import Derived.Test.YtfdohbjamanomaaGreatFnD
import Derived.Test.YtfdohbjamanomaaGreatM2
set_option linter.unusedVariables false
set_option linter.unusedSimpArgs false
namespace Go.Proofs.YtfdohbjamanomaaGreat
open Go.Sx Go.Proofs Go.Mo
set_option maxRecDepth 100000
set_option maxHeartbeats 8000000
set_option linter.unusedSimpArgs false
set_option linter.unusedVariables false

noncomputable def sFormed : Sx.Spec := ⟨false, true, [.row .rcd], [], fun _ _ ⟨r, _⟩ => .ret (vB fun _ => recFormed (r ()), fun _ => 0)⟩
noncomputable def sLogOk : Sx.Spec := ⟨false, true, [.map, .row .rcd], [], fun _ _ ⟨m, r, _⟩ => .ret (vB fun _ => logOk (m ()) (r ()), fun _ => 0)⟩
noncomputable def sFresh : Sx.Spec := ⟨false, true, [.row .cll, .ord], [], fun _ _ ⟨c, o, _⟩ => .ret (vB fun _ => cllFresh (c ()) (o ()), fun _ => 0)⟩

theorem okFormed : SpecOk1 Tryz.prog 59 sFormed := spec1 tabOk (ss := [(68, sOrdOk), (106, sIsSide), (80, sIn)]) ⟨okOrdOk, okIsSide, okIn, trivial⟩ rfl rfl <| by
  intro (bs : Th (List Int)) (p : Th Int) ⟨(r : Th Sx.Rec), u⟩ K _ _ ho h
  obtain ⟨r, rfl⟩ := th_ex r
  refine ⟨noAnn, noAnn, 20, ?_⟩
  cbv
  repeat' first | ((with_reducible refine fun (k : Nat) => ?_); cbv) | ((with_reducible refine fun (q : Nat × Unit) => ?_); obtain ⟨s, _⟩ := q; cbv) | ((with_reducible refine fun (q : Nat × Nat) => ?_); obtain ⟨s, k⟩ := q; cbv) | ((with_reducible intro _); cbv) | ((with_reducible show _ ∧ _); (with_reducible apply And.intro))
  all_goals first | (refine retK h ?_; clear h; simp only [fin0]) | (with_reducible refine Ob.mk ?_; clear h) | (clear h)
  all_goals (try simp only [eta0, RT.bytes] at *)
  all_goals have hrf := @recFormed_iff r
  all_goals grind [inR]
theorem okLogOk : SpecOk1 Tryz.prog 16 sLogOk := spec1 tabOk (ss := [(58, sPlcOk), (59, sFormed), (60, sPclOk)]) ⟨okPlcOk, okFormed, okPclOk, trivial⟩ rfl rfl <| by
  intro (bs : Th (List Int)) (p : Th Int) ⟨(m : Th PMap), (r : Th Sx.Rec), u⟩ K _ _ ho h
  obtain ⟨m, rfl⟩ := th_ex m; obtain ⟨r, rfl⟩ := th_ex r
  refine ⟨noAnn, noAnn, 20, ?_⟩
  cbv
  repeat' first | ((with_reducible refine fun (k : Nat) => ?_); cbv) | ((with_reducible refine fun (q : Nat × Unit) => ?_); obtain ⟨s, _⟩ := q; cbv) | ((with_reducible refine fun (q : Nat × Nat) => ?_); obtain ⟨s, k⟩ := q; cbv) | ((with_reducible intro _); cbv) | ((with_reducible show _ ∧ _); (with_reducible apply And.intro))
  all_goals first | (refine retK h ?_; clear h; simp only [fin0]) | (with_reducible refine Ob.mk ?_; clear h) | (clear h)
  all_goals (try simp only [eta0, RT.bytes] at *)
  all_goals grind [logOk]
theorem okSLogOk : SpecOk1 Tryz.prog 17 sLogOk := spec1 tabOk (ss := [(61, sPlcOk), (62, sOrdOk), (63, sIn), (64, sPclOk)]) ⟨okSPlcOk, okSOrdOk, okL1In, okSPclOk, trivial⟩ rfl rfl <| by
  intro (bs : Th (List Int)) (p : Th Int) ⟨(m : Th PMap), (r : Th Sx.Rec), u⟩ K _ _ ho h
  obtain ⟨m, rfl⟩ := th_ex m; obtain ⟨r, rfl⟩ := th_ex r
  have hpp := @pclOk_plc m r.pcl
  refine ⟨noAnn, noAnn, 20, ?_⟩
  cbv
  repeat' first | ((with_reducible refine fun (k : Nat) => ?_); cbv) | ((with_reducible refine fun (q : Nat × Unit) => ?_); obtain ⟨s, _⟩ := q; cbv) | ((with_reducible refine fun (q : Nat × Nat) => ?_); obtain ⟨s, k⟩ := q; cbv) | ((with_reducible intro _); cbv) | ((with_reducible show _ ∧ _); (with_reducible apply And.intro))
  all_goals first | (refine retK h ?_; clear h; simp only [fin0]) | (with_reducible refine Ob.mk ?_; clear h) | (clear h)
  all_goals (try simp only [eta0, RT.bytes] at *)
  all_goals have hrf := @recFormed_iff r
  all_goals grind [inR, logOk]
theorem okFresh : SpecOk1 Tryz.prog 70 sFresh := spec1 tabOk (ss := [(118, sWlkFind)]) ⟨okWlkFind, trivial⟩ rfl rfl <| by
  intro (bs : Th (List Int)) (p : Th Int) ⟨(c : Th Cll), (o : Th Sx.Ord), u⟩ K _ _ ho h
  obtain ⟨c, rfl⟩ := th_ex c; obtain ⟨o, rfl⟩ := th_ex o
  refine ⟨noAnn, noAnn, 20, ?_⟩
  cbv
  repeat' first | ((with_reducible refine fun (k : Nat) => ?_); cbv) | ((with_reducible refine fun (q : Nat × Unit) => ?_); obtain ⟨s, _⟩ := q; cbv) | ((with_reducible refine fun (q : Nat × Nat) => ?_); obtain ⟨s, k⟩ := q; cbv) | ((with_reducible intro _); cbv) | ((with_reducible show _ ∧ _); (with_reducible apply And.intro))
  all_goals first | (refine retK h ?_; clear h; simp only [fin0]) | (with_reducible refine Ob.mk ?_; clear h) | (clear h)
  all_goals (try simp only [eta0, RT.bytes] at *)
  all_goals grind [cllFresh]
theorem okL5Fresh : SpecOk1 Tryz.prog 102 sFresh := spec1 tabOk (ss := [(131, sWlkFind)]) ⟨okSWlkFind, trivial⟩ rfl rfl <| by
  intro (bs : Th (List Int)) (p : Th Int) ⟨(c : Th Cll), (o : Th Sx.Ord), u⟩ K _ _ ho h
  obtain ⟨c, rfl⟩ := th_ex c; obtain ⟨o, rfl⟩ := th_ex o
  refine ⟨noAnn, noAnn, 20, ?_⟩
  cbv
  repeat' first | ((with_reducible refine fun (k : Nat) => ?_); cbv) | ((with_reducible refine fun (q : Nat × Unit) => ?_); obtain ⟨s, _⟩ := q; cbv) | ((with_reducible refine fun (q : Nat × Nat) => ?_); obtain ⟨s, k⟩ := q; cbv) | ((with_reducible intro _); cbv) | ((with_reducible show _ ∧ _); (with_reducible apply And.intro))
  all_goals first | (refine retK h ?_; clear h; simp only [fin0]) | (with_reducible refine Ob.mk ?_; clear h) | (clear h)
  all_goals (try simp only [eta0, RT.bytes] at *)
  all_goals grind [cllFresh]
end Go.Proofs.YtfdohbjamanomaaGreat
