/-
  The law FnWldLogs.
-/
import Derived.Test.YtjdaiobeiimpfaaGreatGsE
import Derived.Test.YtjdaiobeiimpfaaGreatGsS
import Derived.Test.YtjdaiobeiimpfaaGreatGnR
import Derived.Test.YtjdaiobeiimpfaaGreatGnW
import Derived.Test.YtjdaiobeiimpfaaGreatGnT
import Derived.Test.YtjdaiobeiimpfaaGreatGvN
set_option linter.unusedVariables false
set_option linter.unusedSimpArgs false
set_option maxRecDepth 100000
set_option maxHeartbeats 8000000
namespace Go.Proofs.YtjdaiobeiimpfaaGreat
open Go.Sx Go.Proofs Go.Mo
theorem logs_in {W : Wld} {e : Evt} (h : wldOk W = true) : wldOk (wldStep W e) = true ∧ W.stores.length ≤ 4 ∧ (wldStep W e).stores.length = W.stores.length ∧ (W.table.ages.length : Int) = W.stores.length ∧ (wldStep W e).table.ages.length = W.table.ages.length ∧
  (∀ i : Nat, (nth .sto (wldStep W e).stores i).recs.take (nth .sto W.stores i).recs.length = (nth .sto W.stores i).recs ∧ (nth .sto W.stores i).recs.length ≤ (nth .sto (wldStep W e).stores i).recs.length ∧ (nth .sto W.stores i).age ≤ (nth .sto (wldStep W e).stores i).age ∧
   @LE.le Int _ (nth .int W.table.ages i) (nth .int (wldStep W e).table.ages i)) ∧ -1 ≤ newOf W.stores (wldStep W e).stores ∧ (wldStep W e).notes.take W.notes.length = W.notes ∧ W.notes.length ≤ (wldStep W e).notes.length := by
 have h1 := logs_law (e := e) h
 have h2 := (wldStep_keeps (e := e) h).1
 have h3 := stos_len (wldOk_iff.1 h).2.1
 have h4 := arb_few h
 exact ⟨h2, sto_few' h, h1.1.len, by omega, h1.2.1, fun i => ⟨(h1.1.pre i).1, (h1.1.pre i).2, h1.1.age i, h1.2.2.1 i⟩, h1.1.new, h1.2.2.2.1, h1.2.2.2.2⟩
theorem ages_step {W : Wld} {e : Evt} {i : Int} (h : wldOk W = true) (h0 : 0 ≤ i) (h1 : i < (W.stores.length : Int)) : 0 ≤ i ∧ i < ((wldStep W e).table.ages.length : Int) := by
 have hL := logs_in (e := e) h
 omega
theorem ages_here {W : Wld} {i : Int} (h : wldOk W = true) (h0 : 0 ≤ i) (h1 : i < (W.stores.length : Int)) : 0 ≤ i ∧ i < (W.table.ages.length : Int) := by
 have hL := logs_in (e := ⟨0, 0, 0, 0, 0⟩) h
 omega
noncomputable def sLawWldLogs : Sx.Spec := ⟨false, true, [.list .byte], [], fun _ _ _ => .ret (vB fun _ => true, fun _ => 0)⟩
theorem okLawWldLogs : SpecOk1 Tryz.prog 8 sLawWldLogs := spec1 tabOk (ss := [(9, sDrawStepE), (10, sWldStepI), (12, sSWldStep), (11, sIsWld), (13, sWldOk), (21, sWldOk), (41, sPlcOk), (24, sIsR), (25, sNew), (19, sIsNotes)]) ⟨okDrawStepE, okWldStep, okSWldStep, okIsWorld, okSWldOk, okWldOk, okPlcOk, okIsRecs, okMaNew, okIsNotes, trivial⟩ rfl rfl <| by
 intro (bs : Th (List Int)) (p : Th Int) ⟨(a : Th (List Int)), u⟩ K _ _ ho h
 obtain ⟨a, rfl⟩ := th_ex a
 refine ⟨annL [(8, 10, ⟨Th Int × Th Bool, [], fun σ g => (σ.only [3, 4, 5]).t 6 (.one (.att (.int .i64 g.1))), fun σ g _ => Ob ((fun (W : Th Wld) => fun _ => 0 ≤ g.1 () ∧ g.1 () ≤ (W ()).stores.length ∧ (W ()).stores.length ≤ 4 ∧ wldOk (W ()) = true) (rdWld σ 4)), fun _ g _ => (5 - g.1 ()).toNat⟩)], noAnn, 20, ?_⟩
 cbv
 repeat' first | ((with_reducible refine fun (g : Th Int × Th Bool) => ?_); obtain ⟨i, z⟩ := g; obtain ⟨i, rfl⟩ := th_ex i; obtain ⟨z, rfl⟩ := th_ex z; (with_reducible refine ImpB.out ?_); cbv; (with_reducible refine ImpB.mk ?_); intro hq; obtain ⟨hq⟩ := hq) | ((with_reducible intro _); cbv) | (with_reducible refine And.intro ?_ ?_)
 all_goals try ((first | (with_reducible refine LoopIn.wf (fun σ => (σ.tmI 6, noBool)) ?_ ?_) | (with_reducible refine LoopBack.wf (fun σ => (σ.tmI 6, noBool)) ?_ ?_ ?_)) <;> cbv)
 all_goals try (with_reducible show _ ∧ _; (try simp only [and_true, true_and]))
 all_goals try (repeat' with_reducible refine And.intro ?_ ?_)
 all_goals try (with_reducible refine MeasB.mk ?_)
 all_goals first | (refine retK h ?_; clear h; simp only [fin0]) | (with_reducible refine Ob.mk ?_; clear h) | (clear h)
 all_goals (try simp only [eta0, RT.bytes] at *)
 all_goals (try dsimp only [RT.ty] at *)
 all_goals (try simp only [ncast] at *)
 all_goals (try simp only [mkWld] at *)
 all_goals (try simp only [eta0, RT.bytes] at *)
 all_goals (first | omega | rfl | exact absurd trivial (by assumption) | exact ⟨by omega, by omega, sto_few' (by assumption), by assumption⟩ | exact ages_step (by assumption) (by omega) (by assumption) | exact ages_here (W := ⟨⟨_, _⟩, _, _, ⟨_, _⟩, _, _, _⟩) (by assumption) (by omega) (by assumption) | exact absurd (step_bad (by assumption)) (by assumption) | (have hL := fun (e : Evt) => logs_in (e := e) (by assumption); grind [step_bad, wrap_id]))
end Go.Proofs.YtjdaiobeiimpfaaGreat
