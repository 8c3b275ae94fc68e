/-
  Contracts: an event drawn.
-/
import Derived.Test.YtfgphaokmjdcbaaGreatGnV
set_option linter.unusedVariables false
set_option linter.unusedSimpArgs false
namespace Go.Sx
def oneC (v : V) : C := match v with
  | .one c => c
  | _ => .unk
def St.tmB (σ : St) (d : Nat) : Th Bool := asB (oneC (σ.tm.get d))
end Go.Sx
namespace Go.Proofs.YtfgphaokmjdcbaaGreat
open Go.Sx Go.Proofs Go.Mo
set_option maxRecDepth 100000
set_option maxHeartbeats 8000000
set_option linter.unusedSimpArgs false
set_option linter.unusedVariables false

def noRow : Th Row := fun _ => ⟨0, 0, false, ⟨0, 0, 0, 0, 0⟩, 0, 0⟩
theorem okEventE : SpecOk1 Tryz.prog 179 sEventE := spec1 tabOk (ss := [(39, sPick), (198, sAskE)]) ⟨okPick, okAskE, trivial⟩ rfl rfl <| by
  intro (bs : Th (List Int)) (p : Th Int) ⟨(w : Th Wld), u⟩ K hb hp0 ho h
  obtain ⟨w, rfl⟩ := th_ex w; obtain ⟨bs, rfl⟩ := th_ex bs; obtain ⟨p, rfl⟩ := th_ex p
  obtain ⟨hpre, h⟩ := h
  have hpre : True ∧ 0 ≤ p ∧ p ≤ 999000000000 := hpre.out
  refine ⟨noAnn, annL [(179, 4, ⟨Th Int × Th Int, [], fun σ g => (σ.t 5 (.one (.att (.int .i64 g.1)))).cellC 0 1 (.att (.int .i64 g.2)), fun _ g _ => Ob fun _ => p ≤ g.2 () ∧ g.2 () ≤ p + 2, fun _ g _ => 0⟩),
    (179, 13, ⟨Th Bool × Th Int, [], fun σ g => σ.t 37 (.one (.att (.bool (.of g.1)))), fun _ g _ => Ob fun _ => True, fun _ g _ => 0⟩),
    (179, 19, ⟨Th Int × Th Bool, [], fun σ g => σ.t 47 (.one (.att (.bool (.of g.2)))), fun _ g _ => Ob fun _ => True, fun _ g _ => 0⟩),
    (179, 24, ⟨Th Bool × Th Bool, [], fun σ g => σ.t 61 (.one (.att (.bool (.of g.1)))), fun _ g _ => Ob fun _ => True, fun _ g _ => 0⟩),
    (179, 28, ⟨Th Bool × Th Row, [], fun σ g => σ.t 66 (.one (.att (.bool (.of g.1)))), fun _ g _ => Ob fun _ => True, fun _ g _ => 0⟩)], 20, ?_⟩
  cbv
  repeat' first | ((with_reducible refine fun (g : Th Int × Th Int) => ?_); obtain ⟨i, q⟩ := g; obtain ⟨i, rfl⟩ := th_ex i; obtain ⟨q, rfl⟩ := th_ex q; (with_reducible refine ImpB.out ?_); cbv; (with_reducible refine ImpB.mk ?_); intro hq; obtain ⟨hq⟩ := hq) | ((with_reducible refine fun (g : Th Bool × Th Int) => ?_); obtain ⟨b1, z1⟩ := g; obtain ⟨b1, rfl⟩ := th_ex b1; obtain ⟨z1, rfl⟩ := th_ex z1; (with_reducible refine ImpB.out ?_); cbv; (with_reducible refine ImpB.mk ?_); intro hq; obtain ⟨hq⟩ := hq) | ((with_reducible refine fun (g : Th Int × Th Bool) => ?_); obtain ⟨z2, b2⟩ := g; obtain ⟨z2, rfl⟩ := th_ex z2; obtain ⟨b2, rfl⟩ := th_ex b2; (with_reducible refine ImpB.out ?_); cbv; (with_reducible refine ImpB.mk ?_); intro hq; obtain ⟨hq⟩ := hq) | ((with_reducible refine fun (g : Th Bool × Th Bool) => ?_); obtain ⟨b3, z3⟩ := g; obtain ⟨b3, rfl⟩ := th_ex b3; obtain ⟨z3, rfl⟩ := th_ex z3; (with_reducible refine ImpB.out ?_); cbv; (with_reducible refine ImpB.mk ?_); intro hq; obtain ⟨hq⟩ := hq) | ((with_reducible refine fun (g : Th Bool × Th Row) => ?_); obtain ⟨b4, z4⟩ := g; obtain ⟨b4, rfl⟩ := th_ex b4; obtain ⟨z4, rfl⟩ := th_ex z4; (with_reducible refine ImpB.out ?_); cbv; (with_reducible refine ImpB.mk ?_); intro hq; obtain ⟨hq⟩ := hq) | ((with_reducible intro _); cbv) | ((with_reducible show _ ∧ _); (with_reducible apply And.intro))
  all_goals try ((first | (with_reducible refine LoopIn.wf (fun σ => (σ.tmI 5, asI (σ.ce 0 1))) ?_ ?_) | (with_reducible refine LoopBack.wf (fun σ => (σ.tmI 5, asI (σ.ce 0 1))) ?_ ?_ ?_) | (with_reducible refine LoopIn.wf (fun σ => (σ.tmB 37, noInt)) ?_ ?_) | (with_reducible refine LoopBack.wf (fun σ => (σ.tmB 37, noInt)) ?_ ?_ ?_) | (with_reducible refine LoopIn.wf (fun σ => (noInt, σ.tmB 47)) ?_ ?_) | (with_reducible refine LoopBack.wf (fun σ => (noInt, σ.tmB 47)) ?_ ?_ ?_) | (with_reducible refine LoopIn.wf (fun σ => (σ.tmB 61, noBool)) ?_ ?_) | (with_reducible refine LoopBack.wf (fun σ => (σ.tmB 61, noBool)) ?_ ?_ ?_) | (with_reducible refine LoopIn.wf (fun σ => (σ.tmB 66, noRow)) ?_ ?_) | (with_reducible refine LoopBack.wf (fun σ => (σ.tmB 66, noRow)) ?_ ?_ ?_)) <;> cbv)
  all_goals try (with_reducible show _ ∧ _; (try simp only [and_true, true_and]))
  all_goals try (with_reducible show _ ∧ _; (repeat' (with_reducible apply And.intro)))
  all_goals try (with_reducible refine MeasB.mk ?_)
  all_goals first | (refine retK (h _ _ _ _ _ _ ?_) rfl; clear h) | (with_reducible refine Ob.mk ?_; clear h) | (clear h)
  all_goals (try simp only [eta0, RT.bytes] at *)
  all_goals (try dsimp only [RT.ty] at *)
  all_goals (try simp only [ncast] at *)
  all_goals (first | rfl | omega | grind [wrap_id])
end Go.Proofs.YtfgphaokmjdcbaaGreat
