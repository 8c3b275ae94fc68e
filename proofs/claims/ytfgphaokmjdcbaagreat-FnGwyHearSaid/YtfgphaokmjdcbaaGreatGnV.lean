/-
  Contracts: what happens, drawn.
-/
import Derived.Test.YtfgphaokmjdcbaaGreatGnA
import Derived.Test.YtfgphaokmjdcbaaGreatFnP
import Derived.Test.YtfgphaokmjdcbaaGreatM3
set_option linter.unusedVariables false
set_option linter.unusedSimpArgs false
namespace Go.Proofs.YtfgphaokmjdcbaaGreat
open Go.Sx Go.Proofs Go.Mo
set_option maxRecDepth 100000
set_option maxHeartbeats 8000000
set_option linter.unusedSimpArgs false
set_option linter.unusedVariables false

theorem ncast (n : Nat) : (NatCast.natCast n : Int) = (n : Int) := rfl
/-- Numbers of an event, any; and so many draws at most. -/
theorem tmw {a n : Int} (ha : 0 ≤ a) (hb : a ≤ 1000000000000000) (hn : 1 ≤ n) : 0 ≤ (IntKind.i64.wrap (a + 1)).tmod n ∧ (IntKind.i64.wrap (a + 1)).tmod n < n := by
  rw [wrap_id (by omega) (by omega)]
  exact tm (by omega) hn
noncomputable def evRun (p : Th Int) (pre : Th Prop) (B n : Int) : Rn (V × Th Int) :=   .asrt (fun _ => pre () ∧ 0 ≤ p () ∧ p () ≤ B) (.all Int fun x0 => .all Int fun x1 => .all Int fun x2 => .all Int fun x3 => .all Int fun x4 => .all Int fun q => .asm (fun _ => p () ≤ q ∧ q ≤ p () + n) (.ret (.agg [cI x0, cI x1, cI x2, cI x3, cI x4], fun _ => q)))
noncomputable def sAskE : Sx.Spec := ⟨true, false, [.row .wld], [], fun _ p ⟨w, _⟩ => evRun p (fun _ => True) 999000001000 40⟩
noncomputable def sEventE : Sx.Spec := ⟨true, false, [.row .wld], [], fun _ p ⟨w, _⟩ => evRun p (fun _ => True) 999000000000 60⟩
noncomputable def sStoryE : Sx.Spec := ⟨true, false, [.row .wld, .int .i64, .int .i64], [], fun _ p ⟨w, _⟩ => evRun p (fun _ => True) 999000000000 60⟩
noncomputable def sLateE : Sx.Spec := ⟨true, false, [.row .wld, .int .i64], [], fun _ p ⟨w, _⟩ => evRun p (fun _ => (w ()).rows.length ≤ 20 ∧ 1 ≤ (w ()).servers.length) 999000000000 100⟩
noncomputable def sLivelyE : Sx.Spec := ⟨true, false, [.row .wld, .int .i64], [], fun _ p ⟨w, _⟩ => evRun p (fun _ => (w ()).stores.length ≤ 20) 999000000000 100⟩

theorem okAskE : SpecOk1 Tryz.prog 198 sAskE := spec1 tabOk (ss := [(97, sOrder), (39, sPick)]) ⟨okOrder, okPick, trivial⟩ rfl rfl <| by
  intro (bs : Th (List Int)) (p : Th Int) ⟨(w : Th Wld), u⟩ K hb hp0 ho h
  obtain ⟨w, rfl⟩ := th_ex w; obtain ⟨bs, rfl⟩ := th_ex bs; obtain ⟨p, rfl⟩ := th_ex p
  obtain ⟨hpre, h⟩ := h
  have hpre : True ∧ 0 ≤ p ∧ p ≤ 999000001000 := hpre.out
  have hl := okL (ho.1 _ (.tail _ (.tail _ (.tail _ (.tail _ (.tail _ (.tail _ (.head _))))))))
  refine ⟨noAnn, noAnn, 20, ?_⟩
  cbv
  repeat' first | ((with_reducible intro _); cbv) | ((with_reducible show _ ∧ _); (with_reducible apply And.intro))
  all_goals first | (refine retK (h _ _ _ _ _ _ ?_) rfl; clear h) | (with_reducible refine Ob.mk ?_; clear h) | (clear h)
  all_goals (try simp only [eta0, RT.bytes] at *)
  all_goals first | omega | grind [wrap_id]
theorem okStoryE : SpecOk1 Tryz.prog 181 sStoryE := spec1 tabOk (ss := [(39, sPick)]) ⟨okPick, trivial⟩ rfl rfl <| by
  intro (bs : Th (List Int)) (p : Th Int) ⟨(w : Th Wld), (k : Th Int), (what : Th Int), u⟩ K hb hp0 ho h
  obtain ⟨w, rfl⟩ := th_ex w; obtain ⟨k, rfl⟩ := th_ex k; obtain ⟨what, rfl⟩ := th_ex what; obtain ⟨bs, rfl⟩ := th_ex bs; obtain ⟨p, rfl⟩ := th_ex p
  obtain ⟨hpre, h⟩ := h
  have hpre : True ∧ 0 ≤ p ∧ p ≤ 999000000000 := hpre.out
  refine ⟨noAnn, noAnn, 20, ?_⟩
  cbv
  repeat' first | ((with_reducible intro _); cbv) | ((with_reducible show _ ∧ _); (with_reducible apply And.intro))
  all_goals first | (refine retK (h _ _ _ _ _ _ ?_) rfl; clear h) | (with_reducible refine Ob.mk ?_; clear h) | (clear h)
  all_goals (try simp only [eta0, RT.bytes] at *)
  all_goals first | omega | grind [wrap_id]
theorem okLateE : SpecOk1 Tryz.prog 180 sLateE := spec1 tabOk (ss := [(39, sPick), (198, sAskE), (161, sArbServer)]) ⟨okPick, okAskE, okSArbServer, trivial⟩ rfl rfl <| by
  intro (bs : Th (List Int)) (p : Th Int) ⟨(w : Th Wld), (k : Th Int), u⟩ K hb hp0 ho h
  obtain ⟨w, rfl⟩ := th_ex w; obtain ⟨k, rfl⟩ := th_ex k; obtain ⟨bs, rfl⟩ := th_ex bs; obtain ⟨p, rfl⟩ := th_ex p
  obtain ⟨hpre, h⟩ := h
  have hpre : (w.rows.length ≤ 20 ∧ 1 ≤ w.servers.length) ∧ 0 ≤ p ∧ p ≤ 999000000000 := hpre.out
  have hl := okL (ho.1 _ (.tail _ (.tail _ (.tail _ (.tail _ (.tail _ (.tail _ (.tail _ (.head _)))))))))
  refine ⟨annL [(180, 3, ⟨Th Int × Th Row × Th Int, [], fun σ g => ((σ.t 8 (.one (.att (.int .i64 g.1)))).cellsA 8 0 (encRow g.2.1)).cellC 0 1 (.att (.int .i64 g.2.2)),
      fun _ g _ => Ob fun _ => 0 ≤ g.1 () ∧ g.1 () ≤ w.rows.length ∧ p ≤ g.2.2 () ∧ g.2.2 () ≤ p + g.1 (), fun _ g _ => w.rows.length - (g.1 ()).toNat⟩),
    (180, 19, ⟨Th Int × Th Bool, [], fun σ g => σ.t 9 (.one (.att (.int .i64 g.1))), fun _ g _ => Ob fun _ => 0 ≤ g.1 () ∧ g.1 () ≤ w.net.length, fun _ g _ => w.net.length - (g.1 ()).toNat⟩)], noAnn, 20, ?_⟩
  cbv
  repeat' first | ((with_reducible refine fun (g : Th Int × Th Row × Th Int) => ?_); obtain ⟨i, r, q⟩ := g; obtain ⟨i, rfl⟩ := th_ex i; obtain ⟨r, rfl⟩ := th_ex r; obtain ⟨q, rfl⟩ := th_ex q; (with_reducible refine ImpB.out ?_); cbv; (with_reducible refine ImpB.mk ?_); intro hq; obtain ⟨hq⟩ := hq) | ((with_reducible refine fun (g : Th Int × Th Bool) => ?_); obtain ⟨j, z⟩ := g; obtain ⟨j, rfl⟩ := th_ex j; obtain ⟨z, rfl⟩ := th_ex z; (with_reducible refine ImpB.out ?_); cbv; (with_reducible refine ImpB.mk ?_); intro hq; obtain ⟨hq⟩ := hq) | ((with_reducible intro _); cbv) | ((with_reducible show _ ∧ _); (with_reducible apply And.intro))
  all_goals try ((first | (with_reducible refine LoopIn.wf (fun σ => (σ.tmI 8, rdRow σ 8, asI (σ.ce 0 1))) ?_ ?_) | (with_reducible refine LoopBack.wf (fun σ => (σ.tmI 8, rdRow σ 8, asI (σ.ce 0 1))) ?_ ?_ ?_) | (with_reducible refine LoopIn.wf (fun σ => (σ.tmI 9, noBool)) ?_ ?_) | (with_reducible refine LoopBack.wf (fun σ => (σ.tmI 9, noBool)) ?_ ?_ ?_)) <;> cbv)
  all_goals try (with_reducible show _ ∧ _; (try simp only [and_true, true_and]))
  all_goals try (with_reducible show _ ∧ _; (repeat' (with_reducible apply And.intro)))
  all_goals try (with_reducible refine MeasB.mk ?_)
  all_goals first | (refine retK (h _ _ _ _ _ _ ?_) rfl; clear h) | (with_reducible refine Ob.mk ?_; clear h) | (clear h)
  all_goals (try simp only [eta0, RT.bytes] at *)
  all_goals (first | rfl | omega | grind [wrap_id, tm, tmw])
theorem okLivelyE : SpecOk1 Tryz.prog 182 sLivelyE := spec1 tabOk (ss := [(198, sAskE), (39, sPick), (161, sArbServer)]) ⟨okAskE, okPick, okSArbServer, trivial⟩ rfl rfl <| by
  intro (bs : Th (List Int)) (p : Th Int) ⟨(w : Th Wld), (k : Th Int), u⟩ K hb hp0 ho h
  obtain ⟨w, rfl⟩ := th_ex w; obtain ⟨k, rfl⟩ := th_ex k; obtain ⟨bs, rfl⟩ := th_ex bs; obtain ⟨p, rfl⟩ := th_ex p
  obtain ⟨hpre, h⟩ := h
  have hpre : w.stores.length ≤ 20 ∧ 0 ≤ p ∧ p ≤ 999000000000 := hpre.out
  have hl := okL (ho.1 _ (.tail _ (.tail _ (.tail _ (.tail _ (.tail _ (.tail _ (.head _))))))))
  refine ⟨annL [(182, 8, ⟨Th Int × Th Int, [], fun σ g => (σ.t 7 (.one (.att (.int .i64 g.1)))).t 8 (.one (.att (.int .i64 g.2))),
      fun _ g _ => Ob fun _ => 0 ≤ g.1 () ∧ g.1 () < w.rows.length ∧ 0 ≤ g.2 () ∧ g.2 () ≤ w.rows.length, fun _ g _ => w.rows.length - (g.2 ()).toNat⟩),
    (182, 16, ⟨Th Int × Th Int × Th Int, [], fun σ g => ((σ.t 9 (.one (.att (.int .i64 g.1)))).t 10 (.one (.att (.int .i64 g.2.1)))).cellC 0 1 (.att (.int .i64 g.2.2)),
      fun _ g _ => Ob fun _ => 0 ≤ g.1 () ∧ (w.stores.length = 0 ∨ g.1 () < w.stores.length) ∧ 0 ≤ g.2.1 () ∧ g.2.1 () ≤ w.stores.length ∧ p ≤ g.2.2 () ∧ g.2.2 () ≤ p + 10 + g.2.1 (), fun _ g _ => w.stores.length - (g.2.1 ()).toNat⟩)], noAnn, 20, ?_⟩
  cbv
  repeat' first | ((with_reducible refine fun (g : Th Int × Th Int × Th Int) => ?_); obtain ⟨c, n, q⟩ := g; obtain ⟨c, rfl⟩ := th_ex c; obtain ⟨n, rfl⟩ := th_ex n; obtain ⟨q, rfl⟩ := th_ex q; (with_reducible refine ImpB.out ?_); cbv; (with_reducible refine ImpB.mk ?_); intro hq; obtain ⟨hq⟩ := hq) | ((with_reducible refine fun (g : Th Int × Th Int) => ?_); obtain ⟨i, n⟩ := g; obtain ⟨i, rfl⟩ := th_ex i; obtain ⟨n, rfl⟩ := th_ex n; (with_reducible refine ImpB.out ?_); cbv; (with_reducible refine ImpB.mk ?_); intro hq; obtain ⟨hq⟩ := hq) | ((with_reducible intro _); cbv) | ((with_reducible show _ ∧ _); (with_reducible apply And.intro))
  all_goals try ((first | (with_reducible refine LoopIn.wf (fun σ => (σ.tmI 9, σ.tmI 10, asI (σ.ce 0 1))) ?_ ?_) | (with_reducible refine LoopBack.wf (fun σ => (σ.tmI 9, σ.tmI 10, asI (σ.ce 0 1))) ?_ ?_ ?_) | (with_reducible refine LoopIn.wf (fun σ => (σ.tmI 7, σ.tmI 8)) ?_ ?_) | (with_reducible refine LoopBack.wf (fun σ => (σ.tmI 7, σ.tmI 8)) ?_ ?_ ?_)) <;> cbv)
  all_goals try (with_reducible show _ ∧ _; (try simp only [and_true, true_and]))
  all_goals try (with_reducible show _ ∧ _; (repeat' (with_reducible apply And.intro)))
  all_goals try (with_reducible refine MeasB.mk ?_)
  all_goals first | (refine retK (h _ _ _ _ _ _ ?_) rfl; clear h) | (with_reducible refine Ob.mk ?_; clear h) | (clear h)
  all_goals (try simp only [eta0, RT.bytes] at *)
  all_goals (try dsimp only [RT.ty] at *)
  all_goals (try simp only [ncast] at *)
  all_goals (first | rfl | omega | grind [wrap_id] | (have hq2 := @tmw i w.rows.length (by omega) (by omega) (by omega); have hw := @wrap_id (n + 1) (by omega) (by omega); rw [hw]; exact ⟨hq2.1, hq2.2, by omega, by omega⟩) |
    (have hq2 := @tmw c w.stores.length (by omega) (by omega) (by omega); have hw := @wrap_id (n + 1) (by omega) (by omega); rw [hw]; exact ⟨hq2.1, .inr hq2.2, by omega, by omega, by omega, by omega⟩))
end Go.Proofs.YtfgphaokmjdcbaaGreat
