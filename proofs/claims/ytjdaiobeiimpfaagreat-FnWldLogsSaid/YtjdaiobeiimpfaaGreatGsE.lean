/-
  Contracts: a world and an event, drawn.
-/
import Derived.Test.YtjdaiobeiimpfaaGreatGrAh
import Derived.Test.YtjdaiobeiimpfaaGreatGnJ
import Derived.Test.YtjdaiobeiimpfaaGreatM7
set_option linter.unusedVariables false
set_option linter.unusedSimpArgs false
set_option maxRecDepth 100000
set_option maxHeartbeats 8000000
namespace Go.Proofs.YtjdaiobeiimpfaaGreat
open Go.Sx Go.Proofs Go.Mo
noncomputable def anyWld (p : Th Int) (B n : Int) : Rn (V × Th Int) := .asrt (fun _ => 0 ≤ p () ∧ p () ≤ B) (.all Int fun a => .all Int fun b => .all (List Srv) fun c => .all (List Sto) fun d => .all (List Int) fun e => .all (List Int) fun f => .all (List Row) fun g => .all (List Msg) fun h => .all (List Note) fun i => .all Int fun q => .asm (fun _ => p () ≤ q ∧ q ≤ p () + n) (.ret (rWld a b c d e f g h i, fun _ => q)))
noncomputable def sSpoilE : Sx.Spec := ⟨true, false, [.row .wld], [nWld], fun _ p ⟨w, _⟩ => .asrt (fun _ => wldOk (w ()) = true) (anyWld p 950000000000 400000)⟩
noncomputable def sAnyE : Sx.Spec := ⟨true, false, [.int .i64], [nWld], fun _ p ⟨n, _⟩ => anyWld p 940000000000 700000⟩
noncomputable def sDrawStepE : Sx.Spec := ⟨false, false, [.list .byte], [nWld, [none, none, none, none, none]], fun _ _ _ => .all Int fun a => .all Int fun b => .all (List Srv) fun c => .all (List Sto) fun d => .all (List Int) fun e => .all (List Int) fun f => .all (List Row) fun g => .all (List Msg) fun h => .all (List Note) fun i => .all Int fun x0 => .all Int fun x1 => .all Int fun x2 => .all Int fun x3 => .all Int fun x4 => .ret (.tup [rWld a b c d e f g h i, .agg [cI x0, cI x1, cI x2, cI x3, cI x4]], fun _ => 0)⟩
theorem okSpoilE : SpecOk1 Tryz.prog 57 sSpoilE := spec1 tabOk (ss := [(33, sWCopy), (29, sPick), (99, sMap), (100, sServerE), (101, sOrder), (102, sBookE), (104, sMessageE), (103, sBadMsgE)]) ⟨okL13Copy, okPick, okMap, okServerE, okOrder, okBookE, okMessageE, okBadMsgE, trivial⟩ rfl rfl <| by
 intro (bs : Th (List Int)) (p : Th Int) ⟨(w : Th Wld), u⟩ K hb hp0 ho h
 obtain ⟨w, rfl⟩ := th_ex w; obtain ⟨bs, rfl⟩ := th_ex bs; obtain ⟨p, rfl⟩ := th_ex p
 obtain ⟨hwk, hpre, h⟩ := h
 have hwk : wldOk w = true := hwk.out
 have hpre : 0 ≤ p ∧ p ≤ 950000000000 := hpre.out
 have hF := wld_facts hwk
 have hf := sto_few hwk
 have hz : w.servers.length ≤ 3 ∧ w.notes.length ≤ 150 ∧ w.stores.length ≤ 4 ∧ w.net.length ≤ 40 := ⟨hF.2.2.2.2.2.2.2.2, hF.2.2.2.2.1, hf.1, hF.2.2.2.1⟩
 have hR := fun (i : Int) (h1 : i < (w.stores.length : Int)) (h0 : 0 ≤ i) => (hf.2.2 i.toNat (by omega)).2
 clear hF
 refine ⟨noAnn, annL [(57, 7, ⟨Th Bool × Th Bool, [⟨.cell 4 2, some 1000000000007426, .srv⟩], fun σ g => (σ.h 7426 (1, .row false 0 .srv (σ.rowL .srv 7426))).t 26 (.one (.att (.bool (.of g.1)))), fun _ g _ => Ob fun _ => True, fun _ _ _ => 0⟩)], 20, ?_⟩
 cbv
 repeat' first | ((with_reducible refine fun (g : Th Bool × Th Bool) => ?_); obtain ⟨k, z⟩ := g; obtain ⟨k, rfl⟩ := th_ex k; obtain ⟨z, rfl⟩ := th_ex z; (with_reducible refine ImpB.out ?_); cbv; (with_reducible refine ImpB.mk ?_); intro hq; obtain ⟨hq⟩ := hq) | ((with_reducible intro _); cbv) | (with_reducible refine And.intro ?_ ?_)
 all_goals try ((first | (with_reducible refine LoopIn.wf (fun σ => (σ.tmB 26, noBool)) ?_ ?_) | (with_reducible refine LoopBack.wf (fun σ => (σ.tmB 26, noBool)) ?_ ?_ ?_)) <;> cbv)
 all_goals try (with_reducible show _ ∧ _; (try simp only [and_true, true_and]))
 all_goals try (repeat' with_reducible refine And.intro ?_ ?_)
 all_goals try (with_reducible refine MeasB.mk ?_)
 all_goals first | (refine retK (h _ _ _ _ _ _ _ _ _ _ ?_) rfl; clear h) | (with_reducible refine Ob.mk ?_; clear h) | (clear h)
 all_goals (try simp only [eta0, RT.bytes] at *)
 all_goals (try dsimp only [RT.ty] at *)
 all_goals (try simp only [ncast] at *)
 all_goals (try simp only [List.length_append, List.length_cons, List.length_nil] at *)
 all_goals (first | rfl | omega | grind [wrap_id] | (have hR2 := hR _ (by assumption) (by omega); dsimp only [RT.ty] at *; omega) | (trace_state; sorry))
theorem okAnyE : SpecOk1 Tryz.prog 27 sAnyE := spec1 tabOk (ss := [(56, sWorld), (29, sPick), (57, sSpoilE)]) ⟨okWorld, okPick, okSpoilE, trivial⟩ rfl rfl <| by
 intro (bs : Th (List Int)) (p : Th Int) ⟨(n : Th Int), u⟩ K hb hp0 ho h
 obtain ⟨n, rfl⟩ := th_ex n; obtain ⟨bs, rfl⟩ := th_ex bs; obtain ⟨p, rfl⟩ := th_ex p
 obtain ⟨hpre, h⟩ := h
 have hpre : 0 ≤ p ∧ p ≤ 940000000000 := hpre.out
 refine ⟨noAnn, noAnn, 20, ?_⟩
 cbv
 repeat' first | ((with_reducible intro _); cbv) | (with_reducible refine And.intro ?_ ?_)
 all_goals first | (refine retK (h _ _ _ _ _ _ _ _ _ _ ?_) rfl; clear h) | (with_reducible refine Ob.mk ?_; clear h) | (clear h)
 all_goals (try simp only [eta0, RT.bytes] at *)
 all_goals (try dsimp only [RT.ty] at *)
 all_goals (try simp only [ncast] at *)
 all_goals (first | rfl | omega | grind [wrap_id])
theorem okDrawStepE : SpecOk1 Tryz.prog 9 sDrawStepE := spec1 tabOk (ss := [(27, sAnyE), (28, sEventE), (29, sPick)]) ⟨okAnyE, okEventE, okPick, trivial⟩ rfl rfl <| by
 intro (bs : Th (List Int)) (p : Th Int) ⟨(l : Th (List Int)), u⟩ K hb hp0 ho h
 obtain ⟨l, rfl⟩ := th_ex l
 refine ⟨noAnn, noAnn, 20, ?_⟩
 cbv
 repeat' first | ((with_reducible intro _); cbv) | (with_reducible refine And.intro ?_ ?_)
 all_goals first | (refine retK (h _ _ _ _ _ _ _ _ _ _ _ _ _ _) rfl; clear h) | (refine retK (h _ _ _ _ _ _ _ _ _ _ _ _ _ _) rfl) | (with_reducible refine Ob.mk ?_; clear h) | (clear h)
 all_goals (try simp only [eta0, RT.bytes] at *)
 all_goals (try dsimp only [RT.ty] at *)
 all_goals (try simp only [ncast] at *)
 all_goals (first | rfl | omega | grind [wrap_id])
end Go.Proofs.YtjdaiobeiimpfaaGreat
