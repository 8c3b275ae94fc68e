/-
  Contracts: ghosts and messages drawn.
-/
import Derived.Test.YtjdaiobeiimpfaaGreatGnX
import Derived.Test.YtjdaiobeiimpfaaGreatGnR
set_option linter.unusedVariables false
set_option linter.unusedSimpArgs false
set_option maxRecDepth 100000
set_option maxHeartbeats 8000000
namespace Go.Proofs.YtjdaiobeiimpfaaGreat
open Go.Sx Go.Proofs Go.Mo
noncomputable def sGhostE : Sx.Spec := ⟨true, false, [.map], [], fun _ p ⟨m, _⟩ => .asrt (fun _ => (True) ∧ 0 ≤ p () ∧ p () ≤ 999000000000) (.all Int fun x0 => .all Int fun x1 => .all Int fun x2 => .all Int fun x3 => .all Int fun x4 => .all Int fun x5 => .all Int fun x6 => .all Int fun q => .asm (fun _ => p () ≤ q ∧ q ≤ p () + 60) (.ret (.agg [cI x0, cI x1, cI x2, cI x3, cI x4, cI x5, cI x6], fun _ => q)))⟩
noncomputable def sMessageE : Sx.Spec := ⟨true, false, [.row .wld], [], fun _ p ⟨w, _⟩ => .asrt (fun _ => (True) ∧ 0 ≤ p () ∧ p () ≤ 998000000000) (.all Int fun x0 => .all Int fun x1 => .all Int fun x2 => .all Int fun x3 => .all Int fun x4 => .all Int fun x5 => .all Int fun x6 => .all Int fun x7 => .all Int fun x8 => .all Int fun x9 => .all Int fun x10 => .all Int fun x11 => .all Int fun x12 => .all Int fun x13 => .all Int fun x14 => .all Int fun x15 => .all Int fun x16 => .all Int fun x17 => .all Int fun x18 => .all Int fun x19 => .all Int fun x20 => .all Int fun x21 => .all Int fun x22 => .all Int fun x23 => .all Int fun x24 => .all Int fun q => .asm (fun _ => p () ≤ q ∧ q ≤ p () + 200) (.ret (.agg [cI x0, cI x1, cI x2, cI x3, cI x4, cI x5, cI x6, cI x7, cI x8, cI x9, cI x10, cI x11, cI x12, cI x13, cI x14, cI x15, cI x16, cI x17, cI x18, cI x19, cI x20, cI x21, cI x22, cI x23, cI x24], fun _ => q)))⟩
noncomputable def sBadMsgE : Sx.Spec := ⟨true, false, [.row .wld, .row .msg], [], fun _ p ⟨w, x, _⟩ => .asrt (fun _ => (True) ∧ 0 ≤ p () ∧ p () ≤ 998000000000) (.all Int fun x0 => .all Int fun x1 => .all Int fun x2 => .all Int fun x3 => .all Int fun x4 => .all Int fun x5 => .all Int fun x6 => .all Int fun x7 => .all Int fun x8 => .all Int fun x9 => .all Int fun x10 => .all Int fun x11 => .all Int fun x12 => .all Int fun x13 => .all Int fun x14 => .all Int fun x15 => .all Int fun x16 => .all Int fun x17 => .all Int fun x18 => .all Int fun x19 => .all Int fun x20 => .all Int fun x21 => .all Int fun x22 => .all Int fun x23 => .all Int fun x24 => .all Int fun q => .asm (fun _ => p () ≤ q ∧ q ≤ p () + 200) (.ret (.agg [cI x0, cI x1, cI x2, cI x3, cI x4, cI x5, cI x6, cI x7, cI x8, cI x9, cI x10, cI x11, cI x12, cI x13, cI x14, cI x15, cI x16, cI x17, cI x18, cI x19, cI x20, cI x21, cI x22, cI x23, cI x24], fun _ => q)))⟩
theorem okGhostE : SpecOk1 Tryz.prog 150 sGhostE := spec1 tabOk (ss := [(189, sWalker), (34, sPlcOk), (29, sPick), (172, sPlcCell), (190, sBadWalker)]) ⟨okWalker, okSPlcOk, okPick, okSPlcCell, okBadWalker, trivial⟩ rfl rfl <| by
 intro (bs : Th (List Int)) (p : Th Int) ⟨(m : Th PMap), u⟩ K hb hp0 ho h
 obtain ⟨m, rfl⟩ := th_ex m; obtain ⟨bs, rfl⟩ := th_ex bs; obtain ⟨p, rfl⟩ := th_ex p
 obtain ⟨hpre, h⟩ := h
 have hpre : True ∧ 0 ≤ p ∧ p ≤ 999000000000 := hpre.out
 refine ⟨noAnn, noAnn, 20, ?_⟩
 cbv
 repeat' first | ((with_reducible intro _); cbv) | (with_reducible refine And.intro ?_ ?_)
 all_goals first | (refine retK (h _ _ _ _ _ _ _ _ ?_) rfl; clear h) | (with_reducible refine Ob.mk ?_; clear h) | (clear h)
 all_goals (try simp only [eta0, RT.bytes] at *)
 all_goals (try dsimp only [RT.ty] at *)
 all_goals (try simp only [ncast] at *)
 all_goals (first | rfl | omega | grind [wrap_id])
theorem okMessageE : SpecOk1 Tryz.prog 104 sMessageE := spec1 tabOk (ss := [(29, sPick), (101, sOrder), (153, sParcel), (150, sGhostE)]) ⟨okPick, okOrder, okParcel, okGhostE, trivial⟩ rfl rfl <| by
 intro (bs : Th (List Int)) (p : Th Int) ⟨(w : Th Wld), u⟩ K hb hp0 ho h
 obtain ⟨w, rfl⟩ := th_ex w; obtain ⟨bs, rfl⟩ := th_ex bs; obtain ⟨p, rfl⟩ := th_ex p
 obtain ⟨hpre, h⟩ := h
 have hpre : True ∧ 0 ≤ p ∧ p ≤ 998000000000 := hpre.out
 refine ⟨noAnn, noAnn, 20, ?_⟩
 cbv
 repeat' first | ((with_reducible intro _); cbv) | (with_reducible refine And.intro ?_ ?_)
 all_goals first | (refine retK (h _ _ _ _ _ _ _ _ _ _ _ _ _ _ _ _ _ _ _ _ _ _ _ _ _ _ ?_) rfl; clear h) | (with_reducible refine Ob.mk ?_; clear h) | (clear h)
 all_goals (try simp only [eta0, RT.bytes] at *)
 all_goals (try dsimp only [RT.ty] at *)
 all_goals (try simp only [ncast] at *)
 all_goals (first | rfl | omega | grind [wrap_id])
theorem okBadMsgE : SpecOk1 Tryz.prog 103 sBadMsgE := spec1 tabOk (ss := [(29, sPick), (151, sAnyOrder), (152, sAnyParcel), (150, sGhostE)]) ⟨okPick, okAnyOrder, okAnyParcel, okGhostE, trivial⟩ rfl rfl <| by
 intro (bs : Th (List Int)) (p : Th Int) ⟨(w : Th Wld), (x : Th Msg), u⟩ K hb hp0 ho h
 obtain ⟨w, rfl⟩ := th_ex w; obtain ⟨x, rfl⟩ := th_ex x; obtain ⟨bs, rfl⟩ := th_ex bs; obtain ⟨p, rfl⟩ := th_ex p
 obtain ⟨hpre, h⟩ := h
 have hpre : True ∧ 0 ≤ p ∧ p ≤ 998000000000 := hpre.out
 refine ⟨noAnn, noAnn, 20, ?_⟩
 cbv
 repeat' first | ((with_reducible intro _); cbv) | (with_reducible refine And.intro ?_ ?_)
 all_goals first | (refine retK (h _ _ _ _ _ _ _ _ _ _ _ _ _ _ _ _ _ _ _ _ _ _ _ _ _ _ ?_) rfl; clear h) | (with_reducible refine Ob.mk ?_; clear h) | (clear h)
 all_goals (try simp only [eta0, RT.bytes] at *)
 all_goals (try dsimp only [RT.ty] at *)
 all_goals (try simp only [ncast] at *)
 all_goals (first | rfl | omega | grind [wrap_id])
noncomputable def nSrvA : List (Option RT) := [none, some .hld, some .gst]
noncomputable def rSrv (u : Bool) (h : List Hld) (g : List Gst) : V := .agg [.att (.bool (.of fun _ => u)), .att (.list .hld fun _ => h), .att (.list .gst fun _ => g)]
noncomputable def sServerE : Sx.Spec := ⟨true, false, [.int .i64], [nWld, nSrvA], fun _ p ⟨n, _⟩ => .asrt (fun _ => 0 ≤ p () ∧ p () ≤ 960000000000) (.all Int fun a => .all Int fun b => .all (List Srv) fun c => .all (List Sto) fun d => .all (List Int) fun e => .all (List Int) fun f => .all (List Row) fun g => .all (List Msg) fun h => .all (List Note) fun i => .all Bool fun u => .all (List Hld) fun hs => .all (List Gst) fun gs => .all Int fun q => .asm (fun _ => p () ≤ q ∧ q ≤ p () + 310000 ∧ wldOk ⟨⟨a, b⟩, c, d, ⟨e, f⟩, g, h, i⟩ = true) (.ret (.tup [rWld a b c d e f g h i, rSrv u hs gs], fun _ => q)))⟩
theorem srv_small {w : Wld} (h : wldOk w = true) {i : Nat} (hi : i < w.servers.length) : (nth .srv w.servers i).holds.length ≤ 4 ∧ (nth .srv w.servers i).ghosts.length ≤ 20 := by
 have hs := ((wldOk_iff.1 h).2.2.2.2.2.2.1 _ (nth_mem .srv hi)).1
 exact ⟨srv_few hs, (gstsOk_iff.1 (srvOk_iff.1 hs).1).2.1⟩
theorem okServerE : SpecOk1 Tryz.prog 100 sServerE := spec1 tabOk (ss := [(56, sWorld), (29, sPick), (81, sCloneV), (149, sAnyHold), (150, sGhostE)]) ⟨okWorld, okPick, okL11Copy, okAnyHold, okGhostE, trivial⟩ rfl rfl <| by
 intro (bs : Th (List Int)) (p : Th Int) ⟨(n : Th Int), u⟩ K hb hp0 ho h
 obtain ⟨n, rfl⟩ := th_ex n; obtain ⟨bs, rfl⟩ := th_ex bs; obtain ⟨p, rfl⟩ := th_ex p
 obtain ⟨hpre, h⟩ := h
 have hpre : 0 ≤ p ∧ p ≤ 960000000000 := hpre.out
 have hk : ∀ (a b : Int) (c : List Srv) (d : List Sto) (e f : List Int) (g : List Row) (h : List Msg) (i : List Note), wldOk ⟨⟨a, b⟩, c, d, ⟨e, f⟩, g, h, i⟩ = true → 1 ≤ c.length ∧ c.length ≤ 3 := fun a b c d e f g h i w => (ok_few w).2.2
 have hk2 : ∀ (a b : Int) (c : List Srv) (d : List Sto) (e f : List Int) (g : List Row) (h : List Msg) (i : List Note), wldOk ⟨⟨a, b⟩, c, d, ⟨e, f⟩, g, h, i⟩ = true → ∀ j : Int, 0 ≤ j → j < c.length → (nth .srv c j.toNat).holds.length ≤ 4 ∧ (nth .srv c j.toNat).ghosts.length ≤ 20 := fun a b c d e f g h i w j h0 h1 => srv_small w (show j.toNat < c.length by omega)
 refine ⟨noAnn, annL [(100, 8, ⟨Th Int × Th Int, [⟨.cell 8 1, some 1000000000012545, .hld⟩], fun σ g => ((σ.h 12545 (1, .row false 0 .hld (σ.rowL .hld 12545))).t 30 (.one (.att (.int .i64 g.1)))).cellC 0 1 (.att (.int .i64 g.2)), fun _ g _ => Ob fun _ => p ≤ g.2 () ∧ g.2 () ≤ p + 200010, fun _ _ _ => 0⟩)], 20, ?_⟩
 cbv
 repeat' first | ((with_reducible refine fun (g : Th Int × Th Int) => ?_); obtain ⟨k, q⟩ := g; obtain ⟨k, rfl⟩ := th_ex k; obtain ⟨q, rfl⟩ := th_ex q; (with_reducible refine ImpB.out ?_); cbv; (with_reducible refine ImpB.mk ?_); intro hq; obtain ⟨hq⟩ := hq) | ((with_reducible intro _); cbv) | (with_reducible refine And.intro ?_ ?_)
 all_goals try ((first | (with_reducible refine LoopIn.wf (fun σ => (σ.tmI 30, asI (σ.ce 0 1))) ?_ ?_) | (with_reducible refine LoopBack.wf (fun σ => (σ.tmI 30, asI (σ.ce 0 1))) ?_ ?_ ?_)) <;> cbv)
 all_goals try (with_reducible show _ ∧ _; (try simp only [and_true, true_and]))
 all_goals try (repeat' with_reducible refine And.intro ?_ ?_)
 all_goals try (with_reducible refine MeasB.mk ?_)
 all_goals first | (refine retK (h _ _ _ _ _ _ _ _ _ _ _ _ _ ?_) rfl; clear h) | (with_reducible refine Ob.mk ?_; clear h) | (clear h)
 all_goals (try simp only [eta0, RT.bytes] at *)
 all_goals (try dsimp only [RT.ty] at *)
 all_goals (try simp only [ncast] at *)
 all_goals (first | rfl | omega | grind [wrap_id])
end Go.Proofs.YtjdaiobeiimpfaaGreat
namespace Go.Sx
end Go.Sx
namespace Go.Proofs.YtjdaiobeiimpfaaGreat
open Go.Sx Go.Proofs Go.Mo
end Go.Proofs.YtjdaiobeiimpfaaGreat
