/-
  Contracts: ghosts and messages drawn.
-/
import Derived.Test.YtfgphaokmjdcbaaGreatGnX
import Derived.Test.YtfgphaokmjdcbaaGreatFoF
import Derived.Test.YtfgphaokmjdcbaaGreatGnE
import Derived.Test.YtfgphaokmjdcbaaGreatInsG
import Derived.Test.YtfgphaokmjdcbaaGreatM2
set_option linter.unusedVariables false
set_option linter.unusedSimpArgs false
namespace Go.Proofs.YtfgphaokmjdcbaaGreat
open Go.Sx Go.Proofs Go.Mo
set_option maxRecDepth 100000
set_option maxHeartbeats 8000000
set_option linter.unusedSimpArgs false
set_option linter.unusedVariables false

noncomputable def sGhostE : Sx.Spec := ⟨true, false, [.map], [], fun _ p ⟨m, _⟩ => .asrt (fun _ => (True) ∧ 0 ≤ p () ∧ p () ≤ 999000000000) (.all Int fun x0 => .all Int fun x1 => .all Int fun x2 => .all Int fun x3 => .all Int fun x4 => .all Int fun x5 => .all Int fun x6 => .all Int fun q => .asm (fun _ => p () ≤ q ∧ q ≤ p () + 60) (.ret (.agg [cI x0, cI x1, cI x2, cI x3, cI x4, cI x5, cI x6], fun _ => q)))⟩
noncomputable def sMessageE : Sx.Spec := ⟨true, false, [.row .wld], [], fun _ p ⟨w, _⟩ => .asrt (fun _ => (True) ∧ 0 ≤ p () ∧ p () ≤ 998000000000) (.all Int fun x0 => .all Int fun x1 => .all Int fun x2 => .all Int fun x3 => .all Int fun x4 => .all Int fun x5 => .all Int fun x6 => .all Int fun x7 => .all Int fun x8 => .all Int fun x9 => .all Int fun x10 => .all Int fun x11 => .all Int fun x12 => .all Int fun x13 => .all Int fun x14 => .all Int fun x15 => .all Int fun x16 => .all Int fun x17 => .all Int fun x18 => .all Int fun x19 => .all Int fun x20 => .all Int fun x21 => .all Int fun x22 => .all Int fun x23 => .all Int fun x24 => .all Int fun q => .asm (fun _ => p () ≤ q ∧ q ≤ p () + 200) (.ret (.agg [cI x0, cI x1, cI x2, cI x3, cI x4, cI x5, cI x6, cI x7, cI x8, cI x9, cI x10, cI x11, cI x12, cI x13, cI x14, cI x15, cI x16, cI x17, cI x18, cI x19, cI x20, cI x21, cI x22, cI x23, cI x24], fun _ => q)))⟩
noncomputable def sBadMsgE : Sx.Spec := ⟨true, false, [.row .wld, .row .msg], [], fun _ p ⟨w, x, _⟩ => .asrt (fun _ => (True) ∧ 0 ≤ p () ∧ p () ≤ 998000000000) (.all Int fun x0 => .all Int fun x1 => .all Int fun x2 => .all Int fun x3 => .all Int fun x4 => .all Int fun x5 => .all Int fun x6 => .all Int fun x7 => .all Int fun x8 => .all Int fun x9 => .all Int fun x10 => .all Int fun x11 => .all Int fun x12 => .all Int fun x13 => .all Int fun x14 => .all Int fun x15 => .all Int fun x16 => .all Int fun x17 => .all Int fun x18 => .all Int fun x19 => .all Int fun x20 => .all Int fun x21 => .all Int fun x22 => .all Int fun x23 => .all Int fun x24 => .all Int fun q => .asm (fun _ => p () ≤ q ∧ q ≤ p () + 200) (.ret (.agg [cI x0, cI x1, cI x2, cI x3, cI x4, cI x5, cI x6, cI x7, cI x8, cI x9, cI x10, cI x11, cI x12, cI x13, cI x14, cI x15, cI x16, cI x17, cI x18, cI x19, cI x20, cI x21, cI x22, cI x23, cI x24], fun _ => q)))⟩

theorem okGhostE : SpecOk1 Tryz.prog 99 sGhostE := spec1 tabOk (ss := [(146, sWalker), (45, sPlcOk), (39, sPick), (103, sPlcCell), (147, sBadWalker)]) ⟨okWalker, okSPlcOk, okPick, okSPlcCell, okBadWalker, trivial⟩ rfl rfl <| by
  intro (bs : Th (List Int)) (p : Th Int) ⟨(m : Th PMap), u⟩ K hb hp0 ho h
  obtain ⟨m, rfl⟩ := th_ex m; obtain ⟨bs, rfl⟩ := th_ex bs; obtain ⟨p, rfl⟩ := th_ex p
  obtain ⟨hpre, h⟩ := h
  have hpre : True ∧ 0 ≤ p ∧ p ≤ 999000000000 := hpre.out
  refine ⟨noAnn, noAnn, 20, ?_⟩
  cbv
  repeat' first | ((with_reducible intro _); cbv) | ((with_reducible show _ ∧ _); (with_reducible apply And.intro))
  all_goals first | (refine retK (h _ _ _ _ _ _ _ _ ?_) rfl; clear h) | (with_reducible refine Ob.mk ?_; clear h) | (clear h)
  all_goals (try simp only [eta0, RT.bytes] at *)
  all_goals (try dsimp only [RT.ty] at *)
  all_goals (try simp only [ncast] at *)
  all_goals (first | rfl | omega | grind [wrap_id])
theorem okMessageE : SpecOk1 Tryz.prog 38 sMessageE := spec1 tabOk (ss := [(39, sPick), (97, sOrder), (98, sParcel), (99, sGhostE)]) ⟨okPick, okOrder, okParcel, okGhostE, trivial⟩ rfl rfl <| by
  intro (bs : Th (List Int)) (p : Th Int) ⟨(w : Th Wld), u⟩ K hb hp0 ho h
  obtain ⟨w, rfl⟩ := th_ex w; obtain ⟨bs, rfl⟩ := th_ex bs; obtain ⟨p, rfl⟩ := th_ex p
  obtain ⟨hpre, h⟩ := h
  have hpre : True ∧ 0 ≤ p ∧ p ≤ 998000000000 := hpre.out
  refine ⟨noAnn, noAnn, 20, ?_⟩
  cbv
  repeat' first | ((with_reducible intro _); cbv) | ((with_reducible show _ ∧ _); (with_reducible apply And.intro))
  all_goals first | (refine retK (h _ _ _ _ _ _ _ _ _ _ _ _ _ _ _ _ _ _ _ _ _ _ _ _ _ _ ?_) rfl; clear h) | (with_reducible refine Ob.mk ?_; clear h) | (clear h)
  all_goals (try simp only [eta0, RT.bytes] at *)
  all_goals (try dsimp only [RT.ty] at *)
  all_goals (try simp only [ncast] at *)
  all_goals (first | rfl | omega | grind [wrap_id])
theorem okBadMsgE : SpecOk1 Tryz.prog 40 sBadMsgE := spec1 tabOk (ss := [(39, sPick), (96, sAnyOrder), (100, sAnyParcel), (99, sGhostE)]) ⟨okPick, okAnyOrder, okAnyParcel, okGhostE, trivial⟩ rfl rfl <| by
  intro (bs : Th (List Int)) (p : Th Int) ⟨(w : Th Wld), (x : Th Msg), u⟩ K hb hp0 ho h
  obtain ⟨w, rfl⟩ := th_ex w; obtain ⟨x, rfl⟩ := th_ex x; obtain ⟨bs, rfl⟩ := th_ex bs; obtain ⟨p, rfl⟩ := th_ex p
  obtain ⟨hpre, h⟩ := h
  have hpre : True ∧ 0 ≤ p ∧ p ≤ 998000000000 := hpre.out
  refine ⟨noAnn, noAnn, 20, ?_⟩
  cbv
  repeat' first | ((with_reducible intro _); cbv) | ((with_reducible show _ ∧ _); (with_reducible apply And.intro))
  all_goals first | (refine retK (h _ _ _ _ _ _ _ _ _ _ _ _ _ _ _ _ _ _ _ _ _ _ _ _ _ _ ?_) rfl; clear h) | (with_reducible refine Ob.mk ?_; clear h) | (clear h)
  all_goals (try simp only [eta0, RT.bytes] at *)
  all_goals (try dsimp only [RT.ty] at *)
  all_goals (try simp only [ncast] at *)
  all_goals (first | rfl | omega | grind [wrap_id])
end Go.Proofs.YtfgphaokmjdcbaaGreat

/-
  Contracts: what is drawn: holds.
-/
namespace Go.Mo
open Go.Sx
theorem open_small {m : PMap} {s : Sto} {a : Int} : small (hldOpen m s a).h.state.wlks (hldOpen m s a).h.state.outs := by
  unfold hldOpen
  split
  · rename_i h1
    split
    · exact small_nil (Nat.zero_le _)
    · exact small_ok (state_ok h1.1)
  · exact small_nil (Nat.zero_le _)
theorem open_len {m : PMap} {s : Sto} {a : Int} : (hldOpen m s a).s.recs.length ≤ s.recs.length := by
  unfold hldOpen
  split
  · split
    · exact Nat.le_refl _
    · exact Nat.le_refl _
  · exact Nat.zero_le _
theorem open_count {m : PMap} {s : Sto} {a : Int} : 0 ≤ (hldOpen m s a).h.count ∧ (hldOpen m s a).h.count ≤ 250 := by
  unfold hldOpen
  split
  · rename_i h1
    have := (stoOk_iff.1 h1.1).2.2.1
    split
    · show (0 : Int) ≤ 0 ∧ (0 : Int) ≤ 250
      decide
    · simp
      omega
  · show (0 : Int) ≤ 0 ∧ (0 : Int) ≤ 250
    decide
end Go.Mo
namespace Go.Proofs.YtfgphaokmjdcbaaGreat
open Go.Sx Go.Proofs Go.Mo
set_option maxRecDepth 100000
set_option maxHeartbeats 8000000
set_option linter.unusedSimpArgs false
set_option linter.unusedVariables false

def rH (g h a : Int) (b : List Wlk) (c : Int) (d : List (List Pcl)) (e f : List Int) : V := .agg [cI g, cI h, cI a, .att (.list .wlk fun _ => b), cI c, .att (.list .pcls fun _ => d), .att (.list .int fun _ => e), .att (.list .int fun _ => f)]
noncomputable def sHold : Sx.Spec := ⟨true, false, [], [[none, none], nSto, nHld], fun _ p _ => .asrt (fun _ => 0 ≤ p () ∧ p () ≤ 999999970000) (.all Int fun x => .all Int fun y => .all Int fun g => .all Int fun a => .all (List Wlk) fun b => .all Int fun c => .all (List (List Pcl)) fun d => .all (List Int) fun e => .all (List Int) fun f => .all (List Sx.Rec) fun l => .all Int fun g1 => .all Int fun g2 => .all Int fun a1 => .all (List Wlk) fun b1 => .all Int fun c1 => .all (List (List Pcl)) fun d1 => .all (List Int) fun e1 => .all (List Int) fun f1 => .all Int fun q => .asm (fun _ => p () ≤ q ∧ q ≤ p () + 6000 ∧ small b1 d1 ∧ 0 ≤ g2 ∧ g2 ≤ 250) (.ret (.tup [.agg [cI x, cI y], rS g a b c d e f l, rH g1 g2 a1 b1 c1 d1 e1 f1], fun _ => q)))⟩
noncomputable def sAnyHold : Sx.Spec := ⟨true, false, [.int .i64], [[none, none], nSto, nHld], fun _ p ⟨n, _⟩ => .asrt (fun _ => 0 ≤ p () ∧ p () ≤ 999999960000) (.all Int fun x => .all Int fun y => .all Int fun g => .all Int fun a => .all (List Wlk) fun b => .all Int fun c => .all (List (List Pcl)) fun d => .all (List Int) fun e => .all (List Int) fun f => .all (List Sx.Rec) fun l => .all Int fun g1 => .all Int fun g2 => .all Int fun a1 => .all (List Wlk) fun b1 => .all Int fun c1 => .all (List (List Pcl)) fun d1 => .all (List Int) fun e1 => .all (List Int) fun f1 => .all Int fun q => .asm (fun _ => p () ≤ q ∧ q ≤ p () + 7000) (.ret (.tup [.agg [cI x, cI y], rS g a b c d e f l, rH g1 g2 a1 b1 c1 d1 e1 f1], fun _ => q)))⟩
theorem okHold : SpecOk1 Tryz.prog 150 sHold := spec1 tabOk (ss := [(186, sStore), (117, sHldOpen), (39, sPick), (187, sPlaysO)]) ⟨okStore, okSHldOpen, okPick, okPlaysO, trivial⟩ rfl rfl <| by
  intro (bs : Th (List Int)) (p : Th Int) u K hb hp0 ho h
  obtain ⟨bs, rfl⟩ := th_ex bs; obtain ⟨p, rfl⟩ := th_ex p
  obtain ⟨hpre, h⟩ := h
  have hpre : 0 ≤ p ∧ p ≤ 999999970000 := hpre.out
  refine ⟨noAnn, noAnn, 20, ?_⟩
  cbv
  repeat' first | ((with_reducible intro _); cbv) | ((with_reducible show _ ∧ _); (with_reducible apply And.intro))
  all_goals first | (refine retK (h _ _ _ _ _ _ _ _ _ _ _ _ _ _ _ _ _ _ _ ?_) rfl; clear h) | (with_reducible refine Ob.mk ?_; clear h) | (clear h)
  all_goals (try simp only [eta0, RT.bytes] at *)
  all_goals first | omega | exact ⟨by omega, by omega, open_small, open_count.1, open_count.2⟩ | grind [wrap_id, open_len]

theorem okAnyHold : SpecOk1 Tryz.prog 106 sAnyHold := spec1 tabOk (ss := [(150, sHold), (39, sPick), (151, sBadCell), (152, sMap)]) ⟨okHold, okPick, okBadCell, okMap, trivial⟩ rfl rfl <| by
  intro (bs : Th (List Int)) (p : Th Int) ⟨(n : Th Int), u⟩ K hb hp0 ho h
  obtain ⟨n, rfl⟩ := th_ex n; obtain ⟨bs, rfl⟩ := th_ex bs; obtain ⟨p, rfl⟩ := th_ex p
  obtain ⟨hpre, h⟩ := h
  have hpre : 0 ≤ p ∧ p ≤ 999999960000 := hpre.out
  refine ⟨noAnn, noAnn, 20, ?_⟩
  cbv
  repeat' first | ((with_reducible intro _); cbv) | ((with_reducible show _ ∧ _); (with_reducible apply And.intro))
  all_goals first | (refine retK (h _ _ _ _ _ _ _ _ _ _ _ _ _ _ _ _ _ _ _ ?_) rfl; clear h) | (with_reducible refine Ob.mk ?_; clear h) | (clear h)
  all_goals (try simp only [eta0, RT.bytes] at *)
  all_goals first | omega | grind [wrap_id]

end Go.Proofs.YtfgphaokmjdcbaaGreat

/-
  Contracts: a server drawn, with a table and a cell.
-/
namespace Go.Proofs.YtfgphaokmjdcbaaGreat
open Go.Sx Go.Proofs Go.Mo
set_option maxRecDepth 100000
set_option maxHeartbeats 8000000
set_option linter.unusedSimpArgs false
set_option linter.unusedVariables false

noncomputable def nSrvA : List (Option RT) := [none, some .hld, some .gst]
noncomputable def rSrv (u : Bool) (h : List Hld) (g : List Gst) : V := .agg [.att (.bool (.of fun _ => u)), .att (.list .hld fun _ => h), .att (.list .gst fun _ => g)]
noncomputable def sServerE : Sx.Spec := ⟨true, false, [.int .i64], [nWld, nSrvA], fun _ p ⟨n, _⟩ => .asrt (fun _ => 0 ≤ p () ∧ p () ≤ 960000000000) (.all Int fun a => .all Int fun b => .all (List Srv) fun c => .all (List Sto) fun d => .all (List Int) fun e => .all (List Int) fun f => .all (List Row) fun g => .all (List Msg) fun h => .all (List Note) fun i => .all Bool fun u => .all (List Hld) fun hs => .all (List Gst) fun gs => .all Int fun q => .asm (fun _ => p () ≤ q ∧ q ≤ p () + 310000 ∧ wldOk ⟨⟨a, b⟩, c, d, ⟨e, f⟩, g, h, i⟩ = true) (.ret (.tup [rWld a b c d e f g h i, rSrv u hs gs], fun _ => q)))⟩
theorem srv_small {w : Wld} (h : wldOk w = true) {i : Nat} (hi : i < w.servers.length) : (nth .srv w.servers i).holds.length ≤ 4 ∧ (nth .srv w.servers i).ghosts.length ≤ 20 := by
  have hs := ((wldOk_iff.1 h).2.2.2.2.2.2.1 _ (nth_mem .srv hi)).1
  exact ⟨srv_few hs, (gstsOk_iff.1 (srvOk_iff.1 hs).1).2.1⟩
theorem okServerE : SpecOk1 Tryz.prog 58 sServerE := spec1 tabOk (ss := [(95, sWorld), (39, sPick), (68, sCloneV), (106, sAnyHold), (99, sGhostE)]) ⟨okWorld, okPick, okL11Copy, okAnyHold, okGhostE, trivial⟩ rfl rfl <| by
  intro (bs : Th (List Int)) (p : Th Int) ⟨(n : Th Int), u⟩ K hb hp0 ho h
  obtain ⟨n, rfl⟩ := th_ex n; obtain ⟨bs, rfl⟩ := th_ex bs; obtain ⟨p, rfl⟩ := th_ex p
  obtain ⟨hpre, h⟩ := h
  have hpre : 0 ≤ p ∧ p ≤ 960000000000 := hpre.out
  have hk : ∀ (a b : Int) (c : List Srv) (d : List Sto) (e f : List Int) (g : List Row) (h : List Msg) (i : List Note), wldOk ⟨⟨a, b⟩, c, d, ⟨e, f⟩, g, h, i⟩ = true → 1 ≤ c.length ∧ c.length ≤ 3 := fun a b c d e f g h i w => (ok_few w).2.2
  have hk2 : ∀ (a b : Int) (c : List Srv) (d : List Sto) (e f : List Int) (g : List Row) (h : List Msg) (i : List Note), wldOk ⟨⟨a, b⟩, c, d, ⟨e, f⟩, g, h, i⟩ = true → ∀ j : Int, 0 ≤ j → j < c.length → (nth .srv c j.toNat).holds.length ≤ 4 ∧ (nth .srv c j.toNat).ghosts.length ≤ 20 := fun a b c d e f g h i w j h0 h1 => srv_small w (show j.toNat < c.length by omega)
  refine ⟨noAnn, annL [(58, 8, ⟨Th Int × Th Int, [⟨.cell 8 1, some 1000000000012545, .hld⟩], fun σ g => ((σ.h 12545 (1, .row false 0 .hld (σ.rowL .hld 12545))).t 30 (.one (.att (.int .i64 g.1)))).cellC 0 1 (.att (.int .i64 g.2)), fun _ g _ => Ob fun _ => p ≤ g.2 () ∧ g.2 () ≤ p + 200010, fun _ _ _ => 0⟩)], 20, ?_⟩
  cbv
  repeat' first | ((with_reducible refine fun (g : Th Int × Th Int) => ?_); obtain ⟨k, q⟩ := g; obtain ⟨k, rfl⟩ := th_ex k; obtain ⟨q, rfl⟩ := th_ex q; (with_reducible refine ImpB.out ?_); cbv; (with_reducible refine ImpB.mk ?_); intro hq; obtain ⟨hq⟩ := hq) | ((with_reducible intro _); cbv) | ((with_reducible show _ ∧ _); (with_reducible apply And.intro))
  all_goals try ((first | (with_reducible refine LoopIn.wf (fun σ => (σ.tmI 30, asI (σ.ce 0 1))) ?_ ?_) | (with_reducible refine LoopBack.wf (fun σ => (σ.tmI 30, asI (σ.ce 0 1))) ?_ ?_ ?_)) <;> cbv)
  all_goals try (with_reducible show _ ∧ _; (try simp only [and_true, true_and]))
  all_goals try (with_reducible show _ ∧ _; (repeat' (with_reducible apply And.intro)))
  all_goals try (with_reducible refine MeasB.mk ?_)
  all_goals first | (refine retK (h _ _ _ _ _ _ _ _ _ _ _ _ _ ?_) rfl; clear h) | (with_reducible refine Ob.mk ?_; clear h) | (clear h)
  all_goals (try simp only [eta0, RT.bytes] at *)
  all_goals (try dsimp only [RT.ty] at *)
  all_goals (try simp only [ncast] at *)
  all_goals (first | rfl | omega | grind [wrap_id])
end Go.Proofs.YtfgphaokmjdcbaaGreat

/-
  Contracts: a server and a message drawn. Begun by genGrA.
-/
namespace Go.Sx
def mkMsg (x0 x1 x2 x3 x4 x5 x6 x7 x8 x9 x10 x11 x12 x13 x14 x15 x16 x17 x18 x19 x20 x21 x22 x23 x24 : Th Int) : Th Msg := fun _ => ⟨x0 (), x1 (), x2 (), x3 (), x4 (), ⟨x5 (), x6 (), x7 (), x8 (), x9 ()⟩, ⟨x10 (), x11 (), ⟨x12 (), x13 (), x14 (), x15 (), x16 ()⟩, x17 ()⟩, ⟨x18 (), x19 (), ⟨x20 (), x21 (), x22 (), x23 (), x24 ()⟩⟩⟩
def rdMsg (σ : St) (k : Nat) : Th Msg := mkMsg (asI (σ.ce k 0)) (asI (σ.ce k 1)) (asI (σ.ce k 2)) (asI (σ.ce k 3)) (asI (σ.ce k 4)) (asI (σ.ce k 5)) (asI (σ.ce k 6)) (asI (σ.ce k 7)) (asI (σ.ce k 8)) (asI (σ.ce k 9)) (asI (σ.ce k 10)) (asI (σ.ce k 11)) (asI (σ.ce k 12)) (asI (σ.ce k 13)) (asI (σ.ce k 14)) (asI (σ.ce k 15)) (asI (σ.ce k 16)) (asI (σ.ce k 17)) (asI (σ.ce k 18)) (asI (σ.ce k 19)) (asI (σ.ce k 20)) (asI (σ.ce k 21)) (asI (σ.ce k 22)) (asI (σ.ce k 23)) (asI (σ.ce k 24))
def mkSrvT (a : Th Bool) (b : Th (List Hld)) (c : Th (List Gst)) : Th Srv := fun _ => ⟨a (), b (), c ()⟩
def rdSrv (σ : St) (k : Nat) : Th Srv := mkSrvT (asB (σ.ce k 0)) (asL .hld (σ.ce k 1)) (asL .gst (σ.ce k 2))
end Go.Sx
namespace Go.Proofs.YtfgphaokmjdcbaaGreat
open Go.Sx Go.Proofs Go.Mo
set_option maxRecDepth 100000
set_option maxHeartbeats 8000000
set_option linter.unusedSimpArgs false
set_option linter.unusedVariables false

noncomputable def sNearE : Sx.Spec := ⟨true, false, [.row .srv, .row .msg], [], fun _ p ⟨s, x, _⟩ => .asrt (fun _ => 0 < (s ()).holds.length ∧ 0 ≤ p () ∧ p () ≤ 998000000000) (.all Int fun x0 => .all Int fun x1 => .all Int fun x2 => .all Int fun x3 => .all Int fun x4 => .all Int fun x5 => .all Int fun x6 => .all Int fun x7 => .all Int fun x8 => .all Int fun x9 => .all Int fun x10 => .all Int fun x11 => .all Int fun x12 => .all Int fun x13 => .all Int fun x14 => .all Int fun x15 => .all Int fun x16 => .all Int fun x17 => .all Int fun x18 => .all Int fun x19 => .all Int fun x20 => .all Int fun x21 => .all Int fun x22 => .all Int fun x23 => .all Int fun x24 => .all Int fun q => .asm (fun _ => p () ≤ q ∧ q ≤ p () + 200) (.ret (.agg [cI x0, cI x1, cI x2, cI x3, cI x4, cI x5, cI x6, cI x7, cI x8, cI x9, cI x10, cI x11, cI x12, cI x13, cI x14, cI x15, cI x16, cI x17, cI x18, cI x19, cI x20, cI x21, cI x22, cI x23, cI x24], fun _ => q)))⟩
noncomputable def sDrawSrvHearE : Sx.Spec := ⟨false, false, [.list .byte], [[none, none], nSrvA, [some .sto], [some .int, some .int], [none], [none, none, none, none, none, none, none, none, none, none, none, none, none, none, none, none, none, none, none, none, none, none, none, none, none]], fun _ _ _ => .all Int fun a => .all Int fun b => .all Bool fun u => .all (List Hld) fun hs => .all (List Gst) fun gs => .all (List Sto) fun d => .all (List Int) fun e => .all (List Int) fun f => .all Int fun v => .all Int fun x0 => .all Int fun x1 => .all Int fun x2 => .all Int fun x3 => .all Int fun x4 => .all Int fun x5 => .all Int fun x6 => .all Int fun x7 => .all Int fun x8 => .all Int fun x9 => .all Int fun x10 => .all Int fun x11 => .all Int fun x12 => .all Int fun x13 => .all Int fun x14 => .all Int fun x15 => .all Int fun x16 => .all Int fun x17 => .all Int fun x18 => .all Int fun x19 => .all Int fun x20 => .all Int fun x21 => .all Int fun x22 => .all Int fun x23 => .all Int fun x24 => .ret (.tup [.agg [cI a, cI b], rSrv u hs gs, vL .sto fun _ => d, .agg [.att (.list .int fun _ => e), .att (.list .int fun _ => f)], .one (cI v), .agg [cI x0, cI x1, cI x2, cI x3, cI x4, cI x5, cI x6, cI x7, cI x8, cI x9, cI x10, cI x11, cI x12, cI x13, cI x14, cI x15, cI x16, cI x17, cI x18, cI x19, cI x20, cI x21, cI x22, cI x23, cI x24]], fun _ => 0)⟩

theorem draw_facts {w : Wld} (h : wldOk w = true) : 1 ≤ w.stores.length ∧ (0 < w.net.length → (nth .msg w.net 0).dest < w.servers.length) := by
  obtain ⟨h1, h2, h3, h4, h5, h6, h7, h8, h9⟩ := wldOk_iff.1 h
  have g1 := stosOk_iff.1 h2
  have g2 := plcOk_iff.1 g1.1
  refine ⟨by omega, fun hn => ?_⟩
  have := (h8 _ (nth_mem .msg hn)).1
  simp only [msgOk, msgKind, decide_eq_true_eq] at this
  try dsimp only [RT.ty] at *
  omega
theorem okNearE : SpecOk1 Tryz.prog 59 sNearE := spec1 tabOk (ss := [(39, sPick), (97, sOrder)]) ⟨okPick, okOrder, trivial⟩ rfl rfl <| by
  intro (bs : Th (List Int)) (p : Th Int) ⟨(s : Th Srv), (x : Th Msg), u⟩ K hb hp0 ho h
  obtain ⟨s, rfl⟩ := th_ex s; obtain ⟨x, rfl⟩ := th_ex x; obtain ⟨bs, rfl⟩ := th_ex bs; obtain ⟨p, rfl⟩ := th_ex p
  obtain ⟨hpre, h⟩ := h
  have hpre : 0 < s.holds.length ∧ 0 ≤ p ∧ p ≤ 998000000000 := hpre.out
  refine ⟨noAnn, noAnn, 20, ?_⟩
  cbv
  repeat' first | ((with_reducible intro _); cbv) | ((with_reducible show _ ∧ _); (with_reducible apply And.intro))
  all_goals first | (refine retK (h _ _ _ _ _ _ _ _ _ _ _ _ _ _ _ _ _ _ _ _ _ _ _ _ _ _ ?_) rfl; clear h) | (with_reducible refine Ob.mk ?_; clear h) | (clear h)
  all_goals (try simp only [eta0, RT.bytes] at *)
  all_goals (try dsimp only [RT.ty] at *)
  all_goals (try simp only [ncast] at *)
  all_goals (first | rfl | omega | grind [wrap_id])
theorem okDrawSrvHearE : SpecOk1 Tryz.prog 17 sDrawSrvHearE := spec1 tabOk (ss := [(58, sServerE), (38, sMessageE), (39, sPick), (59, sNearE), (40, sBadMsgE)]) ⟨okServerE, okMessageE, okPick, okNearE, okBadMsgE, trivial⟩ rfl rfl <| by
  intro (bs : Th (List Int)) (p : Th Int) ⟨(l : Th (List Int)), u⟩ K hb hp0 ho h
  obtain ⟨l, rfl⟩ := th_ex l
  have hk : ∀ (a b : Int) (c : List Srv) (d : List Sto) (e f : List Int) (g : List Row) (h : List Msg) (i : List Note), wldOk ⟨⟨a, b⟩, c, d, ⟨e, f⟩, g, h, i⟩ = true → 1 ≤ d.length ∧ (0 < h.length → (nth .msg h 0).dest < c.length) := fun a b c d e f g h i w => draw_facts w
  refine ⟨noAnn, annL [(17, 7, ⟨Th Msg × Th Srv × Th Int, [], fun σ g => (((σ.only [2, 3, 4, 5, 6, 7, 8, 9, 10, 11]).cellsA 12 0 (encMsg g.1)).cellsA 11 0 (encSrv g.2.1)).cellC 7690 1 (.att (.int .i64 g.2.2)), fun _ g _ => Ob fun _ => 0 ≤ g.2.2 () ∧ g.2.2 () ≤ 350000, fun _ _ _ => 0⟩),
    (17, 9, ⟨Th Msg × Th Int, [], fun σ g => ((σ.only [2, 3, 4, 5, 6, 7, 8, 9, 10, 11]).cellsA 12 0 (encMsg g.1)).cellC 7690 1 (.att (.int .i64 g.2)), fun _ g _ => Ob fun _ => 0 ≤ g.2 () ∧ g.2 () ≤ 400000, fun _ _ _ => 0⟩),
    (17, 11, ⟨Th Msg × Th Int × Th Bool, [], fun σ g => ((σ.only [2, 3, 4, 5, 6, 7, 8, 9, 10, 11]).cellsA 12 0 (encMsg g.1)).cellC 7690 1 (.att (.int .i64 g.2.1)), fun _ g _ => Ob fun _ => 0 ≤ g.2.1 () ∧ g.2.1 () ≤ 500000, fun _ _ _ => 0⟩),
    (17, 13, ⟨Th (List Sto) × Th Int, [], fun σ g => ((σ.only [2, 3, 4, 5, 6, 7, 8, 9, 10, 11]).cellC 10 3 (.att (.list .sto g.1))).cellC 7690 1 (.att (.int .i64 g.2)), fun _ _ _ => Ob fun _ => True, fun _ _ _ => 0⟩)], 20, ?_⟩
  cbv
  repeat' first | ((with_reducible refine fun (g : Th Msg × Th Srv × Th Int) => ?_); obtain ⟨x, s, q⟩ := g; obtain ⟨x, rfl⟩ := th_ex x; obtain ⟨s, rfl⟩ := th_ex s; obtain ⟨q, rfl⟩ := th_ex q; (with_reducible refine ImpB.out ?_); cbv; (with_reducible refine ImpB.mk ?_); intro hq; obtain ⟨hq⟩ := hq) | ((with_reducible refine fun (g : Th Msg × Th Int) => ?_); obtain ⟨x, q⟩ := g; obtain ⟨x, rfl⟩ := th_ex x; obtain ⟨q, rfl⟩ := th_ex q; (with_reducible refine ImpB.out ?_); cbv; (with_reducible refine ImpB.mk ?_); intro hq; obtain ⟨hq⟩ := hq) | ((with_reducible refine fun (g : Th Msg × Th Int × Th Bool) => ?_); obtain ⟨x, q, z⟩ := g; obtain ⟨x, rfl⟩ := th_ex x; obtain ⟨q, rfl⟩ := th_ex q; obtain ⟨z, rfl⟩ := th_ex z; (with_reducible refine ImpB.out ?_); cbv; (with_reducible refine ImpB.mk ?_); intro hq; obtain ⟨hq⟩ := hq) | ((with_reducible refine fun (g : Th (List Sto) × Th Int) => ?_); obtain ⟨d, q⟩ := g; obtain ⟨d, rfl⟩ := th_ex d; obtain ⟨q, rfl⟩ := th_ex q; (with_reducible refine ImpB.out ?_); cbv; (with_reducible refine ImpB.mk ?_); intro hq; obtain ⟨hq⟩ := hq) | ((with_reducible intro _); cbv) | ((with_reducible show _ ∧ _); (with_reducible apply And.intro))
  all_goals try ((first | (with_reducible refine LoopIn.wf (fun σ => (rdMsg σ 12, rdSrv σ 11, asI (σ.ce 7690 1))) ?_ ?_) | (with_reducible refine LoopBack.wf (fun σ => (rdMsg σ 12, rdSrv σ 11, asI (σ.ce 7690 1))) ?_ ?_ ?_) | (with_reducible refine LoopIn.wf (fun σ => (rdMsg σ 12, asI (σ.ce 7690 1))) ?_ ?_) | (with_reducible refine LoopBack.wf (fun σ => (rdMsg σ 12, asI (σ.ce 7690 1))) ?_ ?_ ?_) | (with_reducible refine LoopIn.wf (fun σ => (rdMsg σ 12, asI (σ.ce 7690 1), noBool)) ?_ ?_) | (with_reducible refine LoopBack.wf (fun σ => (rdMsg σ 12, asI (σ.ce 7690 1), noBool)) ?_ ?_ ?_) | (with_reducible refine LoopIn.wf (fun σ => (asL .sto (σ.ce 10 3), asI (σ.ce 7690 1))) ?_ ?_) | (with_reducible refine LoopBack.wf (fun σ => (asL .sto (σ.ce 10 3), asI (σ.ce 7690 1))) ?_ ?_ ?_)) <;> cbv)
  all_goals try (with_reducible show _ ∧ _; (try simp only [and_true, true_and]))
  all_goals try (with_reducible show _ ∧ _; (repeat' (with_reducible apply And.intro)))
  all_goals try (with_reducible refine MeasB.mk ?_)
  all_goals first | (refine retK (h _ _ _ _ _ _ _ _ _ _ _ _ _ _ _ _ _ _ _ _ _ _ _ _ _ _ _ _ _ _ _ _ _ _) rfl; clear h) | (refine retK (h _ _ _ _ _ _ _ _ _ _ _ _ _ _ _ _ _ _ _ _ _ _ _ _ _ _ _ _ _ _ _ _ _ _) rfl) | (with_reducible refine Ob.mk ?_; clear h) | (clear h)
  all_goals (try simp only [eta0, RT.bytes] at *)
  all_goals (try dsimp only [RT.ty] at *)
  all_goals (try simp only [ncast] at *)
  all_goals (first | rfl | omega | grind [wrap_id])
end Go.Proofs.YtfgphaokmjdcbaaGreat

/-
  Contracts: a ghost put among others.
-/
namespace Go.Proofs.YtfgphaokmjdcbaaGreat
open Go.Sx Go.Proofs Go.Mo
set_option maxRecDepth 100000
set_option maxHeartbeats 8000000
set_option linter.unusedSimpArgs false
set_option linter.unusedVariables false

noncomputable def sRecord : Sx.Spec := ⟨false, true, [.list .gst, .row .gst], [[some .gst]], fun _ _ ⟨l, g, _⟩ => .ret (vW .gst fun _ => gstRec (l ()) (g ()), fun _ => 0)⟩

theorem okRecord : SpecOk1 Tryz.prog 110 sRecord := spec1 tabOk (ss := [(107, sCloneG), (123, sGstLess), (155, (.raw (insM .gst)))]) ⟨okCloneG, okAhead, okInsertG, trivial⟩ rfl rfl <| by
  intro (bs : Th (List Int)) (p : Th Int) ⟨(l : Th (List Gst)), (g : Th Gst), u⟩ K _ _ ho h
  obtain ⟨l, rfl⟩ := th_ex l; obtain ⟨g, rfl⟩ := th_ex g
  have hl := okB (ho.1 _ (.head _))
  have hp := fun (k : Nat) => @gst_pos l g k
  refine ⟨annL [(110, 3, ⟨Nat, [], fun σ k => σ.t 6 (vI fun _ => (k : Int)), fun _ k _ => k ≤ l.length ∧ allTo k (lessAt l g) = true, fun _ k _ => l.length - k⟩)], noAnn, 20, ?_⟩
  cbv
  repeat' first | ((with_reducible refine fun (k : Nat) => ?_); cbv) | ((with_reducible intro _); cbv) | ((with_reducible show _ ∧ _); (with_reducible apply And.intro))
  all_goals try ((first | (with_reducible refine LoopIn.mk ((0 : Nat)) ?_ ?_) | (with_reducible refine LoopBack.mk ((k + 1 : Nat)) ?_ ?_ ?_)) )
  all_goals try ((with_reducible show matchSt _ _); cbv; (try simp only [and_true, true_and]))
  all_goals try (with_reducible show _ ∧ _; (repeat' (with_reducible apply And.intro)))
  all_goals first | (refine retK h ?_; clear h; simp only [fin0]) | (with_reducible refine Ob.mk ?_; clear h) | (clear h)
  all_goals (try simp only [eta0, RT.bytes] at *)
  all_goals (try (refine funext fun u => ?_; rw [setNth_app]))
  all_goals (try simp only [Int.toNat_natCast] at *)
  all_goals grind (splits := 30) [wrap_succ, wrap_id, gstRec, lessAt, allTo_zero, allTo_succ]
end Go.Proofs.YtfgphaokmjdcbaaGreat
