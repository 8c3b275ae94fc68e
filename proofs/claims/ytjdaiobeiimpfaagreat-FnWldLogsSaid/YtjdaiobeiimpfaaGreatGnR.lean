/-
  Contracts: an event drawn.
-/
import Derived.Test.YtjdaiobeiimpfaaGreatGrS
import Derived.Test.YtjdaiobeiimpfaaGreatFoF
import Derived.Test.YtjdaiobeiimpfaaGreatFoHs
import Derived.Test.YtjdaiobeiimpfaaGreatGnF
import Derived.Test.YtjdaiobeiimpfaaGreatM2
set_option linter.unusedVariables false
set_option linter.unusedSimpArgs false
set_option maxRecDepth 100000
set_option maxHeartbeats 8000000
namespace Go.Sx
def oneC (v : V) : C := match v with
 | .one c => c
 | _ => .unk
def St.tmB (σ : St) (d : Nat) : Th Bool := asB (oneC (σ.tm.get d))
end Go.Sx
namespace Go.Proofs.YtjdaiobeiimpfaaGreat
open Go.Sx Go.Proofs Go.Mo
def noRow : Th Row := fun _ => ⟨0, 0, false, ⟨0, 0, 0, 0, 0⟩, 0, 0⟩
theorem okEventE : SpecOk1 Tryz.prog 28 sEventE := spec1 tabOk (ss := [(29, sPick), (58, sAskE)]) ⟨okPick, okAskE, trivial⟩ rfl rfl <| by
 intro (bs : Th (List Int)) (p : Th Int) ⟨(w : Th Wld), u⟩ K hb hp0 ho h
 obtain ⟨w, rfl⟩ := th_ex w; obtain ⟨bs, rfl⟩ := th_ex bs; obtain ⟨p, rfl⟩ := th_ex p
 obtain ⟨hpre, h⟩ := h
 have hpre : True ∧ 0 ≤ p ∧ p ≤ 999000000000 := hpre.out
 refine ⟨noAnn, annL [(28, 4, ⟨Th Int × Th Int, [], fun σ g => (σ.t 5 (.one (.att (.int .i64 g.1)))).cellC 0 1 (.att (.int .i64 g.2)), fun _ g _ => Ob fun _ => p ≤ g.2 () ∧ g.2 () ≤ p + 2, fun _ g _ => 0⟩),
  (28, 13, ⟨Th Bool × Th Int, [], fun σ g => σ.t 37 (.one (.att (.bool (.of g.1)))), fun _ g _ => Ob fun _ => True, fun _ g _ => 0⟩),
  (28, 19, ⟨Th Int × Th Bool, [], fun σ g => σ.t 47 (.one (.att (.bool (.of g.2)))), fun _ g _ => Ob fun _ => True, fun _ g _ => 0⟩),
  (28, 24, ⟨Th Bool × Th Bool, [], fun σ g => σ.t 61 (.one (.att (.bool (.of g.1)))), fun _ g _ => Ob fun _ => True, fun _ g _ => 0⟩),
  (28, 28, ⟨Th Bool × Th Row, [], fun σ g => σ.t 66 (.one (.att (.bool (.of g.1)))), fun _ g _ => Ob fun _ => True, fun _ g _ => 0⟩)], 20, ?_⟩
 cbv
 repeat' first | ((with_reducible refine fun (g : Th Int × Th Int) => ?_); obtain ⟨i, q⟩ := g; obtain ⟨i, rfl⟩ := th_ex i; obtain ⟨q, rfl⟩ := th_ex q; (with_reducible refine ImpB.out ?_); cbv; (with_reducible refine ImpB.mk ?_); intro hq; obtain ⟨hq⟩ := hq) | ((with_reducible refine fun (g : Th Bool × Th Int) => ?_); obtain ⟨b1, z1⟩ := g; obtain ⟨b1, rfl⟩ := th_ex b1; obtain ⟨z1, rfl⟩ := th_ex z1; (with_reducible refine ImpB.out ?_); cbv; (with_reducible refine ImpB.mk ?_); intro hq; obtain ⟨hq⟩ := hq) | ((with_reducible refine fun (g : Th Int × Th Bool) => ?_); obtain ⟨z2, b2⟩ := g; obtain ⟨z2, rfl⟩ := th_ex z2; obtain ⟨b2, rfl⟩ := th_ex b2; (with_reducible refine ImpB.out ?_); cbv; (with_reducible refine ImpB.mk ?_); intro hq; obtain ⟨hq⟩ := hq) | ((with_reducible refine fun (g : Th Bool × Th Bool) => ?_); obtain ⟨b3, z3⟩ := g; obtain ⟨b3, rfl⟩ := th_ex b3; obtain ⟨z3, rfl⟩ := th_ex z3; (with_reducible refine ImpB.out ?_); cbv; (with_reducible refine ImpB.mk ?_); intro hq; obtain ⟨hq⟩ := hq) | ((with_reducible refine fun (g : Th Bool × Th Row) => ?_); obtain ⟨b4, z4⟩ := g; obtain ⟨b4, rfl⟩ := th_ex b4; obtain ⟨z4, rfl⟩ := th_ex z4; (with_reducible refine ImpB.out ?_); cbv; (with_reducible refine ImpB.mk ?_); intro hq; obtain ⟨hq⟩ := hq) | ((with_reducible intro _); cbv) | (with_reducible refine And.intro ?_ ?_)
 all_goals try ((first | (with_reducible refine LoopIn.wf (fun σ => (σ.tmI 5, asI (σ.ce 0 1))) ?_ ?_) | (with_reducible refine LoopBack.wf (fun σ => (σ.tmI 5, asI (σ.ce 0 1))) ?_ ?_ ?_) | (with_reducible refine LoopIn.wf (fun σ => (σ.tmB 37, noInt)) ?_ ?_) | (with_reducible refine LoopBack.wf (fun σ => (σ.tmB 37, noInt)) ?_ ?_ ?_) | (with_reducible refine LoopIn.wf (fun σ => (noInt, σ.tmB 47)) ?_ ?_) | (with_reducible refine LoopBack.wf (fun σ => (noInt, σ.tmB 47)) ?_ ?_ ?_) | (with_reducible refine LoopIn.wf (fun σ => (σ.tmB 61, noBool)) ?_ ?_) | (with_reducible refine LoopBack.wf (fun σ => (σ.tmB 61, noBool)) ?_ ?_ ?_) | (with_reducible refine LoopIn.wf (fun σ => (σ.tmB 66, noRow)) ?_ ?_) | (with_reducible refine LoopBack.wf (fun σ => (σ.tmB 66, noRow)) ?_ ?_ ?_)) <;> cbv)
 all_goals try (with_reducible show _ ∧ _; (try simp only [and_true, true_and]))
 all_goals try (repeat' with_reducible refine And.intro ?_ ?_)
 all_goals try (with_reducible refine MeasB.mk ?_)
 all_goals first | (refine retK (h _ _ _ _ _ _ ?_) rfl; clear h) | (with_reducible refine Ob.mk ?_; clear h) | (clear h)
 all_goals (try simp only [eta0, RT.bytes] at *)
 all_goals (try dsimp only [RT.ty] at *)
 all_goals (try simp only [ncast] at *)
 all_goals (first | rfl | omega | grind [wrap_id])
end Go.Proofs.YtjdaiobeiimpfaaGreat
namespace Go.Mo
open Go.Sx
theorem open_small {m : PMap} {s : Sto} {a : Int} : small (hldOpen m s a).h.state.wlks (hldOpen m s a).h.state.outs := by
 unfold hldOpen
 split
 ·rename_i h1
  split
  ·exact small_nil (Nat.zero_le _)
  ·exact small_ok (state_ok h1.1)
 ·exact small_nil (Nat.zero_le _)
theorem open_len {m : PMap} {s : Sto} {a : Int} : (hldOpen m s a).s.recs.length ≤ s.recs.length := by
 unfold hldOpen
 split
 ·split
  ·exact Nat.le_refl _
  ·exact Nat.le_refl _
 ·exact Nat.zero_le _
theorem open_count {m : PMap} {s : Sto} {a : Int} : 0 ≤ (hldOpen m s a).h.count ∧ (hldOpen m s a).h.count ≤ 250 := by
 unfold hldOpen
 split
 ·rename_i h1
  have := (stoOk_iff.1 h1.1).2.2.1
  split
  ·show (0 : Int) ≤ 0 ∧ (0 : Int) ≤ 250
   decide
  ·simp
   omega
 ·show (0 : Int) ≤ 0 ∧ (0 : Int) ≤ 250
  decide
end Go.Mo
namespace Go.Proofs.YtjdaiobeiimpfaaGreat
open Go.Sx Go.Proofs Go.Mo
def rH (g h a : Int) (b : List Wlk) (c : Int) (d : List (List Pcl)) (e f : List Int) : V := .agg [cI g, cI h, cI a, .att (.list .wlk fun _ => b), cI c, .att (.list .pcls fun _ => d), .att (.list .int fun _ => e), .att (.list .int fun _ => f)]
noncomputable def sHold : Sx.Spec := ⟨true, false, [], [[none, none], nSto, nHld], fun _ p _ => .asrt (fun _ => 0 ≤ p () ∧ p () ≤ 999999970000) (.all Int fun x => .all Int fun y => .all Int fun g => .all Int fun a => .all (List Wlk) fun b => .all Int fun c => .all (List (List Pcl)) fun d => .all (List Int) fun e => .all (List Int) fun f => .all (List Sx.Rec) fun l => .all Int fun g1 => .all Int fun g2 => .all Int fun a1 => .all (List Wlk) fun b1 => .all Int fun c1 => .all (List (List Pcl)) fun d1 => .all (List Int) fun e1 => .all (List Int) fun f1 => .all Int fun q => .asm (fun _ => p () ≤ q ∧ q ≤ p () + 6000 ∧ small b1 d1 ∧ 0 ≤ g2 ∧ g2 ≤ 250) (.ret (.tup [.agg [cI x, cI y], rS g a b c d e f l, rH g1 g2 a1 b1 c1 d1 e1 f1], fun _ => q)))⟩
noncomputable def sAnyHold : Sx.Spec := ⟨true, false, [.int .i64], [[none, none], nSto, nHld], fun _ p ⟨n, _⟩ => .asrt (fun _ => 0 ≤ p () ∧ p () ≤ 999999960000) (.all Int fun x => .all Int fun y => .all Int fun g => .all Int fun a => .all (List Wlk) fun b => .all Int fun c => .all (List (List Pcl)) fun d => .all (List Int) fun e => .all (List Int) fun f => .all (List Sx.Rec) fun l => .all Int fun g1 => .all Int fun g2 => .all Int fun a1 => .all (List Wlk) fun b1 => .all Int fun c1 => .all (List (List Pcl)) fun d1 => .all (List Int) fun e1 => .all (List Int) fun f1 => .all Int fun q => .asm (fun _ => p () ≤ q ∧ q ≤ p () + 7000) (.ret (.tup [.agg [cI x, cI y], rS g a b c d e f l, rH g1 g2 a1 b1 c1 d1 e1 f1], fun _ => q)))⟩
theorem okHold : SpecOk1 Tryz.prog 187 sHold := spec1 tabOk (ss := [(218, sStore), (199, sHldOpen), (29, sPick), (219, sPlaysO)]) ⟨okStore, okSHldOpen, okPick, okPlaysO, trivial⟩ rfl rfl <| by
 intro (bs : Th (List Int)) (p : Th Int) u K hb hp0 ho h
 obtain ⟨bs, rfl⟩ := th_ex bs; obtain ⟨p, rfl⟩ := th_ex p
 obtain ⟨hpre, h⟩ := h
 have hpre : 0 ≤ p ∧ p ≤ 999999970000 := hpre.out
 refine ⟨noAnn, noAnn, 20, ?_⟩
 cbv
 repeat' first | ((with_reducible intro _); cbv) | (with_reducible refine And.intro ?_ ?_)
 all_goals first | (refine retK (h _ _ _ _ _ _ _ _ _ _ _ _ _ _ _ _ _ _ _ ?_) rfl; clear h) | (with_reducible refine Ob.mk ?_; clear h) | (clear h)
 all_goals (try simp only [eta0, RT.bytes] at *)
 all_goals first | omega | exact ⟨by omega, by omega, open_small, open_count.1, open_count.2⟩ | grind [wrap_id, open_len]
theorem okAnyHold : SpecOk1 Tryz.prog 149 sAnyHold := spec1 tabOk (ss := [(187, sHold), (29, sPick), (188, sBadCell), (99, sMap)]) ⟨okHold, okPick, okBadCell, okMap, trivial⟩ rfl rfl <| by
 intro (bs : Th (List Int)) (p : Th Int) ⟨(n : Th Int), u⟩ K hb hp0 ho h
 obtain ⟨n, rfl⟩ := th_ex n; obtain ⟨bs, rfl⟩ := th_ex bs; obtain ⟨p, rfl⟩ := th_ex p
 obtain ⟨hpre, h⟩ := h
 have hpre : 0 ≤ p ∧ p ≤ 999999960000 := hpre.out
 refine ⟨noAnn, noAnn, 20, ?_⟩
 cbv
 repeat' first | ((with_reducible intro _); cbv) | (with_reducible refine And.intro ?_ ?_)
 all_goals first | (refine retK (h _ _ _ _ _ _ _ _ _ _ _ _ _ _ _ _ _ _ _ ?_) rfl; clear h) | (with_reducible refine Ob.mk ?_; clear h) | (clear h)
 all_goals (try simp only [eta0, RT.bytes] at *)
 all_goals first | omega | grind [wrap_id]
end Go.Proofs.YtjdaiobeiimpfaaGreat
namespace Go.Mo
open Go.Sx
theorem srv_ext {a b : Srv} : a = b ↔ a.up = b.up ∧ a.holds = b.holds ∧ a.ghosts = b.ghosts := by
 cases a; cases b; simp
theorem note_ext {a b : Note} : a = b ↔ a.who = b.who ∧ a.seq = b.seq ∧ a.code = b.code := by
 cases a; cases b; simp
theorem map_ext {a b : PMap} : a = b ↔ a.cells = b.cells ∧ a.width = b.width := by
 cases a; cases b; simp
theorem arb_ext {a b : Arb} : a = b ↔ a.servers = b.servers ∧ a.ages = b.ages := by
 cases a; cases b; simp
theorem wld_ext {a b : Wld} : a = b ↔ a.map = b.map ∧ a.servers = b.servers ∧ a.stores = b.stores ∧ a.table = b.table ∧ a.rows = b.rows ∧ a.net = b.net ∧ a.notes = b.notes := by
 cases a; cases b; simp
end Go.Mo
namespace Go.Proofs.YtjdaiobeiimpfaaGreat
open Go.Sx Go.Proofs Go.Mo
noncomputable def sIsGhosts : Sx.Spec := ⟨false, true, [.list .gst, .list .gst], [], fun _ _ ⟨a, b, _⟩ => .ret (vB fun _ => decide (a () = b ()), fun _ => 0)⟩
noncomputable def sIsNet : Sx.Spec := ⟨false, true, [.list .msg, .list .msg], [], fun _ _ ⟨a, b, _⟩ => .ret (vB fun _ => decide (a () = b ()), fun _ => 0)⟩
noncomputable def sIsNotes : Sx.Spec := ⟨false, true, [.list .note, .list .note], [], fun _ _ ⟨a, b, _⟩ => .ret (vB fun _ => decide (a () = b ()), fun _ => 0)⟩
noncomputable def sIsStores : Sx.Spec := ⟨false, true, [.list .sto, .list .sto], [], fun _ _ ⟨a, b, _⟩ => .ret (vB fun _ => decide (a () = b ()), fun _ => 0)⟩
noncomputable def sIsServers : Sx.Spec := ⟨false, true, [.list .srv, .list .srv], [], fun _ _ ⟨a, b, _⟩ => .ret (vB fun _ => decide (a () = b ()), fun _ => 0)⟩
noncomputable def sIsV : Sx.Spec := ⟨false, true, [.row .srv, .row .srv], [], fun _ _ ⟨a, b, _⟩ => .ret (vB fun _ => decide (a () = b ()), fun _ => 0)⟩
noncomputable def sIsWld : Sx.Spec := ⟨false, true, [.row .wld, .row .wld], [], fun _ _ ⟨a, b, _⟩ => .ret (vB fun _ => decide (a () = b ()), fun _ => 0)⟩
theorem okIsGhosts : SpecOk1 Tryz.prog 54 sIsGhosts := spec1 tabOk (ss := []) trivial rfl rfl <| by
 intro (bs : Th (List Int)) (p : Th Int) ⟨(a : Th (List Gst)), (b : Th (List Gst)), u⟩ K _ _ ho h
 obtain ⟨a, rfl⟩ := th_ex a; obtain ⟨b, rfl⟩ := th_ex b
 have hl := okL (ho.1 _ (.head _))
 refine ⟨annL [(54, 4, ⟨Nat, [], fun σ k => σ.t 5 (vI fun _ => (k : Int)), fun _ k _ => k ≤ a.length ∧ a.length = b.length ∧ same .gst a b k, fun _ k _ => a.length - k⟩)], noAnn, 20, ?_⟩
 cbv
 repeat' first | ((with_reducible refine fun (k : Nat) => ?_); cbv) | ((with_reducible intro _); cbv) | (with_reducible refine And.intro ?_ ?_)
 all_goals try ((first | (with_reducible refine LoopIn.mk ((0 : Nat)) ?_ ?_) | (with_reducible refine LoopBack.mk ((k + 1 : Nat)) ?_ ?_ ?_)) )
 all_goals try ((with_reducible show matchSt _ _); cbv; (try simp only [and_true, true_and]))
 all_goals try (repeat' with_reducible refine And.intro ?_ ?_)
 all_goals first | (refine retK h ?_; clear h; simp only [fin0]) | (with_reducible refine Ob.mk ?_; clear h) | (clear h)
 all_goals (try simp only [eta0, RT.bytes] at *)
 all_goals grind [wrap_succ, same_zero, same_succ, same_all, gst_ext, wlk_ext]
theorem okIsNet : SpecOk1 Tryz.prog 15 sIsNet := spec1 tabOk (ss := []) trivial rfl rfl <| by
 intro (bs : Th (List Int)) (p : Th Int) ⟨(a : Th (List Msg)), (b : Th (List Msg)), u⟩ K _ _ ho h
 obtain ⟨a, rfl⟩ := th_ex a; obtain ⟨b, rfl⟩ := th_ex b
 have hl := okL (ho.1 _ (.head _))
 refine ⟨annL [(15, 4, ⟨Nat, [], fun σ k => σ.t 5 (vI fun _ => (k : Int)), fun _ k _ => k ≤ a.length ∧ a.length = b.length ∧ same .msg a b k, fun _ k _ => a.length - k⟩)], noAnn, 20, ?_⟩
 cbv
 repeat' first | ((with_reducible refine fun (k : Nat) => ?_); cbv) | ((with_reducible intro _); cbv) | (with_reducible refine And.intro ?_ ?_)
 all_goals try ((first | (with_reducible refine LoopIn.mk ((0 : Nat)) ?_ ?_) | (with_reducible refine LoopBack.mk ((k + 1 : Nat)) ?_ ?_ ?_)) )
 all_goals try ((with_reducible show matchSt _ _); cbv; (try simp only [and_true, true_and]))
 all_goals try (repeat' with_reducible refine And.intro ?_ ?_)
 all_goals first | (refine retK h ?_; clear h; simp only [fin0]) | (with_reducible refine Ob.mk ?_; clear h) | (clear h)
 all_goals (try simp only [eta0, RT.bytes] at *)
 all_goals grind [wrap_succ, same_zero, same_succ, same_all, msg_ext, ord_ext, pcl_ext, gst_ext, wlk_ext]
theorem okIsNotes : SpecOk1 Tryz.prog 19 sIsNotes := spec1 tabOk (ss := []) trivial rfl rfl <| by
 intro (bs : Th (List Int)) (p : Th Int) ⟨(a : Th (List Note)), (b : Th (List Note)), u⟩ K _ _ ho h
 obtain ⟨a, rfl⟩ := th_ex a; obtain ⟨b, rfl⟩ := th_ex b
 have hl := okL (ho.1 _ (.head _))
 refine ⟨annL [(19, 4, ⟨Nat, [], fun σ k => σ.t 5 (vI fun _ => (k : Int)), fun _ k _ => k ≤ a.length ∧ a.length = b.length ∧ same .note a b k, fun _ k _ => a.length - k⟩)], noAnn, 20, ?_⟩
 cbv
 repeat' first | ((with_reducible refine fun (k : Nat) => ?_); cbv) | ((with_reducible intro _); cbv) | (with_reducible refine And.intro ?_ ?_)
 all_goals try ((first | (with_reducible refine LoopIn.mk ((0 : Nat)) ?_ ?_) | (with_reducible refine LoopBack.mk ((k + 1 : Nat)) ?_ ?_ ?_)) )
 all_goals try ((with_reducible show matchSt _ _); cbv; (try simp only [and_true, true_and]))
 all_goals try (repeat' with_reducible refine And.intro ?_ ?_)
 all_goals first | (refine retK h ?_; clear h; simp only [fin0]) | (with_reducible refine Ob.mk ?_; clear h) | (clear h)
 all_goals (try simp only [eta0, RT.bytes] at *)
 all_goals grind [wrap_succ, same_zero, same_succ, same_all, note_ext]
theorem okIsStores : SpecOk1 Tryz.prog 17 sIsStores := spec1 tabOk (ss := [(42, sIsS)]) ⟨okIsStore, trivial⟩ rfl rfl <| by
 intro (bs : Th (List Int)) (p : Th Int) ⟨(a : Th (List Sto)), (b : Th (List Sto)), u⟩ K _ _ ho h
 obtain ⟨a, rfl⟩ := th_ex a; obtain ⟨b, rfl⟩ := th_ex b
 have hl := okL (ho.1 _ (.head _))
 refine ⟨annL [(17, 4, ⟨Nat, [], fun σ k => σ.t 5 (vI fun _ => (k : Int)), fun _ k _ => k ≤ a.length ∧ a.length = b.length ∧ same .sto a b k, fun _ k _ => a.length - k⟩)], noAnn, 20, ?_⟩
 cbv
 repeat' first | ((with_reducible refine fun (k : Nat) => ?_); cbv) | ((with_reducible intro _); cbv) | (with_reducible refine And.intro ?_ ?_)
 all_goals try ((first | (with_reducible refine LoopIn.mk ((0 : Nat)) ?_ ?_) | (with_reducible refine LoopBack.mk ((k + 1 : Nat)) ?_ ?_ ?_)) )
 all_goals try ((with_reducible show matchSt _ _); cbv; (try simp only [and_true, true_and]))
 all_goals try (repeat' with_reducible refine And.intro ?_ ?_)
 all_goals first | (refine retK h ?_; clear h; simp only [fin0]) | (with_reducible refine Ob.mk ?_; clear h) | (clear h)
 all_goals (try simp only [eta0, RT.bytes] at *)
 all_goals grind [wrap_succ, same_zero, same_succ, same_all]
theorem okIsServer : SpecOk1 Tryz.prog 22 sIsV := spec1 tabOk (ss := [(54, sIsGhosts), (55, sIsH)]) ⟨okIsGhosts, okIsHold, trivial⟩ rfl rfl <| by
 intro (bs : Th (List Int)) (p : Th Int) ⟨(a : Th Srv), (b : Th Srv), u⟩ K _ _ ho h
 obtain ⟨a, rfl⟩ := th_ex a; obtain ⟨b, rfl⟩ := th_ex b
 have hl := okL (ho.1 _ (.tail _ (.head _)))
 refine ⟨annL [(22, 4, ⟨Nat, [], fun σ k => σ.t 5 (vI fun _ => (k : Int)), fun _ k _ => k ≤ a.holds.length ∧ a.holds.length = b.holds.length ∧ a.up = b.up ∧ a.ghosts = b.ghosts ∧ same .hld a.holds b.holds k, fun _ k _ => a.holds.length - k⟩)], noAnn, 20, ?_⟩
 cbv
 repeat' first | ((with_reducible refine fun (k : Nat) => ?_); cbv) | ((with_reducible intro _); cbv) | (with_reducible refine And.intro ?_ ?_)
 all_goals try ((first | (with_reducible refine LoopIn.mk ((0 : Nat)) ?_ ?_) | (with_reducible refine LoopBack.mk ((k + 1 : Nat)) ?_ ?_ ?_)) )
 all_goals try ((with_reducible show matchSt _ _); cbv; (try simp only [and_true, true_and]))
 all_goals try (repeat' with_reducible refine And.intro ?_ ?_)
 all_goals first | (refine retK h ?_; clear h; simp only [fin0]) | (with_reducible refine Ob.mk ?_; clear h) | (clear h)
 all_goals (try simp only [eta0, RT.bytes] at *)
 all_goals grind [wrap_succ, same_zero, same_succ, same_all, srv_ext]
theorem okIsServers : SpecOk1 Tryz.prog 18 sIsServers := spec1 tabOk (ss := [(22, sIsV)]) ⟨okIsServer, trivial⟩ rfl rfl <| by
 intro (bs : Th (List Int)) (p : Th Int) ⟨(a : Th (List Srv)), (b : Th (List Srv)), u⟩ K _ _ ho h
 obtain ⟨a, rfl⟩ := th_ex a; obtain ⟨b, rfl⟩ := th_ex b
 have hl := okL (ho.1 _ (.head _))
 refine ⟨annL [(18, 4, ⟨Nat, [], fun σ k => σ.t 5 (vI fun _ => (k : Int)), fun _ k _ => k ≤ a.length ∧ a.length = b.length ∧ same .srv a b k, fun _ k _ => a.length - k⟩)], noAnn, 20, ?_⟩
 cbv
 repeat' first | ((with_reducible refine fun (k : Nat) => ?_); cbv) | ((with_reducible intro _); cbv) | (with_reducible refine And.intro ?_ ?_)
 all_goals try ((first | (with_reducible refine LoopIn.mk ((0 : Nat)) ?_ ?_) | (with_reducible refine LoopBack.mk ((k + 1 : Nat)) ?_ ?_ ?_)) )
 all_goals try ((with_reducible show matchSt _ _); cbv; (try simp only [and_true, true_and]))
 all_goals try (repeat' with_reducible refine And.intro ?_ ?_)
 all_goals first | (refine retK h ?_; clear h; simp only [fin0]) | (with_reducible refine Ob.mk ?_; clear h) | (clear h)
 all_goals (try simp only [eta0, RT.bytes] at *)
 all_goals grind [wrap_succ, same_zero, same_succ, same_all]
theorem okIsWorld : SpecOk1 Tryz.prog 11 sIsWld := spec1 tabOk (ss := [(18, sIsServers), (17, sIsStores), (20, sIsI), (16, sIsB), (15, sIsNet), (19, sIsNotes)]) ⟨okIsServers, okIsStores, okIsInts, okMaBook, okIsNet, okIsNotes, trivial⟩ rfl rfl <| by
 intro (bs : Th (List Int)) (p : Th Int) ⟨(a : Th Wld), (b : Th Wld), u⟩ K _ _ ho h
 obtain ⟨a, rfl⟩ := th_ex a; obtain ⟨b, rfl⟩ := th_ex b
 refine ⟨noAnn, noAnn, 20, ?_⟩
 cbv
 repeat' first | ((with_reducible intro _); cbv) | (with_reducible refine And.intro ?_ ?_)
 all_goals first | (refine retK h ?_; clear h; simp only [fin0]) | (with_reducible refine Ob.mk ?_; clear h) | (clear h)
 all_goals (try simp only [eta0, RT.bytes] at *)
 all_goals grind (splits := 30) [wld_ext, arb_ext, map_ext]
end Go.Proofs.YtjdaiobeiimpfaaGreat
