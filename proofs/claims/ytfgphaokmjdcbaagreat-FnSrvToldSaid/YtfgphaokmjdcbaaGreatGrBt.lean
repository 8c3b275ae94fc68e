/-
  Contracts: lists of servers' things, servers, worlds, the one world compared.
-/
import Derived.Test.YtfgphaokmjdcbaaGreatGnF
import Derived.Test.YtfgphaokmjdcbaaGreatGnE
import Derived.Test.YtfgphaokmjdcbaaGreatM2
import Derived.Test.YtfgphaokmjdcbaaGreatGnH
import Derived.Test.YtfgphaokmjdcbaaGreatGnQ
import Derived.Test.YtfgphaokmjdcbaaGreatGnO
import Derived.Test.YtfgphaokmjdcbaaGreatGnVe
import Derived.Test.YtfgphaokmjdcbaaGreatInsG
import Derived.Test.YtfgphaokmjdcbaaGreatInsW
import Derived.Test.YtfgphaokmjdcbaaGreatM4
import Derived.Test.YtfgphaokmjdcbaaGreatM3
set_option linter.unusedVariables false
set_option linter.unusedSimpArgs false
namespace Go.Mo
open Go.Sx
theorem srv_ext {a b : Srv} : a = b ↔ a.up = b.up ∧ a.holds = b.holds ∧ a.ghosts = b.ghosts := by
  cases a; cases b; simp
end Go.Mo
namespace Go.Proofs.YtfgphaokmjdcbaaGreat
open Go.Sx Go.Proofs Go.Mo
set_option maxRecDepth 100000
set_option maxHeartbeats 8000000
set_option linter.unusedSimpArgs false
set_option linter.unusedVariables false

noncomputable def sIsGhosts : Sx.Spec := ⟨false, true, [.list .gst, .list .gst], [], fun _ _ ⟨a, b, _⟩ => .ret (vB fun _ => decide (a () = b ()), fun _ => 0)⟩
noncomputable def sIsNet : Sx.Spec := ⟨false, true, [.list .msg, .list .msg], [], fun _ _ ⟨a, b, _⟩ => .ret (vB fun _ => decide (a () = b ()), fun _ => 0)⟩
noncomputable def sIsStores : Sx.Spec := ⟨false, true, [.list .sto, .list .sto], [], fun _ _ ⟨a, b, _⟩ => .ret (vB fun _ => decide (a () = b ()), fun _ => 0)⟩
noncomputable def sIsV : Sx.Spec := ⟨false, true, [.row .srv, .row .srv], [], fun _ _ ⟨a, b, _⟩ => .ret (vB fun _ => decide (a () = b ()), fun _ => 0)⟩
theorem okIsGhosts : SpecOk1 Tryz.prog 75 sIsGhosts := spec1 tabOk (ss := []) trivial rfl rfl <| by
  intro (bs : Th (List Int)) (p : Th Int) ⟨(a : Th (List Gst)), (b : Th (List Gst)), u⟩ K _ _ ho h
  obtain ⟨a, rfl⟩ := th_ex a; obtain ⟨b, rfl⟩ := th_ex b
  have hl := okL (ho.1 _ (.head _))
  refine ⟨annL [(75, 4, ⟨Nat, [], fun σ k => σ.t 5 (vI fun _ => (k : Int)), fun _ k _ => k ≤ a.length ∧ a.length = b.length ∧ same .gst a b k, fun _ k _ => a.length - k⟩)], noAnn, 20, ?_⟩
  cbv
  repeat' first | ((with_reducible refine fun (k : Nat) => ?_); cbv) | ((with_reducible intro _); cbv) | ((with_reducible show _ ∧ _); (with_reducible apply And.intro))
  all_goals try ((first | (with_reducible refine LoopIn.mk ((0 : Nat)) ?_ ?_) | (with_reducible refine LoopBack.mk ((k + 1 : Nat)) ?_ ?_ ?_)) )
  all_goals try ((with_reducible show matchSt _ _); cbv; (try simp only [and_true, true_and]))
  all_goals try (with_reducible show _ ∧ _; (repeat' (with_reducible apply And.intro)))
  all_goals first | (refine retK h ?_; clear h; simp only [fin0]) | (with_reducible refine Ob.mk ?_; clear h) | (clear h)
  all_goals (try simp only [eta0, RT.bytes] at *)
  all_goals grind [wrap_succ, same_zero, same_succ, same_all, gst_ext, wlk_ext]
theorem okIsNet : SpecOk1 Tryz.prog 22 sIsNet := spec1 tabOk (ss := []) trivial rfl rfl <| by
  intro (bs : Th (List Int)) (p : Th Int) ⟨(a : Th (List Msg)), (b : Th (List Msg)), u⟩ K _ _ ho h
  obtain ⟨a, rfl⟩ := th_ex a; obtain ⟨b, rfl⟩ := th_ex b
  have hl := okL (ho.1 _ (.head _))
  refine ⟨annL [(22, 4, ⟨Nat, [], fun σ k => σ.t 5 (vI fun _ => (k : Int)), fun _ k _ => k ≤ a.length ∧ a.length = b.length ∧ same .msg a b k, fun _ k _ => a.length - k⟩)], noAnn, 20, ?_⟩
  cbv
  repeat' first | ((with_reducible refine fun (k : Nat) => ?_); cbv) | ((with_reducible intro _); cbv) | ((with_reducible show _ ∧ _); (with_reducible apply And.intro))
  all_goals try ((first | (with_reducible refine LoopIn.mk ((0 : Nat)) ?_ ?_) | (with_reducible refine LoopBack.mk ((k + 1 : Nat)) ?_ ?_ ?_)) )
  all_goals try ((with_reducible show matchSt _ _); cbv; (try simp only [and_true, true_and]))
  all_goals try (with_reducible show _ ∧ _; (repeat' (with_reducible apply And.intro)))
  all_goals first | (refine retK h ?_; clear h; simp only [fin0]) | (with_reducible refine Ob.mk ?_; clear h) | (clear h)
  all_goals (try simp only [eta0, RT.bytes] at *)
  all_goals grind [wrap_succ, same_zero, same_succ, same_all, msg_ext, ord_ext, pcl_ext, gst_ext, wlk_ext]
theorem okIsStores : SpecOk1 Tryz.prog 21 sIsStores := spec1 tabOk (ss := [(25, sIsS)]) ⟨okIsStore, trivial⟩ rfl rfl <| by
  intro (bs : Th (List Int)) (p : Th Int) ⟨(a : Th (List Sto)), (b : Th (List Sto)), u⟩ K _ _ ho h
  obtain ⟨a, rfl⟩ := th_ex a; obtain ⟨b, rfl⟩ := th_ex b
  have hl := okL (ho.1 _ (.head _))
  refine ⟨annL [(21, 4, ⟨Nat, [], fun σ k => σ.t 5 (vI fun _ => (k : Int)), fun _ k _ => k ≤ a.length ∧ a.length = b.length ∧ same .sto a b k, fun _ k _ => a.length - k⟩)], noAnn, 20, ?_⟩
  cbv
  repeat' first | ((with_reducible refine fun (k : Nat) => ?_); cbv) | ((with_reducible intro _); cbv) | ((with_reducible show _ ∧ _); (with_reducible apply And.intro))
  all_goals try ((first | (with_reducible refine LoopIn.mk ((0 : Nat)) ?_ ?_) | (with_reducible refine LoopBack.mk ((k + 1 : Nat)) ?_ ?_ ?_)) )
  all_goals try ((with_reducible show matchSt _ _); cbv; (try simp only [and_true, true_and]))
  all_goals try (with_reducible show _ ∧ _; (repeat' (with_reducible apply And.intro)))
  all_goals first | (refine retK h ?_; clear h; simp only [fin0]) | (with_reducible refine Ob.mk ?_; clear h) | (clear h)
  all_goals (try simp only [eta0, RT.bytes] at *)
  all_goals grind [wrap_succ, same_zero, same_succ, same_all]
theorem okIsServer : SpecOk1 Tryz.prog 20 sIsV := spec1 tabOk (ss := [(75, sIsGhosts), (76, sIsH)]) ⟨okIsGhosts, okIsHold, trivial⟩ rfl rfl <| by
  intro (bs : Th (List Int)) (p : Th Int) ⟨(a : Th Srv), (b : Th Srv), u⟩ K _ _ ho h
  obtain ⟨a, rfl⟩ := th_ex a; obtain ⟨b, rfl⟩ := th_ex b
  have hl := okL (ho.1 _ (.tail _ (.head _)))
  refine ⟨annL [(20, 4, ⟨Nat, [], fun σ k => σ.t 5 (vI fun _ => (k : Int)), fun _ k _ => k ≤ a.holds.length ∧ a.holds.length = b.holds.length ∧ a.up = b.up ∧ a.ghosts = b.ghosts ∧ same .hld a.holds b.holds k, fun _ k _ => a.holds.length - k⟩)], noAnn, 20, ?_⟩
  cbv
  repeat' first | ((with_reducible refine fun (k : Nat) => ?_); cbv) | ((with_reducible intro _); cbv) | ((with_reducible show _ ∧ _); (with_reducible apply And.intro))
  all_goals try ((first | (with_reducible refine LoopIn.mk ((0 : Nat)) ?_ ?_) | (with_reducible refine LoopBack.mk ((k + 1 : Nat)) ?_ ?_ ?_)) )
  all_goals try ((with_reducible show matchSt _ _); cbv; (try simp only [and_true, true_and]))
  all_goals try (with_reducible show _ ∧ _; (repeat' (with_reducible apply And.intro)))
  all_goals first | (refine retK h ?_; clear h; simp only [fin0]) | (with_reducible refine Ob.mk ?_; clear h) | (clear h)
  all_goals (try simp only [eta0, RT.bytes] at *)
  all_goals grind [wrap_succ, same_zero, same_succ, same_all, srv_ext]
end Go.Proofs.YtfgphaokmjdcbaaGreat

/-
  The law FnSrvOne.
-/
namespace Go.Proofs.YtfgphaokmjdcbaaGreat
open Go.Sx Go.Proofs Go.Mo
set_option maxRecDepth 100000
set_option maxHeartbeats 8000000
set_option linter.unusedSimpArgs false
set_option linter.unusedVariables false

noncomputable def sLawSrvOne : Sx.Spec := ⟨false, true, [.list .byte], [], fun _ _ _ => .ret (vB fun _ => true, fun _ => 0)⟩
theorem ncastSrvOne (n : Nat) : (NatCast.natCast n : Int) = (n : Int) := rfl
theorem one_law {m : PMap} {s : Srv} {st : List Sto} {t : Arb} {v : Int} {x : Msg} {k : Nat} (h : ¬ ((srvHearX m s st t v x).stores.length : Int) = 0) (hk : k < (srvHearX m s st t v x).stores.length) :
    k < st.length ∧ st.length ≤ 4 ∧ (¬ (k : Int) = x.cell → @Eq Sto (nth .sto st k) (nth .sto (srvHearX m s st t v x).stores k)) ∧ @Eq Cll (nth .sto st k).base (nth .sto (srvHearX m s st t v x).stores k).base ∧ (nth .sto st k).recs.length ≤ (nth .sto (srvHearX m s st t v x).stores k).recs.length ∧ (nth .sto (srvHearX m s st t v x).stores k).recs.length ≤ (nth .sto st k).recs.length + 1 ∧
    @Eq (List Sx.Rec) ((nth .sto (srvHearX m s st t v x).stores k).recs.take (nth .sto st k).recs.length) (nth .sto st k).recs ∧ (¬ x.kind = 1 → (nth .sto st k).age = (nth .sto (srvHearX m s st t v x).stores k).age) ∧ (nth .sto st k).age ≤ (nth .sto (srvHearX m s st t v x).stores k).age ∧ IntKind.i64.wrap (((nth .sto st k).recs.length : Int) + 1) = ((nth .sto st k).recs.length : Int) + 1 := by
  have h' : ¬ (srvHearX m s st t v x).stores.length = 0 := fun e => h (by rw [e]; rfl)
  have hs := hrX_stays h'
  have hi : k < st.length := by omega
  have ho := hrX_one h' hi
  have hv := hrX_valid h'
  have h2 := stoOk_iff.1 ((stosOk_iff.1 hv.2.1).2.2 k hi).1
  refine ⟨hi, hs.2.2.2.2.2, fun hn => (ho.1 hn).symm, ho.2.1.symm, ho.2.2.1, ho.2.2.2.1, ho.2.2.2.2.1, fun hn => (ho.2.2.2.2.2.1 hn).symm, ho.2.2.2.2.2.2, wrap_id (by omega) (by have := h2.2.2.1; omega)⟩
theorem okLawSrvOne : SpecOk1 Tryz.prog 4 sLawSrvOne := spec1 tabOk (ss := [(17, sDrawSrvHearE), (18, sSrvHear), (19, sSSrvHear), (20, sIsV), (21, sIsStores), (22, sIsNet), (24, sSrvNew), (23, sSrvOk), (25, sIsS), (26, sIsR), (27, sIsC)]) ⟨okDrawSrvHearE, okSrvHear, okSSrvHear, okIsServer, okIsStores, okIsNet, okSrvNew, okSrvOk, okIsStore, okIsRecs, okIsCell, trivial⟩ rfl rfl <| by
  intro (bs : Th (List Int)) (p : Th Int) ⟨(a : Th (List Int)), u⟩ K _ _ ho h
  obtain ⟨a, rfl⟩ := th_ex a
  refine ⟨annL [(4, 11, ⟨Nat, [⟨.tmp 10 0, none, .sto⟩], fun σ k => (((σ.only [3, 4, 5, 6, 7, 8, 9, 10, 11, 12, 13, 14]).h (σ.okT 10) (1, .dead)).t 15 (vI fun _ => (k : Int))).t 10 (vL .sto (σ.rowL .sto (σ.okT 10))), fun _ k _ => k ≤ 4, fun _ k _ => 4 - k⟩)], noAnn, 20, ?_⟩
  cbv
  repeat' first | ((with_reducible refine fun (k : Nat) => ?_); cbv) | ((with_reducible intro _); cbv) | ((with_reducible show _ ∧ _); (with_reducible apply And.intro))
  all_goals try ((first | (with_reducible refine LoopIn.mk ((0 : Nat)) ?_ ?_) | (with_reducible refine LoopBack.mk ((k + 1 : Nat)) ?_ ?_ ?_)) )
  all_goals try ((with_reducible show matchSt _ _); cbv; (try simp only [and_true, true_and]))
  all_goals try (with_reducible show _ ∧ _; (repeat' (with_reducible apply And.intro)))
  all_goals first | (refine retK h ?_; clear h; simp only [fin0]) | (with_reducible refine Ob.mk ?_; clear h) | (clear h)
  all_goals (try simp only [eta0, RT.bytes] at *)
  all_goals (try dsimp only [RT.ty] at *)
  all_goals (try simp only [ncastSrvOne] at *)
  all_goals first | omega | exact wrap_succ (by omega) | skip
  all_goals first | exact srv_one | skip
  all_goals (try have hG := one_law (by assumption) (by assumption))
  all_goals (try dsimp only [RT.ty] at hG)
  all_goals (try clear ho)
  all_goals first | omega | grind
end Go.Proofs.YtfgphaokmjdcbaaGreat

/-
  The law FnSrvStays.
-/
namespace Go.Proofs.YtfgphaokmjdcbaaGreat
open Go.Sx Go.Proofs Go.Mo
set_option maxRecDepth 100000
set_option maxHeartbeats 8000000
set_option linter.unusedSimpArgs false
set_option linter.unusedVariables false

noncomputable def sLawSrvStays : Sx.Spec := ⟨false, true, [.list .byte], [], fun _ _ _ => .ret (vB fun _ => true, fun _ => 0)⟩
theorem ncastSrvStays (n : Nat) : (NatCast.natCast n : Int) = (n : Int) := rfl
theorem stays_law {m : PMap} {s : Srv} {st : List Sto} {t : Arb} {v : Int} {x : Msg} (h : ¬ ((srvHearX m s st t v x).stores.length : Int) = 0) :
    srvOk m (srvHearX m s st t v x).srv = true ∧ (∀ k, k < (srvHearX m s st t v x).stores.length → stoOk m (nth .sto (srvHearX m s st t v x).stores k) = true) ∧ (∀ k, k < (srvHearX m s st t v x).out.length → msgOk m v (nth .msg (srvHearX m s st t v x).out k) = true) ∧ (srvHearX m s st t v x).out.length ≤ 1 ∧ (srvHearX m s st t v x).stores.length ≤ 4 := by
  have hs := hrX_stays fun e => h (by rw [e]; rfl)
  exact ⟨hs.1, hs.2.1, hs.2.2.1, hs.2.2.2.1, by omega⟩
theorem none_law {m : PMap} {s : Srv} {st : List Sto} {t : Arb} {v : Int} {x : Msg} (h : ((srvHearX m s st t v x).stores.length : Int) = 0) : @Eq Srv (srvHearX m s st t v x).srv ⟨false, [], []⟩ ∧ (srvHearX m s st t v x).out.length = 0 := by
  rw [hrX_none (show (srvHearX m s st t v x).stores.length = 0 by omega)]
  exact ⟨rfl, rfl⟩
theorem okLawSrvStays : SpecOk1 Tryz.prog 5 sLawSrvStays := spec1 tabOk (ss := [(17, sDrawSrvHearE), (18, sSrvHear), (19, sSSrvHear), (20, sIsV), (21, sIsStores), (22, sIsNet), (24, sSrvNew), (23, sSrvOk), (28, sMsgOk), (29, sStoOk)]) ⟨okDrawSrvHearE, okSrvHear, okSSrvHear, okIsServer, okIsStores, okIsNet, okSrvNew, okSrvOk, okMsgOk, okStoOk, trivial⟩ rfl rfl <| by
  intro (bs : Th (List Int)) (p : Th Int) ⟨(a : Th (List Int)), u⟩ K _ _ ho h
  obtain ⟨a, rfl⟩ := th_ex a
  refine ⟨annL [(5, 11, ⟨Nat, [], fun σ k => (σ.only [3, 4, 5, 6, 7, 8, 9, 10, 11, 12, 13, 14]).t 15 (vI fun _ => (k : Int)), fun _ k _ => k ≤ 1, fun _ k _ => 1 - k⟩), (5, 16, ⟨Nat, [], fun σ k => (σ.only [3, 4, 5, 6, 7, 8, 9, 10, 11, 12, 13, 14]).t 16 (vI fun _ => (k : Int)), fun _ k _ => k ≤ 4, fun _ k _ => 4 - k⟩)], noAnn, 20, ?_⟩
  cbv
  repeat' first | ((with_reducible refine fun (k : Nat) => ?_); cbv) | ((with_reducible intro _); cbv) | ((with_reducible show _ ∧ _); (with_reducible apply And.intro))
  all_goals try ((first | (with_reducible refine LoopIn.mk ((0 : Nat)) ?_ ?_) | (with_reducible refine LoopBack.mk ((k + 1 : Nat)) ?_ ?_ ?_)) )
  all_goals try ((with_reducible show matchSt _ _); cbv; (try simp only [and_true, true_and]))
  all_goals try (with_reducible show _ ∧ _; (repeat' (with_reducible apply And.intro)))
  all_goals first | (refine retK h ?_; clear h; simp only [fin0]) | (with_reducible refine Ob.mk ?_; clear h) | (clear h)
  all_goals (try simp only [eta0, RT.bytes] at *)
  all_goals (try dsimp only [RT.ty] at *)
  all_goals (try simp only [ncastSrvStays] at *)
  all_goals first | omega | exact wrap_succ (by omega) | skip
  all_goals first | exact srv_one | skip
  all_goals (try have hG := stays_law (by assumption))
  all_goals (try have hN := none_law (by assumption))
  all_goals (try dsimp only [RT.ty] at hG)
  all_goals (try clear ho)
  all_goals first | omega | grind
end Go.Proofs.YtfgphaokmjdcbaaGreat

/-
  The law FnSrvTwice.
-/
namespace Go.Proofs.YtfgphaokmjdcbaaGreat
open Go.Sx Go.Proofs Go.Mo
set_option maxRecDepth 100000
set_option maxHeartbeats 8000000
set_option linter.unusedSimpArgs false
set_option linter.unusedVariables false

noncomputable def sLawSrvTwice : Sx.Spec := ⟨false, true, [.list .byte], [], fun _ _ _ => .ret (vB fun _ => true, fun _ => 0)⟩
theorem ncastSrvTwice (n : Nat) : (NatCast.natCast n : Int) = (n : Int) := rfl
theorem msg_beqT {a b : Msg} : (decide (a.kind = b.kind) && (decide (a.dest = b.dest) && (decide (a.cell = b.cell) && (decide (a.side = b.side) && (decide (a.n = b.n) && (decide (a.ord.who = b.ord.who) && (decide (a.ord.seq = b.ord.seq) && (decide (a.ord.kind = b.ord.kind) && (decide (a.ord.dest = b.ord.dest) && (decide (a.ord.n = b.ord.n) && (decide (a.pcl.n = b.pcl.n) && (decide (a.pcl.kind = b.pcl.kind) && (decide (a.pcl.wlk.id = b.pcl.wlk.id) && (decide (a.pcl.wlk.pos = b.pcl.wlk.pos) && (decide (a.pcl.wlk.coins = b.pcl.wlk.coins) && (decide (a.pcl.wlk.seq = b.pcl.wlk.seq) && (decide (a.pcl.wlk.last = b.pcl.wlk.last) && (decide (a.pcl.coins = b.pcl.coins) && (decide (a.gst.src = b.gst.src) && (decide (a.gst.count = b.gst.count) && (decide (a.gst.wlk.id = b.gst.wlk.id) && (decide (a.gst.wlk.pos = b.gst.wlk.pos) && (decide (a.gst.wlk.coins = b.gst.wlk.coins) && (decide (a.gst.wlk.seq = b.gst.wlk.seq) && (decide (a.gst.wlk.last = b.gst.wlk.last) && true))))))))))))))))))))))))) = decide (a = b) := by
  obtain ⟨a1, a2, a3, a4, a5, ⟨a6, a7, a8, a9, a10⟩, ⟨a11, a12, ⟨a13, a14, a15, a16, a17⟩, a18⟩, ⟨a19, a20, ⟨a21, a22, a23, a24, a25⟩⟩⟩ := a
  obtain ⟨b1, b2, b3, b4, b5, ⟨b6, b7, b8, b9, b10⟩, ⟨b11, b12, ⟨b13, b14, b15, b16, b17⟩, b18⟩, ⟨b19, b20, ⟨b21, b22, b23, b24, b25⟩⟩⟩ := b
  rw [Bool.eq_iff_iff]
  simp [and_assoc]
theorem twice_law {m : PMap} {s : Srv} {st : List Sto} {t : Arb} {v : Int} {x : Msg} (h : ¬ ((srvHearX m s st t v x).stores.length : Int) = 0) :
    @Eq (List Sto) (srvHearX m (srvHearX m s st t v x).srv (srvHearX m s st t v x).stores t v x).stores (srvHearX m s st t v x).stores ∧ @Eq Srv (srvHearX m (srvHearX m s st t v x).srv (srvHearX m s st t v x).stores t v x).srv (srvHearX m s st t v x).srv ∧
    (srvHearX m (srvHearX m s st t v x).srv (srvHearX m s st t v x).stores t v x).out.length ≤ 1 ∧
    ((srvHearX m s st t v x).out.length = 1 → (nth .msg (srvHearX m s st t v x).out 0).kind = 3 → (srvHearX m (srvHearX m s st t v x).srv (srvHearX m s st t v x).stores t v x).out.length = 1 ∧
      (@Eq Msg (nth .msg (srvHearX m (srvHearX m s st t v x).srv (srvHearX m s st t v x).stores t v x).out 0) (nth .msg (srvHearX m s st t v x).out 0) ∨ (nth .msg (srvHearX m (srvHearX m s st t v x).srv (srvHearX m s st t v x).stores t v x).out 0).kind = 4)) :=
  hrX_twice fun e => h (by rw [e]; rfl)
theorem okLawSrvTwice : SpecOk1 Tryz.prog 6 sLawSrvTwice := spec1 tabOk (ss := [(17, sDrawSrvHearE), (18, sSrvHear), (19, sSSrvHear), (20, sIsV), (21, sIsStores), (22, sIsNet), (24, sSrvNew), (23, sSrvOk)]) ⟨okDrawSrvHearE, okSrvHear, okSSrvHear, okIsServer, okIsStores, okIsNet, okSrvNew, okSrvOk, trivial⟩ rfl rfl <| by
  intro (bs : Th (List Int)) (p : Th Int) ⟨(a : Th (List Int)), u⟩ K _ _ ho h
  obtain ⟨a, rfl⟩ := th_ex a
  refine ⟨noAnn, noAnn, 20, ?_⟩
  cbv
  repeat' first | ((with_reducible intro _); cbv) | ((with_reducible show _ ∧ _); (with_reducible apply And.intro))
  all_goals first | (refine retK h ?_; clear h; simp only [fin0]) | (with_reducible refine Ob.mk ?_; clear h) | (clear h)
  all_goals (try simp only [eta0, RT.bytes] at *)
  all_goals (try dsimp only [RT.ty] at *)
  all_goals (try simp only [ncastSrvTwice] at *)
  all_goals first | omega | exact wrap_succ (by omega) | skip
  all_goals first | exact srv_one | skip
  all_goals (try simp only [Int.toNat_zero] at *)
  all_goals (try simp only [msg_beqT] at *)
  all_goals (try have hG := twice_law (by assumption))
  all_goals (try dsimp only [RT.ty] at hG)
  all_goals (try clear ho)
  all_goals first | omega | grind
end Go.Proofs.YtfgphaokmjdcbaaGreat
