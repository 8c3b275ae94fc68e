/-
  Contracts: is a world ok, the program's way.
-/
import Derived.Test.YtjdaiobeiimpfaaGreatGnJ
import Derived.Test.YtjdaiobeiimpfaaGreatM3
set_option linter.unusedVariables false
set_option linter.unusedSimpArgs false
set_option maxRecDepth 100000
set_option maxHeartbeats 8000000
namespace Go.Sx
def St.tmL (t : RT) (σ : St) (d : Nat) : Th (List t.ty) := match σ.tm.get d with
 | .one (.att (.list t' l)) => if h : t' = t then castL h l else noList t
 | _ => noList t
end Go.Sx
namespace Go.Proofs.YtjdaiobeiimpfaaGreat
open Go.Sx Go.Proofs Go.Mo
theorem ncastW (n : Nat) : (NatCast.natCast n : Int) = (n : Int) := rfl
theorem wrap_natW {k : Nat} (h : k ≤ 1000) : (IntKind.i64.wrap ((k : Int) + 1)).toNat = k + 1 := by rw [wrap_succ (by omega)]; rfl
theorem okWldOk : SpecOk1 Tryz.prog 21 sWldOk := spec1 tabOk (ss := [(43, sArbOk), (44, sStosOk), (45, sGwyOk), (46, sSrvOk), (49, sMsgOk), (52, sIsWalker), (53, sIn)]) ⟨okArbOk, okStosOk, okGwyOk, okSrvOk, okMsgOk, okIsWalker, okIn, trivial⟩ rfl rfl <| by
 intro (bs : Th (List Int)) (p : Th Int) ⟨(w : Th Wld), u⟩ K _ _ ho h
 obtain ⟨w, rfl⟩ := th_ex w
 have ht := @arb_len w.map w.table w.servers.length
 have hs := @stos_len w.map w.stores
 have hs4 := @stos_few w.map w.stores
 have he := wldOk_all w
 have hi := fun (k j : Nat) => @hold_in w.map (nth .srv w.servers k) j
 have hi2 := fun (k : Nat) => @msg_in w.map w.servers.length (nth .msg w.net k)
 have hn := fun (k : Nat) => @srv_few w.map (nth .srv w.servers k)
 refine ⟨annL [(21, 5, ⟨Th Int × Th Bool, [], fun σ g => (σ.only [1, 3, 47, 48]).t 49 (.one (.att (.int .i64 g.1))), fun _ g _ => Ob fun _ => 0 ≤ g.1 () ∧ g.1 () ≤ w.stores.length ∧ w.stores.length ≤ 4 ∧ arbOk w.map w.table w.servers.length = true ∧ stosOk w.map w.stores = true ∧ gwyOk w.map w.rows = true ∧ w.net.length ≤ 40 ∧ w.notes.length ≤ 150 ∧ allTo (g.1 ()).toNat (aheadS w) = true, fun _ g _ => 5 - (g.1 ()).toNat⟩),
  (21, 11, ⟨Th Bool × Th Int, [], fun σ g => (σ.only [1, 3, 65, 66]).t 67 (.one (.att (.int .i64 g.2))), fun _ g _ => Ob fun _ => 0 ≤ g.2 () ∧ g.2 () ≤ w.servers.length ∧ w.servers.length ≤ 3 ∧ allTo w.stores.length (aheadS w) = true ∧ allTo (g.2 ()).toNat (srvIn w) = true, fun _ g _ => 4 - (g.2 ()).toNat⟩),
  (92, 2, ⟨Th Int × Th Int, [], fun σ g => σ.t 8 (.one (.att (.int .i64 g.1))), fun σ g _ => Ob ((fun (L : Th (List Hld)) => fun _ => 0 ≤ g.1 () ∧ g.1 () ≤ (L ()).length ∧ (L ()).length ≤ 4 ∧ allTo (g.1 ()).toNat (aheadH w.table (L ())) = true) (σ.tmL .hld 0)), fun _ g _ => 5 - (g.1 ()).toNat⟩),
  (21, 17, ⟨Th Bool × Th Int × Th Int, [], fun σ g => (σ.only [1, 3, 83, 84]).t 85 (.one (.att (.int .i64 g.2.1))), fun _ g _ => Ob fun _ => 0 ≤ g.2.1 () ∧ g.2.1 () ≤ w.net.length ∧ allTo w.stores.length (aheadS w) = true ∧ srvsIn w = true ∧ allTo (g.2.1 ()).toNat (msgIn w) = true, fun _ g _ => 41 - (g.2.1 ()).toNat⟩),
  (96, 2, ⟨Th Bool × Th Bool × Th Int, [], fun σ g => σ.t 8 (.one (.att (.int .i64 g.2.2))), fun σ g _ => Ob fun _ => 0 ≤ g.2.2 () ∧ g.2.2 () ≤ w.notes.length ∧ allTo (g.2.2 ()).toNat (noteAt w.notes) = true, fun _ g _ => 151 - (g.2.2 ()).toNat⟩)], annL [(47, 1, ⟨Th Bool × Th Bool, [], fun σ _ => σ, fun _ _ _ => Ob fun _ => True, fun _ _ _ => 0⟩), (50, 1, ⟨Th Bool × Th Bool, [], fun σ _ => σ, fun _ _ _ => Ob fun _ => True, fun _ _ _ => 0⟩)], 20, ?_⟩
 cbv
 repeat' first | ((with_reducible refine fun (g : Th Int × Th Bool) => ?_); obtain ⟨i, z⟩ := g; obtain ⟨i, rfl⟩ := th_ex i; obtain ⟨z, rfl⟩ := th_ex z; (with_reducible refine ImpB.out ?_); cbv; (with_reducible refine ImpB.mk ?_); intro hq; obtain ⟨hq⟩ := hq; have hq0 := hq.1; obtain ⟨i, rfl⟩ := Int.eq_ofNat_of_zero_le hq0; clear hq0) | ((with_reducible refine fun (g : Th Bool × Th Int) => ?_); obtain ⟨z, i⟩ := g; obtain ⟨z, rfl⟩ := th_ex z; obtain ⟨i, rfl⟩ := th_ex i; (with_reducible refine ImpB.out ?_); cbv; (with_reducible refine ImpB.mk ?_); intro hq; obtain ⟨hq⟩ := hq; have hq0 := hq.1; obtain ⟨i, rfl⟩ := Int.eq_ofNat_of_zero_le hq0; clear hq0) | ((with_reducible refine fun (g : Th Int × Th Int) => ?_); obtain ⟨j, z⟩ := g; obtain ⟨j, rfl⟩ := th_ex j; obtain ⟨z, rfl⟩ := th_ex z; (with_reducible refine ImpB.out ?_); cbv; (with_reducible refine ImpB.mk ?_); intro hq; obtain ⟨hq⟩ := hq; have hq0 := hq.1; obtain ⟨j, rfl⟩ := Int.eq_ofNat_of_zero_le hq0; clear hq0) | ((with_reducible refine fun (g : Th Bool × Th Int × Th Int) => ?_); obtain ⟨z, i, y⟩ := g; obtain ⟨z, rfl⟩ := th_ex z; obtain ⟨i, rfl⟩ := th_ex i; obtain ⟨y, rfl⟩ := th_ex y; (with_reducible refine ImpB.out ?_); cbv; (with_reducible refine ImpB.mk ?_); intro hq; obtain ⟨hq⟩ := hq; have hq0 := hq.1; obtain ⟨i, rfl⟩ := Int.eq_ofNat_of_zero_le hq0; clear hq0) | ((with_reducible refine fun (g : Th Bool × Th Bool × Th Int) => ?_); obtain ⟨z, y, i⟩ := g; obtain ⟨z, rfl⟩ := th_ex z; obtain ⟨y, rfl⟩ := th_ex y; obtain ⟨i, rfl⟩ := th_ex i; (with_reducible refine ImpB.out ?_); cbv; (with_reducible refine ImpB.mk ?_); intro hq; obtain ⟨hq⟩ := hq; have hq0 := hq.1; obtain ⟨i, rfl⟩ := Int.eq_ofNat_of_zero_le hq0; clear hq0) | ((with_reducible refine fun (g : Th Bool × Th Bool) => ?_); obtain ⟨z, y⟩ := g; obtain ⟨z, rfl⟩ := th_ex z; obtain ⟨y, rfl⟩ := th_ex y; (with_reducible refine ImpB.out ?_); cbv; (with_reducible refine ImpB.mk ?_); intro hq; obtain ⟨hq⟩ := hq) | ((with_reducible intro _); cbv) | (with_reducible refine And.intro ?_ ?_)
 all_goals try ((first | (with_reducible refine LoopIn.wf (fun σ => (σ.tmI 49, noBool)) ?_ ?_) | (with_reducible refine LoopBack.wf (fun σ => (σ.tmI 49, noBool)) ?_ ?_ ?_) | (with_reducible refine LoopIn.wf (fun σ => (noBool, σ.tmI 67)) ?_ ?_) | (with_reducible refine LoopBack.wf (fun σ => (noBool, σ.tmI 67)) ?_ ?_ ?_) | (with_reducible refine LoopIn.wf (fun σ => (σ.tmI 8, noInt)) ?_ ?_) | (with_reducible refine LoopBack.wf (fun σ => (σ.tmI 8, noInt)) ?_ ?_ ?_) | (with_reducible refine LoopIn.wf (fun σ => (noBool, σ.tmI 85, noInt)) ?_ ?_) | (with_reducible refine LoopBack.wf (fun σ => (noBool, σ.tmI 85, noInt)) ?_ ?_ ?_) | (with_reducible refine LoopIn.wf (fun σ => (noBool, noBool, σ.tmI 8)) ?_ ?_) | (with_reducible refine LoopBack.wf (fun σ => (noBool, noBool, σ.tmI 8)) ?_ ?_ ?_) | (with_reducible refine LoopIn.wf (fun _ => (noBool, noBool)) ?_ ?_) | (with_reducible refine LoopBack.wf (fun _ => (noBool, noBool)) ?_ ?_ ?_)) <;> cbv)
 all_goals try (with_reducible show _ ∧ _; (try simp only [and_true, true_and]))
 all_goals try (repeat' with_reducible refine And.intro ?_ ?_)
 all_goals try (with_reducible refine MeasB.mk ?_)
 all_goals first | (refine retK h ?_; clear h; simp only [fin0]) | (with_reducible refine Ob.mk ?_; clear h) | (clear h)
 all_goals (try simp only [eta0, RT.bytes] at *)
 all_goals (try dsimp only [RT.ty] at *)
 all_goals (try simp only [Int.toNat_natCast, Int.toNat_zero] at *)
 all_goals (try simp only [ncastW] at *)
 all_goals (try simp (disch := omega) only [wrap_natW, wrap_succ, Int.toNat_natCast])
 all_goals (first | omega | grind (splits := 30) [wrap_succ, wrap_id, wldOkAll, srvsIn, msgsIn, notesIn, srvs_bad1, srvs_bad2, srvIn_of, stos_bad, aheadS, aheadH, net_bad, msgIn, notes_bad, noteAt, noteOk, allTo_all, allTo_zero, allTo_succ, inR])
end Go.Proofs.YtjdaiobeiimpfaaGreat
