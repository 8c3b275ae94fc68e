/-
  Contracts: an event drawn.
-/
import Derived.Test.YtmonhpdodgonbaaGreatGnV
import Derived.Test.YtmonhpdodgonbaaGreatGnF
import Derived.Test.YtmonhpdodgonbaaGreatFoHs
import Derived.Test.YtmonhpdodgonbaaGreatM2
set_option linter.unusedVariables false
set_option linter.unusedSimpArgs false
namespace Go.Sx
def oneC (v : V) : C := match v with
  | .one c => c
  | _ => .unk
def St.tmB (σ : St) (d : Nat) : Th Bool := asB (oneC (σ.tm.get d))
end Go.Sx
namespace Go.Proofs.YtmonhpdodgonbaaGreat
open Go.Sx Go.Proofs Go.Mo
set_option maxRecDepth 100000
set_option maxHeartbeats 8000000
set_option linter.unusedSimpArgs false
set_option linter.unusedVariables false

def noRow : Th Row := fun _ => ⟨0, 0, false, ⟨0, 0, 0, 0, 0⟩, 0, 0⟩
theorem okEventE : SpecOk1 Tryz.prog 79 sEventE := spec1 tabOk (ss := [(17, sPick), (92, sAskE)]) ⟨okPick, okAskE, trivial⟩ rfl rfl <| by
  intro (bs : Th (List Int)) (p : Th Int) ⟨(w : Th Wld), u⟩ K hb hp0 ho h
  obtain ⟨w, rfl⟩ := th_ex w; obtain ⟨bs, rfl⟩ := th_ex bs; obtain ⟨p, rfl⟩ := th_ex p
  obtain ⟨hpre, h⟩ := h
  have hpre : True ∧ 0 ≤ p ∧ p ≤ 999000000000 := hpre.out
  refine ⟨noAnn, annL [(79, 4, ⟨Th Int × Th Int, [], fun σ g => (σ.t 5 (.one (.att (.int .i64 g.1)))).cellC 0 1 (.att (.int .i64 g.2)), fun _ g _ => Ob fun _ => p ≤ g.2 () ∧ g.2 () ≤ p + 2, fun _ g _ => 0⟩),
    (79, 13, ⟨Th Bool × Th Int, [], fun σ g => σ.t 37 (.one (.att (.bool (.of g.1)))), fun _ g _ => Ob fun _ => True, fun _ g _ => 0⟩),
    (79, 19, ⟨Th Int × Th Bool, [], fun σ g => σ.t 47 (.one (.att (.bool (.of g.2)))), fun _ g _ => Ob fun _ => True, fun _ g _ => 0⟩),
    (79, 24, ⟨Th Bool × Th Bool, [], fun σ g => σ.t 61 (.one (.att (.bool (.of g.1)))), fun _ g _ => Ob fun _ => True, fun _ g _ => 0⟩),
    (79, 28, ⟨Th Bool × Th Row, [], fun σ g => σ.t 66 (.one (.att (.bool (.of g.1)))), fun _ g _ => Ob fun _ => True, fun _ g _ => 0⟩)], 20, ?_⟩
  cbv
  repeat' first | ((with_reducible refine fun (g : Th Int × Th Int) => ?_); obtain ⟨i, q⟩ := g; obtain ⟨i, rfl⟩ := th_ex i; obtain ⟨q, rfl⟩ := th_ex q; (with_reducible refine ImpB.out ?_); cbv; (with_reducible refine ImpB.mk ?_); intro hq; obtain ⟨hq⟩ := hq) | ((with_reducible refine fun (g : Th Bool × Th Int) => ?_); obtain ⟨b1, z1⟩ := g; obtain ⟨b1, rfl⟩ := th_ex b1; obtain ⟨z1, rfl⟩ := th_ex z1; (with_reducible refine ImpB.out ?_); cbv; (with_reducible refine ImpB.mk ?_); intro hq; obtain ⟨hq⟩ := hq) | ((with_reducible refine fun (g : Th Int × Th Bool) => ?_); obtain ⟨z2, b2⟩ := g; obtain ⟨z2, rfl⟩ := th_ex z2; obtain ⟨b2, rfl⟩ := th_ex b2; (with_reducible refine ImpB.out ?_); cbv; (with_reducible refine ImpB.mk ?_); intro hq; obtain ⟨hq⟩ := hq) | ((with_reducible refine fun (g : Th Bool × Th Bool) => ?_); obtain ⟨b3, z3⟩ := g; obtain ⟨b3, rfl⟩ := th_ex b3; obtain ⟨z3, rfl⟩ := th_ex z3; (with_reducible refine ImpB.out ?_); cbv; (with_reducible refine ImpB.mk ?_); intro hq; obtain ⟨hq⟩ := hq) | ((with_reducible refine fun (g : Th Bool × Th Row) => ?_); obtain ⟨b4, z4⟩ := g; obtain ⟨b4, rfl⟩ := th_ex b4; obtain ⟨z4, rfl⟩ := th_ex z4; (with_reducible refine ImpB.out ?_); cbv; (with_reducible refine ImpB.mk ?_); intro hq; obtain ⟨hq⟩ := hq) | ((with_reducible intro _); cbv) | ((with_reducible show _ ∧ _); (with_reducible apply And.intro))
  all_goals try ((first | (with_reducible refine LoopIn.wf (fun σ => (σ.tmI 5, asI (σ.ce 0 1))) ?_ ?_) | (with_reducible refine LoopBack.wf (fun σ => (σ.tmI 5, asI (σ.ce 0 1))) ?_ ?_ ?_) | (with_reducible refine LoopIn.wf (fun σ => (σ.tmB 37, noInt)) ?_ ?_) | (with_reducible refine LoopBack.wf (fun σ => (σ.tmB 37, noInt)) ?_ ?_ ?_) | (with_reducible refine LoopIn.wf (fun σ => (noInt, σ.tmB 47)) ?_ ?_) | (with_reducible refine LoopBack.wf (fun σ => (noInt, σ.tmB 47)) ?_ ?_ ?_) | (with_reducible refine LoopIn.wf (fun σ => (σ.tmB 61, noBool)) ?_ ?_) | (with_reducible refine LoopBack.wf (fun σ => (σ.tmB 61, noBool)) ?_ ?_ ?_) | (with_reducible refine LoopIn.wf (fun σ => (σ.tmB 66, noRow)) ?_ ?_) | (with_reducible refine LoopBack.wf (fun σ => (σ.tmB 66, noRow)) ?_ ?_ ?_)) <;> cbv)
  all_goals try (with_reducible show _ ∧ _; (try simp only [and_true, true_and]))
  all_goals try (with_reducible show _ ∧ _; (repeat' (with_reducible apply And.intro)))
  all_goals try (with_reducible refine MeasB.mk ?_)
  all_goals first | (refine retK (h _ _ _ _ _ _ ?_) rfl; clear h) | (with_reducible refine Ob.mk ?_; clear h) | (clear h)
  all_goals (try simp only [eta0, RT.bytes] at *)
  all_goals (try dsimp only [RT.ty] at *)
  all_goals (try simp only [ncast] at *)
  all_goals (first | rfl | omega | grind [wrap_id])
end Go.Proofs.YtmonhpdodgonbaaGreat

/-
  Contracts: lists of servers' things, servers, worlds, the one world compared.
-/
namespace Go.Mo
open Go.Sx
theorem srv_ext {a b : Srv} : a = b ↔ a.up = b.up ∧ a.holds = b.holds ∧ a.ghosts = b.ghosts := by
  cases a; cases b; simp
theorem note_ext {a b : Note} : a = b ↔ a.who = b.who ∧ a.seq = b.seq ∧ a.code = b.code := by
  cases a; cases b; simp
theorem ow_ext {a b : OW} : a = b ↔ a.wlk = b.wlk ∧ a.here = b.here := by
  cases a; cases b; simp
theorem map_ext {a b : PMap} : a = b ↔ a.cells = b.cells ∧ a.width = b.width := by
  cases a; cases b; simp
theorem one_ext {a b : One} : a = b ↔ a.map = b.map ∧ a.wlks = b.wlks ∧ a.ground = b.ground ∧ a.air = b.air := by
  cases a; cases b; simp
theorem arb_ext {a b : Arb} : a = b ↔ a.servers = b.servers ∧ a.ages = b.ages := by
  cases a; cases b; simp
theorem wld_ext {a b : Wld} : a = b ↔ a.map = b.map ∧ a.servers = b.servers ∧ a.stores = b.stores ∧ a.table = b.table ∧ a.rows = b.rows ∧ a.net = b.net ∧ a.notes = b.notes := by
  cases a; cases b; simp
end Go.Mo
namespace Go.Proofs.YtmonhpdodgonbaaGreat
open Go.Sx Go.Proofs Go.Mo
set_option maxRecDepth 100000
set_option maxHeartbeats 8000000
set_option linter.unusedSimpArgs false
set_option linter.unusedVariables false

noncomputable def sIsGhosts : Sx.Spec := ⟨false, true, [.list .gst, .list .gst], [], fun _ _ ⟨a, b, _⟩ => .ret (vB fun _ => decide (a () = b ()), fun _ => 0)⟩
noncomputable def sIsNet : Sx.Spec := ⟨false, true, [.list .msg, .list .msg], [], fun _ _ ⟨a, b, _⟩ => .ret (vB fun _ => decide (a () = b ()), fun _ => 0)⟩
noncomputable def sIsNotes : Sx.Spec := ⟨false, true, [.list .note, .list .note], [], fun _ _ ⟨a, b, _⟩ => .ret (vB fun _ => decide (a () = b ()), fun _ => 0)⟩
noncomputable def sIsStores : Sx.Spec := ⟨false, true, [.list .sto, .list .sto], [], fun _ _ ⟨a, b, _⟩ => .ret (vB fun _ => decide (a () = b ()), fun _ => 0)⟩
noncomputable def sIsServers : Sx.Spec := ⟨false, true, [.list .srv, .list .srv], [], fun _ _ ⟨a, b, _⟩ => .ret (vB fun _ => decide (a () = b ()), fun _ => 0)⟩
noncomputable def sIsV : Sx.Spec := ⟨false, true, [.row .srv, .row .srv], [], fun _ _ ⟨a, b, _⟩ => .ret (vB fun _ => decide (a () = b ()), fun _ => 0)⟩
noncomputable def sIsWld : Sx.Spec := ⟨false, true, [.row .wld, .row .wld], [], fun _ _ ⟨a, b, _⟩ => .ret (vB fun _ => decide (a () = b ()), fun _ => 0)⟩
noncomputable def sIsOne : Sx.Spec := ⟨false, true, [.one, .one], [], fun _ _ ⟨a, b, _⟩ => .ret (vB fun _ => decide (a () = b ()), fun _ => 0)⟩
theorem okIsNet : SpecOk1 Tryz.prog 6 sIsNet := spec1 tabOk (ss := []) trivial rfl rfl <| by
  intro (bs : Th (List Int)) (p : Th Int) ⟨(a : Th (List Msg)), (b : Th (List Msg)), u⟩ K _ _ ho h
  obtain ⟨a, rfl⟩ := th_ex a; obtain ⟨b, rfl⟩ := th_ex b
  have hl := okL (ho.1 _ (.head _))
  refine ⟨annL [(6, 4, ⟨Nat, [], fun σ k => σ.t 5 (vI fun _ => (k : Int)), fun _ k _ => k ≤ a.length ∧ a.length = b.length ∧ same .msg a b k, fun _ k _ => a.length - k⟩)], noAnn, 20, ?_⟩
  cbv
  repeat' first | ((with_reducible refine fun (k : Nat) => ?_); cbv) | ((with_reducible refine fun (q : Nat × Unit) => ?_); obtain ⟨s, _⟩ := q; cbv) | ((with_reducible refine fun (q : Nat × Nat) => ?_); obtain ⟨s, k⟩ := q; cbv) | ((with_reducible intro _); cbv) | ((with_reducible show _ ∧ _); (with_reducible apply And.intro))
  all_goals try ((first | (with_reducible refine LoopIn.mk ((0 : Nat)) ?_ ?_) | (with_reducible refine LoopBack.mk ((k + 1 : Nat)) ?_ ?_ ?_)) )
  all_goals try ((with_reducible show matchSt _ _); cbv; (try simp only [and_true, true_and]))
  all_goals try (with_reducible show _ ∧ _; (repeat' (with_reducible apply And.intro)))
  all_goals first | (refine retK h ?_; clear h; simp only [fin0]) | (with_reducible refine Ob.mk ?_; clear h) | (clear h)
  all_goals (try simp only [eta0, RT.bytes] at *)
  all_goals grind [wrap_succ, same_zero, same_succ, same_all, msg_ext, ord_ext, pcl_ext, gst_ext, wlk_ext]
end Go.Proofs.YtmonhpdodgonbaaGreat
