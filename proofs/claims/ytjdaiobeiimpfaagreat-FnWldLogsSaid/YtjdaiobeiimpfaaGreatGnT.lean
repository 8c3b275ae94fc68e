/-
  Contracts: a world's step, the reference's way.
-/
import Derived.Test.YtjdaiobeiimpfaaGreatGnJ
import Derived.Test.YtjdaiobeiimpfaaGreatGnO
import Derived.Test.YtjdaiobeiimpfaaGreatM3
set_option linter.unusedVariables false
set_option linter.unusedSimpArgs false
set_option maxRecDepth 100000
set_option maxHeartbeats 16000000
namespace Go.Proofs.YtjdaiobeiimpfaaGreat
open Go.Sx Go.Proofs Go.Mo
noncomputable def sSWldStep : Sx.Spec := ⟨false, false, [.row .wld, .row .evt], [nWld], fun _ _ ⟨w, e, _⟩ => .ret (rAs (encWld fun _ => wldStep (w ()) (e ())), fun _ => 0)⟩
noncomputable def sSSrvNew : Sx.Spec := ⟨false, true, [], [[none, some .hld, some .gst]], fun _ _ _ => .ret (oSrv fun _ => ⟨true, [], []⟩, fun _ => 0)⟩
theorem okSSrvNew : SpecOk1 Tryz.prog 122 sSSrvNew := spec1 tabOk (ss := []) trivial rfl rfl <| by
 intro (bs : Th (List Int)) (p : Th Int) u K _ _ ho h
 refine ⟨noAnn, noAnn, 20, ?_⟩
 cbv
 repeat' first | ((with_reducible refine fun (k : Nat) => ?_); cbv) | ((with_reducible intro _); cbv) | (with_reducible refine And.intro ?_ ?_)
 all_goals first | (refine retK h ?_; clear h; simp only [fin0]) | (with_reducible refine Ob.mk ?_; clear h) | (clear h)
 all_goals (try simp only [eta0, RT.bytes] at *)
def annSend : Ann := ⟨Nat, [], fun σ k => (fun (kv kn : Nat) (L M : Th (List Msg)) => (((((σ.thin kv).only [1, 2, 4]).t 5 (vI fun _ => (k : Int))).cellC kv 7 (.own kn 1)).h kn (1, .row true 0 .msg (fun _ => L () ++ (M ()).take k)))) (σ.pk 2) (σ.okC (σ.pk 2) 7) (σ.rowM (σ.okC (σ.pk 2) 7)) (σ.tmM 1),
 fun σ k _ => Ob ((fun (L M : Th (List Msg)) => fun _ => k ≤ (M ()).length ∧ (L ()).length + k ≤ 40) (σ.rowM (σ.okC (σ.pk 2) 7)) (σ.tmM 1)), fun _ k _ => 41 - k⟩
def annCut : Ann := ⟨Nat, [⟨.cell 7170 2, some 1000000000006402, .srv⟩], fun σ k => (fun (kv ko : Nat) (N : Th (List Msg)) (a : Th Int) (L : Th (List Srv)) => ((((((σ.thin kv).only [1, 2, 4]).t 6 (vI fun _ => (k : Int))).t 5 (vO ko 1)).h ko (1, .row true 0 .msg (fun _ => cutTo (N ()) (a ()).toNat k))).cellC 7170 2 (.own 6402 1)).h 6402 (1, .row false 0 .srv L)) (σ.pk 2) (σ.okT 5) (σ.rowM (σ.okC (σ.pk 2) 7)) (σ.tmI 1) (σ.rowL .srv 6402),
 fun σ k _ => Ob ((fun (N : Th (List Msg)) => fun _ => k ≤ (N ()).length ∧ k ≤ 40) (σ.rowM (σ.okC (σ.pk 2) 7))), fun _ k _ => 41 - k⟩
theorem okSWldStep : SpecOk1 Tryz.prog 12 sSWldStep := spec1 tabOk (ss := [(13, sWldOk), (33, sWCopy), (114, sArbGrant), (71, sGwyAsk), (72, sGwySay), (75, sIn), (163, sGwyHear), (119, sSSrvHear), (77, sSrvTick), (122, sSSrvNew)]) ⟨okSWldOk, okL13Copy, okSArbGrant, okSGwyAsk, okSGwySay, okL1In, okSGwyHear, okSSrvHear, okSSrvTick, okSSrvNew, trivial⟩ rfl rfl <| by
 intro (bs : Th (List Int)) (p : Th Int) ⟨(w : Th Wld), (e : Th Evt), u⟩ K _ _ ho h
 obtain ⟨w, rfl⟩ := th_ex w; obtain ⟨e, rfl⟩ := th_ex e
 have hb0 := okB (ho.1 _ (.tail _ (.tail _ (.head _))))
 have hF := @wld_facts w
 have hI1 : wldOk w = true → inR e.pos 0 (IntKind.i64.wrap ((w.net.length : Int) - 1)) = decide (0 ≤ e.pos ∧ e.pos < (w.net.length : Int)) := fun h => in_len e.pos w.net.length (by have := (hF h).2.2.2.1; omega)
 have hI2 : wldOk w = true → inR e.pos 0 (IntKind.i64.wrap ((w.servers.length : Int) - 1)) = decide (0 ≤ e.pos ∧ e.pos < (w.servers.length : Int)) := fun h => in_len e.pos w.servers.length (by have := (hF h).2.2.2.2.2.2.2.2; omega)
 have h0 := @step_bad w e
 have h1 := @step_1 w e
 have h2 := @step_2 w e
 have h3 := @step_3 w e
 have h4 := @step_4n w e
 have h4g := @step_4g w e
 have h4h := @step_4h w e
 have h4x := fun (a : wldOk w = true) (b : e.kind = 4) (c : inR e.pos 0 (IntKind.i64.wrap ((w.net.length : Int) - 1)) = false) => step_4n a b (by rw [hI1 a] at c; simpa using c)
 have h4y := fun (a : wldOk w = true) (b : e.kind = 4) (c : inR e.pos 0 (IntKind.i64.wrap ((w.net.length : Int) - 1)) = true) => step_4h a b (by rw [hI1 a] at c; simpa using c)
 have h6x := fun (a : wldOk w = true) (b : e.kind = 6) (c : inR e.pos 0 (IntKind.i64.wrap ((w.net.length : Int) - 1)) = true) => (step_6 a b).trans (if_pos (by rw [hI1 a] at c; simpa using c))
 have h5 := @step_5 w e
 have h6 := @step_6 w e
 have h7 := @step_7 w e
 have h8 := @step_8 w e
 have h9 := @step_9 w e
 have h9x := fun (a : wldOk w = true) (b : e.kind = 9) (c : inR e.pos 0 (IntKind.i64.wrap ((w.servers.length : Int) - 1)) = false) => (step_9 a b).trans (if_neg (fun hq => by rw [hI2 a] at c; simp only [decide_eq_false_iff_not] at c; exact c ⟨hq.1, hq.2.1⟩))
 have hn := @step_no w e
 have hG := @grant_len w.map w.table w.servers.length e.pos e.dest
 have hC := cutTo_len w.net e.pos.toNat
 refine ⟨annL [(73, 2, annSend), (76, 3, annCut)], noAnn, 20, ?_⟩
 cbv
 repeat' first | ((with_reducible refine fun (k : Nat) => ?_); (with_reducible refine ImpB.out ?_); cbv; (with_reducible refine ImpB.mk ?_); intro hq; obtain ⟨hq⟩ := hq) | ((with_reducible intro _); cbv) | (with_reducible refine And.intro ?_ ?_)
 all_goals try ((first | (with_reducible refine LoopIn.wb ((0 : Nat)) ?_ ?_) | (with_reducible refine LoopBack.wb ((k + 1 : Nat)) ?_ ?_ ?_)) <;> cbv)
 all_goals try (with_reducible show _ ∧ _; (try simp only [and_true, true_and]))
 all_goals try (repeat' with_reducible refine And.intro ?_ ?_)
 all_goals try (with_reducible refine MeasB.mk ?_)
 all_goals first | (refine retK h ?_; clear h; simp only [fin0]) | (with_reducible refine Ob.mk ?_; clear h) | (clear h)
 all_goals (try simp only [eta0, RT.bytes] at *)
 all_goals (try clear bs p u K)
 all_goals (try simp only [set_th, bne_iff_ne, ne_eq, List.take_zero, List.append_nil, List.append_assoc] at *)
 all_goals (try clear bs p u K)
 all_goals (try dsimp only [RT.ty] at *)
 all_goals (try simp only [ncastT] at *)
 all_goals first | omega | exact wrap_succ (by omega) | (grind (splits := 10) [cutTo_zero, cutTo_all, cutTo_no, cutTo_yes, send_end, take_len', take_more, wrap_succ, zeroWld]) |
  (rw [h1 (by assumption) (by assumption), if_pos (by assumption)]; refine ⟨rfl, rfl, rfl, rfl, rfl, rfl, rfl, ?_, rfl⟩; apply send_app <;> (try intro _) <;> (try simp only [List.length_cons, List.length_nil] at *) <;> omega) |
  (rw [h3 (by assumption) (by assumption), if_pos (by assumption)]; refine ⟨rfl, rfl, rfl, rfl, rfl, rfl, rfl, ?_, rfl⟩; apply send_app <;> (try intro _) <;> (try simp only [List.length_cons, List.length_nil] at *) <;> omega) |
  (rw [h6x (by assumption) (by assumption) (by assumption)]; refine ⟨rfl, rfl, rfl, rfl, rfl, rfl, rfl, ?_, rfl⟩; apply send_app <;> (try intro _) <;> (try simp only [List.length_cons, List.length_nil] at *) <;> omega) |
  (rw [h4x (by assumption) (by assumption) (by assumption)]; exact ⟨rfl, rfl, rfl, rfl, rfl, rfl, rfl, rfl, rfl⟩) |
  (rw [h4y (by assumption) (by assumption) (by assumption) (by assumption)]; refine ⟨rfl, rfl, rfl, rfl, rfl, rfl, rfl, ?_, rfl⟩; apply send_cut <;> (try intro _) <;> omega) |
  (rw [h9x (by assumption) (by assumption) (by assumption)]; exact ⟨rfl, rfl, rfl, rfl, rfl, rfl, rfl, rfl, rfl⟩)
end Go.Proofs.YtjdaiobeiimpfaaGreat
