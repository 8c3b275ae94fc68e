/-
  Contracts: a world's step, the program's way.
-/
import Derived.Test.YtjdaiobeiimpfaaGreatGsB
import Derived.Test.YtjdaiobeiimpfaaGreatGrS
import Derived.Test.YtjdaiobeiimpfaaGreatGnW
import Derived.Test.YtjdaiobeiimpfaaGreatGrT
import Derived.Test.YtjdaiobeiimpfaaGreatGnT
import Derived.Test.YtjdaiobeiimpfaaGreatGsT
set_option linter.unusedVariables false
set_option linter.unusedSimpArgs false
set_option maxRecDepth 100000
set_option maxHeartbeats 16000000
namespace Go.Proofs.YtjdaiobeiimpfaaGreat
open Go.Sx Go.Proofs Go.Mo
noncomputable def sStepP : Sx.Io := ⟨.row .wld, true, [.row .evt], [], fun w ⟨e, _⟩ => .asrt (fun _ => wldOk (w ()) = true) (.ret (.tup [], fun _ => wStep (w ()) (e ())))⟩
theorem okStepP : SpecOk1 Tryz.prog 31 (ioX sStepP) := io1 tabOk (ss := [(53, sIn), (63, (ioX sGrantP)), (64, (ioX sSendP)), (65, (ioX sAskP)), (108, sRowPlace), (109, sArbServer), (67, (ioX sBringP)), (68, sDeleteMX), (69, sTick), (23, sSrvNew)]) ⟨okIn, okGrantP, okSendP, okAskP, okRow, okArbServer, okBringP, okDeleteMX, okTick, okSrvNew, trivial⟩ rfl rfl <| by
 intro (w : Th Wld) ⟨(e : Th Evt), u⟩ K _ ho h
 obtain ⟨w, rfl⟩ := th_ex w; obtain ⟨e, rfl⟩ := th_ex e
 obtain ⟨ha, h⟩ := h
 have ha := ha.out
 have hok : wldOk w = true := ha
 have hF := wld_facts hok
 have hI1 : inR e.pos 0 (IntKind.i64.wrap ((w.net.length : Int) - 1)) = decide (0 ≤ e.pos ∧ e.pos < (w.net.length : Int)) := in_len e.pos w.net.length (by have := hF.2.2.2.1; omega)
 have hI2 : inR e.pos 0 (IntKind.i64.wrap ((w.servers.length : Int) - 1)) = decide (0 ≤ e.pos ∧ e.pos < (w.servers.length : Int)) := in_len e.pos w.servers.length (by have := hF.2.2.2.2.2.2.2.2; omega)
 have hr := row_lt w.rows e.pos
 refine ⟨noAnn, noAnn, 20, ?_⟩
 cbv
 repeat' first | ((with_reducible intro _); cbv) | (with_reducible refine And.intro ?_ ?_)
 all_goals first | refine ioK h ?_ ?_ | (with_reducible refine Ob.mk ?_; clear h) | (clear h)
 all_goals (try clear h)
 all_goals (try clear K)
 all_goals (try simp only [fin0])
 all_goals (try simp only [eta0, RT.bytes] at *)
 all_goals (try simp only [hI1, hI2, decide_eq_true_eq, decide_eq_false_iff_not] at *)
 all_goals (try dsimp only [RT.ty] at *)
 all_goals (try simp only [ncastT] at *)
 all_goals (try have hF4 := hF.2.2.2.1)
 all_goals (try have hF9 := hF.2.2.2.2.2.2.2.2)
 all_goals (try clear hI1)
 all_goals (try clear hI2)
 all_goals (try have hW : IntKind.i64.wrap (e.pos + 1) = e.pos + 1 := wrap_id (by omega) (by omega))
 all_goals first | omega | assumption | exact tab_of hF.1 | exact gwy_seqB hF.2.2.1 | exact ⟨hF.2.2.2.1, by omega⟩ | exact ⟨hF.2.2.2.1, Nat.le_trans tick_len (by omega)⟩ | exact hF.2.2.2.2.2.2.1 _ (by omega) | exact grant_in (tab_of hF.1) (by assumption) | exact ⟨hok, by omega⟩ | exact st1 (by assumption) (by assumption) | exact st1n (by assumption) (by assumption) | exact st2 (by assumption) | exact st3 (by assumption) (by assumption) (by assumption) (by assumption) | exact st3n (by assumption) (.inl (by assumption)) | exact st3n (by assumption) (.inr (.inl (by assumption))) | exact st3n (by assumption) (.inr (.inr (by assumption))) | exact st4 (by assumption) (by omega) | exact st5 (by assumption) (by omega) | exact st6 (by assumption) (by omega) | exact st7 (by assumption) (by omega) | exact st8 (by assumption) (by omega) | exact st9 (by assumption) (by omega) (by assumption) | exact stn9 (by assumption) (by assumption) | exact stn (by omega)
noncomputable def sWldStepI : Sx.Spec := ⟨false, false, [.row .wld, .row .evt], [nWld], fun _ _ ⟨w, e, _⟩ => .ret (rAs (encWld fun _ => wldStep (w ()) (e ())), fun _ => 0)⟩
theorem okWldStep : SpecOk1 Tryz.prog 10 sWldStepI := spec1 tabOk (ss := [(21, sWldOk), (30, sWCopy), (31, (ioX sStepP))]) ⟨okWldOk, okCloneWld, okStepP, trivial⟩ rfl rfl <| by
 intro (bs : Th (List Int)) (p : Th Int) ⟨(w : Th Wld), (e : Th Evt), u⟩ K _ _ ho h
 obtain ⟨w, rfl⟩ := th_ex w; obtain ⟨e, rfl⟩ := th_ex e
 refine ⟨noAnn, noAnn, 20, ?_⟩
 cbv
 repeat' first | ((with_reducible intro _); cbv) | (with_reducible refine And.intro ?_ ?_)
 all_goals first | (refine retK h ?_; clear h; simp only [fin0]) | (with_reducible refine Ob.mk ?_; clear h) | (clear h)
 all_goals (try simp only [eta0, RT.bytes] at *)
 all_goals grind [wldStep, zeroWld]
end Go.Proofs.YtjdaiobeiimpfaaGreat
