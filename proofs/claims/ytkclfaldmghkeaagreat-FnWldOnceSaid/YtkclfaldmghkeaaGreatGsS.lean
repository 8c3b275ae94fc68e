/-
  Contracts: a world's step, the program's way.
-/
import Derived.Test.YtkclfaldmghkeaaGreatGsB
import Derived.Test.YtkclfaldmghkeaaGreatGnS
import Derived.Test.YtkclfaldmghkeaaGreatGnW
import Derived.Test.YtkclfaldmghkeaaGreatGrT
import Derived.Test.YtkclfaldmghkeaaGreatGnT
import Derived.Test.YtkclfaldmghkeaaGreatGsT
set_option linter.unusedVariables false
set_option linter.unusedSimpArgs false
set_option maxRecDepth 100000
set_option maxHeartbeats 16000000
namespace Go.Proofs.YtkclfaldmghkeaaGreat
open Go.Sx Go.Proofs Go.Mo
noncomputable def c3G : Sx.Io := ⟨.row .wld, true, [.row .evt], [], fun w ⟨e, _⟩ => .asrt (fun _ => p9 (w ()) = true) (.ret (.tup [], fun _ => u3 (w ()) (e ())))⟩
theorem c7u : b7 Tryz.prog 49 (ioX c3G) := io1 j3 (ss := [(39, sIn), (102, (ioX b8Y)), (103, (ioX b6P)), (104, (ioX sAskP)), (156, Q4), (157, I1), (106, (ioX b9e)), (107, a6E), (108, sTick), (109, a7Z)]) ⟨okIn, c4D, b9B, okAskP, c4t, a2S, c4M, a9f, okTick, c4r, trivial⟩ rfl rfl <| by
 intro (w : Th Wld) ⟨(e : Th Evt), u⟩ K _ ho h
 obtain ⟨w, rfl⟩ := a8 w; obtain ⟨e, rfl⟩ := a8 e
 obtain ⟨ha, h⟩ := h
 have ha := ha.out
 have hok : p9 w = true := ha
 have hF := G5 hok
 have hI1 : inR e.pos 0 (IntKind.i64.wrap ((w.net.length : Int) - 1)) = decide (0 ≤ e.pos ∧ e.pos < (w.net.length : Int)) := b3h e.pos w.net.length (by have := hF.2.2.2.1; omega)
 have hI2 : inR e.pos 0 (IntKind.i64.wrap ((w.servers.length : Int) - 1)) = decide (0 ≤ e.pos ∧ e.pos < (w.servers.length : Int)) := b3h e.pos w.servers.length (by have := hF.2.2.2.2.2.2.2.2; omega)
 have hr := a0S w.rows e.pos
 refine ⟨noAnn, noAnn, 20, ?_⟩
 cbv
 repeat' first | ((with_reducible intro _); cbv) | (with_reducible refine And.intro ?_ ?_)
 all_goals first | refine ioK h ?_ ?_ | (with_reducible refine Ob.mk ?_; clear h) | (clear h)
 all_goals (try clear h)
 all_goals (try clear K)
 all_goals (try simp only [fin0])
 all_goals (try simp only [eta0, RT.bytes] at *)
 all_goals (try simp only [hI1, hI2, decide_eq_true_eq, decide_eq_false_iff_not] at *)
 all_goals (try dsimp only [RT.ty] at *)
 all_goals (try simp only [c5a] at *)
 all_goals (try have hF4 := hF.2.2.2.1)
 all_goals (try have hF9 := hF.2.2.2.2.2.2.2.2)
 all_goals (try clear hI1)
 all_goals (try clear hI2)
 all_goals (try have hW : IntKind.i64.wrap (e.pos + 1) = e.pos + 1 := e8 (by omega) (by omega))
 all_goals first | omega | assumption | exact c3u hF.1 | exact a9z hF.2.2.1 | exact ⟨hF.2.2.2.1, by omega⟩ | exact ⟨hF.2.2.2.1, Nat.le_trans c3t (by omega)⟩ | exact hF.2.2.2.2.2.2.1 _ (by omega) | exact c5H (c3u hF.1) (by assumption) | exact ⟨hok, by omega⟩ | exact st1 (by assumption) (by assumption) | exact st1n (by assumption) (by assumption) | exact st2 (by assumption) | exact st3 (by assumption) (by assumption) (by assumption) (by assumption) | exact st3n (by assumption) (.inl (by assumption)) | exact st3n (by assumption) (.inr (.inl (by assumption))) | exact st3n (by assumption) (.inr (.inr (by assumption))) | exact st4 (by assumption) (by omega) | exact st5 (by assumption) (by omega) | exact st6 (by assumption) (by omega) | exact st7 (by assumption) (by omega) | exact st8 (by assumption) (by omega) | exact st9 (by assumption) (by omega) (by assumption) | exact stn9 (by assumption) (by assumption) | exact stn (by omega)
noncomputable def b0Q : Sx.Spec := ⟨false, false, [.row .wld, .row .evt], [nWld], fun _ _ ⟨w, e, _⟩ => .ret (rAs (a0Y fun _ => m5 (w ()) (e ())), fun _ => 0)⟩
theorem c1E : b7 Tryz.prog 16 b0Q := j8 j3 (ss := [(11, a2B), (48, b2u), (49, (ioX c3G))]) ⟨b2O, b7u, c7u, trivial⟩ rfl rfl <| by
 intro (bs : Th (List Int)) (p : Th Int) ⟨(w : Th Wld), (e : Th Evt), u⟩ K _ _ ho h
 obtain ⟨w, rfl⟩ := a8 w; obtain ⟨e, rfl⟩ := a8 e
 refine ⟨noAnn, noAnn, 20, ?_⟩
 cbv
 repeat' first | ((with_reducible intro _); cbv) | (with_reducible refine And.intro ?_ ?_)
 all_goals first | (refine retK h ?_; clear h; simp only [fin0]) | (with_reducible refine Ob.mk ?_; clear h) | (clear h)
 all_goals (try simp only [eta0, RT.bytes] at *)
 all_goals grind [m5, a0t]
end Go.Proofs.YtkclfaldmghkeaaGreat
