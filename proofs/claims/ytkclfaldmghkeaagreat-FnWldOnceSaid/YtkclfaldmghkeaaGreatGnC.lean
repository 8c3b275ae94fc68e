/-
  Contracts: messages.
-/
import Derived.Test.YtkclfaldmghkeaaGreatGnB
set_option linter.unusedVariables false
set_option linter.unusedSimpArgs false
set_option maxRecDepth 100000
set_option maxHeartbeats 4000000
namespace Go.Proofs.YtkclfaldmghkeaaGreat
open Go.Sx Go.Proofs Go.Mo
noncomputable def a6z : Sx.Spec := ⟨false, true, [.map, .int .i64, .row .msg], [], fun _ _ ⟨m, s, x, _⟩ => .ret (vB fun _ => s9 (m ()) (s ()) (x ()), fun _ => 0)⟩
theorem c7y : b7 Tryz.prog 35 a6z := j8 j3 (ss := [(47, B6), (39, sIn), (80, a4X), (85, E2), (81, a0R), (86, a2C), (14, a4k)]) ⟨S3, okIn, a6O, Q5, a8f, b2R, b9D, trivial⟩ rfl rfl <| by
 intro (bs : Th (List Int)) (p : Th Int) ⟨(m : Th PMap), (s : Th Int), (x : Th Msg), u⟩ K _ _ ho h
 obtain ⟨m, rfl⟩ := a8 m; obtain ⟨s, rfl⟩ := a8 s; obtain ⟨x, rfl⟩ := a8 x
 have hps := @F8 m x.cell x.side
 refine ⟨noAnn, noAnn, 20, ?_⟩
 cbv
 repeat' first | ((with_reducible intro _); cbv) | (with_reducible refine And.intro ?_ ?_)
 all_goals first | (refine retK h ?_; clear h; simp only [fin0]) | (with_reducible refine Ob.mk ?_; clear h) | (clear h)
 all_goals (try simp only [eta0, RT.bytes] at *)
 all_goals grind (splits := 40) [s9, E0, inR, a0u, a2i, a2r, a1D, e8, n8]
theorem a9a : b7 Tryz.prog 144 a6z := j8 j3 (ss := [(72, B6), (110, sIn), (116, E2), (164, a0R), (165, a2C), (185, a4k)]) ⟨E5, F9, U8, a5v, a8Z, a9c, trivial⟩ rfl rfl <| by
 intro (bs : Th (List Int)) (p : Th Int) ⟨(m : Th PMap), (s : Th Int), (x : Th Msg), u⟩ K _ _ ho h
 obtain ⟨m, rfl⟩ := a8 m; obtain ⟨s, rfl⟩ := a8 s; obtain ⟨x, rfl⟩ := a8 x
 have hps := @F8 m x.cell x.side
 refine ⟨noAnn, noAnn, 20, ?_⟩
 cbv
 repeat' first | ((with_reducible intro _); cbv) | (with_reducible refine And.intro ?_ ?_)
 all_goals first | (refine retK h ?_; clear h; simp only [fin0]) | (with_reducible refine Ob.mk ?_; clear h) | (clear h)
 all_goals (try simp only [eta0, RT.bytes] at *)
 all_goals grind (splits := 40) [s9, E0, inR, a0u, a2i, a2r, a1D, e8, n8]
end Go.Proofs.YtkclfaldmghkeaaGreat
