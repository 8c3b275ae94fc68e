/-
  Contracts: messages.
-/
import Derived.Test.YtkclfaldmghkeaaGreatGnB
set_option linter.unusedVariables false
set_option linter.unusedSimpArgs false
set_option maxRecDepth 100000
set_option maxHeartbeats 4000000
namespace Go.Proofs.YtkclfaldmghkeaaGreat
open Go.Sx Go.Proofs Go.Mo
noncomputable def a6Z : Sx.Spec := ⟨false, true, [.map, .int .i64, .row .msg], [], fun _ _ ⟨m, s, x, _⟩ => .ret (vB fun _ => u0 (m ()) (s ()) (x ()), fun _ => 0)⟩
theorem okMsgOk : b8 Tryz.prog 35 a6Z := j6 j4 (ss := [(47, B8), (39, sIn), (80, a5z), (85, E7), (81, a1m), (86, a2Y), (14, a2Z)]) ⟨Q8, okIn, a7q, S1, a8G, b3F, b3J, trivial⟩ rfl rfl <| by
 intro (bs : Th (List Int)) (p : Th Int) ⟨(m : Th PMap), (s : Th Int), (x : Th Msg), u⟩ K _ _ ho h
 obtain ⟨m, rfl⟩ := b6 m; obtain ⟨s, rfl⟩ := b6 s; obtain ⟨x, rfl⟩ := b6 x
 have hps := @G7 m x.cell x.side
 refine ⟨noAnn, noAnn, 20, ?_⟩
 cbv
 repeat' first | ((with_reducible intro _); cbv) | (with_reducible refine And.intro ?_ ?_)
 all_goals first | (refine retK h ?_; clear h; simp only [fin0]) | (with_reducible refine Ob.mk ?_; clear h) | (clear h)
 all_goals (try simp only [eta0, RT.bytes] at *)
 all_goals grind (splits := 40) [u0, E0, inR, a0P, a2F, a2O, a2b, b9, o8]
theorem a9B : b8 Tryz.prog 144 a6Z := j6 j4 (ss := [(72, B8), (110, sIn), (116, E7), (164, a1m), (165, a2Y), (185, a2Z)]) ⟨F3, G8, W5, a5W, a9A, a9D, trivial⟩ rfl rfl <| by
 intro (bs : Th (List Int)) (p : Th Int) ⟨(m : Th PMap), (s : Th Int), (x : Th Msg), u⟩ K _ _ ho h
 obtain ⟨m, rfl⟩ := b6 m; obtain ⟨s, rfl⟩ := b6 s; obtain ⟨x, rfl⟩ := b6 x
 have hps := @G7 m x.cell x.side
 refine ⟨noAnn, noAnn, 20, ?_⟩
 cbv
 repeat' first | ((with_reducible intro _); cbv) | (with_reducible refine And.intro ?_ ?_)
 all_goals first | (refine retK h ?_; clear h; simp only [fin0]) | (with_reducible refine Ob.mk ?_; clear h) | (clear h)
 all_goals (try simp only [eta0, RT.bytes] at *)
 all_goals grind (splits := 40) [u0, E0, inR, a0P, a2F, a2O, a2b, b9, o8]
end Go.Proofs.YtkclfaldmghkeaaGreat
