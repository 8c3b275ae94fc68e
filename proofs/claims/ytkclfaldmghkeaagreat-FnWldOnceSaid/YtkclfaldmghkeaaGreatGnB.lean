/-
  Contracts: messages, the book.
-/
import Derived.Test.YtkclfaldmghkeaaGreatFnFb
import Derived.Test.YtkclfaldmghkeaaGreatInsW
set_option linter.unusedVariables false
set_option linter.unusedSimpArgs false
set_option maxRecDepth 100000
set_option maxHeartbeats 8000000
namespace Go.Proofs.YtkclfaldmghkeaaGreat
open Go.Sx Go.Proofs Go.Mo
noncomputable def c3H : Sx.Spec := ⟨false, true, [.map, .row .row], [], fun _ _ ⟨m, r, _⟩ => .asrt (fun _ => n8 (m ()) = true) (.ret (vB fun _ => R7 (m ()) (r ()), fun _ => 0))⟩
noncomputable def a4j : Sx.Spec := ⟨false, true, [.map, .book], [], fun _ _ ⟨m, l, _⟩ => .ret (vB fun _ => y6 (m ()) (l ()), fun _ => 0)⟩
noncomputable def Q4 : Sx.Spec := ⟨false, true, [.book, .int .i64], [], fun _ _ ⟨l, w, _⟩ => .ret (vI fun _ => k8 (l ()) (w ()), fun _ => 0)⟩
noncomputable def a3t : Sx.Spec := ⟨false, true, [.book], [[some .row]], fun _ _ ⟨l, _⟩ => .ret (oAs [.list .row l], fun _ => 0)⟩
noncomputable def b8W : Sx.Spec := ⟨false, true, [.map, .book, .int .i64, .int .i64, .int .i64, .int .i64], [[some .row], [none]], fun _ _ ⟨m, l, w, k, d, n, _⟩ => .ret (.tup [oAs [.list .row fun _ => (a5O (m ()) (l ()) (w ()) (k ()) (d ()) (n ())).b], vB fun _ => (a5O (m ()) (l ()) (w ()) (k ()) (d ()) (n ())).ok], fun _ => 0)⟩
theorem c4z : b7 Tryz.prog 142 c3H := j8 j3 (ss := [(110, sIn), (164, a0R)]) ⟨F9, a5v, trivial⟩ rfl rfl <| by
 intro (bs : Th (List Int)) (p : Th Int) ⟨(m : Th PMap), (r : Th Row), u⟩ K _ _ ho h
 obtain ⟨m, rfl⟩ := a8 m; obtain ⟨r, rfl⟩ := a8 r
 obtain ⟨ha, h⟩ := h
 have ha := ha.out
 refine ⟨noAnn, noAnn, 20, ?_⟩
 cbv
 repeat' first | ((with_reducible intro _); cbv) | (with_reducible refine And.intro ?_ ?_)
 all_goals first | (refine retK h ?_; clear h; simp only [fin0]) | (with_reducible refine Ob.mk ?_; clear h) | (clear h)
 all_goals (try simp only [eta0, RT.bytes] at *)
 all_goals grind (splits := 20) [R7, inR, a0u, e8, n8]
theorem c7D : b7 Tryz.prog 31 a4j := j8 j3 (ss := [(38, a1j), (39, sIn), (81, a0R), (47, B6)]) ⟨a1U, okIn, a8f, S3, trivial⟩ rfl rfl <| by
 intro (bs : Th (List Int)) (p : Th Int) ⟨(m : Th PMap), (l : Th (List Row)), u⟩ K _ _ ho h
 obtain ⟨m, rfl⟩ := a8 m; obtain ⟨l, rfl⟩ := a8 l
 have hl := okL (ho.2.1 _ (.head _))
 refine ⟨annL [(31, 2, ⟨Nat, [], fun σ k => σ.t 10 (vI fun _ => (k : Int)), fun _ k _ => k ≤ l.length ∧ (n8 m = true → l8 k (H7 m l) = true), fun _ k _ => l.length - k⟩)], noAnn, 20, ?_⟩
 cbv
 repeat' first | ((with_reducible refine fun (k : Nat) => ?_); cbv) | ((with_reducible intro _); cbv) | (with_reducible refine And.intro ?_ ?_)
 all_goals try ((first | (with_reducible refine LoopIn.mk ((0 : Nat)) ?_ ?_) | (with_reducible refine LoopBack.mk ((k + 1 : Nat)) ?_ ?_ ?_)) )
 all_goals try ((with_reducible show m6 _ _); cbv; (try simp only [and_true, true_and]))
 all_goals try (repeat' with_reducible refine And.intro ?_ ?_)
 all_goals first | (refine retK h ?_; clear h; simp only [fin0]) | (with_reducible refine Ob.mk ?_; clear h) | (clear h)
 all_goals (try simp only [eta0, RT.bytes] at *)
 all_goals (try have hwp : IntKind.i64.wrap ((k : Int) - 1) = ((k - 1 : Nat) : Int) := Z7 (by omega) (by omega))
 all_goals (try simp only [hwp, Int.toNat_natCast] at *)
 all_goals (by_cases hpo : n8 m = true)
 all_goals grind (splits := 20) [n8, j5, e8, b5K, b5J, b9V, y6, H7, R7, a0u, m8, m7, inR]
theorem a5w : b7 Tryz.prog 75 a4j := j8 j3 (ss := [(72, B6), (142, c3H)]) ⟨E5, c4z, trivial⟩ rfl rfl <| by
 intro (bs : Th (List Int)) (p : Th Int) ⟨(m : Th PMap), (l : Th (List Row)), u⟩ K _ _ ho h
 obtain ⟨m, rfl⟩ := a8 m; obtain ⟨l, rfl⟩ := a8 l
 have hl := okL (ho.2.1 _ (.head _))
 refine ⟨annL [(75, 4, ⟨Nat, [], fun σ k => σ.t 5 (vI fun _ => (k : Int)), fun _ k _ => k ≤ l.length ∧ n8 m = true ∧ l8 k (H7 m l) = true, fun _ k _ => l.length - k⟩)], noAnn, 20, ?_⟩
 cbv
 repeat' first | ((with_reducible refine fun (k : Nat) => ?_); cbv) | ((with_reducible intro _); cbv) | (with_reducible refine And.intro ?_ ?_)
 all_goals try ((first | (with_reducible refine LoopIn.mk ((0 : Nat)) ?_ ?_) | (with_reducible refine LoopBack.mk ((k + 1 : Nat)) ?_ ?_ ?_)) )
 all_goals try ((with_reducible show m6 _ _); cbv; (try simp only [and_true, true_and]))
 all_goals try (repeat' with_reducible refine And.intro ?_ ?_)
 all_goals first | (refine retK h ?_; clear h; simp only [fin0]) | (with_reducible refine Ob.mk ?_; clear h) | (clear h)
 all_goals (try simp only [eta0, RT.bytes] at *)
 all_goals grind [j5, e8, b5K, b5J, b9V, y6, H7, m8, m7]
theorem c4t : b7 Tryz.prog 156 Q4 := j8 j3 (ss := []) trivial rfl rfl <| by
 intro (bs : Th (List Int)) (p : Th Int) ⟨(l : Th (List Row)), (w : Th Int), u⟩ K _ _ ho h
 obtain ⟨l, rfl⟩ := a8 l; obtain ⟨w, rfl⟩ := a8 w
 have hl := okL (ho.1 _ (.head _))
 refine ⟨annL [(191, 2, ⟨Nat, [], fun σ k => σ.t 8 (vI fun _ => (k : Int)), fun _ k _ => k ≤ l.length ∧ l8 k (nwho l w) = true, fun _ k _ => l.length - k⟩)], noAnn, 20, ?_⟩
 cbv
 repeat' first | ((with_reducible refine fun (k : Nat) => ?_); cbv) | ((with_reducible intro _); cbv) | (with_reducible refine And.intro ?_ ?_)
 all_goals try ((first | (with_reducible refine LoopIn.mk ((0 : Nat)) ?_ ?_) | (with_reducible refine LoopBack.mk ((k + 1 : Nat)) ?_ ?_ ?_)) )
 all_goals try ((with_reducible show m6 _ _); cbv; (try simp only [and_true, true_and]))
 all_goals try (repeat' with_reducible refine And.intro ?_ ?_)
 all_goals first | (refine retK h ?_; clear h; simp only [fin0]) | (with_reducible refine Ob.mk ?_; clear h) | (clear h)
 all_goals (try simp only [eta0, RT.bytes] at *)
 all_goals grind [m8, m7, nwho, a5K, b6R, b4B, j5]
theorem b2T : b7 Tryz.prog 173 Q4 := j8 j3 (ss := []) trivial rfl rfl <| by
 intro (bs : Th (List Int)) (p : Th Int) ⟨(l : Th (List Row)), (w : Th Int), u⟩ K _ _ ho h
 obtain ⟨l, rfl⟩ := a8 l; obtain ⟨w, rfl⟩ := a8 w
 have hl := okL (ho.1 _ (.head _))
 refine ⟨annL [(173, 2, ⟨Nat, [], fun σ k => σ.t 5 (vI fun _ => (k : Int)), fun _ k _ => k ≤ l.length ∧ l8 k (nwho l w) = true, fun _ k _ => l.length - k⟩)], noAnn, 20, ?_⟩
 cbv
 repeat' first | ((with_reducible refine fun (k : Nat) => ?_); cbv) | ((with_reducible intro _); cbv) | (with_reducible refine And.intro ?_ ?_)
 all_goals try ((first | (with_reducible refine LoopIn.mk ((0 : Nat)) ?_ ?_) | (with_reducible refine LoopBack.mk ((k + 1 : Nat)) ?_ ?_ ?_)) )
 all_goals try ((with_reducible show m6 _ _); cbv; (try simp only [and_true, true_and]))
 all_goals try (repeat' with_reducible refine And.intro ?_ ?_)
 all_goals first | (refine retK h ?_; clear h; simp only [fin0]) | (with_reducible refine Ob.mk ?_; clear h) | (clear h)
 all_goals (try simp only [eta0, RT.bytes] at *)
 all_goals grind [m8, m7, nwho, a5K, b6R, b4B, j5]
theorem c4L : b7 Tryz.prog 100 a3t := j8 j3 (ss := []) trivial rfl rfl <| by
 intro (bs : Th (List Int)) (p : Th Int) ⟨(l : Th (List Row)), u⟩ K _ _ ho h
 obtain ⟨l, rfl⟩ := a8 l
 have hl := okB (ho.1 _ (.head _))
 refine ⟨noAnn, noAnn, 20, ?_⟩
 cbv
 repeat' first | ((with_reducible intro _); cbv) | (with_reducible refine And.intro ?_ ?_)
 all_goals first | (refine retK h ?_; clear h; simp only [fin0]) | (with_reducible refine Ob.mk ?_; clear h) | (clear h)
 all_goals (try simp only [eta0, RT.bytes] at *)
 all_goals grind
theorem a6N : b7 Tryz.prog 132 a3t := j8 j3 (ss := []) trivial rfl rfl <| by
 intro (bs : Th (List Int)) (p : Th Int) ⟨(l : Th (List Row)), u⟩ K _ _ ho h
 obtain ⟨l, rfl⟩ := a8 l
 have hl := okB (ho.1 _ (.head _))
 refine ⟨noAnn, noAnn, 20, ?_⟩
 cbv
 repeat' first | ((with_reducible intro _); cbv) | (with_reducible refine And.intro ?_ ?_)
 all_goals first | (refine retK h ?_; clear h; simp only [fin0]) | (with_reducible refine Ob.mk ?_; clear h) | (clear h)
 all_goals (try simp only [eta0, RT.bytes] at *)
 all_goals grind
end Go.Proofs.YtkclfaldmghkeaaGreat
