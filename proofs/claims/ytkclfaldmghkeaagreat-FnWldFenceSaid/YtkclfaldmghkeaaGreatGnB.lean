/-
  Contracts: messages, the book.
-/
import Derived.Test.YtkclfaldmghkeaaGreatFnFb
import Derived.Test.YtkclfaldmghkeaaGreatInsW
set_option linter.unusedVariables false
set_option linter.unusedSimpArgs false
set_option maxRecDepth 100000
set_option maxHeartbeats 8000000
namespace Go.Proofs.YtkclfaldmghkeaaGreat
open Go.Sx Go.Proofs Go.Mo
noncomputable def sRowOk : Sx.Spec := ⟨false, true, [.map, .row .row], [], fun _ _ ⟨m, r, _⟩ => .asrt (fun _ => o8 (m ()) = true) (.ret (vB fun _ => R9 (m ()) (r ()), fun _ => 0))⟩
noncomputable def a4I : Sx.Spec := ⟨false, true, [.map, .book], [], fun _ _ ⟨m, l, _⟩ => .ret (vB fun _ => z8 (m ()) (l ()), fun _ => 0)⟩
noncomputable def R8 : Sx.Spec := ⟨false, true, [.book, .int .i64], [], fun _ _ ⟨l, w, _⟩ => .ret (vI fun _ => l6 (l ()) (w ()), fun _ => 0)⟩
noncomputable def a3U : Sx.Spec := ⟨false, true, [.book], [[some .row]], fun _ _ ⟨l, _⟩ => .ret (oAs [.list .row l], fun _ => 0)⟩
noncomputable def b9S : Sx.Spec := ⟨false, true, [.map, .book, .int .i64, .int .i64, .int .i64, .int .i64], [[some .row], [none]], fun _ _ ⟨m, l, w, k, d, n, _⟩ => .ret (.tup [oAs [.list .row fun _ => (a6o (m ()) (l ()) (w ()) (k ()) (d ()) (n ())).b], vB fun _ => (a6o (m ()) (l ()) (w ()) (k ()) (d ()) (n ())).ok], fun _ => 0)⟩
theorem okL12Row : b8 Tryz.prog 142 sRowOk := j6 j4 (ss := [(110, sIn), (164, a1m)]) ⟨G8, a5W, trivial⟩ rfl rfl <| by
 intro (bs : Th (List Int)) (p : Th Int) ⟨(m : Th PMap), (r : Th Row), u⟩ K _ _ ho h
 obtain ⟨m, rfl⟩ := b6 m; obtain ⟨r, rfl⟩ := b6 r
 obtain ⟨ha, h⟩ := h
 have ha := ha.out
 refine ⟨noAnn, noAnn, 20, ?_⟩
 cbv
 repeat' first | ((with_reducible intro _); cbv) | (with_reducible refine And.intro ?_ ?_)
 all_goals first | (refine retK h ?_; clear h; simp only [fin0]) | (with_reducible refine Ob.mk ?_; clear h) | (clear h)
 all_goals (try simp only [eta0, RT.bytes] at *)
 all_goals grind (splits := 20) [R9, inR, a0P, b9, o8]
theorem okGwyOk : b8 Tryz.prog 31 a4I := j6 j4 (ss := [(38, a1F), (39, sIn), (81, a1m), (47, B8)]) ⟨a2r, okIn, a8G, Q8, trivial⟩ rfl rfl <| by
 intro (bs : Th (List Int)) (p : Th Int) ⟨(m : Th PMap), (l : Th (List Row)), u⟩ K _ _ ho h
 obtain ⟨m, rfl⟩ := b6 m; obtain ⟨l, rfl⟩ := b6 l
 have hl := okL (ho.2.1 _ (.head _))
 refine ⟨annL [(31, 2, ⟨Nat, [], fun σ k => σ.t 10 (vI fun _ => (k : Int)), fun _ k _ => k ≤ l.length ∧ (o8 m = true → m4 k (I5 m l) = true), fun _ k _ => l.length - k⟩)], noAnn, 20, ?_⟩
 cbv
 repeat' first | ((with_reducible refine fun (k : Nat) => ?_); cbv) | ((with_reducible intro _); cbv) | (with_reducible refine And.intro ?_ ?_)
 all_goals try ((first | (with_reducible refine LoopIn.mk ((0 : Nat)) ?_ ?_) | (with_reducible refine LoopBack.mk ((k + 1 : Nat)) ?_ ?_ ?_)) )
 all_goals try ((with_reducible show l8 _ _); cbv; (try simp only [and_true, true_and]))
 all_goals try (repeat' with_reducible refine And.intro ?_ ?_)
 all_goals first | (refine retK h ?_; clear h; simp only [fin0]) | (with_reducible refine Ob.mk ?_; clear h) | (clear h)
 all_goals (try simp only [eta0, RT.bytes] at *)
 all_goals (try have hwp : IntKind.i64.wrap ((k : Int) - 1) = ((k - 1 : Nat) : Int) := a0o (by omega) (by omega))
 all_goals (try simp only [hwp, Int.toNat_natCast] at *)
 all_goals (by_cases hpo : o8 m = true)
 all_goals grind (splits := 20) [o8, j3, b9, b6D, b6C, c0Q, z8, I5, R9, a0P, n4, n3, inR]
theorem a5X : b8 Tryz.prog 75 a4I := j6 j4 (ss := [(72, B8), (142, sRowOk)]) ⟨F3, okL12Row, trivial⟩ rfl rfl <| by
 intro (bs : Th (List Int)) (p : Th Int) ⟨(m : Th PMap), (l : Th (List Row)), u⟩ K _ _ ho h
 obtain ⟨m, rfl⟩ := b6 m; obtain ⟨l, rfl⟩ := b6 l
 have hl := okL (ho.2.1 _ (.head _))
 refine ⟨annL [(75, 4, ⟨Nat, [], fun σ k => σ.t 5 (vI fun _ => (k : Int)), fun _ k _ => k ≤ l.length ∧ o8 m = true ∧ m4 k (I5 m l) = true, fun _ k _ => l.length - k⟩)], noAnn, 20, ?_⟩
 cbv
 repeat' first | ((with_reducible refine fun (k : Nat) => ?_); cbv) | ((with_reducible intro _); cbv) | (with_reducible refine And.intro ?_ ?_)
 all_goals try ((first | (with_reducible refine LoopIn.mk ((0 : Nat)) ?_ ?_) | (with_reducible refine LoopBack.mk ((k + 1 : Nat)) ?_ ?_ ?_)) )
 all_goals try ((with_reducible show l8 _ _); cbv; (try simp only [and_true, true_and]))
 all_goals try (repeat' with_reducible refine And.intro ?_ ?_)
 all_goals first | (refine retK h ?_; clear h; simp only [fin0]) | (with_reducible refine Ob.mk ?_; clear h) | (clear h)
 all_goals (try simp only [eta0, RT.bytes] at *)
 all_goals grind [j3, b9, b6D, b6C, c0Q, z8, I5, n4, n3]
theorem okRow : b8 Tryz.prog 156 R8 := j6 j4 (ss := []) trivial rfl rfl <| by
 intro (bs : Th (List Int)) (p : Th Int) ⟨(l : Th (List Row)), (w : Th Int), u⟩ K _ _ ho h
 obtain ⟨l, rfl⟩ := b6 l; obtain ⟨w, rfl⟩ := b6 w
 have hl := okL (ho.1 _ (.head _))
 refine ⟨annL [(191, 2, ⟨Nat, [], fun σ k => σ.t 8 (vI fun _ => (k : Int)), fun _ k _ => k ≤ l.length ∧ m4 k (nwho l w) = true, fun _ k _ => l.length - k⟩)], noAnn, 20, ?_⟩
 cbv
 repeat' first | ((with_reducible refine fun (k : Nat) => ?_); cbv) | ((with_reducible intro _); cbv) | (with_reducible refine And.intro ?_ ?_)
 all_goals try ((first | (with_reducible refine LoopIn.mk ((0 : Nat)) ?_ ?_) | (with_reducible refine LoopBack.mk ((k + 1 : Nat)) ?_ ?_ ?_)) )
 all_goals try ((with_reducible show l8 _ _); cbv; (try simp only [and_true, true_and]))
 all_goals try (repeat' with_reducible refine And.intro ?_ ?_)
 all_goals first | (refine retK h ?_; clear h; simp only [fin0]) | (with_reducible refine Ob.mk ?_; clear h) | (clear h)
 all_goals (try simp only [eta0, RT.bytes] at *)
 all_goals grind [n4, n3, nwho, a6k, b7K, b5s, j3]
theorem b3H : b8 Tryz.prog 173 R8 := j6 j4 (ss := []) trivial rfl rfl <| by
 intro (bs : Th (List Int)) (p : Th Int) ⟨(l : Th (List Row)), (w : Th Int), u⟩ K _ _ ho h
 obtain ⟨l, rfl⟩ := b6 l; obtain ⟨w, rfl⟩ := b6 w
 have hl := okL (ho.1 _ (.head _))
 refine ⟨annL [(173, 2, ⟨Nat, [], fun σ k => σ.t 5 (vI fun _ => (k : Int)), fun _ k _ => k ≤ l.length ∧ m4 k (nwho l w) = true, fun _ k _ => l.length - k⟩)], noAnn, 20, ?_⟩
 cbv
 repeat' first | ((with_reducible refine fun (k : Nat) => ?_); cbv) | ((with_reducible intro _); cbv) | (with_reducible refine And.intro ?_ ?_)
 all_goals try ((first | (with_reducible refine LoopIn.mk ((0 : Nat)) ?_ ?_) | (with_reducible refine LoopBack.mk ((k + 1 : Nat)) ?_ ?_ ?_)) )
 all_goals try ((with_reducible show l8 _ _); cbv; (try simp only [and_true, true_and]))
 all_goals try (repeat' with_reducible refine And.intro ?_ ?_)
 all_goals first | (refine retK h ?_; clear h; simp only [fin0]) | (with_reducible refine Ob.mk ?_; clear h) | (clear h)
 all_goals (try simp only [eta0, RT.bytes] at *)
 all_goals grind [n4, n3, nwho, a6k, b7K, b5s, j3]
theorem okCloneB : b8 Tryz.prog 100 a3U := j6 j4 (ss := []) trivial rfl rfl <| by
 intro (bs : Th (List Int)) (p : Th Int) ⟨(l : Th (List Row)), u⟩ K _ _ ho h
 obtain ⟨l, rfl⟩ := b6 l
 have hl := okB (ho.1 _ (.head _))
 refine ⟨noAnn, noAnn, 20, ?_⟩
 cbv
 repeat' first | ((with_reducible intro _); cbv) | (with_reducible refine And.intro ?_ ?_)
 all_goals first | (refine retK h ?_; clear h; simp only [fin0]) | (with_reducible refine Ob.mk ?_; clear h) | (clear h)
 all_goals (try simp only [eta0, RT.bytes] at *)
 all_goals grind
theorem a7p : b8 Tryz.prog 132 a3U := j6 j4 (ss := []) trivial rfl rfl <| by
 intro (bs : Th (List Int)) (p : Th Int) ⟨(l : Th (List Row)), u⟩ K _ _ ho h
 obtain ⟨l, rfl⟩ := b6 l
 have hl := okB (ho.1 _ (.head _))
 refine ⟨noAnn, noAnn, 20, ?_⟩
 cbv
 repeat' first | ((with_reducible intro _); cbv) | (with_reducible refine And.intro ?_ ?_)
 all_goals first | (refine retK h ?_; clear h; simp only [fin0]) | (with_reducible refine Ob.mk ?_; clear h) | (clear h)
 all_goals (try simp only [eta0, RT.bytes] at *)
 all_goals grind
end Go.Proofs.YtkclfaldmghkeaaGreat
