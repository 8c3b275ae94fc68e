/-
  Contracts: a0T, walkers.
-/
import Derived.Test.YtkclfaldmghkeaaGreatTok
import Derived.Test.YtkclfaldmghkeaaGreatM1
set_option linter.unusedVariables false
set_option linter.unusedSimpArgs false
set_option maxRecDepth 100000
set_option maxHeartbeats 8000000
namespace Go.Proofs.YtkclfaldmghkeaaGreat
open Go.Sx Go.Proofs Go.Mo
noncomputable def sIn : Sx.Spec := ⟨false, true, [.int .i64, .int .i64, .int .i64], [], fun _ _ ⟨n, a, b, _⟩ => .ret (vB fun _ => inR (n ()) (a ()) (b ()), fun _ => 0)⟩
noncomputable def B6 : Sx.Spec := ⟨false, true, [.map], [], fun _ _ ⟨m, _⟩ => .ret (vB fun _ => n8 (m ()), fun _ => 0)⟩
noncomputable def D0 : Sx.Spec := ⟨false, true, [.map, .int .i64], [], fun _ _ ⟨m, a, _⟩ => .ret (vI fun _ => l6 (m ()) (a ()), fun _ => 0)⟩
noncomputable def E2 : Sx.Spec := ⟨false, true, [.map, .int .i64, .int .i64], [], fun _ _ ⟨m, a, s, _⟩ => .ret (vI fun _ => b6 (m ()) (a ()) (s ()), fun _ => 0)⟩
noncomputable def P1 : Sx.Spec := ⟨false, true, [.map, .int .i64, .int .i64], [], fun _ _ ⟨m, a, s, _⟩ => .ret (vB fun _ => H4 (m ()) (a ()) (s ()), fun _ => 0)⟩
noncomputable def a4X : Sx.Spec := ⟨false, true, [.map, .int .i64], [], fun _ _ ⟨m, a, _⟩ => .asrt (fun _ => -9223372036854775808 < (m ()).cells) (.ret (vB fun _ => decide (0 ≤ a () ∧ a () < (m ()).cells), fun _ => 0))⟩
noncomputable def a8a : Sx.Spec := ⟨false, true, [.int .i64], [], fun _ _ ⟨a, _⟩ => .ret (vB fun _ => decide (a () = 0 ∨ a () = 1), fun _ => 0)⟩
noncomputable def a3q : Sx.Spec := ⟨false, true, [.int .i64], [], fun _ _ ⟨a, _⟩ => .asrt (fun _ => a () = 0 ∨ a () = 1) (.ret (vI fun _ => 2 * a () - 1, fun _ => 0))⟩
noncomputable def a1j : Sx.Spec := ⟨false, true, [.int .i64], [], fun _ _ ⟨a, _⟩ => .ret (vB fun _ => decide (1 ≤ a () ∧ a () ≤ 9), fun _ => 0)⟩
noncomputable def a2A : Sx.Spec := ⟨false, true, [.map, .row .wlk], [], fun _ _ ⟨m, w, _⟩ => .ret (vB fun _ => O8 (m ()) (w ()), fun _ => 0)⟩
noncomputable def b8Q : Sx.Spec := ⟨false, true, [.row .wlk], [], fun _ _ ⟨w, _⟩ => .ret (vB fun _ => a6l (w ()), fun _ => 0)⟩
noncomputable def a7u : Sx.Spec := ⟨false, true, [.map, .list .wlk], [], fun _ _ ⟨m, l, _⟩ => .ret (vB fun _ => y7 (m ()) (l ()) && n8 (m ()), fun _ => 0)⟩
noncomputable def W9 : Sx.Spec := ⟨false, true, [.map, .list .wlk], [], fun _ _ ⟨m, l, _⟩ => .ret (vB fun _ => y7 (m ()) (l ()), fun _ => 0)⟩
theorem okIn : b7 Tryz.prog 39 sIn := j8 j3 (ss := []) trivial rfl rfl <| by
 intro (bs : Th (List Int)) (p : Th Int) ⟨(n : Th Int), (a : Th Int), (b : Th Int), u⟩ K _ _ _ h
 obtain ⟨n, rfl⟩ := a8 n; obtain ⟨a, rfl⟩ := a8 a; obtain ⟨b, rfl⟩ := a8 b
 refine ⟨noAnn, noAnn, 20, ?_⟩
 cbv
 repeat' first | ((with_reducible intro _); cbv) | (with_reducible refine And.intro ?_ ?_)
 all_goals first | (refine retK h ?_; clear h; simp only [fin0]) | (with_reducible refine Ob.mk ?_; clear h) | (clear h)
 all_goals (try simp only [eta0, RT.bytes] at *)
 all_goals grind [inR]
theorem F9 : b7 Tryz.prog 110 sIn := j8 j3 (ss := []) trivial rfl rfl <| by
 intro (bs : Th (List Int)) (p : Th Int) ⟨(n : Th Int), (a : Th Int), (b : Th Int), u⟩ K _ _ _ h
 obtain ⟨n, rfl⟩ := a8 n; obtain ⟨a, rfl⟩ := a8 a; obtain ⟨b, rfl⟩ := a8 b
 refine ⟨noAnn, noAnn, 20, ?_⟩
 cbv
 repeat' first | ((with_reducible intro _); cbv) | (with_reducible refine And.intro ?_ ?_)
 all_goals first | (refine retK h ?_; clear h; simp only [fin0]) | (with_reducible refine Ob.mk ?_; clear h) | (clear h)
 all_goals (try simp only [eta0, RT.bytes] at *)
 all_goals grind [inR]
theorem S3 : b7 Tryz.prog 47 B6 := j8 j3 (ss := [(39, sIn)]) ⟨okIn, trivial⟩ rfl rfl <| by
 intro (bs : Th (List Int)) (p : Th Int) ⟨(m : Th PMap), u⟩ K _ _ _ h
 obtain ⟨m, rfl⟩ := a8 m
 refine ⟨noAnn, noAnn, 20, ?_⟩
 cbv
 repeat' first | ((with_reducible intro _); cbv) | (with_reducible refine And.intro ?_ ?_)
 all_goals first | (refine retK h ?_; clear h; simp only [fin0]) | (with_reducible refine Ob.mk ?_; clear h) | (clear h)
 all_goals (try simp only [eta0, RT.bytes] at *)
 all_goals grind [inR, n8]
theorem E5 : b7 Tryz.prog 72 B6 := j8 j3 (ss := [(110, sIn)]) ⟨F9, trivial⟩ rfl rfl <| by
 intro (bs : Th (List Int)) (p : Th Int) ⟨(m : Th PMap), u⟩ K _ _ _ h
 obtain ⟨m, rfl⟩ := a8 m
 refine ⟨noAnn, noAnn, 20, ?_⟩
 cbv
 repeat' first | ((with_reducible intro _); cbv) | (with_reducible refine And.intro ?_ ?_)
 all_goals first | (refine retK h ?_; clear h; simp only [fin0]) | (with_reducible refine Ob.mk ?_; clear h) | (clear h)
 all_goals (try simp only [eta0, RT.bytes] at *)
 all_goals grind [inR, n8]
theorem U9 : b7 Tryz.prog 45 D0 := j8 j3 (ss := [(39, sIn), (47, B6)]) ⟨okIn, S3, trivial⟩ rfl rfl <| by
 intro (bs : Th (List Int)) (p : Th Int) ⟨(m : Th PMap), (a : Th Int), u⟩ K _ _ _ h
 obtain ⟨m, rfl⟩ := a8 m; obtain ⟨a, rfl⟩ := a8 a
 have hm := a3w (m := m)
 have hi := r6 (m := m)
 refine ⟨noAnn, noAnn, 20, ?_⟩
 cbv
 repeat' first | ((with_reducible intro _); cbv) | (with_reducible refine And.intro ?_ ?_)
 all_goals first | (refine retK h ?_; clear h; simp only [fin0]) | (with_reducible refine Ob.mk ?_; clear h) | (clear h)
 all_goals (try simp only [eta0, RT.bytes] at *)
 all_goals grind [l6, inR, e8, c3V]
theorem K6 : b7 Tryz.prog 112 D0 := j8 j3 (ss := [(110, sIn), (72, B6)]) ⟨F9, E5, trivial⟩ rfl rfl <| by
 intro (bs : Th (List Int)) (p : Th Int) ⟨(m : Th PMap), (a : Th Int), u⟩ K _ _ _ h
 obtain ⟨m, rfl⟩ := a8 m; obtain ⟨a, rfl⟩ := a8 a
 have hm := a3w (m := m)
 have hi := r6 (m := m)
 refine ⟨noAnn, noAnn, 20, ?_⟩
 cbv
 repeat' first | ((with_reducible intro _); cbv) | (with_reducible refine And.intro ?_ ?_)
 all_goals first | (refine retK h ?_; clear h; simp only [fin0]) | (with_reducible refine Ob.mk ?_; clear h) | (clear h)
 all_goals (try simp only [eta0, RT.bytes] at *)
 all_goals grind [l6, inR, e8, c3V]
theorem a6O : b7 Tryz.prog 80 a4X := j8 j3 (ss := [(39, sIn)]) ⟨okIn, trivial⟩ rfl rfl <| by
 intro (bs : Th (List Int)) (p : Th Int) ⟨(m : Th PMap), (a : Th Int), u⟩ K _ _ ho h
 obtain ⟨m, rfl⟩ := a8 m; obtain ⟨a, rfl⟩ := a8 a
 obtain ⟨hp, h⟩ := h
 have hp := hp.out
 have ho := okI (ho.1 _ (.head _))
 refine ⟨noAnn, noAnn, 20, ?_⟩
 cbv
 repeat' first | ((with_reducible intro _); cbv) | (with_reducible refine And.intro ?_ ?_)
 all_goals first | (refine retK h ?_; clear h; simp only [fin0]) | (with_reducible refine Ob.mk ?_; clear h) | (clear h)
 all_goals (try simp only [eta0, RT.bytes] at *)
 all_goals grind [inR, e8]
theorem a9e : b7 Tryz.prog 145 a8a := j8 j3 (ss := []) trivial rfl rfl <| by
 intro (bs : Th (List Int)) (p : Th Int) ⟨(a : Th Int), u⟩ K _ _ _ h
 obtain ⟨a, rfl⟩ := a8 a
 refine ⟨noAnn, noAnn, 20, ?_⟩
 cbv
 repeat' first | ((with_reducible intro _); cbv) | (with_reducible refine And.intro ?_ ?_)
 all_goals first | (refine retK h ?_; clear h; simp only [fin0]) | (with_reducible refine Ob.mk ?_; clear h) | (clear h)
 all_goals (try simp only [eta0, RT.bytes] at *)
 all_goals grind
theorem a2P : b7 Tryz.prog 97 a3q := j8 j3 (ss := []) trivial rfl rfl <| by
 intro (bs : Th (List Int)) (p : Th Int) ⟨(a : Th Int), u⟩ K _ _ _ h
 obtain ⟨a, rfl⟩ := a8 a
 obtain ⟨hp, h⟩ := h
 have hp := hp.out
 refine ⟨noAnn, noAnn, 20, ?_⟩
 cbv
 repeat' first | ((with_reducible intro _); cbv) | (with_reducible refine And.intro ?_ ?_)
 all_goals first | (refine retK h ?_; clear h; simp only [fin0]) | (with_reducible refine Ob.mk ?_; clear h) | (clear h)
 all_goals (try simp only [eta0, RT.bytes] at *)
 all_goals grind [e8]
theorem a1U : b7 Tryz.prog 38 a1j := j8 j3 (ss := [(39, sIn)]) ⟨okIn, trivial⟩ rfl rfl <| by
 intro (bs : Th (List Int)) (p : Th Int) ⟨(a : Th Int), u⟩ K _ _ _ h
 obtain ⟨a, rfl⟩ := a8 a
 refine ⟨noAnn, noAnn, 20, ?_⟩
 cbv
 repeat' first | ((with_reducible intro _); cbv) | (with_reducible refine And.intro ?_ ?_)
 all_goals first | (refine retK h ?_; clear h; simp only [fin0]) | (with_reducible refine Ob.mk ?_; clear h) | (clear h)
 all_goals (try simp only [eta0, RT.bytes] at *)
 all_goals grind [inR]
theorem Q5 : b7 Tryz.prog 85 E2 := j8 j3 (ss := [(47, B6), (80, a4X), (145, a8a), (97, a3q)]) ⟨S3, a6O, a9e, a2P, trivial⟩ rfl rfl <| by
 intro (bs : Th (List Int)) (p : Th Int) ⟨(m : Th PMap), (a : Th Int), (s : Th Int), u⟩ K _ _ _ h
 obtain ⟨m, rfl⟩ := a8 m; obtain ⟨a, rfl⟩ := a8 a; obtain ⟨s, rfl⟩ := a8 s
 have hi := r6 (m := m)
 refine ⟨noAnn, noAnn, 20, ?_⟩
 cbv
 repeat' first | ((with_reducible intro _); cbv) | (with_reducible refine And.intro ?_ ?_)
 all_goals first | (refine retK h ?_; clear h; simp only [fin0]) | (with_reducible refine Ob.mk ?_; clear h) | (clear h)
 all_goals (try simp only [eta0, RT.bytes] at *)
 all_goals grind [b6, e8]
theorem U8 : b7 Tryz.prog 116 E2 := j8 j3 (ss := [(72, B6), (110, sIn)]) ⟨E5, F9, trivial⟩ rfl rfl <| by
 intro (bs : Th (List Int)) (p : Th Int) ⟨(m : Th PMap), (a : Th Int), (s : Th Int), u⟩ K _ _ _ h
 obtain ⟨m, rfl⟩ := a8 m; obtain ⟨a, rfl⟩ := a8 a; obtain ⟨s, rfl⟩ := a8 s
 have hi := r6 (m := m)
 refine ⟨noAnn, noAnn, 20, ?_⟩
 cbv
 repeat' first | ((with_reducible intro _); cbv) | (with_reducible refine And.intro ?_ ?_)
 all_goals first | (refine retK h ?_; clear h; simp only [fin0]) | (with_reducible refine Ob.mk ?_; clear h) | (clear h)
 all_goals (try simp only [eta0, RT.bytes] at *)
 all_goals grind [b6, e8, inR]
theorem a1p : b7 Tryz.prog 46 P1 := j8 j3 (ss := [(45, D0), (85, E2), (97, a3q)]) ⟨U9, Q5, a2P, trivial⟩ rfl rfl <| by
 intro (bs : Th (List Int)) (p : Th Int) ⟨(m : Th PMap), (a : Th Int), (s : Th Int), u⟩ K _ _ ho h
 obtain ⟨m, rfl⟩ := a8 m; obtain ⟨a, rfl⟩ := a8 a; obtain ⟨s, rfl⟩ := a8 s
 have hb := okI (ho.2.1 _ (.head _))
 refine ⟨noAnn, noAnn, 20, ?_⟩
 have hs := @F8 m (l6 m a) s
 have hc := @K5 m a
 have he := @c8g m a s
 have hi := r6 (m := m)
 have hm := a3w (m := m)
 cbv
 repeat' first | ((with_reducible intro _); cbv) | (with_reducible refine And.intro ?_ ?_)
 all_goals first | (refine retK h ?_; clear h; simp only [fin0]) | (with_reducible refine Ob.mk ?_; clear h) | (clear h)
 all_goals (try simp only [eta0, RT.bytes] at *)
 ·grind
 ·rename_i h1 h2
  have h1 : b6 m (l6 m a) s ≠ -1 := by simpa using h2
  have hw : IntKind.i64.wrap (a + (2 * s - 1)) = a + (2 * s - 1) := by grind [e8]
  rw [hw]
  simp only [H4, h1, ne_eq, not_false_eq_true, true_and, decide_eq_decide]
  exact he h1
 ·grind [H4]
 ·grind [H4]
theorem a4n : b7 Tryz.prog 212 P1 := j8 j3 (ss := [(112, D0), (116, E2)]) ⟨K6, U8, trivial⟩ rfl rfl <| by
 intro (bs : Th (List Int)) (p : Th Int) ⟨(m : Th PMap), (a : Th Int), (s : Th Int), u⟩ K _ _ _ h
 obtain ⟨m, rfl⟩ := a8 m; obtain ⟨a, rfl⟩ := a8 a; obtain ⟨s, rfl⟩ := a8 s
 refine ⟨noAnn, noAnn, 20, ?_⟩
 have hs := @F8 m (l6 m a) s
 have hc := @K5 m a
 have hi := r6 (m := m)
 have hm := a3w (m := m)
 have hd := @b4L m a
 cbv
 repeat' first | ((with_reducible intro _); cbv) | (with_reducible refine And.intro ?_ ?_)
 all_goals first | (refine retK h ?_; clear h; simp only [fin0]) | (with_reducible refine Ob.mk ?_; clear h) | (clear h)
 all_goals (try simp only [eta0, RT.bytes] at *)
 all_goals grind [H4, e8]
theorem c4v : b7 Tryz.prog 96 b8Q := j8 j3 (ss := [(39, sIn), (38, a1j)]) ⟨okIn, a1U, trivial⟩ rfl rfl <| by
 intro (bs : Th (List Int)) (p : Th Int) ⟨(w : Th Wlk), u⟩ K _ _ _ h
 obtain ⟨w, rfl⟩ := a8 w
 refine ⟨noAnn, noAnn, 20, ?_⟩
 cbv
 repeat' first | ((with_reducible intro _); cbv) | (with_reducible refine And.intro ?_ ?_)
 all_goals first | (refine retK h ?_; clear h; simp only [fin0]) | (with_reducible refine Ob.mk ?_; clear h) | (clear h)
 all_goals (try simp only [eta0, RT.bytes] at *)
 all_goals grind [inR, a6l]
theorem b2N : b7 Tryz.prog 44 a2A := j8 j3 (ss := [(45, D0), (96, b8Q)]) ⟨U9, c4v, trivial⟩ rfl rfl <| by
 intro (bs : Th (List Int)) (p : Th Int) ⟨(m : Th PMap), (w : Th Wlk), u⟩ K _ _ _ h
 obtain ⟨m, rfl⟩ := a8 m; obtain ⟨w, rfl⟩ := a8 w
 refine ⟨noAnn, noAnn, 20, ?_⟩
 cbv
 repeat' first | ((with_reducible intro _); cbv) | (with_reducible refine And.intro ?_ ?_)
 all_goals first | (refine retK h ?_; clear h; simp only [fin0]) | (with_reducible refine Ob.mk ?_; clear h) | (clear h)
 all_goals (try simp only [eta0, RT.bytes] at *)
 all_goals grind [O8, a6l]
theorem a8U : b7 Tryz.prog 162 a2A := j8 j3 (ss := [(112, D0), (110, sIn)]) ⟨K6, F9, trivial⟩ rfl rfl <| by
 intro (bs : Th (List Int)) (p : Th Int) ⟨(m : Th PMap), (w : Th Wlk), u⟩ K _ _ _ h
 obtain ⟨m, rfl⟩ := a8 m; obtain ⟨w, rfl⟩ := a8 w
 refine ⟨noAnn, noAnn, 20, ?_⟩
 cbv
 repeat' first | ((with_reducible intro _); cbv) | (with_reducible refine And.intro ?_ ?_)
 all_goals first | (refine retK h ?_; clear h; simp only [fin0]) | (with_reducible refine Ob.mk ?_; clear h) | (clear h)
 all_goals (try simp only [eta0, RT.bytes] at *)
 all_goals grind [O8, inR]
theorem b4Y : b7 Tryz.prog 88 a7u := j8 j3 (ss := [(44, a2A), (47, B6)]) ⟨b2N, S3, trivial⟩ rfl rfl <| by
 intro (bs : Th (List Int)) (p : Th Int) ⟨(m : Th PMap), (l : Th (List Wlk)), u⟩ K _ _ ho h
 obtain ⟨m, rfl⟩ := a8 m; obtain ⟨l, rfl⟩ := a8 l
 have hl := okL (ho.2.1 _ (.head _))
 refine ⟨annL [(88, 2, ⟨Nat, [], fun σ k => σ.t 9 (vI fun _ => (k : Int)), fun _ k _ => k ≤ l.length ∧ l8 k (a3L m l) = true, fun _ k _ => l.length - k⟩)], noAnn, 20, ?_⟩
 cbv
 repeat' first | ((with_reducible refine fun (k : Nat) => ?_); cbv) | ((with_reducible intro _); cbv) | (with_reducible refine And.intro ?_ ?_)
 all_goals try ((first | (with_reducible refine LoopIn.mk ((0 : Nat)) ?_ ?_) | (with_reducible refine LoopBack.mk ((k + 1 : Nat)) ?_ ?_ ?_)) )
 all_goals try ((with_reducible show m6 _ _); cbv; (try simp only [and_true, true_and]))
 all_goals try (repeat' with_reducible refine And.intro ?_ ?_)
 all_goals first | (refine retK h ?_; clear h; simp only [fin0]) | (with_reducible refine Ob.mk ?_; clear h) | (clear h)
 all_goals (try simp only [eta0, RT.bytes] at *)
 all_goals grind [m8, m7, a3L, y7, Z7, j5, a8o, a7o]
theorem Z1 : b7 Tryz.prog 111 W9 := j8 j3 (ss := [(162, a2A)]) ⟨a8U, trivial⟩ rfl rfl <| by
 intro (bs : Th (List Int)) (p : Th Int) ⟨(m : Th PMap), (l : Th (List Wlk)), u⟩ K _ _ ho h
 obtain ⟨m, rfl⟩ := a8 m; obtain ⟨l, rfl⟩ := a8 l
 have hl := okL (ho.2.1 _ (.head _))
 refine ⟨annL [(111, 2, ⟨Nat, [], fun σ k => σ.t 5 (vI fun _ => (k : Int)), fun _ k _ => k ≤ l.length ∧ l8 k (a3L m l) = true, fun _ k _ => l.length - k⟩)], noAnn, 20, ?_⟩
 cbv
 repeat' first | ((with_reducible refine fun (k : Nat) => ?_); cbv) | ((with_reducible intro _); cbv) | (with_reducible refine And.intro ?_ ?_)
 all_goals try ((first | (with_reducible refine LoopIn.mk ((0 : Nat)) ?_ ?_) | (with_reducible refine LoopBack.mk ((k + 1 : Nat)) ?_ ?_ ?_)) )
 all_goals try ((with_reducible show m6 _ _); cbv; (try simp only [and_true, true_and]))
 all_goals try (repeat' with_reducible refine And.intro ?_ ?_)
 all_goals first | (refine retK h ?_; clear h; simp only [fin0]) | (with_reducible refine Ob.mk ?_; clear h) | (clear h)
 all_goals (try simp only [eta0, RT.bytes] at *)
 all_goals grind [m8, m7, a3L, y7, Z7, j5, a8o, a7o]
noncomputable def a0y : Sx.Spec := ⟨false, true, [.list .wlk, .int .i64], [[some .wlk]], fun _ _ ⟨l, i, _⟩ => .ret (vW .wlk fun _ => B2 (l ()) (i ()), fun _ => 0)⟩
noncomputable def a4Y : Sx.Spec := ⟨false, true, [.list .wlk], [[some .wlk]], fun _ _ ⟨l, _⟩ => .ret (vW .wlk fun _ => l (), fun _ => 0)⟩
noncomputable def a8E : Sx.Spec := ⟨false, true, [.list .wlk, .int .i64], [], fun _ _ ⟨l, i, _⟩ => .ret (vI fun _ => j4 (l ()) (i ()), fun _ => 0)⟩
noncomputable def X0 : Sx.Spec := ⟨false, true, [.list .wlk, .int .i64], [], fun _ _ ⟨l, i, _⟩ => .ret (.tup [oWlk fun _ => B3 (l ()) (i ()), vB fun _ => o9 (l ()) (i ())], fun _ => 0)⟩
theorem a5u : b7 Tryz.prog 187 a0y := j8 j3 (ss := []) trivial rfl rfl <| by
 intro (bs : Th (List Int)) (p : Th Int) ⟨(l : Th (List Wlk)), (i : Th Int), u⟩ K _ _ ho h
 obtain ⟨l, rfl⟩ := a8 l; obtain ⟨i, rfl⟩ := a8 i
 have hl := okB (ho.1 _ (.head _))
 have hz := a4H l i
 refine ⟨annL [(187, 3, ⟨Nat, [⟨.tmp 5 0, some 22, .wlk⟩], fun σ k => ((σ.t 10 (vI fun _ => (k : Int))).t 5 (vO 22 1)).row 22 1 .wlk (fun _ => M4 l i k), fun _ k _ => k ≤ l.length, fun _ k _ => l.length - k⟩)], noAnn, 20, ?_⟩
 cbv
 repeat' first | ((with_reducible refine fun (k : Nat) => ?_); cbv) | ((with_reducible intro _); cbv) | (with_reducible refine And.intro ?_ ?_)
 all_goals try ((first | (with_reducible refine LoopIn.mk ((0 : Nat)) ?_ ?_) | (with_reducible refine LoopBack.mk ((k + 1 : Nat)) ?_ ?_ ?_)) )
 all_goals try ((with_reducible show m6 _ _); cbv; (try simp only [and_true, true_and]))
 all_goals try (repeat' with_reducible refine And.intro ?_ ?_)
 all_goals first | (refine retK h ?_; clear h; simp only [fin0]) | (with_reducible refine Ob.mk ?_; clear h) | (clear h)
 all_goals (try simp only [eta0, RT.bytes] at *)
 all_goals grind [a3K, a4I, a4G, a7n, j5]
theorem b1k : b7 Tryz.prog 134 a0y := j8 j3 (ss := []) trivial rfl rfl <| by
 intro (bs : Th (List Int)) (p : Th Int) ⟨(l : Th (List Wlk)), (i : Th Int), u⟩ K _ _ ho h
 obtain ⟨l, rfl⟩ := a8 l; obtain ⟨i, rfl⟩ := a8 i
 have hl := okB (ho.1 _ (.head _))
 have hz := a4H l i
 refine ⟨annL [(134, 3, ⟨Nat, [⟨.tmp 5 0, some 8, .wlk⟩], fun σ k => (((σ.fg 8).t 6 (vI fun _ => (k : Int))).t 5 (vO 8 1)).row 8 1 .wlk (fun _ => M4 l i k), fun _ k _ => k ≤ l.length, fun _ k _ => l.length - k⟩)], noAnn, 20, ?_⟩
 cbv
 repeat' first | ((with_reducible refine fun (k : Nat) => ?_); cbv) | ((with_reducible intro _); cbv) | (with_reducible refine And.intro ?_ ?_)
 all_goals try ((first | (with_reducible refine LoopIn.mk ((0 : Nat)) ?_ ?_) | (with_reducible refine LoopBack.mk ((k + 1 : Nat)) ?_ ?_ ?_)) )
 all_goals try ((with_reducible show m6 _ _); cbv; (try simp only [and_true, true_and]))
 all_goals try (repeat' with_reducible refine And.intro ?_ ?_)
 all_goals first | (refine retK h ?_; clear h; simp only [fin0]) | (with_reducible refine Ob.mk ?_; clear h) | (clear h)
 all_goals (try simp only [eta0, RT.bytes] at *)
 all_goals grind [a3K, a4I, a4G, a7n, j5]
theorem b5l : b7 Tryz.prog 92 a4Y := j8 j3 (ss := []) trivial rfl rfl <| by
 intro (bs : Th (List Int)) (p : Th Int) ⟨(l : Th (List Wlk)), u⟩ K _ _ ho h
 obtain ⟨l, rfl⟩ := a8 l
 have hl := okB (ho.1 _ (.head _))
 refine ⟨noAnn, noAnn, 20, ?_⟩
 cbv
 repeat' first | ((with_reducible intro _); cbv) | (with_reducible refine And.intro ?_ ?_)
 all_goals first | (refine retK h ?_; clear h; simp only [fin0]) | (with_reducible refine Ob.mk ?_; clear h) | (clear h)
 all_goals (try simp only [eta0, RT.bytes] at *)
 all_goals grind
theorem c4y : b7 Tryz.prog 114 a4Y := j8 j3 (ss := []) trivial rfl rfl <| by
 intro (bs : Th (List Int)) (p : Th Int) ⟨(l : Th (List Wlk)), u⟩ K _ _ ho h
 obtain ⟨l, rfl⟩ := a8 l
 have hl := okB (ho.1 _ (.head _))
 refine ⟨noAnn, noAnn, 20, ?_⟩
 cbv
 repeat' first | ((with_reducible intro _); cbv) | (with_reducible refine And.intro ?_ ?_)
 all_goals first | (refine retK h ?_; clear h; simp only [fin0]) | (with_reducible refine Ob.mk ?_; clear h) | (clear h)
 all_goals (try simp only [eta0, RT.bytes] at *)
 all_goals grind
theorem a8e : b7 Tryz.prog 43 a8E := j8 j3 (ss := []) trivial rfl rfl <| by
 intro (bs : Th (List Int)) (p : Th Int) ⟨(l : Th (List Wlk)), (i : Th Int), u⟩ K _ _ ho h
 obtain ⟨l, rfl⟩ := a8 l; obtain ⟨i, rfl⟩ := a8 i
 have hl := okL (ho.1 _ (.head _))
 refine ⟨annL [(94, 2, ⟨Nat, [], fun σ k => σ.t 8 (vI fun _ => (k : Int)), fun _ k _ => k ≤ l.length ∧ l8 k (nid l i) = true, fun _ k _ => l.length - k⟩)], noAnn, 20, ?_⟩
 cbv
 repeat' first | ((with_reducible refine fun (k : Nat) => ?_); cbv) | ((with_reducible intro _); cbv) | (with_reducible refine And.intro ?_ ?_)
 all_goals try ((first | (with_reducible refine LoopIn.mk ((0 : Nat)) ?_ ?_) | (with_reducible refine LoopBack.mk ((k + 1 : Nat)) ?_ ?_ ?_)) )
 all_goals try ((with_reducible show m6 _ _); cbv; (try simp only [and_true, true_and]))
 all_goals try (repeat' with_reducible refine And.intro ?_ ?_)
 all_goals first | (refine retK h ?_; clear h; simp only [fin0]) | (with_reducible refine Ob.mk ?_; clear h) | (clear h)
 all_goals (try simp only [eta0, RT.bytes] at *)
 all_goals grind [m8, m7, nid, isId, b4O, a8M, j5]
theorem b1j : b7 Tryz.prog 13 X0 := j8 j3 (ss := [(43, a8E)]) ⟨a8e, trivial⟩ rfl rfl <| by
 intro (bs : Th (List Int)) (p : Th Int) ⟨(l : Th (List Wlk)), (i : Th Int), u⟩ K _ _ ho h
 obtain ⟨l, rfl⟩ := a8 l; obtain ⟨i, rfl⟩ := a8 i
 have hp := N1 l i
 refine ⟨noAnn, noAnn, 20, ?_⟩
 cbv
 repeat' first | ((with_reducible intro _); cbv) | (with_reducible refine And.intro ?_ ?_)
 all_goals first | (refine retK h ?_; clear h; simp only [fin0]) | (with_reducible refine Ob.mk ?_; clear h) | (clear h)
 all_goals (try simp only [eta0, RT.bytes] at *)
 all_goals grind [B3, o9]
theorem a1R : b7 Tryz.prog 166 X0 := j8 j3 (ss := []) trivial rfl rfl <| by
 intro (bs : Th (List Int)) (p : Th Int) ⟨(l : Th (List Wlk)), (i : Th Int), u⟩ K _ _ ho h
 obtain ⟨l, rfl⟩ := a8 l; obtain ⟨i, rfl⟩ := a8 i
 have hl := okL (ho.1 _ (.head _))
 refine ⟨annL [(166, 2, ⟨Nat, [], fun σ k => σ.t 6 (vI fun _ => (k : Int)), fun _ k _ => k ≤ l.length ∧ l8 k (nid l i) = true, fun _ k _ => l.length - k⟩)], noAnn, 20, ?_⟩
 cbv
 repeat' first | ((with_reducible refine fun (k : Nat) => ?_); cbv) | ((with_reducible intro _); cbv) | (with_reducible refine And.intro ?_ ?_)
 all_goals try ((first | (with_reducible refine LoopIn.mk ((0 : Nat)) ?_ ?_) | (with_reducible refine LoopBack.mk ((k + 1 : Nat)) ?_ ?_ ?_)) )
 all_goals try ((with_reducible show m6 _ _); cbv; (try simp only [and_true, true_and]))
 all_goals try (repeat' with_reducible refine And.intro ?_ ?_)
 all_goals first | (refine retK h ?_; clear h; simp only [fin0]) | (with_reducible refine Ob.mk ?_; clear h) | (clear h)
 all_goals (try simp only [eta0, RT.bytes] at *)
 all_goals grind [m8, m7, nid, isId, b4O, a8M, j5, B3, o9]
noncomputable def a0R : Sx.Spec := ⟨false, true, [.ord], [], fun _ _ ⟨o, _⟩ => .ret (vB fun _ => J6 (o ()), fun _ => 0)⟩
noncomputable def a8F : Sx.Spec := ⟨false, true, [.row .pcl], [], fun _ _ ⟨o, _⟩ => .ret (vB fun _ => a6I (o ()), fun _ => 0)⟩
noncomputable def a2C : Sx.Spec := ⟨false, true, [.map, .row .pcl], [], fun _ _ ⟨m, o, _⟩ => .ret (vB fun _ => H5 (m ()) (o ()), fun _ => 0)⟩
noncomputable def a1M : Sx.Spec := ⟨false, true, [.map, .list .pcl, .int .i64], [], fun _ _ ⟨m, l, n, _⟩ => .ret (vB fun _ => s4 (m ()) (l ()) (n ()), fun _ => 0)⟩
noncomputable def a1i : Sx.Spec := ⟨false, true, [.list .pcl, .int .i64], [[some .pcl]], fun _ _ ⟨l, n, _⟩ => .ret (vW .pcl fun _ => x9 (l ()) (n ()), fun _ => 0)⟩
noncomputable def b9c : Sx.Spec := ⟨false, true, [.list .pcl], [[some .pcl]], fun _ _ ⟨l, _⟩ => .ret (vW .pcl fun _ => l (), fun _ => 0)⟩
theorem a8f : b7 Tryz.prog 81 a0R := j8 j3 (ss := [(39, sIn), (38, a1j), (145, a8a)]) ⟨okIn, a1U, a9e, trivial⟩ rfl rfl <| by
 intro (bs : Th (List Int)) (p : Th Int) ⟨(o : Th Sx.Ord), u⟩ K _ _ ho h
 obtain ⟨o, rfl⟩ := a8 o
 refine ⟨noAnn, noAnn, 20, ?_⟩
 cbv
 repeat' first | ((with_reducible intro _); cbv) | (with_reducible refine And.intro ?_ ?_)
 all_goals first | (refine retK h ?_; clear h; simp only [fin0]) | (with_reducible refine Ob.mk ?_; clear h) | (clear h)
 all_goals (try simp only [eta0, RT.bytes] at *)
 all_goals grind [inR, J6]
theorem a5v : b7 Tryz.prog 164 a0R := j8 j3 (ss := [(110, sIn)]) ⟨F9, trivial⟩ rfl rfl <| by
 intro (bs : Th (List Int)) (p : Th Int) ⟨(o : Th Sx.Ord), u⟩ K _ _ ho h
 obtain ⟨o, rfl⟩ := a8 o
 refine ⟨noAnn, noAnn, 20, ?_⟩
 cbv
 repeat' first | ((with_reducible intro _); cbv) | (with_reducible refine And.intro ?_ ?_)
 all_goals first | (refine retK h ?_; clear h; simp only [fin0]) | (with_reducible refine Ob.mk ?_; clear h) | (clear h)
 all_goals (try simp only [eta0, RT.bytes] at *)
 all_goals grind [inR, J6]
theorem b5i : b7 Tryz.prog 147 a8F := j8 j3 (ss := [(39, sIn)]) ⟨okIn, trivial⟩ rfl rfl <| by
 intro (bs : Th (List Int)) (p : Th Int) ⟨(o : Th Pcl), u⟩ K _ _ ho h
 obtain ⟨o, rfl⟩ := a8 o
 refine ⟨noAnn, noAnn, 20, ?_⟩
 cbv
 repeat' first | ((with_reducible intro _); cbv) | (with_reducible refine And.intro ?_ ?_)
 all_goals first | (refine retK h ?_; clear h; simp only [fin0]) | (with_reducible refine Ob.mk ?_; clear h) | (clear h)
 all_goals (try simp only [eta0, RT.bytes] at *)
 all_goals grind [inR, a6I, a2r]
theorem b2R : b7 Tryz.prog 86 a2C := j8 j3 (ss := [(47, B6), (147, a8F), (44, a2A)]) ⟨S3, b5i, b2N, trivial⟩ rfl rfl <| by
 intro (bs : Th (List Int)) (p : Th Int) ⟨(m : Th PMap), (o : Th Pcl), u⟩ K _ _ ho h
 obtain ⟨m, rfl⟩ := a8 m; obtain ⟨o, rfl⟩ := a8 o
 refine ⟨noAnn, noAnn, 20, ?_⟩
 cbv
 repeat' first | ((with_reducible intro _); cbv) | (with_reducible refine And.intro ?_ ?_)
 all_goals first | (refine retK h ?_; clear h; simp only [fin0]) | (with_reducible refine Ob.mk ?_; clear h) | (clear h)
 all_goals (try simp only [eta0, RT.bytes] at *)
 all_goals grind [a6I, H5]
theorem a8Z : b7 Tryz.prog 165 a2C := j8 j3 (ss := [(72, B6), (110, sIn), (162, a2A)]) ⟨E5, F9, a8U, trivial⟩ rfl rfl <| by
 intro (bs : Th (List Int)) (p : Th Int) ⟨(m : Th PMap), (o : Th Pcl), u⟩ K _ _ ho h
 obtain ⟨m, rfl⟩ := a8 m; obtain ⟨o, rfl⟩ := a8 o
 refine ⟨noAnn, noAnn, 20, ?_⟩
 cbv
 repeat' first | ((with_reducible intro _); cbv) | (with_reducible refine And.intro ?_ ?_)
 all_goals first | (refine retK h ?_; clear h; simp only [fin0]) | (with_reducible refine Ob.mk ?_; clear h) | (clear h)
 all_goals (try simp only [eta0, RT.bytes] at *)
 all_goals grind [inR, H5, a2r]
theorem b5h : b7 Tryz.prog 89 a1M := j8 j3 (ss := [(47, B6), (39, sIn), (86, a2C)]) ⟨S3, okIn, b2R, trivial⟩ rfl rfl <| by
 intro (bs : Th (List Int)) (p : Th Int) ⟨(m : Th PMap), (l : Th (List Pcl)), (n : Th Int), u⟩ K _ _ ho h
 obtain ⟨m, rfl⟩ := a8 m; obtain ⟨l, rfl⟩ := a8 l; obtain ⟨n, rfl⟩ := a8 n
 have hl := okL (ho.2.1 _ (.head _))
 refine ⟨annL [(89, 4, ⟨Nat, [], fun σ k => σ.t 25 (vI fun _ => (k : Int)), fun _ k _ => k ≤ l.length ∧ l8 k (a2n m l n) = true, fun _ k _ => l.length - k⟩)], noAnn, 20, ?_⟩
 cbv
 repeat' first | ((with_reducible refine fun (k : Nat) => ?_); cbv) | ((with_reducible intro _); cbv) | (with_reducible refine And.intro ?_ ?_)
 all_goals try ((first | (with_reducible refine LoopIn.mk ((0 : Nat)) ?_ ?_) | (with_reducible refine LoopBack.mk ((k + 1 : Nat)) ?_ ?_ ?_)) )
 all_goals try ((with_reducible show m6 _ _); cbv; (try simp only [and_true, true_and]))
 all_goals try (repeat' with_reducible refine And.intro ?_ ?_)
 all_goals first | (refine retK h ?_; clear h; simp only [fin0]) | (with_reducible refine Ob.mk ?_; clear h) | (clear h)
 all_goals (try simp only [eta0, RT.bytes] at *)
 all_goals grind [inR, m8, m7, a2n, s4, a3Q, a2K, j5, e8]
theorem b2Q : b7 Tryz.prog 163 a1M := j8 j3 (ss := [(72, B6), (110, sIn), (165, a2C)]) ⟨E5, F9, a8Z, trivial⟩ rfl rfl <| by
 intro (bs : Th (List Int)) (p : Th Int) ⟨(m : Th PMap), (l : Th (List Pcl)), (n : Th Int), u⟩ K _ _ ho h
 obtain ⟨m, rfl⟩ := a8 m; obtain ⟨l, rfl⟩ := a8 l; obtain ⟨n, rfl⟩ := a8 n
 have hl := okL (ho.2.1 _ (.head _))
 refine ⟨annL [(163, 4, ⟨Nat, [], fun σ k => σ.t 7 (vI fun _ => (k : Int)), fun _ k _ => k ≤ l.length ∧ l8 k (a2n m l n) = true, fun _ k _ => l.length - k⟩)], noAnn, 20, ?_⟩
 cbv
 repeat' first | ((with_reducible refine fun (k : Nat) => ?_); cbv) | ((with_reducible intro _); cbv) | (with_reducible refine And.intro ?_ ?_)
 all_goals try ((first | (with_reducible refine LoopIn.mk ((0 : Nat)) ?_ ?_) | (with_reducible refine LoopBack.mk ((k + 1 : Nat)) ?_ ?_ ?_)) )
 all_goals try ((with_reducible show m6 _ _); cbv; (try simp only [and_true, true_and]))
 all_goals try (repeat' with_reducible refine And.intro ?_ ?_)
 all_goals first | (refine retK h ?_; clear h; simp only [fin0]) | (with_reducible refine Ob.mk ?_; clear h) | (clear h)
 all_goals (try simp only [eta0, RT.bytes] at *)
 all_goals grind [inR, m8, m7, a2n, s4, a3Q, a2K, j5, e8]
theorem a6L : b7 Tryz.prog 190 a1i := j8 j3 (ss := []) trivial rfl rfl <| by
 intro (bs : Th (List Int)) (p : Th Int) ⟨(l : Th (List Pcl)), (i : Th Int), u⟩ K _ _ ho h
 obtain ⟨l, rfl⟩ := a8 l; obtain ⟨i, rfl⟩ := a8 i
 have hl := okB (ho.1 _ (.head _))
 have hz := a3S l i
 refine ⟨annL [(190, 3, ⟨Nat, [⟨.tmp 5 0, some 22, .pcl⟩], fun σ k => ((σ.t 10 (vI fun _ => (k : Int))).t 5 (vO 22 1)).row 22 1 .pcl (fun _ => J1 l i k), fun _ k _ => k ≤ l.length, fun _ k _ => l.length - k⟩)], noAnn, 20, ?_⟩
 cbv
 repeat' first | ((with_reducible refine fun (k : Nat) => ?_); cbv) | ((with_reducible intro _); cbv) | (with_reducible refine And.intro ?_ ?_)
 all_goals try ((first | (with_reducible refine LoopIn.mk ((0 : Nat)) ?_ ?_) | (with_reducible refine LoopBack.mk ((k + 1 : Nat)) ?_ ?_ ?_)) )
 all_goals try ((with_reducible show m6 _ _); cbv; (try simp only [and_true, true_and]))
 all_goals try (repeat' with_reducible refine And.intro ?_ ?_)
 all_goals first | (refine retK h ?_; clear h; simp only [fin0]) | (with_reducible refine Ob.mk ?_; clear h) | (clear h)
 all_goals (try simp only [eta0, RT.bytes] at *)
 all_goals grind [a2L, a3T, a3R, a5n, j5]
theorem b7o : b7 Tryz.prog 168 a1i := j8 j3 (ss := []) trivial rfl rfl <| by
 intro (bs : Th (List Int)) (p : Th Int) ⟨(l : Th (List Pcl)), (i : Th Int), u⟩ K _ _ ho h
 obtain ⟨l, rfl⟩ := a8 l; obtain ⟨i, rfl⟩ := a8 i
 have hl := okB (ho.1 _ (.head _))
 have hz := a3S l i
 refine ⟨annL [(168, 3, ⟨Nat, [⟨.tmp 5 0, some 8, .pcl⟩], fun σ k => (((σ.fg 8).t 6 (vI fun _ => (k : Int))).t 5 (vO 8 1)).row 8 1 .pcl (fun _ => J1 l i k), fun _ k _ => k ≤ l.length, fun _ k _ => l.length - k⟩)], noAnn, 20, ?_⟩
 cbv
 repeat' first | ((with_reducible refine fun (k : Nat) => ?_); cbv) | ((with_reducible intro _); cbv) | (with_reducible refine And.intro ?_ ?_)
 all_goals try ((first | (with_reducible refine LoopIn.mk ((0 : Nat)) ?_ ?_) | (with_reducible refine LoopBack.mk ((k + 1 : Nat)) ?_ ?_ ?_)) )
 all_goals try ((with_reducible show m6 _ _); cbv; (try simp only [and_true, true_and]))
 all_goals try (repeat' with_reducible refine And.intro ?_ ?_)
 all_goals first | (refine retK h ?_; clear h; simp only [fin0]) | (with_reducible refine Ob.mk ?_; clear h) | (clear h)
 all_goals (try simp only [eta0, RT.bytes] at *)
 all_goals grind [a2L, a3T, a3R, a5n, j5]
theorem c4J : b7 Tryz.prog 93 b9c := j8 j3 (ss := []) trivial rfl rfl <| by
 intro (bs : Th (List Int)) (p : Th Int) ⟨(l : Th (List Pcl)), u⟩ K _ _ ho h
 obtain ⟨l, rfl⟩ := a8 l
 have hl := okB (ho.1 _ (.head _))
 refine ⟨noAnn, noAnn, 20, ?_⟩
 cbv
 repeat' first | ((with_reducible intro _); cbv) | (with_reducible refine And.intro ?_ ?_)
 all_goals first | (refine retK h ?_; clear h; simp only [fin0]) | (with_reducible refine Ob.mk ?_; clear h) | (clear h)
 all_goals (try simp only [eta0, RT.bytes] at *)
 all_goals grind
end Go.Proofs.YtkclfaldmghkeaaGreat
