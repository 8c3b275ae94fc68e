/-
  Contracts: a1p, walkers.
-/
import Derived.Test.YtkclfaldmghkeaaGreatTok
import Derived.Test.YtkclfaldmghkeaaGreatM1
set_option linter.unusedVariables false
set_option linter.unusedSimpArgs false
set_option maxRecDepth 100000
set_option maxHeartbeats 8000000
namespace Go.Proofs.YtkclfaldmghkeaaGreat
open Go.Sx Go.Proofs Go.Mo
noncomputable def sIn : Sx.Spec := ⟨false, true, [.int .i64, .int .i64, .int .i64], [], fun _ _ ⟨n, a, b, _⟩ => .ret (vB fun _ => inR (n ()) (a ()) (b ()), fun _ => 0)⟩
noncomputable def B8 : Sx.Spec := ⟨false, true, [.map], [], fun _ _ ⟨m, _⟩ => .ret (vB fun _ => o8 (m ()), fun _ => 0)⟩
noncomputable def D3 : Sx.Spec := ⟨false, true, [.map, .int .i64], [], fun _ _ ⟨m, a, _⟩ => .ret (vI fun _ => l9 (m ()) (a ()), fun _ => 0)⟩
noncomputable def E7 : Sx.Spec := ⟨false, true, [.map, .int .i64, .int .i64], [], fun _ _ ⟨m, a, s, _⟩ => .ret (vI fun _ => b7 (m ()) (a ()) (s ()), fun _ => 0)⟩
noncomputable def Q1 : Sx.Spec := ⟨false, true, [.map, .int .i64, .int .i64], [], fun _ _ ⟨m, a, s, _⟩ => .ret (vB fun _ => I2 (m ()) (a ()) (s ()), fun _ => 0)⟩
noncomputable def a5z : Sx.Spec := ⟨false, true, [.map, .int .i64], [], fun _ _ ⟨m, a, _⟩ => .asrt (fun _ => -9223372036854775808 < (m ()).cells) (.ret (vB fun _ => decide (0 ≤ a () ∧ a () < (m ()).cells), fun _ => 0))⟩
noncomputable def a8B : Sx.Spec := ⟨false, true, [.int .i64], [], fun _ _ ⟨a, _⟩ => .ret (vB fun _ => decide (a () = 0 ∨ a () = 1), fun _ => 0)⟩
noncomputable def a3Q : Sx.Spec := ⟨false, true, [.int .i64], [], fun _ _ ⟨a, _⟩ => .asrt (fun _ => a () = 0 ∨ a () = 1) (.ret (vI fun _ => 2 * a () - 1, fun _ => 0))⟩
noncomputable def a1F : Sx.Spec := ⟨false, true, [.int .i64], [], fun _ _ ⟨a, _⟩ => .ret (vB fun _ => decide (1 ≤ a () ∧ a () ≤ 9), fun _ => 0)⟩
noncomputable def a2X : Sx.Spec := ⟨false, true, [.map, .row .wlk], [], fun _ _ ⟨m, w, _⟩ => .ret (vB fun _ => P8 (m ()) (w ()), fun _ => 0)⟩
noncomputable def b9N : Sx.Spec := ⟨false, true, [.row .wlk], [], fun _ _ ⟨w, _⟩ => .ret (vB fun _ => a6M (w ()), fun _ => 0)⟩
noncomputable def a7V : Sx.Spec := ⟨false, true, [.map, .list .wlk], [], fun _ _ ⟨m, l, _⟩ => .ret (vB fun _ => z6 (m ()) (l ()) && o8 (m ()), fun _ => 0)⟩
noncomputable def Y5 : Sx.Spec := ⟨false, true, [.map, .list .wlk], [], fun _ _ ⟨m, l, _⟩ => .ret (vB fun _ => z6 (m ()) (l ()), fun _ => 0)⟩
theorem okIn : b8 Tryz.prog 39 sIn := j6 j4 (ss := []) trivial rfl rfl <| by
 intro (bs : Th (List Int)) (p : Th Int) ⟨(n : Th Int), (a : Th Int), (b : Th Int), u⟩ K _ _ _ h
 obtain ⟨n, rfl⟩ := b6 n; obtain ⟨a, rfl⟩ := b6 a; obtain ⟨b, rfl⟩ := b6 b
 refine ⟨noAnn, noAnn, 20, ?_⟩
 cbv
 repeat' first | ((with_reducible intro _); cbv) | (with_reducible refine And.intro ?_ ?_)
 all_goals first | (refine retK h ?_; clear h; simp only [fin0]) | (with_reducible refine Ob.mk ?_; clear h) | (clear h)
 all_goals (try simp only [eta0, RT.bytes] at *)
 all_goals grind [inR]
theorem G8 : b8 Tryz.prog 110 sIn := j6 j4 (ss := []) trivial rfl rfl <| by
 intro (bs : Th (List Int)) (p : Th Int) ⟨(n : Th Int), (a : Th Int), (b : Th Int), u⟩ K _ _ _ h
 obtain ⟨n, rfl⟩ := b6 n; obtain ⟨a, rfl⟩ := b6 a; obtain ⟨b, rfl⟩ := b6 b
 refine ⟨noAnn, noAnn, 20, ?_⟩
 cbv
 repeat' first | ((with_reducible intro _); cbv) | (with_reducible refine And.intro ?_ ?_)
 all_goals first | (refine retK h ?_; clear h; simp only [fin0]) | (with_reducible refine Ob.mk ?_; clear h) | (clear h)
 all_goals (try simp only [eta0, RT.bytes] at *)
 all_goals grind [inR]
theorem Q8 : b8 Tryz.prog 47 B8 := j6 j4 (ss := [(39, sIn)]) ⟨okIn, trivial⟩ rfl rfl <| by
 intro (bs : Th (List Int)) (p : Th Int) ⟨(m : Th PMap), u⟩ K _ _ _ h
 obtain ⟨m, rfl⟩ := b6 m
 refine ⟨noAnn, noAnn, 20, ?_⟩
 cbv
 repeat' first | ((with_reducible intro _); cbv) | (with_reducible refine And.intro ?_ ?_)
 all_goals first | (refine retK h ?_; clear h; simp only [fin0]) | (with_reducible refine Ob.mk ?_; clear h) | (clear h)
 all_goals (try simp only [eta0, RT.bytes] at *)
 all_goals grind [inR, o8]
theorem F3 : b8 Tryz.prog 72 B8 := j6 j4 (ss := [(110, sIn)]) ⟨G8, trivial⟩ rfl rfl <| by
 intro (bs : Th (List Int)) (p : Th Int) ⟨(m : Th PMap), u⟩ K _ _ _ h
 obtain ⟨m, rfl⟩ := b6 m
 refine ⟨noAnn, noAnn, 20, ?_⟩
 cbv
 repeat' first | ((with_reducible intro _); cbv) | (with_reducible refine And.intro ?_ ?_)
 all_goals first | (refine retK h ?_; clear h; simp only [fin0]) | (with_reducible refine Ob.mk ?_; clear h) | (clear h)
 all_goals (try simp only [eta0, RT.bytes] at *)
 all_goals grind [inR, o8]
theorem W6 : b8 Tryz.prog 45 D3 := j6 j4 (ss := [(39, sIn), (47, B8)]) ⟨okIn, Q8, trivial⟩ rfl rfl <| by
 intro (bs : Th (List Int)) (p : Th Int) ⟨(m : Th PMap), (a : Th Int), u⟩ K _ _ _ h
 obtain ⟨m, rfl⟩ := b6 m; obtain ⟨a, rfl⟩ := b6 a
 have hm := a3X (m := m)
 have hi := p5 (m := m)
 refine ⟨noAnn, noAnn, 20, ?_⟩
 cbv
 repeat' first | ((with_reducible intro _); cbv) | (with_reducible refine And.intro ?_ ?_)
 all_goals first | (refine retK h ?_; clear h; simp only [fin0]) | (with_reducible refine Ob.mk ?_; clear h) | (clear h)
 all_goals (try simp only [eta0, RT.bytes] at *)
 all_goals grind [l9, inR, b9, quo_in]
theorem L5 : b8 Tryz.prog 112 D3 := j6 j4 (ss := [(110, sIn), (72, B8)]) ⟨G8, F3, trivial⟩ rfl rfl <| by
 intro (bs : Th (List Int)) (p : Th Int) ⟨(m : Th PMap), (a : Th Int), u⟩ K _ _ _ h
 obtain ⟨m, rfl⟩ := b6 m; obtain ⟨a, rfl⟩ := b6 a
 have hm := a3X (m := m)
 have hi := p5 (m := m)
 refine ⟨noAnn, noAnn, 20, ?_⟩
 cbv
 repeat' first | ((with_reducible intro _); cbv) | (with_reducible refine And.intro ?_ ?_)
 all_goals first | (refine retK h ?_; clear h; simp only [fin0]) | (with_reducible refine Ob.mk ?_; clear h) | (clear h)
 all_goals (try simp only [eta0, RT.bytes] at *)
 all_goals grind [l9, inR, b9, quo_in]
theorem a7q : b8 Tryz.prog 80 a5z := j6 j4 (ss := [(39, sIn)]) ⟨okIn, trivial⟩ rfl rfl <| by
 intro (bs : Th (List Int)) (p : Th Int) ⟨(m : Th PMap), (a : Th Int), u⟩ K _ _ ho h
 obtain ⟨m, rfl⟩ := b6 m; obtain ⟨a, rfl⟩ := b6 a
 obtain ⟨hp, h⟩ := h
 have hp := hp.out
 have ho := okI (ho.1 _ (.head _))
 refine ⟨noAnn, noAnn, 20, ?_⟩
 cbv
 repeat' first | ((with_reducible intro _); cbv) | (with_reducible refine And.intro ?_ ?_)
 all_goals first | (refine retK h ?_; clear h; simp only [fin0]) | (with_reducible refine Ob.mk ?_; clear h) | (clear h)
 all_goals (try simp only [eta0, RT.bytes] at *)
 all_goals grind [inR, b9]
theorem a9G : b8 Tryz.prog 145 a8B := j6 j4 (ss := []) trivial rfl rfl <| by
 intro (bs : Th (List Int)) (p : Th Int) ⟨(a : Th Int), u⟩ K _ _ _ h
 obtain ⟨a, rfl⟩ := b6 a
 refine ⟨noAnn, noAnn, 20, ?_⟩
 cbv
 repeat' first | ((with_reducible intro _); cbv) | (with_reducible refine And.intro ?_ ?_)
 all_goals first | (refine retK h ?_; clear h; simp only [fin0]) | (with_reducible refine Ob.mk ?_; clear h) | (clear h)
 all_goals (try simp only [eta0, RT.bytes] at *)
 all_goals grind
theorem a3l : b8 Tryz.prog 97 a3Q := j6 j4 (ss := []) trivial rfl rfl <| by
 intro (bs : Th (List Int)) (p : Th Int) ⟨(a : Th Int), u⟩ K _ _ _ h
 obtain ⟨a, rfl⟩ := b6 a
 obtain ⟨hp, h⟩ := h
 have hp := hp.out
 refine ⟨noAnn, noAnn, 20, ?_⟩
 cbv
 repeat' first | ((with_reducible intro _); cbv) | (with_reducible refine And.intro ?_ ?_)
 all_goals first | (refine retK h ?_; clear h; simp only [fin0]) | (with_reducible refine Ob.mk ?_; clear h) | (clear h)
 all_goals (try simp only [eta0, RT.bytes] at *)
 all_goals grind [b9]
theorem a2r : b8 Tryz.prog 38 a1F := j6 j4 (ss := [(39, sIn)]) ⟨okIn, trivial⟩ rfl rfl <| by
 intro (bs : Th (List Int)) (p : Th Int) ⟨(a : Th Int), u⟩ K _ _ _ h
 obtain ⟨a, rfl⟩ := b6 a
 refine ⟨noAnn, noAnn, 20, ?_⟩
 cbv
 repeat' first | ((with_reducible intro _); cbv) | (with_reducible refine And.intro ?_ ?_)
 all_goals first | (refine retK h ?_; clear h; simp only [fin0]) | (with_reducible refine Ob.mk ?_; clear h) | (clear h)
 all_goals (try simp only [eta0, RT.bytes] at *)
 all_goals grind [inR]
theorem S1 : b8 Tryz.prog 85 E7 := j6 j4 (ss := [(47, B8), (80, a5z), (145, a8B), (97, a3Q)]) ⟨Q8, a7q, a9G, a3l, trivial⟩ rfl rfl <| by
 intro (bs : Th (List Int)) (p : Th Int) ⟨(m : Th PMap), (a : Th Int), (s : Th Int), u⟩ K _ _ _ h
 obtain ⟨m, rfl⟩ := b6 m; obtain ⟨a, rfl⟩ := b6 a; obtain ⟨s, rfl⟩ := b6 s
 have hi := p5 (m := m)
 refine ⟨noAnn, noAnn, 20, ?_⟩
 cbv
 repeat' first | ((with_reducible intro _); cbv) | (with_reducible refine And.intro ?_ ?_)
 all_goals first | (refine retK h ?_; clear h; simp only [fin0]) | (with_reducible refine Ob.mk ?_; clear h) | (clear h)
 all_goals (try simp only [eta0, RT.bytes] at *)
 all_goals grind [b7, b9]
theorem W5 : b8 Tryz.prog 116 E7 := j6 j4 (ss := [(72, B8), (110, sIn)]) ⟨F3, G8, trivial⟩ rfl rfl <| by
 intro (bs : Th (List Int)) (p : Th Int) ⟨(m : Th PMap), (a : Th Int), (s : Th Int), u⟩ K _ _ _ h
 obtain ⟨m, rfl⟩ := b6 m; obtain ⟨a, rfl⟩ := b6 a; obtain ⟨s, rfl⟩ := b6 s
 have hi := p5 (m := m)
 refine ⟨noAnn, noAnn, 20, ?_⟩
 cbv
 repeat' first | ((with_reducible intro _); cbv) | (with_reducible refine And.intro ?_ ?_)
 all_goals first | (refine retK h ?_; clear h; simp only [fin0]) | (with_reducible refine Ob.mk ?_; clear h) | (clear h)
 all_goals (try simp only [eta0, RT.bytes] at *)
 all_goals grind [b7, b9, inR]
theorem a1M : b8 Tryz.prog 46 Q1 := j6 j4 (ss := [(45, D3), (85, E7), (97, a3Q)]) ⟨W6, S1, a3l, trivial⟩ rfl rfl <| by
 intro (bs : Th (List Int)) (p : Th Int) ⟨(m : Th PMap), (a : Th Int), (s : Th Int), u⟩ K _ _ ho h
 obtain ⟨m, rfl⟩ := b6 m; obtain ⟨a, rfl⟩ := b6 a; obtain ⟨s, rfl⟩ := b6 s
 have hb := okI (ho.2.1 _ (.head _))
 refine ⟨noAnn, noAnn, 20, ?_⟩
 have hs := @G7 m (l9 m a) s
 have hc := @I9 m a
 have he := @edge_eq m a s
 have hi := p5 (m := m)
 have hm := a3X (m := m)
 cbv
 repeat' first | ((with_reducible intro _); cbv) | (with_reducible refine And.intro ?_ ?_)
 all_goals first | (refine retK h ?_; clear h; simp only [fin0]) | (with_reducible refine Ob.mk ?_; clear h) | (clear h)
 all_goals (try simp only [eta0, RT.bytes] at *)
 ·grind
 ·rename_i h1 h2
  have h1 : b7 m (l9 m a) s ≠ -1 := by simpa using h2
  have hw : IntKind.i64.wrap (a + (2 * s - 1)) = a + (2 * s - 1) := by grind [b9]
  rw [hw]
  simp only [I2, h1, ne_eq, not_false_eq_true, true_and, decide_eq_decide]
  exact he h1
 ·grind [I2]
 ·grind [I2]
theorem a4M : b8 Tryz.prog 212 Q1 := j6 j4 (ss := [(112, D3), (116, E7)]) ⟨L5, W5, trivial⟩ rfl rfl <| by
 intro (bs : Th (List Int)) (p : Th Int) ⟨(m : Th PMap), (a : Th Int), (s : Th Int), u⟩ K _ _ _ h
 obtain ⟨m, rfl⟩ := b6 m; obtain ⟨a, rfl⟩ := b6 a; obtain ⟨s, rfl⟩ := b6 s
 refine ⟨noAnn, noAnn, 20, ?_⟩
 have hs := @G7 m (l9 m a) s
 have hc := @I9 m a
 have hi := p5 (m := m)
 have hm := a3X (m := m)
 have hd := @b5C m a
 cbv
 repeat' first | ((with_reducible intro _); cbv) | (with_reducible refine And.intro ?_ ?_)
 all_goals first | (refine retK h ?_; clear h; simp only [fin0]) | (with_reducible refine Ob.mk ?_; clear h) | (clear h)
 all_goals (try simp only [eta0, RT.bytes] at *)
 all_goals grind [I2, b9]
theorem okRanged : b8 Tryz.prog 96 b9N := j6 j4 (ss := [(39, sIn), (38, a1F)]) ⟨okIn, a2r, trivial⟩ rfl rfl <| by
 intro (bs : Th (List Int)) (p : Th Int) ⟨(w : Th Wlk), u⟩ K _ _ _ h
 obtain ⟨w, rfl⟩ := b6 w
 refine ⟨noAnn, noAnn, 20, ?_⟩
 cbv
 repeat' first | ((with_reducible intro _); cbv) | (with_reducible refine And.intro ?_ ?_)
 all_goals first | (refine retK h ?_; clear h; simp only [fin0]) | (with_reducible refine Ob.mk ?_; clear h) | (clear h)
 all_goals (try simp only [eta0, RT.bytes] at *)
 all_goals grind [inR, a6M]
theorem b3C : b8 Tryz.prog 44 a2X := j6 j4 (ss := [(45, D3), (96, b9N)]) ⟨W6, okRanged, trivial⟩ rfl rfl <| by
 intro (bs : Th (List Int)) (p : Th Int) ⟨(m : Th PMap), (w : Th Wlk), u⟩ K _ _ _ h
 obtain ⟨m, rfl⟩ := b6 m; obtain ⟨w, rfl⟩ := b6 w
 refine ⟨noAnn, noAnn, 20, ?_⟩
 cbv
 repeat' first | ((with_reducible intro _); cbv) | (with_reducible refine And.intro ?_ ?_)
 all_goals first | (refine retK h ?_; clear h; simp only [fin0]) | (with_reducible refine Ob.mk ?_; clear h) | (clear h)
 all_goals (try simp only [eta0, RT.bytes] at *)
 all_goals grind [P8, a6M]
theorem a9x : b8 Tryz.prog 162 a2X := j6 j4 (ss := [(112, D3), (110, sIn)]) ⟨L5, G8, trivial⟩ rfl rfl <| by
 intro (bs : Th (List Int)) (p : Th Int) ⟨(m : Th PMap), (w : Th Wlk), u⟩ K _ _ _ h
 obtain ⟨m, rfl⟩ := b6 m; obtain ⟨w, rfl⟩ := b6 w
 refine ⟨noAnn, noAnn, 20, ?_⟩
 cbv
 repeat' first | ((with_reducible intro _); cbv) | (with_reducible refine And.intro ?_ ?_)
 all_goals first | (refine retK h ?_; clear h; simp only [fin0]) | (with_reducible refine Ob.mk ?_; clear h) | (clear h)
 all_goals (try simp only [eta0, RT.bytes] at *)
 all_goals grind [P8, inR]
theorem b5O : b8 Tryz.prog 88 a7V := j6 j4 (ss := [(44, a2X), (47, B8)]) ⟨b3C, Q8, trivial⟩ rfl rfl <| by
 intro (bs : Th (List Int)) (p : Th Int) ⟨(m : Th PMap), (l : Th (List Wlk)), u⟩ K _ _ ho h
 obtain ⟨m, rfl⟩ := b6 m; obtain ⟨l, rfl⟩ := b6 l
 have hl := okL (ho.2.1 _ (.head _))
 refine ⟨annL [(88, 2, ⟨Nat, [], fun σ k => σ.t 9 (vI fun _ => (k : Int)), fun _ k _ => k ≤ l.length ∧ m4 k (a4l m l) = true, fun _ k _ => l.length - k⟩)], noAnn, 20, ?_⟩
 cbv
 repeat' first | ((with_reducible refine fun (k : Nat) => ?_); cbv) | ((with_reducible intro _); cbv) | (with_reducible refine And.intro ?_ ?_)
 all_goals try ((first | (with_reducible refine LoopIn.mk ((0 : Nat)) ?_ ?_) | (with_reducible refine LoopBack.mk ((k + 1 : Nat)) ?_ ?_ ?_)) )
 all_goals try ((with_reducible show l8 _ _); cbv; (try simp only [and_true, true_and]))
 all_goals try (repeat' with_reducible refine And.intro ?_ ?_)
 all_goals first | (refine retK h ?_; clear h; simp only [fin0]) | (with_reducible refine Ob.mk ?_; clear h) | (clear h)
 all_goals (try simp only [eta0, RT.bytes] at *)
 all_goals grind [n4, n3, a4l, z6, a0o, j3, a8Q, a7P]
theorem a0i : b8 Tryz.prog 111 Y5 := j6 j4 (ss := [(162, a2X)]) ⟨a9x, trivial⟩ rfl rfl <| by
 intro (bs : Th (List Int)) (p : Th Int) ⟨(m : Th PMap), (l : Th (List Wlk)), u⟩ K _ _ ho h
 obtain ⟨m, rfl⟩ := b6 m; obtain ⟨l, rfl⟩ := b6 l
 have hl := okL (ho.2.1 _ (.head _))
 refine ⟨annL [(111, 2, ⟨Nat, [], fun σ k => σ.t 5 (vI fun _ => (k : Int)), fun _ k _ => k ≤ l.length ∧ m4 k (a4l m l) = true, fun _ k _ => l.length - k⟩)], noAnn, 20, ?_⟩
 cbv
 repeat' first | ((with_reducible refine fun (k : Nat) => ?_); cbv) | ((with_reducible intro _); cbv) | (with_reducible refine And.intro ?_ ?_)
 all_goals try ((first | (with_reducible refine LoopIn.mk ((0 : Nat)) ?_ ?_) | (with_reducible refine LoopBack.mk ((k + 1 : Nat)) ?_ ?_ ?_)) )
 all_goals try ((with_reducible show l8 _ _); cbv; (try simp only [and_true, true_and]))
 all_goals try (repeat' with_reducible refine And.intro ?_ ?_)
 all_goals first | (refine retK h ?_; clear h; simp only [fin0]) | (with_reducible refine Ob.mk ?_; clear h) | (clear h)
 all_goals (try simp only [eta0, RT.bytes] at *)
 all_goals grind [n4, n3, a4l, z6, a0o, j3, a8Q, a7P]
noncomputable def a0T : Sx.Spec := ⟨false, true, [.list .wlk, .int .i64], [[some .wlk]], fun _ _ ⟨l, i, _⟩ => .ret (vW .wlk fun _ => B9 (l ()) (i ()), fun _ => 0)⟩
noncomputable def a5A : Sx.Spec := ⟨false, true, [.list .wlk], [[some .wlk]], fun _ _ ⟨l, _⟩ => .ret (vW .wlk fun _ => l (), fun _ => 0)⟩
noncomputable def a9g : Sx.Spec := ⟨false, true, [.list .wlk, .int .i64], [], fun _ _ ⟨l, i, _⟩ => .ret (vI fun _ => j7 (l ()) (i ()), fun _ => 0)⟩
noncomputable def T8 : Sx.Spec := ⟨false, true, [.list .wlk, .int .i64], [], fun _ _ ⟨l, i, _⟩ => .ret (.tup [oWlk fun _ => A3 (l ()) (i ()), vB fun _ => o7 (l ()) (i ())], fun _ => 0)⟩
theorem a5V : b8 Tryz.prog 187 a0T := j6 j4 (ss := []) trivial rfl rfl <| by
 intro (bs : Th (List Int)) (p : Th Int) ⟨(l : Th (List Wlk)), (i : Th Int), u⟩ K _ _ ho h
 obtain ⟨l, rfl⟩ := b6 l; obtain ⟨i, rfl⟩ := b6 i
 have hl := okB (ho.1 _ (.head _))
 have hz := a5j l i
 refine ⟨annL [(187, 3, ⟨Nat, [⟨.tmp 5 0, some 22, .wlk⟩], fun σ k => ((σ.t 10 (vI fun _ => (k : Int))).t 5 (vO 22 1)).row 22 1 .wlk (fun _ => N2 l i k), fun _ k _ => k ≤ l.length, fun _ k _ => l.length - k⟩)], noAnn, 20, ?_⟩
 cbv
 repeat' first | ((with_reducible refine fun (k : Nat) => ?_); cbv) | ((with_reducible intro _); cbv) | (with_reducible refine And.intro ?_ ?_)
 all_goals try ((first | (with_reducible refine LoopIn.mk ((0 : Nat)) ?_ ?_) | (with_reducible refine LoopBack.mk ((k + 1 : Nat)) ?_ ?_ ?_)) )
 all_goals try ((with_reducible show l8 _ _); cbv; (try simp only [and_true, true_and]))
 all_goals try (repeat' with_reducible refine And.intro ?_ ?_)
 all_goals first | (refine retK h ?_; clear h; simp only [fin0]) | (with_reducible refine Ob.mk ?_; clear h) | (clear h)
 all_goals (try simp only [eta0, RT.bytes] at *)
 all_goals grind [a4k, a5k, a5i, a7O, j3]
theorem b1T : b8 Tryz.prog 134 a0T := j6 j4 (ss := []) trivial rfl rfl <| by
 intro (bs : Th (List Int)) (p : Th Int) ⟨(l : Th (List Wlk)), (i : Th Int), u⟩ K _ _ ho h
 obtain ⟨l, rfl⟩ := b6 l; obtain ⟨i, rfl⟩ := b6 i
 have hl := okB (ho.1 _ (.head _))
 have hz := a5j l i
 refine ⟨annL [(134, 3, ⟨Nat, [⟨.tmp 5 0, some 8, .wlk⟩], fun σ k => (((σ.fg 8).t 6 (vI fun _ => (k : Int))).t 5 (vO 8 1)).row 8 1 .wlk (fun _ => N2 l i k), fun _ k _ => k ≤ l.length, fun _ k _ => l.length - k⟩)], noAnn, 20, ?_⟩
 cbv
 repeat' first | ((with_reducible refine fun (k : Nat) => ?_); cbv) | ((with_reducible intro _); cbv) | (with_reducible refine And.intro ?_ ?_)
 all_goals try ((first | (with_reducible refine LoopIn.mk ((0 : Nat)) ?_ ?_) | (with_reducible refine LoopBack.mk ((k + 1 : Nat)) ?_ ?_ ?_)) )
 all_goals try ((with_reducible show l8 _ _); cbv; (try simp only [and_true, true_and]))
 all_goals try (repeat' with_reducible refine And.intro ?_ ?_)
 all_goals first | (refine retK h ?_; clear h; simp only [fin0]) | (with_reducible refine Ob.mk ?_; clear h) | (clear h)
 all_goals (try simp only [eta0, RT.bytes] at *)
 all_goals grind [a4k, a5k, a5i, a7O, j3]
theorem b6e : b8 Tryz.prog 92 a5A := j6 j4 (ss := []) trivial rfl rfl <| by
 intro (bs : Th (List Int)) (p : Th Int) ⟨(l : Th (List Wlk)), u⟩ K _ _ ho h
 obtain ⟨l, rfl⟩ := b6 l
 have hl := okB (ho.1 _ (.head _))
 refine ⟨noAnn, noAnn, 20, ?_⟩
 cbv
 repeat' first | ((with_reducible intro _); cbv) | (with_reducible refine And.intro ?_ ?_)
 all_goals first | (refine retK h ?_; clear h; simp only [fin0]) | (with_reducible refine Ob.mk ?_; clear h) | (clear h)
 all_goals (try simp only [eta0, RT.bytes] at *)
 all_goals grind
theorem okL2Copy : b8 Tryz.prog 114 a5A := j6 j4 (ss := []) trivial rfl rfl <| by
 intro (bs : Th (List Int)) (p : Th Int) ⟨(l : Th (List Wlk)), u⟩ K _ _ ho h
 obtain ⟨l, rfl⟩ := b6 l
 have hl := okB (ho.1 _ (.head _))
 refine ⟨noAnn, noAnn, 20, ?_⟩
 cbv
 repeat' first | ((with_reducible intro _); cbv) | (with_reducible refine And.intro ?_ ?_)
 all_goals first | (refine retK h ?_; clear h; simp only [fin0]) | (with_reducible refine Ob.mk ?_; clear h) | (clear h)
 all_goals (try simp only [eta0, RT.bytes] at *)
 all_goals grind
theorem a8F : b8 Tryz.prog 43 a9g := j6 j4 (ss := []) trivial rfl rfl <| by
 intro (bs : Th (List Int)) (p : Th Int) ⟨(l : Th (List Wlk)), (i : Th Int), u⟩ K _ _ ho h
 obtain ⟨l, rfl⟩ := b6 l; obtain ⟨i, rfl⟩ := b6 i
 have hl := okL (ho.1 _ (.head _))
 refine ⟨annL [(94, 2, ⟨Nat, [], fun σ k => σ.t 8 (vI fun _ => (k : Int)), fun _ k _ => k ≤ l.length ∧ m4 k (nid l i) = true, fun _ k _ => l.length - k⟩)], noAnn, 20, ?_⟩
 cbv
 repeat' first | ((with_reducible refine fun (k : Nat) => ?_); cbv) | ((with_reducible intro _); cbv) | (with_reducible refine And.intro ?_ ?_)
 all_goals try ((first | (with_reducible refine LoopIn.mk ((0 : Nat)) ?_ ?_) | (with_reducible refine LoopBack.mk ((k + 1 : Nat)) ?_ ?_ ?_)) )
 all_goals try ((with_reducible show l8 _ _); cbv; (try simp only [and_true, true_and]))
 all_goals try (repeat' with_reducible refine And.intro ?_ ?_)
 all_goals first | (refine retK h ?_; clear h; simp only [fin0]) | (with_reducible refine Ob.mk ?_; clear h) | (clear h)
 all_goals (try simp only [eta0, RT.bytes] at *)
 all_goals grind [n4, n3, nid, isId, b5F, a9p, j3]
theorem a7k : b8 Tryz.prog 13 T8 := j6 j4 (ss := [(43, a9g)]) ⟨a8F, trivial⟩ rfl rfl <| by
 intro (bs : Th (List Int)) (p : Th Int) ⟨(l : Th (List Wlk)), (i : Th Int), u⟩ K _ _ ho h
 obtain ⟨l, rfl⟩ := b6 l; obtain ⟨i, rfl⟩ := b6 i
 have hp := N9 l i
 refine ⟨noAnn, noAnn, 20, ?_⟩
 cbv
 repeat' first | ((with_reducible intro _); cbv) | (with_reducible refine And.intro ?_ ?_)
 all_goals first | (refine retK h ?_; clear h; simp only [fin0]) | (with_reducible refine Ob.mk ?_; clear h) | (clear h)
 all_goals (try simp only [eta0, RT.bytes] at *)
 all_goals grind [A3, o7]
theorem a2p : b8 Tryz.prog 166 T8 := j6 j4 (ss := []) trivial rfl rfl <| by
 intro (bs : Th (List Int)) (p : Th Int) ⟨(l : Th (List Wlk)), (i : Th Int), u⟩ K _ _ ho h
 obtain ⟨l, rfl⟩ := b6 l; obtain ⟨i, rfl⟩ := b6 i
 have hl := okL (ho.1 _ (.head _))
 refine ⟨annL [(166, 2, ⟨Nat, [], fun σ k => σ.t 6 (vI fun _ => (k : Int)), fun _ k _ => k ≤ l.length ∧ m4 k (nid l i) = true, fun _ k _ => l.length - k⟩)], noAnn, 20, ?_⟩
 cbv
 repeat' first | ((with_reducible refine fun (k : Nat) => ?_); cbv) | ((with_reducible intro _); cbv) | (with_reducible refine And.intro ?_ ?_)
 all_goals try ((first | (with_reducible refine LoopIn.mk ((0 : Nat)) ?_ ?_) | (with_reducible refine LoopBack.mk ((k + 1 : Nat)) ?_ ?_ ?_)) )
 all_goals try ((with_reducible show l8 _ _); cbv; (try simp only [and_true, true_and]))
 all_goals try (repeat' with_reducible refine And.intro ?_ ?_)
 all_goals first | (refine retK h ?_; clear h; simp only [fin0]) | (with_reducible refine Ob.mk ?_; clear h) | (clear h)
 all_goals (try simp only [eta0, RT.bytes] at *)
 all_goals grind [n4, n3, nid, isId, b5F, a9p, j3, A3, o7]
noncomputable def a1m : Sx.Spec := ⟨false, true, [.ord], [], fun _ _ ⟨o, _⟩ => .ret (vB fun _ => K6 (o ()), fun _ => 0)⟩
noncomputable def a9h : Sx.Spec := ⟨false, true, [.row .pcl], [], fun _ _ ⟨o, _⟩ => .ret (vB fun _ => a7i (o ()), fun _ => 0)⟩
noncomputable def a2Y : Sx.Spec := ⟨false, true, [.map, .row .pcl], [], fun _ _ ⟨m, o, _⟩ => .ret (vB fun _ => I3 (m ()) (o ()), fun _ => 0)⟩
noncomputable def a2k : Sx.Spec := ⟨false, true, [.map, .list .pcl, .int .i64], [], fun _ _ ⟨m, l, n, _⟩ => .ret (vB fun _ => s5 (m ()) (l ()) (n ()), fun _ => 0)⟩
noncomputable def a1D : Sx.Spec := ⟨false, true, [.list .pcl, .int .i64], [[some .pcl]], fun _ _ ⟨l, n, _⟩ => .ret (vW .pcl fun _ => y5 (l ()) (n ()), fun _ => 0)⟩
noncomputable def b9Z : Sx.Spec := ⟨false, true, [.list .pcl], [[some .pcl]], fun _ _ ⟨l, _⟩ => .ret (vW .pcl fun _ => l (), fun _ => 0)⟩
theorem a8G : b8 Tryz.prog 81 a1m := j6 j4 (ss := [(39, sIn), (38, a1F), (145, a8B)]) ⟨okIn, a2r, a9G, trivial⟩ rfl rfl <| by
 intro (bs : Th (List Int)) (p : Th Int) ⟨(o : Th Sx.Ord), u⟩ K _ _ ho h
 obtain ⟨o, rfl⟩ := b6 o
 refine ⟨noAnn, noAnn, 20, ?_⟩
 cbv
 repeat' first | ((with_reducible intro _); cbv) | (with_reducible refine And.intro ?_ ?_)
 all_goals first | (refine retK h ?_; clear h; simp only [fin0]) | (with_reducible refine Ob.mk ?_; clear h) | (clear h)
 all_goals (try simp only [eta0, RT.bytes] at *)
 all_goals grind [inR, K6]
theorem a5W : b8 Tryz.prog 164 a1m := j6 j4 (ss := [(110, sIn)]) ⟨G8, trivial⟩ rfl rfl <| by
 intro (bs : Th (List Int)) (p : Th Int) ⟨(o : Th Sx.Ord), u⟩ K _ _ ho h
 obtain ⟨o, rfl⟩ := b6 o
 refine ⟨noAnn, noAnn, 20, ?_⟩
 cbv
 repeat' first | ((with_reducible intro _); cbv) | (with_reducible refine And.intro ?_ ?_)
 all_goals first | (refine retK h ?_; clear h; simp only [fin0]) | (with_reducible refine Ob.mk ?_; clear h) | (clear h)
 all_goals (try simp only [eta0, RT.bytes] at *)
 all_goals grind [inR, K6]
theorem b5Y : b8 Tryz.prog 147 a9h := j6 j4 (ss := [(39, sIn)]) ⟨okIn, trivial⟩ rfl rfl <| by
 intro (bs : Th (List Int)) (p : Th Int) ⟨(o : Th Pcl), u⟩ K _ _ ho h
 obtain ⟨o, rfl⟩ := b6 o
 refine ⟨noAnn, noAnn, 20, ?_⟩
 cbv
 repeat' first | ((with_reducible intro _); cbv) | (with_reducible refine And.intro ?_ ?_)
 all_goals first | (refine retK h ?_; clear h; simp only [fin0]) | (with_reducible refine Ob.mk ?_; clear h) | (clear h)
 all_goals (try simp only [eta0, RT.bytes] at *)
 all_goals grind [inR, a7i, a2O]
theorem b3F : b8 Tryz.prog 86 a2Y := j6 j4 (ss := [(47, B8), (147, a9h), (44, a2X)]) ⟨Q8, b5Y, b3C, trivial⟩ rfl rfl <| by
 intro (bs : Th (List Int)) (p : Th Int) ⟨(m : Th PMap), (o : Th Pcl), u⟩ K _ _ ho h
 obtain ⟨m, rfl⟩ := b6 m; obtain ⟨o, rfl⟩ := b6 o
 refine ⟨noAnn, noAnn, 20, ?_⟩
 cbv
 repeat' first | ((with_reducible intro _); cbv) | (with_reducible refine And.intro ?_ ?_)
 all_goals first | (refine retK h ?_; clear h; simp only [fin0]) | (with_reducible refine Ob.mk ?_; clear h) | (clear h)
 all_goals (try simp only [eta0, RT.bytes] at *)
 all_goals grind [a7i, I3]
theorem a9A : b8 Tryz.prog 165 a2Y := j6 j4 (ss := [(72, B8), (110, sIn), (162, a2X)]) ⟨F3, G8, a9x, trivial⟩ rfl rfl <| by
 intro (bs : Th (List Int)) (p : Th Int) ⟨(m : Th PMap), (o : Th Pcl), u⟩ K _ _ ho h
 obtain ⟨m, rfl⟩ := b6 m; obtain ⟨o, rfl⟩ := b6 o
 refine ⟨noAnn, noAnn, 20, ?_⟩
 cbv
 repeat' first | ((with_reducible intro _); cbv) | (with_reducible refine And.intro ?_ ?_)
 all_goals first | (refine retK h ?_; clear h; simp only [fin0]) | (with_reducible refine Ob.mk ?_; clear h) | (clear h)
 all_goals (try simp only [eta0, RT.bytes] at *)
 all_goals grind [inR, I3, a2O]
theorem b5X : b8 Tryz.prog 89 a2k := j6 j4 (ss := [(47, B8), (39, sIn), (86, a2Y)]) ⟨Q8, okIn, b3F, trivial⟩ rfl rfl <| by
 intro (bs : Th (List Int)) (p : Th Int) ⟨(m : Th PMap), (l : Th (List Pcl)), (n : Th Int), u⟩ K _ _ ho h
 obtain ⟨m, rfl⟩ := b6 m; obtain ⟨l, rfl⟩ := b6 l; obtain ⟨n, rfl⟩ := b6 n
 have hl := okL (ho.2.1 _ (.head _))
 refine ⟨annL [(89, 4, ⟨Nat, [], fun σ k => σ.t 25 (vI fun _ => (k : Int)), fun _ k _ => k ≤ l.length ∧ m4 k (a2K m l n) = true, fun _ k _ => l.length - k⟩)], noAnn, 20, ?_⟩
 cbv
 repeat' first | ((with_reducible refine fun (k : Nat) => ?_); cbv) | ((with_reducible intro _); cbv) | (with_reducible refine And.intro ?_ ?_)
 all_goals try ((first | (with_reducible refine LoopIn.mk ((0 : Nat)) ?_ ?_) | (with_reducible refine LoopBack.mk ((k + 1 : Nat)) ?_ ?_ ?_)) )
 all_goals try ((with_reducible show l8 _ _); cbv; (try simp only [and_true, true_and]))
 all_goals try (repeat' with_reducible refine And.intro ?_ ?_)
 all_goals first | (refine retK h ?_; clear h; simp only [fin0]) | (with_reducible refine Ob.mk ?_; clear h) | (clear h)
 all_goals (try simp only [eta0, RT.bytes] at *)
 all_goals grind [inR, n4, n3, a2K, s5, a4q, a3g, j3, b9]
theorem b3E : b8 Tryz.prog 163 a2k := j6 j4 (ss := [(72, B8), (110, sIn), (165, a2Y)]) ⟨F3, G8, a9A, trivial⟩ rfl rfl <| by
 intro (bs : Th (List Int)) (p : Th Int) ⟨(m : Th PMap), (l : Th (List Pcl)), (n : Th Int), u⟩ K _ _ ho h
 obtain ⟨m, rfl⟩ := b6 m; obtain ⟨l, rfl⟩ := b6 l; obtain ⟨n, rfl⟩ := b6 n
 have hl := okL (ho.2.1 _ (.head _))
 refine ⟨annL [(163, 4, ⟨Nat, [], fun σ k => σ.t 7 (vI fun _ => (k : Int)), fun _ k _ => k ≤ l.length ∧ m4 k (a2K m l n) = true, fun _ k _ => l.length - k⟩)], noAnn, 20, ?_⟩
 cbv
 repeat' first | ((with_reducible refine fun (k : Nat) => ?_); cbv) | ((with_reducible intro _); cbv) | (with_reducible refine And.intro ?_ ?_)
 all_goals try ((first | (with_reducible refine LoopIn.mk ((0 : Nat)) ?_ ?_) | (with_reducible refine LoopBack.mk ((k + 1 : Nat)) ?_ ?_ ?_)) )
 all_goals try ((with_reducible show l8 _ _); cbv; (try simp only [and_true, true_and]))
 all_goals try (repeat' with_reducible refine And.intro ?_ ?_)
 all_goals first | (refine retK h ?_; clear h; simp only [fin0]) | (with_reducible refine Ob.mk ?_; clear h) | (clear h)
 all_goals (try simp only [eta0, RT.bytes] at *)
 all_goals grind [inR, n4, n3, a2K, s5, a4q, a3g, j3, b9]
theorem a7n : b8 Tryz.prog 190 a1D := j6 j4 (ss := []) trivial rfl rfl <| by
 intro (bs : Th (List Int)) (p : Th Int) ⟨(l : Th (List Pcl)), (i : Th Int), u⟩ K _ _ ho h
 obtain ⟨l, rfl⟩ := b6 l; obtain ⟨i, rfl⟩ := b6 i
 have hl := okB (ho.1 _ (.head _))
 have hz := a4s l i
 refine ⟨annL [(190, 3, ⟨Nat, [⟨.tmp 5 0, some 22, .pcl⟩], fun σ k => ((σ.t 10 (vI fun _ => (k : Int))).t 5 (vO 22 1)).row 22 1 .pcl (fun _ => J9 l i k), fun _ k _ => k ≤ l.length, fun _ k _ => l.length - k⟩)], noAnn, 20, ?_⟩
 cbv
 repeat' first | ((with_reducible refine fun (k : Nat) => ?_); cbv) | ((with_reducible intro _); cbv) | (with_reducible refine And.intro ?_ ?_)
 all_goals try ((first | (with_reducible refine LoopIn.mk ((0 : Nat)) ?_ ?_) | (with_reducible refine LoopBack.mk ((k + 1 : Nat)) ?_ ?_ ?_)) )
 all_goals try ((with_reducible show l8 _ _); cbv; (try simp only [and_true, true_and]))
 all_goals try (repeat' with_reducible refine And.intro ?_ ?_)
 all_goals first | (refine retK h ?_; clear h; simp only [fin0]) | (with_reducible refine Ob.mk ?_; clear h) | (clear h)
 all_goals (try simp only [eta0, RT.bytes] at *)
 all_goals grind [a3h, a4t, a4r, a5N, j3]
theorem b8g : b8 Tryz.prog 168 a1D := j6 j4 (ss := []) trivial rfl rfl <| by
 intro (bs : Th (List Int)) (p : Th Int) ⟨(l : Th (List Pcl)), (i : Th Int), u⟩ K _ _ ho h
 obtain ⟨l, rfl⟩ := b6 l; obtain ⟨i, rfl⟩ := b6 i
 have hl := okB (ho.1 _ (.head _))
 have hz := a4s l i
 refine ⟨annL [(168, 3, ⟨Nat, [⟨.tmp 5 0, some 8, .pcl⟩], fun σ k => (((σ.fg 8).t 6 (vI fun _ => (k : Int))).t 5 (vO 8 1)).row 8 1 .pcl (fun _ => J9 l i k), fun _ k _ => k ≤ l.length, fun _ k _ => l.length - k⟩)], noAnn, 20, ?_⟩
 cbv
 repeat' first | ((with_reducible refine fun (k : Nat) => ?_); cbv) | ((with_reducible intro _); cbv) | (with_reducible refine And.intro ?_ ?_)
 all_goals try ((first | (with_reducible refine LoopIn.mk ((0 : Nat)) ?_ ?_) | (with_reducible refine LoopBack.mk ((k + 1 : Nat)) ?_ ?_ ?_)) )
 all_goals try ((with_reducible show l8 _ _); cbv; (try simp only [and_true, true_and]))
 all_goals try (repeat' with_reducible refine And.intro ?_ ?_)
 all_goals first | (refine retK h ?_; clear h; simp only [fin0]) | (with_reducible refine Ob.mk ?_; clear h) | (clear h)
 all_goals (try simp only [eta0, RT.bytes] at *)
 all_goals grind [a3h, a4t, a4r, a5N, j3]
theorem okCloneP : b8 Tryz.prog 93 b9Z := j6 j4 (ss := []) trivial rfl rfl <| by
 intro (bs : Th (List Int)) (p : Th Int) ⟨(l : Th (List Pcl)), u⟩ K _ _ ho h
 obtain ⟨l, rfl⟩ := b6 l
 have hl := okB (ho.1 _ (.head _))
 refine ⟨noAnn, noAnn, 20, ?_⟩
 cbv
 repeat' first | ((with_reducible intro _); cbv) | (with_reducible refine And.intro ?_ ?_)
 all_goals first | (refine retK h ?_; clear h; simp only [fin0]) | (with_reducible refine Ob.mk ?_; clear h) | (clear h)
 all_goals (try simp only [eta0, RT.bytes] at *)
 all_goals grind
end Go.Proofs.YtkclfaldmghkeaaGreat
