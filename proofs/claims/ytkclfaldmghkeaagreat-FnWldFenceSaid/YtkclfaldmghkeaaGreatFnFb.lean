/-
  Contracts: m9, the table.
-/
import Derived.Test.YtkclfaldmghkeaaGreatFnD
import Derived.Test.YtkclfaldmghkeaaGreatM2
import Derived.Test.YtkclfaldmghkeaaGreatInsW
import Derived.Test.YtkclfaldmghkeaaGreatM1
set_option linter.unusedVariables false
set_option linter.unusedSimpArgs false
set_option maxRecDepth 100000
set_option maxHeartbeats 8000000
namespace Go.Proofs.YtkclfaldmghkeaaGreat
open Go.Sx Go.Proofs Go.Mo
noncomputable def a2Z : Sx.Spec := ⟨false, true, [.map, .row .gst], [], fun _ _ ⟨m, g, _⟩ => .ret (vB fun _ => S4 (m ()) (g ()), fun _ => 0)⟩
noncomputable def a1G : Sx.Spec := ⟨false, true, [.row .gst, .row .gst], [], fun _ _ ⟨a, b, _⟩ => .ret (vB fun _ => D1 (a ()) (b ()), fun _ => 0)⟩
noncomputable def b9T : Sx.Spec := ⟨false, true, [.map, .list .gst], [], fun _ _ ⟨m, l, _⟩ => .ret (vB fun _ => R7 (m ()) (l ()), fun _ => 0)⟩
noncomputable def a9j : Sx.Spec := ⟨false, true, [.map, .list .gst], [], fun _ _ ⟨m, l, _⟩ => .ret (vB fun _ => B6 (m ()) (l ()), fun _ => 0)⟩
noncomputable def a3b : Sx.Spec := ⟨false, true, [.map, .arb, .int .i64], [], fun _ _ ⟨m, t, s, _⟩ => .ret (vB fun _ => A4 (m ()) (t ()) (s ()), fun _ => 0)⟩
noncomputable def I8 : Sx.Spec := ⟨false, true, [.arb, .int .i64], [], fun _ _ ⟨t, c, _⟩ => .ret (vI fun _ => n8 (t ()) (c ()), fun _ => 0)⟩
theorem b3J : b8 Tryz.prog 14 a2Z := j6 j4 (ss := [(39, sIn), (44, a2X), (45, D3), (46, Q1)]) ⟨okIn, b3C, W6, a1M, trivial⟩ rfl rfl <| by
 intro (bs : Th (List Int)) (p : Th Int) ⟨(m : Th PMap), (g : Th Gst), u⟩ K _ _ ho h
 obtain ⟨m, rfl⟩ := b6 m; obtain ⟨g, rfl⟩ := b6 g
 refine ⟨noAnn, noAnn, 20, ?_⟩
 cbv
 repeat' first | ((with_reducible intro _); cbv) | (with_reducible refine And.intro ?_ ?_)
 all_goals first | (refine retK h ?_; clear h; simp only [fin0]) | (with_reducible refine Ob.mk ?_; clear h) | (clear h)
 all_goals (try simp only [eta0, RT.bytes] at *)
 all_goals grind [S4, inR]
theorem a9D : b8 Tryz.prog 185 a2Z := j6 j4 (ss := [(110, sIn), (162, a2X), (112, D3), (212, Q1)]) ⟨G8, a9x, L5, a4M, trivial⟩ rfl rfl <| by
 intro (bs : Th (List Int)) (p : Th Int) ⟨(m : Th PMap), (g : Th Gst), u⟩ K _ _ ho h
 obtain ⟨m, rfl⟩ := b6 m; obtain ⟨g, rfl⟩ := b6 g
 refine ⟨noAnn, noAnn, 20, ?_⟩
 cbv
 repeat' first | ((with_reducible intro _); cbv) | (with_reducible refine And.intro ?_ ?_)
 all_goals first | (refine retK h ?_; clear h; simp only [fin0]) | (with_reducible refine Ob.mk ?_; clear h) | (clear h)
 all_goals (try simp only [eta0, RT.bytes] at *)
 all_goals grind [S4, inR]
theorem c0z : b8 Tryz.prog 146 a1G := j6 j4 (ss := []) trivial rfl rfl <| by
 intro (bs : Th (List Int)) (p : Th Int) ⟨(a : Th Gst), (b : Th Gst), u⟩ K _ _ ho h
 obtain ⟨a, rfl⟩ := b6 a; obtain ⟨b, rfl⟩ := b6 b
 refine ⟨noAnn, noAnn, 20, ?_⟩
 cbv
 repeat' first | ((with_reducible intro _); cbv) | (with_reducible refine And.intro ?_ ?_)
 all_goals first | (refine retK h ?_; clear h; simp only [fin0]) | (with_reducible refine Ob.mk ?_; clear h) | (clear h)
 all_goals (try simp only [eta0, RT.bytes] at *)
 all_goals grind [D1]
theorem b5Z : b8 Tryz.prog 211 a1G := j6 j4 (ss := []) trivial rfl rfl <| by
 intro (bs : Th (List Int)) (p : Th Int) ⟨(a : Th Gst), (b : Th Gst), u⟩ K _ _ ho h
 obtain ⟨a, rfl⟩ := b6 a; obtain ⟨b, rfl⟩ := b6 b
 refine ⟨noAnn, noAnn, 20, ?_⟩
 cbv
 repeat' first | ((with_reducible intro _); cbv) | (with_reducible refine And.intro ?_ ?_)
 all_goals first | (refine retK h ?_; clear h; simp only [fin0]) | (with_reducible refine Ob.mk ?_; clear h) | (clear h)
 all_goals (try simp only [eta0, RT.bytes] at *)
 all_goals grind [D1]
theorem okGstsOk : b8 Tryz.prog 83 b9T := j6 j4 (ss := [(14, a2Z), (146, a1G), (47, B8)]) ⟨b3J, c0z, Q8, trivial⟩ rfl rfl <| by
 intro (bs : Th (List Int)) (p : Th Int) ⟨(m : Th PMap), (l : Th (List Gst)), u⟩ K _ _ ho h
 obtain ⟨m, rfl⟩ := b6 m; obtain ⟨l, rfl⟩ := b6 l
 have hl := okL (ho.2.1 _ (.head _))
 refine ⟨annL [(83, 2, ⟨Nat, [], fun σ k => σ.t 9 (vI fun _ => (k : Int)), fun _ k _ => k ≤ l.length ∧ m4 k (a1T m l) = true, fun _ k _ => l.length - k⟩)], noAnn, 20, ?_⟩
 cbv
 repeat' first | ((with_reducible refine fun (k : Nat) => ?_); cbv) | ((with_reducible intro _); cbv) | (with_reducible refine And.intro ?_ ?_)
 all_goals try ((first | (with_reducible refine LoopIn.mk ((0 : Nat)) ?_ ?_) | (with_reducible refine LoopBack.mk ((k + 1 : Nat)) ?_ ?_ ?_)) )
 all_goals try ((with_reducible show l8 _ _); cbv; (try simp only [and_true, true_and]))
 all_goals try (repeat' with_reducible refine And.intro ?_ ?_)
 all_goals first | (refine retK h ?_; clear h; simp only [fin0]) | (with_reducible refine Ob.mk ?_; clear h) | (clear h)
 all_goals (try simp only [eta0, RT.bytes] at *)
 all_goals grind [j3, b9, b2j, b2i, a7A, b6F, R7, a1T, n4, n3]
theorem b1V : b8 Tryz.prog 182 a9j := j6 j4 (ss := [(185, a2Z), (211, a1G)]) ⟨a9D, b5Z, trivial⟩ rfl rfl <| by
 intro (bs : Th (List Int)) (p : Th Int) ⟨(m : Th PMap), (l : Th (List Gst)), u⟩ K _ _ ho h
 obtain ⟨m, rfl⟩ := b6 m; obtain ⟨l, rfl⟩ := b6 l
 have hl := okL (ho.2.1 _ (.head _))
 refine ⟨annL [(182, 4, ⟨Nat, [], fun σ k => σ.t 5 (vI fun _ => (k : Int)), fun _ k _ => k ≤ l.length ∧ m4 k (a1T m l) = true, fun _ k _ => l.length - k⟩)], noAnn, 20, ?_⟩
 cbv
 repeat' first | ((with_reducible refine fun (k : Nat) => ?_); cbv) | ((with_reducible intro _); cbv) | (with_reducible refine And.intro ?_ ?_)
 all_goals try ((first | (with_reducible refine LoopIn.mk ((0 : Nat)) ?_ ?_) | (with_reducible refine LoopBack.mk ((k + 1 : Nat)) ?_ ?_ ?_)) )
 all_goals try ((with_reducible show l8 _ _); cbv; (try simp only [and_true, true_and]))
 all_goals try (repeat' with_reducible refine And.intro ?_ ?_)
 all_goals first | (refine retK h ?_; clear h; simp only [fin0]) | (with_reducible refine Ob.mk ?_; clear h) | (clear h)
 all_goals (try simp only [eta0, RT.bytes] at *)
 all_goals grind [j3, b9, b2j, b2i, a7A, b6F, a1T, n4, n3]
theorem okArbOk : b8 Tryz.prog 29 a3b := j6 j4 (ss := [(47, B8), (39, sIn)]) ⟨Q8, okIn, trivial⟩ rfl rfl <| by
 intro (bs : Th (List Int)) (p : Th Int) ⟨(m : Th PMap), (t : Th Arb), (s : Th Int), u⟩ K _ _ ho h
 obtain ⟨m, rfl⟩ := b6 m; obtain ⟨t, rfl⟩ := b6 t; obtain ⟨s, rfl⟩ := b6 s
 have hA := fun (hh : A4 m t s = true) (k : Nat) => @b0O m t s k hh
 have hl := okL (ho.2.1 _ (.head _))
 refine ⟨annL [(29, 4, ⟨Nat, [], fun σ k => σ.t 36 (vI fun _ => (k : Int)), fun _ k _ => k ≤ t.servers.length ∧ V7 m t s = true ∧ m4 k (a2M t s) = true, fun _ k _ => t.servers.length - k⟩)], noAnn, 20, ?_⟩
 cbv
 repeat' first | ((with_reducible refine fun (k : Nat) => ?_); cbv) | ((with_reducible intro _); cbv) | (with_reducible refine And.intro ?_ ?_)
 all_goals try ((first | (with_reducible refine LoopIn.mk ((0 : Nat)) ?_ ?_) | (with_reducible refine LoopBack.mk ((k + 1 : Nat)) ?_ ?_ ?_)) )
 all_goals try ((with_reducible show l8 _ _); cbv; (try simp only [and_true, true_and]))
 all_goals try (repeat' with_reducible refine And.intro ?_ ?_)
 all_goals first | (refine retK h ?_; clear h; simp only [fin0]) | (with_reducible refine Ob.mk ?_; clear h) | (clear h)
 all_goals (try simp only [eta0, RT.bytes] at *)
 all_goals grind [j3, b9, c1C, c1D, A4, V7, a2M, n4, n3, inR]
theorem a3n : b8 Tryz.prog 73 a3b := j6 j4 (ss := [(72, B8), (110, sIn)]) ⟨F3, G8, trivial⟩ rfl rfl <| by
 intro (bs : Th (List Int)) (p : Th Int) ⟨(m : Th PMap), (t : Th Arb), (s : Th Int), u⟩ K _ _ ho h
 obtain ⟨m, rfl⟩ := b6 m; obtain ⟨t, rfl⟩ := b6 t; obtain ⟨s, rfl⟩ := b6 s
 have hA := fun (hh : A4 m t s = true) (k : Nat) => @b0O m t s k hh
 have hl := okL (ho.2.1 _ (.head _))
 refine ⟨annL [(73, 4, ⟨Nat, [], fun σ k => σ.t 7 (vI fun _ => (k : Int)), fun _ k _ => k ≤ t.servers.length ∧ V7 m t s = true ∧ m4 k (a2M t s) = true, fun _ k _ => t.servers.length - k⟩)], noAnn, 20, ?_⟩
 cbv
 repeat' first | ((with_reducible refine fun (k : Nat) => ?_); cbv) | ((with_reducible intro _); cbv) | (with_reducible refine And.intro ?_ ?_)
 all_goals try ((first | (with_reducible refine LoopIn.mk ((0 : Nat)) ?_ ?_) | (with_reducible refine LoopBack.mk ((k + 1 : Nat)) ?_ ?_ ?_)) )
 all_goals try ((with_reducible show l8 _ _); cbv; (try simp only [and_true, true_and]))
 all_goals try (repeat' with_reducible refine And.intro ?_ ?_)
 all_goals first | (refine retK h ?_; clear h; simp only [fin0]) | (with_reducible refine Ob.mk ?_; clear h) | (clear h)
 all_goals (try simp only [eta0, RT.bytes] at *)
 all_goals grind (splits := 30) [j3, b9, c1C, a7I, c1D, A4, V7, a2M, n4, n3, inR]
theorem a3p : b8 Tryz.prog 157 I8 := j6 j4 (ss := [(39, sIn)]) ⟨okIn, trivial⟩ rfl rfl <| by
 intro (bs : Th (List Int)) (p : Th Int) ⟨(t : Th Arb), (c : Th Int), u⟩ K _ _ ho h
 obtain ⟨t, rfl⟩ := b6 t; obtain ⟨c, rfl⟩ := b6 c
 have hl := okL (ho.1 _ (.head _))
 refine ⟨noAnn, noAnn, 20, ?_⟩
 cbv
 repeat' first | ((with_reducible intro _); cbv) | (with_reducible refine And.intro ?_ ?_)
 all_goals first | (refine retK h ?_; clear h; simp only [fin0]) | (with_reducible refine Ob.mk ?_; clear h) | (clear h)
 all_goals (try simp only [eta0, RT.bytes] at *)
 all_goals grind [n8, inR, b9]
theorem U2 : b8 Tryz.prog 140 I8 := j6 j4 (ss := []) trivial rfl rfl <| by
 intro (bs : Th (List Int)) (p : Th Int) ⟨(t : Th Arb), (c : Th Int), u⟩ K _ _ ho h
 obtain ⟨t, rfl⟩ := b6 t; obtain ⟨c, rfl⟩ := b6 c
 have hl := okL (ho.1 _ (.head _))
 refine ⟨noAnn, noAnn, 20, ?_⟩
 cbv
 repeat' first | ((with_reducible intro _); cbv) | (with_reducible refine And.intro ?_ ?_)
 all_goals first | (refine retK h ?_; clear h; simp only [fin0]) | (with_reducible refine Ob.mk ?_; clear h) | (clear h)
 all_goals (try simp only [eta0, RT.bytes] at *)
 all_goals grind [n8, inR, b9]
theorem b3L : b8 Tryz.prog 40 a1n := j6 j4 (ss := [(88, a7V), (80, a5z), (39, sIn), (45, D3), (85, E7), (89, a2k)]) ⟨b5O, a7q, okIn, W6, S1, b5X, trivial⟩ rfl rfl <| by
 intro (bs : Th (List Int)) (p : Th Int) ⟨(m : Th PMap), (c : Th Cll), u⟩ K _ _ ho h
 obtain ⟨m, rfl⟩ := b6 m; obtain ⟨c, rfl⟩ := b6 c
 obtain ⟨hw, hou, hoi, hn, hi, _, _⟩ := a9J ho.2.1
 have hi := p5 (m := m)
 refine ⟨annL [(40, 4, ⟨Nat, [], fun σ k => (σ.t 50 (vI fun _ => (k : Int))), fun _ k _ => k ≤ c.wlks.length ∧ Y2 m c = true ∧ m4 k (a2H m c) = true, fun _ k _ => c.wlks.length - k⟩),
  (40, 10, ⟨Nat × Unit, [], fun σ q => (σ.t 62 (vI fun _ => (q.1 : Int))), fun _ q _ => q.1 ≤ 2 ∧ Y2 m c = true ∧ m4 c.wlks.length (a2H m c) = true ∧ m4 q.1 (J4 m c) = true, fun _ q _ => 2 - q.1⟩),
  (40, 16, ⟨Nat, [], fun σ k => σ.t 118 (vI fun _ => (k : Int)), fun σ k _ => b9F m c (σ.nat 62) k, fun σ k _ => (nth .pcls c.outs (σ.nat 62)).length - k⟩)], noAnn, 20, ?_⟩
 cbv
 repeat' first | ((with_reducible refine fun (k : Nat) => ?_); cbv) | ((with_reducible refine fun (q : Nat × Unit) => ?_); obtain ⟨s, _⟩ := q; cbv) | ((with_reducible intro _); cbv) | (with_reducible refine And.intro ?_ ?_)
 all_goals try ((first | (with_reducible refine LoopIn.mk ((0 : Nat)) ?_ ?_) | (with_reducible refine LoopIn.mk (((0, ()) : Nat × Unit)) ?_ ?_) | (with_reducible refine LoopBack.mk ((k + 1 : Nat)) ?_ ?_ ?_) | (with_reducible refine LoopBack.mk (((s + 1, ()) : Nat × Unit)) ?_ ?_ ?_)) )
 all_goals try ((with_reducible show l8 _ _); cbv; (try simp only [and_true, true_and]))
 all_goals (try simp only [St.nat, St.int, Tr.get, Nat.reduceMod, Nat.reduceDiv, Nat.one_ne_zero, if_false, if_true, ↓reduceIte] at *)
 all_goals try (repeat' with_reducible refine And.intro ?_ ?_)
 all_goals first | (refine retK h ?_; clear h; simp only [fin0]) | (with_reducible refine Ob.mk ?_; clear h) | (clear h)
 all_goals (try simp only [eta0, RT.bytes] at *)
 all_goals grind [b9F, inR, n4, n3, a2H, T7, a0Y, J4, Y2, r7, b0F, b0E, a8r, j3, b9]
end Go.Proofs.YtkclfaldmghkeaaGreat
