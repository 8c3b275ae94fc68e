/-
  Contracts: n0, the table.
-/
import Derived.Test.YtkclfaldmghkeaaGreatFnD
import Derived.Test.YtkclfaldmghkeaaGreatM2
import Derived.Test.YtkclfaldmghkeaaGreatInsW
import Derived.Test.YtkclfaldmghkeaaGreatM1
set_option linter.unusedVariables false
set_option linter.unusedSimpArgs false
set_option maxRecDepth 100000
set_option maxHeartbeats 8000000
namespace Go.Proofs.YtkclfaldmghkeaaGreat
open Go.Sx Go.Proofs Go.Mo
noncomputable def a4k : Sx.Spec := ⟨false, true, [.map, .row .gst], [], fun _ _ ⟨m, g, _⟩ => .ret (vB fun _ => Y3 (m ()) (g ()), fun _ => 0)⟩
noncomputable def a1k : Sx.Spec := ⟨false, true, [.row .gst, .row .gst], [], fun _ _ ⟨a, b, _⟩ => .ret (vB fun _ => C8 (a ()) (b ()), fun _ => 0)⟩
noncomputable def b8X : Sx.Spec := ⟨false, true, [.map, .list .gst], [], fun _ _ ⟨m, l, _⟩ => .ret (vB fun _ => Q3 (m ()) (l ()), fun _ => 0)⟩
noncomputable def a8G : Sx.Spec := ⟨false, true, [.map, .list .gst], [], fun _ _ ⟨m, l, _⟩ => .ret (vB fun _ => A9 (m ()) (l ()), fun _ => 0)⟩
noncomputable def a2F : Sx.Spec := ⟨false, true, [.map, .arb, .int .i64], [], fun _ _ ⟨m, t, s, _⟩ => .ret (vB fun _ => z5 (m ()) (t ()) (s ()), fun _ => 0)⟩
noncomputable def I1 : Sx.Spec := ⟨false, true, [.arb, .int .i64], [], fun _ _ ⟨t, c, _⟩ => .ret (vI fun _ => n4 (t ()) (c ()), fun _ => 0)⟩
theorem b9D : b7 Tryz.prog 14 a4k := j8 j3 (ss := [(39, sIn), (44, a2A), (45, D0), (46, P1)]) ⟨okIn, b2N, U9, a1p, trivial⟩ rfl rfl <| by
 intro (bs : Th (List Int)) (p : Th Int) ⟨(m : Th PMap), (g : Th Gst), u⟩ K _ _ ho h
 obtain ⟨m, rfl⟩ := a8 m; obtain ⟨g, rfl⟩ := a8 g
 refine ⟨noAnn, noAnn, 20, ?_⟩
 cbv
 repeat' first | ((with_reducible intro _); cbv) | (with_reducible refine And.intro ?_ ?_)
 all_goals first | (refine retK h ?_; clear h; simp only [fin0]) | (with_reducible refine Ob.mk ?_; clear h) | (clear h)
 all_goals (try simp only [eta0, RT.bytes] at *)
 all_goals grind [Y3, inR]
theorem a9c : b7 Tryz.prog 185 a4k := j8 j3 (ss := [(110, sIn), (162, a2A), (112, D0), (212, P1)]) ⟨F9, a8U, K6, a4n, trivial⟩ rfl rfl <| by
 intro (bs : Th (List Int)) (p : Th Int) ⟨(m : Th PMap), (g : Th Gst), u⟩ K _ _ ho h
 obtain ⟨m, rfl⟩ := a8 m; obtain ⟨g, rfl⟩ := a8 g
 refine ⟨noAnn, noAnn, 20, ?_⟩
 cbv
 repeat' first | ((with_reducible intro _); cbv) | (with_reducible refine And.intro ?_ ?_)
 all_goals first | (refine retK h ?_; clear h; simp only [fin0]) | (with_reducible refine Ob.mk ?_; clear h) | (clear h)
 all_goals (try simp only [eta0, RT.bytes] at *)
 all_goals grind [Y3, inR]
theorem b9F : b7 Tryz.prog 146 a1k := j8 j3 (ss := []) trivial rfl rfl <| by
 intro (bs : Th (List Int)) (p : Th Int) ⟨(a : Th Gst), (b : Th Gst), u⟩ K _ _ ho h
 obtain ⟨a, rfl⟩ := a8 a; obtain ⟨b, rfl⟩ := a8 b
 refine ⟨noAnn, noAnn, 20, ?_⟩
 cbv
 repeat' first | ((with_reducible intro _); cbv) | (with_reducible refine And.intro ?_ ?_)
 all_goals first | (refine retK h ?_; clear h; simp only [fin0]) | (with_reducible refine Ob.mk ?_; clear h) | (clear h)
 all_goals (try simp only [eta0, RT.bytes] at *)
 all_goals grind [C8]
theorem b5j : b7 Tryz.prog 211 a1k := j8 j3 (ss := []) trivial rfl rfl <| by
 intro (bs : Th (List Int)) (p : Th Int) ⟨(a : Th Gst), (b : Th Gst), u⟩ K _ _ ho h
 obtain ⟨a, rfl⟩ := a8 a; obtain ⟨b, rfl⟩ := a8 b
 refine ⟨noAnn, noAnn, 20, ?_⟩
 cbv
 repeat' first | ((with_reducible intro _); cbv) | (with_reducible refine And.intro ?_ ?_)
 all_goals first | (refine retK h ?_; clear h; simp only [fin0]) | (with_reducible refine Ob.mk ?_; clear h) | (clear h)
 all_goals (try simp only [eta0, RT.bytes] at *)
 all_goals grind [C8]
theorem c4C : b7 Tryz.prog 83 b8X := j8 j3 (ss := [(14, a4k), (146, a1k), (47, B6)]) ⟨b9D, b9F, S3, trivial⟩ rfl rfl <| by
 intro (bs : Th (List Int)) (p : Th Int) ⟨(m : Th PMap), (l : Th (List Gst)), u⟩ K _ _ ho h
 obtain ⟨m, rfl⟩ := a8 m; obtain ⟨l, rfl⟩ := a8 l
 have hl := okL (ho.2.1 _ (.head _))
 refine ⟨annL [(83, 2, ⟨Nat, [], fun σ k => σ.t 9 (vI fun _ => (k : Int)), fun _ k _ => k ≤ l.length ∧ l8 k (a1v m l) = true, fun _ k _ => l.length - k⟩)], noAnn, 20, ?_⟩
 cbv
 repeat' first | ((with_reducible refine fun (k : Nat) => ?_); cbv) | ((with_reducible intro _); cbv) | (with_reducible refine And.intro ?_ ?_)
 all_goals try ((first | (with_reducible refine LoopIn.mk ((0 : Nat)) ?_ ?_) | (with_reducible refine LoopBack.mk ((k + 1 : Nat)) ?_ ?_ ?_)) )
 all_goals try ((with_reducible show m6 _ _); cbv; (try simp only [and_true, true_and]))
 all_goals try (repeat' with_reducible refine And.intro ?_ ?_)
 all_goals first | (refine retK h ?_; clear h; simp only [fin0]) | (with_reducible refine Ob.mk ?_; clear h) | (clear h)
 all_goals (try simp only [eta0, RT.bytes] at *)
 all_goals grind [j5, e8, b1B, b1A, a6Z, b5M, Q3, a1v, m8, m7]
theorem b1m : b7 Tryz.prog 182 a8G := j8 j3 (ss := [(185, a4k), (211, a1k)]) ⟨a9c, b5j, trivial⟩ rfl rfl <| by
 intro (bs : Th (List Int)) (p : Th Int) ⟨(m : Th PMap), (l : Th (List Gst)), u⟩ K _ _ ho h
 obtain ⟨m, rfl⟩ := a8 m; obtain ⟨l, rfl⟩ := a8 l
 have hl := okL (ho.2.1 _ (.head _))
 refine ⟨annL [(182, 4, ⟨Nat, [], fun σ k => σ.t 5 (vI fun _ => (k : Int)), fun _ k _ => k ≤ l.length ∧ l8 k (a1v m l) = true, fun _ k _ => l.length - k⟩)], noAnn, 20, ?_⟩
 cbv
 repeat' first | ((with_reducible refine fun (k : Nat) => ?_); cbv) | ((with_reducible intro _); cbv) | (with_reducible refine And.intro ?_ ?_)
 all_goals try ((first | (with_reducible refine LoopIn.mk ((0 : Nat)) ?_ ?_) | (with_reducible refine LoopBack.mk ((k + 1 : Nat)) ?_ ?_ ?_)) )
 all_goals try ((with_reducible show m6 _ _); cbv; (try simp only [and_true, true_and]))
 all_goals try (repeat' with_reducible refine And.intro ?_ ?_)
 all_goals first | (refine retK h ?_; clear h; simp only [fin0]) | (with_reducible refine Ob.mk ?_; clear h) | (clear h)
 all_goals (try simp only [eta0, RT.bytes] at *)
 all_goals grind [j5, e8, b1B, b1A, a6Z, b5M, a1v, m8, m7]
theorem c7E : b7 Tryz.prog 29 a2F := j8 j3 (ss := [(47, B6), (39, sIn)]) ⟨S3, okIn, trivial⟩ rfl rfl <| by
 intro (bs : Th (List Int)) (p : Th Int) ⟨(m : Th PMap), (t : Th Arb), (s : Th Int), u⟩ K _ _ ho h
 obtain ⟨m, rfl⟩ := a8 m; obtain ⟨t, rfl⟩ := a8 t; obtain ⟨s, rfl⟩ := a8 s
 have hA := fun (hh : z5 m t s = true) (k : Nat) => @b0k m t s k hh
 have hl := okL (ho.2.1 _ (.head _))
 refine ⟨annL [(29, 4, ⟨Nat, [], fun σ k => σ.t 36 (vI fun _ => (k : Int)), fun _ k _ => k ≤ t.servers.length ∧ U2 m t s = true ∧ l8 k (a2p t s) = true, fun _ k _ => t.servers.length - k⟩)], noAnn, 20, ?_⟩
 cbv
 repeat' first | ((with_reducible refine fun (k : Nat) => ?_); cbv) | ((with_reducible intro _); cbv) | (with_reducible refine And.intro ?_ ?_)
 all_goals try ((first | (with_reducible refine LoopIn.mk ((0 : Nat)) ?_ ?_) | (with_reducible refine LoopBack.mk ((k + 1 : Nat)) ?_ ?_ ?_)) )
 all_goals try ((with_reducible show m6 _ _); cbv; (try simp only [and_true, true_and]))
 all_goals try (repeat' with_reducible refine And.intro ?_ ?_)
 all_goals first | (refine retK h ?_; clear h; simp only [fin0]) | (with_reducible refine Ob.mk ?_; clear h) | (clear h)
 all_goals (try simp only [eta0, RT.bytes] at *)
 all_goals grind [j5, e8, c0G, c0H, z5, U2, a2p, m8, m7, inR]
theorem a2R : b7 Tryz.prog 73 a2F := j8 j3 (ss := [(72, B6), (110, sIn)]) ⟨E5, F9, trivial⟩ rfl rfl <| by
 intro (bs : Th (List Int)) (p : Th Int) ⟨(m : Th PMap), (t : Th Arb), (s : Th Int), u⟩ K _ _ ho h
 obtain ⟨m, rfl⟩ := a8 m; obtain ⟨t, rfl⟩ := a8 t; obtain ⟨s, rfl⟩ := a8 s
 have hA := fun (hh : z5 m t s = true) (k : Nat) => @b0k m t s k hh
 have hl := okL (ho.2.1 _ (.head _))
 refine ⟨annL [(73, 4, ⟨Nat, [], fun σ k => σ.t 7 (vI fun _ => (k : Int)), fun _ k _ => k ≤ t.servers.length ∧ U2 m t s = true ∧ l8 k (a2p t s) = true, fun _ k _ => t.servers.length - k⟩)], noAnn, 20, ?_⟩
 cbv
 repeat' first | ((with_reducible refine fun (k : Nat) => ?_); cbv) | ((with_reducible intro _); cbv) | (with_reducible refine And.intro ?_ ?_)
 all_goals try ((first | (with_reducible refine LoopIn.mk ((0 : Nat)) ?_ ?_) | (with_reducible refine LoopBack.mk ((k + 1 : Nat)) ?_ ?_ ?_)) )
 all_goals try ((with_reducible show m6 _ _); cbv; (try simp only [and_true, true_and]))
 all_goals try (repeat' with_reducible refine And.intro ?_ ?_)
 all_goals first | (refine retK h ?_; clear h; simp only [fin0]) | (with_reducible refine Ob.mk ?_; clear h) | (clear h)
 all_goals (try simp only [eta0, RT.bytes] at *)
 all_goals grind (splits := 30) [j5, e8, c0G, a7h, c0H, z5, U2, a2p, m8, m7, inR]
theorem a2S : b7 Tryz.prog 157 I1 := j8 j3 (ss := [(39, sIn)]) ⟨okIn, trivial⟩ rfl rfl <| by
 intro (bs : Th (List Int)) (p : Th Int) ⟨(t : Th Arb), (c : Th Int), u⟩ K _ _ ho h
 obtain ⟨t, rfl⟩ := a8 t; obtain ⟨c, rfl⟩ := a8 c
 have hl := okL (ho.1 _ (.head _))
 refine ⟨noAnn, noAnn, 20, ?_⟩
 cbv
 repeat' first | ((with_reducible intro _); cbv) | (with_reducible refine And.intro ?_ ?_)
 all_goals first | (refine retK h ?_; clear h; simp only [fin0]) | (with_reducible refine Ob.mk ?_; clear h) | (clear h)
 all_goals (try simp only [eta0, RT.bytes] at *)
 all_goals grind [n4, inR, e8]
theorem S1 : b7 Tryz.prog 140 I1 := j8 j3 (ss := []) trivial rfl rfl <| by
 intro (bs : Th (List Int)) (p : Th Int) ⟨(t : Th Arb), (c : Th Int), u⟩ K _ _ ho h
 obtain ⟨t, rfl⟩ := a8 t; obtain ⟨c, rfl⟩ := a8 c
 have hl := okL (ho.1 _ (.head _))
 refine ⟨noAnn, noAnn, 20, ?_⟩
 cbv
 repeat' first | ((with_reducible intro _); cbv) | (with_reducible refine And.intro ?_ ?_)
 all_goals first | (refine retK h ?_; clear h; simp only [fin0]) | (with_reducible refine Ob.mk ?_; clear h) | (clear h)
 all_goals (try simp only [eta0, RT.bytes] at *)
 all_goals grind [n4, inR, e8]
theorem b9E : b7 Tryz.prog 40 a1N := j8 j3 (ss := [(88, a7u), (80, a4X), (39, sIn), (45, D0), (85, E2), (89, a1M)]) ⟨b4Y, a6O, okIn, U9, Q5, b5h, trivial⟩ rfl rfl <| by
 intro (bs : Th (List Int)) (p : Th Int) ⟨(m : Th PMap), (c : Th Cll), u⟩ K _ _ ho h
 obtain ⟨m, rfl⟩ := a8 m; obtain ⟨c, rfl⟩ := a8 c
 obtain ⟨hw, hou, hoi, hn, hi, _, _⟩ := b1o ho.2.1
 have hi := r6 (m := m)
 refine ⟨annL [(40, 4, ⟨Nat, [], fun σ k => (σ.t 50 (vI fun _ => (k : Int))), fun _ k _ => k ≤ c.wlks.length ∧ W6 m c = true ∧ l8 k (a2k m c) = true, fun _ k _ => c.wlks.length - k⟩),
  (40, 10, ⟨Nat × Unit, [], fun σ q => (σ.t 62 (vI fun _ => (q.1 : Int))), fun _ q _ => q.1 ≤ 2 ∧ W6 m c = true ∧ l8 c.wlks.length (a2k m c) = true ∧ l8 q.1 (I6 m c) = true, fun _ q _ => 2 - q.1⟩),
  (40, 16, ⟨Nat, [], fun σ k => σ.t 118 (vI fun _ => (k : Int)), fun σ k _ => b8I m c (σ.nat 62) k, fun σ k _ => (nth .pcls c.outs (σ.nat 62)).length - k⟩)], noAnn, 20, ?_⟩
 cbv
 repeat' first | ((with_reducible refine fun (k : Nat) => ?_); cbv) | ((with_reducible refine fun (q : Nat × Unit) => ?_); obtain ⟨s, _⟩ := q; cbv) | ((with_reducible intro _); cbv) | (with_reducible refine And.intro ?_ ?_)
 all_goals try ((first | (with_reducible refine LoopIn.mk ((0 : Nat)) ?_ ?_) | (with_reducible refine LoopIn.mk (((0, ()) : Nat × Unit)) ?_ ?_) | (with_reducible refine LoopBack.mk ((k + 1 : Nat)) ?_ ?_ ?_) | (with_reducible refine LoopBack.mk (((s + 1, ()) : Nat × Unit)) ?_ ?_ ?_)) )
 all_goals try ((with_reducible show m6 _ _); cbv; (try simp only [and_true, true_and]))
 all_goals (try simp only [St.nat, St.int, Tr.get, Nat.reduceMod, Nat.reduceDiv, Nat.one_ne_zero, if_false, if_true, ↓reduceIte] at *)
 all_goals try (repeat' with_reducible refine And.intro ?_ ?_)
 all_goals first | (refine retK h ?_; clear h; simp only [fin0]) | (with_reducible refine Ob.mk ?_; clear h) | (clear h)
 all_goals (try simp only [eta0, RT.bytes] at *)
 all_goals grind [b8I, inR, m8, m7, a2k, R6, a0D, I6, W6, q9, b0a, a9Z, a7Q, j5, e8]
end Go.Proofs.YtkclfaldmghkeaaGreat
