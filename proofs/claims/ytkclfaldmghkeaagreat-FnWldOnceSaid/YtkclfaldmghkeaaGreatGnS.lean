/-
  Contracts: lists of servers' things, servers, worlds, the one world compared.
-/
import Derived.Test.YtkclfaldmghkeaaGreatGnD
import Derived.Test.YtkclfaldmghkeaaGreatFoHs
import Derived.Test.YtkclfaldmghkeaaGreatM2
import Derived.Test.YtkclfaldmghkeaaGreatGsT
import Derived.Test.YtkclfaldmghkeaaGreatFnIc
import Derived.Test.YtkclfaldmghkeaaGreatGrT
import Derived.Test.YtkclfaldmghkeaaGreatM3
import Derived.Test.YtkclfaldmghkeaaGreatGnC
set_option linter.unusedVariables false
set_option linter.unusedSimpArgs false
set_option maxRecDepth 100000
set_option maxHeartbeats 8000000
namespace Go.Mo
open Go.Sx
theorem c7f {a b : Srv} : a = b ↔ a.up = b.up ∧ a.holds = b.holds ∧ a.n0 = b.n0 := by
 cases a; cases b; simp
end Go.Mo
namespace Go.Proofs.YtkclfaldmghkeaaGreat
open Go.Sx Go.Proofs Go.Mo
def b2n (m : PMap) (c : Int) (l : List Wlk) : Sto := if q9 m (V7 m c l) = true then K3 m c l else W8
noncomputable def b9d : Sx.Spec := ⟨false, true, [.map, .int .i64, .list .wlk], [nCll], fun _ _ ⟨m, c, l, _⟩ => .ret (oCll fun _ => V7 (m ()) (c ()) (l ()), fun _ => 0)⟩
noncomputable def b4n : Sx.Spec := ⟨false, true, [.map, .int .i64, .list .wlk], [nSto], fun _ _ ⟨m, c, l, _⟩ => .ret (oSto fun _ => b2n (m ()) (c ()) (l ()), fun _ => 0)⟩
noncomputable def b9h : Sx.Spec := ⟨false, true, [.map], [[some .int, some .int]], fun _ _ ⟨m, _⟩ => .ret (oArb fun _ => a2h (m ()), fun _ => 0)⟩
noncomputable def b8V : Sx.Spec := ⟨false, true, [.map, .list .wlk], [[some .row]], fun _ _ ⟨m, l, _⟩ => .ret (oAs [.list .row fun _ => a6Y (m ()) (l ())], fun _ => 0)⟩
noncomputable def a7Z : Sx.Spec := ⟨false, true, [], [[none, some .hld, some .gst]], fun _ _ _ => .ret (oSrv fun _ => ⟨true, [], []⟩, fun _ => 0)⟩
noncomputable def b8N : Sx.Spec := ⟨false, true, [.map, .list .wlk, .int .i64], [[none, none, some .srv, some .sto, some .int, some .int, some .row, some .msg, some .note]], fun _ _ ⟨m, l, v, _⟩ => .ret (oWld fun _ => a4c (m ()) (l ()) (v ()), fun _ => 0)⟩
theorem b4D {α : Type} (x : α) (k : Nat) : List.replicate (k + 1) x = List.replicate k x ++ [x] := by
 rw [List.replicate_succ', ]
theorem c3S (m : PMap) (l : List Wlk) (k : Nat) : (List.range (k + 1)).map (fun (i : Nat) => K3 m (i : Int) l) = (List.range k).map (fun (i : Nat) => K3 m (i : Int) l) ++ [K3 m (k : Int) l] := by
 rw [List.range_succ, List.map_append]
 rfl
theorem c3Q (m : PMap) {l : List Wlk} {k : Nat} (h : k < l.length) : (l.take (k + 1)).map (Y0 m) = (l.take k).map (Y0 m) ++ [Y0 m (nth .wlk l k)] := by
 have h1 : l.take (k + 1) = l.take k ++ [nth .wlk l k] := H3 .wlk h
 rw [h1, List.map_append]
 rfl
theorem c4r : b7 Tryz.prog 109 a7Z := j8 j3 (ss := []) trivial rfl rfl <| by
 intro (bs : Th (List Int)) (p : Th Int) u K _ _ ho h
 refine ⟨noAnn, noAnn, 20, ?_⟩
 cbv
 repeat' first | ((with_reducible intro _); cbv) | (with_reducible refine And.intro ?_ ?_)
 all_goals first | (refine retK h ?_; clear h; simp only [fin0]) | (with_reducible refine Ob.mk ?_; clear h) | (clear h)
 all_goals (try simp only [eta0, RT.bytes] at *)
theorem c1F : b7 Tryz.prog 137 a7Z := j8 j3 (ss := []) trivial rfl rfl <| by
 intro (bs : Th (List Int)) (p : Th Int) u K _ _ ho h
 refine ⟨noAnn, noAnn, 20, ?_⟩
 cbv
 repeat' first | ((with_reducible intro _); cbv) | (with_reducible refine And.intro ?_ ?_)
 all_goals first | (refine retK h ?_; clear h; simp only [fin0]) | (with_reducible refine Ob.mk ?_; clear h) | (clear h)
 all_goals (try simp only [eta0, RT.bytes] at *)
theorem c1O : b7 Tryz.prog 135 b9h := j8 j3 (ss := [(72, B6)]) ⟨E5, trivial⟩ rfl rfl <| by
 intro (bs : Th (List Int)) (p : Th Int) ⟨(m : Th PMap), u⟩ K _ _ ho h
 obtain ⟨m, rfl⟩ := a8 m
 have hm := @r6 m
 refine ⟨annL [(135, 5, ⟨Nat, [⟨.cell 4 0, some 500, .int⟩, ⟨.cell 4 1, some 501, .int⟩], fun σ k => ((((((σ.fgs [500, 501]).t 4 (vI fun _ => (k : Int))).E7 4 0 (.own 500 1)).E7 4 1 (.own 501 1)).row 500 1 .int (fun _ => List.replicate k (-1 : Int))).row 501 1 .int (fun _ => List.replicate k (0 : Int))), fun _ k _ => (k : Int) ≤ m.cells ∧ n8 m = true, fun _ k _ => m.cells.toNat - k⟩)], noAnn, 20, ?_⟩
 cbv
 repeat' first | ((with_reducible refine fun (k : Nat) => ?_); cbv) | ((with_reducible intro _); cbv) | (with_reducible refine And.intro ?_ ?_)
 all_goals try ((first | (with_reducible refine LoopIn.mk ((0 : Nat)) ?_ ?_) | (with_reducible refine LoopBack.mk ((k + 1 : Nat)) ?_ ?_ ?_)) )
 all_goals try ((with_reducible show m6 _ _); cbv; (try simp only [and_true, true_and]))
 all_goals try (repeat' with_reducible refine And.intro ?_ ?_)
 all_goals first | (refine retK h ?_; clear h; simp only [fin0]) | (with_reducible refine Ob.mk ?_; clear h) | (clear h)
 all_goals (try simp only [eta0, RT.bytes] at *)
 all_goals grind [j5, b4D, a2h]
theorem c1K : b7 Tryz.prog 136 b8V := j8 j3 (ss := [(72, B6), (111, W9), (112, D0)]) ⟨E5, Z1, K6, trivial⟩ rfl rfl <| by
 intro (bs : Th (List Int)) (p : Th Int) ⟨(m : Th PMap), (l : Th (List Wlk)), u⟩ K _ _ ho h
 obtain ⟨m, rfl⟩ := a8 m; obtain ⟨l, rfl⟩ := a8 l
 have hl := okB (ho.2.1 _ (.head _))
 have hf := @b8u m l
 refine ⟨annL [(136, 5, ⟨Nat, [⟨.cell 6 0, some 500, .row⟩], fun σ k => (((σ.fgs [500]).t 6 (vI fun _ => (k : Int))).E7 6 0 (.own 500 1)).row 500 1 .row (fun _ => (l.take k).map (Y0 m)), fun _ k _ => k ≤ l.length, fun _ k _ => l.length - k⟩)], noAnn, 20, ?_⟩
 cbv
 repeat' first | ((with_reducible refine fun (k : Nat) => ?_); cbv) | ((with_reducible intro _); cbv) | (with_reducible refine And.intro ?_ ?_)
 all_goals try ((first | (with_reducible refine LoopIn.mk ((0 : Nat)) ?_ ?_) | (with_reducible refine LoopBack.mk ((k + 1 : Nat)) ?_ ?_ ?_)) )
 all_goals try ((with_reducible show m6 _ _); cbv; (try simp only [and_true, true_and]))
 all_goals try (repeat' with_reducible refine And.intro ?_ ?_)
 all_goals first | (refine retK h ?_; clear h; simp only [fin0]) | (with_reducible refine Ob.mk ?_; clear h) | (clear h)
 all_goals (try simp only [eta0, RT.bytes] at *)
 all_goals grind [j5, c3Q, a6Y, Y0, List.length_map, List.length_take]
theorem c1N : b7 Tryz.prog 180 b9d := j8 j3 (ss := [(72, B6), (110, sIn), (111, W9), (112, D0)]) ⟨E5, F9, Z1, K6, trivial⟩ rfl rfl <| by
 intro (bs : Th (List Int)) (p : Th Int) ⟨(m : Th PMap), (c : Th Int), (l : Th (List Wlk)), u⟩ K _ _ ho h
 obtain ⟨m, rfl⟩ := a8 m; obtain ⟨c, rfl⟩ := a8 c; obtain ⟨l, rfl⟩ := a8 l
 have hl := okB (ho.2.2.1 _ (.head _))
 have hn := b7J m c l
 have hm := @r6 m
 refine ⟨annL [(180, 5, ⟨Nat, [⟨.cell 8 1, some 500, .wlk⟩], fun σ k => (((σ.fgs [29, 30, 500]).t 8 (vI fun _ => (k : Int))).E7 8 1 (.own 500 1)).row 500 1 .wlk (fun _ => J2 m c l k), fun _ k _ => k ≤ l.length, fun _ k _ => l.length - k⟩)], noAnn, 20, ?_⟩
 cbv
 repeat' first | ((with_reducible refine fun (k : Nat) => ?_); cbv) | ((with_reducible intro _); cbv) | (with_reducible refine And.intro ?_ ?_)
 all_goals try ((first | (with_reducible refine LoopIn.mk ((0 : Nat)) ?_ ?_) | (with_reducible refine LoopBack.mk ((k + 1 : Nat)) ?_ ?_ ?_)) )
 all_goals try ((with_reducible show m6 _ _); cbv; (try simp only [and_true, true_and]))
 all_goals try (repeat' with_reducible refine And.intro ?_ ?_)
 all_goals first | (refine retK h ?_; clear h; simp only [fin0]) | (with_reducible refine Ob.mk ?_; clear h) | (clear h)
 all_goals (try simp only [eta0, RT.bytes] at *)
 all_goals (try dsimp only [RT.ty] at *)
 all_goals grind (splits := 20) [j5, e8, b7I, c2o, b5E, V7, O7, inR, Z7]
theorem c1H : b7 Tryz.prog 138 b4n := j8 j3 (ss := [(180, b9d), (50, a1N)]) ⟨c1N, a2Q, trivial⟩ rfl rfl <| by
 intro (bs : Th (List Int)) (p : Th Int) ⟨(m : Th PMap), (c : Th Int), (l : Th (List Wlk)), u⟩ K _ _ ho h
 obtain ⟨m, rfl⟩ := a8 m; obtain ⟨c, rfl⟩ := a8 c; obtain ⟨l, rfl⟩ := a8 l
 refine ⟨noAnn, noAnn, 20, ?_⟩
 cbv
 repeat' first | ((with_reducible intro _); cbv) | (with_reducible refine And.intro ?_ ?_)
 all_goals first | (refine retK h ?_; clear h; simp only [fin0]) | (with_reducible refine Ob.mk ?_; clear h) | (clear h)
 all_goals (try simp only [eta0, RT.bytes] at *)
 all_goals grind [b2n, K3, W8, O7]
theorem c1G : b7 Tryz.prog 67 b8N := j8 j3 (ss := [(72, B6), (111, W9), (110, sIn), (135, b9h), (136, b8V), (137, a7Z), (138, b4n)]) ⟨E5, Z1, F9, c1O, c1K, c1F, c1H, trivial⟩ rfl rfl <| by
 intro (bs : Th (List Int)) (p : Th Int) ⟨(m : Th PMap), (l : Th (List Wlk)), (v : Th Int), u⟩ K _ _ ho h
 obtain ⟨m, rfl⟩ := a8 m; obtain ⟨l, rfl⟩ := a8 l; obtain ⟨v, rfl⟩ := a8 v
 have hm := @r6 m
 have hk := fun (i : Int) => @b1S m i l
 refine ⟨annL [(67, 5, ⟨Nat × Unit, [⟨.cell 8 2, some 500, .srv⟩], fun σ q => (((σ.fgs [500]).t 8 (vI fun _ => (q.1 : Int))).E7 8 2 (.own 500 1)).row 500 1 .srv (fun _ => List.replicate q.1 ⟨true, [], []⟩), fun _ q _ => (q.1 : Int) ≤ v ∧ n8 m = true ∧ y7 m l = true ∧ 1 ≤ v ∧ v ≤ 3, fun _ q _ => v.toNat - q.1⟩),
  (67, 9, ⟨Nat, [⟨.cell 8 3, some 501, .sto⟩], fun σ k => (((σ.fgs [501]).t 9 (vI fun _ => (k : Int))).E7 8 3 (.own 501 1)).row 501 1 .sto (fun _ => (List.range k).map fun (i : Nat) => K3 m (i : Int) l), fun _ k _ => (k : Int) ≤ m.cells ∧ n8 m = true ∧ y7 m l = true ∧ 1 ≤ v ∧ v ≤ 3, fun _ k _ => m.cells.toNat - k⟩)], noAnn, 20, ?_⟩
 cbv
 repeat' first | ((with_reducible refine fun (k : Nat) => ?_); cbv) | ((with_reducible refine fun (q : Nat × Unit) => ?_); obtain ⟨s, _⟩ := q; cbv) | ((with_reducible intro _); cbv) | (with_reducible refine And.intro ?_ ?_)
 all_goals try ((first | (with_reducible refine LoopIn.mk (((0, ()) : Nat × Unit)) ?_ ?_) | (with_reducible refine LoopIn.mk ((0 : Nat)) ?_ ?_) | (with_reducible refine LoopBack.mk ((k + 1 : Nat)) ?_ ?_ ?_) | (with_reducible refine LoopBack.mk (((s + 1, ()) : Nat × Unit)) ?_ ?_ ?_)) )
 all_goals try ((with_reducible show m6 _ _); cbv; (try simp only [and_true, true_and]))
 all_goals try (repeat' with_reducible refine And.intro ?_ ?_)
 all_goals first | (refine retK h ?_; clear h; simp only [fin0]) | (with_reducible refine Ob.mk ?_; clear h) | (clear h)
 all_goals (try simp only [eta0, RT.bytes] at *)
 all_goals (try dsimp only [RT.ty] at *)
 all_goals (try grind (splits := 20) [j5, e8, inR, b4D, c3S, a4c, M5, a0t, b2n])
noncomputable def a8D : Sx.Spec := ⟨false, true, [.row .wld], [], fun _ _ ⟨w, _⟩ => .asrt (fun _ => z5 (w ()).map (w ()).table (w ()).servers.length = true) (.ret (vB fun _ => a6v (w ()), fun _ => 0))⟩
noncomputable def c3J : Sx.Spec := ⟨false, true, [.row .wld], [], fun _ _ ⟨w, _⟩ => .asrt (fun _ => z5 (w ()).map (w ()).table (w ()).servers.length = true) (.ret (vB fun _ => a9h (w ()), fun _ => 0))⟩
noncomputable def b4p : Sx.Spec := ⟨false, true, [.list .note], [], fun _ _ ⟨l, _⟩ => .ret (vB fun _ => a5B (l ()), fun _ => 0)⟩
noncomputable def a2B : Sx.Spec := ⟨false, true, [.row .wld], [], fun _ _ ⟨w, _⟩ => .ret (vB fun _ => p9 (w ()), fun _ => 0)⟩
theorem b4Z : b7 Tryz.prog 76 a8D := j8 j3 (ss := [(143, a6x)]) ⟨a8X, trivial⟩ rfl rfl <| by
 intro (bs : Th (List Int)) (p : Th Int) ⟨(w : Th Wld), u⟩ K _ _ ho h
 obtain ⟨w, rfl⟩ := a8 w
 obtain ⟨ha, h⟩ := h
 have ha := ha.out
 have ht := F3 ha
 have hl := okL (ho.1 _ (.tail _ (.tail _ (.head _))))
 have hn := fun (k : Nat) => @a7W w.map (nth .srv w.servers k)
 have hi := fun (k j : Nat) => @b9T w.map (nth .srv w.servers k) j
 refine ⟨annL [(76, 2, ⟨Nat × Unit, [], fun σ q => σ.t 3 (vI fun _ => (q.1 : Int)), fun _ q _ => q.1 ≤ w.servers.length ∧ l8 q.1 (a2m w) = true, fun _ q _ => w.servers.length - q.1⟩),
  (76, 7, ⟨Nat, [], fun σ k => σ.t 4 (vI fun _ => (k : Int)), fun σ k _ => k ≤ (nth .srv w.servers (σ.nat 3)).holds.length ∧ σ.nat 3 < w.servers.length ∧ y3 w.map (nth .srv w.servers (σ.nat 3)) = true ∧ l8 (σ.nat 3) (a2m w) = true ∧ l8 k (a3k w.table (nth .srv w.servers (σ.nat 3)).holds) = true, fun σ k _ => (nth .srv w.servers (σ.nat 3)).holds.length - k⟩)], noAnn, 20, ?_⟩
 cbv
 repeat' first | ((with_reducible refine fun (k : Nat) => ?_); cbv) | ((with_reducible refine fun (q : Nat × Unit) => ?_); obtain ⟨s, _⟩ := q; cbv) | ((with_reducible intro _); cbv) | (with_reducible refine And.intro ?_ ?_)
 all_goals try ((first | (with_reducible refine LoopIn.mk (((0, ()) : Nat × Unit)) ?_ ?_) | (with_reducible refine LoopIn.mk ((0 : Nat)) ?_ ?_) | (with_reducible refine LoopBack.mk ((k + 1 : Nat)) ?_ ?_ ?_) | (with_reducible refine LoopBack.mk (((s + 1, ()) : Nat × Unit)) ?_ ?_ ?_)) )
 all_goals try ((with_reducible show m6 _ _); cbv; (try simp only [and_true, true_and]))
 all_goals (try simp only [St.nat, St.int, Tr.get, Nat.reduceMod, Nat.reduceDiv, Nat.one_ne_zero, if_false, if_true, ↓reduceIte] at *)
 all_goals try (repeat' with_reducible refine And.intro ?_ ?_)
 all_goals first | (refine retK h ?_; clear h; simp only [fin0]) | (with_reducible refine Ob.mk ?_; clear h) | (clear h)
 all_goals (try simp only [eta0, RT.bytes] at *)
 all_goals grind (splits := 30) [j5, e8, a6v, b0O, b0N, b4f, a1A, m8, m7, a3k]
theorem c7x : b7 Tryz.prog 77 c3J := j8 j3 (ss := [(144, a6z)]) ⟨a9a, trivial⟩ rfl rfl <| by
 intro (bs : Th (List Int)) (p : Th Int) ⟨(w : Th Wld), u⟩ K _ _ ho h
 obtain ⟨w, rfl⟩ := a8 w
 obtain ⟨ha, h⟩ := h
 have ha := ha.out
 have ht := F3 ha
 have hi := fun (k : Nat) => @a9i w.map w.servers.length (nth .msg w.net k)
 refine ⟨annL [(77, 4, ⟨Nat, [], fun σ k => σ.t 3 (vI fun _ => (k : Int)), fun _ k _ => k ≤ w.net.length ∧ w.net.length ≤ 40 ∧ l8 k (a5C w) = true, fun _ k _ => w.net.length - k⟩)], noAnn, 20, ?_⟩
 cbv
 repeat' first | ((with_reducible refine fun (k : Nat) => ?_); cbv) | ((with_reducible intro _); cbv) | (with_reducible refine And.intro ?_ ?_)
 all_goals try ((first | (with_reducible refine LoopIn.mk ((0 : Nat)) ?_ ?_) | (with_reducible refine LoopBack.mk ((k + 1 : Nat)) ?_ ?_ ?_)) )
 all_goals try ((with_reducible show m6 _ _); cbv; (try simp only [and_true, true_and]))
 all_goals (try simp only [St.nat, St.int, Tr.get, Nat.reduceMod, Nat.reduceDiv, Nat.one_ne_zero, if_false, if_true, ↓reduceIte] at *)
 all_goals try (repeat' with_reducible refine And.intro ?_ ?_)
 all_goals first | (refine retK h ?_; clear h; simp only [fin0]) | (with_reducible refine Ob.mk ?_; clear h) | (clear h)
 all_goals (try simp only [eta0, RT.bytes] at *)
 all_goals grind (splits := 30) [j5, e8, a9h, b9K, a5C, a1A, m8, m7]
theorem c1P : b7 Tryz.prog 78 b4p := j8 j3 (ss := [(110, sIn)]) ⟨F9, trivial⟩ rfl rfl <| by
 intro (bs : Th (List Int)) (p : Th Int) ⟨(l : Th (List Note)), u⟩ K _ _ ho h
 obtain ⟨l, rfl⟩ := a8 l
 refine ⟨annL [(78, 4, ⟨Nat, [], fun σ k => σ.t 3 (vI fun _ => (k : Int)), fun _ k _ => k ≤ l.length ∧ l.length ≤ 150 ∧ l8 k (a2T l) = true, fun _ k _ => l.length - k⟩)], noAnn, 20, ?_⟩
 cbv
 repeat' first | ((with_reducible refine fun (k : Nat) => ?_); cbv) | ((with_reducible intro _); cbv) | (with_reducible refine And.intro ?_ ?_)
 all_goals try ((first | (with_reducible refine LoopIn.mk ((0 : Nat)) ?_ ?_) | (with_reducible refine LoopBack.mk ((k + 1 : Nat)) ?_ ?_ ?_)) )
 all_goals try ((with_reducible show m6 _ _); cbv; (try simp only [and_true, true_and]))
 all_goals (try simp only [St.nat, St.int, Tr.get, Nat.reduceMod, Nat.reduceDiv, Nat.one_ne_zero, if_false, if_true, ↓reduceIte] at *)
 all_goals try (repeat' with_reducible refine And.intro ?_ ?_)
 all_goals first | (refine retK h ?_; clear h; simp only [fin0]) | (with_reducible refine Ob.mk ?_; clear h) | (clear h)
 all_goals (try simp only [eta0, RT.bytes] at *)
 all_goals grind (splits := 30) [j5, e8, a5B, b1p, a2T, a4p, a1A, m8, m7, inR]
theorem a8W : b7 Tryz.prog 28 a2B := j8 j3 (ss := [(72, B6), (73, a2F), (74, a4V), (75, a4j), (76, a8D), (77, c3J), (78, b4p)]) ⟨E5, a2R, b1l, a5w, b4Z, c7x, c1P, trivial⟩ rfl rfl <| by
 intro (bs : Th (List Int)) (p : Th Int) ⟨(w : Th Wld), u⟩ K _ _ ho h
 obtain ⟨w, rfl⟩ := a8 w
 have ht := @F3 w.map w.table w.servers.length
 have hs := @a4O w.map w.stores
 have hs4 := @a8v w.map w.stores
 have he := b0G w
 refine ⟨annL [(28, 4, ⟨Nat, [], fun σ k => σ.t 3 (vI fun _ => (k : Int)), fun _ k _ => k ≤ w.stores.length ∧ z5 w.map w.table w.servers.length = true ∧ x7 w.map w.stores = true ∧ y6 w.map w.rows = true ∧ l8 k (a0q w) = true, fun _ k _ => w.stores.length - k⟩)], noAnn, 20, ?_⟩
 cbv
 repeat' first | ((with_reducible refine fun (k : Nat) => ?_); cbv) | ((with_reducible intro _); cbv) | (with_reducible refine And.intro ?_ ?_)
 all_goals try ((first | (with_reducible refine LoopIn.mk ((0 : Nat)) ?_ ?_) | (with_reducible refine LoopBack.mk ((k + 1 : Nat)) ?_ ?_ ?_)) )
 all_goals try ((with_reducible show m6 _ _); cbv; (try simp only [and_true, true_and]))
 all_goals (try simp only [St.nat, St.int, Tr.get, Nat.reduceMod, Nat.reduceDiv, Nat.one_ne_zero, if_false, if_true, ↓reduceIte] at *)
 all_goals try (repeat' with_reducible refine And.intro ?_ ?_)
 all_goals first | (refine retK h ?_; clear h; simp only [fin0]) | (with_reducible refine Ob.mk ?_; clear h) | (clear h)
 all_goals (try simp only [eta0, RT.bytes] at *)
 all_goals grind (splits := 30) [j5, e8, a4J, b3V, a0q, a1A, m8, m7]
end Go.Proofs.YtkclfaldmghkeaaGreat
