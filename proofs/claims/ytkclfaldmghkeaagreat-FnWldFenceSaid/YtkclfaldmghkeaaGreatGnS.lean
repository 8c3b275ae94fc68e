/-
  Contracts: lists of servers' things, servers, worlds, the one world compared.
-/
import Derived.Test.YtkclfaldmghkeaaGreatGnD
import Derived.Test.YtkclfaldmghkeaaGreatFoHs
import Derived.Test.YtkclfaldmghkeaaGreatM2
import Derived.Test.YtkclfaldmghkeaaGreatGnVe
import Derived.Test.YtkclfaldmghkeaaGreatFnYs
import Derived.Test.YtkclfaldmghkeaaGreatGrT
import Derived.Test.YtkclfaldmghkeaaGreatM3
import Derived.Test.YtkclfaldmghkeaaGreatGnC
set_option linter.unusedVariables false
set_option linter.unusedSimpArgs false
set_option maxRecDepth 100000
set_option maxHeartbeats 8000000
namespace Go.Mo
open Go.Sx
theorem b9B {a b : Srv} : a = b ↔ a.up = b.up ∧ a.holds = b.holds ∧ a.m9 = b.m9 := by
 cases a; cases b; simp
theorem note_ext {a b : Note} : a = b ↔ a.who = b.who ∧ a.seq = b.seq ∧ a.code = b.code := by
 cases a; cases b; simp
theorem c0J {a b : PMap} : a = b ↔ a.cells = b.cells ∧ a.width = b.width := by
 cases a; cases b; simp
theorem arb_ext {a b : Arb} : a = b ↔ a.servers = b.servers ∧ a.ages = b.ages := by
 cases a; cases b; simp
theorem wld_ext {a b : Wld} : a = b ↔ a.map = b.map ∧ a.servers = b.servers ∧ a.stores = b.stores ∧ a.table = b.table ∧ a.rows = b.rows ∧ a.net = b.net ∧ a.notes = b.notes := by
 cases a; cases b; simp
end Go.Mo
namespace Go.Proofs.YtkclfaldmghkeaaGreat
open Go.Sx Go.Proofs Go.Mo
noncomputable def b1D : Sx.Spec := ⟨false, true, [.list .gst, .list .gst], [], fun _ _ ⟨a, b, _⟩ => .ret (vB fun _ => decide (a () = b ()), fun _ => 0)⟩
noncomputable def sIsNet : Sx.Spec := ⟨false, true, [.list .msg, .list .msg], [], fun _ _ ⟨a, b, _⟩ => .ret (vB fun _ => decide (a () = b ()), fun _ => 0)⟩
noncomputable def b5i : Sx.Spec := ⟨false, true, [.list .note, .list .note], [], fun _ _ ⟨a, b, _⟩ => .ret (vB fun _ => decide (a () = b ()), fun _ => 0)⟩
noncomputable def b1C : Sx.Spec := ⟨false, true, [.list .sto, .list .sto], [], fun _ _ ⟨a, b, _⟩ => .ret (vB fun _ => decide (a () = b ()), fun _ => 0)⟩
noncomputable def a9i : Sx.Spec := ⟨false, true, [.list .srv, .list .srv], [], fun _ _ ⟨a, b, _⟩ => .ret (vB fun _ => decide (a () = b ()), fun _ => 0)⟩
noncomputable def sIsV : Sx.Spec := ⟨false, true, [.row .srv, .row .srv], [], fun _ _ ⟨a, b, _⟩ => .ret (vB fun _ => decide (a () = b ()), fun _ => 0)⟩
noncomputable def sIsWld : Sx.Spec := ⟨false, true, [.row .wld, .row .wld], [], fun _ _ ⟨a, b, _⟩ => .ret (vB fun _ => decide (a () = b ()), fun _ => 0)⟩
theorem b8n : b8 Tryz.prog 169 b1D := j6 j4 (ss := []) trivial rfl rfl <| by
 intro (bs : Th (List Int)) (p : Th Int) ⟨(a : Th (List Gst)), (b : Th (List Gst)), u⟩ K _ _ ho h
 obtain ⟨a, rfl⟩ := b6 a; obtain ⟨b, rfl⟩ := b6 b
 have hl := okL (ho.1 _ (.head _))
 refine ⟨annL [(169, 4, ⟨Nat, [], fun σ k => σ.t 5 (vI fun _ => (k : Int)), fun _ k _ => k ≤ a.length ∧ a.length = b.length ∧ same .gst a b k, fun _ k _ => a.length - k⟩)], noAnn, 20, ?_⟩
 cbv
 repeat' first | ((with_reducible refine fun (k : Nat) => ?_); cbv) | ((with_reducible intro _); cbv) | (with_reducible refine And.intro ?_ ?_)
 all_goals try ((first | (with_reducible refine LoopIn.mk ((0 : Nat)) ?_ ?_) | (with_reducible refine LoopBack.mk ((k + 1 : Nat)) ?_ ?_ ?_)) )
 all_goals try ((with_reducible show l8 _ _); cbv; (try simp only [and_true, true_and]))
 all_goals try (repeat' with_reducible refine And.intro ?_ ?_)
 all_goals first | (refine retK h ?_; clear h; simp only [fin0]) | (with_reducible refine Ob.mk ?_; clear h) | (clear h)
 all_goals (try simp only [eta0, RT.bytes] at *)
 all_goals grind [j3, H6, H7, L8, c0R, a5h]
theorem okIsNet : b8 Tryz.prog 62 sIsNet := j6 j4 (ss := []) trivial rfl rfl <| by
 intro (bs : Th (List Int)) (p : Th Int) ⟨(a : Th (List Msg)), (b : Th (List Msg)), u⟩ K _ _ ho h
 obtain ⟨a, rfl⟩ := b6 a; obtain ⟨b, rfl⟩ := b6 b
 have hl := okL (ho.1 _ (.head _))
 refine ⟨annL [(62, 4, ⟨Nat, [], fun σ k => σ.t 5 (vI fun _ => (k : Int)), fun _ k _ => k ≤ a.length ∧ a.length = b.length ∧ same .msg a b k, fun _ k _ => a.length - k⟩)], noAnn, 20, ?_⟩
 cbv
 repeat' first | ((with_reducible refine fun (k : Nat) => ?_); cbv) | ((with_reducible intro _); cbv) | (with_reducible refine And.intro ?_ ?_)
 all_goals try ((first | (with_reducible refine LoopIn.mk ((0 : Nat)) ?_ ?_) | (with_reducible refine LoopBack.mk ((k + 1 : Nat)) ?_ ?_ ?_)) )
 all_goals try ((with_reducible show l8 _ _); cbv; (try simp only [and_true, true_and]))
 all_goals try (repeat' with_reducible refine And.intro ?_ ?_)
 all_goals first | (refine retK h ?_; clear h; simp only [fin0]) | (with_reducible refine Ob.mk ?_; clear h) | (clear h)
 all_goals (try simp only [eta0, RT.bytes] at *)
 all_goals grind [j3, H6, H7, L8, msg_ext, a5R, b3t, c0R, a5h]
theorem c2S : b8 Tryz.prog 63 b5i := j6 j4 (ss := []) trivial rfl rfl <| by
 intro (bs : Th (List Int)) (p : Th Int) ⟨(a : Th (List Note)), (b : Th (List Note)), u⟩ K _ _ ho h
 obtain ⟨a, rfl⟩ := b6 a; obtain ⟨b, rfl⟩ := b6 b
 have hl := okL (ho.1 _ (.head _))
 refine ⟨annL [(63, 4, ⟨Nat, [], fun σ k => σ.t 5 (vI fun _ => (k : Int)), fun _ k _ => k ≤ a.length ∧ a.length = b.length ∧ same .note a b k, fun _ k _ => a.length - k⟩)], noAnn, 20, ?_⟩
 cbv
 repeat' first | ((with_reducible refine fun (k : Nat) => ?_); cbv) | ((with_reducible intro _); cbv) | (with_reducible refine And.intro ?_ ?_)
 all_goals try ((first | (with_reducible refine LoopIn.mk ((0 : Nat)) ?_ ?_) | (with_reducible refine LoopBack.mk ((k + 1 : Nat)) ?_ ?_ ?_)) )
 all_goals try ((with_reducible show l8 _ _); cbv; (try simp only [and_true, true_and]))
 all_goals try (repeat' with_reducible refine And.intro ?_ ?_)
 all_goals first | (refine retK h ?_; clear h; simp only [fin0]) | (with_reducible refine Ob.mk ?_; clear h) | (clear h)
 all_goals (try simp only [eta0, RT.bytes] at *)
 all_goals grind [j3, H6, H7, L8, note_ext]
theorem b8l : b8 Tryz.prog 60 b1C := j6 j4 (ss := [(122, sIsS)]) ⟨c2R, trivial⟩ rfl rfl <| by
 intro (bs : Th (List Int)) (p : Th Int) ⟨(a : Th (List Sto)), (b : Th (List Sto)), u⟩ K _ _ ho h
 obtain ⟨a, rfl⟩ := b6 a; obtain ⟨b, rfl⟩ := b6 b
 have hl := okL (ho.1 _ (.head _))
 refine ⟨annL [(60, 4, ⟨Nat, [], fun σ k => σ.t 5 (vI fun _ => (k : Int)), fun _ k _ => k ≤ a.length ∧ a.length = b.length ∧ same .sto a b k, fun _ k _ => a.length - k⟩)], noAnn, 20, ?_⟩
 cbv
 repeat' first | ((with_reducible refine fun (k : Nat) => ?_); cbv) | ((with_reducible intro _); cbv) | (with_reducible refine And.intro ?_ ?_)
 all_goals try ((first | (with_reducible refine LoopIn.mk ((0 : Nat)) ?_ ?_) | (with_reducible refine LoopBack.mk ((k + 1 : Nat)) ?_ ?_ ?_)) )
 all_goals try ((with_reducible show l8 _ _); cbv; (try simp only [and_true, true_and]))
 all_goals try (repeat' with_reducible refine And.intro ?_ ?_)
 all_goals first | (refine retK h ?_; clear h; simp only [fin0]) | (with_reducible refine Ob.mk ?_; clear h) | (clear h)
 all_goals (try simp only [eta0, RT.bytes] at *)
 all_goals grind [j3, H6, H7, L8]
theorem b8m : b8 Tryz.prog 121 sIsV := j6 j4 (ss := [(169, b1D), (170, sIsH)]) ⟨b8n, okIsHold, trivial⟩ rfl rfl <| by
 intro (bs : Th (List Int)) (p : Th Int) ⟨(a : Th Srv), (b : Th Srv), u⟩ K _ _ ho h
 obtain ⟨a, rfl⟩ := b6 a; obtain ⟨b, rfl⟩ := b6 b
 have hl := okL (ho.1 _ (.tail _ (.head _)))
 refine ⟨annL [(121, 4, ⟨Nat, [], fun σ k => σ.t 5 (vI fun _ => (k : Int)), fun _ k _ => k ≤ a.holds.length ∧ a.holds.length = b.holds.length ∧ a.up = b.up ∧ a.m9 = b.m9 ∧ same .hld a.holds b.holds k, fun _ k _ => a.holds.length - k⟩)], noAnn, 20, ?_⟩
 cbv
 repeat' first | ((with_reducible refine fun (k : Nat) => ?_); cbv) | ((with_reducible intro _); cbv) | (with_reducible refine And.intro ?_ ?_)
 all_goals try ((first | (with_reducible refine LoopIn.mk ((0 : Nat)) ?_ ?_) | (with_reducible refine LoopBack.mk ((k + 1 : Nat)) ?_ ?_ ?_)) )
 all_goals try ((with_reducible show l8 _ _); cbv; (try simp only [and_true, true_and]))
 all_goals try (repeat' with_reducible refine And.intro ?_ ?_)
 all_goals first | (refine retK h ?_; clear h; simp only [fin0]) | (with_reducible refine Ob.mk ?_; clear h) | (clear h)
 all_goals (try simp only [eta0, RT.bytes] at *)
 all_goals grind [j3, H6, H7, L8, b9B]
theorem b6a : b8 Tryz.prog 59 a9i := j6 j4 (ss := [(121, sIsV)]) ⟨b8m, trivial⟩ rfl rfl <| by
 intro (bs : Th (List Int)) (p : Th Int) ⟨(a : Th (List Srv)), (b : Th (List Srv)), u⟩ K _ _ ho h
 obtain ⟨a, rfl⟩ := b6 a; obtain ⟨b, rfl⟩ := b6 b
 have hl := okL (ho.1 _ (.head _))
 refine ⟨annL [(59, 4, ⟨Nat, [], fun σ k => σ.t 5 (vI fun _ => (k : Int)), fun _ k _ => k ≤ a.length ∧ a.length = b.length ∧ same .srv a b k, fun _ k _ => a.length - k⟩)], noAnn, 20, ?_⟩
 cbv
 repeat' first | ((with_reducible refine fun (k : Nat) => ?_); cbv) | ((with_reducible intro _); cbv) | (with_reducible refine And.intro ?_ ?_)
 all_goals try ((first | (with_reducible refine LoopIn.mk ((0 : Nat)) ?_ ?_) | (with_reducible refine LoopBack.mk ((k + 1 : Nat)) ?_ ?_ ?_)) )
 all_goals try ((with_reducible show l8 _ _); cbv; (try simp only [and_true, true_and]))
 all_goals try (repeat' with_reducible refine And.intro ?_ ?_)
 all_goals first | (refine retK h ?_; clear h; simp only [fin0]) | (with_reducible refine Ob.mk ?_; clear h) | (clear h)
 all_goals (try simp only [eta0, RT.bytes] at *)
 all_goals grind [j3, H6, H7, L8]
theorem c2Q : b8 Tryz.prog 22 sIsWld := j6 j4 (ss := [(59, a9i), (60, b1C), (54, sIsI), (61, sIsB), (62, sIsNet), (63, b5i)]) ⟨b6a, b8l, b6c, okMaBook, okIsNet, c2S, trivial⟩ rfl rfl <| by
 intro (bs : Th (List Int)) (p : Th Int) ⟨(a : Th Wld), (b : Th Wld), u⟩ K _ _ ho h
 obtain ⟨a, rfl⟩ := b6 a; obtain ⟨b, rfl⟩ := b6 b
 refine ⟨noAnn, noAnn, 20, ?_⟩
 cbv
 repeat' first | ((with_reducible intro _); cbv) | (with_reducible refine And.intro ?_ ?_)
 all_goals first | (refine retK h ?_; clear h; simp only [fin0]) | (with_reducible refine Ob.mk ?_; clear h) | (clear h)
 all_goals (try simp only [eta0, RT.bytes] at *)
 all_goals grind (splits := 30) [wld_ext, arb_ext, c0J]
def b2W (m : PMap) (c : Int) (l : List Wlk) : Sto := if r7 m (X5 m c l) = true then L3 m c l else Y4
noncomputable def c0a : Sx.Spec := ⟨false, true, [.map, .int .i64, .list .wlk], [nCll], fun _ _ ⟨m, c, l, _⟩ => .ret (oCll fun _ => X5 (m ()) (c ()) (l ()), fun _ => 0)⟩
noncomputable def b5d : Sx.Spec := ⟨false, true, [.map, .int .i64, .list .wlk], [nSto], fun _ _ ⟨m, c, l, _⟩ => .ret (oSto fun _ => b2W (m ()) (c ()) (l ()), fun _ => 0)⟩
noncomputable def c0e : Sx.Spec := ⟨false, true, [.map], [[some .int, some .int]], fun _ _ ⟨m, _⟩ => .ret (oArb fun _ => a2E (m ()), fun _ => 0)⟩
noncomputable def b9R : Sx.Spec := ⟨false, true, [.map, .list .wlk], [[some .row]], fun _ _ ⟨m, l, _⟩ => .ret (oAs [.list .row fun _ => a7z (m ()) (l ())], fun _ => 0)⟩
noncomputable def a8z : Sx.Spec := ⟨false, true, [], [[none, some .hld, some .gst]], fun _ _ _ => .ret (oSrv fun _ => ⟨true, [], []⟩, fun _ => 0)⟩
noncomputable def b9K : Sx.Spec := ⟨false, true, [.map, .list .wlk, .int .i64], [[none, none, some .srv, some .sto, some .int, some .int, some .row, some .msg, some .note]], fun _ _ ⟨m, l, v, _⟩ => .ret (oWld fun _ => a4B (m ()) (l ()) (v ()), fun _ => 0)⟩
theorem b5u {α : Type} (x : α) (k : Nat) : List.replicate (k + 1) x = List.replicate k x ++ [x] := by
 rw [List.replicate_succ', ]
theorem rng_succ (m : PMap) (l : List Wlk) (k : Nat) : (List.range (k + 1)).map (fun (i : Nat) => L3 m (i : Int) l) = (List.range k).map (fun (i : Nat) => L3 m (i : Int) l) ++ [L3 m (k : Int) l] := by
 rw [List.range_succ, List.map_append]
 rfl
theorem row_succ (m : PMap) {l : List Wlk} {k : Nat} (h : k < l.length) : (l.take (k + 1)).map (Z6 m) = (l.take k).map (Z6 m) ++ [Z6 m (nth .wlk l k)] := by
 have h1 : l.take (k + 1) = l.take k ++ [nth .wlk l k] := G6 .wlk h
 rw [h1, List.map_append]
 rfl
theorem okSrvNew : b8 Tryz.prog 109 a8z := j6 j4 (ss := []) trivial rfl rfl <| by
 intro (bs : Th (List Int)) (p : Th Int) u K _ _ ho h
 refine ⟨noAnn, noAnn, 20, ?_⟩
 cbv
 repeat' first | ((with_reducible intro _); cbv) | (with_reducible refine And.intro ?_ ?_)
 all_goals first | (refine retK h ?_; clear h; simp only [fin0]) | (with_reducible refine Ob.mk ?_; clear h) | (clear h)
 all_goals (try simp only [eta0, RT.bytes] at *)
theorem c2B : b8 Tryz.prog 137 a8z := j6 j4 (ss := []) trivial rfl rfl <| by
 intro (bs : Th (List Int)) (p : Th Int) u K _ _ ho h
 refine ⟨noAnn, noAnn, 20, ?_⟩
 cbv
 repeat' first | ((with_reducible intro _); cbv) | (with_reducible refine And.intro ?_ ?_)
 all_goals first | (refine retK h ?_; clear h; simp only [fin0]) | (with_reducible refine Ob.mk ?_; clear h) | (clear h)
 all_goals (try simp only [eta0, RT.bytes] at *)
theorem c2K : b8 Tryz.prog 135 c0e := j6 j4 (ss := [(72, B8)]) ⟨F3, trivial⟩ rfl rfl <| by
 intro (bs : Th (List Int)) (p : Th Int) ⟨(m : Th PMap), u⟩ K _ _ ho h
 obtain ⟨m, rfl⟩ := b6 m
 have hm := @p5 m
 refine ⟨annL [(135, 5, ⟨Nat, [⟨.cell 4 0, some 500, .int⟩, ⟨.cell 4 1, some 501, .int⟩], fun σ k => ((((((σ.fgs [500, 501]).t 4 (vI fun _ => (k : Int))).F5 4 0 (.own 500 1)).F5 4 1 (.own 501 1)).row 500 1 .int (fun _ => List.replicate k (-1 : Int))).row 501 1 .int (fun _ => List.replicate k (0 : Int))), fun _ k _ => (k : Int) ≤ m.cells ∧ o8 m = true, fun _ k _ => m.cells.toNat - k⟩)], noAnn, 20, ?_⟩
 cbv
 repeat' first | ((with_reducible refine fun (k : Nat) => ?_); cbv) | ((with_reducible intro _); cbv) | (with_reducible refine And.intro ?_ ?_)
 all_goals try ((first | (with_reducible refine LoopIn.mk ((0 : Nat)) ?_ ?_) | (with_reducible refine LoopBack.mk ((k + 1 : Nat)) ?_ ?_ ?_)) )
 all_goals try ((with_reducible show l8 _ _); cbv; (try simp only [and_true, true_and]))
 all_goals try (repeat' with_reducible refine And.intro ?_ ?_)
 all_goals first | (refine retK h ?_; clear h; simp only [fin0]) | (with_reducible refine Ob.mk ?_; clear h) | (clear h)
 all_goals (try simp only [eta0, RT.bytes] at *)
 all_goals grind [j3, b5u, a2E]
theorem c2G : b8 Tryz.prog 136 b9R := j6 j4 (ss := [(72, B8), (111, Y5), (112, D3)]) ⟨F3, a0i, L5, trivial⟩ rfl rfl <| by
 intro (bs : Th (List Int)) (p : Th Int) ⟨(m : Th PMap), (l : Th (List Wlk)), u⟩ K _ _ ho h
 obtain ⟨m, rfl⟩ := b6 m; obtain ⟨l, rfl⟩ := b6 l
 have hl := okB (ho.2.1 _ (.head _))
 have hf := @b9s m l
 refine ⟨annL [(136, 5, ⟨Nat, [⟨.cell 6 0, some 500, .row⟩], fun σ k => (((σ.fgs [500]).t 6 (vI fun _ => (k : Int))).F5 6 0 (.own 500 1)).row 500 1 .row (fun _ => (l.take k).map (Z6 m)), fun _ k _ => k ≤ l.length, fun _ k _ => l.length - k⟩)], noAnn, 20, ?_⟩
 cbv
 repeat' first | ((with_reducible refine fun (k : Nat) => ?_); cbv) | ((with_reducible intro _); cbv) | (with_reducible refine And.intro ?_ ?_)
 all_goals try ((first | (with_reducible refine LoopIn.mk ((0 : Nat)) ?_ ?_) | (with_reducible refine LoopBack.mk ((k + 1 : Nat)) ?_ ?_ ?_)) )
 all_goals try ((with_reducible show l8 _ _); cbv; (try simp only [and_true, true_and]))
 all_goals try (repeat' with_reducible refine And.intro ?_ ?_)
 all_goals first | (refine retK h ?_; clear h; simp only [fin0]) | (with_reducible refine Ob.mk ?_; clear h) | (clear h)
 all_goals (try simp only [eta0, RT.bytes] at *)
 all_goals grind [j3, row_succ, a7z, Z6, List.length_map, List.length_take]
theorem c2J : b8 Tryz.prog 180 c0a := j6 j4 (ss := [(72, B8), (110, sIn), (111, Y5), (112, D3)]) ⟨F3, G8, a0i, L5, trivial⟩ rfl rfl <| by
 intro (bs : Th (List Int)) (p : Th Int) ⟨(m : Th PMap), (c : Th Int), (l : Th (List Wlk)), u⟩ K _ _ ho h
 obtain ⟨m, rfl⟩ := b6 m; obtain ⟨c, rfl⟩ := b6 c; obtain ⟨l, rfl⟩ := b6 l
 have hl := okB (ho.2.2.1 _ (.head _))
 have hn := b8G m c l
 have hm := @p5 m
 refine ⟨annL [(180, 5, ⟨Nat, [⟨.cell 8 1, some 500, .wlk⟩], fun σ k => (((σ.fgs [29, 30, 500]).t 8 (vI fun _ => (k : Int))).F5 8 1 (.own 500 1)).row 500 1 .wlk (fun _ => K0 m c l k), fun _ k _ => k ≤ l.length, fun _ k _ => l.length - k⟩)], noAnn, 20, ?_⟩
 cbv
 repeat' first | ((with_reducible refine fun (k : Nat) => ?_); cbv) | ((with_reducible intro _); cbv) | (with_reducible refine And.intro ?_ ?_)
 all_goals try ((first | (with_reducible refine LoopIn.mk ((0 : Nat)) ?_ ?_) | (with_reducible refine LoopBack.mk ((k + 1 : Nat)) ?_ ?_ ?_)) )
 all_goals try ((with_reducible show l8 _ _); cbv; (try simp only [and_true, true_and]))
 all_goals try (repeat' with_reducible refine And.intro ?_ ?_)
 all_goals first | (refine retK h ?_; clear h; simp only [fin0]) | (with_reducible refine Ob.mk ?_; clear h) | (clear h)
 all_goals (try simp only [eta0, RT.bytes] at *)
 all_goals (try dsimp only [RT.ty] at *)
 all_goals grind (splits := 20) [j3, b9, b8F, inCell_no, b6x, X5, P7, inR, a0o]
theorem c2D : b8 Tryz.prog 138 b5d := j6 j4 (ss := [(180, c0a), (50, a1n)]) ⟨c2J, a3m, trivial⟩ rfl rfl <| by
 intro (bs : Th (List Int)) (p : Th Int) ⟨(m : Th PMap), (c : Th Int), (l : Th (List Wlk)), u⟩ K _ _ ho h
 obtain ⟨m, rfl⟩ := b6 m; obtain ⟨c, rfl⟩ := b6 c; obtain ⟨l, rfl⟩ := b6 l
 refine ⟨noAnn, noAnn, 20, ?_⟩
 cbv
 repeat' first | ((with_reducible intro _); cbv) | (with_reducible refine And.intro ?_ ?_)
 all_goals first | (refine retK h ?_; clear h; simp only [fin0]) | (with_reducible refine Ob.mk ?_; clear h) | (clear h)
 all_goals (try simp only [eta0, RT.bytes] at *)
 all_goals grind [b2W, L3, Y4, P7]
theorem c2C : b8 Tryz.prog 67 b9K := j6 j4 (ss := [(72, B8), (111, Y5), (110, sIn), (135, c0e), (136, b9R), (137, a8z), (138, b5d)]) ⟨F3, a0i, G8, c2K, c2G, c2B, c2D, trivial⟩ rfl rfl <| by
 intro (bs : Th (List Int)) (p : Th Int) ⟨(m : Th PMap), (l : Th (List Wlk)), (v : Th Int), u⟩ K _ _ ho h
 obtain ⟨m, rfl⟩ := b6 m; obtain ⟨l, rfl⟩ := b6 l; obtain ⟨v, rfl⟩ := b6 v
 have hm := @p5 m
 have hk := fun (i : Int) => @b2B m i l
 refine ⟨annL [(67, 5, ⟨Nat × Unit, [⟨.cell 8 2, some 500, .srv⟩], fun σ q => (((σ.fgs [500]).t 8 (vI fun _ => (q.1 : Int))).F5 8 2 (.own 500 1)).row 500 1 .srv (fun _ => List.replicate q.1 ⟨true, [], []⟩), fun _ q _ => (q.1 : Int) ≤ v ∧ o8 m = true ∧ z6 m l = true ∧ 1 ≤ v ∧ v ≤ 3, fun _ q _ => v.toNat - q.1⟩),
  (67, 9, ⟨Nat, [⟨.cell 8 3, some 501, .sto⟩], fun σ k => (((σ.fgs [501]).t 9 (vI fun _ => (k : Int))).F5 8 3 (.own 501 1)).row 501 1 .sto (fun _ => (List.range k).map fun (i : Nat) => L3 m (i : Int) l), fun _ k _ => (k : Int) ≤ m.cells ∧ o8 m = true ∧ z6 m l = true ∧ 1 ≤ v ∧ v ≤ 3, fun _ k _ => m.cells.toNat - k⟩)], noAnn, 20, ?_⟩
 cbv
 repeat' first | ((with_reducible refine fun (k : Nat) => ?_); cbv) | ((with_reducible refine fun (q : Nat × Unit) => ?_); obtain ⟨s, _⟩ := q; cbv) | ((with_reducible intro _); cbv) | (with_reducible refine And.intro ?_ ?_)
 all_goals try ((first | (with_reducible refine LoopIn.mk (((0, ()) : Nat × Unit)) ?_ ?_) | (with_reducible refine LoopIn.mk ((0 : Nat)) ?_ ?_) | (with_reducible refine LoopBack.mk ((k + 1 : Nat)) ?_ ?_ ?_) | (with_reducible refine LoopBack.mk (((s + 1, ()) : Nat × Unit)) ?_ ?_ ?_)) )
 all_goals try ((with_reducible show l8 _ _); cbv; (try simp only [and_true, true_and]))
 all_goals try (repeat' with_reducible refine And.intro ?_ ?_)
 all_goals first | (refine retK h ?_; clear h; simp only [fin0]) | (with_reducible refine Ob.mk ?_; clear h) | (clear h)
 all_goals (try simp only [eta0, RT.bytes] at *)
 all_goals (try dsimp only [RT.ty] at *)
 all_goals (try grind (splits := 20) [j3, b9, inR, b5u, rng_succ, a4B, N3, a0O, b2W])
noncomputable def a9f : Sx.Spec := ⟨false, true, [.row .wld], [], fun _ _ ⟨w, _⟩ => .asrt (fun _ => A4 (w ()).map (w ()).table (w ()).servers.length = true) (.ret (vB fun _ => a6W (w ()), fun _ => 0))⟩
noncomputable def sNetOk : Sx.Spec := ⟨false, true, [.row .wld], [], fun _ _ ⟨w, _⟩ => .asrt (fun _ => A4 (w ()).map (w ()).table (w ()).servers.length = true) (.ret (vB fun _ => a9L (w ()), fun _ => 0))⟩
noncomputable def b5f : Sx.Spec := ⟨false, true, [.list .note], [], fun _ _ ⟨l, _⟩ => .ret (vB fun _ => a6b (l ()), fun _ => 0)⟩
noncomputable def P3 : Sx.Spec := ⟨false, true, [.row .wld], [], fun _ _ ⟨w, _⟩ => .ret (vB fun _ => o6 (w ()), fun _ => 0)⟩
theorem b5P : b8 Tryz.prog 76 a9f := j6 j4 (ss := [(143, a6Y)]) ⟨a9y, trivial⟩ rfl rfl <| by
 intro (bs : Th (List Int)) (p : Th Int) ⟨(w : Th Wld), u⟩ K _ _ ho h
 obtain ⟨w, rfl⟩ := b6 w
 obtain ⟨ha, h⟩ := h
 have ha := ha.out
 have ht := E6 ha
 have hl := okL (ho.1 _ (.tail _ (.tail _ (.head _))))
 have hn := fun (k : Nat) => @a5q w.map (nth .srv w.servers k)
 have hi := fun (k j : Nat) => @c0O w.map (nth .srv w.servers k) j
 refine ⟨annL [(76, 2, ⟨Nat × Unit, [], fun σ q => σ.t 3 (vI fun _ => (q.1 : Int)), fun _ q _ => q.1 ≤ w.servers.length ∧ m4 q.1 (a2J w) = true, fun _ q _ => w.servers.length - q.1⟩),
  (76, 7, ⟨Nat, [], fun σ k => σ.t 4 (vI fun _ => (k : Int)), fun σ k _ => k ≤ (nth .srv w.servers (σ.nat 3)).holds.length ∧ σ.nat 3 < w.servers.length ∧ y9 w.map (nth .srv w.servers (σ.nat 3)) = true ∧ m4 (σ.nat 3) (a2J w) = true ∧ m4 k (a3J w.table (nth .srv w.servers (σ.nat 3)).holds) = true, fun σ k _ => (nth .srv w.servers (σ.nat 3)).holds.length - k⟩)], noAnn, 20, ?_⟩
 cbv
 repeat' first | ((with_reducible refine fun (k : Nat) => ?_); cbv) | ((with_reducible refine fun (q : Nat × Unit) => ?_); obtain ⟨s, _⟩ := q; cbv) | ((with_reducible intro _); cbv) | (with_reducible refine And.intro ?_ ?_)
 all_goals try ((first | (with_reducible refine LoopIn.mk (((0, ()) : Nat × Unit)) ?_ ?_) | (with_reducible refine LoopIn.mk ((0 : Nat)) ?_ ?_) | (with_reducible refine LoopBack.mk ((k + 1 : Nat)) ?_ ?_ ?_) | (with_reducible refine LoopBack.mk (((s + 1, ()) : Nat × Unit)) ?_ ?_ ?_)) )
 all_goals try ((with_reducible show l8 _ _); cbv; (try simp only [and_true, true_and]))
 all_goals (try simp only [St.nat, St.int, Tr.get, Nat.reduceMod, Nat.reduceDiv, Nat.one_ne_zero, if_false, if_true, ↓reduceIte] at *)
 all_goals try (repeat' with_reducible refine And.intro ?_ ?_)
 all_goals first | (refine retK h ?_; clear h; simp only [fin0]) | (with_reducible refine Ob.mk ?_; clear h) | (clear h)
 all_goals (try simp only [eta0, RT.bytes] at *)
 all_goals grind (splits := 30) [j3, b9, a6W, b1x, b1w, b4V, a1Y, n4, n3, a3J]
theorem okNetOk : b8 Tryz.prog 77 sNetOk := j6 j4 (ss := [(144, a6Z)]) ⟨a9B, trivial⟩ rfl rfl <| by
 intro (bs : Th (List Int)) (p : Th Int) ⟨(w : Th Wld), u⟩ K _ _ ho h
 obtain ⟨w, rfl⟩ := b6 w
 obtain ⟨ha, h⟩ := h
 have ha := ha.out
 have ht := E6 ha
 have hi := fun (k : Nat) => @a9M w.map w.servers.length (nth .msg w.net k)
 refine ⟨annL [(77, 4, ⟨Nat, [], fun σ k => σ.t 3 (vI fun _ => (k : Int)), fun _ k _ => k ≤ w.net.length ∧ w.net.length ≤ 40 ∧ m4 k (a6c w) = true, fun _ k _ => w.net.length - k⟩)], noAnn, 20, ?_⟩
 cbv
 repeat' first | ((with_reducible refine fun (k : Nat) => ?_); cbv) | ((with_reducible intro _); cbv) | (with_reducible refine And.intro ?_ ?_)
 all_goals try ((first | (with_reducible refine LoopIn.mk ((0 : Nat)) ?_ ?_) | (with_reducible refine LoopBack.mk ((k + 1 : Nat)) ?_ ?_ ?_)) )
 all_goals try ((with_reducible show l8 _ _); cbv; (try simp only [and_true, true_and]))
 all_goals (try simp only [St.nat, St.int, Tr.get, Nat.reduceMod, Nat.reduceDiv, Nat.one_ne_zero, if_false, if_true, ↓reduceIte] at *)
 all_goals try (repeat' with_reducible refine And.intro ?_ ?_)
 all_goals first | (refine retK h ?_; clear h; simp only [fin0]) | (with_reducible refine Ob.mk ?_; clear h) | (clear h)
 all_goals (try simp only [eta0, RT.bytes] at *)
 all_goals grind (splits := 30) [j3, b9, a9L, c0F, a6c, a1Y, n4, n3]
theorem c2L : b8 Tryz.prog 78 b5f := j6 j4 (ss := [(110, sIn)]) ⟨G8, trivial⟩ rfl rfl <| by
 intro (bs : Th (List Int)) (p : Th Int) ⟨(l : Th (List Note)), u⟩ K _ _ ho h
 obtain ⟨l, rfl⟩ := b6 l
 refine ⟨annL [(78, 4, ⟨Nat, [], fun σ k => σ.t 3 (vI fun _ => (k : Int)), fun _ k _ => k ≤ l.length ∧ l.length ≤ 150 ∧ m4 k (a3r l) = true, fun _ k _ => l.length - k⟩)], noAnn, 20, ?_⟩
 cbv
 repeat' first | ((with_reducible refine fun (k : Nat) => ?_); cbv) | ((with_reducible intro _); cbv) | (with_reducible refine And.intro ?_ ?_)
 all_goals try ((first | (with_reducible refine LoopIn.mk ((0 : Nat)) ?_ ?_) | (with_reducible refine LoopBack.mk ((k + 1 : Nat)) ?_ ?_ ?_)) )
 all_goals try ((with_reducible show l8 _ _); cbv; (try simp only [and_true, true_and]))
 all_goals (try simp only [St.nat, St.int, Tr.get, Nat.reduceMod, Nat.reduceDiv, Nat.one_ne_zero, if_false, if_true, ↓reduceIte] at *)
 all_goals try (repeat' with_reducible refine And.intro ?_ ?_)
 all_goals first | (refine retK h ?_; clear h; simp only [fin0]) | (with_reducible refine Ob.mk ?_; clear h) | (clear h)
 all_goals (try simp only [eta0, RT.bytes] at *)
 all_goals grind (splits := 30) [j3, b9, a6b, b1X, a3r, a3q, a1Y, n4, n3, inR]
theorem a0y : b8 Tryz.prog 28 P3 := j6 j4 (ss := [(72, B8), (73, a3b), (74, a5x), (75, a4I), (76, a9f), (77, sNetOk), (78, b5f)]) ⟨F3, a3n, b1U, a5X, b5P, okNetOk, c2L, trivial⟩ rfl rfl <| by
 intro (bs : Th (List Int)) (p : Th Int) ⟨(w : Th Wld), u⟩ K _ _ ho h
 obtain ⟨w, rfl⟩ := b6 w
 have ht := @E6 w.map w.table w.servers.length
 have hs := @a1x w.map w.stores
 have hs4 := @a8X w.map w.stores
 have he := b1p w
 refine ⟨annL [(28, 4, ⟨Nat, [], fun σ k => σ.t 3 (vI fun _ => (k : Int)), fun _ k _ => k ≤ w.stores.length ∧ A4 w.map w.table w.servers.length = true ∧ y1 w.map w.stores = true ∧ z8 w.map w.rows = true ∧ m4 k (a0K w) = true, fun _ k _ => w.stores.length - k⟩)], noAnn, 20, ?_⟩
 cbv
 repeat' first | ((with_reducible refine fun (k : Nat) => ?_); cbv) | ((with_reducible intro _); cbv) | (with_reducible refine And.intro ?_ ?_)
 all_goals try ((first | (with_reducible refine LoopIn.mk ((0 : Nat)) ?_ ?_) | (with_reducible refine LoopBack.mk ((k + 1 : Nat)) ?_ ?_ ?_)) )
 all_goals try ((with_reducible show l8 _ _); cbv; (try simp only [and_true, true_and]))
 all_goals (try simp only [St.nat, St.int, Tr.get, Nat.reduceMod, Nat.reduceDiv, Nat.one_ne_zero, if_false, if_true, ↓reduceIte] at *)
 all_goals try (repeat' with_reducible refine And.intro ?_ ?_)
 all_goals first | (refine retK h ?_; clear h; simp only [fin0]) | (with_reducible refine Ob.mk ?_; clear h) | (clear h)
 all_goals (try simp only [eta0, RT.bytes] at *)
 all_goals grind (splits := 30) [j3, b9, a5l, b4L, a0K, a1Y, n4, n3]
end Go.Proofs.YtkclfaldmghkeaaGreat
