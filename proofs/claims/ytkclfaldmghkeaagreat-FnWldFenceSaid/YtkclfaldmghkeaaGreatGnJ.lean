/-
  Contracts: a walker put among others.
-/
import Derived.Test.YtkclfaldmghkeaaGreatFnD
import Derived.Test.YtkclfaldmghkeaaGreatInsW
import Derived.Test.YtkclfaldmghkeaaGreatM1
import Derived.Test.YtkclfaldmghkeaaGreatFnFb
import Derived.Test.YtkclfaldmghkeaaGreatM2
import Derived.Test.YtkclfaldmghkeaaGreatGnC
set_option linter.unusedVariables false
set_option linter.unusedSimpArgs false
set_option maxRecDepth 100000
set_option maxHeartbeats 8000000
namespace Go.Proofs.YtkclfaldmghkeaaGreat
open Go.Sx Go.Proofs Go.Mo
noncomputable def a0S : Sx.Spec := ⟨false, true, [.list .wlk, .row .wlk], [[some .wlk]], fun _ _ ⟨l, w, _⟩ => .asrt (fun _ => ((l ()).length + 1) * 40 ≤ 140737488355328) (.ret (vW .wlk fun _ => J5 (l ()) (w ()), fun _ => 0))⟩
theorem a7m : b8 Tryz.prog 66 a0S := j6 j4 (ss := [(134, a0T)]) ⟨b1T, trivial⟩ rfl rfl <| by
 intro (bs : Th (List Int)) (p : Th Int) ⟨(l : Th (List Wlk)), (w : Th Wlk), u⟩ K _ _ ho h
 obtain ⟨l, rfl⟩ := b6 l; obtain ⟨w, rfl⟩ := b6 w
 obtain ⟨hp, h⟩ := h
 have hp := hp.out
 have hl := a2d l w.id
 have hz := c2k (B9 l w.id) w
 refine ⟨annL [(66, 5, ⟨Nat, [⟨.tmp 6 0, some 14, .wlk⟩], fun σ k => ((((σ.fg 14).t 8 (vI fun _ => (k : Int))).t 6 (vO 14 1)).t 7 (vB fun _ => v8 (B9 l w.id) w k)).row 14 1 .wlk (fun _ => K5 (B9 l w.id) w k), fun _ k _ => k ≤ (B9 l w.id).length, fun _ k _ => (B9 l w.id).length - k⟩)], noAnn, 20, ?_⟩
 cbv
 repeat' first | ((with_reducible refine fun (k : Nat) => ?_); cbv) | ((with_reducible intro _); cbv) | (with_reducible refine And.intro ?_ ?_)
 all_goals try ((first | (with_reducible refine LoopIn.mk ((0 : Nat)) ?_ ?_) | (with_reducible refine LoopBack.mk ((k + 1 : Nat)) ?_ ?_ ?_)) )
 all_goals try ((with_reducible show l8 _ _); cbv; (try simp only [and_true, true_and]))
 all_goals try (repeat' with_reducible refine And.intro ?_ ?_)
 all_goals first | (refine retK h ?_; clear h; simp only [fin0]) | (with_reducible refine Ob.mk ?_; clear h) | (clear h)
 all_goals (try simp only [eta0, RT.bytes] at *)
 all_goals grind [b7N, b3o, a7Y, a7X, a7W, b1b, b1a, b0Z, b7R, b7Q, b7O, j3, b1o]
theorem a9w : b8 Tryz.prog 189 a0S := j6 j4 (ss := [(187, a0T), (92, a5A), (214, .raw (insM .wlk))]) ⟨a5V, b6e, okInsert, trivial⟩ rfl rfl <| by
 intro (bs : Th (List Int)) (p : Th Int) ⟨(l : Th (List Wlk)), (w : Th Wlk), u⟩ K _ _ ho h
 obtain ⟨l, rfl⟩ := b6 l; obtain ⟨w, rfl⟩ := b6 w
 obtain ⟨hp, h⟩ := h
 have hp := hp.out
 have hl := a2d l w.id
 have hlt := b7m (B9 l w.id) w.id
 refine ⟨annL [(94, 2, ⟨Nat, [], fun σ k => σ.t 8 (vI fun _ => (k : Int)), fun _ k _ => k ≤ (B9 l w.id).length ∧ m4 k (nab (B9 l w.id) w.id) = true, fun _ k _ => (B9 l w.id).length - k⟩)], noAnn, 20, ?_⟩
 cbv
 repeat' first | ((with_reducible refine fun (k : Nat) => ?_); cbv) | ((with_reducible intro _); cbv) | (with_reducible refine And.intro ?_ ?_)
 all_goals try ((first | (with_reducible refine LoopIn.mk ((0 : Nat)) ?_ ?_) | (with_reducible refine LoopBack.mk ((k + 1 : Nat)) ?_ ?_ ?_)) )
 all_goals try ((with_reducible show l8 _ _); cbv; (try simp only [and_true, true_and]))
 all_goals try (repeat' with_reducible refine And.intro ?_ ?_)
 all_goals first | (refine retK h ?_; clear h; simp only [fin0]) | (with_reducible refine Ob.mk ?_; clear h) | (clear h)
 all_goals (try simp only [eta0, RT.bytes] at *)
 all_goals grind [n4, n3, nab, Q7, b7n, b9p, b1o, A7, a9X, j3]
theorem a3m : b8 Tryz.prog 50 a1n := j6 j4 (ss := [(72, B8), (110, sIn), (111, Y5), (112, D3), (113, b9P)]) ⟨F3, G8, a0i, L5, okL5Side, trivial⟩ rfl rfl <| by
 intro (bs : Th (List Int)) (p : Th Int) ⟨(m : Th PMap), (c : Th Cll), u⟩ K _ _ ho h
 obtain ⟨m, rfl⟩ := b6 m; obtain ⟨c, rfl⟩ := b6 c
 obtain ⟨hw, hou, hoi, hn, hi, _, _⟩ := a9J ho.2.1
 have hi := p5 (m := m)
 refine ⟨annL [(50, 4, ⟨Nat, [], fun σ k => (σ.t 5 (vI fun _ => (k : Int))), fun _ k _ => k ≤ c.wlks.length ∧ Y2 m c = true ∧ m4 k (a2H m c) = true, fun _ k _ => c.wlks.length - k⟩)], noAnn, 20, ?_⟩
 cbv
 repeat' first | ((with_reducible refine fun (k : Nat) => ?_); cbv) | ((with_reducible intro _); cbv) | (with_reducible refine And.intro ?_ ?_)
 all_goals try ((first | (with_reducible refine LoopIn.mk ((0 : Nat)) ?_ ?_) | (with_reducible refine LoopBack.mk ((k + 1 : Nat)) ?_ ?_ ?_)) )
 all_goals try ((with_reducible show l8 _ _); cbv; (try simp only [and_true, true_and]))
 all_goals try (repeat' with_reducible refine And.intro ?_ ?_)
 all_goals first | (refine retK h ?_; clear h; simp only [fin0]) | (with_reducible refine Ob.mk ?_; clear h) | (clear h)
 all_goals (try simp only [eta0, RT.bytes] at *)
 all_goals grind [inR, n4, n3, a2H, Y2, r7, b0F, b0E, j3, b9]
noncomputable def b5l : Sx.Spec := ⟨false, true, [.map, .list .gst, .row .gst], [[some .gst]], fun _ _ ⟨m, l, g, _⟩ => .ret (vW .gst fun _ => a6p (m ()) (l ()) (g ()), fun _ => 0)⟩
theorem c2I : b8 Tryz.prog 206 b5l := j6 j4 (ss := [(182, a9j), (185, a2Z), (211, a1G)]) ⟨b1V, a9D, b5Z, trivial⟩ rfl rfl <| by
 intro (bs : Th (List Int)) (p : Th Int) ⟨(m : Th PMap), (l : Th (List Gst)), (g : Th Gst), u⟩ K _ _ ho h
 obtain ⟨m, rfl⟩ := b6 m; obtain ⟨l, rfl⟩ := b6 l; obtain ⟨g, rfl⟩ := b6 g
 have hl := okB (ho.2.1 _ (.head _))
 have hz := gpTo_len l g
 have hlong : 20 < l.length → B6 m l = false := fun h => a7A h
 refine ⟨annL [(206, 6, ⟨Nat, [⟨.tmp 7 0, some 23, .gst⟩], fun σ k => ((((σ.fg 23).t 9 (vI fun _ => (k : Int))).t 7 (vO 23 1)).t 8 (vB fun _ => (gpTo l g k).d)).row 23 1 .gst (fun _ => (gpTo l g k).l), fun _ k _ => k ≤ l.length ∧ l.length ≤ 20 ∧ B6 m l = true ∧ S4 m g = true, fun _ k _ => l.length - k⟩)], noAnn, 20, ?_⟩
 cbv
 repeat' first | ((with_reducible refine fun (k : Nat) => ?_); cbv) | ((with_reducible intro _); cbv) | (with_reducible refine And.intro ?_ ?_)
 all_goals try ((first | (with_reducible refine LoopIn.mk ((0 : Nat)) ?_ ?_) | (with_reducible refine LoopBack.mk ((k + 1 : Nat)) ?_ ?_ ?_)) )
 all_goals try ((with_reducible show l8 _ _); cbv; (try simp only [and_true, true_and]))
 all_goals try (repeat' with_reducible refine And.intro ?_ ?_)
 all_goals first | (refine retK h ?_; clear h; simp only [fin0]) | (with_reducible refine Ob.mk ?_; clear h) | (clear h)
 all_goals (try simp only [eta0, RT.bytes] at *)
 all_goals grind (splits := 30) [j3, b9, gpTo_zero, a7B, O4, c0S, a6p]
def gotS (m : PMap) (t : Arb) (cell side n : Int) : List Msg :=
 if n8 t (b7 m cell side) = -1 ∨ n = 0 then [] else [⟨6, n8 t (b7 m cell side), b7 m cell side, IntKind.i64.wrap (1 - side), n, s6, u6, F6⟩]
noncomputable def sGot : Sx.Spec := ⟨false, true, [.map, .arb, .int .i64, .int .i64, .int .i64], [[some .msg]], fun _ _ ⟨m, t, c, s, n, _⟩ => .ret (vW .msg fun _ => gotS (m ()) (t ()) (c ()) (s ()) (n ()), fun _ => 0)⟩
theorem okL11Got : b8 Tryz.prog 223 sGot := j6 j4 (ss := [(116, E7), (140, I8)]) ⟨W5, U2, trivial⟩ rfl rfl <| by
 intro (bs : Th (List Int)) (p : Th Int) ⟨(m : Th PMap), (t : Th Arb), (c : Th Int), (s : Th Int), (n : Th Int), u⟩ K _ _ ho h
 obtain ⟨m, rfl⟩ := b6 m; obtain ⟨t, rfl⟩ := b6 t; obtain ⟨c, rfl⟩ := b6 c; obtain ⟨s, rfl⟩ := b6 s; obtain ⟨n, rfl⟩ := b6 n
 refine ⟨noAnn, noAnn, 20, ?_⟩
 cbv
 repeat' first | ((with_reducible intro _); cbv) | (with_reducible refine And.intro ?_ ?_)
 all_goals first | (refine retK h ?_; clear h; simp only [fin0]) | (with_reducible refine Ob.mk ?_; clear h) | (clear h)
 all_goals (try simp only [eta0, RT.bytes] at *)
 all_goals grind [gotS, s6, u6, F6]
end Go.Proofs.YtkclfaldmghkeaaGreat
