/-
  Contracts: a walker put among others.
-/
import Derived.Test.YtkclfaldmghkeaaGreatFnD
import Derived.Test.YtkclfaldmghkeaaGreatInsW
import Derived.Test.YtkclfaldmghkeaaGreatM1
import Derived.Test.YtkclfaldmghkeaaGreatFnFb
import Derived.Test.YtkclfaldmghkeaaGreatM2
import Derived.Test.YtkclfaldmghkeaaGreatGnC
import Derived.Test.YtkclfaldmghkeaaGreatM3
set_option linter.unusedVariables false
set_option linter.unusedSimpArgs false
set_option maxRecDepth 100000
set_option maxHeartbeats 8000000
namespace Go.Proofs.YtkclfaldmghkeaaGreat
open Go.Sx Go.Proofs Go.Mo
noncomputable def a0x : Sx.Spec := ⟨false, true, [.list .wlk, .row .wlk], [[some .wlk]], fun _ _ ⟨l, w, _⟩ => .asrt (fun _ => ((l ()).length + 1) * 40 ≤ 140737488355328) (.ret (vW .wlk fun _ => I7 (l ()) (w ()), fun _ => 0))⟩
theorem a6K : b7 Tryz.prog 66 a0x := j8 j3 (ss := [(134, a0y)]) ⟨b1k, trivial⟩ rfl rfl <| by
 intro (bs : Th (List Int)) (p : Th Int) ⟨(l : Th (List Wlk)), (w : Th Wlk), u⟩ K _ _ ho h
 obtain ⟨l, rfl⟩ := a8 l; obtain ⟨w, rfl⟩ := a8 w
 obtain ⟨hp, h⟩ := h
 have hp := hp.out
 have hl := a1F l w.id
 have hz := c1o (B2 l w.id) w
 refine ⟨annL [(66, 5, ⟨Nat, [⟨.tmp 6 0, some 14, .wlk⟩], fun σ k => ((((σ.fg 14).t 8 (vI fun _ => (k : Int))).t 6 (vO 14 1)).t 7 (vB fun _ => v7 (B2 l w.id) w k)).row 14 1 .wlk (fun _ => J5 (B2 l w.id) w k), fun _ k _ => k ≤ (B2 l w.id).length, fun _ k _ => (B2 l w.id).length - k⟩)], noAnn, 20, ?_⟩
 cbv
 repeat' first | ((with_reducible refine fun (k : Nat) => ?_); cbv) | ((with_reducible intro _); cbv) | (with_reducible refine And.intro ?_ ?_)
 all_goals try ((first | (with_reducible refine LoopIn.mk ((0 : Nat)) ?_ ?_) | (with_reducible refine LoopBack.mk ((k + 1 : Nat)) ?_ ?_ ?_)) )
 all_goals try ((with_reducible show m6 _ _); cbv; (try simp only [and_true, true_and]))
 all_goals try (repeat' with_reducible refine And.intro ?_ ?_)
 all_goals first | (refine retK h ?_; clear h; simp only [fin0]) | (with_reducible refine Ob.mk ?_; clear h) | (clear h)
 all_goals (try simp only [eta0, RT.bytes] at *)
 all_goals grind [b6U, b2B, a7x, a7w, a7v, b0v, b0u, b0t, b6Y, b6X, b6V, j5, b0F]
theorem a8T : b7 Tryz.prog 189 a0x := j8 j3 (ss := [(187, a0y), (92, a4Y), (214, .raw (insM .wlk))]) ⟨a5u, b5l, c4B, trivial⟩ rfl rfl <| by
 intro (bs : Th (List Int)) (p : Th Int) ⟨(l : Th (List Wlk)), (w : Th Wlk), u⟩ K _ _ ho h
 obtain ⟨l, rfl⟩ := a8 l; obtain ⟨w, rfl⟩ := a8 w
 obtain ⟨hp, h⟩ := h
 have hp := hp.out
 have hl := a1F l w.id
 have hlt := b6s (B2 l w.id) w.id
 refine ⟨annL [(94, 2, ⟨Nat, [], fun σ k => σ.t 8 (vI fun _ => (k : Int)), fun _ k _ => k ≤ (B2 l w.id).length ∧ l8 k (nab (B2 l w.id) w.id) = true, fun _ k _ => (B2 l w.id).length - k⟩)], noAnn, 20, ?_⟩
 cbv
 repeat' first | ((with_reducible refine fun (k : Nat) => ?_); cbv) | ((with_reducible intro _); cbv) | (with_reducible refine And.intro ?_ ?_)
 all_goals try ((first | (with_reducible refine LoopIn.mk ((0 : Nat)) ?_ ?_) | (with_reducible refine LoopBack.mk ((k + 1 : Nat)) ?_ ?_ ?_)) )
 all_goals try ((with_reducible show m6 _ _); cbv; (try simp only [and_true, true_and]))
 all_goals try (repeat' with_reducible refine And.intro ?_ ?_)
 all_goals first | (refine retK h ?_; clear h; simp only [fin0]) | (with_reducible refine Ob.mk ?_; clear h) | (clear h)
 all_goals (try simp only [eta0, RT.bytes] at *)
 all_goals grind [m8, m7, nab, P6, b6t, b8r, b0F, z8, a9s, j5]
theorem a2Q : b7 Tryz.prog 50 a1N := j8 j3 (ss := [(72, B6), (110, sIn), (111, W9), (112, D0), (113, b8T)]) ⟨E5, F9, Z1, K6, c4x, trivial⟩ rfl rfl <| by
 intro (bs : Th (List Int)) (p : Th Int) ⟨(m : Th PMap), (c : Th Cll), u⟩ K _ _ ho h
 obtain ⟨m, rfl⟩ := a8 m; obtain ⟨c, rfl⟩ := a8 c
 obtain ⟨hw, hou, hoi, hn, hi, _, _⟩ := b1o ho.2.1
 have hi := r6 (m := m)
 refine ⟨annL [(50, 4, ⟨Nat, [], fun σ k => (σ.t 5 (vI fun _ => (k : Int))), fun _ k _ => k ≤ c.wlks.length ∧ W6 m c = true ∧ l8 k (a2k m c) = true, fun _ k _ => c.wlks.length - k⟩)], noAnn, 20, ?_⟩
 cbv
 repeat' first | ((with_reducible refine fun (k : Nat) => ?_); cbv) | ((with_reducible intro _); cbv) | (with_reducible refine And.intro ?_ ?_)
 all_goals try ((first | (with_reducible refine LoopIn.mk ((0 : Nat)) ?_ ?_) | (with_reducible refine LoopBack.mk ((k + 1 : Nat)) ?_ ?_ ?_)) )
 all_goals try ((with_reducible show m6 _ _); cbv; (try simp only [and_true, true_and]))
 all_goals try (repeat' with_reducible refine And.intro ?_ ?_)
 all_goals first | (refine retK h ?_; clear h; simp only [fin0]) | (with_reducible refine Ob.mk ?_; clear h) | (clear h)
 all_goals (try simp only [eta0, RT.bytes] at *)
 all_goals grind [inR, m8, m7, a2k, W6, q9, b0a, a9Z, j5, e8]
noncomputable def b4u : Sx.Spec := ⟨false, true, [.map, .list .gst, .row .gst], [[some .gst]], fun _ _ ⟨m, l, g, _⟩ => .ret (vW .gst fun _ => a5P (m ()) (l ()) (g ()), fun _ => 0)⟩
theorem c1M : b7 Tryz.prog 206 b4u := j8 j3 (ss := [(182, a8G), (185, a4k), (211, a1k)]) ⟨b1m, a9c, b5j, trivial⟩ rfl rfl <| by
 intro (bs : Th (List Int)) (p : Th Int) ⟨(m : Th PMap), (l : Th (List Gst)), (g : Th Gst), u⟩ K _ _ ho h
 obtain ⟨m, rfl⟩ := a8 m; obtain ⟨l, rfl⟩ := a8 l; obtain ⟨g, rfl⟩ := a8 g
 have hl := okB (ho.2.1 _ (.head _))
 have hz := c5I l g
 have hlong : 20 < l.length → A9 m l = false := fun h => a6Z h
 refine ⟨annL [(206, 6, ⟨Nat, [⟨.tmp 7 0, some 23, .gst⟩], fun σ k => ((((σ.fg 23).t 9 (vI fun _ => (k : Int))).t 7 (vO 23 1)).t 8 (vB fun _ => (gpTo l g k).d)).row 23 1 .gst (fun _ => (gpTo l g k).l), fun _ k _ => k ≤ l.length ∧ l.length ≤ 20 ∧ A9 m l = true ∧ Y3 m g = true, fun _ k _ => l.length - k⟩)], noAnn, 20, ?_⟩
 cbv
 repeat' first | ((with_reducible refine fun (k : Nat) => ?_); cbv) | ((with_reducible intro _); cbv) | (with_reducible refine And.intro ?_ ?_)
 all_goals try ((first | (with_reducible refine LoopIn.mk ((0 : Nat)) ?_ ?_) | (with_reducible refine LoopBack.mk ((k + 1 : Nat)) ?_ ?_ ?_)) )
 all_goals try ((with_reducible show m6 _ _); cbv; (try simp only [and_true, true_and]))
 all_goals try (repeat' with_reducible refine And.intro ?_ ?_)
 all_goals first | (refine retK h ?_; clear h; simp only [fin0]) | (with_reducible refine Ob.mk ?_; clear h) | (clear h)
 all_goals (try simp only [eta0, RT.bytes] at *)
 all_goals grind (splits := 30) [j5, e8, c2z, a7a, N6, b9W, a5P]
def gotS (m : PMap) (t : Arb) (cell side n : Int) : List Msg :=
 if n4 t (b6 m cell side) = -1 ∨ n = 0 then [] else [⟨6, n4 t (b6 m cell side), b6 m cell side, IntKind.i64.wrap (1 - side), n, s5, u5, E8⟩]
noncomputable def sGot : Sx.Spec := ⟨false, true, [.map, .arb, .int .i64, .int .i64, .int .i64], [[some .msg]], fun _ _ ⟨m, t, c, s, n, _⟩ => .ret (vW .msg fun _ => gotS (m ()) (t ()) (c ()) (s ()) (n ()), fun _ => 0)⟩
theorem c4A : b7 Tryz.prog 223 sGot := j8 j3 (ss := [(116, E2), (140, I1)]) ⟨U8, S1, trivial⟩ rfl rfl <| by
 intro (bs : Th (List Int)) (p : Th Int) ⟨(m : Th PMap), (t : Th Arb), (c : Th Int), (s : Th Int), (n : Th Int), u⟩ K _ _ ho h
 obtain ⟨m, rfl⟩ := a8 m; obtain ⟨t, rfl⟩ := a8 t; obtain ⟨c, rfl⟩ := a8 c; obtain ⟨s, rfl⟩ := a8 s; obtain ⟨n, rfl⟩ := a8 n
 refine ⟨noAnn, noAnn, 20, ?_⟩
 cbv
 repeat' first | ((with_reducible intro _); cbv) | (with_reducible refine And.intro ?_ ?_)
 all_goals first | (refine retK h ?_; clear h; simp only [fin0]) | (with_reducible refine Ob.mk ?_; clear h) | (clear h)
 all_goals (try simp only [eta0, RT.bytes] at *)
 all_goals grind [gotS, s5, u5, E8]
noncomputable def a3N : Sx.Spec := ⟨true, false, [.int .i64], [], fun _ p ⟨n, _⟩ => .asrt (fun _ => 0 ≤ p () ∧ p () ≤ 1000000001000) (.all Int fun x => .all Int fun q => .asm (fun _ => 0 ≤ x ∧ (1 ≤ n () → x < n ()) ∧ (n () < 1 → x = 0) ∧ q = p () + 1) (.ret (vI fun _ => x, fun _ => q)))⟩
noncomputable def c3I : Sx.Spec := ⟨true, false, [], [], fun _ p _ => .asrt (fun _ => 0 ≤ p () ∧ p () ≤ 1000000000900) (.all Int fun x0 => .all Int fun x1 => .all Int fun x2 => .all Int fun x3 => .all Int fun x4 => .all Int fun q => .asm (fun _ => p () ≤ q ∧ q ≤ p () + 20) (.ret (.agg [cI x0, cI x1, cI x2, cI x3, cI x4], fun _ => q)))⟩
theorem a1S : b7 Tryz.prog 27 a3N := j8 j3 (ss := []) trivial rfl rfl <| by
 intro (bs : Th (List Int)) (p : Th Int) ⟨(n : Th Int), u⟩ K hb hp0 ho h
 obtain ⟨n, rfl⟩ := a8 n; obtain ⟨bs, rfl⟩ := a8 bs; obtain ⟨p, rfl⟩ := a8 p
 obtain ⟨hpre, h⟩ := h
 have hpre : 0 ≤ p ∧ p ≤ 1000000001000 := hpre.out
 have hbl := okB hb
 have hby := okByte hb
 have hw1 : IntKind.i64.wrap (p + 1) = p + 1 := e8 (by omega) (by omega)
 have hw2 : IntKind.i64.wrap (p + 1 - 1) = p := by rw [e8 (by omega) (by omega)]; omega
 have hw3 : IntKind.i64.wrap (IntKind.i64.wrap (p * 7) + 3) = p * 7 + 3 := by rw [e8 (n := p * 7) (by omega) (by omega), e8 (by omega) (by omega)]
 have hwb : ∀ i, i < bs.length → @LE.le Int _ 0 (IntKind.i64.wrap (nth .byte bs i)) ∧ @LE.le Int _ (IntKind.i64.wrap (nth .byte bs i)) 255 := fun i hi => by
  have h1 := hby i hi
  have h2 : IntKind.i64.wrap (nth .byte bs i) = nth .byte bs i := e8 (Int.le_trans (by decide) h1.1) (Int.le_trans h1.2 (by decide))
  rw [h2]
  exact h1
 have hA : ¬ n < 1 → p < (bs.length : Int) → 0 ≤ (IntKind.i64.wrap (nth .byte bs p.toNat)).tmod n ∧ (IntKind.i64.wrap (nth .byte bs p.toNat)).tmod n < n := fun hn hlt => tm (hwb _ (by omega)).1 (by omega)
 have hC : ¬ (bs.length : Int) = 0 → (0 ≤ p.tmod bs.length ∧ p.tmod bs.length < bs.length) ∧ (0 ≤ (p * 7 + 3).tmod bs.length ∧ (p * 7 + 3).tmod bs.length < bs.length) := fun h0 => ⟨tm (by omega) (by omega), tm (by omega) (by omega)⟩
 have hF : ¬ n < 1 → ¬ (bs.length : Int) = 0 → _ := fun hn h0 => @c3X bs.length p (IntKind.i64.wrap (nth .byte bs (p.tmod bs.length).toNat)) (IntKind.i64.wrap (nth .byte bs ((p * 7 + 3).tmod bs.length).toNat)) n (by omega) (by omega) (by omega)
  (hwb _ (by have := (hC h0).1; omega)) (hwb _ (by have := (hC h0).2; omega)) (by omega) _ rfl
 refine ⟨noAnn, noAnn, 20, ?_⟩
 cbv
 repeat' first | ((with_reducible intro _); cbv) | (with_reducible refine And.intro ?_ ?_)
 all_goals first | (refine retK (h _ _ ?_) rfl; clear h) | (with_reducible refine Ob.mk ?_; clear h) | (clear h)
 all_goals (try simp only [eta0, RT.bytes] at *)
 all_goals (try simp only [hw1, hw2, hw3])
 all_goals first | omega | exact (hC (by assumption)).1 | exact (hC (by assumption)).2 | exact ⟨by omega, fun _ => by omega, fun _ => trivial, trivial⟩ | exact ⟨by omega, fun _ => by omega, fun _ => trivial⟩ |
  exact ⟨(hA (by assumption) (by assumption)).1, fun _ => (hA (by assumption) (by assumption)).2, fun hh => absurd hh (by assumption), trivial⟩ | exact ⟨(hF (by assumption) (by assumption)).1, fun _ => (hF (by assumption) (by assumption)).2, fun hh => absurd hh (by assumption), trivial⟩ | grind [e8, tm]
theorem c7w : b7 Tryz.prog 181 c3I := j8 j3 (ss := [(27, a3N)]) ⟨a1S, trivial⟩ rfl rfl <| by
 intro (bs : Th (List Int)) (p : Th Int) u K hb hp0 ho h
 obtain ⟨bs, rfl⟩ := a8 bs; obtain ⟨p, rfl⟩ := a8 p
 obtain ⟨hpre, h⟩ := h
 have hpre : 0 ≤ p ∧ p ≤ 1000000000900 := hpre.out
 refine ⟨noAnn, noAnn, 20, ?_⟩
 cbv
 repeat' first | ((with_reducible intro _); cbv) | (with_reducible refine And.intro ?_ ?_)
 all_goals first | (refine retK (h _ _ _ _ _ _ ?_) rfl; clear h) | (with_reducible refine Ob.mk ?_; clear h) | (clear h)
 all_goals (try simp only [eta0, RT.bytes] at *)
 all_goals first | omega | grind [e8, tm]
end Go.Proofs.YtkclfaldmghkeaaGreat
