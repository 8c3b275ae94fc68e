/-
  Contracts: a server hears, the reference's way.
-/
import Derived.Test.YtkclfaldmghkeaaGreatGnC
import Derived.Test.YtkclfaldmghkeaaGreatFnP
import Derived.Test.YtkclfaldmghkeaaGreatGnQs
import Derived.Test.YtkclfaldmghkeaaGreatM2
import Derived.Test.YtkclfaldmghkeaaGreatM3
set_option linter.unusedVariables false
set_option linter.unusedSimpArgs false
set_option maxRecDepth 100000
set_option maxHeartbeats 8000000
namespace Go.Proofs.YtkclfaldmghkeaaGreat
open Go.Sx Go.Proofs Go.Mo
noncomputable def b0T : Sx.Spec := ⟨false, false, [.map, .row .srv, .list .sto, .arb, .int .i64, .row .msg], [[none, some .hld, some .gst], [some .sto], [some .msg]], fun _ _ ⟨m, s, st, t, v, x, _⟩ =>
 .ret (.tup [rAs (a4y fun _ => (C9 (m ()) (s ()) (st ()) (t ()) (v ()) (x ())).srv), vL .sto fun _ => (C9 (m ()) (s ()) (st ()) (t ()) (v ()) (x ())).stores, vL .msg fun _ => (C9 (m ()) (s ()) (st ()) (t ()) (v ()) (x ())).out], fun _ => 0)⟩
theorem b6M {t : RT} {l : Th (List t.ty)} {i : Th Int} {e : Th t.ty} {y : List t.ty} : (y9 t l i e = fun _ => y) ↔ (l ()).set (i ()).toNat (e ()) = y := ⟨fun h => congrFun h (), fun h => by funext u; exact h⟩
theorem got_eq {m : PMap} {t : Arb} {x : Msg} {n : Int} (hs : x.side = 0 ∨ x.side = 1) (hn : 1 ≤ n) : gotS m t x.cell x.side n = O4 m t x n := by
 have hw : IntKind.i64.wrap (1 - x.side) = 1 - x.side := e8 (by omega) (by omega)
 have h0 : ¬ n = 0 := by omega
 simp only [gotS, O4, hw, h0, or_false]
theorem a9y {m : PMap} {s : Srv} {st : List Sto} {v : Int} {x : Msg} (h1 : y3 m s = true) (h2 : x7 m st = true) (h4 : s9 m v x = true) :
  s.holds.length ≤ 9 ∧ (∀ h, a3z s.holds h = Q1 s.holds h) ∧ 0 ≤ x.cell ∧ x.cell < st.length ∧ x8 m (nth .sto st x.cell.toNat) = true ∧
  (v5 s x.cell = true → N3 m (b9 s x.cell) = true ∧ (b9 s x.cell).state.cell = x.cell ∧ (b9 s x.cell).state.ins.length = 2) ∧
  (x.kind = 7 → a5P m s.n0 x.gst = a0X s.n0 x.gst) ∧ (x.kind = 1 → 1 ≤ x.n ∧ x.n ≤ 900) ∧ (x.kind = 5 → (x.side = 0 ∨ x.side = 1) ∧ 0 ≤ x.pcl.n) ∧
  (v5 s x.cell = true → x.side = 0 ∨ x.side = 1 → @LE.le Int _ 0 (nth .int (b9 s x.cell).state.ins x.side.toNat) ∧ @LE.le Int _ (nth .int (b9 s x.cell).state.ins x.side.toNat) 5000) := by
 have hm4 := h4
 have hf := a7W h1
 have hs := a9w h1
 simp only [s9, decide_eq_true_eq] at h4
 obtain ⟨hm, _, _, hc0, hc1, hkd⟩ := h4
 unfold x7 at h2
 rw [Bool.and_eq_true] at h2
 obtain ⟨ha, hb⟩ := h2
 simp only [decide_eq_true_eq] at ha
 have hcell : x.cell < st.length := by rw [ha.2]; exact hc1
 have hk := (j9 _ _).1 hb x.cell.toNat (by omega)
 simp only [a1d, Bool.and_eq_true] at hk
 have hold : v5 s x.cell = true → N3 m (b9 s x.cell) = true ∧ (b9 s x.cell).state.cell = x.cell ∧ (b9 s x.cell).state.ins.length = 2 := fun hh => by
  simp only [v5, decide_eq_true_eq] at hh
  have hlt := a1Z s.holds x.cell
  have ho := a4f h1 (k := (e9 s.holds x.cell).toNat) (by omega)
  have hcc := a1t hh
  have hff := n6 (y5.1 ho).2.2
  rw [b9, if_pos hh]
  exact ⟨ho, hcc, hff.2.2.2.2.2.2.2.2⟩
 refine ⟨by omega, fun h => b7K hs, hc0, hcell, hk.1, hold, fun hk7 => ?_, fun hk1 => ?_, fun hk5 => ?_, fun hh hsd => ?_⟩
 ·have hg : A9 m s.n0 = true := by
   simp only [y3, Q3, Bool.and_eq_true] at h1
   exact h1.1.1.2
  have hx : Y3 m x.gst = true := by
   simp only [E0, decide_eq_true_eq] at hkd
   grind
  exact b7Q hg hx
 ·simp only [E0, decide_eq_true_eq] at hkd
  grind
 ·have h5 := a1q hm4 (.inl hk5)
  have h6 := (x6 h5).1
  have h7 := b9M hm4 hk5
  refine ⟨h6, ?_⟩
  simp only [H5, decide_eq_true_eq] at h7
  omega
 ·exact b7G (y5.1 (hold hh).1).2.2 (by omega)
theorem b7n : b7 Tryz.prog 175 b0T := j8 j3 (ss := [(143, a6x), (74, a4V), (73, a2F), (144, a6z), (133, a4Z), (131, a2E), (176, a8C), (221, b4s), (222, sWith), (206, b4u), (166, X0), (224, b0V), (225, a8A), (223, sGot)]) ⟨a8X, b1l, a2R, a9a, b1n, a7D, a8Y, b7p, c1T, c1M, a1R, b5f, a5y, c4A, trivial⟩ rfl rfl <| by
 intro (bs : Th (List Int)) (p : Th Int) ⟨(m : Th PMap), (s : Th Srv), (st : Th (List Sto)), (t : Th Arb), (v : Th Int), (x : Th Msg), u⟩ K _ _ ho h
 obtain ⟨m, rfl⟩ := a8 m; obtain ⟨s, rfl⟩ := a8 s; obtain ⟨st, rfl⟩ := a8 st; obtain ⟨t, rfl⟩ := a8 t; obtain ⟨v, rfl⟩ := a8 v; obtain ⟨x, rfl⟩ := a8 x
 refine ⟨noAnn, noAnn, 20, ?_⟩
 have hf := @a9y m s st v x
 cbv
 repeat' first | ((with_reducible intro _); cbv) | (with_reducible refine And.intro ?_ ?_)
 all_goals first | (refine retK h ?_; clear h; simp only [fin0]) | (with_reducible refine Ob.mk ?_; clear h) | (clear h)
 all_goals (try simp only [eta0, RT.bytes] at *)
 all_goals (try simp only [b6M] at *)
 all_goals (try clear bs p u K)
 all_goals (try simp only [Bool.not_eq_true', Bool.not_eq_false', bne_iff_ne, ne_eq] at *)
 all_goals (grind (splits := 40) [C9, n5, I0, R4, R3, y8, S7, a0F, a5D, u5, E8, s5, got_eq, e8, j5])
end Go.Proofs.YtkclfaldmghkeaaGreat
