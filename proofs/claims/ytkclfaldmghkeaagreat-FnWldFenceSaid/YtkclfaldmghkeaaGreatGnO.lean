/-
  Contracts: a server hears, the reference's way.
-/
import Derived.Test.YtkclfaldmghkeaaGreatGnC
import Derived.Test.YtkclfaldmghkeaaGreatGnJ
import Derived.Test.YtkclfaldmghkeaaGreatGnQs
import Derived.Test.YtkclfaldmghkeaaGreatM2
import Derived.Test.YtkclfaldmghkeaaGreatM3
set_option linter.unusedVariables false
set_option linter.unusedSimpArgs false
set_option maxRecDepth 100000
set_option maxHeartbeats 8000000
namespace Go.Proofs.YtkclfaldmghkeaaGreat
open Go.Sx Go.Proofs Go.Mo
noncomputable def b1B : Sx.Spec := ⟨false, false, [.map, .row .srv, .list .sto, .arb, .int .i64, .row .msg], [[none, some .hld, some .gst], [some .sto], [some .msg]], fun _ _ ⟨m, s, st, t, v, x, _⟩ =>
 .ret (.tup [rAs (a4Y fun _ => (D2 (m ()) (s ()) (st ()) (t ()) (v ()) (x ())).srv), vL .sto fun _ => (D2 (m ()) (s ()) (st ()) (t ()) (v ()) (x ())).stores, vL .msg fun _ => (D2 (m ()) (s ()) (st ()) (t ()) (v ()) (x ())).out], fun _ => 0)⟩
theorem b7F {t : RT} {l : Th (List t.ty)} {i : Th Int} {e : Th t.ty} {y : List t.ty} : (A1 t l i e = fun _ => y) ↔ (l ()).set (i ()).toNat (e ()) = y := ⟨fun h => congrFun h (), fun h => by funext u; exact h⟩
theorem got_eq {m : PMap} {t : Arb} {x : Msg} {n : Int} (hs : x.side = 0 ∨ x.side = 1) (hn : 1 ≤ n) : gotS m t x.cell x.side n = P4 m t x n := by
 have hw : IntKind.i64.wrap (1 - x.side) = 1 - x.side := b9 (by omega) (by omega)
 have h0 : ¬ n = 0 := by omega
 simp only [gotS, P4, hw, h0, or_false]
theorem b0e {m : PMap} {s : Srv} {st : List Sto} {v : Int} {x : Msg} (h1 : y9 m s = true) (h2 : y1 m st = true) (h4 : u0 m v x = true) :
  s.holds.length ≤ 9 ∧ (∀ h, a4a s.holds h = R5 s.holds h) ∧ 0 ≤ x.cell ∧ x.cell < st.length ∧ y4 m (nth .sto st x.cell.toNat) = true ∧
  (v7 s x.cell = true → O1 m (e9 s x.cell) = true ∧ (e9 s x.cell).state.cell = x.cell ∧ (e9 s x.cell).state.ins.length = 2) ∧
  (x.kind = 7 → a6p m s.m9 x.gst = a1t s.m9 x.gst) ∧ (x.kind = 1 → 1 ≤ x.n ∧ x.n ≤ 900) ∧ (x.kind = 5 → (x.side = 0 ∨ x.side = 1) ∧ 0 ≤ x.pcl.n) ∧
  (v7 s x.cell = true → x.side = 0 ∨ x.side = 1 → @LE.le Int _ 0 (nth .int (e9 s x.cell).state.ins x.side.toNat) ∧ @LE.le Int _ (nth .int (e9 s x.cell).state.ins x.side.toNat) 5000) := by
 have hm4 := h4
 have hf := a5q h1
 have hs := b0b h1
 simp only [u0, decide_eq_true_eq] at h4
 obtain ⟨hm, _, _, hc0, hc1, hkd⟩ := h4
 unfold y1 at h2
 rw [Bool.and_eq_true] at h2
 obtain ⟨ha, hb⟩ := h2
 simp only [decide_eq_true_eq] at ha
 have hcell : x.cell < st.length := by rw [ha.2]; exact hc1
 have hk := (k9 _ _).1 hb x.cell.toNat (by omega)
 simp only [a1y, Bool.and_eq_true] at hk
 have hold : v7 s x.cell = true → O1 m (e9 s x.cell) = true ∧ (e9 s x.cell).state.cell = x.cell ∧ (e9 s x.cell).state.ins.length = 2 := fun hh => by
  simp only [v7, decide_eq_true_eq] at hh
  have hlt := a2w s.holds x.cell
  have ho := a4E h1 (k := (j5 s.holds x.cell).toNat) (by omega)
  have hcc := a1R hh
  have hff := n0 (y0.1 ho).2.2
  rw [e9, if_pos hh]
  exact ⟨ho, hcc, hff.2.2.2.2.2.2.2.2⟩
 refine ⟨by omega, fun h => b8H hs, hc0, hcell, hk.1, hold, fun hk7 => ?_, fun hk1 => ?_, fun hk5 => ?_, fun hh hsd => ?_⟩
 ·have hg : B6 m s.m9 = true := by
   simp only [y9, R7, Bool.and_eq_true] at h1
   exact h1.1.1.2
  have hx : S4 m x.gst = true := by
   simp only [E0, decide_eq_true_eq] at hkd
   grind
  exact b8N hg hx
 ·simp only [E0, decide_eq_true_eq] at hkd
  grind
 ·have h5 := a1O hm4 (.inl hk5)
  have h6 := (x9 h5).1
  have h7 := c0H hm4 hk5
  refine ⟨h6, ?_⟩
  simp only [I3, decide_eq_true_eq] at h7
  omega
 ·exact b8D (y0.1 (hold hh).1).2.2 (by omega)
theorem b8f : b8 Tryz.prog 175 b1B := j6 j4 (ss := [(143, a6Y), (74, a5x), (73, a3b), (144, a6Z), (133, a5B), (131, a3a), (176, a9e), (221, b5j), (222, sWith), (206, b5l), (166, T8), (224, b1F), (225, a9c), (223, sGot)]) ⟨a9y, b1U, a3n, a9B, b1W, a8e, a9z, b8h, c2P, c2I, a2p, b5V, a5Z, okL11Got, trivial⟩ rfl rfl <| by
 intro (bs : Th (List Int)) (p : Th Int) ⟨(m : Th PMap), (s : Th Srv), (st : Th (List Sto)), (t : Th Arb), (v : Th Int), (x : Th Msg), u⟩ K _ _ ho h
 obtain ⟨m, rfl⟩ := b6 m; obtain ⟨s, rfl⟩ := b6 s; obtain ⟨st, rfl⟩ := b6 st; obtain ⟨t, rfl⟩ := b6 t; obtain ⟨v, rfl⟩ := b6 v; obtain ⟨x, rfl⟩ := b6 x
 refine ⟨noAnn, noAnn, 20, ?_⟩
 have hf := @b0e m s st v x
 cbv
 repeat' first | ((with_reducible intro _); cbv) | (with_reducible refine And.intro ?_ ?_)
 all_goals first | (refine retK h ?_; clear h; simp only [fin0]) | (with_reducible refine Ob.mk ?_; clear h) | (clear h)
 all_goals (try simp only [eta0, RT.bytes] at *)
 all_goals (try simp only [b7F] at *)
 all_goals (try clear bs p u K)
 all_goals (try simp only [Bool.not_eq_true', Bool.not_eq_false', bne_iff_ne, ne_eq] at *)
 all_goals (grind (splits := 40) [D2, n9, I7, T5, T4, A2, U6, a1b, a6d, u6, F6, s6, got_eq, b9, j3])
end Go.Proofs.YtkclfaldmghkeaaGreat
