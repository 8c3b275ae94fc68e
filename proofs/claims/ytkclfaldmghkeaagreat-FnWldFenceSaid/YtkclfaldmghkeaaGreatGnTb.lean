/-
  What a server hears, the program's way: holds put in and taken out, and plain facts.
-/
import Derived.Test.YtkclfaldmghkeaaGreatGnC
import Derived.Test.YtkclfaldmghkeaaGreatGnH
import Derived.Test.YtkclfaldmghkeaaGreatGnM
import Derived.Test.YtkclfaldmghkeaaGreatGnO
import Derived.Test.YtkclfaldmghkeaaGreatGnP
import Derived.Test.YtkclfaldmghkeaaGreatGnQs
import Derived.Test.YtkclfaldmghkeaaGreatM3
import Derived.Test.YtkclfaldmghkeaaGreatGrT
import Derived.Test.YtkclfaldmghkeaaGreatM2
set_option linter.unusedVariables false
set_option linter.unusedSimpArgs false
set_option maxRecDepth 100000
set_option maxHeartbeats 8000000
namespace Go.Proofs.YtkclfaldmghkeaaGreat
open Go.Sx Go.Proofs Go.Mo
noncomputable def b1E : SpecX := .raw (b4J (insM .hld))
theorem b8o : b8 Tryz.prog 216 b1E := b2T c2T ⟨_, _, Tryz.func216, by kernel_rfl, rfl⟩
noncomputable def b1G : SpecX := .raw (b4J (delM .hld))
theorem b8q : b8 Tryz.prog 219 b1G := b2T c2W ⟨_, _, Tryz.func219, by kernel_rfl, rfl⟩
theorem del_erase {l : List Hld} {c : Int} (hs : HSort l) (hp : 0 ≤ j5 l c) : C8 l c = l.eraseIdx (j5 l c).toNat := by
 have hlt := a2w l c
 have hcc := a1R hp
 have hj : (j5 l c).toNat < l.length := by omega
 generalize (j5 l c).toNat = j at *
 unfold C8
 have hl : l = l.take j ++ nth .hld l j :: l.drop (j + 1) := by
  rw [k8 .hld l j hj, ← List.drop_eq_getElem_cons hj, List.take_append_drop]
 have hs2 := hs
 rw [hl] at hs2
 obtain ⟨a1, a2, a3⟩ := List.pairwise_append.1 hs2
 have b1 := List.pairwise_cons.1 a2
 have t1 : (l.take j).filter (fun h => decide (h.state.cell ≠ c)) = l.take j := List.filter_eq_self.2 fun y hy => by
  have := a3 y hy _ (List.mem_cons_self ..)
  simp only [ne_eq, decide_eq_true_eq]
  omega
 have t2 : (l.drop (j + 1)).filter (fun h => decide (h.state.cell ≠ c)) = l.drop (j + 1) := List.filter_eq_self.2 fun y hy => by
  have := b1.1 y hy
  simp only [ne_eq, decide_eq_true_eq]
  omega
 rw [List.eraseIdx_eq_take_drop_succ]
 conv => lhs; rw [hl]
 rw [List.filter_append, List.filter_cons, t1, t2]
 simp [hcc]
theorem b6B {m : PMap} {s : Srv} {st : List Sto} {v : Int} {x : Msg} (h1 : y9 m s = true) (h2 : y1 m st = true) (h4 : u0 m v x = true) :
  s.holds.length ≤ 4 ∧ 0 ≤ x.cell ∧ x.cell < st.length ∧ j5 s.holds x.cell < s.holds.length ∧ y4 m (nth .sto st x.cell.toNat) = true ∧
  (0 ≤ j5 s.holds x.cell → O1 m (nth .hld s.holds (j5 s.holds x.cell).toNat) = true ∧ (nth .hld s.holds (j5 s.holds x.cell).toNat).state.ins.length = 2 ∧ r7 m (nth .hld s.holds (j5 s.holds x.cell).toNat).state = true ∧ 0 ≤ (nth .hld s.holds (j5 s.holds x.cell).toNat).count ∧ (nth .hld s.holds (j5 s.holds x.cell).toNat).count ≤ 250) ∧
  (0 ≤ j5 s.holds x.cell → ∀ (a b : Int) (c : Cll), c.cell = (nth .hld s.holds (j5 s.holds x.cell).toNat).state.cell → R5 s.holds ⟨a, b, c⟩ = s.holds.set (j5 s.holds x.cell).toNat ⟨a, b, c⟩) ∧
  (0 ≤ j5 s.holds x.cell → ∀ (a b : Int), R5 s.holds ⟨a, b, q9 m (nth .sto st x.cell.toNat)⟩ = s.holds.set (j5 s.holds x.cell).toNat ⟨a, b, q9 m (nth .sto st x.cell.toNat)⟩) ∧
  (¬ 0 ≤ j5 s.holds x.cell → ∀ (k : Nat) (a b : Int), k ≤ s.holds.length → m4 k (a3G s.holds x.cell) = true → (k < s.holds.length → ¬ (nth .hld s.holds k).state.cell < x.cell) → R5 s.holds ⟨a, b, q9 m (nth .sto st x.cell.toNat)⟩ = insL s.holds k [⟨a, b, q9 m (nth .sto st x.cell.toNat)⟩]) ∧
  (0 ≤ j5 s.holds x.cell → C8 s.holds x.cell = s.holds.eraseIdx (j5 s.holds x.cell).toNat) ∧
  (x.kind = 1 → 1 ≤ x.n ∧ x.n ≤ 900 ∧ y4 m ⟨x.n, (nth .sto st x.cell.toNat).base, (nth .sto st x.cell.toNat).recs⟩ = true ∧ q9 m ⟨x.n, (nth .sto st x.cell.toNat).base, (nth .sto st x.cell.toNat).recs⟩ = q9 m (nth .sto st x.cell.toNat)) ∧
  (x.kind = 5 → (x.side = 0 ∨ x.side = 1) ∧ 0 ≤ x.pcl.n) ∧
  (0 ≤ j5 s.holds x.cell → x.side = 0 ∨ x.side = 1 → @LE.le Int _ 0 (nth .int (nth .hld s.holds (j5 s.holds x.cell).toNat).state.ins x.side.toNat) ∧ @LE.le Int _ (nth .int (nth .hld s.holds (j5 s.holds x.cell).toNat).state.ins x.side.toNat) 5000) := by
 have hf := b0e h1 h2 h4
 obtain ⟨f1, f2, f3, f4, f5, f6, f7, f8, f9, f10⟩ := hf
 have hlt := a2w s.holds x.cell
 have hb : (nth .sto st x.cell.toNat).base.cell = x.cell := by
  have := ((z7.1 h2).2.2 x.cell.toNat (by omega)).2
  omega
 have hsc : (q9 m (nth .sto st x.cell.toNat)).cell = x.cell := by rw [a0w, hb]
 have hH : 0 ≤ j5 s.holds x.cell → v7 s x.cell = true ∧ e9 s x.cell = nth .hld s.holds (j5 s.holds x.cell).toNat := fun hp => ⟨by simp [v7, hp], by unfold e9; rw [if_pos hp]⟩
 refine ⟨a5q h1, f3, f4, hlt.2, f5, fun hp => ?_, fun hp a b c hc => ?_, fun hp a b => ?_, fun hp k a b hk ha hl => ?_, fun hp => ?_, fun hk => ?_, f9, fun hp hsd => ?_⟩
 ·have := f6 (hH hp).1
  rw [(hH hp).2] at this
  have hh := y0.1 this.1
  exact ⟨this.1, this.2.2, hh.2.2, hh.2.1.1, hh.2.1.2⟩
 ·have hcc := a1R hp
  unfold R5
  have e : (⟨a, b, c⟩ : Hld).state.cell = x.cell := by show c.cell = x.cell; rw [hc, hcc]
  rw [e, if_pos hp]
 ·unfold R5
  have e : (⟨a, b, q9 m (nth .sto st x.cell.toNat)⟩ : Hld).state.cell = x.cell := hsc
  rw [e, if_pos hp]
 ·unfold R5
  have e : (⟨a, b, q9 m (nth .sto st x.cell.toNat)⟩ : Hld).state.cell = x.cell := hsc
  rw [e, if_neg hp, hld_pos hk ha hl]
 ·exact del_erase (b0b h1) hp
 ·have hn := f8 hk
  have hso := s8.1 f5
  exact ⟨hn.1, hn.2, s8.2 ⟨⟨by show 0 ≤ x.n; omega, by show x.n ≤ 900; omega⟩, hso.2.1, hso.2.2.1, hso.2.2.2⟩, rfl⟩
 ·have := f10 (hH hp).1 hsd
  rw [(hH hp).2] at this
  exact this
theorem b2X {m : PMap} {s : Sto} {a b : Int} {r : Rec} (h : y4 m s = true) : u9 m s a b r = H4 m s a b r := by rw [u9, if_pos h]
theorem add_log {m : PMap} {s : Sto} {a b : Int} {r : Rec} (h : (H4 m s a b r).n = 1) : D4 m r = true := by
 unfold H4 at h
 split at h
 ·simp at h
 ·split at h
  ·simp at h
  ·split at h
   ·rename_i hh; exact hh.1
   ·simp at h
theorem ncastQ (n : Nat) : (NatCast.natCast n : Int) = (n : Int) := rfl
noncomputable def b5b : Sx.Spec := ⟨false, true, [.map, .arb, .row .hld, .int .i64], [[some .msg]], fun _ _ ⟨m, t, h, s, _⟩ => .asrt (fun _ => O1 (m ()) (h ()) = true ∧ 0 ≤ s () ∧ s () ≤ 1) (.ret (vW .msg fun _ => a2f (m ()) (t ()) (h ()) (s ()), fun _ => 0))⟩
theorem b3I : b8 Tryz.prog 177 b5b := j6 j4 (ss := [(116, E7), (140, I8), (210, sGstOf)]) ⟨W5, U2, okSGstOf, trivial⟩ rfl rfl <| by
 intro (bs : Th (List Int)) (p : Th Int) ⟨(m : Th PMap), (t : Th Arb), (h0 : Th Hld), (s : Th Int), u⟩ K _ _ ho h
 obtain ⟨m, rfl⟩ := b6 m; obtain ⟨t, rfl⟩ := b6 t; obtain ⟨h0, rfl⟩ := b6 h0; obtain ⟨s, rfl⟩ := b6 s
 obtain ⟨ha, h⟩ := h
 have ha := ha.out
 have hh : O1 m h0 = true := ha.1
 have hs0 : 0 ≤ s := ha.2.1
 have hs1 : s ≤ 1 := ha.2.2
 clear ha
 have hf := n0 (y0.1 hh).2.2
 have hw := b9 (n := 1 - s) (by omega) (by omega)
 have hz := a9q m t h0 s
 have hy := b0h m t h0 s
 have e1 := fun k => @b7W m t h0 s k
 have e2 := fun k => @b8M m t h0 s k
 have s1 := fun k => @b5H m t h0 s k
 have s2 := fun k => @b6H m t h0 s k
 refine ⟨annL [(177, 7, ⟨Nat, [⟨.tmp 9 0, some 16, .msg⟩], fun σ k => (((σ.fg 16).t 12 (vI fun _ => (k : Int))).t 9 (vO 16 1)).row 16 1 .msg (fun _ => a0x m t h0 s k), fun _ k _ => k ≤ (nth .pcls h0.state.outs s.toNat).length ∧ k ≤ 4, fun _ k _ => 4 - k⟩), (177, 12, ⟨Nat, [⟨.tmp 9 0, some 16, .msg⟩], fun σ k => (((σ.fg 16).t 14 (vI fun _ => (k : Int))).t 9 (vO 16 1)).row 16 1 .msg (fun _ => a0x m t h0 s 4 ++ a1s m t h0 s k), fun _ k _ => k ≤ (m9 m h0 s).length ∧ k ≤ 4, fun _ k _ => 4 - k⟩)], noAnn, 20, ?_⟩
 cbv
 repeat' first | ((with_reducible refine fun (k : Nat) => ?_); cbv) | ((with_reducible intro _); cbv) | (with_reducible refine And.intro ?_ ?_)
 all_goals try ((first | (with_reducible refine LoopIn.mk ((0 : Nat)) ?_ ?_) | (with_reducible refine LoopBack.mk ((k + 1 : Nat)) ?_ ?_ ?_)) )
 all_goals try ((with_reducible show l8 _ _); cbv; (try simp only [and_true, true_and]))
 all_goals try (repeat' with_reducible refine And.intro ?_ ?_)
 all_goals first | (refine retK h ?_; clear h; simp only [fin0]) | (with_reducible refine Ob.mk ?_; clear h) | (clear h)
 all_goals (try simp only [eta0, RT.bytes] at *)
 all_goals (try simp only [hw, hh, if_true] at *)
 all_goals grind (splits := 30) [j3, b9, b5G, b6G, b7X, b8O, a2f, s6, u6, F6]
def a2W (m : PMap) (s : Srv) (t : Arb) (servers cell : Int) : List Msg :=
 if y9 m s = true ∧ A4 m t servers = true ∧ v7 s cell = true then a2f m t (e9 s cell) 0 ++ a2f m t (e9 s cell) 1 else []
theorem a7R (m : PMap) (t : Arb) (h : Hld) (s : Int) : (a2f m t h s).length ≤ 8 := by
 unfold a2f
 split
 ·simp
 ·have h1 := a9q m t h s 4
  have h2 := b0h m t h s 4
  simp; omega
theorem b4S {m : PMap} {s : Srv} {cell : Int} (h : y9 m s = true) (h2 : v7 s cell = true) : O1 m (e9 s cell) = true := by
 simp only [v7, decide_eq_true_eq] at h2
 have := a2w s.holds cell
 rw [e9, if_pos h2]
 exact a4E h (by omega)
noncomputable def b5c : Sx.Spec := ⟨false, true, [.map, .row .srv, .arb, .int .i64, .int .i64], [[some .msg]], fun _ _ ⟨m, s, t, v, c, _⟩ => .ret (vW .msg fun _ => a2W (m ()) (s ()) (t ()) (v ()) (c ()), fun _ => 0)⟩
theorem b8e : b8 Tryz.prog 129 b5c := j6 j4 (ss := [(143, a6Y), (73, a3b), (176, a9e), (177, b5b)]) ⟨a9y, a3n, a9z, b3I, trivial⟩ rfl rfl <| by
 intro (bs : Th (List Int)) (p : Th Int) ⟨(m : Th PMap), (s : Th Srv), (t : Th Arb), (v : Th Int), (c : Th Int), u⟩ K _ _ ho h
 obtain ⟨m, rfl⟩ := b6 m; obtain ⟨s, rfl⟩ := b6 s; obtain ⟨t, rfl⟩ := b6 t; obtain ⟨v, rfl⟩ := b6 v; obtain ⟨c, rfl⟩ := b6 c
 have hq := @b4S m s c
 have h1 := a7R m t (e9 s c) 0
 have h2 := a7R m t (e9 s c) 1
 refine ⟨noAnn, noAnn, 20, ?_⟩
 cbv
 repeat' first | ((with_reducible intro _); cbv) | (with_reducible refine And.intro ?_ ?_)
 all_goals first | (refine retK h ?_; clear h; simp only [fin0]) | (with_reducible refine Ob.mk ?_; clear h) | (clear h)
 all_goals (try simp only [eta0, RT.bytes] at *)
 all_goals grind [a2W]
theorem ncastT (n : Nat) : (NatCast.natCast n : Int) = (n : Int) := rfl
theorem a5m (m : PMap) (t : Arb) (h : Hld) (cell side : Int) (hc : h.state.cell = cell) : a2f m t h side = A5 m t h cell side := by
 subst hc
 rfl
theorem tick_eq {m : PMap} {s : Srv} {t : Arb} {v c : Int} (h1 : y9 m s = true) (h2 : A4 m t v = true) : a2W m s t v c = B5 m s t c := by
 simp only [a2W, B5, h1, h2, true_and]
 split
 ·rename_i hh
  have hcc : (e9 s c).state.cell = c := by
   simp only [v7, decide_eq_true_eq] at hh
   rw [e9, if_pos hh]
   exact a1R hh
  rw [a5m m t _ c 0 hcc, a5m m t _ c 1 hcc]
 ·rfl
theorem b5a {l : List Msg} {n k : Nat} (h1 : k ≤ l.length) (h2 : n + k ≤ 40) (h3 : k < l.length → ¬ n + k < 40) : l.take k = l.take (40 - n) := by
 by_cases hk : k < l.length
 ·have := h3 hk
  rw [show k = 40 - n by omega]
 ·rw [List.take_of_length_le (by omega), List.take_of_length_le (by omega)]
theorem a5v {a l : List Msg} {k : Nat} (h1 : k ≤ l.length) (h2 : a.length + k ≤ 40) (h3 : k < l.length → ¬ (a.length + (l.take k).length) < 40) : a ++ l.take k = a ++ l.take (40 - a.length) := by
 have h4 : (l.take k).length = k := by simp; omega
 rw [h4] at h3
 rw [b5a h1 h2 h3]
theorem cutTo_end {l : List Msg} {i k : Nat} (h : k ≤ l.length) (h2 : ¬ k < l.length) : Z0 l i k = l.eraseIdx i := by
 rw [show k = l.length by omega]
 exact b2v l i
theorem send_cut {l o : List Msg} {i k j : Nat} (hk : k ≤ l.length) (hk2 : ¬ k < l.length) (h1 : j ≤ o.length) (h2 : (Z0 l i k).length + j ≤ 40) (h3 : j < o.length → ¬ ((Z0 l i k).length + (o.take j).length) < 40) : Z0 l i k ++ o.take j = l.eraseIdx i ++ o.take (40 - (l.eraseIdx i).length) := by
 rw [cutTo_end hk hk2] at *
 exact a5v h1 h2 h3
theorem c1S {l : List Msg} {k : Nat} (h : k ≤ l.length) : (l.take k).length = k := by simp; omega
theorem c1R {l : List Msg} {k : Nat} (h : k < l.length) : l.take (k + 1) = l.take k ++ [nth .msg l k] := G6 .msg h
theorem E4 {w : Wld} (h : o6 w = true) : A4 w.map w.table w.servers.length = true ∧ y1 w.map w.stores = true ∧ z8 w.map w.rows = true ∧ w.net.length ≤ 40 ∧ w.notes.length ≤ 150 ∧
  (∀ i, i < w.net.length → u0 w.map w.servers.length (nth .msg w.net i) = true ∧ -1 ≤ (nth .msg w.net i).dest ∧ (nth .msg w.net i).dest < w.servers.length) ∧ (∀ i, i < w.servers.length → y9 w.map (nth .srv w.servers i) = true) ∧ 1 ≤ w.servers.length ∧ w.servers.length ≤ 3 := by
 obtain ⟨h1, h2, h3, h4, h5, h6, h7, h8, h9⟩ := m8.1 h
 have ha := E6 h1
 refine ⟨h1, h2, h3, h4, h5, fun i hi => ?_, fun i hi => (h7 _ (n6 .srv hi)).1, by omega, by omega⟩
 have hm := (h8 _ (n6 .msg hi)).1
 refine ⟨hm, ?_⟩
 simp only [u0, E0, decide_eq_true_eq] at hm
 omega
theorem grant_len {m : PMap} {t : Arb} {v cell server : Int} (ht : A4 m t v = true) (hg : (M4 m t v cell server).ok = true) : 0 ≤ cell ∧ cell < (M4 m t v cell server).t.ages.length := by
 have := E6 ht
 simp only [M4, if_pos ht] at hg ⊢
 unfold r6 at hg ⊢
 split at hg
 ·rename_i hc
  rw [if_pos hc]
  simp only [List.length_set]
  omega
 ·cases hg
theorem b3X (p : Int) (n : Nat) (hn : (n : Int) ≤ 1000000) : inR p 0 (IntKind.i64.wrap ((n : Int) - 1)) = decide (0 ≤ p ∧ p < (n : Int)) := by
 rw [b9 (by omega) (by omega)]
 simp only [inR]
 congr 1
 simp only [eq_iff_iff]
 omega
section
variable {w : Wld} {e : Evt} (h : o6 w = true)
include h
theorem step_1 (hk : e.kind = 1) : m0 w e = if (M4 w.map w.table w.servers.length e.pos e.dest).ok = true then ⟨w.map, w.servers, w.stores, (M4 w.map w.table w.servers.length e.pos e.dest).t, w.rows, w.net ++ ([⟨1, e.dest, e.pos, 0, nth .int (M4 w.map w.table w.servers.length e.pos e.dest).t.ages e.pos.toNat, ⟨0, 0, 0, 0, 0⟩, ⟨0, 0, ⟨0, 0, 0, 0, 0⟩, 0⟩, ⟨0, 0, ⟨0, 0, 0, 0, 0⟩⟩⟩] : List Msg).take (40 - w.net.length), w.notes⟩ else w := by
 have hF := E4 h
 simp only [m0, u4, h, hk, if_true, M4, hF.1, u5, s6, u6, F6]
theorem step_2 (hk : e.kind = 2) : m0 w e = ⟨w.map, w.servers, w.stores, w.table, (a6o w.map w.rows e.pos e.what e.dest e.n).b, w.net, w.notes⟩ := by
 have hF := E4 h
 simp [m0, u4, h, hk, a6o, hF.2.2.1]
theorem step_3 (hk : e.kind = 3) : m0 w e = if (a4d w.map w.rows w.table w.servers.length e.pos).ok = true then ⟨w.map, w.servers, w.stores, w.table, w.rows, w.net ++ [(a4d w.map w.rows w.table w.servers.length e.pos).x].take (40 - w.net.length), w.notes⟩ else w := by
 have hF := E4 h
 simp [m0, u4, h, hk, a4d, hF.1, hF.2.2.1, u5]
theorem b9z (hk : e.kind = 4) (hn : ¬ (0 ≤ e.pos ∧ e.pos < (w.net.length : Int))) : m0 w e = w := by
 simp only [m0, u4, h, hk, if_true]
 rw [if_neg (by decide), if_neg (by decide), if_neg (by decide), if_pos (by decide), if_neg hn]
theorem step_4g (hk : e.kind = 4) (hn : 0 ≤ e.pos ∧ e.pos < (w.net.length : Int)) (hd : (nth .msg w.net e.pos.toNat).dest = -1) : m0 w e = ⟨w.map, w.servers, w.stores, w.table, (a0D w.map w.rows w.servers.length (nth .msg w.net e.pos.toNat)).b, w.net.eraseIdx e.pos.toNat,
  if (a0D w.map w.rows w.servers.length (nth .msg w.net e.pos.toNat)).ok = true ∧ w.notes.length < 150 then w.notes ++ [⟨(nth .msg w.net e.pos.toNat).ord.who, (nth .msg w.net e.pos.toNat).ord.seq, (nth .msg w.net e.pos.toNat).n⟩] else w.notes⟩ := by
 have hF := E4 h
 have hm := (hF.2.2.2.2.2.1 e.pos.toNat (by omega)).1
 have hx : a0D w.map w.rows w.servers.length (nth .msg w.net e.pos.toNat) = y7 w.map w.rows (nth .msg w.net e.pos.toNat) := by rw [a0D, if_pos ⟨hF.2.2.1, hm⟩]
 rw [hx]
 simp only [m0, u4, h, hk, if_true]
 rw [if_neg (by decide), if_neg (by decide), if_neg (by decide), if_pos (by decide), if_pos hn]
 simp only [S7, hd, if_true, a2I, wCut]
 rfl
theorem b9A (hk : e.kind = 4) (hn : 0 ≤ e.pos ∧ e.pos < (w.net.length : Int)) (hd : ¬ (nth .msg w.net e.pos.toNat).dest = -1) : m0 w e = ⟨w.map, w.servers.set (nth .msg w.net e.pos.toNat).dest.toNat (D2 w.map (nth .srv w.servers (nth .msg w.net e.pos.toNat).dest.toNat) w.stores w.table w.servers.length (nth .msg w.net e.pos.toNat)).srv,
  (D2 w.map (nth .srv w.servers (nth .msg w.net e.pos.toNat).dest.toNat) w.stores w.table w.servers.length (nth .msg w.net e.pos.toNat)).stores, w.table, w.rows, w.net.eraseIdx e.pos.toNat ++ (D2 w.map (nth .srv w.servers (nth .msg w.net e.pos.toNat).dest.toNat) w.stores w.table w.servers.length (nth .msg w.net e.pos.toNat)).out.take (40 - (w.net.eraseIdx e.pos.toNat).length), w.notes⟩ := by
 have hF := E4 h
 have hm := hF.2.2.2.2.2.1 e.pos.toNat (by omega)
 have hs := hF.2.2.2.2.2.2.1 (nth .msg w.net e.pos.toNat).dest.toNat (by omega)
 have hx : D2 w.map (nth .srv w.servers (nth .msg w.net e.pos.toNat).dest.toNat) w.stores w.table w.servers.length (nth .msg w.net e.pos.toNat) = n9 w.map (nth .srv w.servers (nth .msg w.net e.pos.toNat).dest.toNat) w.stores w.table (nth .msg w.net e.pos.toNat) := by rw [D2, if_pos ⟨hs, hF.2.1, hF.1, hm.1⟩]
 rw [hx]
 simp only [m0, u4, h, hk, if_true]
 rw [if_neg (by decide), if_neg (by decide), if_neg (by decide), if_pos (by decide), if_pos hn]
 simp only [S7, hd, if_false, a1w, wCut, u5]
theorem step_5 (hk : e.kind = 5) : m0 w e = if 0 ≤ e.pos ∧ e.pos < (w.net.length : Int) then ⟨w.map, w.servers, w.stores, w.table, w.rows, w.net.eraseIdx e.pos.toNat, w.notes⟩ else w := by
 simp only [m0, u4, h, hk, if_true]
 rw [if_neg (by decide), if_neg (by decide), if_neg (by decide), if_pos (by decide)]
 by_cases hp : 0 ≤ e.pos ∧ e.pos < (w.net.length : Int)
 ·rw [if_pos hp, if_pos hp, if_neg (by decide)]
  rfl
 ·rw [if_neg hp, if_neg hp]
theorem step_6 (hk : e.kind = 6) : m0 w e = if 0 ≤ e.pos ∧ e.pos < (w.net.length : Int) then ⟨w.map, w.servers, w.stores, w.table, w.rows, w.net ++ [nth .msg w.net e.pos.toNat].take (40 - w.net.length), w.notes⟩ else w := by
 simp only [m0, u4, h, hk, if_true]
 rw [if_neg (by decide), if_neg (by decide), if_neg (by decide), if_pos (by decide)]
 by_cases hp : 0 ≤ e.pos ∧ e.pos < (w.net.length : Int)
 ·rw [if_pos hp, if_pos hp, if_neg (by decide), if_neg (by decide)]
  rfl
 ·rw [if_neg hp, if_neg hp]
theorem step_7 (hk : e.kind = 7) : m0 w e = if 0 ≤ e.pos ∧ e.pos < (w.servers.length : Int) then ⟨w.map, w.servers, w.stores, w.table, w.rows, w.net ++ (a2W w.map (nth .srv w.servers e.pos.toNat) w.table w.servers.length e.dest).take (40 - w.net.length), w.notes⟩ else w := by
 have hF := E4 h
 simp only [m0, u4, h, hk, if_true]
 rw [if_neg (by decide), if_neg (by decide), if_neg (by decide), if_neg (by decide), if_pos (by decide)]
 by_cases hp : 0 ≤ e.pos ∧ e.pos < (w.servers.length : Int)
 ·rw [if_pos hp, if_pos hp, tick_eq (hF.2.2.2.2.2.2.1 e.pos.toNat (by omega)) hF.1]
  rfl
 ·rw [if_neg hp, if_neg hp]
theorem step_8 (hk : e.kind = 8) : m0 w e = if 0 ≤ e.pos ∧ e.pos < (w.servers.length : Int) then ⟨w.map, w.servers.set e.pos.toNat ⟨false, [], []⟩, w.stores, w.table, w.rows, w.net, w.notes⟩ else w := by
 simp only [m0, u4, h, hk, if_true]
 rw [if_neg (by decide), if_neg (by decide), if_neg (by decide), if_neg (by decide), if_pos (by decide)]
 by_cases hp : 0 ≤ e.pos ∧ e.pos < (w.servers.length : Int)
 ·rw [if_pos hp, if_pos hp, if_neg (by decide)]
 ·rw [if_neg hp, if_neg hp]
theorem step_9 (hk : e.kind = 9) : m0 w e = if 0 ≤ e.pos ∧ e.pos < (w.servers.length : Int) ∧ (nth .srv w.servers e.pos.toNat).up = false then ⟨w.map, w.servers.set e.pos.toNat ⟨true, [], []⟩, w.stores, w.table, w.rows, w.net, w.notes⟩ else w := by
 simp only [m0, u4, h, hk, if_true]
 rw [if_neg (by decide), if_neg (by decide), if_neg (by decide), if_neg (by decide), if_pos (by decide)]
 by_cases hp : 0 ≤ e.pos ∧ e.pos < (w.servers.length : Int)
 ·rw [if_pos hp, if_neg (by decide), if_neg (by decide)]
  by_cases hu : (nth .srv w.servers e.pos.toNat).up = false
  ·rw [if_pos hu, if_pos ⟨hp.1, hp.2, hu⟩]
  ·rw [if_neg hu, if_neg (fun hq => hu hq.2.2)]
 ·rw [if_neg hp, if_neg (fun hq => hp ⟨hq.1, hq.2.1⟩)]
theorem step_no (h1 : ¬ e.kind = 1) (h2 : ¬ e.kind = 2) (h3 : ¬ e.kind = 3) (h4 : ¬ e.kind = 4) (h5 : ¬ e.kind = 5) (h6 : ¬ e.kind = 6) (h7 : ¬ e.kind = 7) (h8 : ¬ e.kind = 8) (h9 : ¬ e.kind = 9) : m0 w e = w := by
 simp only [m0, u4, h, if_true]
 rw [if_neg h1, if_neg h2, if_neg h3, if_neg (by omega), if_neg (by omega)]
end
theorem step_bad {w : Wld} {e : Evt} (h : o6 w = false) : m0 w e = a0O := by simp [m0, h]
end Go.Proofs.YtkclfaldmghkeaaGreat
