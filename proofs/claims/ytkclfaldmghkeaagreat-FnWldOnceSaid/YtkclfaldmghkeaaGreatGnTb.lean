/-
  What a server hears, the program's way: holds put in and taken out, and plain facts.
-/
import Derived.Test.YtkclfaldmghkeaaGreatGnC
import Derived.Test.YtkclfaldmghkeaaGreatGnH
import Derived.Test.YtkclfaldmghkeaaGreatGnM
import Derived.Test.YtkclfaldmghkeaaGreatGnO
import Derived.Test.YtkclfaldmghkeaaGreatGnP
import Derived.Test.YtkclfaldmghkeaaGreatGnQs
import Derived.Test.YtkclfaldmghkeaaGreatM3
import Derived.Test.YtkclfaldmghkeaaGreatGrT
import Derived.Test.YtkclfaldmghkeaaGreatM2
set_option linter.unusedVariables false
set_option linter.unusedSimpArgs false
set_option maxRecDepth 100000
set_option maxHeartbeats 8000000
namespace Go.Proofs.YtkclfaldmghkeaaGreat
open Go.Sx Go.Proofs Go.Mo
noncomputable def b0U : SpecX := .raw (b3T (insM .hld))
theorem b7s : b7 Tryz.prog 216 b0U := b2k c1U ⟨_, _, Tryz.func216, by kernel_rfl, rfl⟩
noncomputable def b0W : SpecX := .raw (b3T (delM .hld))
theorem b7t : b7 Tryz.prog 219 b0W := b2k c1Y ⟨_, _, Tryz.func219, by kernel_rfl, rfl⟩
theorem c2O {l : List Hld} {c : Int} (hs : HSort l) (hp : 0 ≤ e9 l c) : C5 l c = l.eraseIdx (e9 l c).toNat := by
 have hlt := a1Z l c
 have hcc := a1t hp
 have hj : (e9 l c).toNat < l.length := by omega
 generalize (e9 l c).toNat = j at *
 unfold C5
 have hl : l = l.take j ++ nth .hld l j :: l.drop (j + 1) := by
  rw [k9 .hld l j hj, ← List.drop_eq_getElem_cons hj, List.take_append_drop]
 have hs2 := hs
 rw [hl] at hs2
 obtain ⟨a1, a2, a3⟩ := List.pairwise_append.1 hs2
 have b1 := List.pairwise_cons.1 a2
 have t1 : (l.take j).filter (fun h => decide (h.state.cell ≠ c)) = l.take j := List.filter_eq_self.2 fun y hy => by
  have := a3 y hy _ (List.mem_cons_self ..)
  simp only [ne_eq, decide_eq_true_eq]
  omega
 have t2 : (l.drop (j + 1)).filter (fun h => decide (h.state.cell ≠ c)) = l.drop (j + 1) := List.filter_eq_self.2 fun y hy => by
  have := b1.1 y hy
  simp only [ne_eq, decide_eq_true_eq]
  omega
 rw [List.eraseIdx_eq_take_drop_succ]
 conv => lhs; rw [hl]
 rw [List.filter_append, List.filter_cons, t1, t2]
 simp [hcc]
theorem b5I {m : PMap} {s : Srv} {st : List Sto} {v : Int} {x : Msg} (h1 : y3 m s = true) (h2 : x7 m st = true) (h4 : s9 m v x = true) :
  s.holds.length ≤ 4 ∧ 0 ≤ x.cell ∧ x.cell < st.length ∧ e9 s.holds x.cell < s.holds.length ∧ x8 m (nth .sto st x.cell.toNat) = true ∧
  (0 ≤ e9 s.holds x.cell → N3 m (nth .hld s.holds (e9 s.holds x.cell).toNat) = true ∧ (nth .hld s.holds (e9 s.holds x.cell).toNat).state.ins.length = 2 ∧ q9 m (nth .hld s.holds (e9 s.holds x.cell).toNat).state = true ∧ 0 ≤ (nth .hld s.holds (e9 s.holds x.cell).toNat).count ∧ (nth .hld s.holds (e9 s.holds x.cell).toNat).count ≤ 250) ∧
  (0 ≤ e9 s.holds x.cell → ∀ (a b : Int) (c : Cll), c.cell = (nth .hld s.holds (e9 s.holds x.cell).toNat).state.cell → Q1 s.holds ⟨a, b, c⟩ = s.holds.set (e9 s.holds x.cell).toNat ⟨a, b, c⟩) ∧
  (0 ≤ e9 s.holds x.cell → ∀ (a b : Int), Q1 s.holds ⟨a, b, p5 m (nth .sto st x.cell.toNat)⟩ = s.holds.set (e9 s.holds x.cell).toNat ⟨a, b, p5 m (nth .sto st x.cell.toNat)⟩) ∧
  (¬ 0 ≤ e9 s.holds x.cell → ∀ (k : Nat) (a b : Int), k ≤ s.holds.length → l8 k (a3h s.holds x.cell) = true → (k < s.holds.length → ¬ (nth .hld s.holds k).state.cell < x.cell) → Q1 s.holds ⟨a, b, p5 m (nth .sto st x.cell.toNat)⟩ = insL s.holds k [⟨a, b, p5 m (nth .sto st x.cell.toNat)⟩]) ∧
  (0 ≤ e9 s.holds x.cell → C5 s.holds x.cell = s.holds.eraseIdx (e9 s.holds x.cell).toNat) ∧
  (x.kind = 1 → 1 ≤ x.n ∧ x.n ≤ 900 ∧ x8 m ⟨x.n, (nth .sto st x.cell.toNat).base, (nth .sto st x.cell.toNat).recs⟩ = true ∧ p5 m ⟨x.n, (nth .sto st x.cell.toNat).base, (nth .sto st x.cell.toNat).recs⟩ = p5 m (nth .sto st x.cell.toNat)) ∧
  (x.kind = 5 → (x.side = 0 ∨ x.side = 1) ∧ 0 ≤ x.pcl.n) ∧
  (0 ≤ e9 s.holds x.cell → x.side = 0 ∨ x.side = 1 → @LE.le Int _ 0 (nth .int (nth .hld s.holds (e9 s.holds x.cell).toNat).state.ins x.side.toNat) ∧ @LE.le Int _ (nth .int (nth .hld s.holds (e9 s.holds x.cell).toNat).state.ins x.side.toNat) 5000) := by
 have hf := a9y h1 h2 h4
 obtain ⟨f1, f2, f3, f4, f5, f6, f7, f8, f9, f10⟩ := hf
 have hlt := a1Z s.holds x.cell
 have hb : (nth .sto st x.cell.toNat).base.cell = x.cell := by
  have := ((B4.1 h2).2.2 x.cell.toNat (by omega)).2
  omega
 have hsc : (p5 m (nth .sto st x.cell.toNat)).cell = x.cell := by rw [a0f, hb]
 have hH : 0 ≤ e9 s.holds x.cell → v5 s x.cell = true ∧ b9 s x.cell = nth .hld s.holds (e9 s.holds x.cell).toNat := fun hp => ⟨by simp [v5, hp], by unfold b9; rw [if_pos hp]⟩
 refine ⟨a7W h1, f3, f4, hlt.2, f5, fun hp => ?_, fun hp a b c hc => ?_, fun hp a b => ?_, fun hp k a b hk ha hl => ?_, fun hp => ?_, fun hk => ?_, f9, fun hp hsd => ?_⟩
 ·have := f6 (hH hp).1
  rw [(hH hp).2] at this
  have hh := y5.1 this.1
  exact ⟨this.1, this.2.2, hh.2.2, hh.2.1.1, hh.2.1.2⟩
 ·have hcc := a1t hp
  unfold Q1
  have e : (⟨a, b, c⟩ : Hld).state.cell = x.cell := by show c.cell = x.cell; rw [hc, hcc]
  rw [e, if_pos hp]
 ·unfold Q1
  have e : (⟨a, b, p5 m (nth .sto st x.cell.toNat)⟩ : Hld).state.cell = x.cell := hsc
  rw [e, if_pos hp]
 ·unfold Q1
  have e : (⟨a, b, p5 m (nth .sto st x.cell.toNat)⟩ : Hld).state.cell = x.cell := hsc
  rw [e, if_neg hp, c7S hk ha hl]
 ·exact c2O (a9w h1) hp
 ·have hn := f8 hk
  have hso := u0.1 f5
  exact ⟨hn.1, hn.2, u0.2 ⟨⟨by show 0 ≤ x.n; omega, by show x.n ≤ 900; omega⟩, hso.2.1, hso.2.2.1, hso.2.2.2⟩, rfl⟩
 ·have := f10 (hH hp).1 hsd
  rw [(hH hp).2] at this
  exact this
theorem b2o {m : PMap} {s : Sto} {a b : Int} {r : Rec} (h : x8 m s = true) : u7 m s a b r = G4 m s a b r := by rw [u7, if_pos h]
theorem add_log {m : PMap} {s : Sto} {a b : Int} {r : Rec} (h : (G4 m s a b r).n = 1) : D1 m r = true := by
 unfold G4 at h
 split at h
 ·simp at h
 ·split at h
  ·simp at h
  ·split at h
   ·rename_i hh; exact hh.1
   ·simp at h
theorem ncastQ (n : Nat) : (NatCast.natCast n : Int) = (n : Int) := rfl
noncomputable def b4l : Sx.Spec := ⟨false, true, [.map, .arb, .row .hld, .int .i64], [[some .msg]], fun _ _ ⟨m, t, h, s, _⟩ => .asrt (fun _ => N3 (m ()) (h ()) = true ∧ 0 ≤ s () ∧ s () ≤ 1) (.ret (vW .msg fun _ => a1H (m ()) (t ()) (h ()) (s ()), fun _ => 0))⟩
theorem b2U : b7 Tryz.prog 177 b4l := j8 j3 (ss := [(116, E2), (140, I1), (210, c3N)]) ⟨U8, S1, c4s, trivial⟩ rfl rfl <| by
 intro (bs : Th (List Int)) (p : Th Int) ⟨(m : Th PMap), (t : Th Arb), (h0 : Th Hld), (s : Th Int), u⟩ K _ _ ho h
 obtain ⟨m, rfl⟩ := a8 m; obtain ⟨t, rfl⟩ := a8 t; obtain ⟨h0, rfl⟩ := a8 h0; obtain ⟨s, rfl⟩ := a8 s
 obtain ⟨ha, h⟩ := h
 have ha := ha.out
 have hh : N3 m h0 = true := ha.1
 have hs0 : 0 ≤ s := ha.2.1
 have hs1 : s ≤ 1 := ha.2.2
 clear ha
 have hf := n6 (y5.1 hh).2.2
 have hw := e8 (n := 1 - s) (by omega) (by omega)
 have hz := a8N m t h0 s
 have hy := a9B m t h0 s
 have e1 := fun k => @b7d m t h0 s k
 have e2 := fun k => @b7P m t h0 s k
 have s1 := fun k => @b4Q m t h0 s k
 have s2 := fun k => @b5O m t h0 s k
 refine ⟨annL [(177, 7, ⟨Nat, [⟨.tmp 9 0, some 16, .msg⟩], fun σ k => (((σ.fg 16).t 12 (vI fun _ => (k : Int))).t 9 (vO 16 1)).row 16 1 .msg (fun _ => a0g m t h0 s k), fun _ k _ => k ≤ (nth .pcls h0.state.outs s.toNat).length ∧ k ≤ 4, fun _ k _ => 4 - k⟩), (177, 12, ⟨Nat, [⟨.tmp 9 0, some 16, .msg⟩], fun σ k => (((σ.fg 16).t 14 (vI fun _ => (k : Int))).t 9 (vO 16 1)).row 16 1 .msg (fun _ => a0g m t h0 s 4 ++ a0W m t h0 s k), fun _ k _ => k ≤ (n0 m h0 s).length ∧ k ≤ 4, fun _ k _ => 4 - k⟩)], noAnn, 20, ?_⟩
 cbv
 repeat' first | ((with_reducible refine fun (k : Nat) => ?_); cbv) | ((with_reducible intro _); cbv) | (with_reducible refine And.intro ?_ ?_)
 all_goals try ((first | (with_reducible refine LoopIn.mk ((0 : Nat)) ?_ ?_) | (with_reducible refine LoopBack.mk ((k + 1 : Nat)) ?_ ?_ ?_)) )
 all_goals try ((with_reducible show m6 _ _); cbv; (try simp only [and_true, true_and]))
 all_goals try (repeat' with_reducible refine And.intro ?_ ?_)
 all_goals first | (refine retK h ?_; clear h; simp only [fin0]) | (with_reducible refine Ob.mk ?_; clear h) | (clear h)
 all_goals (try simp only [eta0, RT.bytes] at *)
 all_goals (try simp only [hw, hh, if_true] at *)
 all_goals grind (splits := 30) [j5, e8, b4P, b5N, b7e, b7R, a1H, s5, u5, E8]
def a2z (m : PMap) (s : Srv) (t : Arb) (servers cell : Int) : List Msg :=
 if y3 m s = true ∧ z5 m t servers = true ∧ v5 s cell = true then a1H m t (b9 s cell) 0 ++ a1H m t (b9 s cell) 1 else []
theorem a7q (m : PMap) (t : Arb) (h : Hld) (s : Int) : (a1H m t h s).length ≤ 8 := by
 unfold a1H
 split
 ·simp
 ·have h1 := a8N m t h s 4
  have h2 := a9B m t h s 4
  simp; omega
theorem b4c {m : PMap} {s : Srv} {cell : Int} (h : y3 m s = true) (h2 : v5 s cell = true) : N3 m (b9 s cell) = true := by
 simp only [v5, decide_eq_true_eq] at h2
 have := a1Z s.holds cell
 rw [b9, if_pos h2]
 exact a4f h (by omega)
noncomputable def b4m : Sx.Spec := ⟨false, true, [.map, .row .srv, .arb, .int .i64, .int .i64], [[some .msg]], fun _ _ ⟨m, s, t, v, c, _⟩ => .ret (vW .msg fun _ => a2z (m ()) (s ()) (t ()) (v ()) (c ()), fun _ => 0)⟩
theorem b7m : b7 Tryz.prog 129 b4m := j8 j3 (ss := [(143, a6x), (73, a2F), (176, a8C), (177, b4l)]) ⟨a8X, a2R, a8Y, b2U, trivial⟩ rfl rfl <| by
 intro (bs : Th (List Int)) (p : Th Int) ⟨(m : Th PMap), (s : Th Srv), (t : Th Arb), (v : Th Int), (c : Th Int), u⟩ K _ _ ho h
 obtain ⟨m, rfl⟩ := a8 m; obtain ⟨s, rfl⟩ := a8 s; obtain ⟨t, rfl⟩ := a8 t; obtain ⟨v, rfl⟩ := a8 v; obtain ⟨c, rfl⟩ := a8 c
 have hq := @b4c m s c
 have h1 := a7q m t (b9 s c) 0
 have h2 := a7q m t (b9 s c) 1
 refine ⟨noAnn, noAnn, 20, ?_⟩
 cbv
 repeat' first | ((with_reducible intro _); cbv) | (with_reducible refine And.intro ?_ ?_)
 all_goals first | (refine retK h ?_; clear h; simp only [fin0]) | (with_reducible refine Ob.mk ?_; clear h) | (clear h)
 all_goals (try simp only [eta0, RT.bytes] at *)
 all_goals grind [a2z]
theorem c5a (n : Nat) : (NatCast.natCast n : Int) = (n : Int) := rfl
theorem a4K (m : PMap) (t : Arb) (h : Hld) (cell side : Int) (hc : h.state.cell = cell) : a1H m t h side = z6 m t h cell side := by
 subst hc
 rfl
theorem c7b {m : PMap} {s : Srv} {t : Arb} {v c : Int} (h1 : y3 m s = true) (h2 : z5 m t v = true) : a2z m s t v c = A8 m s t c := by
 simp only [a2z, A8, h1, h2, true_and]
 split
 ·rename_i hh
  have hcc : (b9 s c).state.cell = c := by
   simp only [v5, decide_eq_true_eq] at hh
   rw [b9, if_pos hh]
   exact a1t hh
  rw [a4K m t _ c 0 hcc, a4K m t _ c 1 hcc]
 ·rfl
theorem b4k {l : List Msg} {n k : Nat} (h1 : k ≤ l.length) (h2 : n + k ≤ 40) (h3 : k < l.length → ¬ n + k < 40) : l.take k = l.take (40 - n) := by
 by_cases hk : k < l.length
 ·have := h3 hk
  rw [show k = 40 - n by omega]
 ·rw [List.take_of_length_le (by omega), List.take_of_length_le (by omega)]
theorem a4T {a l : List Msg} {k : Nat} (h1 : k ≤ l.length) (h2 : a.length + k ≤ 40) (h3 : k < l.length → ¬ (a.length + (l.take k).length) < 40) : a ++ l.take k = a ++ l.take (40 - a.length) := by
 have h4 : (l.take k).length = k := by simp; omega
 rw [h4] at h3
 rw [b4k h1 h2 h3]
theorem c2T {l : List Msg} {i k : Nat} (h : k ≤ l.length) (h2 : ¬ k < l.length) : X5 l i k = l.eraseIdx i := by
 rw [show k = l.length by omega]
 exact b1M l i
theorem c3F {l o : List Msg} {i k j : Nat} (hk : k ≤ l.length) (hk2 : ¬ k < l.length) (h1 : j ≤ o.length) (h2 : (X5 l i k).length + j ≤ 40) (h3 : j < o.length → ¬ ((X5 l i k).length + (o.take j).length) < 40) : X5 l i k ++ o.take j = l.eraseIdx i ++ o.take (40 - (l.eraseIdx i).length) := by
 rw [c2T hk hk2] at *
 exact a4T h1 h2 h3
theorem c0W {l : List Msg} {k : Nat} (h : k ≤ l.length) : (l.take k).length = k := by simp; omega
theorem c0V {l : List Msg} {k : Nat} (h : k < l.length) : l.take (k + 1) = l.take k ++ [nth .msg l k] := H3 .msg h
theorem G5 {w : Wld} (h : p9 w = true) : z5 w.map w.table w.servers.length = true ∧ x7 w.map w.stores = true ∧ y6 w.map w.rows = true ∧ w.net.length ≤ 40 ∧ w.notes.length ≤ 150 ∧
  (∀ i, i < w.net.length → s9 w.map w.servers.length (nth .msg w.net i) = true ∧ -1 ≤ (nth .msg w.net i).dest ∧ (nth .msg w.net i).dest < w.servers.length) ∧ (∀ i, i < w.servers.length → y3 w.map (nth .srv w.servers i) = true) ∧ 1 ≤ w.servers.length ∧ w.servers.length ≤ 3 := by
 obtain ⟨h1, h2, h3, h4, h5, h6, h7, h8, h9⟩ := n7.1 h
 have ha := F3 h1
 refine ⟨h1, h2, h3, h4, h5, fun i hi => ?_, fun i hi => (h7 _ (r8 .srv hi)).1, by omega, by omega⟩
 have hm := (h8 _ (r8 .msg hi)).1
 refine ⟨hm, ?_⟩
 simp only [s9, E0, decide_eq_true_eq] at hm
 omega
theorem c2y {m : PMap} {t : Arb} {v cell server : Int} (ht : z5 m t v = true) (hg : (L6 m t v cell server).ok = true) : 0 ≤ cell ∧ cell < (L6 m t v cell server).t.ages.length := by
 have := F3 ht
 simp only [L6, if_pos ht] at hg ⊢
 unfold p6 at hg ⊢
 split at hg
 ·rename_i hc
  rw [if_pos hc]
  simp only [List.length_set]
  omega
 ·cases hg
theorem b3h (p : Int) (n : Nat) (hn : (n : Int) ≤ 1000000) : inR p 0 (IntKind.i64.wrap ((n : Int) - 1)) = decide (0 ≤ p ∧ p < (n : Int)) := by
 rw [e8 (by omega) (by omega)]
 simp only [inR]
 congr 1
 simp only [eq_iff_iff]
 omega
section
variable {w : Wld} {e : Evt} (h : p9 w = true)
include h
theorem step_1 (hk : e.kind = 1) : m5 w e = if (L6 w.map w.table w.servers.length e.pos e.dest).ok = true then ⟨w.map, w.servers, w.stores, (L6 w.map w.table w.servers.length e.pos e.dest).t, w.rows, w.net ++ ([⟨1, e.dest, e.pos, 0, nth .int (L6 w.map w.table w.servers.length e.pos e.dest).t.ages e.pos.toNat, ⟨0, 0, 0, 0, 0⟩, ⟨0, 0, ⟨0, 0, 0, 0, 0⟩, 0⟩, ⟨0, 0, ⟨0, 0, 0, 0, 0⟩⟩⟩] : List Msg).take (40 - w.net.length), w.notes⟩ else w := by
 have hF := G5 h
 simp only [m5, u3, h, hk, if_true, L6, hF.1, u4, s5, u5, E8]
theorem step_2 (hk : e.kind = 2) : m5 w e = ⟨w.map, w.servers, w.stores, w.table, (a5O w.map w.rows e.pos e.what e.dest e.n).b, w.net, w.notes⟩ := by
 have hF := G5 h
 simp [m5, u3, h, hk, a5O, hF.2.2.1]
theorem step_3 (hk : e.kind = 3) : m5 w e = if (a3C w.map w.rows w.table w.servers.length e.pos).ok = true then ⟨w.map, w.servers, w.stores, w.table, w.rows, w.net ++ [(a3C w.map w.rows w.table w.servers.length e.pos).x].take (40 - w.net.length), w.notes⟩ else w := by
 have hF := G5 h
 simp [m5, u3, h, hk, a3C, hF.1, hF.2.2.1, u4]
theorem b8D (hk : e.kind = 4) (hn : ¬ (0 ≤ e.pos ∧ e.pos < (w.net.length : Int))) : m5 w e = w := by
 simp only [m5, u3, h, hk, if_true]
 rw [if_neg (by decide), if_neg (by decide), if_neg (by decide), if_pos (by decide), if_neg hn]
theorem c7e (hk : e.kind = 4) (hn : 0 ≤ e.pos ∧ e.pos < (w.net.length : Int)) (hd : (nth .msg w.net e.pos.toNat).dest = -1) : m5 w e = ⟨w.map, w.servers, w.stores, w.table, (a0k w.map w.rows w.servers.length (nth .msg w.net e.pos.toNat)).b, w.net.eraseIdx e.pos.toNat,
  if (a0k w.map w.rows w.servers.length (nth .msg w.net e.pos.toNat)).ok = true ∧ w.notes.length < 150 then w.notes ++ [⟨(nth .msg w.net e.pos.toNat).ord.who, (nth .msg w.net e.pos.toNat).ord.seq, (nth .msg w.net e.pos.toNat).n⟩] else w.notes⟩ := by
 have hF := G5 h
 have hm := (hF.2.2.2.2.2.1 e.pos.toNat (by omega)).1
 have hx : a0k w.map w.rows w.servers.length (nth .msg w.net e.pos.toNat) = y0 w.map w.rows (nth .msg w.net e.pos.toNat) := by rw [a0k, if_pos ⟨hF.2.2.1, hm⟩]
 rw [hx]
 simp only [m5, u3, h, hk, if_true]
 rw [if_neg (by decide), if_neg (by decide), if_neg (by decide), if_pos (by decide), if_pos hn]
 simp only [Q8, hd, if_true, a2l, wCut]
 rfl
theorem b8E (hk : e.kind = 4) (hn : 0 ≤ e.pos ∧ e.pos < (w.net.length : Int)) (hd : ¬ (nth .msg w.net e.pos.toNat).dest = -1) : m5 w e = ⟨w.map, w.servers.set (nth .msg w.net e.pos.toNat).dest.toNat (C9 w.map (nth .srv w.servers (nth .msg w.net e.pos.toNat).dest.toNat) w.stores w.table w.servers.length (nth .msg w.net e.pos.toNat)).srv,
  (C9 w.map (nth .srv w.servers (nth .msg w.net e.pos.toNat).dest.toNat) w.stores w.table w.servers.length (nth .msg w.net e.pos.toNat)).stores, w.table, w.rows, w.net.eraseIdx e.pos.toNat ++ (C9 w.map (nth .srv w.servers (nth .msg w.net e.pos.toNat).dest.toNat) w.stores w.table w.servers.length (nth .msg w.net e.pos.toNat)).out.take (40 - (w.net.eraseIdx e.pos.toNat).length), w.notes⟩ := by
 have hF := G5 h
 have hm := hF.2.2.2.2.2.1 e.pos.toNat (by omega)
 have hs := hF.2.2.2.2.2.2.1 (nth .msg w.net e.pos.toNat).dest.toNat (by omega)
 have hx : C9 w.map (nth .srv w.servers (nth .msg w.net e.pos.toNat).dest.toNat) w.stores w.table w.servers.length (nth .msg w.net e.pos.toNat) = n5 w.map (nth .srv w.servers (nth .msg w.net e.pos.toNat).dest.toNat) w.stores w.table (nth .msg w.net e.pos.toNat) := by rw [C9, if_pos ⟨hs, hF.2.1, hF.1, hm.1⟩]
 rw [hx]
 simp only [m5, u3, h, hk, if_true]
 rw [if_neg (by decide), if_neg (by decide), if_neg (by decide), if_pos (by decide), if_pos hn]
 simp only [Q8, hd, if_false, a1c, wCut, u4]
theorem step_5 (hk : e.kind = 5) : m5 w e = if 0 ≤ e.pos ∧ e.pos < (w.net.length : Int) then ⟨w.map, w.servers, w.stores, w.table, w.rows, w.net.eraseIdx e.pos.toNat, w.notes⟩ else w := by
 simp only [m5, u3, h, hk, if_true]
 rw [if_neg (by decide), if_neg (by decide), if_neg (by decide), if_pos (by decide)]
 by_cases hp : 0 ≤ e.pos ∧ e.pos < (w.net.length : Int)
 ·rw [if_pos hp, if_pos hp, if_neg (by decide)]
  rfl
 ·rw [if_neg hp, if_neg hp]
theorem c3B (hk : e.kind = 6) : m5 w e = if 0 ≤ e.pos ∧ e.pos < (w.net.length : Int) then ⟨w.map, w.servers, w.stores, w.table, w.rows, w.net ++ [nth .msg w.net e.pos.toNat].take (40 - w.net.length), w.notes⟩ else w := by
 simp only [m5, u3, h, hk, if_true]
 rw [if_neg (by decide), if_neg (by decide), if_neg (by decide), if_pos (by decide)]
 by_cases hp : 0 ≤ e.pos ∧ e.pos < (w.net.length : Int)
 ·rw [if_pos hp, if_pos hp, if_neg (by decide), if_neg (by decide)]
  rfl
 ·rw [if_neg hp, if_neg hp]
theorem step_7 (hk : e.kind = 7) : m5 w e = if 0 ≤ e.pos ∧ e.pos < (w.servers.length : Int) then ⟨w.map, w.servers, w.stores, w.table, w.rows, w.net ++ (a2z w.map (nth .srv w.servers e.pos.toNat) w.table w.servers.length e.dest).take (40 - w.net.length), w.notes⟩ else w := by
 have hF := G5 h
 simp only [m5, u3, h, hk, if_true]
 rw [if_neg (by decide), if_neg (by decide), if_neg (by decide), if_neg (by decide), if_pos (by decide)]
 by_cases hp : 0 ≤ e.pos ∧ e.pos < (w.servers.length : Int)
 ·rw [if_pos hp, if_pos hp, c7b (hF.2.2.2.2.2.2.1 e.pos.toNat (by omega)) hF.1]
  rfl
 ·rw [if_neg hp, if_neg hp]
theorem step_8 (hk : e.kind = 8) : m5 w e = if 0 ≤ e.pos ∧ e.pos < (w.servers.length : Int) then ⟨w.map, w.servers.set e.pos.toNat ⟨false, [], []⟩, w.stores, w.table, w.rows, w.net, w.notes⟩ else w := by
 simp only [m5, u3, h, hk, if_true]
 rw [if_neg (by decide), if_neg (by decide), if_neg (by decide), if_neg (by decide), if_pos (by decide)]
 by_cases hp : 0 ≤ e.pos ∧ e.pos < (w.servers.length : Int)
 ·rw [if_pos hp, if_pos hp, if_neg (by decide)]
 ·rw [if_neg hp, if_neg hp]
theorem c3A (hk : e.kind = 9) : m5 w e = if 0 ≤ e.pos ∧ e.pos < (w.servers.length : Int) ∧ (nth .srv w.servers e.pos.toNat).up = false then ⟨w.map, w.servers.set e.pos.toNat ⟨true, [], []⟩, w.stores, w.table, w.rows, w.net, w.notes⟩ else w := by
 simp only [m5, u3, h, hk, if_true]
 rw [if_neg (by decide), if_neg (by decide), if_neg (by decide), if_neg (by decide), if_pos (by decide)]
 by_cases hp : 0 ≤ e.pos ∧ e.pos < (w.servers.length : Int)
 ·rw [if_pos hp, if_neg (by decide), if_neg (by decide)]
  by_cases hu : (nth .srv w.servers e.pos.toNat).up = false
  ·rw [if_pos hu, if_pos ⟨hp.1, hp.2, hu⟩]
  ·rw [if_neg hu, if_neg (fun hq => hu hq.2.2)]
 ·rw [if_neg hp, if_neg (fun hq => hp ⟨hq.1, hq.2.1⟩)]
theorem c7d (h1 : ¬ e.kind = 1) (h2 : ¬ e.kind = 2) (h3 : ¬ e.kind = 3) (h4 : ¬ e.kind = 4) (h5 : ¬ e.kind = 5) (h6 : ¬ e.kind = 6) (h7 : ¬ e.kind = 7) (h8 : ¬ e.kind = 8) (h9 : ¬ e.kind = 9) : m5 w e = w := by
 simp only [m5, u3, h, if_true]
 rw [if_neg h1, if_neg h2, if_neg h3, if_neg (by omega), if_neg (by omega)]
end
theorem c3z {w : Wld} {e : Evt} (h : p9 w = false) : m5 w e = a0t := by simp [m5, h]
end Go.Proofs.YtkclfaldmghkeaaGreat
