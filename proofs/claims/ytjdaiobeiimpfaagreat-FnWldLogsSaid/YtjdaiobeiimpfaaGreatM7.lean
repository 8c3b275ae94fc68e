/-
  Plain laws of the one world: an order keeps it ok, and its coins; so does who comes, and what falls.
-/
import Derived.Test.YtjdaiobeiimpfaaGreatM6
import Derived.Test.YtjdaiobeiimpfaaGreatM3
set_option linter.unusedVariables false
set_option linter.unusedSimpArgs false
namespace Go.Mo
open Go.Sx
structure OkOne (m : PMap) (ws : List OW) (g : List Int) (a : List (List Int)) : Prop where
 plc : plcOk m = true
 gl : (g.length : Int) = m.cells
 al : (a.length : Int) = m.cells
 purse : ∀ i, i < g.length → @LE.le Int _ 0 (nth .int g i) ∧ @LE.le Int _ (nth .int g i) 900 ∧ (nth .ints a i).length = 2 ∧ @LE.le Int _ 0 (nth .int (nth .ints a i) 0) ∧ @LE.le Int _ (nth .int (nth .ints a i) 0) 100000 ∧ @LE.le Int _ 0 (nth .int (nth .ints a i) 1) ∧ @LE.le Int _ (nth .int (nth .ints a i) 1) 100000
 ok : ∀ i, i < ws.length → wlkOk m (nth .ow ws i).wlk = true
 sort : ∀ i, i < ws.length → i ≠ 0 → (nth .ow ws (i - 1)).wlk.id < (nth .ow ws i).wlk.id
theorem oneOk_iff2 {o : One} : oneOk o = true ↔ OkOne o.map o.wlks o.ground o.air := by
 rw [oneOk_iff, oneHead_iff]
 unfold purses
 rw [allTo_iff, allTo_iff]
 constructor
 ·rintro ⟨⟨h1, h2, h3⟩, h4, h5⟩
  refine ⟨h1, h2, h3, fun i hi => ?_, fun i hi => ?_, fun i hi h0 => ?_⟩
  ·have := h4 i hi
   simp only [Mo.purse, decide_eq_true_eq] at this
   exact this
  ·have := h5 i hi
   simp only [owAt, Bool.and_eq_true] at this
   exact this.1
  ·have := h5 i hi
   simp only [owAt, Bool.and_eq_true, Bool.or_eq_true, decide_eq_true_eq] at this
   exact this.2.resolve_left h0
 ·intro h
  refine ⟨⟨h.plc, h.gl, h.al⟩, fun i hi => ?_, fun i hi => ?_⟩
  ·have := h.purse i hi
   simp only [Mo.purse, decide_eq_true_eq]
   exact this
  ·have h1 := h.ok i hi
   simp only [owAt, Bool.and_eq_true, Bool.or_eq_true, decide_eq_true_eq]
   refine ⟨h1, ?_⟩
   by_cases h0 : i = 0
   ·exact .inl h0
   ·exact .inr (h.sort i hi h0)
def owC (x : OW) : Int := x.wlk.coins
def airC (l : List Int) : Int := nth .int l 0 + nth .int l 1
def idI (n : Int) : Int := n
def oneTot (ws : List OW) (g : List Int) (a : List (List Int)) : Int := sumL owC ws + sumL idI g + sumL airC a
theorem owSum_all (l : List OW) : owSum l l.length = sumL owC l := by
 have : ∀ k, k ≤ l.length → owSum l k = sumK owC l k := fun k => by
  induction k with
  | zero => intro _; rw [owSum_zero, sumK_zero]
  | succ k ih =>
   intro hk
   rw [owSum_succ, ih (by omega), sumK_succ .ow owC (show k < l.length by omega)]
   rfl
 rw [this _ (Nat.le_refl _), sumK_all _ rfl]
theorem gaSum_all {o : One} (h : o.air.length = o.ground.length) : gaSum o o.ground.length = sumL idI o.ground + sumL airC o.air := by
 have : ∀ k, k ≤ o.ground.length → gaSum o k = sumK idI o.ground k + sumK airC o.air k := fun k => by
  induction k with
  | zero => intro _; rw [gaSum_zero, sumK_zero, sumK_zero]; rfl
  | succ k ih =>
   intro hk
   rw [gaSum_succ, ih (by omega), sumK_succ .int idI (show k < o.ground.length by omega), sumK_succ .ints airC (show k < o.air.length by omega)]
   unfold idI airC
   generalize (nth .int o.ground k : Int) = a
   generalize (nth .int (nth .ints o.air k) 0 : Int) = b
   generalize (nth .int (nth .ints o.air k) 1 : Int) = c
   show sumK idI o.ground k + sumK airC o.air k + (a + b + c) = sumK idI o.ground k + a + (sumK airC o.air k + (b + c))
   omega
 rw [this _ (Nat.le_refl _), sumK_all _ rfl, sumK_all _ h.symm]
theorem coins_tot {o : One} (h : oneOk o = true) : oneCoins o = oneTot o.wlks o.ground o.air := by
 have hk := oneOk_iff2.1 h
 have hl : o.air.length = o.ground.length := by have := hk.gl; have := hk.al; omega
 unfold oneCoins oneTot
 rw [if_pos h, owSum_all, gaSum_all hl]
 omega
structure KeepC (o x : One) : Prop where
 ok : oneOk x = true
 tot : oneTot x.wlks x.ground x.air = oneTot o.wlks o.ground o.air
 map : x.map = o.map
theorem KeepC.coins {o x : One} (ho : oneOk o = true) (h : KeepC o x) : oneCoins x = oneCoins o := by rw [coins_tot ho, coins_tot h.ok, h.tot]
theorem wldStep_keeps {w : Wld} {e : Evt} (h : wldOk w = true) : wldOk (wldStep w e) = true ∧ (wldStep w e).map = w.map ∧ (wldStep w e).servers.length = w.servers.length := by
 have : wldStep w e = wStep w e := by simp [wldStep, h]
 rw [this]
 have := step_ok (e := e) h
 exact ⟨this.1, this.2.2, this.2.1⟩
def From (w : Wld) : Prop := ∃ l w0, Beg l w0 ∧ Ran w0 w
def holdAt (w : Wld) (k j : Nat) : Hld := nth .hld (nth .srv w.servers k).holds j
structure Alone (w : Wld) (A : List Int) (k j : Nat) : Prop where
 len : A.length = w.stores.length
 one : ∀ c, c < w.stores.length → (@Eq Int (nth .int A c) 0 ∨ @Eq Int (nth .int A c) 1) ∧ (@Eq Int (nth .int A c) 1 → ∃ k' j', (k' < k ∨ k' = k ∧ j' < j) ∧ k' < w.servers.length ∧ j' < (nth .srv w.servers k').holds.length ∧ (holdAt w k' j').state.cell = (c : Int) ∧ (holdAt w k' j').age = (nth .sto w.stores c).age)
theorem sto_few {w : Wld} (h : wldOk w = true) : w.stores.length ≤ 4 ∧ (w.stores.length : Int) = w.map.cells ∧ ∀ c, c < w.stores.length → stoOk w.map (nth .sto w.stores c) = true ∧ (nth .sto w.stores c).recs.length ≤ 250 := by
 have h1 := stos_len (wldOk_iff.1 h).2.1
 have h2 := plcOk_iff.1 h1.2
 have h3 := stosOk_iff.1 (wldOk_iff.1 h).2.1
 refine ⟨by omega, h1.1, fun c hc => ?_⟩
 have := (h3.2.2 c hc)
 exact ⟨this.1, (stoOk_iff.1 this.1).2.2.1⟩
def tkP (m : PMap) (t : Arb) (h : Hld) (cell side : Int) (k : Nat) : List Msg := ((nth .pcls h.state.outs side.toNat).take k).map fun p => ⟨5, arbServer t (plcSide m cell side), plcSide m cell side, 1 - side, 0, zeroOrd, p, zeroGst⟩
def tkG (m : PMap) (t : Arb) (h : Hld) (cell side : Int) (k : Nat) : List Msg := ((ghosts m h side).take k).map fun g => ⟨7, arbServer t (plcSide m cell side), plcSide m cell side, 1 - side, 0, zeroOrd, zeroPcl, g⟩
def tkTo (m : PMap) (t : Arb) (h : Hld) (cell : Int) : Nat → List Msg
 | 0 => []
 | n + 1 => tkTo m t h cell n ++ tickSide m t h cell n
theorem tkTo_zero (m : PMap) (t : Arb) (h : Hld) (cell : Int) : tkTo m t h cell 0 = [] := rfl
theorem tkTo_skip {m : PMap} {t : Arb} {h : Hld} {cell : Int} {n : Nat} (hs : plcSide m cell n = -1 ∨ arbServer t (plcSide m cell n) = -1) : tkTo m t h cell (n + 1) = tkTo m t h cell n := by
 show tkTo m t h cell n ++ tickSide m t h cell n = _
 have : tickSide m t h cell n = [] := by
  unfold tickSide
  simp only
  rw [if_pos hs]
 rw [this, List.append_nil]
theorem tkTo_say {m : PMap} {t : Arb} {h : Hld} {cell : Int} {n : Nat} (h1 : ¬ plcSide m cell n = -1) (h2 : ¬ arbServer t (plcSide m cell n) = -1) : tkTo m t h cell (n + 1) = tkTo m t h cell n ++ tkP m t h cell n 4 ++ tkG m t h cell n 4 := by
 show tkTo m t h cell n ++ tickSide m t h cell n = _
 have : tickSide m t h cell n = tkP m t h cell n 4 ++ tkG m t h cell n 4 := by
  unfold tickSide tkP tkG
  simp only
  rw [if_neg (fun hh => hh.elim h1 h2)]
 rw [this, List.append_assoc]
theorem tkTo_two {m : PMap} {s : Srv} {t : Arb} {cell : Int} (hh : srvHas s cell = true) : tkTo m t (srvHold s cell) cell 2 = srvTick m s t cell := by
 unfold srvTick
 rw [if_pos hh]
 rfl
theorem tkP_zero (m : PMap) (t : Arb) (h : Hld) (cell side : Int) : tkP m t h cell side 0 = [] := by simp [tkP]
theorem tkG_zero (m : PMap) (t : Arb) (h : Hld) (cell side : Int) : tkG m t h cell side 0 = [] := by simp [tkG]
theorem tkP_succ {m : PMap} {t : Arb} {h : Hld} {cell side : Int} {k : Nat} (hk : k < (nth .pcls h.state.outs side.toNat).length) : tkP m t h cell side (k + 1) = tkP m t h cell side k ++ [⟨5, arbServer t (plcSide m cell side), plcSide m cell side, 1 - side, 0, zeroOrd, nth .pcl (nth .pcls h.state.outs side.toNat) k, zeroGst⟩] := by
 unfold tkP
 exact take_map_succ (t := .pcl) _ _ hk
theorem tkG_succ {m : PMap} {t : Arb} {h : Hld} {cell side : Int} {k : Nat} (hk : k < (ghosts m h side).length) : tkG m t h cell side (k + 1) = tkG m t h cell side k ++ [⟨7, arbServer t (plcSide m cell side), plcSide m cell side, 1 - side, 0, zeroOrd, zeroPcl, nth .gst (ghosts m h side) k⟩] := by
 unfold tkG
 exact take_map_succ (t := .gst) _ _ hk
theorem tkP_end {m : PMap} {t : Arb} {h : Hld} {cell side : Int} {k : Nat} (h4 : k ≤ 4) (he : min 4 (nth .pcls h.state.outs side.toNat).length ≤ k) : tkP m t h cell side k = tkP m t h cell side 4 := by
 unfold tkP
 by_cases h5 : k = 4
 ·rw [h5]
 ·rw [List.take_of_length_le (by omega), List.take_of_length_le (by omega)]
theorem tkG_end {m : PMap} {t : Arb} {h : Hld} {cell side : Int} {k : Nat} (h4 : k ≤ 4) (he : min 4 (ghosts m h side).length ≤ k) : tkG m t h cell side k = tkG m t h cell side 4 := by
 unfold tkG
 by_cases h5 : k = 4
 ·rw [h5]
 ·rw [List.take_of_length_le (by omega), List.take_of_length_le (by omega)]
theorem tkP_len (m : PMap) (t : Arb) (h : Hld) (cell side : Int) (k : Nat) : (tkP m t h cell side k).length ≤ k := by simp [tkP]; omega
theorem tkG_len (m : PMap) (t : Arb) (h : Hld) (cell side : Int) (k : Nat) : (tkG m t h cell side k).length ≤ k := by simp [tkG]; omega
theorem tkTo_len (m : PMap) (t : Arb) (h : Hld) (cell : Int) : ∀ n, (tkTo m t h cell n).length ≤ 8 * n
 | 0 => by simp [tkTo]
 | n + 1 => by
  have ih := tkTo_len m t h cell n
  show (tkTo m t h cell n ++ tickSide m t h cell n).length ≤ _
  have : (tickSide m t h cell n).length ≤ 8 := by
   unfold tickSide
   simp only
   split
   ·simp
   ·simp
    omega
  rw [List.length_append]
  omega
structure Said (m : PMap) (s : Srv) (t : Arb) (v cell : Int) (z : Msg) : Prop where
 ok : msgOk m v z = true
 side : z.side = 0 ∨ z.side = 1
 at1 : z.cell = plcSide m cell (1 - z.side)
 lo : 0 ≤ z.cell
 hi : z.cell < (t.servers.length : Int)
 dest : z.dest = nth .int t.servers z.cell.toNat
 kind : z.kind = 5 ∨ z.kind = 7
 num : z.kind = 5 → 0 ≤ z.pcl.n - (nth .int (srvHold s cell).state.next (1 - z.side).toNat - (nth .pcls (srvHold s cell).state.outs (1 - z.side).toNat).length) ∧ z.pcl.n - (nth .int (srvHold s cell).state.next (1 - z.side).toNat - (nth .pcls (srvHold s cell).state.outs (1 - z.side).toNat).length) < (nth .pcls (srvHold s cell).state.outs (1 - z.side).toNat).length
 pcl : z.kind = 5 → nth .pcl (nth .pcls (srvHold s cell).state.outs (1 - z.side).toNat) (z.pcl.n - (nth .int (srvHold s cell).state.next (1 - z.side).toNat - (nth .pcls (srvHold s cell).state.outs (1 - z.side).toNat).length)).toNat = z.pcl
 gst : z.kind = 7 → z.gst.count = (srvHold s cell).count ∧ z.gst.src = cell
 bnd : 0 ≤ nth .int (srvHold s cell).state.next (1 - z.side).toNat ∧ nth .int (srvHold s cell).state.next (1 - z.side).toNat ≤ 5000 ∧ ((nth .pcls (srvHold s cell).state.outs (1 - z.side).toNat).length : Int) ≤ nth .int (srvHold s cell).state.next (1 - z.side).toNat ∧ (srvHold s cell).state.outs.length = 2 ∧ (srvHold s cell).state.next.length = 2
theorem tick_len {m : PMap} {s : Srv} {t : Arb} {cell : Int} : (srvTick m s t cell).length ≤ 16 := by
 unfold srvTick
 split
 ·rename_i hh
  have := tkTo_len m t (srvHold s cell) cell 2
  rw [tkTo_two hh] at this
  unfold srvTick at this
  rw [if_pos hh] at this
  omega
 ·simp
theorem step_w {w : Wld} {e : Evt} (h : wldOk w = true) : wldStep w e = wStep w e := by simp [wldStep, h]
theorem step_bad {w : Wld} {e : Evt} (h : wldOk w = false) : wldStep w e = ⟨⟨0, 0⟩, [], [], ⟨[], []⟩, [], [], []⟩ := by simp [wldStep, h, zeroWld]
theorem net_few {w : Wld} (h : wldOk w = true) : w.net.length ≤ 40 := (wldOk_iff.1 h).2.2.2.1
theorem wrap_dn (n : Nat) (h : 0 < n) (h1 : n ≤ 1000) : IntKind.i64.wrap ((n : Int) - 1) = (n : Int) - 1 := wrap_id (by omega) (by omega)
theorem wrap_up (n : Nat) (h1 : n ≤ 1000) : IntKind.i64.wrap ((n : Int) + 1) = (n : Int) + 1 := wrap_id (by omega) (by omega)
theorem arb_few {w : Wld} (h : wldOk w = true) : (w.table.servers.length : Int) = w.map.cells ∧ (w.table.ages.length : Int) = w.map.cells ∧ 2 ≤ w.map.cells + 2 ∧ (w.servers.length : Int) ≤ 3 := by
 have ha := arb_len (wldOk_iff.1 h).1
 exact ⟨ha.1, ha.2.1, by omega, ha.2.2.2.2⟩
theorem srv_few3 {w : Wld} (h : wldOk w = true) : w.servers.length ≤ 3 := by
 have := (arb_few h).2.2.2
 omega
theorem ages_give {w : Wld} {e : Evt} (h : wldOk w = true) (hk : e.kind = 1) {c : Int} (h0 : 0 ≤ c) (h1 : c < w.map.cells) : 0 ≤ c ∧ c < ((wldStep w e).table.ages.length : Int) ∧ c < ((wldStep w e).table.servers.length : Int) := by
 have hk2 := wldStep_keeps (e := e) h
 have := arb_few hk2.1
 rw [hk2.2.1] at this
 omega
theorem age_two {w : Wld} {e : Evt} (h : wldOk w = true) (hk : e.kind = 1) {c : Int} (h0 : 0 ≤ c) (h1 : c < w.map.cells) : 0 ≤ c ∧ c < ((wldStep w e).table.ages.length : Int) := ⟨h0, (ages_give h hk h0 h1).2.1⟩
theorem srv_two {w : Wld} {e : Evt} (h : wldOk w = true) (hk : e.kind = 1) {c : Int} (h0 : 0 ≤ c) (h1 : c < w.map.cells) : 0 ≤ c ∧ c < ((wldStep w e).table.servers.length : Int) := ⟨h0, (ages_give h hk h0 h1).2.2⟩
theorem said_in {a b : Nat} (h : (b : Int) = IntKind.i64.wrap ((a : Int) + 1)) (ha : a ≤ 40) : 0 ≤ (a : Int) ∧ a < b := by
 rw [wrap_up _ (by omega)] at h
 omega
theorem tmod_in (n : Nat) (k : Int) (h : 0 < k) : 0 ≤ (n : Int).tmod k ∧ (n : Int).tmod k < k := by
 rw [Int.tmod_eq_emod_of_nonneg (by omega)]
 exact ⟨Int.emod_nonneg _ (by omega), Int.emod_lt_of_pos _ h⟩
theorem tmod_in2 (n : Nat) (d k : Int) (h : 0 < k) (hd : 0 < d) : 0 ≤ ((n : Int).tdiv d).tmod k ∧ ((n : Int).tdiv d).tmod k < k := by
 have h0 : 0 ≤ (n : Int).tdiv d := Int.tdiv_nonneg (by omega) (by omega)
 rw [Int.tmod_eq_emod_of_nonneg h0]
 exact ⟨Int.emod_nonneg _ (by omega), Int.emod_lt_of_pos _ h⟩
theorem ages_in {w : Wld} (h : wldOk w = true) {c : Int} (h0 : 0 ≤ c) (h1 : ¬ w.map.cells ≤ c) : 0 ≤ c ∧ c < (w.table.ages.length : Int) ∧ c < (w.table.servers.length : Int) := by
 have ha := arb_few h
 omega
theorem net_dest {w : Wld} (h : wldOk w = true) (hn : ¬ (w.net.length : Int) = 0) : (nth .msg w.net 0).dest < (w.servers.length : Int) := by
 have hm := ((wldOk_iff.1 h).2.2.2.2.2.2.2.1 _ (nth_mem .msg (l := w.net) (i := 0) (by omega))).1
 simp only [msgOk, msgKind, decide_eq_true_eq] at hm
 omega
theorem quo_four (n : Nat) (h : ¬ 1048576 < (n : Int)) : 0 ≤ (IntKind.i64.wrap ((n : Int).tdiv 5)).tmod 4 := by
 have h0 : 0 ≤ (n : Int).tdiv 5 := Int.tdiv_nonneg (by omega) (by omega)
 have h1 : (n : Int).tdiv 5 ≤ n := by rw [Int.tdiv_eq_ediv_of_nonneg (by omega)]; omega
 rw [wrap_id (by omega) (by omega), Int.tmod_eq_emod_of_nonneg h0]
 exact Int.emod_nonneg _ (by omega)
theorem grant_cut {w : Wld} {c d : Int} (h : wldOk w = true) (h0 : 0 ≤ c) (h1 : ¬ w.map.cells ≤ c) (h2 : 0 ≤ d) (h3 : ¬ (w.servers.length : Int) ≤ d) (h4 : ¬ @Eq Int (nth .int w.table.ages c.toNat) 900) :
  wldOk w = true ∧ 0 ≤ c ∧ c < w.map.cells ∧ 0 ≤ d ∧ d < (w.servers.length : Int) ∧ ¬ @Eq Int (nth .int w.table.ages c.toNat) 900 := ⟨h, h0, by omega, h2, by omega, h4⟩
theorem kind_two (n : Nat) (k : Int) (h0 : 0 ≤ k) (h1 : k ≤ 100) : IntKind.i64.wrap (k + (n : Int).tmod 2) = k ∨ IntKind.i64.wrap (k + (n : Int).tmod 2) = k + 1 := by
 have : (n : Int).tmod 2 = 0 ∨ (n : Int).tmod 2 = 1 := by rw [Int.tmod_eq_emod_of_nonneg (by omega)]; omega
 rcases this with h | h <;> rw [h]
 ·exact Or.inl (by rw [wrap_id (by omega) (by omega)]; omega)
 ·exact Or.inr (wrap_id (by omega) (by omega))
theorem lose_law {w : Wld} {e : Evt} (h : wldOk w = true) (hk : e.kind = 5 ∨ e.kind = 6) :
  (wldStep w e).servers = w.servers ∧ (wldStep w e).stores = w.stores ∧ (wldStep w e).rows = w.rows ∧ (wldStep w e).notes = w.notes ∧ (wldStep w e).table = w.table ∧
  ((wldStep w e).net.length : Int) = if 0 ≤ e.pos ∧ e.pos < (w.net.length : Int) then (if e.kind = 5 then (w.net.length : Int) - 1 else if (w.net.length : Int) < 40 then (w.net.length : Int) + 1 else (w.net.length : Int)) else (w.net.length : Int) := by
 have hn := (wldOk_iff.1 h).2.2.2.1
 rw [step_w h]
 unfold wStep
 rw [if_neg (by omega), if_neg (by omega), if_neg (by omega), if_pos (by omega)]
 by_cases hp : 0 ≤ e.pos ∧ e.pos < (w.net.length : Int)
 ·rw [if_pos hp, if_pos hp, if_neg (by omega)]
  by_cases h5 : e.kind = 5
  ·rw [if_pos h5, if_pos h5]
   refine ⟨rfl, rfl, rfl, rfl, rfl, ?_⟩
   simp only [wCut]
   rw [List.length_eraseIdx, if_pos (by omega)]
   omega
  ·rw [if_neg h5, if_neg h5]
   refine ⟨rfl, rfl, rfl, rfl, rfl, ?_⟩
   simp only [wSend, List.length_append, List.length_take, List.length_cons, List.length_nil]
   split <;> omega
 ·rw [if_neg hp, if_neg hp]
  exact ⟨rfl, rfl, rfl, rfl, rfl, rfl⟩
theorem lose_one {w : Wld} {e : Evt} (h : wldOk w = true) (hk : e.kind = 5) (hp : 0 ≤ e.pos) (hp2 : e.pos < (w.net.length : Int)) : ((wldStep w e).net.length : Int) = IntKind.i64.wrap ((w.net.length : Int) - 1) := by
 have hl := (lose_law h (Or.inl hk)).2.2.2.2.2
 rw [if_pos ⟨hp, hp2⟩, if_pos hk] at hl
 have := net_few h
 rw [hl, wrap_dn _ (by omega) (by omega)]
theorem grant_not {w : Wld} {e : Evt} (h : wldOk w = true) (hk : e.kind = 1) (hb : ¬ (0 ≤ e.pos ∧ e.pos < w.map.cells ∧ 0 ≤ e.dest ∧ e.dest < (w.servers.length : Int) ∧ nth .int w.table.ages e.pos.toNat ≠ 900)) : wldStep w e = w := by
 have ha := arb_len (wldOk_iff.1 h).1
 rw [step_w h]
 unfold wStep
 rw [if_pos hk]
 have e1 : arbGrant w.table w.servers.length e.pos e.dest = ⟨w.table, false⟩ := by
  unfold arbGrant
  rw [if_neg fun hc => hb ⟨hc.1, by omega, hc.2.2.1, hc.2.2.2.1, hc.2.2.2.2⟩]
 simp only [e1]
 rfl
theorem grant_law {w : Wld} {e : Evt} (h : wldOk w = true) (hk : e.kind = 1) (hb : 0 ≤ e.pos ∧ e.pos < w.map.cells ∧ 0 ≤ e.dest ∧ e.dest < (w.servers.length : Int) ∧ nth .int w.table.ages e.pos.toNat ≠ 900) :
  (wldStep w e).servers = w.servers ∧ (wldStep w e).stores = w.stores ∧ (wldStep w e).rows = w.rows ∧ (wldStep w e).notes = w.notes ∧ (wldStep w e).map = w.map ∧
  @Eq Int (nth .int (wldStep w e).table.servers e.pos.toNat) e.dest ∧ @Eq Int (nth .int (wldStep w e).table.ages e.pos.toNat) (nth .int w.table.ages e.pos.toNat + 1) ∧
  (w.net.length < 40 → (wldStep w e).net.length = w.net.length + 1 ∧ nth .msg (wldStep w e).net w.net.length = ⟨1, e.dest, e.pos, 0, nth .int (wldStep w e).table.ages e.pos.toNat, zeroOrd, zeroPcl, zeroGst⟩) ∧ (¬ w.net.length < 40 → (wldStep w e).net = w.net) := by
 have ha := arb_len (wldOk_iff.1 h).1
 rw [step_w h]
 unfold wStep
 rw [if_pos hk]
 have e1 : arbGrant w.table w.servers.length e.pos e.dest = ⟨⟨w.table.servers.set e.pos.toNat e.dest, w.table.ages.set e.pos.toNat (nth .int w.table.ages e.pos.toNat + 1)⟩, true⟩ := by
  unfold arbGrant
  rw [if_pos ⟨hb.1, by omega, hb.2.2.1, hb.2.2.2.1, hb.2.2.2.2⟩]
 simp only [e1, if_true, wSend]
 refine ⟨trivial, trivial, trivial, trivial, trivial, nth_set_eq .int (by omega), nth_set_eq .int (by omega), fun hn => ?_, fun hn => ?_⟩
 ·have e1 : [(⟨1, e.dest, e.pos, 0, nth .int (w.table.ages.set e.pos.toNat (nth .int w.table.ages e.pos.toNat + 1)) e.pos.toNat, zeroOrd, zeroPcl, zeroGst⟩ : Msg)].take (40 - w.net.length) = [⟨1, e.dest, e.pos, 0, nth .int (w.table.ages.set e.pos.toNat (nth .int w.table.ages e.pos.toNat + 1)) e.pos.toNat, zeroOrd, zeroPcl, zeroGst⟩] := List.take_of_length_le (by simp; omega)
  rw [e1]
  refine ⟨by simp, ?_⟩
  rw [nth_lt .msg _ w.net.length (by simp)]
  simp
 ·rw [show 40 - w.net.length = 0 by omega]
  simp
theorem grant_said {w : Wld} {e : Evt} (h : wldOk w = true) (hk : e.kind = 1) (hb : 0 ≤ e.pos ∧ e.pos < w.map.cells ∧ 0 ≤ e.dest ∧ e.dest < (w.servers.length : Int) ∧ ¬ nth .int w.table.ages e.pos.toNat = 900) (hn : w.net.length < 40) :
  nth .msg (wldStep w e).net w.net.length = ⟨1, e.dest, e.pos, 0, nth .int (wldStep w e).table.ages e.pos.toNat, ⟨0, 0, 0, 0, 0⟩, ⟨0, 0, ⟨0, 0, 0, 0, 0⟩, 0⟩, ⟨0, 0, ⟨0, 0, 0, 0, 0⟩⟩⟩ := ((grant_law h hk hb).2.2.2.2.2.2.2.1 hn).2
theorem grant_len1 {w : Wld} {e : Evt} (h : wldOk w = true) (hk : e.kind = 1) (hb : 0 ≤ e.pos ∧ e.pos < w.map.cells ∧ 0 ≤ e.dest ∧ e.dest < (w.servers.length : Int) ∧ ¬ nth .int w.table.ages e.pos.toNat = 900) (hn : w.net.length < 40) :
  ((wldStep w e).net.length : Int) = IntKind.i64.wrap ((w.net.length : Int) + 1) := by
 have := ((grant_law h hk hb).2.2.2.2.2.2.2.1 hn).1
 rw [wrap_up _ (by omega)]
 omega
theorem grant_box {w : Wld} {p d : Int} (h : wldOk w = true ∧ 0 ≤ p ∧ p < w.map.cells ∧ 0 ≤ d ∧ d < (w.servers.length : Int) ∧ ¬ nth .int w.table.ages p.toNat = 900) :
  (wldStep w ⟨1, p, 0, d, 0⟩).servers = w.servers ∧ (wldStep w ⟨1, p, 0, d, 0⟩).stores = w.stores ∧ (wldStep w ⟨1, p, 0, d, 0⟩).rows = w.rows ∧ (wldStep w ⟨1, p, 0, d, 0⟩).notes = w.notes ∧
  @Eq Int (nth .int (wldStep w ⟨1, p, 0, d, 0⟩).table.servers p.toNat) d ∧ @Eq Int (nth .int (wldStep w ⟨1, p, 0, d, 0⟩).table.ages p.toNat) (IntKind.i64.wrap (nth .int w.table.ages p.toNat + 1)) ∧
  (w.net.length < 40 → ((wldStep w ⟨1, p, 0, d, 0⟩).net.length : Int) = IntKind.i64.wrap ((w.net.length : Int) + 1) ∧ nth .msg (wldStep w ⟨1, p, 0, d, 0⟩).net w.net.length = ⟨1, d, p, 0, nth .int (wldStep w ⟨1, p, 0, d, 0⟩).table.ages p.toNat, ⟨0, 0, 0, 0, 0⟩, ⟨0, 0, ⟨0, 0, 0, 0, 0⟩, 0⟩, ⟨0, 0, ⟨0, 0, 0, 0, 0⟩⟩⟩) ∧
  (¬ w.net.length < 40 → (wldStep w ⟨1, p, 0, d, 0⟩).net = w.net) ∧ w.net.length ≤ 40 := by
 have hg := grant_law (e := ⟨1, p, 0, d, 0⟩) h.1 rfl h.2
 have ha := arb_len (wldOk_iff.1 h.1).1
 have hb := arb_at (wldOk_iff.1 h.1).1 (k := p.toNat) (by omega)
 have h1 : @LE.le Int _ 0 (nth .int w.table.ages p.toNat) := hb.2.2.1
 have h2 : @LE.le Int _ (nth .int w.table.ages p.toNat) 900 := hb.2.2.2.1
 have hw : IntKind.i64.wrap (nth .int w.table.ages p.toNat + 1) = nth .int w.table.ages p.toNat + 1 := wrap_id (by omega) (by omega)
 refine ⟨hg.1, hg.2.1, hg.2.2.1, hg.2.2.2.1, hg.2.2.2.2.2.1, ?_, fun hn => ⟨grant_len1 h.1 rfl h.2 hn, grant_said h.1 rfl h.2 hn⟩, hg.2.2.2.2.2.2.2.2, net_few h.1⟩
 rw [hw]
 exact hg.2.2.2.2.2.2.1
theorem ask_law {w : Wld} {e : Evt} (h : wldOk w = true) (hk : e.kind = 2) :
  (wldStep w e).servers = w.servers ∧ (wldStep w e).stores = w.stores ∧ (wldStep w e).net = w.net ∧ (wldStep w e).notes = w.notes ∧ (wldStep w e).table = w.table := by
 rw [step_w h]
 unfold wStep
 rw [if_neg (by omega), if_pos hk]
 exact ⟨rfl, rfl, rfl, rfl, rfl⟩
theorem say_law {w : Wld} {e : Evt} (h : wldOk w = true) (hk : e.kind = 3) :
  (wldStep w e).servers = w.servers ∧ (wldStep w e).stores = w.stores ∧ (wldStep w e).rows = w.rows ∧ (wldStep w e).notes = w.notes ∧ (wldStep w e).table = w.table ∧
  w.net.length ≤ (wldStep w e).net.length ∧ (wldStep w e).net.length ≤ w.net.length + 1 ∧ (wldStep w e).net.take w.net.length = w.net := by
 rw [step_w h]
 unfold wStep
 rw [if_neg (by omega), if_neg (by omega), if_pos hk]
 split
 ·refine ⟨rfl, rfl, rfl, rfl, rfl, ?_⟩
  simp only [wSend, List.length_append, List.length_take, List.length_cons, List.length_nil]
  refine ⟨by omega, by omega, by simp⟩
 ·exact ⟨rfl, rfl, rfl, rfl, rfl, by omega, by omega, by simp⟩
theorem say_one {w : Wld} {e : Evt} (h : wldOk w = true) (hk : e.kind = 3) : ((wldStep w e).net.length : Int) ≤ IntKind.i64.wrap ((w.net.length : Int) + 1) := by
 have hl := say_law h hk
 have := net_few h
 rw [wrap_up _ (by omega)]
 omega
theorem fall_law {w : Wld} {e : Evt} (h : wldOk w = true) (hk : e.kind = 8) (hp : 0 ≤ e.pos ∧ e.pos < (w.servers.length : Int)) :
  wldStep w e = ⟨w.map, w.servers.set e.pos.toNat ⟨false, [], []⟩, w.stores, w.table, w.rows, w.net, w.notes⟩ := by
 rw [step_w h]
 unfold wStep
 rw [if_neg (by omega), if_neg (by omega), if_neg (by omega), if_neg (by omega), if_pos (by omega), if_pos hp, if_neg (by omega), if_pos hk]
theorem fall_not {w : Wld} {e : Evt} (h : wldOk w = true) (hk : e.kind = 8) (hp : ¬ (0 ≤ e.pos ∧ e.pos < (w.servers.length : Int))) : wldStep w e = w := by
 rw [step_w h]
 unfold wStep
 rw [if_neg (by omega), if_neg (by omega), if_neg (by omega), if_neg (by omega), if_pos (by omega), if_neg hp]
theorem rise_law {w : Wld} {e : Evt} (h : wldOk w = true) (hk : e.kind = 9) (hp : 0 ≤ e.pos ∧ e.pos < (w.servers.length : Int)) (hu : (nth .srv w.servers e.pos.toNat).up = false) :
  wldStep w e = ⟨w.map, w.servers.set e.pos.toNat ⟨true, [], []⟩, w.stores, w.table, w.rows, w.net, w.notes⟩ := by
 rw [step_w h]
 unfold wStep
 rw [if_neg (by omega), if_neg (by omega), if_neg (by omega), if_neg (by omega), if_pos (by omega), if_pos hp, if_neg (by omega), if_neg (by omega), if_pos hu]
theorem fall_rise {w : Wld} {e f : Evt} (h : wldOk w = true) (he : e.kind = 8) (hf : f.kind = 9) (hp : 0 ≤ e.pos ∧ e.pos < (w.servers.length : Int)) (hfp : f.pos = e.pos) :
  wldStep (wldStep w e) f = ⟨w.map, w.servers.set e.pos.toNat ⟨true, [], []⟩, w.stores, w.table, w.rows, w.net, w.notes⟩ := by
 have hk := (wldStep_keeps (e := e) h).1
 have h1 := fall_law h he hp
 rw [h1] at hk ⊢
 have hlt : e.pos.toNat < w.servers.length := by omega
 rw [rise_law hk hf (by rw [hfp]; simp only [List.length_set]; exact hp) (by rw [hfp]; simp only [nth_set_eq .srv hlt])]
 simp only [hfp, List.set_set]
theorem fall_off {l : List Srv} {p i : Int} {s : Srv} (h0 : 0 ≤ p) (h1 : 0 ≤ i) (hn : ¬ i = p) : nth .srv (l.set p.toNat s) i.toNat = nth .srv l i.toNat := nth_set_ne .srv (by omega)
theorem fall_at {l : List Srv} {p : Int} {s : Srv} (h0 : 0 ≤ p) (h1 : p < (l.length : Int)) : nth .srv (l.set p.toNat s) p.toNat = s := nth_set_eq .srv (by omega)
theorem fall_len {l : List Srv} {p : Int} {s : Srv} : (l.set p.toNat s).length = l.length := by simp
theorem down_law {w : Wld} {e : Evt} (h : wldOk w = true) (hk : e.kind = 4) (hp : e.pos = 0) (hn : 0 < w.net.length) (hd : 0 ≤ (nth .msg w.net 0).dest) (hu : (nth .srv w.servers (nth .msg w.net 0).dest.toNat).up = false) :
  (wldStep w e).servers = w.servers ∧ (wldStep w e).stores = w.stores ∧ (wldStep w e).rows = w.rows ∧ (wldStep w e).notes = w.notes ∧ (wldStep w e).table = w.table ∧ (wldStep w e).net = w.net.drop 1 := by
 rw [step_w h]
 unfold wStep
 rw [if_neg (by omega), if_neg (by omega), if_neg (by omega), if_pos (by omega), if_pos (by omega), if_pos hk, hp]
 unfold wBring
 simp only [Int.toNat_zero]
 rw [if_neg (by omega)]
 have e1 : srvHears w.map (nth .srv w.servers (nth .msg w.net 0).dest.toNat) w.stores w.table (nth .msg w.net 0) = ⟨nth .srv w.servers (nth .msg w.net 0).dest.toNat, w.stores, []⟩ := by
  unfold srvHears
  rw [if_pos (Or.inl hu)]
 simp only [wHear, wCut, e1, wSend]
 refine ⟨?_, trivial, trivial, trivial, trivial, by simp⟩
 by_cases hl : (nth .msg w.net 0).dest.toNat < w.servers.length
 ·rw [nth_lt .srv _ _ hl]
  exact List.set_getElem_self hl
 ·exact List.set_eq_of_length_le (by omega)
def newD (a b : List Sto) (i : Nat) : Int := ((nth .sto b i).recs.length : Int) - ((nth .sto a i).recs.length : Int)
def newTo (a b : List Sto) : Nat → Int
 | 0 => -1
 | k + 1 => if newTo a b k = -2 ∨ newD a b k < 0 ∨ 1 < newD a b k ∨ newD a b k = 1 ∧ newTo a b k ≠ -1 then -2 else if newD a b k = 1 then (k : Int) else newTo a b k
def newOf (a b : List Sto) : Int := newTo a b a.length
section
variable {a b : List Sto} {k n : Nat}
theorem newTo_zero : newTo a b 0 = -1 := rfl
theorem newTo_bad (h : newTo a b k = -2) (hk : k ≤ n) : newTo a b n = -2 := by
 induction n with
 | zero => rw [show (0 : Nat) = k by omega]; exact h
 | succ n ih =>
  by_cases hn : k = n + 1
  ·rw [← hn]; exact h
  ·unfold newTo
   rw [if_pos (Or.inl (ih (by omega)))]
theorem newOf_bad (hk : k < a.length) (h : newD a b k < 0 ∨ 1 < newD a b k ∨ newD a b k = 1 ∧ newTo a b k ≠ -1) : newOf a b = -2 := by
 refine newTo_bad (k := k + 1) ?_ (by omega)
 unfold newTo
 rw [if_pos (Or.inr h)]
theorem newTo_succ1 (h0 : newTo a b k ≠ -2) (h1 : newD a b k = 1) (h2 : newTo a b k = -1) : newTo a b (k + 1) = (k : Int) := by
 rw [newTo, if_neg (by omega), if_pos h1]
theorem newTo_succ0 (h0 : newTo a b k ≠ -2) (h1 : newD a b k = 0) : newTo a b (k + 1) = newTo a b k := by
 rw [newTo, if_neg (by omega), if_neg (by omega)]
theorem newTo_all (h : k = a.length) : newTo a b k = newOf a b := by subst h; rfl
theorem newTo_in : -2 ≤ newTo a b k ∧ newTo a b k < k := by
 induction k with
 | zero => simp [newTo]
 | succ k ih =>
  unfold newTo
  split
  ·omega
  ·split <;> omega
theorem newTo_same (h : ∀ i, i < n → newD a b i = 0) : newTo a b n = -1 := by
 induction n with
 | zero => rfl
 | succ n ih =>
  have := ih fun i hi => h i (by omega)
  rw [newTo_succ0 (by omega) (h n (by omega)), this]
theorem newTo_one {d : Nat} (hd : newD a b d = 1) (h : ∀ i, i ≠ d → newD a b i = 0) (hn : d < n) : newTo a b n = (d : Int) := by
 induction n with
 | zero => omega
 | succ n ih =>
  by_cases he : d = n
  ·subst he
   have := newTo_same (n := d) fun i hi => h i (by omega)
   exact newTo_succ1 (by omega) hd this
  ·have := ih (by omega)
   rw [newTo_succ0 (by omega) (h n (by omega)), this]
end
structure LogsE (st st' : List Sto) : Prop where
 len : st'.length = st.length
 pre : ∀ i : Nat, (nth .sto st' i).recs.take (nth .sto st i).recs.length = (nth .sto st i).recs ∧ (nth .sto st i).recs.length ≤ (nth .sto st' i).recs.length
 age : ∀ i : Nat, (nth .sto st i).age ≤ (nth .sto st' i).age
 one : (∀ i, newD st st' i = 0) ∨ ∃ d, d < st.length ∧ newD st st' d = 1 ∧ ∀ i, i ≠ d → newD st st' i = 0
theorem LogsE.refl (st : List Sto) : LogsE st st := ⟨rfl, fun _ => ⟨by simp, by omega⟩, fun _ => by omega, Or.inl fun _ => by simp [newD]⟩
theorem LogsE.new {st st' : List Sto} (h : LogsE st st') : -1 ≤ newOf st st' := by
 rcases h.one with h | ⟨d, hd, h1, h2⟩
 ·unfold newOf
  rw [newTo_same fun i _ => h i]
  omega
 ·unfold newOf
  rw [newTo_one h1 h2 hd]
  omega
theorem logs_eff {m : PMap} {s s' : Srv} {st st' : List Sto} {v : Int} {x : Msg} (hst : stosOk m st = true) (hx : msgOk m v x = true) (he : Eff m s st x s' st') : LogsE st st' := by
 have hc := sto_in hst hx
 have key : ∀ (a : Int) (b : Cll) (l : List Rec), (stoOf st x).age ≤ a → (l = [] ∨ ∃ r, l = [r]) → LogsE st (st.set x.cell.toNat ⟨a, b, (stoOf st x).recs ++ l⟩) := by
  intro a b l ha hl
  have hn : ∀ i : Nat, i ≠ x.cell.toNat → nth .sto (st.set x.cell.toNat ⟨a, b, (stoOf st x).recs ++ l⟩) i = nth .sto st i := fun i hi => nth_set_ne .sto (fun h => hi h.symm)
  have hs : nth .sto (st.set x.cell.toNat ⟨a, b, (stoOf st x).recs ++ l⟩) x.cell.toNat = ⟨a, b, (stoOf st x).recs ++ l⟩ := nth_set_eq .sto hc.2.1
  have hO : nth .sto st x.cell.toNat = stoOf st x := rfl
  refine ⟨by simp, fun i => ?_, fun i => ?_, ?_⟩
  ·by_cases hi : i = x.cell.toNat
   ·subst hi
    rw [hs, hO]
    simp
   ·rw [hn i hi]
    simp
  ·by_cases hi : i = x.cell.toNat
   ·subst hi
    rw [hs, hO]
    exact ha
   ·rw [hn i hi]
    omega
  ·rcases hl with rfl | ⟨r, rfl⟩
   ·refine Or.inl fun i => ?_
    unfold newD
    by_cases hi : i = x.cell.toNat
    ·subst hi
     rw [hs, hO]
     simp
    ·rw [hn i hi]
     omega
   ·refine Or.inr ⟨x.cell.toNat, hc.2.1, ?_, fun i hi => ?_⟩
    ·unfold newD
     rw [hs, hO]
     simp only [List.length_append, List.length_cons, List.length_nil]
     omega
    ·unfold newD
     rw [hn i hi]
     omega
 cases he with
 | same => exact .refl _
 | ghost => exact .refl _
 | lost => exact .refl _
 | grant hu hk hn ha => have := key x.n (stoOf st x).base [] ha (Or.inl rfl); simpa using this
 | write => exact key _ _ [recOf x] (by omega) (Or.inr ⟨_, rfl⟩)
theorem gate_notes (w : Wld) (x : Msg) : (wGate w x).notes.take w.notes.length = w.notes ∧ w.notes.length ≤ (wGate w x).notes.length := by
 have e : (wGate w x).notes = if (gwyHear w.map w.rows x).ok = true ∧ w.notes.length < 150 then w.notes ++ [⟨x.ord.who, x.ord.seq, x.n⟩] else w.notes := rfl
 rw [e]
 split <;> simp
theorem logs_law {w : Wld} {e : Evt} (h : wldOk w = true) : LogsE w.stores (wldStep w e).stores ∧ (wldStep w e).table.ages.length = w.table.ages.length ∧ (∀ i, @LE.le Int _ (nth .int w.table.ages i) (nth .int (wldStep w e).table.ages i)) ∧
  (wldStep w e).notes.take w.notes.length = w.notes ∧ w.notes.length ≤ (wldStep w e).notes.length := by
 rw [step_w h]
 have hs := step_cases w e
 generalize wStep w e = W at *
 cases hs with
 | grant cell server hg =>
  refine ⟨.refl _, ?_, fun i => ?_, by simp [wSend], by simp [wSend]⟩
  ·simp only [wSend, arbGrant]
   split <;> simp
  ·simp only [wSend, arbGrant]
   split
   ·simp only
    by_cases hi : cell.toNat = i
    ·subst hi
     by_cases hl : cell.toNat < w.table.ages.length
     ·rw [nth_set_eq .int hl]
      exact Int.le_of_lt (Int.lt_succ _)
     ·rw [List.set_eq_of_length_le (by omega)]
      exact Int.le_refl _
    ·rw [nth_set_ne .int hi]
     exact Int.le_refl _
   ·exact Int.le_refl _
 | gate i hi hd =>
  have hg := gate_notes (wCut w i) (nth .msg w.net i)
  exact ⟨.refl _, rfl, fun i => Int.le_refl _, hg.1, hg.2⟩
 | hear i hi hd =>
  obtain ⟨X, hX, e⟩ := heard h hi hd
  rw [e]
  exact ⟨logs_eff hX.stos hX.ok hX.eff, rfl, fun i => Int.le_refl _, by simp [wSend], by simp [wSend]⟩
 | _ => exact ⟨.refl _, rfl, fun i => Int.le_refl _, by simp [wSend, wCut], by simp [wSend, wCut]⟩
theorem sto_few' {w : Wld} (h : wldOk w = true) : w.stores.length ≤ 4 := by
 have h1 := stos_len (wldOk_iff.1 h).2.1
 have h2 := plcOk_iff.1 h1.2
 omega
theorem rec_few {w : Wld} (h : wldOk w = true) {i : Nat} (hi : i < w.stores.length) : (nth .sto w.stores i).recs.length ≤ 250 := by
 have h3 := stosOk_iff.1 (wldOk_iff.1 h).2.1
 have := (h3.2.2 i hi).1
 have := (stoOk_iff.1 this).2.2
 omega
end Go.Mo
