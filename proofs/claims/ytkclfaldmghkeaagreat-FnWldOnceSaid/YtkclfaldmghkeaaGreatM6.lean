/-
  Plain laws of the one world: what a record turns there.
-/
import Derived.Test.YtkclfaldmghkeaaGreatM5
set_option linter.unusedVariables false
set_option linter.unusedSimpArgs false
namespace Go.Mo
open Go.Sx
theorem b3o {ι α : Type} [BEq ι] [LawfulBEq ι] {L : List ι} (hn : L.Nodup) {d : ι} (hd : d ∈ L) {f f' : ι → List α} (he : ∀ c ∈ L, c ≠ d → f' c = f c) : ∃ R, (L.flatMap f).Perm (f d ++ R) ∧ (L.flatMap f').Perm (f' d ++ R) := by
 have hp := List.perm_cons_erase hd
 have hc : (L.erase d).flatMap f' = (L.erase d).flatMap f := by
  rw [List.flatMap_def, List.flatMap_def]
  congr 1
  refine List.map_congr_left fun c hc => ?_
  have := (List.Nodup.mem_erase_iff hn).1 hc
  exact he c this.2 this.1
 refine ⟨(L.erase d).flatMap f, ?_, ?_⟩
 ·have := hp.flatMap_right f
  rwa [List.flatMap_cons] at this
 ·have := hp.flatMap_right f'
  rwa [List.flatMap_cons, hc] at this
theorem swap4 {α : Type} (p q r s : List α) : ((p ++ q) ++ (r ++ s)).Perm ((p ++ r) ++ (q ++ s)) := by
 rw [List.append_assoc, List.append_assoc]
 exact (List.perm_append_comm_assoc q r s).append_left p
theorem c2X {m : PMap} (h : n8 m = true) : m.cells.toNat = 2 ∨ m.cells.toNat = 3 ∨ m.cells.toNat = 4 := by
 have := r6.1 h
 omega
theorem b6e {m : PMap} (h : n8 m = true) : (a3a m).Nodup := by
 unfold a3a a0m
 rcases c2X h with e | e | e <;> rw [e] <;> decide
theorem c2N {m : PMap} {c s : Nat} (hc : c < m.cells.toNat) (hs : s < 2) : (c, s) ∈ a3a m := by
 unfold a3a a0m
 refine List.mem_flatMap.2 ⟨c, List.mem_range.2 hc, ?_⟩
 have : s = 0 ∨ s = 1 := by omega
 rcases this with rfl | rfl <;> simp
section
variable {m : PMap} {st st' : List Sto} {d : Int} {r : Rec}
theorem a3i (hp : n8 m = true) (h : Wr m st st' d r) (hd : d < m.cells) {e1 e2 : Int} (he : b6 m e1 e2 ≠ -1) (hfl : ∀ c s, ¬ (c = e1 ∧ s = e2) → fl m st' c s = fl m st c s)
  {X X' R1 Y Y' R2 : List OW} (h1 : (G0 (cX m st d).wlks).Perm (X ++ R1)) (h2 : (G0 (cX m st' d).wlks).Perm (X' ++ R1)) (h3 : (flyO (fl m st e1 e2)).Perm (Y ++ R2)) (h4 : (flyO (fl m st' e1 e2)).Perm (Y' ++ R2)) :
  ∃ T, (allO m st).Perm ((X ++ Y) ++ T) ∧ (allO m st').Perm ((X' ++ Y') ++ T) := by
 have h0 := h.zero
 have hE := x6 he
 have hdn : ((d.toNat : Nat) : Int) = d := by omega
 have hdc : d.toNat ∈ a0m m := List.mem_range.2 (by omega)
 obtain ⟨Ra, a1, a2⟩ := b3o (L := a0m m) List.nodup_range hdc (f := fun (c : Nat) => G0 (cX m st (c : Int)).wlks) (f' := fun (c : Nat) => G0 (cX m st' (c : Int)).wlks) (fun c hc hne => by
  show G0 (cX m st' (c : Int)).wlks = G0 (cX m st (c : Int)).wlks
  rw [h.far (by omega) (by omega)])
 have hn1 : ((e1.toNat : Nat) : Int) = e1 := by omega
 have hn2 : ((e2.toNat : Nat) : Int) = e2 := by omega
 have hec : (e1.toNat, e2.toNat) ∈ a3a m := c2N (by omega) (by omega)
 obtain ⟨Rb, b1, b2⟩ := b3o (L := a3a m) (b6e hp) hec (f := fun (e : Nat × Nat) => flyO (fl m st (e.1 : Int) (e.2 : Int))) (f' := fun (e : Nat × Nat) => flyO (fl m st' (e.1 : Int) (e.2 : Int))) (fun c hc hne => by
  show flyO (fl m st' (c.1 : Int) (c.2 : Int)) = flyO (fl m st (c.1 : Int) (c.2 : Int))
  rw [hfl _ _ (fun hq => hne (Prod.ext (by simp only; omega) (by simp only; omega)))])
 simp only [hdn, hn1, hn2] at a1 a2 b1 b2
 refine ⟨(R1 ++ Ra) ++ (R2 ++ Rb), ?_, ?_⟩
 ·refine (a1.append b1).trans ?_
  refine ((h1.append_right Ra).append (h3.append_right Rb)).trans ?_
  rw [List.append_assoc X R1 Ra, List.append_assoc Y R2 Rb]
  exact swap4 _ _ _ _
 ·refine (a2.append b2).trans ?_
  refine ((h2.append_right Ra).append (h4.append_right Rb)).trans ?_
  rw [List.append_assoc X' R1 Ra, List.append_assoc Y' R2 Rb]
  exact swap4 _ _ _ _
theorem c1h (hp : n8 m = true) (h0 : 0 ≤ d) (hd : d < m.cells) : ∃ s, b6 m d s ≠ -1 := by
 have hm := r6.1 hp
 by_cases h1 : d = 0
 ·refine ⟨1, ?_⟩
  unfold b6
  grind
 ·refine ⟨0, ?_⟩
  unfold b6
  grind
theorem a7i (hp : n8 m = true) (h : Wr m st st' d r) (hd : d < m.cells) (hfl : ∀ c s, fl m st' c s = fl m st c s) {X X' R1 : List OW} (h1 : (G0 (cX m st d).wlks).Perm (X ++ R1)) (h2 : (G0 (cX m st' d).wlks).Perm (X' ++ R1)) :
  ∃ T, (allO m st).Perm (X ++ T) ∧ (allO m st').Perm (X' ++ T) := by
 obtain ⟨s, hs⟩ := c1h hp h.zero hd
 obtain ⟨T, t1, t2⟩ := a3i hp h hd hs (fun c s _ => hfl c s) (Y := []) (Y' := []) (R2 := flyO (fl m st d s)) h1 h2 (List.Perm.refl _) (by rw [hfl]; exact List.Perm.refl _)
 rw [List.append_nil] at t1 t2
 exact ⟨T, t1, t2⟩
end
theorem a1h {a b T : List OW} {x y : OW} (hn : (a.map oid).Nodup) (ha : a.Perm (x :: T)) (hb : b.Perm (y :: T)) (hid : y.wlk.id = x.wlk.id) :
  0 ≤ m0 (A3 a) x.wlk.id ∧ (m0 (A3 a) x.wlk.id).toNat < (A3 a).length ∧ nth .ow (A3 a) (m0 (A3 a) x.wlk.id).toNat = x ∧ A3 b = (A3 a).set (m0 (A3 a) x.wlk.id).toNat y := by
 have hs := M7 hn
 have hp := K4 a
 have hx : x ∈ A3 a := (hp.trans ha).mem_iff.2 List.mem_cons_self
 obtain ⟨p1, p2, p3⟩ := a0a hs hx
 refine ⟨p1, p2, p3, ?_⟩
 have hk : (A3 a)[(m0 (A3 a) x.wlk.id).toNat] = x := (k9 .ow _ _ p2).symm.trans p3
 exact b4g (c1s hs p2 (by rw [hk, hid])) ((set_perm p2 hk (hp.trans ha)).trans hb.symm)
theorem c1g {a b T : List OW} {x x2 y y2 : OW} (hn : (a.map oid).Nodup) (ha : a.Perm (x :: x2 :: T)) (hb : b.Perm (y :: y2 :: T)) (hid : y.wlk.id = x.wlk.id) (hid2 : y2.wlk.id = x2.wlk.id) :
  0 ≤ m0 (A3 a) x.wlk.id ∧ (m0 (A3 a) x.wlk.id).toNat < (A3 a).length ∧ nth .ow (A3 a) (m0 (A3 a) x.wlk.id).toNat = x ∧
  0 ≤ m0 (A3 a) x2.wlk.id ∧ (m0 (A3 a) x2.wlk.id).toNat < (A3 a).length ∧ nth .ow (A3 a) (m0 (A3 a) x2.wlk.id).toNat = x2 ∧
  A3 b = ((A3 a).set (m0 (A3 a) x.wlk.id).toNat y).set (m0 (A3 a) x2.wlk.id).toNat y2 := by
 have hc : (y :: x2 :: T).Perm (x2 :: y :: T) := List.Perm.swap _ _ _
 have h1 := a1h hn ha (List.Perm.refl (y :: x2 :: T)) hid
 have hn2 : ((y :: x2 :: T).map oid).Nodup := by
  have := ((ha.map oid).nodup_iff).1 hn
  simp only [List.map_cons, oid, hid] at this ⊢
  exact this
 have h2 := a1h hn2 hc (hb.trans (List.Perm.swap _ _ _)) hid2
 obtain ⟨p1, p2, p3, p4⟩ := h1
 obtain ⟨q1, q2, q3, q4⟩ := h2
 have hx2 : x2 ∈ A3 a := ((K4 a).trans ha).mem_iff.2 (List.mem_cons_of_mem _ List.mem_cons_self)
 obtain ⟨g1, g2, g3⟩ := a0a (M7 hn) hx2
 have he : m0 (A3 (y :: x2 :: T)) x2.wlk.id = m0 (A3 a) x2.wlk.id := by
  rw [p4]
  refine b1w (a5F _ fun z hz => ?_)
  have : nth .ow (A3 a) (m0 (A3 a) x.wlk.id).toNat = z := by
   unfold nth List.getD
   rw [hz]
   rfl
  rw [p3] at this
  rw [← this]
  simp [isOw, hid]
 rw [he, p4] at q4
 exact ⟨p1, p2, p3, g1, g2, g3, q4⟩
theorem b1b {α : Type} {n d : Nat} (hd : d < n) {f f' : Nat → α} (he : ∀ c, c ≠ d → f' c = f c) : (List.range n).map f' = ((List.range n).map f).set d (f' d) := by
 apply List.ext_getElem (by simp)
 intro i h1 h2
 rw [List.getElem_set]
 simp only [List.getElem_map, List.getElem_range]
 split
 ·rename_i e; rw [e]
 ·rename_i e; exact he i (fun q => e q.symm)
theorem b6T {n d : Nat} (hd : d < n) {f : Nat → Int} : @Eq Int (nth .int ((List.range n).map f) d) (f d) := by
 rw [k9 .int _ d (by simpa using hd)]; simp
theorem b6S {n d : Nat} (hd : d < n) {f : Nat → List Int} : @Eq (List Int) (nth .ints ((List.range n).map f) d) (f d) := by
 rw [k9 .ints _ d (by simpa using hd)]; simp
end Go.Mo
namespace Go.Mo
open Go.Sx
structure OneInv (m : PMap) (st : List Sto) : Prop where
 plc : n8 m = true
 cells : ∀ c : Int, 0 ≤ c → c < m.cells → q9 m (cX m st c) = true ∧ (cX m st c).cell = c
 seq : ∀ c s, b6 m c s ≠ -1 → inX m st (b6 m c s) (1 - s) ≤ nxX m st c s ∧ nxX m st c s - (ouX m st c s).length ≤ inX m st (b6 m c s) (1 - s)
 next : ∀ c s, b6 m c s ≠ -1 → nxX m st c s ≤ 250
 ids : ((allO m st).map oid).Nodup
section
variable {m : PMap} {st st' : List Sto} {d : Int} {r : Rec}
theorem b7W (hI : OneInv m st) {c s : Int} {p : Pcl} (hp : p ∈ fl m st c s) : H5 m p = true ∧ b6 m c s ≠ -1 ∧ p ∈ ouX m st c s := by
 unfold fl at hp
 split at hp
 ·cases hp
 ·rename_i hs
  have h2 := G9 hs
  have hi := R5 hs
  have hm := (List.mem_filter.1 hp).1
  have hl := b3y (hI.cells c hi.1 hi.2.1).1 h2.1
  obtain ⟨i, hi2, he⟩ := a0G .pcl hm
  have : H5 m (nth .pcl (ouX m st c s) i) = true := ((I3.1 hl).2.2.2.2 i hi2).1
  rw [he] at this
  exact ⟨this, hs, hm⟩
theorem fl_len (hI : OneInv m st) (c s : Int) : (fl m st c s).length ≤ 250 := by
 unfold fl
 split
 ·exact Nat.zero_le _
 ·rename_i hs
  have h2 := G9 hs
  have hi := R5 hs
  have h3 := hI.next c s hs
  have hl := (I3.1 (b3y (hI.cells c hi.1 hi.2.1).1 h2.1)).2.2.2.1
  have : (x9 (ouX m st c s) (inX m st (b6 m c s) (1 - s))).length ≤ (ouX m st c s).length := List.length_filter_le _ _
  unfold nxX at h3
  unfold ouX at *
  omega
theorem b8B {l : List Pcl} (h : ∀ p ∈ l, H5 m p = true) : 0 ≤ sumC l ∧ sumC l ≤ l.length * 9 := b8A fun p hp => by
 have := L5.1 (h p hp)
 unfold cC
 split
 ·exact ⟨Int.le_refl 0, by decide⟩
 ·omega
theorem air_in (hI : OneInv m st) (c s : Int) : 0 ≤ airN m st c s ∧ airN m st c s ≤ 2250 := by
 unfold airN
 split
 ·exact ⟨Int.le_refl 0, by decide⟩
 ·have h1 := b8B (m := m) (l := fl m st (b6 m c s) (1 - s)) fun p hp => (b7W hI hp).1
  have h2 := fl_len hI (b6 m c s) (1 - s)
  omega
theorem a1P {c : Int} (h0 : 0 ≤ c) (h1 : c < m.cells) : @Eq Int (nth .int (m4 m st).ground c.toNat) (cX m st c).ground := by
 show @Eq Int (nth .int ((List.range m.cells.toNat).map fun (c : Nat) => (cX m st (c : Int)).ground) c.toNat) _
 rw [b6T (by omega), b8k h0]
theorem b2L {c : Int} (h0 : 0 ≤ c) (h1 : c < m.cells) : @Eq (List Int) (nth .ints (m4 m st).air c.toNat) [airN m st c 0, airN m st c 1] := by
 show @Eq (List Int) (nth .ints ((List.range m.cells.toNat).map fun (c : Nat) => [airN m st (c : Int) 0, airN m st (c : Int) 1]) c.toNat) _
 rw [b6S (by omega), show ((c.toNat : Nat) : Int) = c by omega]
theorem a2O {c s : Int} (h0 : 0 ≤ c) (h1 : c < m.cells) (hs : s = 0 ∨ s = 1) : @Eq Int (nth .int (nth .ints (m4 m st).air c.toNat) s.toNat) (airN m st c s) := by
 rw [b2L h0 h1]
 rcases hs with rfl | rfl <;> rfl
theorem a4w (h : Wr m st st' d r) (hd : d < m.cells) : (m4 m st').ground = (m4 m st).ground.set d.toNat (cX m st' d).ground := by
 show (List.range m.cells.toNat).map (fun (c : Nat) => (cX m st' (c : Int)).ground) = ((List.range m.cells.toNat).map fun (c : Nat) => (cX m st (c : Int)).ground).set d.toNat _
 have h0 := h.zero
 have := b1b (n := m.cells.toNat) (d := d.toNat) (by omega) (f := fun (c : Nat) => (cX m st (c : Int)).ground) (f' := fun (c : Nat) => (cX m st' (c : Int)).ground) (fun c hc => by
  show (cX m st' (c : Int)).ground = (cX m st (c : Int)).ground
  rw [h.far (by omega) (by omega)])
 rw [this, b8k h0]
theorem X4 (h : Wr m st st' d r) (hd : d < m.cells) (hg : (cX m st' d).ground = (cX m st d).ground) : (m4 m st').ground = (m4 m st).ground := by
 rw [a4w h hd, hg]
 have h0 := h.zero
 apply List.ext_getElem (by simp)
 intro i h1 h2
 rw [List.getElem_set]
 split
 ·rename_i e
  subst e
  have := a1P (m := m) (st := st) h0 hd
  rw [k9 .int _ _ h2] at this
  exact this.symm
 ·rfl
theorem b0l (hf : ∀ c s, sumC (fl m st' c s) = sumC (fl m st c s)) : (m4 m st').air = (m4 m st).air := by
 show (a0m m).map (fun (c : Nat) => [airN m st' (c : Int) 0, airN m st' (c : Int) 1]) = (a0m m).map (fun (c : Nat) => [airN m st (c : Int) 0, airN m st (c : Int) 1])
 have : ∀ c s, airN m st' c s = airN m st c s := fun c s => by unfold airN; rw [hf]
 refine List.map_congr_left fun c _ => ?_
 rw [this, this]
theorem a6g {e1 e2 n : Int} (he : b6 m e1 e2 ≠ -1) (hs : sumC (fl m st' e1 e2) = sumC (fl m st e1 e2) + n) (hf : ∀ c s, ¬ (c = e1 ∧ s = e2) → fl m st' c s = fl m st c s) :
  (m4 m st').air = a3j (m4 m st).air (b6 m e1 e2) (1 - e2) n := by
 have hb := x6 he
 have h2 := G9 he
 have hd : (b6 m e1 e2).toNat < m.cells.toNat := by omega
 have hback : b6 m (b6 m e1 e2) (1 - e2) = e1 := hb.2.2.2.2.2.2.1
 have hself : airN m st' (b6 m e1 e2) (1 - e2) = airN m st (b6 m e1 e2) (1 - e2) + n := by
  unfold airN
  rw [hback, if_neg (by omega), if_neg (by omega), show 1 - (1 - e2) = e2 by omega, hs]
 have hoff : ∀ c s, (s = 0 ∨ s = 1) → ¬ (c = b6 m e1 e2 ∧ s = 1 - e2) → airN m st' c s = airN m st c s := fun c s hss hne => by
  unfold airN
  split
  ·rfl
  ·rename_i hcs
   have hb2 := x6 hcs
   rw [hf _ _ (fun hq => hne ?_)]
   obtain ⟨q1, q2⟩ := hq
   have : s = 1 - e2 := by omega
   refine ⟨?_, this⟩
   have h7 := hb2.2.2.2.2.2.2.1
   rw [q1, q2] at h7
   exact h7.symm
 unfold a3j
 rw [a2O hb.2.2.2.2.1 hb.2.2.2.2.2.1 (by omega), b2L hb.2.2.2.2.1 hb.2.2.2.2.2.1]
 show (List.range m.cells.toNat).map (fun (c : Nat) => [airN m st' (c : Int) 0, airN m st' (c : Int) 1]) = ((List.range m.cells.toNat).map fun (c : Nat) => [airN m st (c : Int) 0, airN m st (c : Int) 1]).set _ _
 rw [b1b hd (f := fun (c : Nat) => [airN m st (c : Int) 0, airN m st (c : Int) 1]) (f' := fun (c : Nat) => [airN m st' (c : Int) 0, airN m st' (c : Int) 1]) (fun c hc => by
  show [airN m st' (c : Int) 0, airN m st' (c : Int) 1] = [airN m st (c : Int) 0, airN m st (c : Int) 1]
  rw [hoff _ 0 (.inl rfl) (fun q => hc (by omega)), hoff _ 1 (.inr rfl) (fun q => hc (by omega))])]
 congr 1
 show [airN m st' ((b6 m e1 e2).toNat : Int) 0, airN m st' ((b6 m e1 e2).toNat : Int) 1] = _
 rw [show (((b6 m e1 e2).toNat : Nat) : Int) = b6 m e1 e2 by omega]
 have : e2 = 0 ∨ e2 = 1 := by omega
 rcases this with rfl | rfl
 ·rw [hoff _ 0 (.inl rfl) (fun q => by omega), show (1 : Int) = 1 - 0 by rfl, hself]
  rfl
 ·rw [hoff _ 1 (.inr rfl) (fun q => by omega)]
  have := hself
  rw [show (1 : Int) - 1 = 0 by rfl] at this
  rw [this]
  rfl
theorem b6r {c s : Int} (h0 : 0 ≤ c) (h1 : c < m.cells) (hs : s = 0 ∨ s = 1) : a3j (m4 m st).air c s 0 = (m4 m st).air := by
 unfold a3j
 rw [a2O h0 h1 hs, Int.add_zero]
 apply List.ext_getElem (by simp)
 intro i g1 g2
 rw [List.getElem_set]
 split
 ·rename_i e
  subst e
  have := b2L (m := m) (st := st) h0 h1
  rw [k9 .ints _ _ g2] at this
  rw [k9 .ints _ _ g2, this]
  rcases hs with rfl | rfl <;> rfl
 ·rfl
end
end Go.Mo
namespace Go.Mo
open Go.Sx
theorem a1Q {m : PMap} {st : List Sto} {w : List OW} {g : List Int} {a : List (List Int)} (h1 : A3 (allO m st) = w) (h2 : (m4 m st).ground = g) (h3 : (m4 m st).air = a) : m4 m st = ⟨m, w, g, a⟩ := by
 rw [← h1, ← h2, ← h3]
 rfl
theorem a8i {a b T : List OW} {x y : OW} (ha : a.Perm (x :: T)) (hb : b.Perm (y :: T)) (hid : y.wlk.id = x.wlk.id) : (b.map oid).Perm (a.map oid) := by
 refine (hb.map oid).trans (List.Perm.trans ?_ (ha.map oid).symm)
 simp only [List.map_cons, oid, hid]
 exact List.Perm.refl _
theorem a5M {l : List Wlk} {i : Nat} {w' : Wlk} (hi : i < l.length) : ∃ R, (G0 l).Perm ([⟨nth .wlk l i, true⟩] ++ R) ∧ (G0 (l.set i w')).Perm ([⟨w', true⟩] ++ R) := by
 refine ⟨G0 (l.take i ++ l.drop (i + 1)), ?_, ?_⟩
 ·have := (a5l hi).map fun w => (⟨w, true⟩ : OW)
  rw [k9 .wlk l i hi]
  exact this
 ·exact (b8K (y := w') hi).map fun w => (⟨w, true⟩ : OW)
theorem c5D {l : List Wlk} {i : Nat} {w : Wlk} (hs : srt l) (hi : i < l.length) (hw : w.id = (nth .wlk l i).id) : ∃ R, (G0 l).Perm ([⟨nth .wlk l i, true⟩] ++ R) ∧ (G0 (B2 (l.set i w) w.id)).Perm ([] ++ R) := by
 refine ⟨G0 (l.take i ++ l.drop (i + 1)), ?_, ?_⟩
 ·have := (a5l hi).map fun w => (⟨w, true⟩ : OW)
  rw [k9 .wlk l i hi]
  exact this
 ·have h1 := a5W (i := i) (a7X hs hw) (by simpa using hi)
  rw [l9 .wlk hi] at h1
  rw [h1, List.take_set_of_le (Nat.le_refl i), List.drop_set_of_lt (by omega)]
  exact List.Perm.refl _
theorem c5B {l : List Wlk} {i j : Nat} {a b : Wlk} (hi : i < l.length) (hj : j < l.length) (hne : i ≠ j) : ∃ R, (G0 l).Perm ([⟨nth .wlk l i, true⟩, ⟨nth .wlk l j, true⟩] ++ R) ∧ (G0 ((l.set j b).set i a)).Perm ([⟨a, true⟩, ⟨b, true⟩] ++ R) := by
 obtain ⟨R1, p1, p2⟩ := a5M (w' := a) hi
 have hj2 : j < (l.set i a).length := by simpa using hj
 obtain ⟨R2, q1, q2⟩ := a5M (l := l.set i a) (w' := b) hj2
 rw [n9 .wlk hne] at q1
 have hx : ([(⟨a, true⟩ : OW)] ++ R1).Perm ([(⟨nth .wlk l j, true⟩ : OW)] ++ R2) := p2.symm.trans q1
 have hset : (l.set j b).set i a = (l.set i a).set j b := List.set_comm _ _ (fun e => hne e.symm)
 rw [hset]
 by_cases hm : (⟨nth .wlk l j, true⟩ : OW) = ⟨a, true⟩
 ·
  rw [hm] at hx
  have h1 : R1.Perm R2 := hx.cons_inv
  have hmem : (⟨nth .wlk l j, true⟩ : OW) ∈ R1 := by
   have : nth .wlk l j ∈ l.take i ++ l.drop (i + 1) := by
    rw [k9 .wlk l j hj]
    by_cases hlt : j < i
    ·refine List.mem_append_left _ ?_
     have : (l.take i)[j]'(by simp; omega) = l[j] := by simp
     rw [← this]
     exact List.getElem_mem _
    ·refine List.mem_append_right _ ?_
     have : (l.drop (i + 1))[j - (i + 1)]'(by simp; omega) = l[j] := by simp; congr 1; omega
     rw [← this]
     exact List.getElem_mem _
   have hR : ([(⟨nth .wlk l i, true⟩ : OW)] ++ R1).Perm ([(⟨nth .wlk l i, true⟩ : OW)] ++ G0 (l.take i ++ l.drop (i + 1))) := p1.symm.trans (by
    have := (a5l hi).map fun w => (⟨w, true⟩ : OW)
    rw [k9 .wlk l i hi]
    exact this)
   exact (List.Perm.cons_inv hR).mem_iff.2 (List.mem_map.2 ⟨_, this, rfl⟩)
  obtain ⟨s, t, e⟩ := List.append_of_mem hmem
  refine ⟨s ++ t, p1.trans ?_, q2.trans ?_⟩
  ·rw [e]
   exact (List.perm_middle).cons _
  ·have h2 : R2.Perm (⟨nth .wlk l j, true⟩ :: (s ++ t)) := h1.symm.trans (by rw [e]; exact List.perm_middle)
   rw [hm] at h2
   exact (h2.cons _).trans (List.Perm.swap _ _ _)
 ·have hmem : (⟨a, true⟩ : OW) ∈ R2 := by
   have := hx.mem_iff.1 List.mem_cons_self
   rcases List.mem_cons.1 this with h | h
   ·exact absurd h.symm hm
   ·exact h
  obtain ⟨s, t, e⟩ := List.append_of_mem hmem
  have h3 : ([(⟨nth .wlk l j, true⟩ : OW)] ++ R2).Perm ((⟨a, true⟩ : OW) :: (⟨nth .wlk l j, true⟩ : OW) :: (s ++ t)) := by
   rw [e]
   exact ((List.perm_middle).cons _).trans (List.Perm.swap _ _ _)
  have h4 : R1.Perm (⟨nth .wlk l j, true⟩ :: (s ++ t)) := (hx.trans h3).cons_inv
  refine ⟨s ++ t, p1.trans (h4.cons _), q2.trans ?_⟩
  rw [e]
  exact ((List.perm_middle).cons _).trans (List.Perm.swap _ _ _)
section
variable {m : PMap} {st st' : List Sto} {d : Int} {r : Rec}
theorem a5r (hI : OneInv m st) (h : Wr m st st' d r) (hd : d < m.cells) {i : Nat} {w' : Wlk} {g : Int} (hi : i < (cX m st d).wlks.length) (hid : w'.id = (nth .wlk (cX m st d).wlks i).id)
  (hc : cX m st' d = ⟨(cX m st d).cell, (cX m st d).wlks.set i w', g, (cX m st d).outs, (cX m st d).next, (cX m st d).ins⟩) :
  m4 m st' = ⟨m, (m4 m st).wlks.set (m0 (m4 m st).wlks (nth .wlk (cX m st d).wlks i).id).toNat ⟨w', true⟩, (m4 m st).ground.set d.toNat g, (m4 m st).air⟩ ∧ ((allO m st').map oid).Perm ((allO m st).map oid) := by
 have hfl : ∀ c s, fl m st' c s = fl m st c s := c0b h (by rw [hc]) (by rw [hc])
 obtain ⟨R, p1, p2⟩ := a5M (w' := w') hi
 obtain ⟨T, t1, t2⟩ := a7i hI.plc h hd hfl p1 (by rw [hc]; exact p2)
 have hs := a1h hI.ids t1 t2 hid
 refine ⟨a1Q hs.2.2.2 ?_ ?_, a8i t1 t2 hid⟩
 ·rw [a4w h hd, hc]
 ·exact b0l fun c s => by rw [hfl]
theorem c4l (hI : OneInv m st) (h : Wr m st st' d r) (hd : d < m.cells) {i j : Nat} {a b : Wlk} (hi : i < (cX m st d).wlks.length) (hj : j < (cX m st d).wlks.length) (hne : i ≠ j) (hid : a.id = (nth .wlk (cX m st d).wlks i).id) (hid2 : b.id = (nth .wlk (cX m st d).wlks j).id)
  (hc : cX m st' d = ⟨(cX m st d).cell, ((cX m st d).wlks.set j b).set i a, (cX m st d).ground, (cX m st d).outs, (cX m st d).next, (cX m st d).ins⟩) :
  m4 m st' = ⟨m, ((m4 m st).wlks.set (m0 (m4 m st).wlks (nth .wlk (cX m st d).wlks i).id).toNat ⟨a, true⟩).set (m0 (m4 m st).wlks (nth .wlk (cX m st d).wlks j).id).toNat ⟨b, true⟩, (m4 m st).ground, (m4 m st).air⟩ ∧ ((allO m st').map oid).Perm ((allO m st).map oid) := by
 have hfl : ∀ c s, fl m st' c s = fl m st c s := c0b h (by rw [hc]) (by rw [hc])
 obtain ⟨R, p1, p2⟩ := c5B (a := a) (b := b) hi hj hne
 obtain ⟨T, t1, t2⟩ := a7i hI.plc h hd hfl p1 (by rw [hc]; exact p2)
 have hs := c1g hI.ids t1 t2 hid hid2
 refine ⟨a1Q hs.2.2.2.2.2.2 ?_ ?_, ?_⟩
 ·exact X4 h hd (by rw [hc])
 ·exact b0l fun c s => by rw [hfl]
 ·refine (t2.map oid).trans (List.Perm.trans ?_ (t1.map oid).symm)
  simp only [List.map_append, List.map_cons, List.map_nil, oid, hid, hid2]
  exact List.Perm.refl _
theorem c5S (p : Pcl) (l : List Pcl) (hk : p.kind ≠ 1) : flyO (l ++ [p]) = flyO l := by
 unfold flyO
 rw [List.filter_append]
 simp [isWp, hk]
theorem c5Q (p : Pcl) (l : List Pcl) (hk : p.kind = 1) : (flyO (l ++ [p])).Perm ([⟨p.wlk, false⟩] ++ flyO l) := by
 have : flyO (l ++ [p]) = flyO l ++ [⟨p.wlk, false⟩] := by
  unfold flyO
  rw [List.filter_append]
  simp [isWp, hk]
 rw [this]
 exact List.perm_append_comm
theorem c1y (hI : OneInv m st) (h : Wr m st st' d r) (hd : d < m.cells) {i : Nat} {w' : Wlk} {e n : Int} (he : b6 m d e ≠ -1) (hi : i < (cX m st d).wlks.length) (hid : w'.id = (nth .wlk (cX m st d).wlks i).id)
  (hc : cX m st' d = ⟨(cX m st d).cell, (cX m st d).wlks.set i w', (cX m st d).ground, A7 (cX m st d) e.toNat ⟨0, 2, ⟨0, 0, 0, 0, 0⟩, n⟩, D8 (cX m st d) e.toNat, (cX m st d).ins⟩) :
  m4 m st' = ⟨m, (m4 m st).wlks.set (m0 (m4 m st).wlks (nth .wlk (cX m st d).wlks i).id).toNat ⟨w', true⟩, (m4 m st).ground, a3j (m4 m st).air (b6 m d e) (1 - e) n⟩ ∧ ((allO m st').map oid).Perm ((allO m st).map oid) := by
 have hl : (cX m st d).outs.length = 2 := (n6 (hI.cells d h.zero hd).1).2.2.2.2.2.2.1
 obtain ⟨f1, f2⟩ := b9Z h he hl (by rw [hc]) (by rw [hc]) (hI.seq d e he).1
 obtain ⟨R, p1, p2⟩ := a5M (w' := w') hi
 obtain ⟨T, t1, t2⟩ := a3i hI.plc h hd he f1 (Y := []) (Y' := []) (R2 := flyO (fl m st d e)) p1 (by rw [hc]; exact p2) (List.Perm.refl _) (by rw [f2, c5S _ _ (by show (2 : Int) ≠ 1; decide)]; exact List.Perm.refl _)
 rw [List.append_nil] at t1 t2
 have hs := a1h hI.ids t1 t2 hid
 refine ⟨a1Q hs.2.2.2 ?_ ?_, a8i t1 t2 hid⟩
 ·exact X4 h hd (by rw [hc])
 ·refine a6g he ?_ f1
  rw [f2]
  unfold sumC
  rw [a4N, a4M]
  rfl
theorem c1z (hI : OneInv m st) (h : Wr m st st' d r) (hd : d < m.cells) {i : Nat} {w w' : Wlk} {e : Int} (he : b6 m d e ≠ -1) (hi : i < (cX m st d).wlks.length) (hw : w.id = (nth .wlk (cX m st d).wlks i).id) (hid : w'.id = (nth .wlk (cX m st d).wlks i).id)
  (hc : cX m st' d = ⟨(cX m st d).cell, B2 ((cX m st d).wlks.set i w) w.id, (cX m st d).ground, A7 (cX m st d) e.toNat ⟨0, 1, w', 0⟩, D8 (cX m st d) e.toNat, (cX m st d).ins⟩) :
  m4 m st' = ⟨m, (m4 m st).wlks.set (m0 (m4 m st).wlks (nth .wlk (cX m st d).wlks i).id).toNat ⟨w', false⟩, (m4 m st).ground, (m4 m st).air⟩ ∧ ((allO m st').map oid).Perm ((allO m st).map oid) := by
 have hok := (hI.cells d h.zero hd).1
 have hl : (cX m st d).outs.length = 2 := (n6 hok).2.2.2.2.2.2.1
 obtain ⟨f1, f2⟩ := b9Z h he hl (by rw [hc]) (by rw [hc]) (hI.seq d e he).1
 obtain ⟨R, p1, p2⟩ := c5D (a7g hok) hi hw
 obtain ⟨T, t1, t2⟩ := a3i hI.plc h hd he f1 (Y := []) (Y' := [⟨w', false⟩]) (R2 := flyO (fl m st d e)) p1 (by rw [hc]; exact p2) (List.Perm.refl _) (by rw [f2]; exact c5Q _ _ rfl)
 rw [List.append_nil] at t1
 rw [List.nil_append] at t2
 have hs := a1h hI.ids t1 t2 hid
 refine ⟨a1Q hs.2.2.2 ?_ ?_, a8i t1 t2 hid⟩
 ·exact X4 h hd (by rw [hc])
 ·have := a6g (n := 0) he (by
   rw [f2]
   unfold sumC
   rw [a4N, a4M]
   rfl) f1
  rw [this]
  have hb := x6 he
  exact b6r hb.2.2.2.2.1 hb.2.2.2.2.2.1 (by omega)
end
end Go.Mo
namespace Go.Mo
open Go.Sx
section
variable {m : PMap} {st st' : List Sto} {d : Int} {r : Rec}
theorem a5N (h0 : 0 ≤ d) (hd : d < m.cells) {w : Wlk} (hw : w ∈ (cX m st d).wlks) : (⟨w, true⟩ : OW) ∈ allO m st := by
 refine List.mem_append_left _ (List.mem_flatMap.2 ⟨d.toNat, List.mem_range.2 (by omega), ?_⟩)
 rw [b8k h0]
 exact List.mem_map.2 ⟨w, hw, rfl⟩
theorem b5T (h0 : 0 ≤ d) (hd : d < m.cells) : (m4 m st).ground.set d.toNat (cX m st d).ground = (m4 m st).ground := by
 apply List.ext_getElem (by simp)
 intro i h1 h2
 rw [List.getElem_set]
 split
 ·rename_i e
  subst e
  have := a1P (m := m) (st := st) h0 hd
  rw [k9 .int _ _ h2] at this
  exact this.symm
 ·rfl
theorem all_ok (hI : OneInv m st) {x : OW} (hx : x ∈ allO m st) : O8 m x.wlk = true ∧ (x.here = true → ∃ c : Int, 0 ≤ c ∧ c < m.cells ∧ x.wlk ∈ (cX m st c).wlks ∧ l6 m x.wlk.pos = c) := by
 rcases List.mem_append.1 hx with hx | hx
 ·obtain ⟨c, hc, hx⟩ := List.mem_flatMap.1 hx
  obtain ⟨w, hw, rfl⟩ := List.mem_map.1 hx
  have hcn : c < m.cells.toNat := List.mem_range.1 hc
  have hok := hI.cells (c : Int) (by omega) (by omega)
  have := (C4.1 hok.1).1 w hw
  exact ⟨this.1, fun _ => ⟨(c : Int), by omega, by omega, hw, by rw [this.2, hok.2]⟩⟩
 ·obtain ⟨e, he, hx⟩ := List.mem_flatMap.1 hx
  obtain ⟨p, hp, rfl⟩ := List.mem_map.1 hx
  obtain ⟨hp1, hp2⟩ := List.mem_filter.1 hp
  have hk : p.kind = 1 := by simpa [isWp] using hp2
  have := L5.1 (b7W hI hp1).1
  exact ⟨by
   rcases this.2.2.2 with h | h
   ·exact h.2.1
   ·omega, fun h => by cases h⟩
theorem do_one (hI : OneInv m st) (h : Wr m st st' d r) (hd : d < m.cells) (hk : r.kind = 1) :
  a5s (m4 m st) r.ord = ⟨m4 m st', (E6 m (cX m st d) r.ord).code⟩ ∧ ((allO m st').map oid).Perm ((allO m st).map oid) := by
 have h0 := h.zero
 obtain ⟨hfr, hc, _⟩ := X7 hk h.fits
 have hself : cX m st' d = (E6 m (cX m st d) r.ord).c := by rw [h.self, hc]
 have ho : J6 r.ord = true := by
  rcases X3 h.log with ⟨_, q⟩ | ⟨q, _⟩ | ⟨q, _⟩
  ·exact q
  ·omega
  ·omega
 have hok := (hI.cells d h0 hd).1
 have hcell := (hI.cells d h0 hd).2
 have hpl := Q7 hfr
 have hi := E4 hpl.1
 have hid := id_w (a7c hfr)
 generalize hII : (j4 (cX m st d).wlks r.ord.who).toNat = i at *
 have hmem := r8 .wlk hi
 have hwk := G7 hok hi
 have hpm := a0a (M7 hI.ids) ((K4 _).mem_iff.2 (a5N h0 hd hmem))
 have hpos : l6 m (nth .wlk (cX m st d).wlks i).pos = d := by
  have := ((C4.1 hok).1 _ hmem).2
  rw [hcell] at this
  exact this
 have hL : E6 m (cX m st d) r.ord = L9 m (cX m st d) i ⟨(nth .wlk (cX m st d).wlks i).id, (nth .wlk (cX m st d).wlks i).pos, (nth .wlk (cX m st d).wlks i).l7, r.ord.seq, (nth .wlk (cX m st d).wlks i).last⟩ r.ord := by
  unfold E6
  rw [if_neg hpl.1]
  simp only
  rw [hII, if_neg (by omega), if_neg (by omega)]
 have hpw : m0 (m4 m st).wlks r.ord.who = m0 (A3 (allO m st)) (nth .wlk (cX m st d).wlks i).id := by rw [hid]; rfl
 have hR : a5s (m4 m st) r.ord = b9G (m4 m st) (m0 (m4 m st).wlks (nth .wlk (cX m st d).wlks i).id).toNat (nth .wlk (cX m st d).wlks i) r.ord := by
  unfold a5s
  simp only
  rw [hpw]
  have e : nth .ow (m4 m st).wlks (m0 (A3 (allO m st)) (nth .wlk (cX m st d).wlks i).id).toNat = ⟨nth .wlk (cX m st d).wlks i, true⟩ := hpm.2.2
  rw [e, if_neg (fun q => q ⟨hpm.1, rfl⟩)]
  show (if r.ord.seq < (nth .wlk (cX m st d).wlks i).seq then _ else if r.ord.seq = (nth .wlk (cX m st d).wlks i).seq then _ else _) = _
  rw [if_neg (by omega), if_neg (by omega)]
  rfl
 rw [hR, hL]
 rw [hL] at hself
 clear hR hL hc
 have hg := b5T (st := st) h0 hd
 have fin : ∀ code : Int, cX m st' d = (D9 (cX m st d) i ⟨(nth .wlk (cX m st d).wlks i).id, (nth .wlk (cX m st d).wlks i).pos, (nth .wlk (cX m st d).wlks i).l7, r.ord.seq, (nth .wlk (cX m st d).wlks i).last⟩ (cX m st d).ground code).c →
   oFin (m4 m st) (m0 (m4 m st).wlks (nth .wlk (cX m st d).wlks i).id).toNat (nth .wlk (cX m st d).wlks i) r.ord.seq true (m4 m st).ground (m4 m st).air code = ⟨m4 m st', code⟩ ∧ ((allO m st').map oid).Perm ((allO m st).map oid) := fun code e => by
  have := a5r hI h hd hi (w' := ⟨(nth .wlk (cX m st d).wlks i).id, (nth .wlk (cX m st d).wlks i).pos, (nth .wlk (cX m st d).wlks i).l7, r.ord.seq, code⟩) rfl e
  refine ⟨?_, this.2⟩
  rw [this.1, hg]
  rfl
 have hord := G6.1 ho
 unfold b9G
 unfold L9 at hself ⊢
 by_cases k1 : r.ord.kind = 1
 ·rw [if_pos k1]
  rw [if_pos k1] at hself ⊢
  have hdst : r.ord.dest = 0 ∨ r.ord.dest = 1 := by omega
  unfold c4Q
  unfold V2 at hself ⊢
  simp only at hself ⊢
  have hmap : (m4 m st).map = m := rfl
  rw [hmap]
  rw [hcell] at hself ⊢
  by_cases g1 : l6 m ((nth .wlk (cX m st d).wlks i).pos + (2 * r.ord.dest - 1)) = -1
  ·rw [if_pos g1]
   rw [if_pos g1] at hself ⊢
   exact fin 2 hself
  rw [if_neg g1]
  rw [if_neg g1] at hself ⊢
  by_cases g2 : l6 m ((nth .wlk (cX m st d).wlks i).pos + (2 * r.ord.dest - 1)) = d
  ·rw [if_pos g2] at hself ⊢
   have := a5r hI h hd hi (w' := ⟨(nth .wlk (cX m st d).wlks i).id, (nth .wlk (cX m st d).wlks i).pos + (2 * r.ord.dest - 1), (nth .wlk (cX m st d).wlks i).l7, r.ord.seq, 1⟩) rfl hself
   refine ⟨?_, this.2⟩
   rw [this.1, hg, g2, hpos]
   simp only [decide_true]
   rfl
  rw [if_neg g2] at hself ⊢
  obtain ⟨s1, s2⟩ := b1J hdst g1 (by rw [hpos]; omega) (by rw [hpos]; exact g2)
  rw [hpos] at s1 s2
  have hnx : @LE.le Int _ (nth .int (cX m st d).next r.ord.dest.toNat) 250 := hI.next d r.ord.dest s2
  have hnx2 : ¬ @Eq Int (nth .int (cX m st d).next r.ord.dest.toNat) 5000 := fun e => by rw [e] at hnx; exact absurd hnx (by decide)
  rw [if_neg hnx2] at hself ⊢
  have := c1z hI h hd s2 hi (w := ⟨(nth .wlk (cX m st d).wlks i).id, (nth .wlk (cX m st d).wlks i).pos, (nth .wlk (cX m st d).wlks i).l7, r.ord.seq, (nth .wlk (cX m st d).wlks i).last⟩) (w' := ⟨(nth .wlk (cX m st d).wlks i).id, (nth .wlk (cX m st d).wlks i).pos + (2 * r.ord.dest - 1), (nth .wlk (cX m st d).wlks i).l7, r.ord.seq, 1⟩) rfl rfl (by
   rw [hself, hid, hcell])
  refine ⟨?_, this.2⟩
  rw [this.1, hpos, decide_eq_false g2]
  rfl
 rw [if_neg k1]
 rw [if_neg k1] at hself ⊢
 by_cases k2 : r.ord.kind = 2
 ·rw [if_pos k2]
  rw [if_pos k2] at hself ⊢
  unfold c4S
  unfold V4 at hself ⊢
  simp only at hself ⊢
  have hmap : (m4 m st).map = m := rfl
  rw [hmap, hpos]
  by_cases g1 : j4 (cX m st d).wlks r.ord.dest < 0
  ·rw [if_pos g1] at hself ⊢
   rw [if_pos ?_]
   ·exact fin 4 hself
   ·rintro ⟨q1, q2, q3⟩
    have hlt := b1g (m4 m st).wlks r.ord.dest
    have hvm : nth .ow (m4 m st).wlks (m0 (m4 m st).wlks r.ord.dest).toNat ∈ A3 (allO m st) := r8 .ow (show (m0 (m4 m st).wlks r.ord.dest).toNat < (m4 m st).wlks.length by omega)
    obtain ⟨c, c0, c1, c2, c3⟩ := (all_ok hI ((K4 _).mem_iff.1 hvm)).2 q2
    rw [c3] at q3
    subst q3
    have hfd := c5f (n6 hok).1 c2
    have hvid := b9t q1
    rw [hvid] at hfd
    exact absurd g1 (by have := (L7 hfd.1).2; omega)
  rw [if_neg g1] at hself ⊢
  have hj := E4 g1
  have hjid := id_w (l := (cX m st d).wlks) (id := r.ord.dest) (by simp [o9]; omega)
  generalize hJ : (j4 (cX m st d).wlks r.ord.dest).toNat = j at *
  have hjm := r8 .wlk hj
  have hpj := a0a (M7 hI.ids) ((K4 _).mem_iff.2 (a5N h0 hd hjm))
  have hjpos : l6 m (nth .wlk (cX m st d).wlks j).pos = d := by
   have := ((C4.1 hok).1 _ hjm).2
   rw [hcell] at this
   exact this
  have hpj2 : m0 (m4 m st).wlks r.ord.dest = m0 (A3 (allO m st)) (nth .wlk (cX m st d).wlks j).id := by rw [hjid]; rfl
  have ej : nth .ow (m4 m st).wlks (m0 (A3 (allO m st)) (nth .wlk (cX m st d).wlks j).id).toNat = ⟨nth .wlk (cX m st d).wlks j, true⟩ := hpj.2.2
  rw [hpj2, ej]
  rw [if_neg (fun q => q ⟨hpj.1, rfl, hjpos⟩)]
  by_cases g2 : (nth .wlk (cX m st d).wlks i).l7 < r.ord.n
  ·rw [if_pos g2]
   rw [if_pos g2] at hself ⊢
   exact fin 3 hself
  rw [if_neg g2]
  rw [if_neg g2] at hself ⊢
  by_cases g3 : 99 < (nth .wlk (cX m st d).wlks j).l7 + r.ord.n
  ·rw [if_pos g3]
   rw [if_pos g3] at hself ⊢
   exact fin 5 hself
  rw [if_neg g3]
  rw [if_neg g3] at hself ⊢
  have hne : i ≠ j := fun e => by
   subst e
   rw [hid] at hjid
   exact a1n ho k2 hjid.symm
  have := c4l hI h hd hi hj hne (a := ⟨(nth .wlk (cX m st d).wlks i).id, (nth .wlk (cX m st d).wlks i).pos, (nth .wlk (cX m st d).wlks i).l7 - r.ord.n, r.ord.seq, 1⟩) (b := ⟨(nth .wlk (cX m st d).wlks j).id, (nth .wlk (cX m st d).wlks j).pos, (nth .wlk (cX m st d).wlks j).l7 + r.ord.n, (nth .wlk (cX m st d).wlks j).seq, (nth .wlk (cX m st d).wlks j).last⟩) rfl rfl hself
  refine ⟨?_, this.2⟩
  rw [this.1]
  rfl
 rw [if_neg k2]
 rw [if_neg k2] at hself ⊢
 have hgn := a1P (st := st) h0 hd
 by_cases k3 : r.ord.kind = 3
 ·rw [if_pos k3]
  rw [if_pos k3] at hself ⊢
  unfold c4T
  unfold V5 at hself ⊢
  simp only at hself ⊢
  have hmap : (m4 m st).map = m := rfl
  rw [hmap, hpos]
  by_cases g2 : (nth .wlk (cX m st d).wlks i).l7 < r.ord.n
  ·rw [if_pos g2]
   rw [if_pos g2] at hself ⊢
   exact fin 3 hself
  rw [if_neg g2]
  rw [if_neg g2] at hself ⊢
  rw [hgn]
  by_cases g3 : 900 < (cX m st d).ground + r.ord.n
  ·rw [if_pos g3]
   rw [if_pos g3] at hself ⊢
   exact fin 5 hself
  rw [if_neg g3]
  rw [if_neg g3] at hself ⊢
  have := a5r hI h hd hi (w' := ⟨(nth .wlk (cX m st d).wlks i).id, (nth .wlk (cX m st d).wlks i).pos, (nth .wlk (cX m st d).wlks i).l7 - r.ord.n, r.ord.seq, 1⟩) rfl hself
  refine ⟨?_, this.2⟩
  rw [this.1]
  rfl
 rw [if_neg k3]
 rw [if_neg k3] at hself ⊢
 by_cases k4 : r.ord.kind = 4
 ·rw [if_pos k4]
  rw [if_pos k4] at hself ⊢
  unfold c4R
  unfold V3 at hself ⊢
  simp only at hself ⊢
  have hmap : (m4 m st).map = m := rfl
  rw [hmap, hpos]
  rw [hgn]
  by_cases g2 : (cX m st d).ground < r.ord.n
  ·rw [if_pos g2]
   rw [if_pos g2] at hself ⊢
   exact fin 6 hself
  rw [if_neg g2]
  rw [if_neg g2] at hself ⊢
  by_cases g3 : 99 < (nth .wlk (cX m st d).wlks i).l7 + r.ord.n
  ·rw [if_pos g3]
   rw [if_pos g3] at hself ⊢
   exact fin 5 hself
  rw [if_neg g3]
  rw [if_neg g3] at hself ⊢
  have := a5r hI h hd hi (w' := ⟨(nth .wlk (cX m st d).wlks i).id, (nth .wlk (cX m st d).wlks i).pos, (nth .wlk (cX m st d).wlks i).l7 + r.ord.n, r.ord.seq, 1⟩) rfl hself
  refine ⟨?_, this.2⟩
  rw [this.1]
  rfl
 rw [if_neg k4]
 rw [if_neg k4] at hself ⊢
 by_cases k5 : r.ord.kind = 5
 ·rw [if_pos k5]
  rw [if_pos k5] at hself ⊢
  unfold b7x
  unfold O2 at hself ⊢
  simp only at hself ⊢
  have hmap : (m4 m st).map = m := rfl
  rw [hmap, hpos]
  by_cases g1 : H4 m (nth .wlk (cX m st d).wlks i).pos r.ord.dest = false
  ·rw [if_pos g1]
   rw [if_pos g1] at hself ⊢
   exact fin 7 hself
  rw [if_neg g1]
  rw [if_neg g1] at hself ⊢
  by_cases g2 : (nth .wlk (cX m st d).wlks i).l7 < r.ord.n
  ·rw [if_pos g2]
   rw [if_pos g2] at hself ⊢
   exact fin 3 hself
  rw [if_neg g2]
  rw [if_neg g2] at hself ⊢
  have he : b6 m d r.ord.dest ≠ -1 := by
   have g1 : H4 m (nth .wlk (cX m st d).wlks i).pos r.ord.dest = true := by simpa using g1
   unfold H4 at g1
   rw [hpos] at g1
   simp only [decide_eq_true_eq] at g1
   exact g1.1
  have hnx : @LE.le Int _ (nth .int (cX m st d).next r.ord.dest.toNat) 250 := hI.next d r.ord.dest he
  have hnx2 : ¬ @Eq Int (nth .int (cX m st d).next r.ord.dest.toNat) 5000 := fun e => by rw [e] at hnx; exact absurd hnx (by decide)
  have hb := x6 he
  have hair := air_in hI (b6 m d r.ord.dest) (1 - r.ord.dest)
  have hq : ¬ (100000 < airN m st (b6 m d r.ord.dest) (1 - r.ord.dest) + r.ord.n) := by omega
  rw [a2O hb.2.2.2.2.1 hb.2.2.2.2.2.1 (by omega), if_neg hq]
  rw [if_neg hnx2] at hself ⊢
  have := c1y hI h hd (n := r.ord.n) he hi (w' := ⟨(nth .wlk (cX m st d).wlks i).id, (nth .wlk (cX m st d).wlks i).pos, (nth .wlk (cX m st d).wlks i).l7 - r.ord.n, r.ord.seq, 1⟩) rfl hself
  refine ⟨?_, this.2⟩
  rw [this.1]
  rfl
 rw [if_neg k5]
 rw [if_neg k5] at hself ⊢
 exact fin 1 hself
end
end Go.Mo
namespace Go.Mo
open Go.Sx
theorem b9n {m : PMap} {c : Cll} {s : Nat} {p : Pcl} (h : (s7 m c s p).ok = true) : c.ground + p.l7 ≤ 900 ∧ (p.kind = 2 → (s7 m c s p).c = ⟨c.cell, c.wlks, c.ground + p.l7, c.outs, c.next, C0 c s⟩) ∧
  (¬ p.kind = 2 → j4 c.wlks p.wlk.id < 0 ∧ l6 m p.wlk.pos = c.cell ∧ (s7 m c s p).c = ⟨c.cell, I7 c.wlks p.wlk, c.ground, c.outs, c.next, C0 c s⟩) := by
 unfold s7 at h ⊢
 split at h
 ·cases h
 rename_i h1
 rw [if_neg h1]
 refine ⟨by omega, fun hk => ?_, fun hk => ?_⟩
 ·rw [if_pos hk]
 ·rw [if_neg hk] at h ⊢
  split at h
  ·cases h
  ·rename_i h3
   rw [if_neg h3]
   exact ⟨by omega, by omega, rfl⟩
theorem c5C {l : List Wlk} {w : Wlk} (h : j4 l w.id < 0) : (G0 (I7 l w)).Perm ([⟨w, true⟩] ++ G0 l) := by
 unfold I7
 rw [c4a h]
 generalize z8 l w.id = n
 unfold insL G0
 rw [List.map_append, List.map_append]
 have : (List.map (fun w => (⟨w, true⟩ : OW)) l) = List.map (fun w => (⟨w, true⟩ : OW)) (l.take n) ++ List.map (fun w => (⟨w, true⟩ : OW)) (l.drop n) := by
  rw [← List.map_append, List.take_append_drop]
 rw [this]
 exact List.perm_middle
theorem c5R (p : Pcl) (l : List Pcl) (hk : p.kind = 1) : flyO (p :: l) = ⟨p.wlk, false⟩ :: flyO l := by
 unfold flyO
 rw [List.filter_cons_of_pos (by simp [isWp, hk])]
 rfl
theorem c2J (p : Pcl) (l : List Pcl) (hk : p.kind ≠ 1) : flyO (p :: l) = flyO l := by
 unfold flyO
 rw [List.filter_cons_of_neg (by simp [isWp, hk])]
theorem a6t (p : Pcl) (l : List Pcl) : sumC (p :: l) = cC p + sumC l := by
 have := a4N cC [p] l
 rw [a4M] at this
 exact this
section
variable {m : PMap} {st st' : List Sto} {d : Int} {r : Rec}
theorem in_pcl (h : Wr m st st' d r) (hk : r.kind = 2) : H5 m r.pcl = true := a5G h.log hk
theorem c5k (hI : OneInv m st) (h : Wr m st st' d r) (hd : d < m.cells) (hk : r.kind = 2) (hs : Sent m st (b6 m d r.side) (1 - r.side) r.pcl) (hw : r.pcl.kind = 1) :
  a8b (m4 m st) r.pcl.wlk.id = m4 m st' ∧ ((allO m st').map oid).Perm ((allO m st).map oid) := by
 have h0 := h.zero
 obtain ⟨hsd, f1, f2⟩ := fl_in h hk (fun c c0 c1 => (hI.cells c c0 c1).1) hs
 have hb := x6 hsd
 have hback : b6 m (b6 m d r.side) (1 - r.side) = d := hb.2.2.2.2.2.2.1
 have he : b6 m (b6 m d r.side) (1 - r.side) ≠ -1 := by rw [hback]; omega
 obtain ⟨_, hr, hc⟩ := U3 hk h.fits
 obtain ⟨_, _, g3⟩ := b9n hr
 obtain ⟨g4, g5, g6⟩ := g3 (by omega)
 have hself : cX m st' d = ⟨(cX m st d).cell, I7 (cX m st d).wlks r.pcl.wlk, (cX m st d).ground, (cX m st d).outs, (cX m st d).next, C0 (cX m st d) r.side.toNat⟩ := by rw [h.self, hc, g6]
 obtain ⟨T, t1, t2⟩ := a3i hI.plc h hd he f1 (X := []) (X' := [⟨r.pcl.wlk, true⟩]) (R1 := G0 (cX m st d).wlks) (Y := [⟨r.pcl.wlk, false⟩]) (Y' := []) (R2 := flyO (fl m st' (b6 m d r.side) (1 - r.side)))
  (List.Perm.refl _) (by rw [hself]; exact c5C g4) (by rw [f2, c5R _ _ hw]; exact List.Perm.refl _) (List.Perm.refl _)
 rw [List.nil_append] at t1
 rw [List.append_nil] at t2
 have hss := a1h (x := ⟨r.pcl.wlk, false⟩) (y := ⟨r.pcl.wlk, true⟩) hI.ids t1 t2 rfl
 refine ⟨?_, a8i (x := ⟨r.pcl.wlk, false⟩) (y := ⟨r.pcl.wlk, true⟩) t1 t2 rfl⟩
 have hair : (m4 m st').air = (m4 m st).air := by
  have := a6g (n := 0) he (by
   rw [f2, a6t]
   have : cC r.pcl = 0 := by unfold cC; rw [if_pos hw]
   omega) f1
  rw [this, hback, show 1 - (1 - r.side) = r.side by omega]
  exact b6r h0 hd hb.1
 unfold a8b
 have hp : 0 ≤ m0 (m4 m st).wlks r.pcl.wlk.id := hss.1
 rw [if_pos hp]
 have hn : nth .ow (m4 m st).wlks (m0 (m4 m st).wlks r.pcl.wlk.id).toNat = ⟨r.pcl.wlk, false⟩ := hss.2.2.1
 rw [hn]
 refine (a1Q hss.2.2.2 ?_ hair).symm
 exact X4 h hd (by rw [hself])
theorem c6c (hI : OneInv m st) (h : Wr m st st' d r) (hd : d < m.cells) (hk : r.kind = 2) (hs : Sent m st (b6 m d r.side) (1 - r.side) r.pcl) (hw : ¬ r.pcl.kind = 1) :
  a8d (m4 m st) d r.side r.pcl.l7 = m4 m st' ∧ ((allO m st').map oid).Perm ((allO m st).map oid) := by
 have h0 := h.zero
 obtain ⟨hsd, f1, f2⟩ := fl_in h hk (fun c c0 c1 => (hI.cells c c0 c1).1) hs
 have hb := x6 hsd
 have hback : b6 m (b6 m d r.side) (1 - r.side) = d := hb.2.2.2.2.2.2.1
 have he : b6 m (b6 m d r.side) (1 - r.side) ≠ -1 := by rw [hback]; omega
 obtain ⟨_, hr, hc⟩ := U3 hk h.fits
 obtain ⟨g1, g2, _⟩ := b9n hr
 have hpk := L5.1 (in_pcl h hk)
 have hk2 : r.pcl.kind = 2 := by omega
 have hself : cX m st' d = ⟨(cX m st d).cell, (cX m st d).wlks, (cX m st d).ground + r.pcl.l7, (cX m st d).outs, (cX m st d).next, C0 (cX m st d) r.side.toNat⟩ := by rw [h.self, hc, g2 hk2]
 obtain ⟨T, t1, t2⟩ := a3i hI.plc h hd he f1 (X := []) (X' := []) (R1 := G0 (cX m st d).wlks) (Y := []) (Y' := []) (R2 := flyO (fl m st' (b6 m d r.side) (1 - r.side)))
  (List.Perm.refl _) (by rw [hself]; exact List.Perm.refl _) (by rw [f2, c2J _ _ hw]; exact List.Perm.refl _) (List.Perm.refl _)
 rw [List.nil_append, List.nil_append] at t1 t2
 have hpm := t1.trans t2.symm
 refine ⟨?_, (hpm.map oid).symm⟩
 have hcc : cC r.pcl = r.pcl.l7 := by unfold cC; rw [if_neg hw]
 have hair : (m4 m st').air = a3j (m4 m st).air d r.side (-r.pcl.l7) := by
  have := a6g (n := -r.pcl.l7) he (by rw [f2, a6t, hcc]; omega) f1
  rw [this, hback, show 1 - (1 - r.side) = r.side by omega]
 have hav : r.pcl.l7 ≤ airN m st d r.side := by
  unfold airN
  rw [if_neg hsd, f2, a6t, hcc]
  have := (b8B (m := m) (l := fl m st' (b6 m d r.side) (1 - r.side)) fun p hp => (b7W hI (c := b6 m d r.side) (s := 1 - r.side) (by rw [f2]; exact List.mem_cons_of_mem _ hp)).1).1
  omega
 unfold a8d
 rw [a2O h0 hd hb.1, a1P h0 hd]
 have hmap : (m4 m st).map = m := rfl
 rw [if_pos ⟨h0, hd, hb.1, by omega, hav, g1⟩, hmap]
 refine (a1Q (a7s hI.ids hpm).symm ?_ ?_).symm
 ·rw [a4w h hd, hself]
 ·rw [hair]
  unfold a3j
  rw [a2O h0 hd hb.1, Int.sub_eq_add_neg]
theorem ack_one (hI : OneInv m st) (h : Wr m st st' d r) (hd : d < m.cells) (hk : r.kind = 3) (hack : r.n ≤ inX m st (b6 m d r.side) (1 - r.side)) :
  m4 m st' = m4 m st ∧ ((allO m st').map oid).Perm ((allO m st).map oid) := by
 have hfl := fl_ack h hk hack
 obtain ⟨_, hr, hc⟩ := V9 hk h.fits
 have hself : cX m st' d = (D3 (cX m st d) r.side.toNat r.n).c := by rw [h.self, hc]
 have hw : (cX m st' d).wlks = (cX m st d).wlks ∧ (cX m st' d).ground = (cX m st d).ground := by
  rw [hself]
  unfold D3
  split <;> exact ⟨rfl, rfl⟩
 obtain ⟨T, t1, t2⟩ := a7i hI.plc h hd hfl (X := []) (X' := []) (R1 := G0 (cX m st d).wlks) (List.Perm.refl _) (by rw [hw.1]; exact List.Perm.refl _)
 rw [List.nil_append] at t1 t2
 have hpm := t1.trans t2.symm
 refine ⟨?_, (hpm.map oid).symm⟩
 exact a1Q (a7s hI.ids hpm).symm (X4 h hd hw.2) (b0l fun c s => by rw [hfl])
end
end Go.Mo
namespace Go.Mo
open Go.Sx
inductive Did (w w' : Wld) : Prop
 | quiet (h : Lsame w.stores w'.stores)
 | wrote (d : Int) (r : Rec) (h : Wr w.map w.stores w'.stores d r) (hd : d < w.map.cells) (hin : r.kind = 2 → Sent w.map w.stores (b6 w.map d r.side) (1 - r.side) r.pcl)
   (hack : r.kind = 3 → r.n ≤ inX w.map w.stores (b6 w.map d r.side) (1 - r.side))
theorem c6e {w w' : Wld} (hok : p9 w = true) (hf : Fence w) (hm : Mail w) (hs : StepC w w') : w'.map = w.map ∧ Did w w' := by
 cases hs with
 | hear i hi hd =>
  obtain ⟨X, hX, e⟩ := heard hok hi hd
  rw [e]
  generalize nth .msg w.net i = x at *
  have hw := a2W hf hX
  have hcs := a1I hX.stos hX.ok
  refine ⟨rfl, ?_⟩
  cases hw with
  | no h => exact .quiet h
  | yes h hkk hh hss hff =>
   have hlen := (B4.1 hX.stos).2.1
   have h0 := h.zero
   have hlt := h.lt
   refine .wrote x.cell (n3 x) h (by omega) (fun hk => ?_) (fun hk => ?_)
   ·have k5 : x.kind = 5 := by
     rcases hkk with h0 | h0 | h0
     ·rw [n3, if_pos h0] at hk; cases hk
     ·exact h0
     ·rw [n3, if_neg (by omega), if_neg (by omega)] at hk; cases hk
    have er : n3 x = ⟨2, s5, x.side, x.pcl, 0⟩ := by rw [n3, if_neg (by omega), if_pos k5]
    rw [er]
    exact hm.pcl x hX.mem k5
   ·have k6 : x.kind = 6 := by
     rcases hkk with h0 | h0 | h0
     ·rw [n3, if_pos h0] at hk; cases hk
     ·rw [n3, if_neg (by omega), if_pos h0] at hk; cases hk
     ·exact h0
    have er : n3 x = ⟨3, s5, x.side, u5, x.n⟩ := by rw [n3, if_neg (by omega), if_neg (by omega)]
    rw [er]
    exact hm.got x hX.mem k6
 | _ => exact ⟨rfl, .quiet (.refl _)⟩
structure Pl (L : List Int) (m : PMap) (st : List Sto) : Prop where
 next : ∀ c s, b6 m c s ≠ -1 → nxX m st c s ≤ (stAt st c).recs.length
 ids : ((allO m st).map oid).Perm L
theorem c0a {m : PMap} {st st' : List Sto} (h : Lsame st st') (c s : Int) : fl m st' c s = fl m st c s := by
 unfold fl
 rw [h.ou, h.in]
theorem b6q {m : PMap} {st st' : List Sto} (h : Lsame st st') : allO m st' = allO m st ∧ m4 m st' = m4 m st := by
 have e : allO m st' = allO m st := by
  unfold allO
  have e1 : (fun (c : Nat) => G0 (cX m st' (c : Int)).wlks) = (fun (c : Nat) => G0 (cX m st (c : Int)).wlks) := funext fun c => by rw [h.cX]
  have e2 : (fun (e : Nat × Nat) => flyO (fl m st' (e.1 : Int) (e.2 : Int))) = (fun (e : Nat × Nat) => flyO (fl m st (e.1 : Int) (e.2 : Int))) := funext fun c => by rw [c0a h]
  rw [e1, e2]
 refine ⟨e, ?_⟩
 have e3 : (fun (c : Nat) => (cX m st' (c : Int)).ground) = (fun (c : Nat) => (cX m st (c : Int)).ground) := funext fun c => by rw [h.cX]
 have e4 : ∀ c s, airN m st' c s = airN m st c s := fun c s => by unfold airN; rw [c0a h]
 have e5 : (fun (c : Nat) => [airN m st' (c : Int) 0, airN m st' (c : Int) 1]) = (fun (c : Nat) => [airN m st (c : Int) 0, airN m st (c : Int) 1]) := funext fun c => by rw [e4, e4]
 unfold m4
 rw [e, e3, e5]
theorem b1h {L : List Int} {w : Wld} (hok : p9 w = true) (hm : Mail w) (hL : L.Nodup) (hp : Pl L w.map w.stores) : OneInv w.map w.stores := by
 have hs := (n7.1 hok).2.1
 have h1 := B4.1 hs
 refine ⟨h1.1, fun c c0 c1 => ?_, hm.seq, fun c s hcs => ?_, (hp.ids.nodup_iff).2 hL⟩
 ·obtain ⟨q1, q2, q3, q4⟩ := a3g hok c0 c1
  exact ⟨q4, by unfold cX; rw [a0f, q3]⟩
 ·have hi := R5 hcs
  have := hp.next c s hcs
  have hl := (u0.1 (a3g hok hi.1 hi.2.1).2.1).2.2.1
  omega
theorem Wr.next {m : PMap} {st st' : List Sto} {d : Int} {r : Rec} (h : Wr m st st' d r) {s : Int} (hs : s.toNat < 2) : nxX m st' d s ≤ nxX m st d s + 1 := by
 unfold nxX
 rw [h.self]
 have hok := h.cok.1
 rcases X3 h.log with ⟨hk, ho⟩ | ⟨hk, _⟩ | ⟨hk, _⟩
 ·rw [(X7 hk h.fits).2.1]
  rcases (a3c hok ho hs).2 with ⟨_, e⟩ | ⟨p, _, _, e⟩
  ·rw [e]; exact Int.le_add_one (Int.le_refl _)
  ·rw [e]; exact Int.le_refl _
 ·obtain ⟨_, hr, hc⟩ := U3 hk h.fits
  rw [hc, (M8 hr).2.1]
  exact Int.le_add_one (Int.le_refl _)
 ·obtain ⟨_, hr, hc⟩ := V9 hk h.fits
  rw [hc, (U7 hr).2.1]
  exact Int.le_add_one (Int.le_refl _)
inductive Goes (m : PMap) (st st' : List Sto) : Prop
 | quiet (h : Lsame st st') (e : m4 m st' = m4 m st)
 | order (d : Int) (r : Rec) (h : Wr m st st' d r) (hd : d < m.cells) (hk : r.kind = 1) (e : a5s (m4 m st) r.ord = ⟨m4 m st', (E6 m (cX m st d) r.ord).code⟩)
 | land (d : Int) (r : Rec) (h : Wr m st st' d r) (hd : d < m.cells) (hk : r.kind = 2) (hw : r.pcl.kind = 1) (e : a8b (m4 m st) r.pcl.wlk.id = m4 m st')
 | down (d : Int) (r : Rec) (h : Wr m st st' d r) (hd : d < m.cells) (hk : r.kind = 2) (hw : ¬ r.pcl.kind = 1) (e : a8d (m4 m st) d r.side r.pcl.l7 = m4 m st')
 | word (d : Int) (r : Rec) (h : Wr m st st' d r) (hd : d < m.cells) (hk : r.kind = 3) (e : m4 m st' = m4 m st)
theorem c6f {L : List Int} {w w' : Wld} (hI : OneInv w.map w.stores) (hp : Pl L w.map w.stores) (h : Did w w') : Goes w.map w.stores w'.stores ∧ Pl L w.map w'.stores := by
 cases h with
 | quiet h =>
  refine ⟨.quiet h (b6q h).2, fun c s hcs => ?_, by rw [(b6q h).1]; exact hp.ids⟩
  rw [h.nx, (h.same c).2]
  exact hp.next c s hcs
 | wrote d r h hd hin hack =>
  have next : ∀ c s, b6 w.map c s ≠ -1 → nxX w.map w'.stores c s ≤ (stAt w'.stores c).recs.length := fun c s hcs => by
   have h2 := G9 hcs
   have hi := R5 hcs
   have h3 := hp.next c s hcs
   by_cases hc : c = d
   ·subst hc
    have := h.next h2.1
    rw [h.at.2]
    simp only [List.length_append, List.length_cons, List.length_nil]
    omega
   ·have e : nxX w.map w'.stores c s = nxX w.map w.stores c s := by unfold nxX; rw [h.far hi.1 hc]
    have := h.zero
    rw [e, h.off (by omega)]
    exact h3
  rcases X3 h.log with ⟨hk, _⟩ | ⟨hk, _⟩ | ⟨hk, _⟩
  ·obtain ⟨e, hids⟩ := do_one hI h hd hk
   exact ⟨.order d r h hd hk e, next, hids.trans hp.ids⟩
  ·by_cases hw : r.pcl.kind = 1
   ·obtain ⟨e, hids⟩ := c5k hI h hd hk (hin hk) hw
    exact ⟨.land d r h hd hk hw e, next, hids.trans hp.ids⟩
   ·obtain ⟨e, hids⟩ := c6c hI h hd hk (hin hk) hw
    exact ⟨.down d r h hd hk hw e, next, hids.trans hp.ids⟩
  ·obtain ⟨e, hids⟩ := ack_one hI h hd hk (hack hk)
   exact ⟨.word d r h hd hk e, next, hids.trans hp.ids⟩
def a7S (who seq code : Int) (x y : OW) : Prop := y.wlk.id = x.wlk.id ∧ ((y.wlk.seq = x.wlk.seq ∧ y.wlk.last = x.wlk.last) ∨ (x.wlk.id = who ∧ x.wlk.seq < seq ∧ y.wlk.seq = seq ∧ y.wlk.last = code))
theorem b2t {l : List OW} {k : Nat} {who seq code : Int} {y : OW} (hk : k < l.length) (hy : a7S who seq code (nth .ow l k) y) : (l.set k y).length = l.length ∧ ∀ i, i < l.length → a7S who seq code (nth .ow l i) (nth .ow (l.set k y) i) := by
 refine ⟨by simp, fun i hi => ?_⟩
 rw [H0 .ow hk]
 split
 ·rename_i e; rw [e]; exact hy
 ·exact ⟨rfl, .inl ⟨rfl, rfl⟩⟩
theorem c1B {o : One} {r : Ord} (hr : J6 r = true) (h0 : 0 ≤ m0 o.wlks r.who) (hh : (nth .ow o.wlks (m0 o.wlks r.who).toNat).here = true) (hq : (nth .ow o.wlks (m0 o.wlks r.who).toNat).wlk.seq < r.seq) :
  ((a5s o r).o.wlks.length = o.wlks.length ∧ ∀ i, i < o.wlks.length → a7S r.who r.seq (a5s o r).code (nth .ow o.wlks i) (nth .ow (a5s o r).o.wlks i)) ∧ (nth .ow (a5s o r).o.wlks (m0 o.wlks r.who).toNat).wlk.seq = r.seq := by
 have hlt := b1g o.wlks r.who
 have hid := b9t h0
 have hk : (m0 o.wlks r.who).toNat < o.wlks.length := by omega
 unfold a5s
 simp only
 rw [if_neg (fun q => q ⟨h0, hh⟩), if_neg (by omega), if_neg (by omega)]
 generalize hK : (m0 o.wlks r.who).toNat = k at *
 generalize hX : nth .ow o.wlks k = x at *
 have fin : ∀ (w : Wlk) (here : Bool) (g : List Int) (a : List (List Int)) (code : Int), w.id = x.wlk.id →
   ((oFin o k w r.seq here g a code).o.wlks.length = o.wlks.length ∧ ∀ i, i < o.wlks.length → a7S r.who r.seq (oFin o k w r.seq here g a code).code (nth .ow o.wlks i) (nth .ow (oFin o k w r.seq here g a code).o.wlks i)) ∧ (nth .ow (oFin o k w r.seq here g a code).o.wlks k).wlk.seq = r.seq := fun w here g a code hw =>
  ⟨b2t hk (by rw [hX]; exact ⟨hw, .inr ⟨hid, hq, rfl, rfl⟩⟩), by
   show (nth .ow (o.wlks.set k _) k).wlk.seq = r.seq
   rw [l9 .ow hk]⟩
 unfold b9G
 split
 ·unfold c4Q
  split
  ·exact fin _ _ _ _ _ rfl
  ·exact fin _ _ _ _ _ rfl
 split
 ·rename_i k1 k2
  unfold c4S
  simp only
  split
  ·exact fin _ _ _ _ _ rfl
  split
  ·exact fin _ _ _ _ _ rfl
  split
  ·exact fin _ _ _ _ _ rfl
  rename_i g1 g2 g3
  have hj := Classical.not_not.1 g1
  have hjl := b1g o.wlks r.dest
  have hjid := b9t hj.1
  have hjk : (m0 o.wlks r.dest).toNat ≠ k := fun e => by
   rw [e, hX, hid] at hjid
   exact a1n hr k2 hjid.symm
  obtain ⟨s1, s2⟩ := b2t (y := ⟨⟨x.wlk.id, x.wlk.pos, x.wlk.l7 - r.n, r.seq, 1⟩, true⟩) (who := r.who) (seq := r.seq) (code := 1) hk (by rw [hX]; exact ⟨rfl, .inr ⟨hid, hq, rfl, rfl⟩⟩)
  refine ⟨⟨by simp, fun i hi => ?_⟩, ?_⟩
  rotate_left
  ·show (nth .ow ((o.wlks.set k _).set (m0 o.wlks r.dest).toNat _) k).wlk.seq = r.seq
   rw [n9 .ow hjk, l9 .ow hk]
  have hs := s2 i hi
  show a7S r.who r.seq 1 (nth .ow o.wlks i) (nth .ow ((o.wlks.set k _).set (m0 o.wlks r.dest).toNat _) i)
  rw [H0 .ow (show (m0 o.wlks r.dest).toNat < (o.wlks.set k ⟨⟨x.wlk.id, x.wlk.pos, x.wlk.l7 - r.n, r.seq, 1⟩, true⟩).length by simp; omega)]
  split
  ·rename_i e
   subst e
   exact ⟨rfl, .inl ⟨rfl, rfl⟩⟩
  ·exact hs
 split
 ·unfold c4T
  simp only
  split
  ·exact fin _ _ _ _ _ rfl
  split
  ·exact fin _ _ _ _ _ rfl
  exact fin _ _ _ _ _ rfl
 split
 ·unfold c4R
  simp only
  split
  ·exact fin _ _ _ _ _ rfl
  split
  ·exact fin _ _ _ _ _ rfl
  exact fin _ _ _ _ _ rfl
 split
 ·unfold b7x
  simp only
  split
  ·exact fin _ _ _ _ _ rfl
  split
  ·exact fin _ _ _ _ _ rfl
  split
  ·exact fin _ _ _ _ _ rfl
  exact fin _ _ _ _ _ rfl
 exact fin _ _ _ _ _ rfl
theorem b5o {m : PMap} {st : List Sto} {x : OW} : x ∈ (m4 m st).wlks ↔ x ∈ allO m st := (K4 _).mem_iff
structure Hist (who seq code : Int) (a b : List OW) : Prop where
 fwd : ∀ x ∈ a, ∃ y ∈ b, a7S who seq code x y
 bwd : ∀ y ∈ b, ∃ x ∈ a, a7S who seq code x y
theorem b3l {who seq code : Int} {a b : List OW} (hl : b.length = a.length) (h : ∀ i, i < a.length → a7S who seq code (nth .ow a i) (nth .ow b i)) : Hist who seq code a b := by
 refine ⟨fun x hx => ?_, fun y hy => ?_⟩
 ·obtain ⟨i, hi, rfl⟩ := a0G .ow hx
  exact ⟨_, r8 .ow (show i < b.length by omega), h i hi⟩
 ·obtain ⟨i, hi, rfl⟩ := a0G .ow hy
  exact ⟨_, r8 .ow (show i < a.length by omega), h i (by omega)⟩
theorem a3A {who seq code : Int} {a b : List OW} (h : b = a) : Hist who seq code a b := by
 subst h
 exact b3l rfl fun i _ => ⟨rfl, .inl ⟨rfl, rfl⟩⟩
theorem a5R {m : PMap} {st st' : List Sto} {d : Int} {r : Rec} (hI : OneInv m st) (h : Wr m st st' d r) (hd : d < m.cells) (hk : r.kind = 1) :
  J6 r.ord = true ∧ ∃ w ∈ (cX m st d).wlks, w.id = r.ord.who ∧ w.seq < r.ord.seq ∧ 0 ≤ m0 (m4 m st).wlks r.ord.who ∧ nth .ow (m4 m st).wlks (m0 (m4 m st).wlks r.ord.who).toNat = ⟨w, true⟩ := by
 obtain ⟨hfr, _, _⟩ := X7 hk h.fits
 have hpl := Q7 hfr
 have hi := E4 hpl.1
 have hid := id_w (a7c hfr)
 generalize hII : (j4 (cX m st d).wlks r.ord.who).toNat = i at *
 have hmem := r8 .wlk hi
 have hpm := a0a (M7 hI.ids) ((K4 _).mem_iff.2 (a5N h.zero hd hmem))
 have ho : J6 r.ord = true := by
  rcases X3 h.log with ⟨_, q⟩ | ⟨q, _⟩ | ⟨q, _⟩
  ·exact q
  ·omega
  ·omega
 refine ⟨ho, _, hmem, hid, hpl.2, ?_⟩
 rw [← hid]
 exact ⟨hpm.1, hpm.2.2⟩
theorem b1E {m : PMap} {st st' : List Sto} (hI : OneInv m st) (h : Goes m st st') : (∃ d r, Wr m st st' d r ∧ d < m.cells ∧ r.kind = 1 ∧ Hist r.ord.who r.ord.seq (E6 m (cX m st d) r.ord).code (m4 m st).wlks (m4 m st').wlks ∧ ∃ y ∈ (m4 m st').wlks, y.wlk.id = r.ord.who ∧ r.ord.seq ≤ y.wlk.seq) ∨
  ((Lsame st st' ∨ ∃ d r, Wr m st st' d r ∧ d < m.cells ∧ r.kind ≠ 1) ∧ ∀ who seq code, Hist who seq code (m4 m st).wlks (m4 m st').wlks) := by
 cases h with
 | quiet h e => exact .inr ⟨.inl h, fun _ _ _ => a3A (by rw [e])⟩
 | word d r h hd hk e => exact .inr ⟨.inr ⟨d, r, h, hd, by omega⟩, fun _ _ _ => a3A (by rw [e])⟩
 | order d r h hd hk e =>
  left
  obtain ⟨ho, w, _, hid, hq, p0, pn⟩ := a5R hI h hd hk
  have hrel := c1B (o := m4 m st) ho p0 (by rw [pn]) (by rw [pn]; exact hq)
  rw [e] at hrel
  have hlt := b1g (m4 m st).wlks r.ord.who
  have hk2 : (m0 (m4 m st).wlks r.ord.who).toNat < (m4 m st).wlks.length := by omega
  have hrk := (hrel.1.2 _ hk2).1
  rw [pn] at hrk
  refine ⟨d, r, h, hd, hk, b3l hrel.1.1 hrel.1.2, _, r8 .ow (show _ < (m4 m st').wlks.length by rw [hrel.1.1]; exact hk2), by rw [hrk]; exact hid, Int.le_of_eq hrel.2.symm⟩
 | land d r h hd hk hw e =>
  refine .inr ⟨.inr ⟨d, r, h, hd, by omega⟩, fun who seq code => ?_⟩
  rw [← e]
  unfold a8b
  split
  ·rename_i hp
   have hlt := b1g (m4 m st).wlks r.pcl.wlk.id
   have := b2t (l := (m4 m st).wlks) (k := (m0 (m4 m st).wlks r.pcl.wlk.id).toNat) (who := who) (seq := seq) (code := code) (y := ⟨(nth .ow (m4 m st).wlks (m0 (m4 m st).wlks r.pcl.wlk.id).toNat).wlk, true⟩) (by omega) ⟨rfl, .inl ⟨rfl, rfl⟩⟩
   exact b3l this.1 this.2
  ·exact a3A rfl
 | down d r h hd hk hw e =>
  refine .inr ⟨.inr ⟨d, r, h, hd, by omega⟩, fun who seq code => ?_⟩
  rw [← e]
  unfold a8d
  split <;> exact a3A rfl
def recX (st : List Sto) (c : Int) (i : Nat) : Rec := nth .rcd (stAt st c).recs i
structure Done (m : PMap) (st : List Sto) (c : Int) (i : Nat) (who seq code : Int) : Prop where
 zero : 0 ≤ c
 cell : c < m.cells
 lt : i < (stAt st c).recs.length
 kind : (recX st c i).kind = 1
 who : (recX st c i).ord.who = who
 seq : (recX st c i).ord.seq = seq
 code : (j7 m (pfX m st c i) (recX st c i)).code = code
def Was (m : PMap) (st : List Sto) (who seq code : Int) : Prop := ∃ c i, Done m st c i who seq code
theorem M9 {m : PMap} {st st' : List Sto} (hg : Grow m st st') {c : Int} {i : Nat} (hi : i < (stAt st c).recs.length) : recX st' c i = recX st c i := by
 obtain ⟨l, e⟩ := hg.recs c
 unfold recX
 rw [e]
 exact a4o .rcd hi
theorem b2D {m : PMap} {st st' : List Sto} (hg : Grow m st st') {c : Int} {k : Nat} (hk : k ≤ (stAt st c).recs.length) : pfX m st' c k = pfX m st c k := hg.fold c hk
theorem Done.grow {m : PMap} {st st' : List Sto} {c : Int} {i : Nat} {who seq code : Int} (h : Done m st c i who seq code) (hg : Grow m st st') : Done m st' c i who seq code := by
 have hl := h.lt
 refine ⟨h.zero, h.cell, Nat.lt_of_lt_of_le h.lt (hg.le c), ?_, ?_, ?_, ?_⟩
 ·rw [M9 hg hl]; exact h.kind
 ·rw [M9 hg hl]; exact h.who
 ·rw [M9 hg hl]; exact h.seq
 ·rw [M9 hg hl, b2D hg (Nat.le_of_lt hl)]; exact h.code
theorem Was.grow {m : PMap} {st st' : List Sto} {who seq code : Int} (h : Was m st who seq code) (hg : Grow m st st') : Was m st' who seq code := let ⟨c, i, h⟩ := h; ⟨c, i, h.grow hg⟩
structure Once (w : Wld) : Prop where
 known : ∀ c i, 0 ≤ c → c < w.map.cells → i < (stAt w.stores c).recs.length → (recX w.stores c i).kind = 1 → ∃ x ∈ (m4 w.map w.stores).wlks, x.wlk.id = (recX w.stores c i).ord.who ∧ (recX w.stores c i).ord.seq ≤ x.wlk.seq
 uniq : ∀ c i c' i', 0 ≤ c → c < w.map.cells → 0 ≤ c' → c' < w.map.cells → i < (stAt w.stores c).recs.length → i' < (stAt w.stores c').recs.length → (recX w.stores c i).kind = 1 → (recX w.stores c' i').kind = 1 →
  (recX w.stores c i).ord.who = (recX w.stores c' i').ord.who → (recX w.stores c i).ord.seq = (recX w.stores c' i').ord.seq → c = c' ∧ i = i'
 last : ∀ x ∈ (m4 w.map w.stores).wlks, x.wlk.seq = 0 ∨ Was w.map w.stores x.wlk.id x.wlk.seq x.wlk.last
 old : ∀ c, 0 ≤ c → c < w.map.cells → ∀ k, k ≤ (stAt w.stores c).recs.length → ∀ v ∈ (pfX w.map w.stores c k).wlks, v.seq = 0 ∨ Was w.map w.stores v.id v.seq v.last
 told : ∀ x ∈ w.net, x.kind = 3 → Was w.map w.stores x.ord.who x.ord.seq x.n
 notes : ∀ n ∈ w.notes, Was w.map w.stores n.who n.seq n.code
theorem a4b {m : PMap} {st st' : List Sto} {d : Int} {r : Rec} (h : Wr m st st' d r) : recX st' d (stAt st d).recs.length = r ∧ (stAt st' d).recs.length = (stAt st d).recs.length + 1 ∧ pfX m st' d (stAt st d).recs.length = cX m st d := by
 refine ⟨?_, ?_, ?_⟩
 ·unfold recX
  rw [h.at.2]
  exact a9g .rcd
 ·rw [h.at.2]; simp
 ·rw [b2D h.grow (Nat.le_refl _)]
  exact b2E h.ok
theorem wr_i {m : PMap} {st st' : List Sto} {d : Int} {r : Rec} (h : Wr m st st' d r) {c : Int} {i : Nat} (h0 : 0 ≤ c) (hi : i < (stAt st' c).recs.length) : i < (stAt st c).recs.length ∨ (c = d ∧ i = (stAt st d).recs.length) := by
 by_cases hc : c = d
 ·subst hc
  rw [(a4b h).2.1] at hi
  omega
 ·have := h.zero
  rw [h.off (by omega)] at hi
  exact .inl hi
theorem c7l {m : PMap} {st st' : List Sto} {d : Int} {r : Rec} (h : Wr m st st' d r) : pfX m st' d ((stAt st d).recs.length + 1) = cX m st' d := by
 have h1 := a4b h
 have : pfX m st' d ((stAt st d).recs.length + 1) = (j7 m (pfX m st' d (stAt st d).recs.length) (recX st' d (stAt st d).recs.length)).c := J8 _ _ _ _
 rw [this, h1.1, h1.2.2, h.self]
theorem b4W {w w' : Wld} (hok' : p9 w' = true) (hI : OneInv w.map w.stores) (hI' : OneInv w.map w'.stores) (hm : w'.map = w.map) (ho : Once w) (hg : Grow w.map w.stores w'.stores) (hgo : Goes w.map w.stores w'.stores)
  (htold : ∀ x ∈ w'.net, x.kind = 3 → Was w.map w'.stores x.ord.who x.ord.seq x.n) (hnotes : ∀ n ∈ w'.notes, Was w.map w'.stores n.who n.seq n.code) : Once w' := by
 obtain ⟨k1, k2, k3, k4, _, _⟩ := ho
 have hist := b1E hI hgo
 have fwd : ∀ x ∈ (m4 w.map w.stores).wlks, ∃ y ∈ (m4 w.map w'.stores).wlks, y.wlk.id = x.wlk.id ∧ x.wlk.seq ≤ y.wlk.seq := fun x hx => by
  rcases hist with ⟨d, r, _, _, _, hh, _⟩ | ⟨_, hh⟩
  ·obtain ⟨y, hy, e, h2⟩ := hh.fwd x hx
   refine ⟨y, hy, e, ?_⟩
   rcases h2 with h2 | h2
   ·exact Int.le_of_eq h2.1.symm
   ·omega
  ·obtain ⟨y, hy, e, h2⟩ := (hh 0 0 0).fwd x hx
   refine ⟨y, hy, e, ?_⟩
   rcases h2 with h2 | h2
   ·exact Int.le_of_eq h2.1.symm
   ·omega
 have kold : ∀ c i, 0 ≤ c → c < w.map.cells → i < (stAt w.stores c).recs.length → (recX w'.stores c i).kind = 1 → ∃ x ∈ (m4 w.map w'.stores).wlks, x.wlk.id = (recX w'.stores c i).ord.who ∧ (recX w'.stores c i).ord.seq ≤ x.wlk.seq := fun c i c0 c1 hi hk => by
  rw [M9 hg hi] at hk ⊢
  obtain ⟨x, hx, e1, e2⟩ := k1 c i c0 c1 hi hk
  obtain ⟨y, hy, f1, f2⟩ := fwd x hx
  exact ⟨y, hy, by omega, by omega⟩
 have last' : ∀ y ∈ (m4 w.map w'.stores).wlks, y.wlk.seq = 0 ∨ Was w.map w'.stores y.wlk.id y.wlk.seq y.wlk.last := fun y hy => by
  rcases hist with ⟨d, r, hw, hd, hk, hh, _⟩ | ⟨_, hh⟩
  ·obtain ⟨x, hx, e, h2⟩ := hh.bwd y hy
   rcases h2 with h2 | h2
   ·rcases k3 x hx with h3 | h3
    ·left; omega
    ·right
     rw [e, h2.1, h2.2]
     exact h3.grow hg
   ·right
    have hn := a4b hw
    rw [e, h2.1, h2.2.2.1, h2.2.2.2]
    refine ⟨d, (stAt w.stores d).recs.length, hw.zero, hd, by rw [hn.2.1]; omega, by rw [hn.1]; exact hk, by rw [hn.1], by rw [hn.1], ?_⟩
    rw [hn.1, hn.2.2]
    exact (X7 hk hw.fits).2.2
  ·obtain ⟨x, hx, e, h2⟩ := (hh 0 0 0).bwd y hy
   rcases h2 with h2 | h2
   ·rcases k3 x hx with h3 | h3
    ·left; omega
    ·right
     rw [e, h2.1, h2.2]
     exact h3.grow hg
   ·left; omega
 have old' : ∀ c, 0 ≤ c → c < w.map.cells → ∀ k, k ≤ (stAt w'.stores c).recs.length → ∀ v ∈ (pfX w.map w'.stores c k).wlks, v.seq = 0 ∨ Was w.map w'.stores v.id v.seq v.last := fun c c0 c1 k hk v hv => by
  by_cases hk2 : k ≤ (stAt w.stores c).recs.length
  ·rw [b2D hg hk2] at hv
   rcases k4 c c0 c1 k hk2 v hv with h | h
   ·exact .inl h
   ·exact .inr (h.grow hg)
  ·have wr : ∀ {d : Int} {r : Rec}, Wr w.map w.stores w'.stores d r → v.seq = 0 ∨ Was w.map w'.stores v.id v.seq v.last := fun {d r} hw => by
    have h0 := hw.zero
    by_cases hc : c = d
    ·subst hc
     rw [(a4b hw).2.1] at hk
     have : k = (stAt w.stores c).recs.length + 1 := by omega
     subst this
     rw [c7l hw] at hv
     exact last' ⟨v, true⟩ (b5o.2 (a5N c0 c1 hv))
    ·rw [hw.off (by omega)] at hk
     exact absurd hk hk2
   rcases b1E hI hgo with ⟨d, r, hw, _⟩ | ⟨hq | ⟨d, r, hw, _⟩, _⟩
   ·exact wr hw
   ·rw [(hq.same c).2] at hk
    exact absurd hk hk2
   ·exact wr hw
 rcases hist with ⟨d, r, hw, hd, hk, hh, y, hy, hy1, hy2⟩ | ⟨hq, hh⟩
 ·have hn := a4b hw
  have hnew : ∀ c i, 0 ≤ c → c < w.map.cells → i < (stAt w.stores c).recs.length → (recX w.stores c i).kind = 1 → (recX w.stores c i).ord.who = r.ord.who → (recX w.stores c i).ord.seq ≠ r.ord.seq := fun c i c0 c1 hi hkk e1 e2 => by
   obtain ⟨x, hx, f1, f2⟩ := k1 c i c0 c1 hi hkk
   obtain ⟨_, v, _, hv1, hv2, hp0, hpn⟩ := a5R hI hw hd hk
   have hpm := a0a (M7 hI.ids) hx
   have e : x = ⟨v, true⟩ := by
    have h4 := hpm.2.2
    rw [f1, e1] at h4
    exact h4.symm.trans hpn
   subst e
   have : (recX w.stores c i).ord.seq ≤ v.seq := f2
   omega
  refine ⟨fun c i c0 c1 hi hkk => ?_, fun c i c' i' c0 c1 d0 d1 hi hi' hkk hkk' e1 e2 => ?_, ?_, ?_, ?_, ?_⟩
  ·rw [hm] at c1 ⊢
   rcases wr_i hw c0 hi with h1 | ⟨rfl, rfl⟩
   ·exact kold c i c0 c1 h1 hkk
   ·rw [hn.1]
    exact ⟨y, hy, hy1, hy2⟩
  ·rw [hm] at c1 d1
   rcases wr_i hw c0 hi with h1 | ⟨rfl, rfl⟩ <;> rcases wr_i hw d0 hi' with h2 | ⟨rfl, rfl⟩
   ·rw [M9 hg h1] at hkk e1 e2
    rw [M9 hg h2] at hkk' e1 e2
    exact k2 c i c' i' c0 c1 d0 d1 h1 h2 hkk hkk' e1 e2
   ·rw [M9 hg h1] at hkk e1 e2
    rw [hn.1] at e1 e2
    exact absurd e2 (hnew c i c0 c1 h1 hkk e1)
   ·rw [M9 hg h2] at hkk' e1 e2
    rw [hn.1] at e1 e2
    exact absurd e2.symm (hnew c' i' d0 d1 h2 hkk' e1.symm)
   ·exact ⟨rfl, rfl⟩
  ·rw [hm]; exact last'
  ·rw [hm]; exact old'
  ·rw [hm]; exact htold
  ·rw [hm]; exact hnotes
 ·
  have hi' : ∀ c i, 0 ≤ c → i < (stAt w'.stores c).recs.length → (recX w'.stores c i).kind = 1 → i < (stAt w.stores c).recs.length := fun c i c0 hi hkk => by
   rcases hq with hq | ⟨d, r, hw, hd, hk⟩
   ·rw [(hq.same c).2] at hi; exact hi
   ·rcases wr_i hw c0 hi with h1 | ⟨rfl, rfl⟩
    ·exact h1
    ·rw [(a4b hw).1] at hkk
     exact absurd hkk hk
  refine ⟨fun c i c0 c1 hi hkk => ?_, fun c i c' i' c0 c1 d0 d1 hi hj hkk hkk' e1 e2 => ?_, ?_, ?_, ?_, ?_⟩
  ·rw [hm] at c1 ⊢
   exact kold c i c0 c1 (hi' c i c0 hi hkk) hkk
  ·rw [hm] at c1 d1
   have h1 := hi' c i c0 hi hkk
   have h2 := hi' c' i' d0 hj hkk'
   rw [M9 hg h1] at hkk e1 e2
   rw [M9 hg h2] at hkk' e1 e2
   exact k2 c i c' i' c0 c1 d0 d1 h1 h2 hkk hkk' e1 e2
  ·rw [hm]; exact last'
  ·rw [hm]; exact old'
  ·rw [hm]; exact htold
  ·rw [hm]; exact hnotes
theorem c2D {m : PMap} {l : List Row} {x : Msg} (h : (y0 m l x).ok = true) : x.kind = 3 := by
 unfold y0 at h
 simp only at h
 split at h
 ·split at h
  ·assumption
  ·split at h <;> cases h
 ·cases h
theorem c5T {l : List Wlk} {id : Int} (h : o9 l id = true) : B3 l id ∈ l ∧ (B3 l id).id = id := by
 rw [a2Z h]
 exact ⟨r8 .wlk (L7 h).1, id_w h⟩
theorem c1D {w w' : Wld} (hok : p9 w = true) (hok' : p9 w' = true) (hf : Fence w) (hm : Mail w) (hI : OneInv w.map w.stores) (hI' : OneInv w.map w'.stores) (hgo : Goes w.map w.stores w'.stores) (ho : Once w) (hs : StepC w w') : Once w' := by
 obtain ⟨e1, hg⟩ := c1b hok hs
 refine b4W hok' hI hI' e1 ho hg hgo ?_ ?_
 ·
  have quiet : (∀ x ∈ w'.net, x.kind = 3 → x ∈ w.net) → ∀ x ∈ w'.net, x.kind = 3 → Was w.map w'.stores x.ord.who x.ord.seq x.n := fun h x hx hk => (ho.told x (h x hx hk) hk).grow hg
  cases hs with
  | same => exact quiet fun x hx _ => hx
  | grant cell server hgr =>
   refine quiet fun x hx hk => ?_
   rcases C7 hx with hx | hx
   ·exact hx
   ·simp only [List.mem_singleton] at hx
    subst hx
    cases hk
  | ask => exact quiet fun x hx _ => hx
  | say who hs =>
   refine quiet fun x hx hk => ?_
   rcases C7 hx with hx | hx
   ·exact hx
   ·simp only [List.mem_singleton] at hx
    subst hx
    rw [a4U hs] at hk
    cases hk
  | gate i hi hd => exact quiet fun x hx _ => a3e (i := i) hx
  | lose i hi => exact quiet fun x hx _ => a3e hx
  | twice i hi =>
   refine quiet fun x hx hk => ?_
   rcases C7 hx with hx | hx
   ·exact hx
   ·simp only [List.mem_singleton] at hx
    subst hx
    exact r8 .msg hi
  | fall i hi => exact quiet fun x hx _ => hx
  | rise i hi hu => exact quiet fun x hx _ => hx
  | tick i hi cell =>
   refine quiet fun x hx hk => ?_
   rcases C7 hx with hx | hx
   ·exact hx
   ·have := a6o hx
    omega
  | hear i hi hd =>
   obtain ⟨X, hX, e⟩ := heard hok hi hd
   rw [e] at hg ⊢
   clear e
   generalize nth .msg w.net i = x at *
   intro z hz hk
   rcases C7 hz with hz | hz
   ·exact (ho.told z (List.mem_of_mem_eraseIdx hz) hk).grow hg
   have hv : a3B w.map (nth .srv w.servers x.dest.toNat) w.stores w.table w.servers.length x := ⟨hX.srv, hX.stos, hX.arb, hX.ok⟩
   have hlen := (b1y hX.srv hX.stos hX.arb hX.ok).1
   have hwr := a2W hf hX
   rw [hX.is] at hz hg hwr
   show Was w.map X.stores z.ord.who z.ord.seq z.n
   rw [hX.is]
   have hz0 : nth .msg (n5 w.map (nth .srv w.servers x.dest.toNat) w.stores w.table x).out 0 = z ∧ ¬ (n5 w.map (nth .srv w.servers x.dest.toNat) w.stores w.table x).out.length = 0 := by
    obtain ⟨j, hj, hjz⟩ := a0G .msg hz
    have : j = 0 := by omega
    subst this
    exact ⟨hjz, by omega⟩
   obtain ⟨_, _, k2, hh, hw, hc⟩ := b7M hv hz0.2 (by rw [hz0.1]; exact hk)
   have hor := G6.1 (c7H hX.ok (.inl k2))
   obtain ⟨hmem, hcc⟩ := D7 hh
   have hcs := a1I hX.stos hX.ok
   have hcl : x.cell < w.map.cells := by
    have := (B4.1 hX.stos).2.1
    omega
   rcases hc with ⟨q, e⟩ | ⟨q, hn, e⟩
   ·rw [e] at hz hg ⊢
    simp only [List.mem_singleton] at hz
    subst hz
    obtain ⟨p1, p2⟩ := a2U hf hX.lt hmem
    rw [hcc] at p1 p2
    obtain ⟨f1, f2⟩ := c5T hw
    have := ho.old x.cell hcs.1 hcl _ p2 _ (by rw [← p1]; exact f1)
    rcases this with h | h
    ·omega
    ·rw [f2, q] at h
     exact h
   ·have er : n3 x = ⟨1, x.ord, 0, u5, 0⟩ := by rw [n3, if_pos k2]
    rw [e] at hz hg hwr ⊢
    simp only [List.mem_singleton] at hz
    subst hz
    cases hwr with
    | no h =>
     exfalso
     have h3 := (h.same x.cell).2
     simp only at h3
     rw [G8 hcs.2.1, if_pos rfl] at h3
     have h4 := congrArg List.length h3
     simp only [m9, stAt, List.length_append, List.length_cons, List.length_nil] at h4
     omega
    | yes h _ _ hss _ =>
     have hnw := a4b h
     refine ⟨x.cell, (stAt w.stores x.cell).recs.length, hcs.1, hcl, ?_, ?_, ?_, ?_, ?_⟩
     ·simp only at hnw ⊢
      rw [hnw.2.1]; omega
     ·simp only at hnw ⊢
      rw [hnw.1, er]
     ·simp only at hnw ⊢
      rw [hnw.1, er]; rfl
     ·simp only at hnw ⊢
      rw [hnw.1, er]; rfl
     ·simp only at hnw ⊢
      rw [hnw.1, hnw.2.2, hss]; rfl
 ·
  have quiet : w'.notes = w.notes → ∀ n ∈ w'.notes, Was w.map w'.stores n.who n.seq n.code := fun h n hn => by
   rw [h] at hn
   exact (ho.notes n hn).grow hg
  cases hs with
  | gate i hi hd =>
   intro n hn
   unfold a2l wCut at hn
   simp only at hn
   split at hn
   ·rename_i hc
    rcases List.mem_append.1 hn with hn | hn
    ·exact (ho.notes n hn).grow hg
    ·simp only [List.mem_singleton] at hn
     subst hn
     exact (ho.told _ (r8 .msg hi) (c2D hc.1)).grow hg
   ·exact (ho.notes n hn).grow hg
  | hear i hi hd =>
   obtain ⟨X, hX, e⟩ := heard hok hi hd
   exact quiet (by rw [e]; rfl)
  | _ => exact quiet rfl
structure Whole (L : List Int) (f : Int → Int) (w : Wld) : Prop where
 inv : Inv f w
 pl : Pl L w.map w.stores
 once : Once w
theorem Whole.one {L : List Int} {f : Int → Int} {w : Wld} (hL : L.Nodup) (h : Whole L f w) : OneInv w.map w.stores := b1h h.inv.ok h.inv.mail hL h.pl
theorem b6z {L : List Int} {f : Int → Int} {w : Wld} (hL : L.Nodup) (h : Whole L f w) (e : Evt) : Whole L f (m5 w e) ∧ Goes w.map w.stores (m5 w e).stores ∧ (m5 w e).map = w.map := by
 have hi := b5D e h.inv
 have he : m5 w e = u3 w e := by simp [m5, h.inv.ok]
 have hs := a4e w e
 rw [← he] at hs
 obtain ⟨e1, hd⟩ := c6e h.inv.ok h.inv.fence h.inv.mail hs
 have hI := h.one hL
 obtain ⟨hg, hp⟩ := c6f hI h.pl hd
 have hp' : Pl L (m5 w e).map (m5 w e).stores := by rw [e1]; exact hp
 have hI' := b1h hi.ok hi.mail hL hp'
 refine ⟨⟨hi, hp', c1D h.inv.ok hi.ok h.inv.fence h.inv.mail hI (by rw [← e1]; exact hI') hg h.once hs⟩, hg, e1⟩
theorem c1l {L : List Int} {f : Int → Int} {w0 w : Wld} (hL : L.Nodup) (h0 : Whole L f w0) (h : Ran w0 w) : Whole L f w ∧ w.map = w0.map := by
 induction h with
 | refl => exact ⟨h0, rfl⟩
 | step e _ ih =>
  have := b6z hL ih.1 e
  exact ⟨this.1, this.2.2.trans ih.2⟩
theorem a7O {n : Nat} {p : Wlk → Int} : ∀ {l : List Wlk}, (∀ x ∈ l, 0 ≤ p x ∧ (p x).toNat < n) → ((List.range n).flatMap fun (c : Nat) => l.filter fun x => decide (p x = (c : Int))).Perm l
 | [], _ => by
  have : ((List.range n).flatMap fun (c : Nat) => ([] : List Wlk).filter fun x => decide (p x = (c : Int))) = [] := by simp
  rw [this]
 | x :: l, h => by
  have ih := a7O (n := n) (p := p) (l := l) fun y hy => h y (List.mem_cons_of_mem _ hy)
  obtain ⟨h0, h1⟩ := h x List.mem_cons_self
  obtain ⟨R, a1, a2⟩ := b3o (L := List.range n) List.nodup_range (List.mem_range.2 h1) (f := fun (c : Nat) => l.filter fun y => decide (p y = (c : Int))) (f' := fun (c : Nat) => (x :: l).filter fun y => decide (p y = (c : Int))) (fun c hc hne => by
   show (x :: l).filter _ = l.filter _
   rw [List.filter_cons_of_neg]
   simp only [decide_eq_true_eq]
   omega)
  refine a2.trans ?_
  have e : (x :: l).filter (fun y => decide (p y = (((p x).toNat : Nat) : Int))) = x :: l.filter (fun y => decide (p y = (((p x).toNat : Nat) : Int))) := by
   rw [List.filter_cons_of_pos]
   simp only [decide_eq_true_eq]
   omega
  show ((x :: l).filter (fun y => decide (p y = (((p x).toNat : Nat) : Int))) ++ R).Perm (x :: l)
  rw [e]
  exact (a1.symm.trans ih).cons x
theorem c0F {l : List Wlk} {w : Wld} (h : Beg l w) : (allO w.map w.stores).Perm (G0 l) := by
 have hp : n8 w.map = true := (B4.1 (n7.1 h.ok).2.1).1
 have hpi := r6.1 hp
 have hcx : ∀ c : Int, 0 ≤ c → c < w.map.cells → cX w.map w.stores c = ⟨c, J2 w.map c l l.length, 0, [[], []], [0, 0], [0, 0]⟩ := fun c h0 h1 => by rw [b8l h h0 h1, a1y hp h0 h1 h.all]
 have hfl : ∀ c s, fl w.map w.stores c s = [] := fun c s => by
  unfold fl
  split
  ·rfl
  ·rename_i hs
   have hi := R5 hs
   have : ouX w.map w.stores c s = [] := by
    unfold ouX
    rw [hcx c hi.1 hi.2.1]
    exact c4W _
   rw [this]
   rfl
 have e2 : ((a3a w.map).flatMap fun e => flyO (fl w.map w.stores (e.1 : Int) (e.2 : Int))) = [] := by
  rw [List.flatMap_eq_nil_iff]
  intro e _
  rw [hfl]
  rfl
 have e1 : ((a0m w.map).flatMap fun (c : Nat) => G0 (cX w.map w.stores (c : Int)).wlks) = G0 ((List.range w.map.cells.toNat).flatMap fun (c : Nat) => l.filter fun x => decide (l6 w.map x.pos = (c : Int))) := by
  unfold G0
  rw [List.map_flatMap]
  rw [List.flatMap_def, List.flatMap_def]
  congr 1
  refine List.map_congr_left fun c hc => ?_
  have hcn : c < w.map.cells.toNat := List.mem_range.1 hc
  rw [hcx (c : Int) (by omega) (by omega)]
  simp only [J2, List.take_length]
  rfl
 unfold allO
 rw [e1, e2, List.append_nil]
 refine (a7O fun x hx => ?_).map _
 have hw := I8.1 ((a0d.1 h.all).1 x hx)
 obtain ⟨q1, q2, q3, q4⟩ := K5 hw.2.2.1
 have h1 : l6 w.map x.pos < w.map.cells := by
  rw [q4]
  exact Int.ediv_lt_of_lt_mul (by omega) q3
 have h0 : 0 ≤ l6 w.map x.pos := by
  rw [q4]
  exact Int.ediv_nonneg q2 (by omega)
 omega
theorem a9v {m : PMap} {l : List Wlk} (h : y7 m l = true) : (l.map fun w => w.id).Pairwise (· < ·) := List.pairwise_map.2 ((b2r l).1 (a8x h))
theorem c2p {m : PMap} {l : List Wlk} (h : y7 m l = true) : (l.map fun w => w.id).Nodup := (a9v h).imp fun hab => by omega
theorem c3b {l : List Wlk} {w : Wld} (h : Beg l w) : Whole (l.map fun w => w.id) (a7t w.rows) w := by
 have hp : n8 w.map = true := (B4.1 (n7.1 h.ok).2.1).1
 have hcx : ∀ c : Int, 0 ≤ c → c < w.map.cells → cX w.map w.stores c = ⟨c, J2 w.map c l l.length, 0, [[], []], [0, 0], [0, 0]⟩ := fun c h0 h1 => by rw [b8l h h0 h1, a1y hp h0 h1 h.all]
 have hnr : ∀ c i, 0 ≤ c → c < w.map.cells → ¬ i < (stAt w.stores c).recs.length := fun c i c0 c1 => by rw [(h.recs c c0 c1).1]; simp
 have hz : ∀ x ∈ allO w.map w.stores, x.wlk.seq = 0 := fun x hx => by
  have := (c0F h).mem_iff.1 hx
  obtain ⟨v, hv, rfl⟩ := List.mem_map.1 this
  exact (h.fresh v hv).1
 refine ⟨c0E h, ⟨fun c s hs => ?_, ?_⟩, ⟨fun c i c0 c1 hi => absurd hi (hnr c i c0 c1), fun c i c' i' c0 c1 _ _ hi => absurd hi (hnr c i c0 c1), fun x hx => .inl (hz x (b5o.1 hx)), fun c c0 c1 k hk v hv => ?_, fun x hx => ?_, fun n hn => ?_⟩⟩
 ·have hi := R5 hs
  unfold nxX
  rw [hcx c hi.1 hi.2.1]
  have : @Eq Int (nth .int [0, 0] s.toNat) 0 := c4X _
  rw [this]
  omega
 ·have := (c0F h).map oid
  unfold G0 at this
  rw [List.map_map] at this
  exact this
 ·rw [(h.recs c c0 c1).1] at hk
  have hk0 : k = 0 := by simpa using hk
  subst hk0
  have e : pfX w.map w.stores c 0 = V7 w.map c l := (h.recs c c0 c1).2
  rw [e, a1y hp c0 c1 h.all] at hv
  simp only [J2, List.take_length] at hv
  exact .inl (h.fresh v (List.mem_filter.1 hv).1).1
 ·rw [h.net] at hx; cases hx
 ·rw [h.notes] at hn; cases hn
theorem c0D {l : List Wlk} {w : Wld} (h : Beg l w) (who : Int) : a7t w.rows who = 0 := by
 unfold a7t rowAt
 by_cases hi : (k8 w.rows who).toNat < w.rows.length
 ·have hm := r8 .row hi
  rw [h.rows] at hm
  obtain ⟨v, hv, e⟩ := List.mem_map.1 hm
  rw [h.rows, ← e]
  exact (h.fresh v hv).1
 ·unfold nth List.getD
  rw [List.getElem?_eq_none (by omega)]
  rfl
end Go.Mo
