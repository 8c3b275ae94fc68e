/-
  Plain laws: what a server hears: it stays ok; one record at most; who is down hears nothing; a grant.
-/
import Derived.Test.YtfgphaokmjdcbaaGreatM3
set_option linter.unusedVariables false
set_option linter.unusedSimpArgs false
namespace Go.Mo
open Go.Sx

def hearValid (m : PMap) (s : Srv) (st : List Sto) (t : Arb) (v : Int) (x : Msg) : Prop := srvOk m s = true ∧ stosOk m st = true ∧ arbOk m t v = true ∧ msgOk m v x = true
theorem hrX_yes {m : PMap} {s : Srv} {st : List Sto} {t : Arb} {v : Int} {x : Msg} (h : hearValid m s st t v x) : srvHearX m s st t v x = srvHears m s st t x := by
  unfold srvHearX
  exact if_pos h
theorem hrX_no {m : PMap} {s : Srv} {st : List Sto} {t : Arb} {v : Int} {x : Msg} (h : ¬ hearValid m s st t v x) : srvHearX m s st t v x = ⟨⟨false, [], []⟩, [], []⟩ := by
  unfold srvHearX
  exact if_neg h
/-- No stores came of it: nothing did. -/
theorem hrX_none {m : PMap} {s : Srv} {st : List Sto} {t : Arb} {v : Int} {x : Msg} (h : (srvHearX m s st t v x).stores.length = 0) : srvHearX m s st t v x = ⟨⟨false, [], []⟩, [], []⟩ := by
  by_cases hv : hearValid m s st t v x
  · exfalso
    rw [hrX_yes hv] at h
    have he := eff_ok hv.1 hv.2.1 hv.2.2.2 (hears_eff (t := t) hv.1 hv.2.1 hv.2.2.2)
    have := stosOk_iff.1 hv.2.1
    have h2 := plcOk_iff.1 this.1
    omega
  · exact hrX_no hv
theorem hrX_valid {m : PMap} {s : Srv} {st : List Sto} {t : Arb} {v : Int} {x : Msg} (h : ¬ (srvHearX m s st t v x).stores.length = 0) : hearValid m s st t v x := by
  by_cases hv : hearValid m s st t v x
  · exact hv
  · rw [hrX_no hv] at h
    exact absurd rfl h
theorem srv_one : srvOk ⟨2, 2⟩ ⟨true, [], []⟩ = true := by decide
/-- Servers stay ok. -/
theorem hrX_stays {m : PMap} {s : Srv} {st : List Sto} {t : Arb} {v : Int} {x : Msg} (h : ¬ (srvHearX m s st t v x).stores.length = 0) :
    srvOk m (srvHearX m s st t v x).srv = true ∧ (∀ k, k < (srvHearX m s st t v x).stores.length → stoOk m (nth .sto (srvHearX m s st t v x).stores k) = true) ∧ (∀ k, k < (srvHearX m s st t v x).out.length → msgOk m v (nth .msg (srvHearX m s st t v x).out k) = true) ∧
    (srvHearX m s st t v x).out.length ≤ 1 ∧ (srvHearX m s st t v x).stores.length = st.length ∧ st.length ≤ 4 := by
  have hv := hrX_valid h
  rw [hrX_yes hv]
  have he := eff_ok hv.1 hv.2.1 hv.2.2.2 (hears_eff (t := t) hv.1 hv.2.1 hv.2.2.2)
  have ho := hears_out hv.1 hv.2.1 hv.2.2.1 hv.2.2.2
  have h4 := stosOk_iff.1 hv.2.1
  have h5 := plcOk_iff.1 h4.1
  exact ⟨he.1, fun k hk => ((stosOk_iff.1 he.2.1).2.2 k hk).1, fun k hk => ho.2 _ (nth_mem .msg hk), ho.1, he.2.2.1, by omega⟩
/-- One record at most. -/
theorem eff_one {m : PMap} {s s' : Srv} {st st' : List Sto} {v : Int} {x : Msg} (hst : stosOk m st = true) (hx : msgOk m v x = true) (he : Eff m s st x s' st') {i : Nat} (hi : i < st.length) :
    ((i : Int) ≠ x.cell → nth .sto st' i = nth .sto st i) ∧ (nth .sto st' i).base = (nth .sto st i).base ∧ (nth .sto st i).recs.length ≤ (nth .sto st' i).recs.length ∧ (nth .sto st' i).recs.length ≤ (nth .sto st i).recs.length + 1 ∧
    (nth .sto st' i).recs.take (nth .sto st i).recs.length = (nth .sto st i).recs ∧ (x.kind ≠ 1 → (nth .sto st' i).age = (nth .sto st i).age) ∧ (nth .sto st i).age ≤ (nth .sto st' i).age := by
  have triv : ((i : Int) ≠ x.cell → nth .sto st i = nth .sto st i) ∧ (nth .sto st i).base = (nth .sto st i).base ∧ (nth .sto st i).recs.length ≤ (nth .sto st i).recs.length ∧ (nth .sto st i).recs.length ≤ (nth .sto st i).recs.length + 1 ∧
    (nth .sto st i).recs.take (nth .sto st i).recs.length = (nth .sto st i).recs ∧ (x.kind ≠ 1 → (nth .sto st i).age = (nth .sto st i).age) ∧ (nth .sto st i).age ≤ (nth .sto st i).age := ⟨fun _ => rfl, rfl, Nat.le_refl _, Nat.le_succ _, by simp, fun _ => rfl, Int.le_refl _⟩
  have hc := sto_in hst hx
  cases he with
  | same => exact triv
  | ghost => exact triv
  | lost => exact triv
  | grant hu hk hn ha =>
    rw [set_nth .sto hc.2.1]
    by_cases hic : i = x.cell.toNat
    · subst hic
      rw [if_pos rfl]
      exact ⟨fun hne => absurd (by omega) hne, rfl, Nat.le_refl _, Nat.le_succ _, by simp [stoOf], fun hne => absurd hk hne, ha⟩
    · rw [if_neg hic]
      exact triv
  | write hu hk hh ha hcn hl hr h1 h2 hf hp =>
    rw [set_nth .sto hc.2.1]
    by_cases hic : i = x.cell.toNat
    · subst hic
      rw [if_pos rfl]
      exact ⟨fun hne => absurd (by omega) hne, rfl, by simp [stoOf], by simp [stoOf], by simp [stoOf], fun _ => rfl, Int.le_refl _⟩
    · rw [if_neg hic]
      exact triv
theorem hrX_one {m : PMap} {s : Srv} {st : List Sto} {t : Arb} {v : Int} {x : Msg} (h : ¬ (srvHearX m s st t v x).stores.length = 0) {i : Nat} (hi : i < st.length) :
    ((i : Int) ≠ x.cell → nth .sto (srvHearX m s st t v x).stores i = nth .sto st i) ∧ (nth .sto (srvHearX m s st t v x).stores i).base = (nth .sto st i).base ∧ (nth .sto st i).recs.length ≤ (nth .sto (srvHearX m s st t v x).stores i).recs.length ∧ (nth .sto (srvHearX m s st t v x).stores i).recs.length ≤ (nth .sto st i).recs.length + 1 ∧
    (nth .sto (srvHearX m s st t v x).stores i).recs.take (nth .sto st i).recs.length = (nth .sto st i).recs ∧ (x.kind ≠ 1 → (nth .sto (srvHearX m s st t v x).stores i).age = (nth .sto st i).age) ∧ (nth .sto st i).age ≤ (nth .sto (srvHearX m s st t v x).stores i).age := by
  have hv := hrX_valid h
  rw [hrX_yes hv]
  exact eff_one hv.2.1 hv.2.2.2 (hears_eff hv.1 hv.2.1 hv.2.2.2) hi
/-- Who is down, or does not hold the cell, hears nothing. -/
theorem hrX_down {m : PMap} {s : Srv} {st : List Sto} {t : Arb} {v : Int} {x : Msg} (h : ¬ (srvHearX m s st t v x).stores.length = 0)
    (hn : s.up = false ∨ (srvHas s x.cell = false ∧ ¬ x.kind = 1 ∧ ¬ x.kind = 7)) : srvHearX m s st t v x = ⟨s, st, []⟩ := by
  rw [hrX_yes (hrX_valid h)]
  unfold srvHears
  by_cases hu : s.up = false ∨ x.dest = -1
  · rw [if_pos hu]
  · rcases hn with hn | ⟨h1, h2, h3⟩
    · exact absurd (.inl hn) hu
    · rw [if_neg hu, if_neg h2, if_neg h3, if_pos h1]
/-- A grant. -/
theorem hrX_grant {m : PMap} {s : Srv} {st : List Sto} {t : Arb} {v c n : Int} (h : ¬ (srvHearX m s st t v ⟨1, 0, c, 0, n, zeroOrd, zeroPcl, zeroGst⟩).stores.length = 0) :
    let X := srvHearX m s st t v ⟨1, 0, c, 0, n, zeroOrd, zeroPcl, zeroGst⟩
    X.out = [] ∧ ((s.up = false ∨ (srvHas s c = true ∧ n ≤ (srvHold s c).age) ∨ n < (nth .sto st c.toNat).age) → X.srv = s ∧ X.stores = st) ∧
    (s.up = true → ¬ (srvHas s c = true ∧ n ≤ (srvHold s c).age) → ¬ n < (nth .sto st c.toNat).age → srvHas X.srv c = true ∧ (srvHold X.srv c).age = n ∧ (nth .sto X.stores c.toNat).age = n ∧ (srvHold X.srv c).count = ((nth .sto X.stores c.toNat).recs.length : Int)) := by
  have hv := hrX_valid h
  simp only
  rw [hrX_yes hv]
  obtain ⟨_, _, hall, hsort⟩ := srvOk_iff.1 hv.1
  have hc := sto_in hv.2.1 hv.2.2.2
  simp only [stoOf] at hc
  unfold srvHears
  by_cases hu : s.up = false
  · simp [hu]
  · have hu1 : s.up = true := by simpa using hu
    rw [if_neg (by simp [hu])]
    rw [if_pos rfl]
    unfold srvGranted
    by_cases h1 : srvHas s c = true ∧ n ≤ (srvHold s c).age
    · simp [h1.1, h1.2]
    · simp only [if_neg h1]
      by_cases h2 : n < (nth .sto st c.toNat).age
      · simp [h2, h1]
      · simp only [if_neg h2]
        refine ⟨trivial, fun hh => ?_, fun _ _ _ => ?_⟩
        · rcases hh with hh | hh | hh
          · exact absurd hh hu
          · exact absurd hh h1
          · exact absurd hh h2
        · rw [hldPut_put hsort]
          have hcell : (stoState m (nth .sto st c.toNat)).cell = c := by rw [state_cell, hc.2.2.2]
          obtain ⟨e1, e2⟩ := srvHold_eq (s := ⟨s.up, putH s.holds ⟨n, (nth .sto st c.toNat).recs.length, stoState m (nth .sto st c.toNat)⟩, s.ghosts⟩) (putH_sort hsort) (putH_self _ _) hcell
          rw [e2, set_nth .sto hc.2.1, if_pos rfl]
          exact ⟨e1, rfl, rfl, rfl⟩
end Go.Mo

/-
  Plain laws: a message heard twice; what is told was written.
-/
namespace Go.Mo
open Go.Sx

/-! ## Ghosts -/
theorem less_self (g : Gst) : gstLess g g = false := by
  cases h : gstLess g g with
  | false => rfl
  | true => rw [gstLess_iff] at h; omega
theorem later_self (g : Gst) : later g g = g := by unfold later; split <;> rfl
theorem later_again (x g : Gst) : later (later x g) g = later x g := by
  unfold later
  by_cases h : x.count < g.count
  · simp [h]
  · simp [h]
theorem putG_again {room room' : Bool} (hr : room = false → room' = false) : ∀ (l : List Gst) (g : Gst), putG room' (putG room l g) g = putG room l g
  | [], g => by
    cases room with
    | true => simp [putG, less_self, later_self]
    | false => simp [putG, hr rfl]
  | x :: l, g => by
    by_cases h1 : gstLess g x = true
    · cases room with
      | true => simp [putG, h1, less_self, later_self]
      | false => simp [putG, h1, hr rfl]
    · by_cases h2 : x.src = g.src ∧ x.wlk.id = g.wlk.id
      · have hk := later_key x g h2
        have hl : gstLess g (later x g) = false := by
          cases h : gstLess g (later x g) with
          | false => rfl
          | true => rw [gstLess_iff] at h; omega
        have e : putG room (x :: l) g = later x g :: l := by simp [putG, h1, h2]
        rw [e]
        simp only [putG, hl, Bool.false_eq_true, if_false, if_pos hk, later_again]
      · have e : putG room (x :: l) g = x :: putG room l g := by simp only [putG, h1, if_neg h2]; simp
        rw [e]
        simp only [putG, h1, if_neg h2, Bool.false_eq_true, if_false]
        rw [putG_again hr l g]
theorem putG_keep : ∀ (l : List Gst) (g : Gst), (putG false l g).length = l.length
  | [], _ => by simp [putG]
  | x :: l, g => by
    unfold putG
    split
    · simp
    · split
      · simp
      · simp [putG_keep l g]
theorem gstRec_again {l : List Gst} {g : Gst} (hs : GSort l) : gstRec (gstRec l g) g = gstRec l g := by
  rw [gstRec_put hs, gstRec_put (putG_sort hs)]
  refine putG_again (fun h => ?_) l g
  rw [h, putG_keep]
  exact h

/-! ## An order -/
theorem do_find {m : PMap} {c : Cll} {o : Ord} (hf : cllFresh c o = true) (hh : wlkHas (cllDo m c o).c.wlks o.who = true) : (wlkFind (cllDo m c o).c.wlks o.who).seq = o.seq ∧ (wlkFind (cllDo m c o).c.wlks o.who).last = (cllDo m c o).code := by
  unfold cllFresh at hf
  rw [Bool.and_eq_true, decide_eq_true_eq] at hf
  obtain ⟨hw, hq⟩ := hf
  have hp := has_lt hw
  have hid := id_w hw
  rw [find_w hw] at hq
  have e : cllDo m c o = doKind m c (wlkPlace c.wlks o.who).toNat ⟨(nth .wlk c.wlks (wlkPlace c.wlks o.who).toNat).id, (nth .wlk c.wlks (wlkPlace c.wlks o.who).toNat).pos, (nth .wlk c.wlks (wlkPlace c.wlks o.who).toNat).coins, o.seq, (nth .wlk c.wlks (wlkPlace c.wlks o.who).toNat).last⟩ o := by
    unfold cllDo
    rw [if_neg (by omega)]
    simp only
    rw [if_neg (by omega), if_neg (by omega)]
  rw [e] at hh ⊢
  have fin : ∀ (w : Wlk) (g code : Int), w.id = o.who → w.seq = o.seq → (wlkFind (cllFin c (wlkPlace c.wlks o.who).toNat w g code).c.wlks o.who).seq = o.seq ∧ (wlkFind (cllFin c (wlkPlace c.wlks o.who).toNat w g code).c.wlks o.who).last = (cllFin c (wlkPlace c.wlks o.who).toNat w g code).code := fun w g code h1 h2 => by
    simp only [cllFin]
    rw [find_w1 hw (by exact h1)]
    exact ⟨h2, rfl⟩
  unfold doKind at hh ⊢
  split at hh
  · rw [if_pos (by assumption)] at *
    unfold doStep at hh ⊢
    split at hh
    · rw [if_pos (by assumption)]
      exact fin _ _ _ hid rfl
    · rename_i h1
      rw [if_neg h1]
      split at hh
      · rw [if_pos (by assumption)]
        exact fin _ _ _ hid rfl
      · rename_i h2
        rw [if_neg h2]
        split at hh
        · rw [if_pos (by assumption)]
          exact fin _ _ _ hid rfl
        · simp only at hh
          rw [has_out] at hh
          cases hh
  · rename_i k1
    rw [if_neg k1]
    split at hh
    · rw [if_pos (by assumption)] at *
      unfold doGive at hh ⊢
      split at hh
      · rw [if_pos (by assumption)]
        exact fin _ _ _ hid rfl
      · rename_i h1
        rw [if_neg h1]
        split at hh
        · rw [if_pos (by assumption)]
          exact fin _ _ _ hid rfl
        · rename_i h2
          rw [if_neg h2]
          split at hh
          · rw [if_pos (by assumption)]
            exact fin _ _ _ hid rfl
          · rename_i h3
            rw [if_neg h3]
            simp only at hh ⊢
            have hpt : wlkPlace (c.wlks.set (wlkPlace c.wlks o.dest).toNat ⟨(nth .wlk c.wlks (wlkPlace c.wlks o.dest).toNat).id, (nth .wlk c.wlks (wlkPlace c.wlks o.dest).toNat).pos, (nth .wlk c.wlks (wlkPlace c.wlks o.dest).toNat).coins + o.n, (nth .wlk c.wlks (wlkPlace c.wlks o.dest).toNat).seq, (nth .wlk c.wlks (wlkPlace c.wlks o.dest).toNat).last⟩) o.who = wlkPlace c.wlks o.who := place_set rfl
            have hh2 : wlkHas (c.wlks.set (wlkPlace c.wlks o.dest).toNat ⟨(nth .wlk c.wlks (wlkPlace c.wlks o.dest).toNat).id, (nth .wlk c.wlks (wlkPlace c.wlks o.dest).toNat).pos, (nth .wlk c.wlks (wlkPlace c.wlks o.dest).toNat).coins + o.n, (nth .wlk c.wlks (wlkPlace c.wlks o.dest).toNat).seq, (nth .wlk c.wlks (wlkPlace c.wlks o.dest).toNat).last⟩) o.who = true := by
              unfold wlkHas
              rw [hpt]
              exact hw
            have e2 := find_w1 (who := o.who) (a := ⟨(nth .wlk c.wlks (wlkPlace c.wlks o.who).toNat).id, (nth .wlk c.wlks (wlkPlace c.wlks o.who).toNat).pos, (nth .wlk c.wlks (wlkPlace c.wlks o.who).toNat).coins - o.n, o.seq, 1⟩) hh2 (by exact hid)
            rw [hpt] at e2
            rw [e2]
            exact ⟨rfl, rfl⟩
    · rename_i k2
      rw [if_neg k2]
      split at hh
      · rw [if_pos (by assumption)] at *
        unfold doDrop
        split
        · exact fin _ _ _ hid rfl
        · split
          · exact fin _ _ _ hid rfl
          · exact fin _ _ _ hid rfl
      · rename_i k3
        rw [if_neg k3]
        split at hh
        · rw [if_pos (by assumption)] at *
          unfold doPick
          split
          · exact fin _ _ _ hid rfl
          · split
            · exact fin _ _ _ hid rfl
            · exact fin _ _ _ hid rfl
        · rename_i k4
          rw [if_neg k4]
          split at hh
          · rw [if_pos (by assumption)] at *
            unfold doThrow
            split
            · exact fin _ _ _ hid rfl
            · split
              · exact fin _ _ _ hid rfl
              · split
                · exact fin _ _ _ hid rfl
                · simp only
                  rw [find_w1 hw (by exact hid)]
                  exact ⟨rfl, rfl⟩
          · rename_i k5
            rw [if_neg k5]
            exact fin _ _ _ hid rfl

/-! ## Parcels that have come -/
theorem rel_again {m : PMap} {c : Cll} {s : Nat} {n : Int} (h : cllOk m c = true) (hs : s < 2) (hr : (cllRel c s n).ok = true) : (cllRel (cllRel c s n).c s n).ok = false := by
  have hf := cllOk_facts h
  have hsd := (cllOk_side h hs).2.2.2
  unfold cllRel at hr
  split at hr
  · cases hr
  rename_i e1
  have hc : (cllRel c s n).c = ⟨c.cell, c.wlks, c.ground, relOuts c s n, c.next, c.ins⟩ := by
    unfold cllRel
    rw [if_neg e1]
  rw [hc]
  unfold cllRel relOuts
  simp only
  rw [nth_set_eq .pcls (by omega)]
  have hd := pclFrom_drop (x := n) hsd (by
    have := fun hh => e1 (.inr hh)
    generalize (nth .int c.next s : Int) = N at *
    omega)
  rw [if_pos]
  rw [hd]
  right
  rw [List.length_drop]
  have h1 : ¬ @LT.lt Int _ (nth .int c.next s) n := fun hh => e1 (.inl hh)
  have h2 : ¬ @LE.le Int _ n (nth .int c.next s - (nth .pcls c.outs s).length) := fun hh => e1 (.inr hh)
  show @LE.le Int _ n (nth .int c.next s - _)
  generalize (nth .pcls c.outs s).length = L at *
  generalize (nth .int c.next s : Int) = N at *
  omega

/-! ## A record written -/
theorem write_cases {m : PMap} {s : Srv} {st : List Sto} {cell : Int} {r : Rec} (hs : HSort s.holds) :
    ((srvWrite m s st cell r).n = 1 ∧ (hldWrite m (srvHold s cell) (nth .sto st cell.toNat) r).n = 1 ∧ srvWrite m s st cell r = ⟨⟨s.up, putH s.holds ⟨(srvHold s cell).age, (srvHold s cell).count + 1, (cllApply m (srvHold s cell).state r).c⟩, s.ghosts⟩, st.set cell.toNat ⟨(nth .sto st cell.toNat).age, (nth .sto st cell.toNat).base, (nth .sto st cell.toNat).recs ++ [r]⟩, 1, (cllApply m (srvHold s cell).state r).code⟩) ∨
    ((srvWrite m s st cell r).n = 2 ∧ (hldWrite m (srvHold s cell) (nth .sto st cell.toNat) r).n = 2 ∧ srvWrite m s st cell r = ⟨⟨s.up, hldDel s.holds cell, s.ghosts⟩, st, 2, 0⟩) ∨
    ((srvWrite m s st cell r).n ≠ 1 ∧ (srvWrite m s st cell r).n ≠ 2 ∧ (srvWrite m s st cell r).srv = s ∧ (srvWrite m s st cell r).stores = st) := by
  unfold srvWrite
  simp only
  by_cases h1 : (hldWrite m (srvHold s cell) (nth .sto st cell.toNat) r).n = 1
  · obtain ⟨g1, g2, g3, g4, g5, g6, g7, g8, g9, g10, g11⟩ := write_is h1
    rw [if_pos h1]
    refine .inl ⟨rfl, h1, ?_⟩
    rw [g9, g10, g11, hldPut_put hs]
  · rw [if_neg h1]
    by_cases h2 : (hldWrite m (srvHold s cell) (nth .sto st cell.toNat) r).n = 2
    · rw [if_pos h2]
      exact .inr (.inl ⟨rfl, h2, rfl⟩)
    · rw [if_neg h2]
      exact .inr (.inr ⟨h1, h2, rfl, rfl⟩)
theorem put_hold {s : Srv} {h : Hld} {cell : Int} (hs : HSort s.holds) (hc : h.state.cell = cell) : srvHas ⟨s.up, putH s.holds h, s.ghosts⟩ cell = true ∧ srvHold ⟨s.up, putH s.holds h, s.ghosts⟩ cell = h :=
  srvHold_eq (s := ⟨s.up, putH s.holds h, s.ghosts⟩) (putH_sort hs) (putH_self _ _) hc
theorem del_hold (s : Srv) (cell : Int) : srvHas ⟨s.up, hldDel s.holds cell, s.ghosts⟩ cell = false := by
  cases h : srvHas ⟨s.up, hldDel s.holds cell, s.ghosts⟩ cell with
  | false => rfl
  | true =>
    obtain ⟨x, hx, hc⟩ := srvHas_iff.1 h
    exact absurd hc (del_mem.1 hx).2
theorem hears_none {m : PMap} {s : Srv} {st : List Sto} {t : Arb} {x : Msg} (h1 : ¬ x.kind = 1) (h7 : ¬ x.kind = 7) (hh : srvHas s x.cell = false) : srvHears m s st t x = ⟨s, st, []⟩ := by
  unfold srvHears
  by_cases hu : s.up = false ∨ x.dest = -1
  · rw [if_pos hu]
  · rw [if_neg hu, if_neg h1, if_neg h7, if_pos hh]
/-- What is told. -/
theorem hears_told {m : PMap} {s : Srv} {st : List Sto} {t : Arb} {v : Int} {x : Msg} (hv : hearValid m s st t v x) (hl : ¬ (srvHears m s st t x).out.length = 0) (hk : (nth .msg (srvHears m s st t x).out 0).kind = 3) :
    s.up = true ∧ ¬ x.dest = -1 ∧ x.kind = 2 ∧ srvHas s x.cell = true ∧ wlkHas (srvHold s x.cell).state.wlks x.ord.who = true ∧
    (((wlkFind (srvHold s x.cell).state.wlks x.ord.who).seq = x.ord.seq ∧ srvHears m s st t x = ⟨s, st, [msgTold x (wlkFind (srvHold s x.cell).state.wlks x.ord.who).last]⟩) ∨
     ((wlkFind (srvHold s x.cell).state.wlks x.ord.who).seq < x.ord.seq ∧ (hldWrite m (srvHold s x.cell) (stoOf st x) (recOf x)).n = 1 ∧ srvHears m s st t x = ⟨⟨s.up, putH s.holds ⟨(srvHold s x.cell).age, (srvHold s x.cell).count + 1, (cllApply m (srvHold s x.cell).state (recOf x)).c⟩, s.ghosts⟩,
        st.set x.cell.toNat ⟨(stoOf st x).age, (stoOf st x).base, (stoOf st x).recs ++ [recOf x]⟩, [msgTold x (cllApply m (srvHold s x.cell).state (recOf x)).code]⟩)) := by
  obtain ⟨_, _, hall, hsort⟩ := srvOk_iff.1 hv.1
  have hkk := msg_kinds hv.2.2.2
  by_cases hu0 : s.up = false ∨ x.dest = -1
  · unfold srvHears at hl
    rw [if_pos hu0] at hl
    exact absurd rfl hl
  have hu : s.up = true := by
    cases h : s.up with
    | true => rfl
    | false => exact absurd (.inl h) hu0
  have hd : ¬ x.dest = -1 := fun h => hu0 (.inr h)
  have e0 : srvHears m s st t x = if x.kind = 1 then srvGranted m s st x
    else if x.kind = 7 then ⟨⟨s.up, s.holds, gstRec s.ghosts x.gst⟩, st, []⟩
    else if srvHas s x.cell = false then ⟨s, st, []⟩
    else if x.kind = 2 then srvAsked m s st x
    else if x.kind = 5 then srvTaken m s st t x
    else ⟨(srvWrite m s st x.cell ⟨3, zeroOrd, x.side, zeroPcl, x.n⟩).srv, (srvWrite m s st x.cell ⟨3, zeroOrd, x.side, zeroPcl, x.n⟩).stores, []⟩ := by
    unfold srvHears
    rw [if_neg hu0]
  rw [e0] at hl hk ⊢
  by_cases k1 : x.kind = 1
  · rw [if_pos k1] at hl
    exfalso
    unfold srvGranted at hl
    split at hl
    · exact hl rfl
    · split at hl <;> exact hl rfl
  rw [if_neg k1] at hl hk ⊢
  by_cases k7 : x.kind = 7
  · rw [if_pos k7] at hl
    exact absurd rfl hl
  rw [if_neg k7] at hl hk ⊢
  by_cases kh : srvHas s x.cell = false
  · rw [if_pos kh] at hl
    exact absurd rfl hl
  rw [if_neg kh] at hl hk ⊢
  have hh : srvHas s x.cell = true := by simpa using kh
  by_cases k2 : x.kind = 2
  · rw [if_pos k2] at hl hk ⊢
    have er : recOf x = ⟨1, x.ord, 0, zeroPcl, 0⟩ := by rw [recOf, if_pos k2]
    unfold srvAsked at hl hk ⊢
    simp only at hl hk ⊢
    by_cases hw : wlkHas (srvHold s x.cell).state.wlks x.ord.who = false
    · rw [if_pos hw] at hk
      exact absurd (show (4 : Int) = 3 from hk) (by decide)
    rw [if_neg hw] at hl hk ⊢
    refine ⟨hu, hd, k2, hh, by simpa using hw, ?_⟩
    by_cases q1 : x.ord.seq < (wlkFind (srvHold s x.cell).state.wlks x.ord.who).seq
    · rw [if_pos q1] at hl
      exact absurd rfl hl
    rw [if_neg q1] at hl hk ⊢
    by_cases q2 : x.ord.seq = (wlkFind (srvHold s x.cell).state.wlks x.ord.who).seq
    · rw [if_pos q2] at hl hk ⊢
      simp only at hl hk
      by_cases q3 : (wlkFind (srvHold s x.cell).state.wlks x.ord.who).last = 0
      · rw [if_pos q3] at hl
        exact absurd rfl hl
      · rw [if_neg q3]
        exact .inl ⟨q2.symm, rfl⟩
    · rw [if_neg q2] at hl hk ⊢
      rw [← er] at hl hk ⊢
      right
      refine ⟨by omega, ?_⟩
      rcases write_cases (m := m) (s := s) (st := st) (cell := x.cell) (r := recOf x) hsort with ⟨w1, w2, w3⟩ | ⟨w1, _, w3⟩ | ⟨w1, w2, _⟩
      · refine ⟨w2, ?_⟩
        rw [w3]
        simp [stoOf]
      · rw [w1] at hl
        exact absurd rfl hl
      · simp only [if_neg w1] at hl
        exact absurd rfl hl
  · exfalso
    rw [if_neg k2] at hl hk
    by_cases k5 : x.kind = 5
    · rw [if_pos k5] at hl hk
      unfold srvTaken at hl hk
      simp only at hl hk
      have hgot : ∀ n, ¬ (msgGot m t x n).length = 0 → ¬ (nth .msg (msgGot m t x n) 0).kind = 3 := by
        intro n h1 h2
        unfold msgGot at h1 h2
        split at h1
        · exact h1 rfl
        · rename_i hq
          rw [if_neg hq] at h2
          exact absurd (show (6 : Int) = 3 from h2) (by decide)
      split at hl
      · rename_i hq
        rw [if_pos hq] at hk
        exact hgot _ hl hk
      · rename_i hq
        rw [if_neg hq] at hk
        simp only at hl hk
        split at hl
        · rename_i hq2
          rw [if_pos hq2] at hk
          exact hgot _ hl hk
        · exact hl rfl
    · rw [if_neg k5] at hl
      exact hl rfl
theorem do_fresh {m : PMap} {c : Cll} {x : Msg} (hk : x.kind = 2) (hw : wlkHas c.wlks x.ord.who = true) (hq : (wlkFind c.wlks x.ord.who).seq < x.ord.seq) : cllApply m c (recOf x) = ⟨(cllDo m c x.ord).c, (cllDo m c x.ord).code, true⟩ := by
  have er : recOf x = ⟨1, x.ord, 0, zeroPcl, 0⟩ := by rw [recOf, if_pos hk]
  rw [er]
  unfold cllApply
  rw [if_pos rfl, if_pos]
  unfold cllFresh
  rw [hw, Bool.true_and]
  simpa using hq
/-- Heard again, it does nothing more. -/
theorem hears_twice {m : PMap} {s : Srv} {st : List Sto} {t : Arb} {v : Int} {x : Msg} (hv : hearValid m s st t v x) :
    (srvHears m (srvHears m s st t x).srv (srvHears m s st t x).stores t x).srv = (srvHears m s st t x).srv ∧ (srvHears m (srvHears m s st t x).srv (srvHears m s st t x).stores t x).stores = (srvHears m s st t x).stores := by
  obtain ⟨hgs, _, hall, hsort⟩ := srvOk_iff.1 hv.1
  have hkk := msg_kinds hv.2.2.2
  have he := hears_eff (t := t) hv.1 hv.2.1 hv.2.2.2
  have hok := eff_ok hv.1 hv.2.1 hv.2.2.2 he
  have hcs := sto_in hv.2.1 hv.2.2.2
  have hgsort : GSort s.ghosts := (gstsOk_iff.1 hgs).2.2.2
  generalize hX : srvHears m s st t x = X at *
  obtain ⟨s', st', o⟩ := X
  simp only at he hok ⊢
  cases he with
  | same => rw [hX]; exact ⟨rfl, rfl⟩
  | ghost hu hk =>
    have hd : ¬ (s.up = false ∨ x.dest = -1) := by rw [hu]; rintro (h | h); · cases h
                                                   · omega
    unfold srvHears
    rw [if_neg hd, if_neg (by omega), if_pos hk]
    simp only
    rw [gstRec_again hgsort]
    exact ⟨rfl, trivial⟩
  | grant hu hk hn ha =>
    have hd : ¬ (s.up = false ∨ x.dest = -1) := by rw [hu]; rintro (h | h); · cases h
                                                   · omega
    have hcell : (stoState m (stoOf st x)).cell = x.cell := by rw [state_cell, hcs.2.2.2]
    have pc := put_hold (s := s) (h := ⟨x.n, (stoOf st x).recs.length, stoState m (stoOf st x)⟩) hsort hcell
    unfold srvHears
    rw [if_neg hd, if_pos hk]
    unfold srvGranted
    rw [if_pos ⟨pc.1, by rw [pc.2]; exact Int.le_refl _⟩]
    exact ⟨rfl, rfl⟩
  | lost hu hk hh ha =>
    rw [hears_none (by omega) (by omega) (del_hold s x.cell)]
    exact ⟨rfl, rfl⟩
  | write hu hk hh ha hc hl hr h1 h2 hf hp =>
    have hd : ¬ (s.up = false ∨ x.dest = -1) := by rw [hu]; rintro (h | h); · cases h
                                                   · omega
    obtain ⟨hm, hcc⟩ := srvHold_mem hh
    have hho := hall _ hm
    have hko := (hldOk_iff.1 hho).2.2
    have hcell : (cllApply m (srvHold s x.cell).state (recOf x)).c.cell = x.cell := by rw [apply_cell, hcc]
    have pc := put_hold (s := s) (h := ⟨(srvHold s x.cell).age, (srvHold s x.cell).count + 1, (cllApply m (srvHold s x.cell).state (recOf x)).c⟩) hsort hcell
    unfold srvHears
    rw [if_neg hd, if_neg (by omega), if_neg (by omega), if_neg (by rw [pc.1]; decide)]
    by_cases k2 : x.kind = 2
    · rw [if_pos k2]
      unfold srvAsked
      simp only
      rw [pc.2]
      simp only
      obtain ⟨f1, f2⟩ := hf k2
      have hdo := do_fresh (m := m) (c := (srvHold s x.cell).state) k2 f1 f2
      have hfr : cllFresh (srvHold s x.cell).state x.ord = true := by unfold cllFresh; rw [f1, Bool.true_and]; simpa using f2
      rw [hdo]
      simp only
      by_cases hw : wlkHas (cllDo m (srvHold s x.cell).state x.ord).c.wlks x.ord.who = false
      · rw [if_pos hw]
        exact ⟨rfl, rfl⟩
      · rw [if_neg hw]
        have hfd := do_find (m := m) hfr (by simpa using hw)
        rw [if_neg (by omega), if_pos hfd.1.symm]
        exact ⟨rfl, rfl⟩
    · rw [if_neg k2]
      by_cases k5 : x.kind = 5
      · rw [if_pos k5]
        have er : recOf x = ⟨2, zeroOrd, x.side, x.pcl, 0⟩ := by rw [recOf, if_neg k2, if_pos k5]
        have hsd := (side_back (msg_side hv.2.2.2 (.inl k5))).1
        have hap : plcSide m (srvHold s x.cell).state.cell x.side ≠ -1 ∧ (cllRecv m (srvHold s x.cell).state x.side.toNat x.pcl).ok = true ∧ (cllApply m (srvHold s x.cell).state (recOf x)).c = (cllRecv m (srvHold s x.cell).state x.side.toNat x.pcl).c := by
          rw [er] at h2 ⊢
          unfold cllApply at h2 ⊢
          simp only [show ¬ ((2 : Int) = 1) by decide, if_false, if_true] at h2 ⊢
          by_cases hsx : plcSide m (srvHold s x.cell).state.cell x.side = -1
          · rw [if_pos hsx] at h2
            cases h2
          · rw [if_neg hsx] at h2 ⊢
            exact ⟨hsx, h2, rfl⟩
        have hlen := cllOk_facts hko
        have hri := recv_ins (m := m) (c := (srvHold s x.cell).state) (s := x.side.toNat) (p := x.pcl) (by omega) hap.2.1
        unfold srvTaken
        simp only
        rw [pc.2]
        simp only
        rw [if_pos (by rw [hap.2.2]; have := hri.1; have := hri.2; generalize (nth .int (cllRecv m (srvHold s x.cell).state x.side.toNat x.pcl).c.ins x.side.toNat : Int) = A at *; omega)]
        exact ⟨rfl, rfl⟩
      · rw [if_neg k5]
        have k6 : x.kind = 6 := by omega
        have er : recOf x = ⟨3, zeroOrd, x.side, zeroPcl, x.n⟩ := by rw [recOf, if_neg k2, if_neg k5]
        have hsd := (side_back (msg_side hv.2.2.2 (.inr (.inl k6)))).1
        simp only
        rw [← er]
        rcases write_cases (m := m) (s := ⟨s.up, putH s.holds ⟨(srvHold s x.cell).age, (srvHold s x.cell).count + 1, (cllApply m (srvHold s x.cell).state (recOf x)).c⟩, s.ghosts⟩) (st := st.set x.cell.toNat ⟨(stoOf st x).age, (stoOf st x).base, (stoOf st x).recs ++ [recOf x]⟩) (cell := x.cell) (r := recOf x) (putH_sort hsort) with ⟨_, w2, _⟩ | ⟨_, w2, _⟩ | ⟨_, _, w3, w4⟩
        · exfalso
          have := (write_is w2).2.2.2.2.2.2.2.1
          rw [pc.2] at this
          simp only at this
          have e1 : (cllApply m (srvHold s x.cell).state (recOf x)).ok = (cllRel (srvHold s x.cell).state x.side.toNat x.n).ok ∧ (cllApply m (srvHold s x.cell).state (recOf x)).c = (cllRel (srvHold s x.cell).state x.side.toNat x.n).c := by
            rw [er] at h2 ⊢
            unfold cllApply at h2 ⊢
            simp only [show ¬ ((3 : Int) = 1) by decide, show ¬ ((3 : Int) = 2) by decide, if_false] at h2 ⊢
            by_cases hsx : plcSide m (srvHold s x.cell).state.cell x.side = -1
            · rw [if_pos hsx] at h2
              cases h2
            · rw [if_neg hsx]
              exact ⟨rfl, rfl⟩
          rw [e1.1] at h2
          rw [e1.2] at this
          have hag := rel_again (m := m) hko (by omega) h2
          rw [er] at this
          unfold cllApply at this
          simp only [show ¬ ((3 : Int) = 1) by decide, show ¬ ((3 : Int) = 2) by decide, if_false] at this
          split at this
          · cases this
          · simp only at this
            rw [hag] at this
            cases this
        · exfalso
          have ho2 := srvOk_iff.1 hok.1
          have hm2 := srvHold_mem pc.1
          have hst2 := (stosOk_iff.1 hok.2.1).2.2 x.cell.toNat (by simpa using hcs.2.1)
          have := (write_two (ho2.2.2.1 _ hm2.1) hst2.1).1 w2
          rw [pc.2, set_nth .sto hcs.2.1, if_pos rfl] at this
          exact this ha
        · exact ⟨w3, w4⟩

end Go.Mo

/-
  Plain laws: what a server tells, as its laws ask it.
-/
namespace Go.Mo
open Go.Sx

theorem hrX_told {m : PMap} {s : Srv} {st : List Sto} {t : Arb} {v : Int} {x : Msg} (hl : ¬ (srvHearX m s st t v x).out.length = 0) (hk : (nth .msg (srvHearX m s st t v x).out 0).kind = 3) :
    srvHas s x.cell = true ∧ wlkHas (srvHold s x.cell).state.wlks x.ord.who = true ∧ 0 ≤ x.cell ∧ x.cell < (srvHearX m s st t v x).stores.length ∧ x.cell < st.length ∧
    ((wlkFind (srvHold s x.cell).state.wlks x.ord.who).seq = x.ord.seq → (nth .msg (srvHearX m s st t v x).out 0).n = (wlkFind (srvHold s x.cell).state.wlks x.ord.who).last ∧ (srvHearX m s st t v x).stores = st) ∧
    (¬ (wlkFind (srvHold s x.cell).state.wlks x.ord.who).seq = x.ord.seq → ¬ (nth .sto (srvHearX m s st t v x).stores x.cell.toNat).recs.length = 0 ∧
      (nth .rcd (nth .sto (srvHearX m s st t v x).stores x.cell.toNat).recs ((nth .sto (srvHearX m s st t v x).stores x.cell.toNat).recs.length - 1)).kind = 1 ∧ (nth .rcd (nth .sto (srvHearX m s st t v x).stores x.cell.toNat).recs ((nth .sto (srvHearX m s st t v x).stores x.cell.toNat).recs.length - 1)).ord = x.ord ∧
      ((srvHold s x.cell).state = stoStateX m (nth .sto st x.cell.toNat) → (cllDoX m (stoStateX m (nth .sto st x.cell.toNat)) x.ord).code = (nth .msg (srvHearX m s st t v x).out 0).n)) := by
  by_cases hv : hearValid m s st t v x
  · rw [hrX_yes hv] at hl hk ⊢
    have hcs := sto_in hv.2.1 hv.2.2.2
    obtain ⟨h1, h2, h3, h4, h5, hcase⟩ := hears_told hv hl hk
    have hst := stosOk_iff.1 hv.2.1
    have hor := msg_ord hv.2.2.2 (.inl h3)
    have hlt : x.cell < st.length := by omega
    rcases hcase with ⟨q, e⟩ | ⟨q, w, e⟩
    · rw [e]
      exact ⟨h4, h5, hcs.1, hlt, hlt, fun _ => ⟨rfl, rfl⟩, fun hn => absurd q hn⟩
    · rw [e]
      have hap := do_fresh (m := m) h3 h5 q
      refine ⟨h4, h5, hcs.1, by simpa using hlt, hlt, fun hq => by omega, fun _ => ?_⟩
      simp only
      rw [set_nth .sto hcs.2.1, if_pos rfl]
      simp only
      have er : recOf x = ⟨1, x.ord, 0, zeroPcl, 0⟩ := by rw [recOf, if_pos h3]
      have hlast : nth .rcd ((stoOf st x).recs ++ [recOf x]) ((stoOf st x).recs.length) = recOf x := nth_last .rcd
      have hlen : ((stoOf st x).recs ++ [recOf x]).length - 1 = (stoOf st x).recs.length := by simp
      rw [hlen, hlast, er]
      refine ⟨by simp, rfl, rfl, fun hs => ?_⟩
      have hso : stoOk m (nth .sto st x.cell.toNat) = true := hcs.2.2.1
      rw [cllDoX, if_pos ⟨by rw [stateX hso]; exact state_ok hso, hor⟩, ← hs]
      show _ = (cllApply m (srvHold s x.cell).state ⟨1, x.ord, 0, zeroPcl, 0⟩).code
      rw [← er, hap]
  · rw [hrX_no hv] at hl
    exact absurd rfl hl
theorem hrX_twice {m : PMap} {s : Srv} {st : List Sto} {t : Arb} {v : Int} {x : Msg} (h : ¬ (srvHearX m s st t v x).stores.length = 0) :
    (srvHearX m (srvHearX m s st t v x).srv (srvHearX m s st t v x).stores t v x).stores = (srvHearX m s st t v x).stores ∧ (srvHearX m (srvHearX m s st t v x).srv (srvHearX m s st t v x).stores t v x).srv = (srvHearX m s st t v x).srv ∧
    (srvHearX m (srvHearX m s st t v x).srv (srvHearX m s st t v x).stores t v x).out.length ≤ 1 ∧
    ((srvHearX m s st t v x).out.length = 1 → (nth .msg (srvHearX m s st t v x).out 0).kind = 3 → (srvHearX m (srvHearX m s st t v x).srv (srvHearX m s st t v x).stores t v x).out.length = 1 ∧
      (nth .msg (srvHearX m (srvHearX m s st t v x).srv (srvHearX m s st t v x).stores t v x).out 0 = nth .msg (srvHearX m s st t v x).out 0 ∨ (nth .msg (srvHearX m (srvHearX m s st t v x).srv (srvHearX m s st t v x).stores t v x).out 0).kind = 4)) := by
  have hv := hrX_valid h
  rw [hrX_yes hv]
  have hok := eff_ok hv.1 hv.2.1 hv.2.2.2 (hears_eff (t := t) hv.1 hv.2.1 hv.2.2.2)
  have hv2 : hearValid m (srvHears m s st t x).srv (srvHears m s st t x).stores t v x := ⟨hok.1, hok.2.1, hv.2.2.1, hv.2.2.2⟩
  rw [hrX_yes hv2]
  obtain ⟨e1, e2⟩ := hears_twice hv
  refine ⟨e2, e1, (hears_out hv2.1 hv2.2.1 hv2.2.2.1 hv2.2.2.2).1, fun hl hk => ?_⟩
  obtain ⟨_, _, hall, hsort⟩ := srvOk_iff.1 hv.1
  obtain ⟨h1, h2, h3, h4, h5, hcase⟩ := hears_told hv (by omega) hk
  rcases hcase with ⟨q, e⟩ | ⟨q, w, e⟩
  · rw [e]
    simp only
    rw [e]
    exact ⟨rfl, .inl rfl⟩
  · obtain ⟨hm, hcc⟩ := srvHold_mem h4
    have hcell : (cllApply m (srvHold s x.cell).state (recOf x)).c.cell = x.cell := by rw [apply_cell, hcc]
    have pc := put_hold (s := s) (h := ⟨(srvHold s x.cell).age, (srvHold s x.cell).count + 1, (cllApply m (srvHold s x.cell).state (recOf x)).c⟩) hsort hcell
    rw [e]
    simp only
    have hd : ¬ (s.up = false ∨ x.dest = -1) := by
      rw [h1]
      rintro (hh | hh)
      · cases hh
      · exact h2 hh
    unfold srvHears
    rw [if_neg hd, if_neg (by omega), if_neg (by omega), if_neg (by rw [pc.1]; decide), if_pos h3]
    unfold srvAsked
    simp only
    rw [pc.2]
    simp only
    have hdo := do_fresh (m := m) h3 h5 q
    have hfr : cllFresh (srvHold s x.cell).state x.ord = true := by unfold cllFresh; rw [h5, Bool.true_and]; simpa using q
    rw [hdo]
    simp only
    by_cases hw : wlkHas (cllDo m (srvHold s x.cell).state x.ord).c.wlks x.ord.who = false
    · rw [if_pos hw]
      exact ⟨rfl, .inr rfl⟩
    · rw [if_neg hw]
      have hfd := do_find (m := m) hfr (by simpa using hw)
      have hcode := do_code (m := m) hfr
      rw [if_neg (by omega), if_pos hfd.1.symm, hfd.2, if_neg (by omega)]
      exact ⟨rfl, .inl rfl⟩
end Go.Mo
