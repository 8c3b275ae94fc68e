/-
  Contracts: marks set.
-/
import Derived.Test.YtjgijoageljjgaaGreatFpM
import Derived.Test.YtjgijoageljjgaaGreatS4f
set_option linter.unusedVariables false
set_option linter.unusedSimpArgs false
namespace Go.Mo
open Go.Sx
def markL (t : RT) (n : Int) (f : Int → t.ty) (k : Int) (l : List t.ty) : List t.ty := (List.range l.length).map fun (j : Nat) => f (k + n * (j : Int))
theorem markL_len (t : RT) (n : Int) (f : Int → t.ty) (k : Int) (l : List t.ty) : (markL t n f k l).length = l.length := by simp [markL]
theorem markL_nth (t : RT) (n : Int) (f : Int → t.ty) (k : Int) (l : List t.ty) {j : Nat} (h : j < l.length) : nth t (markL t n f k l) j = f (k + n * (j : Int)) := by
  simp [markL, nth, List.getD, h]
theorem markL_mkd (t : RT) (n : Int) (f : Int → t.ty) (k : Int) (l : List t.ty) : mkd t n f k (markL t n f k l) (markL t n f k l).length := fun j hj => markL_nth t n f k l (by rwa [markL_len] at hj)
theorem ext_nth (t : RT) {a b : List t.ty} (hl : a.length = b.length) (h : ∀ j, j < a.length → nth t a j = nth t b j) : a = b := by
  refine List.ext_getElem? fun j => ?_
  by_cases hj : j < a.length
  · have := h j hj
    simp only [nth, List.getD] at this
    rw [List.getElem?_eq_getElem hj, List.getElem?_eq_getElem (by omega)] at this ⊢
    simpa using this
  · rw [List.getElem?_eq_none (by omega), List.getElem?_eq_none (by omega)]
theorem mkd_all {t : RT} {n : Int} {f : Int → t.ty} {k : Int} {l L : List t.ty} {i : Nat} (h : mkd t n f k L i) (hl : L.length = l.length) (hi : i = l.length) : L = markL t n f k l := by
  refine ext_nth t (by rw [markL_len, hl]) fun j hj => ?_
  rw [markL_nth t n f k l (by omega)]
  exact h j (by omega)
theorem mkd_succ {t : RT} {n : Int} {f : Int → t.ty} {k : Int} {L : List t.ty} {i : Nat} {x : t.ty} (h : mkd t n f k L i) (hi : i < L.length) (hx : x = f (k + n * (i : Int))) : mkd t n f k (L.set i x) (i + 1) := fun j hj => by
  by_cases he : j = i
  · subst he
    simp [nth, List.getD, hi, hx]
  · have : nth t (L.set i x) j = nth t L j := by
      simp only [nth, List.getD]
      rw [List.getElem?_set_ne (fun h => he h.symm)]
    rw [this]
    exact h j (by omega)
theorem setNth_fn {t : RT} (l : Th (List t.ty)) (k : Nat) (f : Th t.ty) : setNth t l (fun _ => (k : Int)) f = fun _ => (l ()).set k (f ()) := rfl
theorem in_len {t : RT} {L l : List t.ty} {k : Nat} (h : k < L.length) (hl : L.length = l.length) : (0 : Int) ≤ (k : Int) ∧ (k : Int) < (L.length : Int) := by omega
theorem muK {α : Type} {K : Th Int × Th α → Prop} {a b : Int} {x y : α} (h : K (fun _ => a, fun _ => x)) (e1 : b = a) (e2 : y = x) : K (fun _ => b, fun _ => y) := by
  rw [e1, e2]
  exact h
/-- How far a row of a row of rows is marked. -/
inductive MkgX (k : Th Int) (l0 : Th (List Pcl)) (M : List Pcl) (i : Nat) : Prop where
  | mk (h : i ≤ M.length ∧ M.length = (l0 ()).length ∧ mkd .pcl 8 pAt (k ()) M i) : MkgX k l0 M i
def markW (k : Int) (l : List Wlk) : List Wlk := markL .wlk 5 wAt k l
def markI (k : Int) (l : List Int) : List Int := markL .int 1 iAt k l
def markP (k : Int) (l : List Pcl) : List Pcl := markL .pcl 8 pAt k l
def markR (k : Int) (l : List Sx.Rec) : List Sx.Rec := markL .rcd 16 rAt k l
theorem markW_len (k : Int) (l : List Wlk) : (markW k l).length = l.length := markL_len .wlk 5 wAt k l
theorem markI_len (k : Int) (l : List Int) : (markI k l).length = l.length := markL_len .int 1 iAt k l
theorem markP_len (k : Int) (l : List Pcl) : (markP k l).length = l.length := markL_len .pcl 8 pAt k l
theorem markR_len (k : Int) (l : List Sx.Rec) : (markR k l).length = l.length := markL_len .rcd 16 rAt k l
def markQ (k : Int) (l : List (List Pcl)) : List (List Pcl) := (List.range l.length).map fun (j : Nat) => markP (k + 8 * (pcTo l j : Int)) (nth .pcls l j)
theorem markQ_len (k : Int) (l : List (List Pcl)) : (markQ k l).length = l.length := by simp [markQ]
theorem markQ_nth (k : Int) (l : List (List Pcl)) {j : Nat} (h : j < l.length) : nth .pcls (markQ k l) j = markP (k + 8 * (pcTo l j : Int)) (nth .pcls l j) := by
  simp [markQ, nth, List.getD, h]
def mkq (k : Int) (l L : List (List Pcl)) (i : Nat) : Prop := L.length = l.length ∧ (∀ j, j < i → nth .pcls L j = markP (k + 8 * (pcTo l j : Int)) (nth .pcls l j)) ∧ (∀ j, i ≤ j → nth .pcls L j = nth .pcls l j)
theorem mkq_zero (k : Int) (l : List (List Pcl)) : mkq k l l 0 := ⟨rfl, fun j h => by omega, fun _ _ => rfl⟩
theorem mkq_succ {k : Int} {l L : List (List Pcl)} {i : Nat} {x : List Pcl} (h : mkq k l L i) (hi : i < L.length) (hx : x = markP (k + 8 * (pcTo l i : Int)) (nth .pcls l i)) : mkq k l (L.set i x) (i + 1) := by
  obtain ⟨h1, h2, h3⟩ := h
  have hne : ∀ j, j ≠ i → nth .pcls (L.set i x) j = nth .pcls L j := fun j he => by
    simp only [nth, List.getD]
    rw [List.getElem?_set_ne (fun h => he h.symm)]
  refine ⟨by simpa using h1, fun j hj => ?_, fun j hj => ?_⟩
  · by_cases he : j = i
    · subst he
      rw [← hx]
      simp [nth, List.getD, hi]
    · rw [hne j he]
      exact h2 j (by omega)
  · rw [hne j (by omega)]
    exact h3 j (by omega)
theorem mkq_all {k : Int} {l L : List (List Pcl)} {i : Nat} (h : mkq k l L i) (hi : i = l.length) : L = markQ k l := by
  obtain ⟨h1, h2, _⟩ := h
  refine ext_nth .pcls (by rw [markQ_len, h1]) fun j hj => ?_
  rw [markQ_nth k l (by omega)]
  exact h2 j (by omega)
theorem mkq_at {k : Int} {l L : List (List Pcl)} {i : Nat} (h : mkq k l L i) : nth .pcls L i = nth .pcls l i := h.2.2 i (Nat.le_refl i)
theorem mkP_all {k : Int} {l M : List Pcl} {i : Nat} (h : mkd .pcl 8 pAt k M i) (hl : M.length = l.length) (hi : i = l.length) : M = markP k l := mkd_all (t := .pcl) h hl hi
theorem mkP_succ {k : Int} {M : List Pcl} {i : Nat} (h : mkd .pcl 8 pAt k M i) (hi : i < M.length) : mkd .pcl 8 pAt k (M.set i (pAt (k + 8 * (i : Int)))) (i + 1) := mkd_succ h hi rfl
theorem mkq_step {n : Int} {l L : List (List Pcl)} {s k : Nat} {M : List Pcl} (h : mkq n l L s) (hsL : s < L.length) (hk : k ≤ M.length) (hm : M.length = List.length (nth .pcls L s)) (hd : mkd .pcl 8 pAt (n + 8 * (pcTo l s : Int)) M k) (hn : ¬ k < M.length) : mkq n l (L.set s M) (s + 1) :=
  mkq_succ h hsL (mkP_all hd (by rw [hm, mkq_at h]) (by
    have : k = M.length := Nat.le_antisymm hk (Nat.le_of_not_lt hn)
    rw [this, hm, mkq_at h]))
theorem set_selfQ {L : List (List Pcl)} {s : Nat} (h : s < L.length) : L.set s (nth .pcls L s) = L := by
  refine List.ext_getElem? fun j => ?_
  by_cases he : j = s
  · subst he
    simp [nth, List.getD, h]
  · rw [List.getElem?_set_ne (fun h => he h.symm)]
def markC (k : Int) (c : Cll) : Cll := ⟨c.cell, markW k c.wlks, c.ground, markQ (endW k c.wlks) c.outs, markI (endP (endW k c.wlks) c.outs) c.next, markI (endI (endP (endW k c.wlks) c.outs) c.next) c.ins⟩
def markS (k : Int) (s : Sto) : Sto := ⟨s.age, markC k s.base, markR (endC k s.base) s.recs⟩
def markH (k : Int) (h : Hld) : Hld := ⟨h.age, h.count, markC k h.state⟩
theorem pcTo_mark (k : Int) (l : List (List Pcl)) : ∀ j, j ≤ l.length → pcTo (markQ k l) j = pcTo l j
  | 0, _ => rfl
  | j + 1, h => by
    rw [pcTo_succ (by rw [markQ_len]; omega), pcTo_succ (by omega), pcTo_mark k l j (by omega), markQ_nth k l (by omega)]
    rw [markP_len]
theorem pcnt_mark (k : Int) (l : List (List Pcl)) : pcnt (markQ k l) = pcnt l := by
  rw [← pcTo_all (markQ_len k l).symm, pcTo_mark k l _ (Nat.le_refl _)]
  exact pcTo_all rfl
theorem markQ_mkd (k : Int) (l : List (List Pcl)) : mkdQ k (markQ k l) := fun j hj => by
  rw [markQ_len] at hj
  rw [pcTo_mark k l j (by omega), markQ_nth k l hj]
  exact markL_mkd .pcl 8 pAt _ _
theorem endW_mark (k k' : Int) (l : List Wlk) : endW k (markW k' l) = endW k l := by simp [endW, markW_len]
theorem endI_mark (k k' : Int) (l : List Int) : endI k (markI k' l) = endI k l := by simp [endI, markI_len]
theorem endR_mark (k k' : Int) (l : List Sx.Rec) : endR k (markR k' l) = endR k l := by simp [endR, markR_len]
theorem endP_mark (k k' : Int) (l : List (List Pcl)) : endP k (markQ k' l) = endP k l := by simp [endP, pcnt_mark]
theorem endC_mark (k : Int) (c : Cll) : endC k (markC k c) = endC k c := by simp [endC, markC, endW_mark, endP_mark, endI_mark]
theorem endS_mark (k : Int) (s : Sto) : endS k (markS k s) = endS k s := by simp [endS, markS, endC_mark, endR_mark]
theorem markC_mkd (k : Int) (c : Cll) : mkdC k (markC k c) := by
  refine ⟨markL_mkd .wlk 5 wAt k c.wlks, ?_, ?_, ?_⟩
  · simp only [markC, endW_mark]; exact markQ_mkd _ _
  · simp only [markC, endW_mark, endP_mark]; exact markL_mkd .int 1 iAt _ c.next
  · simp only [markC, endW_mark, endP_mark, endI_mark]; exact markL_mkd .int 1 iAt _ c.ins
theorem markS_mkd (k : Int) (s : Sto) : mkdS k (markS k s) := by
  refine ⟨markC_mkd _ _, ?_⟩
  simp only [markS, endC_mark]
  exact markL_mkd .rcd 16 rAt _ s.recs
theorem markC_fit {k : Int} {c : Cll} (h : fitX c) : fitX (markC k c) := ⟨by simp [markC, markW_len, h.w], by simp [markC, markQ_len, h.o], by simp [markC, pcnt_mark, h.p], by simp [markC, markI_len, h.n], by simp [markC, markI_len, h.i]⟩
end Go.Mo
namespace Go.Proofs.YtjgijoageljjgaaGreat
open Go.Sx Go.Proofs Go.Mo
set_option maxRecDepth 100000
set_option maxHeartbeats 8000000
set_option linter.unusedSimpArgs false
set_option linter.unusedVariables false
attribute [local grind! .] pcTo_both

noncomputable def sMkW : Sx.Mu := ⟨.list .wlk, [.int .i64], fun l ⟨k, _⟩ => .asrt (fun _ => 0 ≤ k () ∧ k () ≤ 1152921504606846976 ∧ (l ()).length ≤ 4194304) (.ret (fun _ => endW (k ()) (l ()), fun _ => markW (k ()) (l ())))⟩
noncomputable def sMkI : Sx.Mu := ⟨.list .int, [.int .i64], fun l ⟨k, _⟩ => .asrt (fun _ => 0 ≤ k () ∧ k () ≤ 1152921504606846976 ∧ (l ()).length ≤ 4194304) (.ret (fun _ => endI (k ()) (l ()), fun _ => markI (k ()) (l ())))⟩
noncomputable def sMkR : Sx.Mu := ⟨.list .rcd, [.int .i64], fun l ⟨k, _⟩ => .asrt (fun _ => 0 ≤ k () ∧ k () ≤ 1152921504606846976 ∧ (l ()).length ≤ 4194304) (.ret (fun _ => endR (k ()) (l ()), fun _ => markR (k ()) (l ())))⟩
noncomputable def sMkQ : Sx.Mu := ⟨.list .pcls, [.int .i64], fun l ⟨k, _⟩ => .asrt (fun _ => 0 ≤ k () ∧ k () ≤ 1152921504606846976 ∧ (l ()).length ≤ 4194304 ∧ pcnt (l ()) ≤ 17592186044416) (.ret (fun _ => endP (k ()) (l ()), fun _ => markQ (k ()) (l ())))⟩
noncomputable def sMkC : Sx.Mu := ⟨.row .cll, [.int .i64], fun c ⟨k, _⟩ => .asrt (fun _ => 0 ≤ k () ∧ k () ≤ 576460752303423488 ∧ fitX (c ())) (.ret (fun _ => endC (k ()) (c ()), fun _ => markC (k ()) (c ())))⟩
noncomputable def sMkH : Sx.Mu := ⟨.row .hld, [.int .i64], fun c ⟨k, _⟩ => .asrt (fun _ => 0 ≤ k () ∧ k () ≤ 576460752303423488 ∧ fitX (c ()).state) (.ret (fun _ => endC (k ()) (c ()).state, fun _ => markH (k ()) (c ())))⟩
noncomputable def sMkS : Sx.Mu := ⟨.row .sto, [.int .i64], fun c ⟨k, _⟩ => .asrt (fun _ => 0 ≤ k () ∧ k () ≤ 576460752303423488 ∧ fitX (c ()).base ∧ (c ()).recs.length ≤ 4194304) (.ret (fun _ => endS (k ()) (c ()), fun _ => markS (k ()) (c ())))⟩
abbrev muX (s : Sx.Mu) : SpecX := .raw fun _ => callMu s

theorem okMkW : SpecOk1 Tryz.prog 69 (muX sMkW) := mu1 tabOk (ss := []) trivial rfl rfl <| by
  intro (l : Th (List Wlk)) ⟨(n : Th Int), u⟩ K _ ho h
  obtain ⟨l, rfl⟩ := th_ex l; obtain ⟨n, rfl⟩ := th_ex n
  obtain ⟨hp, h⟩ := h
  have hp := hp.out
  obtain ⟨S, hS⟩ : ∃ S : Nat → List (RT.ty .wlk) → List (RT.ty .wlk), ∀ k L, S k L = L.set k (wAt (n + 5 * (k : Int))) := ⟨fun k L => L.set k (wAt (n + 5 * (k : Int))), fun _ _ => rfl⟩
  refine ⟨annL [(69, 2, ⟨Nat × List Wlk, [], fun σ q => ((σ.t 5 (vI fun _ => (q.1 : Int))).t 1 (vI fun _ => n + 5 * (q.1 : Int))).row 1 1 .wlk (fun _ => q.2), fun _ q _ => q.1 ≤ l.length ∧ q.2.length = l.length ∧ mkd .wlk 5 wAt n q.2 q.1, fun _ q _ => l.length - q.1⟩)], noAnn, 20, ?_⟩
  cbv
  repeat' first | ((with_reducible refine fun (k : Nat) => ?_); cbv) | ((with_reducible refine fun (g : Nat × List Wlk) => ?_); obtain ⟨k, L⟩ := g; cbv) | ((with_reducible intro _); cbv) | ((with_reducible show _ ∧ _); (with_reducible apply And.intro))
  all_goals try ((first | (with_reducible refine LoopIn.mk (((0 : Nat), l)) ?_ ?_) | (with_reducible refine LoopBack.mk ((k + 1, S k L)) ?_ ?_ ?_)) )
  all_goals try ((with_reducible show matchSt _ _); cbv; (try simp only [and_true, true_and]))
  all_goals try (with_reducible show _ ∧ _; (repeat' (with_reducible apply And.intro)))
  all_goals first | refine muK h ?_ ?_ | (with_reducible refine Ob.mk ?_; clear h) | (clear h)
  all_goals (try simp only [Prod.mk.injEq, th_eq, thp_eq, decide_eq_true_eq, decide_eq_false_iff_not, Int.ofNat_lt] at *)
  all_goals (try have hkL : k < L.length := (by grind))
  all_goals (try simp only [setNth_fn, Int.toNat_natCast, nth_set_eq .wlk hkL, List.set_set, List.length_set])
  all_goals (try have hw : ∀ a : Int, n + 5 * (k : Int) ≤ a → a ≤ n + 5 * (k : Int) + 30 → IntKind.i64.wrap (a + 1) = a + 1 := (by intro a h1 h2; exact wrap_id (by omega) (by omega)))
  all_goals (try simp (disch := omega) only [hw])
  all_goals first | exact mkd_all (t := .wlk) (n := 5) (f := wAt) (i := k) (by grind) (by grind) (by grind) | (unfold endW; grind) | grind [wrap_id, wrap_succ, mkd_zero, mkd_succ, wAt, List.length_set]
theorem okMkI : SpecOk1 Tryz.prog 71 (muX sMkI) := mu1 tabOk (ss := []) trivial rfl rfl <| by
  intro (l : Th (List Int)) ⟨(n : Th Int), u⟩ K _ ho h
  obtain ⟨l, rfl⟩ := th_ex l; obtain ⟨n, rfl⟩ := th_ex n
  obtain ⟨hp, h⟩ := h
  have hp := hp.out
  obtain ⟨S, hS⟩ : ∃ S : Nat → List (RT.ty .int) → List (RT.ty .int), ∀ k L, S k L = L.set k (iAt (n + 1 * (k : Int))) := ⟨fun k L => L.set k (iAt (n + 1 * (k : Int))), fun _ _ => rfl⟩
  refine ⟨annL [(71, 2, ⟨Nat × List Int, [], fun σ q => ((σ.t 5 (vI fun _ => (q.1 : Int))).t 1 (vI fun _ => n + 1 * (q.1 : Int))).row 1 1 .int (fun _ => q.2), fun _ q _ => q.1 ≤ l.length ∧ q.2.length = l.length ∧ mkd .int 1 iAt n q.2 q.1, fun _ q _ => l.length - q.1⟩)], noAnn, 20, ?_⟩
  cbv
  repeat' first | ((with_reducible refine fun (k : Nat) => ?_); cbv) | ((with_reducible refine fun (g : Nat × List Int) => ?_); obtain ⟨k, L⟩ := g; cbv) | ((with_reducible intro _); cbv) | ((with_reducible show _ ∧ _); (with_reducible apply And.intro))
  all_goals try ((first | (with_reducible refine LoopIn.mk (((0 : Nat), l)) ?_ ?_) | (with_reducible refine LoopBack.mk ((k + 1, S k L)) ?_ ?_ ?_)) )
  all_goals try ((with_reducible show matchSt _ _); cbv; (try simp only [and_true, true_and]))
  all_goals try (with_reducible show _ ∧ _; (repeat' (with_reducible apply And.intro)))
  all_goals first | refine muK h ?_ ?_ | (with_reducible refine Ob.mk ?_; clear h) | (clear h)
  all_goals (try simp only [Prod.mk.injEq, th_eq, thp_eq, decide_eq_true_eq, decide_eq_false_iff_not, Int.ofNat_lt] at *)
  all_goals (try have hkL : k < L.length := (by grind))
  all_goals (try simp only [setNth_fn, Int.toNat_natCast, nth_set_eq .int hkL, List.set_set, List.length_set])
  all_goals (try have hw : ∀ a : Int, n + 1 * (k : Int) ≤ a → a ≤ n + 1 * (k : Int) + 30 → IntKind.i64.wrap (a + 1) = a + 1 := (by intro a h1 h2; exact wrap_id (by omega) (by omega)))
  all_goals (try simp (disch := omega) only [hw])
  all_goals first | exact mkd_all (t := .int) (n := 1) (f := iAt) (i := k) (by grind) (by grind) (by grind) | (unfold endI; grind) | grind [wrap_id, wrap_succ, mkd_zero, mkd_succ, iAt, List.length_set]
theorem okMkR : SpecOk1 Tryz.prog 30 (muX sMkR) := mu1 tabOk (ss := []) trivial rfl rfl <| by
  intro (l : Th (List Sx.Rec)) ⟨(n : Th Int), u⟩ K _ ho h
  obtain ⟨l, rfl⟩ := th_ex l; obtain ⟨n, rfl⟩ := th_ex n
  obtain ⟨hp, h⟩ := h
  have hp := hp.out
  obtain ⟨S, hS⟩ : ∃ S : Nat → List (RT.ty .rcd) → List (RT.ty .rcd), ∀ k L, S k L = L.set k (rAt (n + 16 * (k : Int))) := ⟨fun k L => L.set k (rAt (n + 16 * (k : Int))), fun _ _ => rfl⟩
  refine ⟨annL [(30, 2, ⟨Nat × List Sx.Rec, [], fun σ q => ((σ.t 5 (vI fun _ => (q.1 : Int))).t 1 (vI fun _ => n + 16 * (q.1 : Int))).row 1 1 .rcd (fun _ => q.2), fun _ q _ => q.1 ≤ l.length ∧ q.2.length = l.length ∧ mkd .rcd 16 rAt n q.2 q.1, fun _ q _ => l.length - q.1⟩)], noAnn, 20, ?_⟩
  cbv
  repeat' first | ((with_reducible refine fun (k : Nat) => ?_); cbv) | ((with_reducible refine fun (g : Nat × List Sx.Rec) => ?_); obtain ⟨k, L⟩ := g; cbv) | ((with_reducible intro _); cbv) | ((with_reducible show _ ∧ _); (with_reducible apply And.intro))
  all_goals try ((first | (with_reducible refine LoopIn.mk (((0 : Nat), l)) ?_ ?_) | (with_reducible refine LoopBack.mk ((k + 1, S k L)) ?_ ?_ ?_)) )
  all_goals try ((with_reducible show matchSt _ _); cbv; (try simp only [and_true, true_and]))
  all_goals try (with_reducible show _ ∧ _; (repeat' (with_reducible apply And.intro)))
  all_goals first | refine muK h ?_ ?_ | (with_reducible refine Ob.mk ?_; clear h) | (clear h)
  all_goals (try simp only [Prod.mk.injEq, th_eq, thp_eq, decide_eq_true_eq, decide_eq_false_iff_not, Int.ofNat_lt] at *)
  all_goals (try have hkL : k < L.length := (by grind))
  all_goals (try simp only [setNth_fn, Int.toNat_natCast, nth_set_eq .rcd hkL, List.set_set, List.length_set])
  all_goals (try have hw : ∀ a : Int, n + 16 * (k : Int) ≤ a → a ≤ n + 16 * (k : Int) + 30 → IntKind.i64.wrap (a + 1) = a + 1 := (by intro a h1 h2; exact wrap_id (by omega) (by omega)))
  all_goals (try simp (disch := omega) only [hw])
  all_goals first | exact mkd_all (t := .rcd) (n := 16) (f := rAt) (i := k) (by grind) (by grind) (by grind) | (unfold endR; grind) | grind [wrap_id, wrap_succ, mkd_zero, mkd_succ, rAt, List.length_set]
theorem okMkQ : SpecOk1 Tryz.prog 70 (muX sMkQ) := mu1 tabOk (ss := []) trivial rfl rfl <| by
  intro (l : Th (List (List Pcl))) ⟨(n : Th Int), u⟩ K _ ho h
  obtain ⟨l, rfl⟩ := th_ex l; obtain ⟨n, rfl⟩ := th_ex n
  obtain ⟨hp, h⟩ := h
  have hp := hp.out
  obtain ⟨S0, hS0⟩ : ∃ S : Nat → List (List Pcl) → List Pcl, ∀ s L, S s L = nth .pcls L s := ⟨fun s L => nth .pcls L s, fun _ _ => rfl⟩
  obtain ⟨S1, hS1⟩ : ∃ S : Nat → List (List Pcl) → List Pcl → List (List Pcl), ∀ s L M, S s L M = L.set s M := ⟨fun s L M => L.set s M, fun _ _ _ => rfl⟩
  obtain ⟨S2, hS2⟩ : ∃ S : Int → Nat → List Pcl → List Pcl, ∀ a k M, S a k M = M.set k (pAt (a + 8 * (k : Int))) := ⟨fun a k M => M.set k (pAt (a + 8 * (k : Int))), fun _ _ _ => rfl⟩
  refine ⟨annL [(70, 2, ⟨Nat × List (List Pcl), [], fun σ q => ((σ.t 5 (vI fun _ => (q.1 : Int))).t 1 (vI fun _ => n + 8 * (pcTo l q.1 : Int))).row 1 1 .pcls (fun _ => q.2), fun _ q _ => q.1 ≤ l.length ∧ mkq n l q.2 q.1, fun _ q _ => l.length - q.1⟩),
    (118, 2, ⟨Nat × List Pcl, [], fun σ q => putL .pcl ((σ.t 5 (vI fun _ => (q.1 : Int))).t 1 (tI (mulAdd (thI σ 1) 8 fun _ => (q.1 : Int)))) (fun _ => q.2), fun σ q _ => MkgX (thI σ 1) (thL .pcl σ) q.2 q.1, fun _ q _ => q.2.length - q.1⟩)], noAnn, 20, ?_⟩
  cbv
  repeat' first | ((with_reducible refine fun (q : Nat × List (List Pcl)) => ?_); obtain ⟨s, L⟩ := q; cbv) | ((with_reducible refine fun (q : Nat × List Pcl) => ?_); obtain ⟨k, M⟩ := q; (with_reducible refine Imp.out ?_); cbv; (with_reducible refine Imp.mk ?_); intro hq; obtain ⟨hq⟩ := hq) | ((with_reducible intro _); cbv) | ((with_reducible show _ ∧ _); (with_reducible apply And.intro))
  all_goals try ((first | (with_reducible refine LoopIn.mk (((0 : Nat), l)) ?_ ?_) | (with_reducible refine LoopIn.mk (((0 : Nat), S0 s L)) ?_ ?_) | (with_reducible refine LoopBack.mk ((s + 1, S1 s L M)) ?_ ?_ ?_) | (with_reducible refine LoopBack.mk ((k + 1, S2 (n + 8 * (pcTo l s : Int)) k M)) ?_ ?_ ?_)) )
  all_goals try ((with_reducible show matchSt _ _); cbv; (try simp only [and_true, true_and]))
  all_goals try (with_reducible show _ ∧ _; (repeat' (with_reducible apply And.intro)))
  all_goals first | refine muK h ?_ ?_ | (with_reducible refine Ob.mk ?_; clear h) | (clear h)
  all_goals (try ((with_reducible show MkgX _ _ _ _); cbv; refine MkgX.mk ?_))
  all_goals (try simp only [Prod.mk.injEq, th_eq, thp_eq, decide_eq_true_eq, decide_eq_false_iff_not, Int.ofNat_lt, mulAdd, hS0, hS1, hS2] at *)
  all_goals (try have hsL : s < L.length := (by grind))
  all_goals (try simp only [setNth_fn, Int.toNat_natCast, nth_set_eq .pcls hsL, List.set_set, List.length_set, set_selfQ hsL] at *)
  all_goals (try have hkM : k < M.length := (by grind))
  all_goals (try simp only [setNth_fn, Int.toNat_natCast, nth_set_eq .pcls hsL, nth_set_eq .pcl hkM, List.set_set, List.length_set])
  all_goals (try have hsl : s < l.length := (by grind [mkq]))
  all_goals (try have hat : nth .pcls L s = nth .pcls l s := mkq_at (n := n) (by grind))
  all_goals (try have hb := pcTo_in hsl)
  all_goals (try have hkb : (k : Int) ≤ (List.length (nth .pcls l s) : Int) := (by have h1 := hq.1; rw [hq.2.1, hat] at h1; exact Int.ofNat_le.2 h1))
  all_goals (try have hw : ∀ a : Int, n + 8 * (pcTo l s : Int) + 8 * (k : Int) ≤ a → a ≤ n + 8 * (pcTo l s : Int) + 8 * (k : Int) + 30 → IntKind.i64.wrap (a + 1) = a + 1 := (by intro a h1 h2; exact wrap_id (by omega) (by omega)))
  all_goals (try simp (disch := omega) only [hw])
  all_goals first | exact mkq_all (i := s) (by grind) (by grind [mkq]) | (exact ⟨hkM, hq.2.1, mkP_succ hq.2.2 hkM⟩) | (exact mkq_step (by grind) hsL hq.1 hq.2.1 hq.2.2 (by assumption)) | grind [wrap_id, wrap_succ, mkq_zero, mkq, mkd_zero, mkP_succ, pAt, List.length_set, pcTo_zero, pcTo_succ, pcTo_all, endP]
theorem okMkC : SpecOk1 Tryz.prog 23 (muX sMkC) := mu1 tabOk (ss := [(69, muX sMkW), (70, muX sMkQ), (71, muX sMkI)]) ⟨okMkW, okMkQ, okMkI, trivial⟩ rfl rfl <| by
  intro (c : Th Cll) ⟨(n : Th Int), u⟩ K _ ho h
  obtain ⟨c, rfl⟩ := th_ex c; obtain ⟨n, rfl⟩ := th_ex n
  obtain ⟨hp, h⟩ := h
  have hp := hp.out
  refine ⟨noAnn, noAnn, 20, ?_⟩
  cbv
  repeat' first | ((with_reducible refine fun (k : Nat) => ?_); cbv) | ((with_reducible refine fun (q : Nat × Unit) => ?_); obtain ⟨s, _⟩ := q; cbv) | ((with_reducible refine fun (q : Nat × Nat) => ?_); obtain ⟨s, k⟩ := q; cbv) | ((with_reducible intro _); cbv) | ((with_reducible show _ ∧ _); (with_reducible apply And.intro))
  all_goals first | refine muK h ?_ ?_ | (with_reducible refine Ob.mk ?_; clear h) | (clear h)
  all_goals first | rfl | grind [endC, endW, endP, endI, fitX, markC]
theorem okMkH : SpecOk1 Tryz.prog 42 (muX sMkH) := mu1 tabOk (ss := [(23, muX sMkC)]) ⟨okMkC, trivial⟩ rfl rfl <| by
  intro (c : Th Hld) ⟨(n : Th Int), u⟩ K _ ho h
  obtain ⟨c, rfl⟩ := th_ex c; obtain ⟨n, rfl⟩ := th_ex n
  obtain ⟨hp, h⟩ := h
  have hp := hp.out
  refine ⟨noAnn, noAnn, 20, ?_⟩
  cbv
  repeat' first | ((with_reducible refine fun (k : Nat) => ?_); cbv) | ((with_reducible refine fun (q : Nat × Unit) => ?_); obtain ⟨s, _⟩ := q; cbv) | ((with_reducible refine fun (q : Nat × Nat) => ?_); obtain ⟨s, k⟩ := q; cbv) | ((with_reducible intro _); cbv) | ((with_reducible show _ ∧ _); (with_reducible apply And.intro))
  all_goals first | refine muK h ?_ ?_ | (with_reducible refine Ob.mk ?_; clear h) | (clear h)
  all_goals (try simp only [eta0, RT.bytes] at *)
  all_goals first | rfl | exact hp | grind [markC]
theorem okMkS : SpecOk1 Tryz.prog 33 (muX sMkS) := mu1 tabOk (ss := [(23, muX sMkC), (30, muX sMkR)]) ⟨okMkC, okMkR, trivial⟩ rfl rfl <| by
  intro (c : Th Sto) ⟨(n : Th Int), u⟩ K _ ho h
  obtain ⟨c, rfl⟩ := th_ex c; obtain ⟨n, rfl⟩ := th_ex n
  obtain ⟨hp, h⟩ := h
  have hp := hp.out
  refine ⟨noAnn, noAnn, 20, ?_⟩
  cbv
  repeat' first | ((with_reducible refine fun (k : Nat) => ?_); cbv) | ((with_reducible refine fun (q : Nat × Unit) => ?_); obtain ⟨s, _⟩ := q; cbv) | ((with_reducible refine fun (q : Nat × Nat) => ?_); obtain ⟨s, k⟩ := q; cbv) | ((with_reducible intro _); cbv) | ((with_reducible show _ ∧ _); (with_reducible apply And.intro))
  all_goals first | refine muK h ?_ ?_ | (with_reducible refine Ob.mk ?_; clear h) | (clear h)
  all_goals (try simp only [eta0, RT.bytes] at *)
  all_goals first | rfl | grind [endS, endC, endW, endP, endI, endR, fitX, markC, markS]
end Go.Proofs.YtjgijoageljjgaaGreat
