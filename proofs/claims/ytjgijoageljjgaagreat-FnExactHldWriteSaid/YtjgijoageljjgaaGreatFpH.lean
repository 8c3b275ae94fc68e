/-
  Contracts: are marks still there?
-/
import Derived.Test.YtjgijoageljjgaaGreatFoU
set_option linter.unusedVariables false
set_option linter.unusedSimpArgs false
namespace Go.Mo
open Go.Sx
def wAt (k : Int) : Wlk := ⟨k, k + 1, k + 2, k + 3, k + 4⟩
def pAt (k : Int) : Pcl := ⟨k, k + 1, ⟨k + 2, k + 3, k + 4, k + 5, k + 6⟩, k + 7⟩
def iAt (k : Int) : Int := k
def rAt (k : Int) : Sx.Rec := ⟨k, ⟨k + 1, k + 2, k + 3, k + 4, k + 5⟩, k + 6, ⟨k + 7, k + 8, ⟨k + 9, k + 10, k + 11, k + 12, k + 13⟩, k + 14⟩, k + 15⟩
/-- The first i elements are marked, from k on, n marks each. -/
def mkd (t : RT) (n : Int) (f : Int → t.ty) (k : Int) (l : List t.ty) (i : Nat) : Prop := ∀ j : Nat, j < i → nth t l j = f (k + n * (j : Int))
theorem mkd_zero (t : RT) (n : Int) (f : Int → t.ty) (k : Int) (l : List t.ty) : mkd t n f k l 0 := fun j h => by omega
theorem mkd_at {t : RT} {n : Int} {f : Int → t.ty} {k : Int} {l : List t.ty} {i : Nat} (j : Nat) (h : mkd t n f k l i) (hj : j < i) : nth t l j = f (k + n * (j : Int)) := h j hj
def pcnt : List (List Pcl) → Nat
  | [] => 0
  | l :: r => l.length + pcnt r
def pcTo (l : List (List Pcl)) (k : Nat) : Nat := pcnt (l.take k)
theorem pcTo_zero (l : List (List Pcl)) : pcTo l 0 = 0 := rfl
theorem pcnt_append (a b : List (List Pcl)) : pcnt (a ++ b) = pcnt a + pcnt b := by
  induction a with
  | nil => simp [pcnt]
  | cons x a ih => simp only [List.cons_append, pcnt, ih]; omega
theorem pcTo_succ {l : List (List Pcl)} {k : Nat} (h : k < l.length) : pcTo l (k + 1) = pcTo l k + (nth .pcls l k).length := by
  unfold pcTo
  rw [take_snoc .pcls l k h, pcnt_append]
  simp [pcnt]
theorem pcTo_le (l : List (List Pcl)) (k : Nat) : pcTo l k ≤ pcnt l := by
  have := congrArg pcnt (List.take_append_drop k l)
  rw [pcnt_append] at this
  unfold pcTo
  omega
theorem pcTo_in {l : List (List Pcl)} {k : Nat} (h : k < l.length) : pcTo l k + (nth .pcls l k).length ≤ pcnt l := by
  rw [← pcTo_succ h]
  exact pcTo_le l _
theorem pcTo_all {l : List (List Pcl)} {k : Nat} (h : k = l.length) : pcTo l k = pcnt l := by
  subst h
  simp [pcTo]
theorem pcnt_bound {n : Nat} : ∀ {l : List (List Pcl)}, (∀ x ∈ l, x.length ≤ n) → pcnt l ≤ n * l.length
  | [], _ => by simp [pcnt]
  | x :: l, h => by
    have h1 := h x (.head _)
    have h2 := pcnt_bound (l := l) fun y hy => h y (.tail _ hy)
    simp only [pcnt, List.length_cons, Nat.mul_add, Nat.mul_one]
    omega
/-- The first n rows are marked. -/
def mkdP (k : Int) (l : List (List Pcl)) (n : Nat) : Prop := ∀ j : Nat, j < n → mkd .pcl 8 pAt (k + 8 * (pcTo l j : Int)) (nth .pcls l j) (nth .pcls l j).length
theorem mkdP_zero (k : Int) (l : List (List Pcl)) : mkdP k l 0 := fun j h => by omega
theorem mkdP_at {k : Int} {l : List (List Pcl)} {n : Nat} (j : Nat) (h : mkdP k l n) (hj : j < n) : mkd .pcl 8 pAt (k + 8 * (pcTo l j : Int)) (nth .pcls l j) (nth .pcls l j).length := h j hj
/-- No list is so long that marks run over. -/
structure fitX (c : Cll) : Prop where
  w : c.wlks.length ≤ 4194304
  o : c.outs.length ≤ 4194304
  p : pcnt c.outs ≤ 17592186044416
  n : c.next.length ≤ 4194304
  i : c.ins.length ≤ 4194304
def endW (k : Int) (l : List Wlk) : Int := k + 5 * (l.length : Int)
def endP (k : Int) (l : List (List Pcl)) : Int := k + 8 * (pcnt l : Int)
def endI (k : Int) (l : List Int) : Int := k + l.length
def endR (k : Int) (l : List Sx.Rec) : Int := k + 16 * (l.length : Int)
def endC (k : Int) (c : Cll) : Int := endI (endI (endP (endW k c.wlks) c.outs) c.next) c.ins
def endS (k : Int) (s : Sto) : Int := endR (endC k s.base) s.recs
def mkdW (k : Int) (l : List Wlk) : Prop := mkd .wlk 5 wAt k l l.length
def mkdI (k : Int) (l : List Int) : Prop := mkd .int 1 iAt k l l.length
def mkdR (k : Int) (l : List Sx.Rec) : Prop := mkd .rcd 16 rAt k l l.length
def mkdQ (k : Int) (l : List (List Pcl)) : Prop := mkdP k l l.length
theorem mkdW_at {k : Int} {l : List Wlk} (h : mkdW k l) {j : Nat} (hj : j < l.length) : nth .wlk l j = wAt (k + 5 * (j : Int)) := h j hj
theorem mkdI_at {k : Int} {l : List Int} (h : mkdI k l) {j : Nat} (hj : j < l.length) : nth .int l j = k + (j : Int) := by
  have := h j hj
  simpa [iAt] using this
theorem mkdR_at {k : Int} {l : List Sx.Rec} (h : mkdR k l) {j : Nat} (hj : j < l.length) : nth .rcd l j = rAt (k + 16 * (j : Int)) := h j hj
theorem mkdP_al {k : Int} {l : List Pcl} (h : mkd .pcl 8 pAt k l l.length) {j : Nat} (hj : j < l.length) : nth .pcl l j = pAt (k + 8 * (j : Int)) := h j hj
theorem mkdQ_at {k : Int} {l : List (List Pcl)} (h : mkdQ k l) {j : Nat} (hj : j < l.length) : mkd .pcl 8 pAt (k + 8 * (pcTo l j : Int)) (nth .pcls l j) (nth .pcls l j).length := h j hj
structure mkdC (k : Int) (c : Cll) : Prop where
  w : mkdW k c.wlks
  p : mkdQ (endW k c.wlks) c.outs
  n : mkdI (endP (endW k c.wlks) c.outs) c.next
  i : mkdI (endI (endP (endW k c.wlks) c.outs) c.next) c.ins
structure mkdS (k : Int) (s : Sto) : Prop where
  b : mkdC k s.base
  r : mkdR (endC k s.base) s.recs
theorem pcTo_both (l : List (List Pcl)) (k : Nat) : pcTo l k ≤ pcnt l ∧ (k < l.length → pcTo l k + (nth .pcls l k).length ≤ pcnt l) := ⟨pcTo_le l k, fun h => pcTo_in h⟩
end Go.Mo
namespace Go.Proofs.YtjgijoageljjgaaGreat
open Go.Sx Go.Proofs Go.Mo
set_option maxRecDepth 100000
set_option maxHeartbeats 8000000
set_option linter.unusedSimpArgs false
set_option linter.unusedVariables false
attribute [local grind! .] pcTo_both
attribute [local grind] mkdW mkdI mkdR mkd mkdP mkdQ iAt

noncomputable def sHdW : Sx.Spec := ⟨false, true, [.list .wlk, .int .i64], [], fun _ _ ⟨l, k, _⟩ => .asrt (fun _ => 0 ≤ k () ∧ k () ≤ 1152921504606846976 ∧ (l ()).length ≤ 4194304) (.all Int fun r => .asm (fun _ => (r = -1 ∨ r = endW (k ()) (l ())) ∧ (mkdW (k ()) (l ()) → ¬ r = -1)) (.ret (vI fun _ => r, fun _ => 0)))⟩
noncomputable def sHdI : Sx.Spec := ⟨false, true, [.list .int, .int .i64], [], fun _ _ ⟨l, k, _⟩ => .asrt (fun _ => 0 ≤ k () ∧ k () ≤ 1152921504606846976 ∧ (l ()).length ≤ 4194304) (.all Int fun r => .asm (fun _ => (r = -1 ∨ r = endI (k ()) (l ())) ∧ (mkdI (k ()) (l ()) → ¬ r = -1)) (.ret (vI fun _ => r, fun _ => 0)))⟩
noncomputable def sHdP : Sx.Spec := ⟨false, true, [.list .pcl, .int .i64], [], fun _ _ ⟨l, k, _⟩ => .asrt (fun _ => 0 ≤ k () ∧ k () ≤ 2305843009213693952 ∧ (l ()).length ≤ 17592186044416) (.all Int fun r => .asm (fun _ => (r = -1 ∨ r = k () + 8 * ((l ()).length : Int)) ∧ (mkd .pcl 8 pAt (k ()) (l ()) (l ()).length → ¬ r = -1)) (.ret (vI fun _ => r, fun _ => 0)))⟩
noncomputable def sHdR : Sx.Spec := ⟨false, true, [.list .rcd, .int .i64], [], fun _ _ ⟨l, k, _⟩ => .asrt (fun _ => 0 ≤ k () ∧ k () ≤ 1152921504606846976 ∧ (l ()).length ≤ 4194304) (.all Int fun r => .asm (fun _ => (r = -1 ∨ r = endR (k ()) (l ())) ∧ (mkdR (k ()) (l ()) → ¬ r = -1)) (.ret (vI fun _ => r, fun _ => 0)))⟩
noncomputable def sHdQ : Sx.Spec := ⟨false, true, [.list .pcls, .int .i64], [], fun _ _ ⟨l, k, _⟩ => .asrt (fun _ => 0 ≤ k () ∧ k () ≤ 1152921504606846976 ∧ (l ()).length ≤ 4194304 ∧ pcnt (l ()) ≤ 17592186044416) (.all Int fun r => .asm (fun _ => (r = -1 ∨ r = endP (k ()) (l ())) ∧ (mkdQ (k ()) (l ()) → ¬ r = -1)) (.ret (vI fun _ => r, fun _ => 0)))⟩
noncomputable def sHdC : Sx.Spec := ⟨false, true, [.row .cll, .int .i64], [], fun _ _ ⟨c, k, _⟩ => .asrt (fun _ => 0 ≤ k () ∧ k () ≤ 576460752303423488 ∧ fitX (c ())) (.all Int fun r => .asm (fun _ => (r = -1 ∨ r = endC (k ()) (c ())) ∧ (mkdC (k ()) (c ()) → ¬ r = -1)) (.ret (vI fun _ => r, fun _ => 0)))⟩
noncomputable def sHdH : Sx.Spec := ⟨false, true, [.row .hld, .int .i64], [], fun _ _ ⟨c, k, _⟩ => .asrt (fun _ => 0 ≤ k () ∧ k () ≤ 576460752303423488 ∧ fitX (c ()).state) (.all Int fun r => .asm (fun _ => (r = -1 ∨ r = endC (k ()) (c ()).state) ∧ (mkdC (k ()) (c ()).state → ¬ r = -1)) (.ret (vI fun _ => r, fun _ => 0)))⟩
noncomputable def sHdS : Sx.Spec := ⟨false, true, [.row .sto, .int .i64], [], fun _ _ ⟨c, k, _⟩ => .asrt (fun _ => 0 ≤ k () ∧ k () ≤ 576460752303423488 ∧ fitX (c ()).base ∧ (c ()).recs.length ≤ 4194304) (.all Int fun r => .asm (fun _ => (r = -1 ∨ r = endS (k ()) (c ())) ∧ (mkdS (k ()) (c ()) → ¬ r = -1)) (.ret (vI fun _ => r, fun _ => 0)))⟩

theorem okHdW : SpecOk1 Tryz.prog 72 sHdW := spec1 tabOk (ss := []) trivial rfl rfl <| by
  intro (bs : Th (List Int)) (p : Th Int) ⟨(l : Th (List Wlk)), (n : Th Int), u⟩ K _ _ ho h
  obtain ⟨l, rfl⟩ := th_ex l; obtain ⟨n, rfl⟩ := th_ex n
  obtain ⟨hp, h⟩ := h
  have hp := hp.out
  refine ⟨annL [(72, 2, ⟨Nat, [], fun σ k => (σ.t 5 (vI fun _ => (k : Int))).t 1 (vI fun _ => n + 5 * (k : Int)), fun _ k _ => k ≤ l.length, fun _ k _ => l.length - k⟩)], noAnn, 20, ?_⟩
  cbv
  repeat' first | ((with_reducible refine fun (k : Nat) => ?_); cbv) | ((with_reducible refine fun (q : Nat × Unit) => ?_); obtain ⟨s, _⟩ := q; cbv) | ((with_reducible refine fun (q : Nat × Nat) => ?_); obtain ⟨s, k⟩ := q; cbv) | ((with_reducible intro _); cbv) | ((with_reducible show _ ∧ _); (with_reducible apply And.intro))
  all_goals try ((first | (with_reducible refine LoopIn.mk ((0 : Nat)) ?_ ?_) | (with_reducible refine LoopBack.mk ((k + 1 : Nat)) ?_ ?_ ?_)) )
  all_goals try ((with_reducible show matchSt _ _); cbv; (try simp only [and_true, true_and]))
  all_goals try (with_reducible show _ ∧ _; (repeat' (with_reducible apply And.intro)))
  all_goals first | (refine retK (h _ ?_) rfl; clear h) | (refine retK (h _ ?_) rfl) | (with_reducible refine Ob.mk ?_; clear h) | (clear h)
  all_goals (try simp only [eta0, RT.bytes] at *)
  all_goals grind [wrap_id, endW, wAt]
theorem okHdI : SpecOk1 Tryz.prog 74 sHdI := spec1 tabOk (ss := []) trivial rfl rfl <| by
  intro (bs : Th (List Int)) (p : Th Int) ⟨(l : Th (List Int)), (n : Th Int), u⟩ K _ _ ho h
  obtain ⟨l, rfl⟩ := th_ex l; obtain ⟨n, rfl⟩ := th_ex n
  obtain ⟨hp, h⟩ := h
  have hp := hp.out
  refine ⟨annL [(74, 2, ⟨Nat, [], fun σ k => (σ.t 5 (vI fun _ => (k : Int))).t 1 (vI fun _ => n + (k : Int)), fun _ k _ => k ≤ l.length, fun _ k _ => l.length - k⟩)], noAnn, 20, ?_⟩
  cbv
  repeat' first | ((with_reducible refine fun (k : Nat) => ?_); cbv) | ((with_reducible refine fun (q : Nat × Unit) => ?_); obtain ⟨s, _⟩ := q; cbv) | ((with_reducible refine fun (q : Nat × Nat) => ?_); obtain ⟨s, k⟩ := q; cbv) | ((with_reducible intro _); cbv) | ((with_reducible show _ ∧ _); (with_reducible apply And.intro))
  all_goals try ((first | (with_reducible refine LoopIn.mk ((0 : Nat)) ?_ ?_) | (with_reducible refine LoopBack.mk ((k + 1 : Nat)) ?_ ?_ ?_)) )
  all_goals try ((with_reducible show matchSt _ _); cbv; (try simp only [and_true, true_and]))
  all_goals try (with_reducible show _ ∧ _; (repeat' (with_reducible apply And.intro)))
  all_goals first | (refine retK (h _ ?_) rfl; clear h) | (refine retK (h _ ?_) rfl) | (with_reducible refine Ob.mk ?_; clear h) | (clear h)
  all_goals (try simp only [eta0, RT.bytes] at *)
  all_goals grind [wrap_id, endI]
theorem okHdP : SpecOk1 Tryz.prog 119 sHdP := spec1 tabOk (ss := []) trivial rfl rfl <| by
  intro (bs : Th (List Int)) (p : Th Int) ⟨(l : Th (List Pcl)), (n : Th Int), u⟩ K _ _ ho h
  obtain ⟨l, rfl⟩ := th_ex l; obtain ⟨n, rfl⟩ := th_ex n
  obtain ⟨hp, h⟩ := h
  have hp := hp.out
  refine ⟨annL [(119, 2, ⟨Nat, [], fun σ k => (σ.t 5 (vI fun _ => (k : Int))).t 1 (vI fun _ => n + 8 * (k : Int)), fun _ k _ => k ≤ l.length, fun _ k _ => l.length - k⟩)], noAnn, 20, ?_⟩
  cbv
  repeat' first | ((with_reducible refine fun (k : Nat) => ?_); cbv) | ((with_reducible refine fun (q : Nat × Unit) => ?_); obtain ⟨s, _⟩ := q; cbv) | ((with_reducible refine fun (q : Nat × Nat) => ?_); obtain ⟨s, k⟩ := q; cbv) | ((with_reducible intro _); cbv) | ((with_reducible show _ ∧ _); (with_reducible apply And.intro))
  all_goals try ((first | (with_reducible refine LoopIn.mk ((0 : Nat)) ?_ ?_) | (with_reducible refine LoopBack.mk ((k + 1 : Nat)) ?_ ?_ ?_)) )
  all_goals try ((with_reducible show matchSt _ _); cbv; (try simp only [and_true, true_and]))
  all_goals try (with_reducible show _ ∧ _; (repeat' (with_reducible apply And.intro)))
  all_goals first | (refine retK (h _ ?_) rfl; clear h) | (refine retK (h _ ?_) rfl) | (with_reducible refine Ob.mk ?_; clear h) | (clear h)
  all_goals (try simp only [eta0, RT.bytes] at *)
  all_goals grind [wrap_id, pAt]
theorem okHdR : SpecOk1 Tryz.prog 80 sHdR := spec1 tabOk (ss := []) trivial rfl rfl <| by
  intro (bs : Th (List Int)) (p : Th Int) ⟨(l : Th (List Sx.Rec)), (n : Th Int), u⟩ K _ _ ho h
  obtain ⟨l, rfl⟩ := th_ex l; obtain ⟨n, rfl⟩ := th_ex n
  obtain ⟨hp, h⟩ := h
  have hp := hp.out
  refine ⟨annL [(80, 2, ⟨Nat, [], fun σ k => (σ.t 5 (vI fun _ => (k : Int))).t 1 (vI fun _ => n + 16 * (k : Int)), fun _ k _ => k ≤ l.length, fun _ k _ => l.length - k⟩)], noAnn, 20, ?_⟩
  cbv
  repeat' first | ((with_reducible refine fun (k : Nat) => ?_); cbv) | ((with_reducible refine fun (q : Nat × Unit) => ?_); obtain ⟨s, _⟩ := q; cbv) | ((with_reducible refine fun (q : Nat × Nat) => ?_); obtain ⟨s, k⟩ := q; cbv) | ((with_reducible intro _); cbv) | ((with_reducible show _ ∧ _); (with_reducible apply And.intro))
  all_goals try ((first | (with_reducible refine LoopIn.mk ((0 : Nat)) ?_ ?_) | (with_reducible refine LoopBack.mk ((k + 1 : Nat)) ?_ ?_ ?_)) )
  all_goals try ((with_reducible show matchSt _ _); cbv; (try simp only [and_true, true_and]))
  all_goals try (with_reducible show _ ∧ _; (repeat' (with_reducible apply And.intro)))
  all_goals first | (refine retK (h _ ?_) rfl; clear h) | (refine retK (h _ ?_) rfl) | (with_reducible refine Ob.mk ?_; clear h) | (clear h)
  all_goals (try simp only [eta0, RT.bytes] at *)
  all_goals grind [wrap_id, endR, rAt]
theorem okHdQ : SpecOk1 Tryz.prog 73 sHdQ := spec1 tabOk (ss := [(119, sHdP)]) ⟨okHdP, trivial⟩ rfl rfl <| by
  intro (bs : Th (List Int)) (p : Th Int) ⟨(l : Th (List (List Pcl))), (n : Th Int), u⟩ K _ _ ho h
  obtain ⟨l, rfl⟩ := th_ex l; obtain ⟨n, rfl⟩ := th_ex n
  obtain ⟨hp, h⟩ := h
  have hp := hp.out
  refine ⟨annL [(73, 2, ⟨Nat, [], fun σ k => (σ.t 5 (vI fun _ => (k : Int))).t 1 (vI fun _ => n + 8 * (pcTo l k : Int)), fun _ k _ => k ≤ l.length, fun _ k _ => l.length - k⟩)], noAnn, 20, ?_⟩
  cbv
  repeat' first | ((with_reducible refine fun (k : Nat) => ?_); cbv) | ((with_reducible refine fun (q : Nat × Unit) => ?_); obtain ⟨s, _⟩ := q; cbv) | ((with_reducible refine fun (q : Nat × Nat) => ?_); obtain ⟨s, k⟩ := q; cbv) | ((with_reducible intro _); cbv) | ((with_reducible show _ ∧ _); (with_reducible apply And.intro))
  all_goals try ((first | (with_reducible refine LoopIn.mk ((0 : Nat)) ?_ ?_) | (with_reducible refine LoopBack.mk ((k + 1 : Nat)) ?_ ?_ ?_)) )
  all_goals try ((with_reducible show matchSt _ _); cbv; (try simp only [and_true, true_and]))
  all_goals try (with_reducible show _ ∧ _; (repeat' (with_reducible apply And.intro)))
  all_goals first | (refine retK (h _ ?_) rfl; clear h) | (refine retK (h _ ?_) rfl) | (with_reducible refine Ob.mk ?_; clear h) | (clear h)
  all_goals (try simp only [eta0, RT.bytes] at *)
  all_goals grind [wrap_id, endP, pcTo_zero, pcTo_succ, pcTo_all]
theorem okHdC : SpecOk1 Tryz.prog 24 sHdC := spec1 tabOk (ss := [(72, sHdW), (73, sHdQ), (74, sHdI)]) ⟨okHdW, okHdQ, okHdI, trivial⟩ rfl rfl <| by
  intro (bs : Th (List Int)) (p : Th Int) ⟨(c : Th Cll), (n : Th Int), u⟩ K _ _ ho h
  obtain ⟨c, rfl⟩ := th_ex c; obtain ⟨n, rfl⟩ := th_ex n
  obtain ⟨hp, h⟩ := h
  have hp := hp.out
  refine ⟨noAnn, noAnn, 20, ?_⟩
  cbv
  repeat' first | ((with_reducible refine fun r => ?_); cbv) | ((with_reducible intro _); cbv) | ((with_reducible show _ ∧ _); (with_reducible apply And.intro))
  all_goals first | (refine retK (h _ ?_) rfl; clear h) | (refine retK (h _ ?_) rfl) | (with_reducible refine Ob.mk ?_; clear h) | (clear h)
  all_goals (try simp only [eta0, RT.bytes] at *)
  all_goals grind [endC, endW, endP, endI, fitX, mkdC]
theorem okHdH : SpecOk1 Tryz.prog 43 sHdH := spec1 tabOk (ss := [(24, sHdC)]) ⟨okHdC, trivial⟩ rfl rfl <| by
  intro (bs : Th (List Int)) (p : Th Int) ⟨(c : Th Hld), (n : Th Int), u⟩ K _ _ ho h
  obtain ⟨c, rfl⟩ := th_ex c; obtain ⟨n, rfl⟩ := th_ex n
  obtain ⟨hp, h⟩ := h
  have hp := hp.out
  refine ⟨noAnn, noAnn, 20, ?_⟩
  cbv
  repeat' first | ((with_reducible refine fun r => ?_); cbv) | ((with_reducible intro _); cbv) | ((with_reducible show _ ∧ _); (with_reducible apply And.intro))
  all_goals first | (refine retK (h _ ?_) rfl; clear h) | (refine retK (h _ ?_) rfl) | (with_reducible refine Ob.mk ?_; clear h) | (clear h)
  all_goals (try simp only [eta0, RT.bytes] at *)
  all_goals grind [endC, endW, endP, endI]
theorem okHdS : SpecOk1 Tryz.prog 36 sHdS := spec1 tabOk (ss := [(24, sHdC), (80, sHdR)]) ⟨okHdC, okHdR, trivial⟩ rfl rfl <| by
  intro (bs : Th (List Int)) (p : Th Int) ⟨(c : Th Sto), (n : Th Int), u⟩ K _ _ ho h
  obtain ⟨c, rfl⟩ := th_ex c; obtain ⟨n, rfl⟩ := th_ex n
  obtain ⟨hp, h⟩ := h
  have hp := hp.out
  refine ⟨noAnn, noAnn, 20, ?_⟩
  cbv
  repeat' first | ((with_reducible refine fun r => ?_); cbv) | ((with_reducible intro _); cbv) | ((with_reducible show _ ∧ _); (with_reducible apply And.intro))
  all_goals first | (refine retK (h _ ?_) rfl; clear h) | (refine retK (h _ ?_) rfl) | (with_reducible refine Ob.mk ?_; clear h) | (clear h)
  all_goals (try simp only [eta0, RT.bytes] at *)
  all_goals grind [endS, endC, endW, endP, endI, endR, fitX, mkdS]

end Go.Proofs.YtjgijoageljjgaaGreat
