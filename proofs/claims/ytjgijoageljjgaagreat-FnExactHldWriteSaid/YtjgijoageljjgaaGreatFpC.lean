/-
  Contracts: how much came in: whatever comes of it; and by the lengths alone.
-/
import Derived.Test.YtjgijoageljjgaaGreatFoU
set_option linter.unusedVariables false
set_option linter.unusedSimpArgs false
namespace Go.Mo
open Go.Sx
/-- So much is left behind n, or none is. -/
def szN (n : Nat) (left : Int) : Int := if (n : Int) ≤ left then left - n else -1
def usumL : List (List Unit) → Nat
  | [] => 0
  | l :: r => l.length + usumL r
def sumTo (l : List (List Unit)) (k : Nat) : Nat := usumL (l.take k)
theorem sumTo_zero (l : List (List Unit)) : sumTo l 0 = 0 := rfl
theorem usumL_append (a b : List (List Unit)) : usumL (a ++ b) = usumL a + usumL b := by
  induction a with
  | nil => simp [usumL]
  | cons x a ih => simp only [List.cons_append, usumL, ih]; omega
theorem sumTo_succ {l : List (List Unit)} {k : Nat} (h : k < l.length) : sumTo l (k + 1) = sumTo l k + (nth .longs l k).length := by
  unfold sumTo
  rw [take_snoc .longs l k h, usumL_append]
  simp [usumL]
theorem sumTo_le (l : List (List Unit)) (k : Nat) : sumTo l k ≤ usumL l := by
  have := congrArg usumL (List.take_append_drop k l)
  rw [usumL_append] at this
  unfold sumTo
  omega
theorem sumTo_all {l : List (List Unit)} {k : Nat} (h : k = l.length) : sumTo l k = usumL l := by
  subst h
  simp [sumTo]
def cntC (c : LCll) : Nat := c.wlks.length + (c.outs.length + usumL c.outs) + c.next.length + c.ins.length
def cntS (s : LSto) : Nat := cntC s.base + s.recs.length
end Go.Mo
namespace Go.Proofs.YtjgijoageljjgaaGreat
open Go.Sx Go.Proofs Go.Mo
set_option maxRecDepth 100000
set_option maxHeartbeats 8000000
set_option linter.unusedSimpArgs false
set_option linter.unusedVariables false

noncomputable def sSzA (p : PT) : Sx.Spec := ⟨false, true, [p, .int .i64], [], fun _ _ _ => .all Int fun r => .ret (vI fun _ => r, fun _ => 0)⟩
noncomputable def sSzL : Sx.Spec := ⟨false, true, [.list .long, .int .i64], [], fun _ _ ⟨l, n, _⟩ => .asrt (fun _ => 0 ≤ n () ∧ n () ≤ 1048576) (.ret (vI fun _ => szN (l ()).length (n ()), fun _ => 0))⟩
noncomputable def sSzLs : Sx.Spec := ⟨false, true, [.list .longs, .int .i64], [], fun _ _ ⟨l, n, _⟩ => .asrt (fun _ => 0 ≤ n () ∧ n () ≤ 1048576) (.ret (vI fun _ => szN ((l ()).length + usumL (l ())) (n ()), fun _ => 0))⟩
noncomputable def sSzC : Sx.Spec := ⟨false, true, [.row .lcll, .int .i64], [], fun _ _ ⟨l, n, _⟩ => .asrt (fun _ => 0 ≤ n () ∧ n () ≤ 1048576) (.ret (vI fun _ => szN (cntC (l ())) (n ()), fun _ => 0))⟩
noncomputable def sSzS : Sx.Spec := ⟨false, true, [.row .lsto, .int .i64], [], fun _ _ ⟨l, n, _⟩ => .asrt (fun _ => 0 ≤ n () ∧ n () ≤ 1048576) (.ret (vI fun _ => szN (cntS (l ())) (n ()), fun _ => 0))⟩
noncomputable def sSzH : Sx.Spec := ⟨false, true, [.row .lhld, .int .i64], [], fun _ _ ⟨l, n, _⟩ => .asrt (fun _ => 0 ≤ n () ∧ n () ≤ 1048576) (.ret (vI fun _ => szN (cntC (l ()).state) (n ()), fun _ => 0))⟩

theorem okSzW : SpecOk1 Tryz.prog 53 (sSzA (.list .wlk)) := spec1 tabOk (ss := []) trivial rfl rfl <| by
  intro (bs : Th (List Int)) (p : Th Int) ⟨(l : Th (List Wlk)), (n : Th Int), u⟩ K _ _ ho h
  obtain ⟨l, rfl⟩ := th_ex l; obtain ⟨n, rfl⟩ := th_ex n
  refine ⟨noAnn, noAnn, 20, ?_⟩
  cbv
  repeat' first | ((with_reducible refine fun (k : Nat) => ?_); cbv) | ((with_reducible refine fun (q : Nat × Unit) => ?_); obtain ⟨s, _⟩ := q; cbv) | ((with_reducible refine fun (q : Nat × Nat) => ?_); obtain ⟨s, k⟩ := q; cbv) | ((with_reducible intro _); cbv) | ((with_reducible show _ ∧ _); (with_reducible apply And.intro))
  all_goals exact retK (h _) rfl
theorem okSzWl : SpecOk1 Tryz.prog 53 sSzL := spec1 tabOk (ss := []) trivial rfl rfl <| by
  intro (bs : Th (List Int)) (p : Th Int) ⟨(l : Th (List Unit)), (n : Th Int), u⟩ K _ _ ho h
  obtain ⟨l, rfl⟩ := th_ex l; obtain ⟨n, rfl⟩ := th_ex n
  have hl := okN (ho.1 _ (.head _))
  obtain ⟨ha, h⟩ := h
  have ha := ha.out
  refine ⟨noAnn, noAnn, 20, ?_⟩
  cbv
  repeat' first | ((with_reducible refine fun (k : Nat) => ?_); cbv) | ((with_reducible refine fun (q : Nat × Unit) => ?_); obtain ⟨s, _⟩ := q; cbv) | ((with_reducible refine fun (q : Nat × Nat) => ?_); obtain ⟨s, k⟩ := q; cbv) | ((with_reducible intro _); cbv) | ((with_reducible show _ ∧ _); (with_reducible apply And.intro))
  all_goals first | (refine retK h ?_; clear h; simp only [fin0]) | (with_reducible refine Ob.mk ?_; clear h) | (clear h)
  all_goals (try simp only [eta0, RT.bytes] at *)
  all_goals grind [szN, wrap_id]

theorem okSzI : SpecOk1 Tryz.prog 55 (sSzA (.list .int)) := spec1 tabOk (ss := []) trivial rfl rfl <| by
  intro (bs : Th (List Int)) (p : Th Int) ⟨(l : Th (List Int)), (n : Th Int), u⟩ K _ _ ho h
  obtain ⟨l, rfl⟩ := th_ex l; obtain ⟨n, rfl⟩ := th_ex n
  refine ⟨noAnn, noAnn, 20, ?_⟩
  cbv
  repeat' first | ((with_reducible refine fun (k : Nat) => ?_); cbv) | ((with_reducible refine fun (q : Nat × Unit) => ?_); obtain ⟨s, _⟩ := q; cbv) | ((with_reducible refine fun (q : Nat × Nat) => ?_); obtain ⟨s, k⟩ := q; cbv) | ((with_reducible intro _); cbv) | ((with_reducible show _ ∧ _); (with_reducible apply And.intro))
  all_goals exact retK (h _) rfl
theorem okSzIl : SpecOk1 Tryz.prog 55 sSzL := spec1 tabOk (ss := []) trivial rfl rfl <| by
  intro (bs : Th (List Int)) (p : Th Int) ⟨(l : Th (List Unit)), (n : Th Int), u⟩ K _ _ ho h
  obtain ⟨l, rfl⟩ := th_ex l; obtain ⟨n, rfl⟩ := th_ex n
  have hl := okN (ho.1 _ (.head _))
  obtain ⟨ha, h⟩ := h
  have ha := ha.out
  refine ⟨noAnn, noAnn, 20, ?_⟩
  cbv
  repeat' first | ((with_reducible refine fun (k : Nat) => ?_); cbv) | ((with_reducible refine fun (q : Nat × Unit) => ?_); obtain ⟨s, _⟩ := q; cbv) | ((with_reducible refine fun (q : Nat × Nat) => ?_); obtain ⟨s, k⟩ := q; cbv) | ((with_reducible intro _); cbv) | ((with_reducible show _ ∧ _); (with_reducible apply And.intro))
  all_goals first | (refine retK h ?_; clear h; simp only [fin0]) | (with_reducible refine Ob.mk ?_; clear h) | (clear h)
  all_goals (try simp only [eta0, RT.bytes] at *)
  all_goals grind [szN, wrap_id]

theorem okSzR : SpecOk1 Tryz.prog 25 (sSzA (.list .rcd)) := spec1 tabOk (ss := []) trivial rfl rfl <| by
  intro (bs : Th (List Int)) (p : Th Int) ⟨(l : Th (List Sx.Rec)), (n : Th Int), u⟩ K _ _ ho h
  obtain ⟨l, rfl⟩ := th_ex l; obtain ⟨n, rfl⟩ := th_ex n
  refine ⟨noAnn, noAnn, 20, ?_⟩
  cbv
  repeat' first | ((with_reducible refine fun (k : Nat) => ?_); cbv) | ((with_reducible refine fun (q : Nat × Unit) => ?_); obtain ⟨s, _⟩ := q; cbv) | ((with_reducible refine fun (q : Nat × Nat) => ?_); obtain ⟨s, k⟩ := q; cbv) | ((with_reducible intro _); cbv) | ((with_reducible show _ ∧ _); (with_reducible apply And.intro))
  all_goals exact retK (h _) rfl
theorem okSzRl : SpecOk1 Tryz.prog 25 sSzL := spec1 tabOk (ss := []) trivial rfl rfl <| by
  intro (bs : Th (List Int)) (p : Th Int) ⟨(l : Th (List Unit)), (n : Th Int), u⟩ K _ _ ho h
  obtain ⟨l, rfl⟩ := th_ex l; obtain ⟨n, rfl⟩ := th_ex n
  have hl := okN (ho.1 _ (.head _))
  obtain ⟨ha, h⟩ := h
  have ha := ha.out
  refine ⟨noAnn, noAnn, 20, ?_⟩
  cbv
  repeat' first | ((with_reducible refine fun (k : Nat) => ?_); cbv) | ((with_reducible refine fun (q : Nat × Unit) => ?_); obtain ⟨s, _⟩ := q; cbv) | ((with_reducible refine fun (q : Nat × Nat) => ?_); obtain ⟨s, k⟩ := q; cbv) | ((with_reducible intro _); cbv) | ((with_reducible show _ ∧ _); (with_reducible apply And.intro))
  all_goals first | (refine retK h ?_; clear h; simp only [fin0]) | (with_reducible refine Ob.mk ?_; clear h) | (clear h)
  all_goals (try simp only [eta0, RT.bytes] at *)
  all_goals grind [szN, wrap_id]

theorem okSzP : SpecOk1 Tryz.prog 97 (sSzA (.list .pcl)) := spec1 tabOk (ss := []) trivial rfl rfl <| by
  intro (bs : Th (List Int)) (p : Th Int) ⟨(l : Th (List Pcl)), (n : Th Int), u⟩ K _ _ ho h
  obtain ⟨l, rfl⟩ := th_ex l; obtain ⟨n, rfl⟩ := th_ex n
  refine ⟨noAnn, noAnn, 20, ?_⟩
  cbv
  repeat' first | ((with_reducible refine fun (k : Nat) => ?_); cbv) | ((with_reducible refine fun (q : Nat × Unit) => ?_); obtain ⟨s, _⟩ := q; cbv) | ((with_reducible refine fun (q : Nat × Nat) => ?_); obtain ⟨s, k⟩ := q; cbv) | ((with_reducible intro _); cbv) | ((with_reducible show _ ∧ _); (with_reducible apply And.intro))
  all_goals exact retK (h _) rfl
theorem okSzPl : SpecOk1 Tryz.prog 97 sSzL := spec1 tabOk (ss := []) trivial rfl rfl <| by
  intro (bs : Th (List Int)) (p : Th Int) ⟨(l : Th (List Unit)), (n : Th Int), u⟩ K _ _ ho h
  obtain ⟨l, rfl⟩ := th_ex l; obtain ⟨n, rfl⟩ := th_ex n
  have hl := okN (ho.1 _ (.head _))
  obtain ⟨ha, h⟩ := h
  have ha := ha.out
  refine ⟨noAnn, noAnn, 20, ?_⟩
  cbv
  repeat' first | ((with_reducible refine fun (k : Nat) => ?_); cbv) | ((with_reducible refine fun (q : Nat × Unit) => ?_); obtain ⟨s, _⟩ := q; cbv) | ((with_reducible refine fun (q : Nat × Nat) => ?_); obtain ⟨s, k⟩ := q; cbv) | ((with_reducible intro _); cbv) | ((with_reducible show _ ∧ _); (with_reducible apply And.intro))
  all_goals first | (refine retK h ?_; clear h; simp only [fin0]) | (with_reducible refine Ob.mk ?_; clear h) | (clear h)
  all_goals (try simp only [eta0, RT.bytes] at *)
  all_goals grind [szN, wrap_id]

theorem okSzPs : SpecOk1 Tryz.prog 54 (sSzA (.list .pcls)) := spec1 tabOk (ss := [(97, sSzA (.list .pcl))]) ⟨okSzP, trivial⟩ rfl rfl <| by
  intro (bs : Th (List Int)) (p : Th Int) ⟨(l : Th (List (List Pcl))), (n : Th Int), u⟩ K _ _ ho h
  obtain ⟨l, rfl⟩ := th_ex l; obtain ⟨n, rfl⟩ := th_ex n
  have hl := okL (ho.1 _ (.head _))
  obtain ⟨Z, hZ⟩ : ∃ Z : Int, Z = IntKind.i64.wrap (n - l.length) := ⟨_, rfl⟩
  refine ⟨annL [(54, 5, ⟨Nat × Int, [], fun σ q => (σ.t 5 (vI fun _ => (q.1 : Int))).t 1 (vI fun _ => q.2), fun _ q _ => q.1 ≤ l.length, fun _ q _ => l.length - q.1⟩)], noAnn, 20, ?_⟩
  cbv
  repeat' first | ((with_reducible refine fun (k : Nat) => ?_); cbv) | ((with_reducible refine fun (g : Nat × Int) => ?_); obtain ⟨k, r⟩ := g; cbv) | ((with_reducible intro _); cbv) | ((with_reducible show _ ∧ _); (with_reducible apply And.intro))
  all_goals try ((first | (with_reducible refine LoopIn.mk (((0 : Nat), Z)) ?_ ?_) | (with_reducible refine LoopBack.mk ((k + 1, (by assumption : Int))) ?_ ?_ ?_)) )
  all_goals try ((with_reducible show matchSt _ _); cbv; (try simp only [and_true, true_and]))
  all_goals try (with_reducible show _ ∧ _; (repeat' (with_reducible apply And.intro)))
  all_goals first | exact retK (h _) rfl | (with_reducible refine Ob.mk ?_; clear h) | (clear h)
  all_goals grind [wrap_succ]
theorem okSzPsl : SpecOk1 Tryz.prog 54 sSzLs := spec1 tabOk (ss := [(97, sSzL)]) ⟨okSzPl, trivial⟩ rfl rfl <| by
  intro (bs : Th (List Int)) (p : Th Int) ⟨(l : Th (List (List Unit))), (n : Th Int), u⟩ K _ _ ho h
  obtain ⟨l, rfl⟩ := th_ex l; obtain ⟨n, rfl⟩ := th_ex n
  have hl := okN (ho.1 _ (.head _))
  obtain ⟨ha, h⟩ := h
  have ha := ha.out
  have hle : ∀ k, k < l.length → sumTo l k + (nth .longs l k).length ≤ usumL l := fun k hk => by
    rw [← sumTo_succ hk]
    exact sumTo_le l _
  obtain ⟨Z, hZ⟩ : ∃ Z : Int, Z = n - l.length := ⟨_, rfl⟩
  obtain ⟨S, hS⟩ : ∃ S : Nat → Int → Int, ∀ k r, S k r = r - (nth .longs l k).length := ⟨fun k r => r - (nth .longs l k).length, fun _ _ => rfl⟩
  refine ⟨annL [(54, 5, ⟨Nat × Int, [], fun σ q => (σ.t 5 (vI fun _ => (q.1 : Int))).t 1 (vI fun _ => q.2), fun _ q _ => q.1 ≤ l.length ∧ 0 ≤ q.2 ∧ q.2 + l.length + sumTo l q.1 = n, fun _ q _ => l.length - q.1⟩)], noAnn, 20, ?_⟩
  cbv
  repeat' first | ((with_reducible refine fun (k : Nat) => ?_); cbv) | ((with_reducible refine fun (g : Nat × Int) => ?_); obtain ⟨k, r⟩ := g; cbv) | ((with_reducible intro _); cbv) | ((with_reducible show _ ∧ _); (with_reducible apply And.intro))
  all_goals try ((first | (with_reducible refine LoopIn.mk (((0 : Nat), Z)) ?_ ?_) | (with_reducible refine LoopBack.mk ((k + 1, S k r)) ?_ ?_ ?_)) )
  all_goals try ((with_reducible show matchSt _ _); cbv; (try simp only [and_true, true_and]))
  all_goals try (with_reducible show _ ∧ _; (repeat' (with_reducible apply And.intro)))
  all_goals first | (refine retK h ?_; clear h; simp only [fin0]) | (with_reducible refine Ob.mk ?_; clear h) | (clear h)
  all_goals (try simp only [eta0, RT.bytes] at *)
  all_goals grind [szN, wrap_id, wrap_succ, sumTo_zero, sumTo_succ, sumTo_all]
theorem okSzC : SpecOk1 Tryz.prog 17 (sSzA (.row .cll)) := spec1 tabOk (ss := [(53, sSzA (.list .wlk)), (54, sSzA (.list .pcls)), (55, sSzA (.list .int))]) ⟨okSzW, okSzPs, okSzI, trivial⟩ rfl rfl <| by
  intro (bs : Th (List Int)) (p : Th Int) ⟨(c : Th Cll), (n : Th Int), u⟩ K _ _ ho h
  obtain ⟨c, rfl⟩ := th_ex c; obtain ⟨n, rfl⟩ := th_ex n
  refine ⟨noAnn, noAnn, 20, ?_⟩
  cbv
  repeat' first | ((with_reducible refine fun (k : Nat) => ?_); cbv) | ((with_reducible refine fun (q : Nat × Unit) => ?_); obtain ⟨s, _⟩ := q; cbv) | ((with_reducible refine fun (q : Nat × Nat) => ?_); obtain ⟨s, k⟩ := q; cbv) | ((with_reducible intro _); cbv) | ((with_reducible show _ ∧ _); (with_reducible apply And.intro))
  all_goals exact retK (h _) rfl
theorem okSzCl : SpecOk1 Tryz.prog 17 sSzC := spec1 tabOk (ss := [(53, sSzL), (54, sSzLs), (55, sSzL)]) ⟨okSzWl, okSzPsl, okSzIl, trivial⟩ rfl rfl <| by
  intro (bs : Th (List Int)) (p : Th Int) ⟨(c : Th LCll), (n : Th Int), u⟩ K _ _ ho h
  obtain ⟨c, rfl⟩ := th_ex c; obtain ⟨n, rfl⟩ := th_ex n
  obtain ⟨ha, h⟩ := h
  have ha := ha.out
  refine ⟨noAnn, noAnn, 20, ?_⟩
  cbv
  repeat' first | ((with_reducible refine fun (k : Nat) => ?_); cbv) | ((with_reducible refine fun (q : Nat × Unit) => ?_); obtain ⟨s, _⟩ := q; cbv) | ((with_reducible refine fun (q : Nat × Nat) => ?_); obtain ⟨s, k⟩ := q; cbv) | ((with_reducible intro _); cbv) | ((with_reducible show _ ∧ _); (with_reducible apply And.intro))
  all_goals first | (refine retK h ?_; clear h; simp only [fin0]) | (with_reducible refine Ob.mk ?_; clear h) | (clear h)
  all_goals (try simp only [eta0, RT.bytes] at *)
  all_goals grind [szN, cntC]
theorem okSzS : SpecOk1 Tryz.prog 11 (sSzA (.row .sto)) := spec1 tabOk (ss := [(17, sSzA (.row .cll)), (25, sSzA (.list .rcd))]) ⟨okSzC, okSzR, trivial⟩ rfl rfl <| by
  intro (bs : Th (List Int)) (p : Th Int) ⟨(c : Th Sto), (n : Th Int), u⟩ K _ _ ho h
  obtain ⟨c, rfl⟩ := th_ex c; obtain ⟨n, rfl⟩ := th_ex n
  refine ⟨noAnn, noAnn, 20, ?_⟩
  cbv
  repeat' first | ((with_reducible refine fun (k : Nat) => ?_); cbv) | ((with_reducible refine fun (q : Nat × Unit) => ?_); obtain ⟨s, _⟩ := q; cbv) | ((with_reducible refine fun (q : Nat × Nat) => ?_); obtain ⟨s, k⟩ := q; cbv) | ((with_reducible intro _); cbv) | ((with_reducible show _ ∧ _); (with_reducible apply And.intro))
  all_goals exact retK (h _) rfl
theorem okSzSl : SpecOk1 Tryz.prog 11 sSzS := spec1 tabOk (ss := [(17, sSzC), (25, sSzL)]) ⟨okSzCl, okSzRl, trivial⟩ rfl rfl <| by
  intro (bs : Th (List Int)) (p : Th Int) ⟨(c : Th LSto), (n : Th Int), u⟩ K _ _ ho h
  obtain ⟨c, rfl⟩ := th_ex c; obtain ⟨n, rfl⟩ := th_ex n
  obtain ⟨ha, h⟩ := h
  have ha := ha.out
  refine ⟨noAnn, noAnn, 20, ?_⟩
  cbv
  repeat' first | ((with_reducible refine fun (k : Nat) => ?_); cbv) | ((with_reducible refine fun (q : Nat × Unit) => ?_); obtain ⟨s, _⟩ := q; cbv) | ((with_reducible refine fun (q : Nat × Nat) => ?_); obtain ⟨s, k⟩ := q; cbv) | ((with_reducible intro _); cbv) | ((with_reducible show _ ∧ _); (with_reducible apply And.intro))
  all_goals first | (refine retK h ?_; clear h; simp only [fin0]) | (with_reducible refine Ob.mk ?_; clear h) | (clear h)
  all_goals (try simp only [eta0, RT.bytes] at *)
  all_goals grind [szN, cntS, cntC]
theorem okSzH : SpecOk1 Tryz.prog 44 (sSzA (.row .hld)) := spec1 tabOk (ss := [(17, sSzA (.row .cll))]) ⟨okSzC, trivial⟩ rfl rfl <| by
  intro (bs : Th (List Int)) (p : Th Int) ⟨(c : Th Hld), (n : Th Int), u⟩ K _ _ ho h
  obtain ⟨c, rfl⟩ := th_ex c; obtain ⟨n, rfl⟩ := th_ex n
  refine ⟨noAnn, noAnn, 20, ?_⟩
  cbv
  repeat' first | ((with_reducible refine fun (k : Nat) => ?_); cbv) | ((with_reducible refine fun (q : Nat × Unit) => ?_); obtain ⟨s, _⟩ := q; cbv) | ((with_reducible refine fun (q : Nat × Nat) => ?_); obtain ⟨s, k⟩ := q; cbv) | ((with_reducible intro _); cbv) | ((with_reducible show _ ∧ _); (with_reducible apply And.intro))
  all_goals exact retK (h _) rfl
theorem okSzHl : SpecOk1 Tryz.prog 44 sSzH := spec1 tabOk (ss := [(17, sSzC)]) ⟨okSzCl, trivial⟩ rfl rfl <| by
  intro (bs : Th (List Int)) (p : Th Int) ⟨(c : Th LHld), (n : Th Int), u⟩ K _ _ ho h
  obtain ⟨c, rfl⟩ := th_ex c; obtain ⟨n, rfl⟩ := th_ex n
  obtain ⟨ha, h⟩ := h
  have ha := ha.out
  refine ⟨noAnn, noAnn, 20, ?_⟩
  cbv
  repeat' first | ((with_reducible refine fun (k : Nat) => ?_); cbv) | ((with_reducible refine fun (q : Nat × Unit) => ?_); obtain ⟨s, _⟩ := q; cbv) | ((with_reducible refine fun (q : Nat × Nat) => ?_); obtain ⟨s, k⟩ := q; cbv) | ((with_reducible intro _); cbv) | ((with_reducible show _ ∧ _); (with_reducible apply And.intro))
  all_goals first | (refine retK h ?_; clear h; simp only [fin0]) | (with_reducible refine Ob.mk ?_; clear h) | (clear h)
  all_goals (try simp only [eta0, RT.bytes] at *)
  all_goals grind [szN, cntC]

end Go.Proofs.YtjgijoageljjgaaGreat
