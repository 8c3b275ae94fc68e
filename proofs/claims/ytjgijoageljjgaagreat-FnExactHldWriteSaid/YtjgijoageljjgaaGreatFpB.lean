/-
  Contracts: copies of what came in, in new memory.
-/
import Derived.Test.YtjgijoageljjgaaGreatFoU
set_option linter.unusedVariables false
set_option linter.unusedSimpArgs false
namespace Go.Mo
open Go.Sx
theorem same_set {t : RT} {L l : List t.ty} {k : Nat} (h : same t L l k) (hk : k < L.length) : same t (L.set k (nth t l k)) l (k + 1) := fun i hi => by
  by_cases he : i = k
  · subst he
    simp [nth, List.getD, hk]
  · have : nth t (L.set k (nth t l k)) i = nth t L i := by
      simp only [nth, List.getD]
      rw [List.getElem?_set_ne (fun h => he h.symm)]
    rw [this]
    exact h i (by omega)
theorem setNth_ap {t : RT} (L : List t.ty) (k : Nat) (x : t.ty) (u : PUnit) : setNth t (fun _ => L) (fun _ => (k : Int)) (fun _ => x) u = L.set k x := by
  simp [setNth]
theorem set_len {t : RT} (L : List t.ty) (k : Nat) (x : t.ty) : (L.set k x).length = L.length := List.length_set
end Go.Mo
namespace Go.Proofs.YtjgijoageljjgaaGreat
open Go.Sx Go.Proofs Go.Mo
set_option maxRecDepth 100000
set_option maxHeartbeats 8000000
set_option linter.unusedSimpArgs false
set_option linter.unusedVariables false

noncomputable def sToM : Sx.Spec := ⟨false, true, [.map], [], fun _ _ ⟨a, _⟩ => .ret (oMap a, fun _ => 0)⟩
noncomputable def sToW : Sx.Spec := ⟨false, true, [.row .wlk], [], fun _ _ ⟨a, _⟩ => .ret (oWlk a, fun _ => 0)⟩
noncomputable def sToO : Sx.Spec := ⟨false, true, [.ord], [], fun _ _ ⟨a, _⟩ => .ret (oOrd a, fun _ => 0)⟩
noncomputable def sToP : Sx.Spec := ⟨false, true, [.row .pcl], [], fun _ _ ⟨a, _⟩ => .ret (oPcl a, fun _ => 0)⟩
noncomputable def sToR : Sx.Spec := ⟨false, true, [.row .rcd], [], fun _ _ ⟨a, _⟩ => .ret (oRec a, fun _ => 0)⟩
noncomputable def sToWs : Sx.Spec := ⟨false, true, [.list .wlk], [[some .wlk]], fun _ _ ⟨a, _⟩ => .ret (vW .wlk a, fun _ => 0)⟩
noncomputable def sToIs : Sx.Spec := ⟨false, true, [.list .int], [[some .int]], fun _ _ ⟨a, _⟩ => .ret (vW .int a, fun _ => 0)⟩
noncomputable def sToPs : Sx.Spec := ⟨false, true, [.list .pcl], [[some .pcl]], fun _ _ ⟨a, _⟩ => .ret (vW .pcl a, fun _ => 0)⟩
noncomputable def sToRs : Sx.Spec := ⟨false, true, [.list .rcd], [[some .rcd]], fun _ _ ⟨a, _⟩ => .ret (vW .rcd a, fun _ => 0)⟩
noncomputable def sToPss : Sx.Spec := ⟨false, true, [.list .pcls], [[some .pcls]], fun _ _ ⟨a, _⟩ => .ret (vW .pcls a, fun _ => 0)⟩
noncomputable def sToC : Sx.Spec := ⟨false, true, [.row .cll], [nCll], fun _ _ ⟨a, _⟩ => .ret (oCll a, fun _ => 0)⟩
noncomputable def sToS : Sx.Spec := ⟨false, true, [.row .sto], [nSto], fun _ _ ⟨a, _⟩ => .ret (oSto a, fun _ => 0)⟩
noncomputable def sToH : Sx.Spec := ⟨false, true, [.row .hld], [nHld], fun _ _ ⟨a, _⟩ => .ret (oHld a, fun _ => 0)⟩

theorem okToM : SpecOk1 Tryz.prog 13 sToM := spec1 tabOk (ss := []) trivial rfl rfl <| by
  intro (bs : Th (List Int)) (p : Th Int) ⟨(a : Th PMap), u⟩ K _ _ ho h
  obtain ⟨a, rfl⟩ := th_ex a
  refine ⟨noAnn, noAnn, 20, ?_⟩
  cbv
  repeat' first | ((with_reducible refine fun (k : Nat) => ?_); cbv) | ((with_reducible refine fun (q : Nat × Unit) => ?_); obtain ⟨s, _⟩ := q; cbv) | ((with_reducible refine fun (q : Nat × Nat) => ?_); obtain ⟨s, k⟩ := q; cbv) | ((with_reducible intro _); cbv) | ((with_reducible show _ ∧ _); (with_reducible apply And.intro))
  all_goals first | (refine retK h ?_; clear h; simp only [fin0]) | (with_reducible refine Ob.mk ?_; clear h) | (clear h)
  all_goals (try simp only [eta0, RT.bytes] at *)
  all_goals grind
theorem okToW : SpecOk1 Tryz.prog 105 sToW := spec1 tabOk (ss := []) trivial rfl rfl <| by
  intro (bs : Th (List Int)) (p : Th Int) ⟨(a : Th Wlk), u⟩ K _ _ ho h
  obtain ⟨a, rfl⟩ := th_ex a
  refine ⟨noAnn, noAnn, 20, ?_⟩
  cbv
  repeat' first | ((with_reducible refine fun (k : Nat) => ?_); cbv) | ((with_reducible refine fun (q : Nat × Unit) => ?_); obtain ⟨s, _⟩ := q; cbv) | ((with_reducible refine fun (q : Nat × Nat) => ?_); obtain ⟨s, k⟩ := q; cbv) | ((with_reducible intro _); cbv) | ((with_reducible show _ ∧ _); (with_reducible apply And.intro))
  all_goals first | (refine retK h ?_; clear h; simp only [fin0]) | (with_reducible refine Ob.mk ?_; clear h) | (clear h)
  all_goals (try simp only [eta0, RT.bytes] at *)
  all_goals grind
theorem okToO : SpecOk1 Tryz.prog 61 sToO := spec1 tabOk (ss := []) trivial rfl rfl <| by
  intro (bs : Th (List Int)) (p : Th Int) ⟨(a : Th Ord), u⟩ K _ _ ho h
  obtain ⟨a, rfl⟩ := th_ex a
  refine ⟨noAnn, noAnn, 20, ?_⟩
  cbv
  repeat' first | ((with_reducible refine fun (k : Nat) => ?_); cbv) | ((with_reducible refine fun (q : Nat × Unit) => ?_); obtain ⟨s, _⟩ := q; cbv) | ((with_reducible refine fun (q : Nat × Nat) => ?_); obtain ⟨s, k⟩ := q; cbv) | ((with_reducible intro _); cbv) | ((with_reducible show _ ∧ _); (with_reducible apply And.intro))
  all_goals first | (refine retK h ?_; clear h; simp only [fin0]) | (with_reducible refine Ob.mk ?_; clear h) | (clear h)
  all_goals (try simp only [eta0, RT.bytes] at *)
  all_goals grind
theorem okToP : SpecOk1 Tryz.prog 62 sToP := spec1 tabOk (ss := [(105, sToW)]) ⟨okToW, trivial⟩ rfl rfl <| by
  intro (bs : Th (List Int)) (p : Th Int) ⟨(a : Th Pcl), u⟩ K _ _ ho h
  obtain ⟨a, rfl⟩ := th_ex a
  refine ⟨noAnn, noAnn, 20, ?_⟩
  cbv
  repeat' first | ((with_reducible refine fun (k : Nat) => ?_); cbv) | ((with_reducible refine fun (q : Nat × Unit) => ?_); obtain ⟨s, _⟩ := q; cbv) | ((with_reducible refine fun (q : Nat × Nat) => ?_); obtain ⟨s, k⟩ := q; cbv) | ((with_reducible intro _); cbv) | ((with_reducible show _ ∧ _); (with_reducible apply And.intro))
  all_goals first | (refine retK h ?_; clear h; simp only [fin0]) | (with_reducible refine Ob.mk ?_; clear h) | (clear h)
  all_goals (try simp only [eta0, RT.bytes] at *)
  all_goals grind
theorem okToR : SpecOk1 Tryz.prog 20 sToR := spec1 tabOk (ss := [(61, sToO), (62, sToP)]) ⟨okToO, okToP, trivial⟩ rfl rfl <| by
  intro (bs : Th (List Int)) (p : Th Int) ⟨(a : Th Sx.Rec), u⟩ K _ _ ho h
  obtain ⟨a, rfl⟩ := th_ex a
  refine ⟨noAnn, noAnn, 20, ?_⟩
  cbv
  repeat' first | ((with_reducible refine fun (k : Nat) => ?_); cbv) | ((with_reducible refine fun (q : Nat × Unit) => ?_); obtain ⟨s, _⟩ := q; cbv) | ((with_reducible refine fun (q : Nat × Nat) => ?_); obtain ⟨s, k⟩ := q; cbv) | ((with_reducible intro _); cbv) | ((with_reducible show _ ∧ _); (with_reducible apply And.intro))
  all_goals first | (refine retK h ?_; clear h; simp only [fin0]) | (with_reducible refine Ob.mk ?_; clear h) | (clear h)
  all_goals (try simp only [eta0, RT.bytes] at *)
  all_goals grind
theorem okToWs : SpecOk1 Tryz.prog 58 sToWs := spec1 tabOk (ss := [(105, sToW)]) ⟨okToW, trivial⟩ rfl rfl <| by
  intro (bs : Th (List Int)) (p : Th Int) ⟨(l : Th (List Wlk)), u⟩ K _ _ ho h
  obtain ⟨l, rfl⟩ := th_ex l
  have hl := okL (ho.1 _ (.head _))
  have hb := okB (ho.1 _ (.head _))
  obtain ⟨Z, hZ⟩ : ∃ Z : List (RT.ty .wlk), Z = List.replicate l.length (⟨0, 0, 0, 0, 0⟩ : Wlk) := ⟨_, rfl⟩
  obtain ⟨S, hS⟩ : ∃ S : Nat → List (RT.ty .wlk) → List (RT.ty .wlk), ∀ k L, S k L = L.set k (nth .wlk l k) := ⟨fun k L => L.set k (nth .wlk l k), fun _ _ => rfl⟩
  refine ⟨annL [(58, 3, ⟨Nat × List Wlk, [], fun σ q => (σ.t 4 (vI fun _ => (q.1 : Int))).row 8 1 .wlk (fun _ => q.2), fun _ q _ => q.1 ≤ l.length ∧ q.2.length = l.length ∧ same .wlk q.2 l q.1, fun _ q _ => l.length - q.1⟩)], noAnn, 20, ?_⟩
  cbv
  repeat' first | ((with_reducible refine fun (k : Nat) => ?_); cbv) | ((with_reducible refine fun (g : Nat × List Wlk) => ?_); obtain ⟨k, L⟩ := g; cbv) | ((with_reducible intro _); cbv) | ((with_reducible show _ ∧ _); (with_reducible apply And.intro))
  all_goals try ((first | (with_reducible refine LoopIn.mk (((0 : Nat), Z)) ?_ ?_) | (with_reducible refine LoopBack.mk ((k + 1, S k L)) ?_ ?_ ?_)) )
  all_goals try ((with_reducible show matchSt _ _); cbv; (try simp only [and_true, true_and]))
  all_goals try (with_reducible show _ ∧ _; (repeat' (with_reducible apply And.intro)))
  all_goals first | (refine retK h ?_; clear h; simp only [fin0]) | (with_reducible refine Ob.mk ?_; clear h) | (clear h)
  all_goals (try simp only [eta0, RT.bytes] at *)
  all_goals grind [wrap_succ, same_zero, same_set, same_all, setNth_ap, set_len, List.length_replicate]
theorem okToIs : SpecOk1 Tryz.prog 60 sToIs := spec1 tabOk (ss := []) trivial rfl rfl <| by
  intro (bs : Th (List Int)) (p : Th Int) ⟨(l : Th (List Int)), u⟩ K _ _ ho h
  obtain ⟨l, rfl⟩ := th_ex l
  have hl := okL (ho.1 _ (.head _))
  have hb := okB (ho.1 _ (.head _))
  obtain ⟨Z, hZ⟩ : ∃ Z : List (RT.ty .int), Z = List.replicate l.length (0 : Int) := ⟨_, rfl⟩
  obtain ⟨S, hS⟩ : ∃ S : Nat → List (RT.ty .int) → List (RT.ty .int), ∀ k L, S k L = L.set k (nth .int l k) := ⟨fun k L => L.set k (nth .int l k), fun _ _ => rfl⟩
  refine ⟨annL [(60, 3, ⟨Nat × List Int, [], fun σ q => (σ.t 4 (vI fun _ => (q.1 : Int))).row 8 1 .int (fun _ => q.2), fun _ q _ => q.1 ≤ l.length ∧ q.2.length = l.length ∧ same .int q.2 l q.1, fun _ q _ => l.length - q.1⟩)], noAnn, 20, ?_⟩
  cbv
  repeat' first | ((with_reducible refine fun (k : Nat) => ?_); cbv) | ((with_reducible refine fun (g : Nat × List Int) => ?_); obtain ⟨k, L⟩ := g; cbv) | ((with_reducible intro _); cbv) | ((with_reducible show _ ∧ _); (with_reducible apply And.intro))
  all_goals try ((first | (with_reducible refine LoopIn.mk (((0 : Nat), Z)) ?_ ?_) | (with_reducible refine LoopBack.mk ((k + 1, S k L)) ?_ ?_ ?_)) )
  all_goals try ((with_reducible show matchSt _ _); cbv; (try simp only [and_true, true_and]))
  all_goals try (with_reducible show _ ∧ _; (repeat' (with_reducible apply And.intro)))
  all_goals first | (refine retK h ?_; clear h; simp only [fin0]) | (with_reducible refine Ob.mk ?_; clear h) | (clear h)
  all_goals (try simp only [eta0, RT.bytes] at *)
  all_goals grind [wrap_succ, same_zero, same_set, same_all, setNth_ap, set_len, List.length_replicate]
theorem okToPs : SpecOk1 Tryz.prog 106 sToPs := spec1 tabOk (ss := [(62, sToP)]) ⟨okToP, trivial⟩ rfl rfl <| by
  intro (bs : Th (List Int)) (p : Th Int) ⟨(l : Th (List Pcl)), u⟩ K _ _ ho h
  obtain ⟨l, rfl⟩ := th_ex l
  have hl := okL (ho.1 _ (.head _))
  have hb := okB (ho.1 _ (.head _))
  obtain ⟨Z, hZ⟩ : ∃ Z : List (RT.ty .pcl), Z = List.replicate l.length (⟨0, 0, ⟨0, 0, 0, 0, 0⟩, 0⟩ : Pcl) := ⟨_, rfl⟩
  obtain ⟨S, hS⟩ : ∃ S : Nat → List (RT.ty .pcl) → List (RT.ty .pcl), ∀ k L, S k L = L.set k (nth .pcl l k) := ⟨fun k L => L.set k (nth .pcl l k), fun _ _ => rfl⟩
  refine ⟨annL [(106, 3, ⟨Nat × List Pcl, [], fun σ q => (σ.t 4 (vI fun _ => (q.1 : Int))).row 8 1 .pcl (fun _ => q.2), fun _ q _ => q.1 ≤ l.length ∧ q.2.length = l.length ∧ same .pcl q.2 l q.1, fun _ q _ => l.length - q.1⟩)], noAnn, 20, ?_⟩
  cbv
  repeat' first | ((with_reducible refine fun (k : Nat) => ?_); cbv) | ((with_reducible refine fun (g : Nat × List Pcl) => ?_); obtain ⟨k, L⟩ := g; cbv) | ((with_reducible intro _); cbv) | ((with_reducible show _ ∧ _); (with_reducible apply And.intro))
  all_goals try ((first | (with_reducible refine LoopIn.mk (((0 : Nat), Z)) ?_ ?_) | (with_reducible refine LoopBack.mk ((k + 1, S k L)) ?_ ?_ ?_)) )
  all_goals try ((with_reducible show matchSt _ _); cbv; (try simp only [and_true, true_and]))
  all_goals try (with_reducible show _ ∧ _; (repeat' (with_reducible apply And.intro)))
  all_goals first | (refine retK h ?_; clear h; simp only [fin0]) | (with_reducible refine Ob.mk ?_; clear h) | (clear h)
  all_goals (try simp only [eta0, RT.bytes] at *)
  all_goals grind [wrap_succ, same_zero, same_set, same_all, setNth_ap, set_len, List.length_replicate]
theorem okToRs : SpecOk1 Tryz.prog 27 sToRs := spec1 tabOk (ss := [(20, sToR)]) ⟨okToR, trivial⟩ rfl rfl <| by
  intro (bs : Th (List Int)) (p : Th Int) ⟨(l : Th (List Sx.Rec)), u⟩ K _ _ ho h
  obtain ⟨l, rfl⟩ := th_ex l
  have hl := okL (ho.1 _ (.head _))
  have hb := okB (ho.1 _ (.head _))
  obtain ⟨Z, hZ⟩ : ∃ Z : List (RT.ty .rcd), Z = List.replicate l.length (⟨0, ⟨0, 0, 0, 0, 0⟩, 0, ⟨0, 0, ⟨0, 0, 0, 0, 0⟩, 0⟩, 0⟩ : Sx.Rec) := ⟨_, rfl⟩
  obtain ⟨S, hS⟩ : ∃ S : Nat → List (RT.ty .rcd) → List (RT.ty .rcd), ∀ k L, S k L = L.set k (nth .rcd l k) := ⟨fun k L => L.set k (nth .rcd l k), fun _ _ => rfl⟩
  refine ⟨annL [(27, 3, ⟨Nat × List Sx.Rec, [], fun σ q => (σ.t 4 (vI fun _ => (q.1 : Int))).row 8 1 .rcd (fun _ => q.2), fun _ q _ => q.1 ≤ l.length ∧ q.2.length = l.length ∧ same .rcd q.2 l q.1, fun _ q _ => l.length - q.1⟩)], noAnn, 20, ?_⟩
  cbv
  repeat' first | ((with_reducible refine fun (k : Nat) => ?_); cbv) | ((with_reducible refine fun (g : Nat × List Sx.Rec) => ?_); obtain ⟨k, L⟩ := g; cbv) | ((with_reducible intro _); cbv) | ((with_reducible show _ ∧ _); (with_reducible apply And.intro))
  all_goals try ((first | (with_reducible refine LoopIn.mk (((0 : Nat), Z)) ?_ ?_) | (with_reducible refine LoopBack.mk ((k + 1, S k L)) ?_ ?_ ?_)) )
  all_goals try ((with_reducible show matchSt _ _); cbv; (try simp only [and_true, true_and]))
  all_goals try (with_reducible show _ ∧ _; (repeat' (with_reducible apply And.intro)))
  all_goals first | (refine retK h ?_; clear h; simp only [fin0]) | (with_reducible refine Ob.mk ?_; clear h) | (clear h)
  all_goals (try simp only [eta0, RT.bytes] at *)
  all_goals grind [wrap_succ, same_zero, same_set, same_all, setNth_ap, set_len, List.length_replicate]
theorem okToPss : SpecOk1 Tryz.prog 59 sToPss := spec1 tabOk (ss := [(106, sToPs)]) ⟨okToPs, trivial⟩ rfl rfl <| by
  intro (bs : Th (List Int)) (p : Th Int) ⟨(l : Th (List (List Pcl))), u⟩ K _ _ ho h
  obtain ⟨l, rfl⟩ := th_ex l
  have hl := okL (ho.1 _ (.head _))
  have hb := okB (ho.1 _ (.head _))
  obtain ⟨Z, hZ⟩ : ∃ Z : List (RT.ty .pcls), Z = List.replicate l.length ([] : List Pcl) := ⟨_, rfl⟩
  obtain ⟨S, hS⟩ : ∃ S : Nat → List (RT.ty .pcls) → List (RT.ty .pcls), ∀ k L, S k L = L.set k (nth .pcls l k) := ⟨fun k L => L.set k (nth .pcls l k), fun _ _ => rfl⟩
  refine ⟨annL [(59, 3, ⟨Nat × List (List Pcl), [], fun σ q => (σ.t 4 (vI fun _ => (q.1 : Int))).row 8 1 .pcls (fun _ => q.2), fun _ q _ => q.1 ≤ l.length ∧ q.2.length = l.length ∧ same .pcls q.2 l q.1, fun _ q _ => l.length - q.1⟩)], noAnn, 20, ?_⟩
  cbv
  repeat' first | ((with_reducible refine fun (k : Nat) => ?_); cbv) | ((with_reducible refine fun (g : Nat × List (List Pcl)) => ?_); obtain ⟨k, L⟩ := g; cbv) | ((with_reducible intro _); cbv) | ((with_reducible show _ ∧ _); (with_reducible apply And.intro))
  all_goals try ((first | (with_reducible refine LoopIn.mk (((0 : Nat), Z)) ?_ ?_) | (with_reducible refine LoopBack.mk ((k + 1, S k L)) ?_ ?_ ?_)) )
  all_goals try ((with_reducible show matchSt _ _); cbv; (try simp only [and_true, true_and]))
  all_goals try (with_reducible show _ ∧ _; (repeat' (with_reducible apply And.intro)))
  all_goals first | (refine retK h ?_; clear h; simp only [fin0]) | (with_reducible refine Ob.mk ?_; clear h) | (clear h)
  all_goals (try simp only [eta0, RT.bytes] at *)
  all_goals grind [wrap_succ, same_zero, same_set, same_all, setNth_ap, set_len, List.length_replicate]
theorem okToC : SpecOk1 Tryz.prog 19 sToC := spec1 tabOk (ss := [(58, sToWs), (59, sToPss), (60, sToIs)]) ⟨okToWs, okToPss, okToIs, trivial⟩ rfl rfl <| by
  intro (bs : Th (List Int)) (p : Th Int) ⟨(a : Th Cll), u⟩ K _ _ ho h
  obtain ⟨a, rfl⟩ := th_ex a
  refine ⟨noAnn, noAnn, 20, ?_⟩
  cbv
  repeat' first | ((with_reducible refine fun (k : Nat) => ?_); cbv) | ((with_reducible refine fun (q : Nat × Unit) => ?_); obtain ⟨s, _⟩ := q; cbv) | ((with_reducible refine fun (q : Nat × Nat) => ?_); obtain ⟨s, k⟩ := q; cbv) | ((with_reducible intro _); cbv) | ((with_reducible show _ ∧ _); (with_reducible apply And.intro))
  all_goals first | (refine retK h ?_; clear h; simp only [fin0]) | (with_reducible refine Ob.mk ?_; clear h) | (clear h)
  all_goals (try simp only [eta0, RT.bytes] at *)
  all_goals grind
theorem okToS : SpecOk1 Tryz.prog 14 sToS := spec1 tabOk (ss := [(19, sToC), (27, sToRs)]) ⟨okToC, okToRs, trivial⟩ rfl rfl <| by
  intro (bs : Th (List Int)) (p : Th Int) ⟨(a : Th Sto), u⟩ K _ _ ho h
  obtain ⟨a, rfl⟩ := th_ex a
  refine ⟨noAnn, noAnn, 20, ?_⟩
  cbv
  repeat' first | ((with_reducible refine fun (k : Nat) => ?_); cbv) | ((with_reducible refine fun (q : Nat × Unit) => ?_); obtain ⟨s, _⟩ := q; cbv) | ((with_reducible refine fun (q : Nat × Nat) => ?_); obtain ⟨s, k⟩ := q; cbv) | ((with_reducible intro _); cbv) | ((with_reducible show _ ∧ _); (with_reducible apply And.intro))
  all_goals first | (refine retK h ?_; clear h; simp only [fin0]) | (with_reducible refine Ob.mk ?_; clear h) | (clear h)
  all_goals (try simp only [eta0, RT.bytes] at *)
  all_goals grind
theorem okToH : SpecOk1 Tryz.prog 46 sToH := spec1 tabOk (ss := [(19, sToC)]) ⟨okToC, trivial⟩ rfl rfl <| by
  intro (bs : Th (List Int)) (p : Th Int) ⟨(a : Th Hld), u⟩ K _ _ ho h
  obtain ⟨a, rfl⟩ := th_ex a
  refine ⟨noAnn, noAnn, 20, ?_⟩
  cbv
  repeat' first | ((with_reducible refine fun (k : Nat) => ?_); cbv) | ((with_reducible refine fun (q : Nat × Unit) => ?_); obtain ⟨s, _⟩ := q; cbv) | ((with_reducible refine fun (q : Nat × Nat) => ?_); obtain ⟨s, k⟩ := q; cbv) | ((with_reducible intro _); cbv) | ((with_reducible show _ ∧ _); (with_reducible apply And.intro))
  all_goals first | (refine retK h ?_; clear h; simp only [fin0]) | (with_reducible refine Ob.mk ?_; clear h) | (clear h)
  all_goals (try simp only [eta0, RT.bytes] at *)
  all_goals grind

end Go.Proofs.YtjgijoageljjgaaGreat
