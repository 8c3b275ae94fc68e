/-
  The law: a log is its beginning, and then the rest.
-/
import Derived.Test.YtfdohbjamanomaaGreatFoB
import Derived.Test.YtfdohbjamanomaaGreatFnY
set_option linter.unusedVariables false
set_option linter.unusedSimpArgs false
namespace Go.Proofs.YtfdohbjamanomaaGreat
open Go.Sx Go.Proofs Go.Mo
set_option maxRecDepth 100000
set_option maxHeartbeats 1000000
set_option linter.unusedSimpArgs false
set_option linter.unusedVariables false

theorem lf_bad {m : PMap} {c : Cll} {l : List Sx.Rec} (h : cllOk m c = false ∨ 250 < l.length) : (logFold m c l).c = zeroC ∧ (logFold m c l).n = 0 := by
  rw [logFold_bad h]
  exact ⟨rfl, rfl⟩
theorem fold_k (m : PMap) (c : Cll) (l : List Sx.Rec) (a : Nat) : (¬ IntKind.i64.wrap ((logFold m c l).n + 1) = 0) ∧ 0 ≤ (a : Int).tmod (IntKind.i64.wrap ((logFold m c l).n + 1)) ∧ (a : Int).tmod (IntKind.i64.wrap ((logFold m c l).n + 1)) ≤ (logFold m c l).n ∧
    IntKind.i64.wrap ((logFold m c l).n - (a : Int).tmod (IntKind.i64.wrap ((logFold m c l).n + 1))) = (logFold m c l).n - (a : Int).tmod (IntKind.i64.wrap ((logFold m c l).n + 1)) := by
  have h := logFold_le m c l
  rw [wrap_id (n := (logFold m c l).n + 1) (by omega) (by omega)]
  have ht := tm (a := (a : Int)) (n := (logFold m c l).n + 1) (by omega) (by omega)
  exact ⟨by omega, ht.1, by omega, wrap_id (by omega) (by omega)⟩
theorem all_lf (m : PMap) (c : Cll) (l : List Sx.Rec) (a : Nat) (hc : cllOk m c = true) (hl : ¬ (250 : Int) < l.length) :
    ((logFold m c (l.take ((a : Int).tmod (IntKind.i64.wrap ((logFold m c l).n + 1))).toNat)).n = (a : Int).tmod (IntKind.i64.wrap ((logFold m c l).n + 1))) ∧
    ((logFold m (logFold m c (l.take ((a : Int).tmod (IntKind.i64.wrap ((logFold m c l).n + 1))).toNat)).c ((l.take (logFold m c l).n.toNat).drop ((a : Int).tmod (IntKind.i64.wrap ((logFold m c l).n + 1))).toNat)).n = IntKind.i64.wrap ((logFold m c l).n - (a : Int).tmod (IntKind.i64.wrap ((logFold m c l).n + 1)))) ∧
    ((logFold m (logFold m c (l.take ((a : Int).tmod (IntKind.i64.wrap ((logFold m c l).n + 1))).toNat)).c ((l.take (logFold m c l).n.toNat).drop ((a : Int).tmod (IntKind.i64.wrap ((logFold m c l).n + 1))).toNat)).c = (logFold m c l).c) ∧ cllOk m (logFold m c l).c = true ∧
    (¬ (logFold m c l).n = l.length → (cllApplyX m (logFold m c l).c (nth .rcd l (logFold m c l).n.toNat)).ok = false ∧ (¬ (cllApplyX m (logFold m c l).c (nth .rcd l (logFold m c l).n.toNat)).c = (logFold m c l).c → (cllApplyX m (logFold m c l).c (nth .rcd l (logFold m c l).n.toNat)).c = zeroC)) := by
  obtain ⟨_, h1, h2, h3⟩ := fold_k m c l a
  have hl : l.length ≤ 250 := by omega
  have hle := logFold_le m c l
  rw [h3]
  generalize (a : Int).tmod (IntKind.i64.wrap ((logFold m c l).n + 1)) = k at *
  have h4 := lf_first hc hl h1 h2
  have h5 := lf_rest hc hl h1 h2
  refine ⟨h4.1, h5.1, h5.2, lf_ok hc hl, fun hn => ?_⟩
  have h6 := lf_next hc hl (by omega)
  exact ⟨h6.1, fun hh => h6.2.resolve_left hh⟩
theorem okLawFold : SpecOk1 Tryz.prog 4 sLawA := spec1 tabOk (ss := [(24, sDrawFold), (25, sLogFold), (26, sSLogFold), (15, sIsC), (18, sCllOk), (19, sOkTrue), (27, sCllOk), (13, sLogApply)])
    ⟨okDrawFold, okLogFold, okSLogFold, okIsCell, okSCllOk, okTrue, okCllOk, okLogApply, trivial⟩ rfl rfl <| by
  intro (bs : Th (List Int)) (p : Th Int) ⟨(a : Th (List Int)), u⟩ K _ _ ho h
  obtain ⟨a, rfl⟩ := th_ex a
  refine ⟨noAnn, noAnn, 20, ?_⟩
  cbv
  repeat' first | ((with_reducible refine fun (k : Nat) => ?_); cbv) | ((with_reducible refine fun (q : Nat × Unit) => ?_); obtain ⟨s, _⟩ := q; cbv) | ((with_reducible refine fun (q : Nat × Nat) => ?_); obtain ⟨s, k⟩ := q; cbv) | ((with_reducible intro _); cbv) | ((with_reducible show _ ∧ _); (with_reducible apply And.intro))
  all_goals first | (refine retK h ?_; clear h; simp only [fin0]) | (with_reducible refine Ob.mk ?_; clear h) | (clear h)
  all_goals (try simp only [eta0, RT.bytes] at *)
  all_goals try (first | (rename_i x0 x1 x2 x3 x4 x5 x6 x7 xl; have hck0 := ((xl, ⟨x2, x3, x4, x5, x6, x7⟩, ⟨x0, x1⟩) : List Sx.Rec × Cll × PMap); clear hck0) | (rename_i x0 x1 x2 x3 x4 x5 x6 x7 xl _; have hck0 := ((xl, ⟨x2, x3, x4, x5, x6, x7⟩, ⟨x0, x1⟩) : List Sx.Rec × Cll × PMap); clear hck0) | (rename_i x0 x1 x2 x3 x4 x5 x6 x7 xl _ _; have hck0 := ((xl, ⟨x2, x3, x4, x5, x6, x7⟩, ⟨x0, x1⟩) : List Sx.Rec × Cll × PMap); clear hck0) | (rename_i x0 x1 x2 x3 x4 x5 x6 x7 xl _ _ _; have hck0 := ((xl, ⟨x2, x3, x4, x5, x6, x7⟩, ⟨x0, x1⟩) : List Sx.Rec × Cll × PMap); clear hck0) | (rename_i x0 x1 x2 x3 x4 x5 x6 x7 xl _ _ _ _; have hck0 := ((xl, ⟨x2, x3, x4, x5, x6, x7⟩, ⟨x0, x1⟩) : List Sx.Rec × Cll × PMap); clear hck0) | (rename_i x0 x1 x2 x3 x4 x5 x6 x7 xl _ _ _ _ _; have hck0 := ((xl, ⟨x2, x3, x4, x5, x6, x7⟩, ⟨x0, x1⟩) : List Sx.Rec × Cll × PMap); clear hck0) | (rename_i x0 x1 x2 x3 x4 x5 x6 x7 xl _ _ _ _ _ _; have hck0 := ((xl, ⟨x2, x3, x4, x5, x6, x7⟩, ⟨x0, x1⟩) : List Sx.Rec × Cll × PMap); clear hck0) | (rename_i x0 x1 x2 x3 x4 x5 x6 x7 xl _ _ _ _ _ _ _; have hck0 := ((xl, ⟨x2, x3, x4, x5, x6, x7⟩, ⟨x0, x1⟩) : List Sx.Rec × Cll × PMap); clear hck0) | (rename_i x0 x1 x2 x3 x4 x5 x6 x7 xl _ _ _ _ _ _ _ _; have hck0 := ((xl, ⟨x2, x3, x4, x5, x6, x7⟩, ⟨x0, x1⟩) : List Sx.Rec × Cll × PMap); clear hck0) | (rename_i x0 x1 x2 x3 x4 x5 x6 x7 xl _ _ _ _ _ _ _ _ _; have hck0 := ((xl, ⟨x2, x3, x4, x5, x6, x7⟩, ⟨x0, x1⟩) : List Sx.Rec × Cll × PMap); clear hck0) | (rename_i x0 x1 x2 x3 x4 x5 x6 x7 xl _ _ _ _ _ _ _ _ _ _; have hck0 := ((xl, ⟨x2, x3, x4, x5, x6, x7⟩, ⟨x0, x1⟩) : List Sx.Rec × Cll × PMap); clear hck0) | (rename_i x0 x1 x2 x3 x4 x5 x6 x7 xl _ _ _ _ _ _ _ _ _ _ _; have hck0 := ((xl, ⟨x2, x3, x4, x5, x6, x7⟩, ⟨x0, x1⟩) : List Sx.Rec × Cll × PMap); clear hck0) | (rename_i x0 x1 x2 x3 x4 x5 x6 x7 xl _ _ _ _ _ _ _ _ _ _ _ _; have hck0 := ((xl, ⟨x2, x3, x4, x5, x6, x7⟩, ⟨x0, x1⟩) : List Sx.Rec × Cll × PMap); clear hck0) | (rename_i x0 x1 x2 x3 x4 x5 x6 x7 xl _ _ _ _ _ _ _ _ _ _ _ _ _; have hck0 := ((xl, ⟨x2, x3, x4, x5, x6, x7⟩, ⟨x0, x1⟩) : List Sx.Rec × Cll × PMap); clear hck0) | (rename_i x0 x1 x2 x3 x4 x5 x6 x7 xl _ _ _ _ _ _ _ _ _ _ _ _ _ _; have hck0 := ((xl, ⟨x2, x3, x4, x5, x6, x7⟩, ⟨x0, x1⟩) : List Sx.Rec × Cll × PMap); clear hck0) | (rename_i x0 x1 x2 x3 x4 x5 x6 x7 xl _ _ _ _ _ _ _ _ _ _ _ _ _ _ _; have hck0 := ((xl, ⟨x2, x3, x4, x5, x6, x7⟩, ⟨x0, x1⟩) : List Sx.Rec × Cll × PMap); clear hck0))
  all_goals (try simp only [Int.toNat_zero, List.drop_zero] at *)
  all_goals (try have hA := all_lf ⟨x0, x1⟩ ⟨x2, x3, x4, x5, x6, x7⟩ xl a.length (by assumption) (by assumption))
  all_goals (try have hK := fold_k ⟨x0, x1⟩ ⟨x2, x3, x4, x5, x6, x7⟩ xl a.length)
  all_goals (try have hL := logFold_le ⟨x0, x1⟩ ⟨x2, x3, x4, x5, x6, x7⟩ xl)
  all_goals (try have hB := fun h => @lf_bad ⟨x0, x1⟩ ⟨x2, x3, x4, x5, x6, x7⟩ xl h)
  all_goals (try generalize (a.length : Int).tmod (IntKind.i64.wrap ((logFold ⟨x0, x1⟩ ⟨x2, x3, x4, x5, x6, x7⟩ xl).n + 1)) = k at *)
  all_goals first | grind [zeroC]

end Go.Proofs.YtfdohbjamanomaaGreat
