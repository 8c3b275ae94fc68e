/-
  FnGwyAsk: its law (draft).
-/
import Derived.Test.YtgglmcbmkeefoaaGreatGnX
import Derived.Test.YtgglmcbmkeefoaaGreatGnF
import Derived.Test.YtgglmcbmkeefoaaGreatM3
set_option linter.unusedVariables false
set_option linter.unusedSimpArgs false
namespace Go.Proofs.YtgglmcbmkeefoaaGreat
open Go.Sx Go.Proofs Go.Mo
set_option maxRecDepth 100000
set_option maxHeartbeats 8000000
set_option linter.unusedSimpArgs false
set_option linter.unusedVariables false

noncomputable def sLawG : Sx.Spec := ⟨false, true, [.list .byte], [], fun _ _ _ => .ret (vB fun _ => true, fun _ => 0)⟩
theorem askX_no {m : PMap} {r : List Row} {who kind dest n : Int} (h : (gwyAskX m r who kind dest n).ok = false) : (gwyAskX m r who kind dest n).b = r ∨ (gwyAskX m r who kind dest n).b = [] := by
  unfold gwyAskX at h ⊢
  split at h
  · rename_i hg
    rw [if_pos hg]
    exact .inl (ask_no h)
  · rename_i hg
    rw [if_neg hg]
    exact .inr rfl
theorem askX_yes {m : PMap} {r : List Row} {who kind dest n : Int} (h : (gwyAskX m r who kind dest n).ok = true) : gwyOk m r = true ∧ gwyOk m (gwyAskX m r who kind dest n).b = true ∧ (gwyAskX m r who kind dest n).b.length = r.length ∧ gwyAskX m (gwyAskX m r who kind dest n).b who kind dest n = ⟨(gwyAskX m r who kind dest n).b, false⟩ := by
  have hg : gwyOk m r = true := by
    unfold gwyAskX at h
    split at h
    · assumption
    · cases h
  have he : gwyAskX m r who kind dest n = gwyAsk r who kind dest n := by rw [gwyAskX, if_pos hg]
  rw [he] at h ⊢
  have hk := gwyAsk_ok (who := who) (kind := kind) (dest := dest) (n := n) hg
  refine ⟨hg, hk.1, hk.2, ?_⟩
  rw [gwyAskX, if_pos hk.1]
  exact ask_again hg h
theorem askX_rows {m : PMap} {r : List Row} {who kind dest n : Int} (h : (gwyAskX m r who kind dest n).ok = true) {i : Nat} (hi : i < r.length) :
    ((nth .row (gwyAskX m r who kind dest n).b i).who ≠ who → nth .row (gwyAskX m r who kind dest n).b i = nth .row r i) ∧
    ((nth .row (gwyAskX m r who kind dest n).b i).who = who → (nth .row r i).busy = false ∧ (nth .row (gwyAskX m r who kind dest n).b i).busy = true ∧ (nth .row (gwyAskX m r who kind dest n).b i).ord = ⟨who, IntKind.i64.wrap ((nth .row r i).seq + 1), kind, dest, n⟩ ∧ (nth .row (gwyAskX m r who kind dest n).b i).seq = (nth .row r i).seq) := by
  have hg := (askX_yes h).1
  have he : gwyAskX m r who kind dest n = gwyAsk r who kind dest n := by rw [gwyAskX, if_pos hg]
  rw [he] at h ⊢
  have hr := (allTo_iff _ _).1 (by have := hg; rw [gwyOk, Bool.and_eq_true] at this; exact this.2) i hi
  simp only [gwRowAt, rowOk, Bool.and_eq_true, decide_eq_true_eq] at hr
  rw [wrap_id (by omega) (by omega)]
  exact ask_rows hg h hi
theorem gwy_zero : gwyOk ⟨2, 2⟩ [] = true := by decide
theorem okLawAsk : SpecOk1 Tryz.prog 3 sLawG := spec1 tabOk (ss := [(11, sDrawAskE), (12, sGwyAsk), (13, sGwyAsk), (14, sIsB), (15, sGwyOk), (16, sGwyOk)]) ⟨okDrawAskE, okGwyAsk, okSGwyAsk, okMaBook, okGwyOk, okSGwyOk, trivial⟩ rfl rfl <| by
  intro (bs : Th (List Int)) (p : Th Int) ⟨(a : Th (List Int)), u⟩ K _ _ ho h
  obtain ⟨a, rfl⟩ := th_ex a
  refine ⟨annL [(3, 11, ⟨Nat, [], fun σ k => (σ.only [3, 4, 5, 6, 7, 8, 9]).t 13 (vI fun _ => (k : Int)), fun _ k _ => k ≤ 10, fun _ k _ => 10 - k⟩)], noAnn, 20, ?_⟩
  cbv
  repeat' first | ((with_reducible refine fun (k : Nat) => ?_); cbv) | ((with_reducible refine fun (q : Nat × Unit) => ?_); obtain ⟨s, _⟩ := q; cbv) | ((with_reducible refine fun (q : Nat × Nat) => ?_); obtain ⟨s, k⟩ := q; cbv) | ((with_reducible intro _); cbv) | ((with_reducible show _ ∧ _); (with_reducible apply And.intro))
  all_goals try ((first | (with_reducible refine LoopIn.mk ((0 : Nat)) ?_ ?_) | (with_reducible refine LoopBack.mk ((k + 1 : Nat)) ?_ ?_ ?_)) )
  all_goals try ((with_reducible show matchSt _ _); cbv; (try simp only [and_true, true_and]))
  all_goals try (with_reducible show _ ∧ _; (repeat' (with_reducible apply And.intro)))
  all_goals first | (refine retK h ?_; clear h; simp only [fin0]) | (with_reducible refine Ob.mk ?_; clear h) | (clear h)
  all_goals (try simp only [eta0, RT.bytes] at *)
  all_goals (try dsimp only [RT.ty] at *)
  all_goals (first | omega | grind [askX_no, → askX_yes, askX_rows, gwy_zero, wrap_succ, row_ext])
end Go.Proofs.YtgglmcbmkeefoaaGreat
