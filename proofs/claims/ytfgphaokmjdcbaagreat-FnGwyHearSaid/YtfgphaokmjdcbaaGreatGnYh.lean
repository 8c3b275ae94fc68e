/-
  FnGwyHear: its law.
-/
import Derived.Test.YtfgphaokmjdcbaaGreatGnZh
import Derived.Test.YtfgphaokmjdcbaaGreatGnF
import Derived.Test.YtfgphaokmjdcbaaGreatGnS
import Derived.Test.YtfgphaokmjdcbaaGreatM4
import Derived.Test.YtfgphaokmjdcbaaGreatM3
set_option linter.unusedVariables false
set_option linter.unusedSimpArgs false
namespace Go.Proofs.YtfgphaokmjdcbaaGreat
open Go.Sx Go.Proofs Go.Mo
set_option maxRecDepth 100000
set_option maxHeartbeats 8000000
set_option linter.unusedSimpArgs false
set_option linter.unusedVariables false

noncomputable def sLawGh : Sx.Spec := ⟨false, true, [.list .byte], [], fun _ _ _ => .ret (vB fun _ => true, fun _ => 0)⟩
theorem gwy_zeroH : gwyOk ⟨2, 2⟩ [] = true := by decide
theorem ncastH (n : Nat) : (NatCast.natCast n : Int) = (n : Int) := rfl
theorem row_beq {a b : Row} : (decide (a.who = b.who) && (decide (a.cell = b.cell) && ((a.busy == b.busy) && (decide (a.ord.who = b.ord.who) && (decide (a.ord.seq = b.ord.seq) && (decide (a.ord.kind = b.ord.kind) && (decide (a.ord.dest = b.ord.dest) && (decide (a.ord.n = b.ord.n) && (decide (a.seq = b.seq) && (decide (a.code = b.code) && true)))))))))) = decide (a = b) := by
  obtain ⟨a1, a2, a3, ⟨b1, b2, b3, b4, b5⟩, a4, a5⟩ := a
  obtain ⟨c1, c2, c3, ⟨d1, d2, d3, d4, d5⟩, c4, c5⟩ := b
  rw [Bool.eq_iff_iff]
  simp [and_assoc]
theorem ord_beqH {a : Go.Sx.Ord} {w s k d n : Int} : (decide (a.who = w) && (decide (a.seq = s) && (decide (a.kind = k) && (decide (a.dest = d) && (decide (a.n = n) && true))))) = decide (a = ⟨w, s, k, d, n⟩) := by
  obtain ⟨b1, b2, b3, b4, b5⟩ := a
  rw [Bool.eq_iff_iff]
  simp
theorem ord_beqH2 {a b : Go.Sx.Ord} : (decide (a.who = b.who) && (decide (a.seq = b.seq) && (decide (a.kind = b.kind) && (decide (a.dest = b.dest) && (decide (a.n = b.n) && true))))) = decide (a = b) := ord_beqH
theorem hear_same {m : PMap} {l : List Row} {v : Int} {x : Msg} {k : Nat} (h1 : gwyOk m l = true) (h2 : msgOk m v x = true) (hi : k < l.length) (h : ¬ (nth .row l k).who = x.ord.who ∨ (nth .row l k).busy = false ∨ ¬ @Eq Go.Sx.Ord (nth .row l k).ord x.ord) : @Eq Row (nth .row (gwyHearX m l v x).b k) (nth .row l k) := (hearX_rows h1 h2 hi).1 h
theorem hear_done {m : PMap} {l : List Row} {v : Int} {x : Msg} {k : Nat} (h1 : gwyOk m l = true) (h2 : msgOk m v x = true) (hi : k < l.length) (h : (gwyHearX m l v x).ok = true) (hw : (nth .row l k).who = x.ord.who) : (nth .row (gwyHearX m l v x).b k).busy = false ∧ (nth .row (gwyHearX m l v x).b k).seq = IntKind.i64.wrap ((nth .row l k).seq + 1) ∧ (nth .row (gwyHearX m l v x).b k).code = x.n ∧ x.kind = 3 := (hearX_rows h1 h2 hi).2.1 h hw
theorem hear_moved {m : PMap} {l : List Row} {v : Int} {x : Msg} {k : Nat} (h1 : gwyOk m l = true) (h2 : msgOk m v x = true) (hi : k < l.length) (h : (gwyHearX m l v x).ok = false) (hw : ¬ @Eq Row (nth .row (gwyHearX m l v x).b k) (nth .row l k)) : x.kind = 4 ∧ (nth .row (gwyHearX m l v x).b k).cell = (IntKind.i64.wrap ((nth .row l k).cell + 1)).tmod m.cells ∧ (nth .row (gwyHearX m l v x).b k).busy = true ∧ @Eq Go.Sx.Ord (nth .row (gwyHearX m l v x).b k).ord (nth .row l k).ord := (hearX_rows h1 h2 hi).2.2 h hw
theorem hear_movedD {m : PMap} {l : List Row} {v : Int} {x : Msg} {k : Nat} (h1 : gwyOk m l = true) (h2 : msgOk m v x = true) (hi : k < l.length) (h : (gwyHearX m l v x).ok = false) (hw : decide (@Eq Row (nth .row (gwyHearX m l v x).b k) (nth .row l k)) = false) : x.kind = 4 ∧ (nth .row (gwyHearX m l v x).b k).cell = (IntKind.i64.wrap ((nth .row l k).cell + 1)).tmod m.cells ∧ (nth .row (gwyHearX m l v x).b k).busy = true ∧ decide (@Eq Go.Sx.Ord (nth .row (gwyHearX m l v x).b k).ord (nth .row l k).ord) = true ∧ ¬ m.cells = 0 := by
  have hh := hear_moved h1 h2 hi h (of_decide_eq_false hw)
  refine ⟨hh.1, hh.2.1, hh.2.2.1, decide_eq_true hh.2.2.2, ?_⟩
  have h3 := h2
  simp only [msgOk, decide_eq_true_eq] at h3
  have := h3.2.2.2
  omega
theorem okLawHear : SpecOk1 Tryz.prog 3 sLawGh := spec1 tabOk (ss := [(10, sDrawHearE), (11, sGwyHear), (12, sGwyHear), (13, sIsB), (14, sGwyOk), (15, sMsgOk), (16, sGwyOk)]) ⟨okDrawHearE, okGwyHear, okSGwyHear, okMaBook, okSGwyOk, okSMsgOk, okGwyOk, trivial⟩ rfl rfl <| by
  intro (bs : Th (List Int)) (p : Th Int) ⟨(a : Th (List Int)), u⟩ K _ _ ho h
  obtain ⟨a, rfl⟩ := th_ex a
  refine ⟨annL [(3, 11, ⟨Nat, [], fun σ k => (σ.only [3, 4, 5, 6, 7, 8, 9, 10]).t 11 (vI fun _ => (k : Int)), fun _ k _ => k ≤ 10, fun _ k _ => 10 - k⟩)], noAnn, 20, ?_⟩
  cbv
  repeat' first | ((with_reducible refine fun (k : Nat) => ?_); cbv) | ((with_reducible intro _); cbv) | ((with_reducible show _ ∧ _); (with_reducible apply And.intro))
  all_goals try ((first | (with_reducible refine LoopIn.mk ((0 : Nat)) ?_ ?_) | (with_reducible refine LoopBack.mk ((k + 1 : Nat)) ?_ ?_ ?_)) )
  all_goals try ((with_reducible show matchSt _ _); cbv; (try simp only [and_true, true_and]))
  all_goals try (with_reducible show _ ∧ _; (repeat' (with_reducible apply And.intro)))
  all_goals first | (refine retK h ?_; clear h; simp only [fin0]) | (with_reducible refine Ob.mk ?_; clear h) | (clear h)
  all_goals (try simp only [eta0, RT.bytes] at *)
  all_goals (try dsimp only [RT.ty] at *)
  all_goals (try simp only [ncastH] at *)
  all_goals first | omega | exact wrap_succ (by omega) | exact gwy_zeroH | skip
  all_goals (try simp only [row_beq, ord_beqH2] at *)
  all_goals (try simp only [ord_beqH] at *)
  all_goals first | omega | grind (splits := 20) [hearX_bad, hearX_len, hear_same, hear_done, hear_moved, hearX_again, gwy_zeroH, row_ext] | (have hm := hear_movedD (by assumption) (by assumption) (by assumption) (by assumption) (by assumption); dsimp only [RT.ty] at hm; first | exact hm.2.2.2.2 | exact absurd hm.1 (by assumption) | exact absurd hm.2.1 (by assumption) | exact Bool.noConfusion (hm.2.2.1.symm.trans (by assumption)) | exact Bool.noConfusion (hm.2.2.2.1.symm.trans (by assumption)))
end Go.Proofs.YtfgphaokmjdcbaaGreat
