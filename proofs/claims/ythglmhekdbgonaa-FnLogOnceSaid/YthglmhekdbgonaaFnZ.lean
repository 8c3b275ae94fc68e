/-
  The law: in a log that fits no order stands twice.
-/
import Derived.Test.YthglmhekdbgonaaFnX
import Derived.Test.YthglmhekdbgonaaFnY
import Derived.Test.YthglmhekdbgonaaM2
set_option linter.unusedVariables false
set_option linter.unusedSimpArgs false
namespace Go.Proofs.Ythglmhekdbgonaa
open Go.Sx Go.Proofs Go.Mo
set_option maxRecDepth 100000
set_option maxHeartbeats 8000000
set_option linter.unusedSimpArgs false
set_option linter.unusedVariables false

noncomputable def sLaw1 : Sx.Spec := ⟨false, true, [.list .byte], [], fun _ _ _ => .ret (vB fun _ => true, fun _ => 0)⟩
def folded (l : List Sx.Rec) (n : Int) : Prop := ∃ m c, n = (logFold m c l).n
/-- Temporaries of which nothing is known. -/
def St.uns (σ : St) : List Nat → St
  | [] => σ
  | d :: ds => St.uns (σ.t d (.one .unk)) ds
theorem folded_le {l : List Sx.Rec} {n : Int} (h : folded l n) : 0 ≤ n ∧ n ≤ l.length ∧ n ≤ 250 := by
  obtain ⟨m, c, rfl⟩ := h
  exact logFold_le m c l
theorem folded_once {l : List Sx.Rec} {n : Int} {k : Nat} (h : folded l n) (hk : (k : Int) < n) (hd : (nth .rcd l k).kind = 1) (hb : backTo l n.toNat = false) : logCount (l.take n.toNat) (nth .rcd l k).ord.who (nth .rcd l k).ord.seq = 1 := by
  obtain ⟨m, c, rfl⟩ := h
  exact logFold_once hk hd hb
theorem count_one (r : Sx.Rec) (h : r.kind = 1) : logCount [r] r.ord.who r.ord.seq = 1 := by
  rw [logCount, List.length_singleton, cntTo_yes (by simp) (by simp [nth, h]), cntTo_zero]


theorem okLogOnce : SpecOk1 Try.prog 5 sLaw1 := spec1 tabOk (ss := [(19, sDrawFold), (20, sLogFold), (21, sSLogFold), (22, sLogCount), (23, sLogCount)])
    ⟨okDrawFold, okLogFold, okSLogFold, okLogCount, okSLogCount, trivial⟩ rfl rfl <| by
  intro (bs : Th (List Int)) (p : Th Int) ⟨(a : Th (List Int)), u⟩ K _ _ ho h
  obtain ⟨a, rfl⟩ := th_ex a
  refine ⟨annL [(5, 10, ⟨List Sx.Rec × Int × Nat, [], fun σ g => ((((St.uns σ [18, 20, 24, 28, 31, 35]).t 5 (vL .rcd fun _ => g.1)).t 7 (vI fun _ => g.2.1)).t 11 (vI fun _ => (g.2.2 : Int))).t 10 (vB fun _ => backTo g.1 g.2.2), fun _ g _ => folded g.1 g.2.1 ∧ (g.2.2 : Int) ≤ g.2.1, fun _ g _ => g.2.1.toNat - g.2.2⟩),
    (5, 14, ⟨List Sx.Rec × Int × Bool × Nat, [], fun σ g => ((((St.uns σ [18, 20, 24, 28, 31, 35]).t 5 (vL .rcd fun _ => g.1)).t 7 (vI fun _ => g.2.1)).t 10 (vB fun _ => g.2.2.1)).t 12 (vI fun _ => (g.2.2.2 : Int)), fun _ g _ => folded g.1 g.2.1 ∧ (g.2.2.2 : Int) ≤ g.2.1 ∧ g.2.2.1 = backTo g.1 g.2.1.toNat, fun _ g _ => g.2.1.toNat - g.2.2.2⟩)], noAnn, 20, ?_⟩
  cbv
  repeat' first | ((with_reducible refine fun (g : List Sx.Rec × Int × Nat) => ?_); obtain ⟨gl, gn, gk⟩ := g; cbv) | ((with_reducible refine fun (g : List Sx.Rec × Int × Bool × Nat) => ?_); obtain ⟨gl, gn, gb, gk⟩ := g; cbv) | ((with_reducible intro _); cbv) | ((with_reducible show _ ∧ _); (with_reducible apply And.intro))
  all_goals try (first | (rename_i x1 x2 x3 b4 x5 b6 b7 b8 l hh; obtain ⟨N, hN⟩ : ∃ N, N = (logFold ⟨x1, x2⟩ ⟨x3, b4, x5, b6, b7, b8⟩ l).n := ⟨_, rfl⟩; with_reducible refine LoopIn.mk ((l, N, 0) : List Sx.Rec × Int × Nat) ?_ ?_) |
    (obtain ⟨B, hB⟩ : ∃ B, B = backTo gl gk := ⟨_, rfl⟩; with_reducible refine LoopIn.mk ((gl, gn, B, 0) : List Sx.Rec × Int × Bool × Nat) ?_ ?_) |
    (with_reducible refine LoopBack.mk ((gl, gn, gk + 1) : List Sx.Rec × Int × Nat) ?_ ?_ ?_) |
    (with_reducible refine LoopBack.mk ((gl, gn, gb, gk + 1) : List Sx.Rec × Int × Bool × Nat) ?_ ?_ ?_))
  all_goals try ((first | (with_reducible refine LoopIn.mk ((0 : Nat)) ?_ ?_) | (with_reducible refine LoopBack.mk ((0 : Nat)) ?_ ?_ ?_)) )
  all_goals try ((with_reducible show matchSt _ _); cbv; (try simp only [and_true, true_and]))
  all_goals try (with_reducible show _ ∧ _; (repeat' (with_reducible apply And.intro)))
  all_goals first | (refine retK h ?_; clear h; simp only [vB, vI, vL, vW, cI, oMap, oWlk, oOrd, oPcl, oRec, oCll, rCll, oSto, oHld, oGst, oArb, oMsg, oSrv, oRow, oNote, oEvt, oOW, oOne, oWld, encMap, encWlk, encOrd, encPcl, encRec, encCll, encSto, encHld, encGst, encArb, encMsg, encSrv, encRow, encNote, encEvt, encOW, encOne, encWld, oAs, rAs, oA, List.map_cons, List.map_nil, C.ownd.injEq, A.list.injEq, heq_eq_eq, SB.val, Prod.mk.injEq, V.one.injEq, V.agg.injEq, V.tup.injEq, List.cons.injEq, C.at.injEq, A.bool.injEq, A.int.injEq, SB.of.injEq, th_eq, thp_eq, and_true, true_and]) | (with_reducible refine Ob.mk ?_; clear h) | (clear h)
  all_goals (try simp only [eta_map, eta_wlk, eta_ord, eta_pcl, eta_cll, eta_rec, eta_sto, eta_hld, eta_gst, eta_arb, eta_msg, eta_srv, eta_row, eta_note, eta_evt, eta_ow, eta_one, eta_wld, Int.toNat_natCast, Nat.succ_eq_add_one, decide_eq_true_eq, decide_eq_false_iff_not, Int.ofNat_lt, Int.ofNat_le, Int.natCast_pos, Bool.not_eq_true', Bool.not_eq_false', castL_self, SB.val, evT, RT.bytes, List.length_append, List.length_cons, List.length_nil] at *)
  all_goals (try simp only [Int.toNat_zero, List.drop_zero] at *)
  all_goals (try rename folded gl gn ∧ _ => hcn)
  all_goals (try have hfl := folded_le hcn.1)
  all_goals (try have hfN : folded l N := ⟨_, _, hN⟩)
  all_goals (try have hfM := folded_le hfN)
  all_goals first | exact decide_eq_true (congrArg (Nat.cast : Nat → Int) (count_one ⟨1, ⟨2, 3, 0, 0, 0⟩, 0, ⟨0, 0, ⟨0, 0, 0, 0, 0⟩, 0⟩, 0⟩ rfl)) | grind [backTo_zero, backTo_succ, wlkIn1, folded_once, folded_le, count_one, wrap_succ]

end Go.Proofs.Ythglmhekdbgonaa
