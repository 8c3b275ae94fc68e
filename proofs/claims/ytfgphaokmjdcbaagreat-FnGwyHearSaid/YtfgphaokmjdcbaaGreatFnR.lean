/-
  Contracts: holds put and let go of, the reference's way.
-/
import Derived.Test.YtfgphaokmjdcbaaGreatGnE
import Derived.Test.YtfgphaokmjdcbaaGreatM2
import Derived.Test.YtfgphaokmjdcbaaGreatFnQ
import Derived.Test.YtfgphaokmjdcbaaGreatFnK
set_option linter.unusedVariables false
set_option linter.unusedSimpArgs false
namespace Go.Proofs.YtfgphaokmjdcbaaGreat
open Go.Sx Go.Proofs Go.Mo
set_option maxRecDepth 100000
set_option maxHeartbeats 8000000
set_option linter.unusedSimpArgs false
set_option linter.unusedVariables false

noncomputable def sWithout : Sx.Spec := ⟨false, false, [.row .srv, .int .i64], [[none, some .hld, some .gst]], fun _ _ ⟨s, c, _⟩ => .asrt (fun _ => (s ()).holds.length ≤ 9) (.ret (rAs (encSrv fun _ => ⟨(s ()).up, hldDel (s ()).holds (c ()), (s ()).ghosts⟩), fun _ => 0))⟩
noncomputable def sWith : Sx.Spec := ⟨false, false, [.row .srv, .row .hld], [[none, some .hld, some .gst]], fun _ _ ⟨s, h, _⟩ => .asrt (fun _ => (s ()).holds.length ≤ 9) (.ret (rAs (encSrv fun _ => ⟨(s ()).up, hldPutS (s ()).holds (h ()), (s ()).ghosts⟩), fun _ => 0))⟩

theorem okL11Without : SpecOk1 Tryz.prog 122 sWithout := spec1 tabOk (ss := []) trivial rfl rfl <| by
  intro (bs : Th (List Int)) (p : Th Int) ⟨(s : Th Srv), (c : Th Int), u⟩ K _ _ ho h
  obtain ⟨s, rfl⟩ := th_ex s; obtain ⟨c, rfl⟩ := th_ex c
  obtain ⟨ha, h⟩ := h
  have ha := ha.out
  have hl := hldDelTo_len s.holds c
  refine ⟨annL [(122, 3, ⟨Nat, [⟨.tmp 5 0, some 1000000000000008, .hld⟩], fun σ k => (((σ.fg 8).t 6 (vI fun _ => (k : Int))).t 5 (vO 8 1)).h 8 (1, .row false 0 .hld (fun _ => hldDelTo s.holds c k)), fun _ k _ => k ≤ s.holds.length, fun _ k _ => s.holds.length - k⟩)], noAnn, 20, ?_⟩
  cbv
  repeat' first | ((with_reducible refine fun (k : Nat) => ?_); cbv) | ((with_reducible intro _); cbv) | ((with_reducible show _ ∧ _); (with_reducible apply And.intro))
  all_goals try ((first | (with_reducible refine LoopIn.mk ((0 : Nat)) ?_ ?_) | (with_reducible refine LoopBack.mk ((k + 1 : Nat)) ?_ ?_ ?_)) )
  all_goals try ((with_reducible show matchSt _ _); cbv; (try simp only [and_true, true_and]))
  all_goals try (with_reducible show _ ∧ _; (repeat' (with_reducible apply And.intro)))
  all_goals first | (refine retK h ?_; clear h; simp only [fin0]) | (with_reducible refine Ob.mk ?_; clear h) | (clear h)
  all_goals (try simp only [eta0, RT.bytes] at *)
  all_goals grind [wrap_succ, hldDelTo_zero, hldDelTo_yes, hldDelTo_no, hldDelTo_all]
theorem okL11With : SpecOk1 Tryz.prog 118 sWith := spec1 tabOk (ss := [(122, sWithout)]) ⟨okL11Without, trivial⟩ rfl rfl <| by
  intro (bs : Th (List Int)) (p : Th Int) ⟨(s : Th Srv), (g : Th Hld), u⟩ K _ _ ho h
  obtain ⟨s, rfl⟩ := th_ex s; obtain ⟨g, rfl⟩ := th_ex g
  obtain ⟨ha, h⟩ := h
  have ha := ha.out
  have hd := hldDel_len s.holds g.state.cell
  have hl := hpTo_len (hldDel s.holds g.state.cell) g
  refine ⟨annL [(118, 5, ⟨Nat, [⟨.tmp 6 0, some 1000000000000016, .hld⟩], fun σ k => ((((σ.fg 16).t 8 (vI fun _ => (k : Int))).t 6 (vO 16 1)).t 7 (vB fun _ => (hpTo (hldDel s.holds g.state.cell) g k).d)).h 16 (1, .row false 0 .hld (fun _ => (hpTo (hldDel s.holds g.state.cell) g k).l)), fun _ k _ => k ≤ (hldDel s.holds g.state.cell).length, fun _ k _ => (hldDel s.holds g.state.cell).length - k⟩)], noAnn, 20, ?_⟩
  cbv
  repeat' first | ((with_reducible refine fun (k : Nat) => ?_); cbv) | ((with_reducible intro _); cbv) | ((with_reducible show _ ∧ _); (with_reducible apply And.intro))
  all_goals try ((first | (with_reducible refine LoopIn.mk ((0 : Nat)) ?_ ?_) | (with_reducible refine LoopBack.mk ((k + 1 : Nat)) ?_ ?_ ?_)) )
  all_goals try ((with_reducible show matchSt _ _); cbv; (try simp only [and_true, true_and]))
  all_goals try (with_reducible show _ ∧ _; (repeat' (with_reducible apply And.intro)))
  all_goals first | (refine retK h ?_; clear h; simp only [fin0]) | (with_reducible refine Ob.mk ?_; clear h) | (clear h)
  all_goals (try simp only [eta0, RT.bytes] at *)
  all_goals grind (splits := 30) [wrap_succ, hpTo_zero, hpTo_succ, hpStep, hpOut, hldPutS]
end Go.Proofs.YtfgphaokmjdcbaaGreat

/-
  Contracts: what is drawn: cells.
-/
namespace Go.Proofs.YtfgphaokmjdcbaaGreat
open Go.Sx Go.Proofs Go.Mo
set_option maxRecDepth 100000
set_option maxHeartbeats 8000000
set_option linter.unusedSimpArgs false
set_option linter.unusedVariables false

end Go.Proofs.YtfgphaokmjdcbaaGreat
