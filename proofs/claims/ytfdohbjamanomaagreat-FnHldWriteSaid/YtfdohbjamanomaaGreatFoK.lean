/-
  Contracts: a record written by a hold, by the program.
-/
import Derived.Test.YtfdohbjamanomaaGreatFoD
import Derived.Test.YtfdohbjamanomaaGreatFoHs
set_option linter.unusedVariables false
set_option linter.unusedSimpArgs false
namespace Go.Proofs.YtfdohbjamanomaaGreat
open Go.Sx Go.Proofs Go.Mo
set_option maxRecDepth 100000
set_option maxHeartbeats 16000000
set_option linter.unusedSimpArgs false
set_option linter.unusedVariables false

theorem add_eqs {m : PMap} {s : Sto} {a b : Int} {r : Sx.Rec} : (¬ a = s.age → stoAdd m s a b r = ⟨s, 2⟩) ∧ (a = s.age → ¬ b = (s.recs.length : Int) ∨ b = 250 → stoAdd m s a b r = ⟨s, 3⟩) ∧
    (a = s.age → b = (s.recs.length : Int) → ¬ b = 250 → logOk m r = false → stoAdd m s a b r = ⟨s, 4⟩) ∧ (a = s.age → b = (s.recs.length : Int) → ¬ b = 250 → (cllApply m (stoState m s) r).ok = false → stoAdd m s a b r = ⟨s, 4⟩) ∧
    (a = s.age → b = (s.recs.length : Int) → ¬ b = 250 → logOk m r = true → (cllApply m (stoState m s) r).ok = true → stoAdd m s a b r = ⟨⟨s.age, s.base, s.recs ++ [r]⟩, 1⟩) := by
  unfold stoAdd
  refine ⟨fun h1 => if_pos h1, fun h1 h2 => ?_, fun h1 h2 h3 h4 => ?_, fun h1 h2 h3 h4 => ?_, fun h1 h2 h3 h4 h5 => ?_⟩
  · rw [if_neg (fun hh => hh h1), if_pos h2]
  · rw [if_neg (fun hh => hh h1), if_neg (by omega), if_neg (by rw [h4]; rintro ⟨hh, _⟩; cases hh)]
  · rw [if_neg (fun hh => hh h1), if_neg (by omega), if_neg (by rw [h4]; rintro ⟨_, hh⟩; cases hh)]
  · rw [if_neg (fun hh => hh h1), if_neg (by omega), if_pos ⟨h4, h5⟩]
theorem write_one {m : PMap} {g : Hld} {s : Sto} {r : Sx.Rec} {N : Int} {L : List Sx.Rec} (hg : hldOk m g = true) (hs : stoOk m s = true) (hN : N = (stoAdd m s g.age g.count r).n ∧ L = (stoAdd m s g.age g.count r).s.recs) (h1 : N = 1) :
    L = s.recs ++ [r] ∧ logOk m r = true ∧ (0 ≤ g.count ∧ g.count ≤ 250) ∧ s.recs.length ≤ 250 ∧ ((cllApply m g.state r).ok = false → hldWrite m g s r = ⟨g, s, 4, 0⟩) ∧
    ((cllApply m g.state r).ok = true → hldWrite m g s r = ⟨⟨g.age, g.count + 1, (cllApply m g.state r).c⟩, ⟨s.age, s.base, s.recs ++ [r]⟩, 1, (cllApply m g.state r).code⟩) := by
  have hg2 := hldOk_iff.1 hg
  have hs2 := stoOk_iff.1 hs
  have hc : hldOk m g = true ∧ stoOk m s = true := ⟨hg, hs⟩
  rcases add_cases m s g.age g.count r with ⟨_, h2⟩ | ⟨h2, h3, h4, h5, h6, h7, h8⟩
  · omega
  · refine ⟨by rw [hN.2, h2], h7, hg2.2.1, hs2.2.2.1, fun ho => ?_, fun ho => ?_⟩
    · rw [hldWrite, if_pos hc, if_neg (fun hh => hh h3), if_pos ho]
    · rw [hldWrite, if_pos hc, if_neg (fun hh => hh h3), if_neg (by rw [ho]; decide), h2]
theorem write_oth {m : PMap} {g : Hld} {s : Sto} {r : Sx.Rec} {N : Int} {L : List Sx.Rec} (hg : hldOk m g = true) (hs : stoOk m s = true) (hN : N = (stoAdd m s g.age g.count r).n ∧ L = (stoAdd m s g.age g.count r).s.recs) (h1 : ¬ N = 1) :
    L = s.recs ∧ s.recs.length ≤ 250 ∧ hldWrite m g s r = ⟨g, s, N, 0⟩ := by
  have hc : hldOk m g = true ∧ stoOk m s = true := ⟨hg, hs⟩
  have hs2 := stoOk_iff.1 hs
  rcases add_cases m s g.age g.count r with ⟨h2, _⟩ | ⟨h2, h3, _⟩
  · refine ⟨by rw [hN.2, h2], hs2.2.2.1, ?_⟩
    rw [hldWrite, if_pos hc, if_pos (by omega), ← hN.1]
  · omega
theorem okHldWrite : SpecOk1 Tryz.prog 45 sHldWrite := spec1 tabOk (ss := [(40, sHldOk), (31, sStoOk), (88, sCloneH), (85, sCloneS), (52, sCloneC), (84, sState), (16, sLogOk), (70, sFresh), (71, sPlcSide), (120, sPclFrom), (112, sPlace), (113, sToward), (81, sPlcCell), (115, sWlkOut), (119, sWlkPut), (117, sPlcEdge)])
    ⟨okHldOk, okStoOk, okCloneH, okCloneS, okCloneC, okState, okLogOk, okFresh, okPlcSide, okPclFrom, okPlace, okToward, okPlcCell, okWlkOut, okWlkPut, okPlcEdge, trivial⟩ rfl rfl <| by
  intro (bs : Th (List Int)) (p : Th Int) ⟨(m : Th PMap), (g : Th Hld), (s : Th Sto), (r : Th Sx.Rec), u⟩ K _ _ ho h
  obtain ⟨m, rfl⟩ := th_ex m; obtain ⟨g, rfl⟩ := th_ex g; obtain ⟨s, rfl⟩ := th_ex s; obtain ⟨r, rfl⟩ := th_ex r
  refine ⟨noAnn, annL [(90, 3, ⟨Int × List Sx.Rec, [⟨.cell 18954 7, some 9709319, .rcd⟩], fun σ q => (((σ.fgs [9709319]).t 12 (vI fun _ => q.1)).cellC 18954 7 (.own 9709319 1)).row 9709319 1 .rcd (fun _ => q.2), fun _ q _ => q.1 = (stoAdd m s g.age g.count r).n ∧ q.2 = (stoAdd m s g.age g.count r).s.recs, fun _ _ _ => 0⟩)], 20, ?_⟩
  cbv
  repeat' first | ((with_reducible refine fun (q : Int × List Sx.Rec) => ?_); obtain ⟨N, L⟩ := q; cbv) | ((with_reducible intro _); cbv) | ((with_reducible show _ ∧ _); (with_reducible apply And.intro))
  all_goals try (obtain ⟨N, hN⟩ : ∃ N, N = (stoAdd m s g.age g.count r).n := ⟨_, rfl⟩; obtain ⟨L, hL⟩ : ∃ L, L = (stoAdd m s g.age g.count r).s.recs := ⟨_, rfl⟩; with_reducible refine LoopIn.mk ((N, L) : Int × List Sx.Rec) ?_ ?_)
  all_goals try ((first | (with_reducible refine LoopIn.mk ((0 : Nat)) ?_ ?_) | (with_reducible refine LoopBack.mk ((0 : Nat)) ?_ ?_ ?_)) )
  all_goals try ((with_reducible show matchSt _ _); cbv; (try simp only [and_true, true_and]))
  all_goals try (with_reducible show _ ∧ _; (repeat' (with_reducible apply And.intro)))
  all_goals first | (refine retK h ?_; clear h; simp only [fin0]) | (with_reducible refine Ob.mk ?_; clear h) | (clear h)
  all_goals (try simp only [eta0, RT.bytes] at *)
  all_goals (try simp only [Classical.not_not, not_true_eq_false, not_false_eq_true] at *)
  all_goals first
    | exact hN
    | exact hL
    | (rename N = _ ∧ _ => hNL
       have hone := (by assumption : N = 1)
       have hg := (by assumption : hldOk m g = true)
       have hw := write_one hg (by assumption) hNL hone
       have hlo := hw.2.1
       (try have hck := (hldOk_iff.1 hg).2.2)
       (try have hlt := place_ge (l := g.state.wlks) (id := r.ord.who) (by assumption))
       (try simp only [setNth_app, nth_set_eq .wlk hlt, List.set_set, List.length_set, place_set] at *)
       (try simp only [setNth_app] at *)
       (try have hf := @cllOk_facts m g.state hck)
       (try have hwk := @cllOk_wlk m g.state hck)
       (try have hsd := @cllOk_side m g.state hck)
       (try have hlen := cllOk_len hck)
       (try have hps := @plcSide_ne m g.state.cell r.side)
       (try have hsi : r.side.toNat < 2 := by have hh := hps (by assumption); omega)
       (try have hlf := list_first (m := m) (hsd (s := r.side.toNat) hsi).2.2.2)
       (try have hdo := logOk_do (m := m) (r := r) hlo (by assumption))
       (try have hoi := ordOk_iff.1 hdo)
       (try have hpd := place_lt g.state.wlks r.ord.dest)
       (try have hwr := step_wrap (m := m) (c := g.state) (o := r.ord) hck hlt hdo (by assumption))
       (try simp only [hwr] at *)
       (try have hld := place_ge (l := g.state.wlks) (id := r.ord.dest) (by assumption))
       (try have hne := place_ne (l := g.state.wlks) (a := r.ord.who) (b := r.ord.dest) (by assumption) (by assumption) (ord_give hdo (by assumption)))
       (try simp only [set_swap hne, nth_set_ne .wlk hne, nth_set_ne .wlk hne.symm, nth_set_eq .wlk hlt, nth_set_eq .wlk hld] at *)
       (try have hin := logOk_in (m := m) (r := r) hlo (by assumption))
       (try have hpi := pclOk_iff.1 hin)
       (try have hwg := gwrap (c := g.state) (p := r.pcl) hck hin)
       (try simp only [hwg] at *)
       (try have hfr := @fresh_place g.state r.ord (by assumption))
       first | grind [zeroS, zeroC, zeroH, cllApply, cllRecv, cllRel, insNext, relOuts, cllDo, doKind, doStep, doGive, doDrop, doPick, doThrow, cllFin, sendOuts, sendNext, wrap_id, place_lt, place_ge, list_first] | grind (splits := 30) [zeroS, zeroC, zeroH, cllApply, cllRecv, cllRel, insNext, relOuts, cllDo, doKind, doStep, doGive, doDrop, doPick, doThrow, cllFin, sendOuts, sendNext, wrap_id, place_lt, place_ge, list_first])
    | (rename N = _ ∧ _ => hNL
       have hone := (by assumption : ¬ N = 1)
       have hw := write_oth (by assumption) (by assumption) hNL hone
       grind [zeroS, zeroC, zeroH])
    | (have hso := (by assumption : stoOk m s = true)
       have hck := state_ok hso
       have hsl := (stoOk_iff.1 hso).2.2.1
       have hap := @add_eqs m s g.age g.count r
       (try generalize hx : stoState m s = x at *)
       (try have hlo := (by assumption : logOk m r = true))
       (try have hlt := place_ge (l := x.wlks) (id := r.ord.who) (by assumption))
       (try simp only [setNth_app, nth_set_eq .wlk hlt, List.set_set, List.length_set, place_set] at *)
       (try simp only [setNth_app] at *)
       (try have hf := @cllOk_facts m x hck)
       (try have hwk := @cllOk_wlk m x hck)
       (try have hsd := @cllOk_side m x hck)
       (try have hlen := cllOk_len hck)
       (try have hps := @plcSide_ne m x.cell r.side)
       (try have hsi : r.side.toNat < 2 := by have hh := hps (by assumption); omega)
       (try have hlf := list_first (m := m) (hsd (s := r.side.toNat) hsi).2.2.2)
       (try have hdo := logOk_do (m := m) (r := r) hlo (by assumption))
       (try have hoi := ordOk_iff.1 hdo)
       (try have hpd := place_lt x.wlks r.ord.dest)
       (try have hwr := step_wrap (m := m) (c := x) (o := r.ord) hck hlt hdo (by assumption))
       (try simp only [hwr] at *)
       (try have hld := place_ge (l := x.wlks) (id := r.ord.dest) (by assumption))
       (try have hne := place_ne (l := x.wlks) (a := r.ord.who) (b := r.ord.dest) (by assumption) (by assumption) (ord_give hdo (by assumption)))
       (try simp only [set_swap hne, nth_set_ne .wlk hne, nth_set_ne .wlk hne.symm, nth_set_eq .wlk hlt, nth_set_eq .wlk hld] at *)
       (try have hin := logOk_in (m := m) (r := r) hlo (by assumption))
       (try have hpi := pclOk_iff.1 hin)
       (try have hwg := gwrap (c := x) (p := r.pcl) hck hin)
       (try simp only [hwg] at *)
       (try have hfr := @fresh_place x r.ord (by assumption))
       grind [zeroS, zeroC, zeroH, cllApply, cllRecv, cllRel, insNext, relOuts, cllDo, doKind, doStep, doGive, doDrop, doPick, doThrow, cllFin, sendOuts, sendNext, wrap_id, place_lt, place_ge, list_first])
    | grind [zeroS, zeroC, zeroH, hldWrite]
    | fail

end Go.Proofs.YtfdohbjamanomaaGreat
