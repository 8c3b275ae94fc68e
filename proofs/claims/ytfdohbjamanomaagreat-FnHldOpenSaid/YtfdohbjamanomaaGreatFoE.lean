/-
  Contracts: a record written at a store's end, by the program.
-/
import Derived.Test.YtfdohbjamanomaaGreatFoD
import Derived.Test.YtfdohbjamanomaaGreatM2
set_option linter.unusedVariables false
set_option linter.unusedSimpArgs false
namespace Go.Proofs.YtfdohbjamanomaaGreat
open Go.Sx Go.Proofs Go.Mo
set_option maxRecDepth 100000
set_option maxHeartbeats 16000000
set_option linter.unusedSimpArgs false
set_option linter.unusedVariables false

theorem append_eqs {m : PMap} {s : Sto} {a b : Int} {r : Sx.Rec} (h : stoOk m s = true) : (¬ a = s.age → stoAppend m s a b r = ⟨s, 2⟩) ∧ (a = s.age → ¬ b = (s.recs.length : Int) ∨ b = 250 → stoAppend m s a b r = ⟨s, 3⟩) ∧
    (a = s.age → b = (s.recs.length : Int) → ¬ b = 250 → logOk m r = false → stoAppend m s a b r = ⟨s, 4⟩) ∧ (a = s.age → b = (s.recs.length : Int) → ¬ b = 250 → (cllApply m (stoState m s) r).ok = false → stoAppend m s a b r = ⟨s, 4⟩) ∧
    (a = s.age → b = (s.recs.length : Int) → ¬ b = 250 → logOk m r = true → (cllApply m (stoState m s) r).ok = true → stoAppend m s a b r = ⟨⟨s.age, s.base, s.recs ++ [r]⟩, 1⟩) := by
  rw [append_add h]
  unfold stoAdd
  refine ⟨fun h1 => if_pos h1, fun h1 h2 => ?_, fun h1 h2 h3 h4 => ?_, fun h1 h2 h3 h4 => ?_, fun h1 h2 h3 h4 h5 => ?_⟩
  · rw [if_neg (fun hh => hh h1), if_pos h2]
  · rw [if_neg (fun hh => hh h1), if_neg (by omega), if_neg (by rw [h4]; rintro ⟨hh, _⟩; cases hh)]
  · rw [if_neg (fun hh => hh h1), if_neg (by omega), if_neg (by rw [h4]; rintro ⟨_, hh⟩; cases hh)]
  · rw [if_neg (fun hh => hh h1), if_neg (by omega), if_pos ⟨h4, h5⟩]
theorem append_zero {m : PMap} {s : Sto} {a b : Int} {r : Sx.Rec} (h : stoOk m s = false) : stoAppend m s a b r = ⟨zeroS, 0⟩ := by rw [stoAppend, if_neg (by rw [h]; decide)]
theorem okStoAppend : SpecOk1 Tryz.prog 33 sStoAppend := spec1 tabOk (ss := [(31, sStoOk), (85, sCloneS), (84, sState), (16, sLogOk), (70, sFresh), (71, sPlcSide), (120, sPclFrom), (112, sPlace), (113, sToward), (81, sPlcCell), (115, sWlkOut), (119, sWlkPut), (117, sPlcEdge)])
    ⟨okStoOk, okCloneS, okState, okLogOk, okFresh, okPlcSide, okPclFrom, okPlace, okToward, okPlcCell, okWlkOut, okWlkPut, okPlcEdge, trivial⟩ rfl rfl <| by
  intro (bs : Th (List Int)) (p : Th Int) ⟨(m : Th PMap), (s : Th Sto), (a : Th Int), (b : Th Int), (r : Th Sx.Rec), u⟩ K _ _ ho h
  obtain ⟨m, rfl⟩ := th_ex m; obtain ⟨s, rfl⟩ := th_ex s; obtain ⟨a, rfl⟩ := th_ex a; obtain ⟨b, rfl⟩ := th_ex b; obtain ⟨r, rfl⟩ := th_ex r
  refine ⟨noAnn, noAnn, 20, ?_⟩
  cbv
  repeat' first | ((with_reducible refine fun (k : Nat) => ?_); cbv) | ((with_reducible refine fun (q : Nat × Unit) => ?_); obtain ⟨s, _⟩ := q; cbv) | ((with_reducible refine fun (q : Nat × Nat) => ?_); obtain ⟨s, k⟩ := q; cbv) | ((with_reducible intro _); cbv) | ((with_reducible show _ ∧ _); (with_reducible apply And.intro))
  all_goals first | (refine retK h ?_; clear h; simp only [fin0]) | (with_reducible refine Ob.mk ?_; clear h) | (clear h)
  all_goals (try simp only [eta0, RT.bytes] at *)
  all_goals (try have hso := (by assumption : stoOk m s = true))
  all_goals (try have hck := state_ok hso)
  all_goals (try have hsl := (stoOk_iff.1 hso).2.2.1)
  all_goals (try have hap := append_eqs (a := a) (b := b) (r := r) hso)
  all_goals (try have hz := append_zero (a := a) (b := b) (r := r) (by assumption : stoOk m s = false))
  all_goals (try generalize hx : stoState m s = x at *)
  all_goals (try have hlo := (by assumption : logOk m r = true))
  all_goals (try have hlt := place_ge (l := x.wlks) (id := r.ord.who) (by assumption))
  all_goals (try simp only [setNth_app, nth_set_eq .wlk hlt, List.set_set, List.length_set, place_set] at *)
  all_goals (try simp only [setNth_app] at *)
  all_goals (try have hf := @cllOk_facts m x hck)
  all_goals (try have hwk := @cllOk_wlk m x hck)
  all_goals (try have hsd := @cllOk_side m x hck)
  all_goals (try have hlen := cllOk_len hck)
  all_goals (try have hps := @plcSide_ne m x.cell r.side)
  all_goals (try have hdo := logOk_do (m := m) (r := r) hlo (by assumption))
  all_goals (try have hoi := ordOk_iff.1 hdo)
  all_goals (try have hpd := place_lt x.wlks r.ord.dest)
  all_goals (try have hwr := step_wrap (m := m) (c := x) (o := r.ord) hck hlt hdo (by assumption))
  all_goals (try simp only [hwr] at *)
  all_goals (try have hld := place_ge (l := x.wlks) (id := r.ord.dest) (by assumption))
  all_goals (try have hne := place_ne (l := x.wlks) (a := r.ord.who) (b := r.ord.dest) (by assumption) (by assumption) (ord_give hdo (by assumption)))
  all_goals (try simp only [set_swap hne, nth_set_ne .wlk hne, nth_set_ne .wlk hne.symm, nth_set_eq .wlk hlt, nth_set_eq .wlk hld] at *)
  all_goals (try have hin := logOk_in (m := m) (r := r) hlo (by assumption))
  all_goals (try have hpi := pclOk_iff.1 hin)
  all_goals (try have hwg := gwrap (c := x) (p := r.pcl) hck hin)
  all_goals (try simp only [hwg] at *)
  all_goals (try have hfr := @fresh_place x r.ord (by assumption))
  all_goals (try have hlf := fun (h2 : r.side.toNat < 2) h0 => list_first (m := m) (hsd (s := r.side.toNat) h2).2.2.2 h0)
  all_goals first | grind [zeroS, zeroC, cllApply, cllRecv, cllRel, insNext, relOuts, cllDo, doKind, doStep, doGive, doDrop, doPick, doThrow, cllFin, sendOuts, sendNext, wrap_id, place_lt, place_ge, list_first] | grind (splits := 30) [zeroS, zeroC, cllApply, cllRecv, cllRel, insNext, relOuts, cllDo, doKind, doStep, doGive, doDrop, doPick, doThrow, cllFin, sendOuts, sendNext, wrap_id, place_lt, place_ge, list_first]

end Go.Proofs.YtfdohbjamanomaaGreat
