/-
  Contracts: an order done in a cell.
-/
import Derived.Test.YtfdohbjamanomaaGreatFnFb
import Derived.Test.YtfdohbjamanomaaGreatM1
set_option linter.unusedVariables false
set_option linter.unusedSimpArgs false
namespace Go.Proofs.YtfdohbjamanomaaGreat
open Go.Sx Go.Proofs Go.Mo
set_option maxRecDepth 100000
set_option maxHeartbeats 8000000
set_option linter.unusedSimpArgs false
set_option linter.unusedVariables false


theorem okCllDo : SpecOk1 Tryz.prog 20 sCllDo := spec1 tabOk (ss := [(27, sCllOk), (68, sOrdOk), (52, sCloneC), (112, sPlace), (113, sToward), (81, sPlcCell), (115, sWlkOut), (117, sPlcEdge)]) ⟨okCllOk, okOrdOk, okCloneC, okPlace, okToward, okPlcCell, okWlkOut, okPlcEdge, trivial⟩ rfl rfl <| by
  intro (bs : Th (List Int)) (p : Th Int) ⟨(m : Th PMap), (c : Th Cll), (o : Th Sx.Ord), u⟩ K _ _ ho h
  obtain ⟨m, rfl⟩ := th_ex m; obtain ⟨c, rfl⟩ := th_ex c; obtain ⟨o, rfl⟩ := th_ex o
  refine ⟨noAnn, noAnn, 20, ?_⟩
  cbv
  repeat' first | ((with_reducible refine fun (k : Nat) => ?_); cbv) | ((with_reducible refine fun (q : Nat × Unit) => ?_); obtain ⟨s, _⟩ := q; cbv) | ((with_reducible refine fun (q : Nat × Nat) => ?_); obtain ⟨s, k⟩ := q; cbv) | ((with_reducible intro _); cbv) | ((with_reducible show _ ∧ _); (with_reducible apply And.intro))
  all_goals first | (refine retK h ?_; clear h; simp only [fin0]) | (with_reducible refine Ob.mk ?_; clear h) | (clear h)
  all_goals (try simp only [eta0, RT.bytes] at *)
  all_goals (try have hlt := place_ge (l := c.wlks) (id := o.who) (by assumption))
  all_goals (try simp only [setNth_app, nth_set_eq .wlk hlt, List.set_set, List.length_set, place_set] at *)
  all_goals have hf := @cllOk_facts m c
  all_goals have hoi := @ordOk_iff o
  all_goals have hwk := @cllOk_wlk m c
  all_goals have hsd := @cllOk_side m c
  all_goals have hpd := place_lt c.wlks o.dest
  all_goals (try have hwr := step_wrap (m := m) (c := c) (o := o) (by assumption) hlt (by assumption) (by assumption))
  all_goals (try simp only [hwr] at *)
  all_goals (try have hld := place_ge (l := c.wlks) (id := o.dest) (by assumption))
  all_goals (try have hne := place_ne (l := c.wlks) (a := o.who) (b := o.dest) (by assumption) (by assumption) (ord_give (by assumption) (by assumption)))
  all_goals (try simp only [set_swap hne, nth_set_ne .wlk hne, nth_set_ne .wlk hne.symm, nth_set_eq .wlk hlt, nth_set_eq .wlk hld] at *)
  all_goals grind [cllDoX, cllDo, doKind, doStep, doGive, doDrop, doPick, doThrow, cllFin, sendOuts, sendNext, zeroC, wrap_id, place_lt, place_ge]

end Go.Proofs.YtfdohbjamanomaaGreat
