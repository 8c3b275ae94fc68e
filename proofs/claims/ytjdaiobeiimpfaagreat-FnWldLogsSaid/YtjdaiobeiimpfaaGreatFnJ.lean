/-
  Contracts: the document's order, done in a cell.
-/
import Derived.Test.YtjdaiobeiimpfaaGreatGnF
import Derived.Test.YtjdaiobeiimpfaaGreatM1
set_option linter.unusedVariables false
set_option linter.unusedSimpArgs false
set_option maxRecDepth 100000
set_option maxHeartbeats 8000000
namespace Go.Proofs.YtjdaiobeiimpfaaGreat
open Go.Sx Go.Proofs Go.Mo
noncomputable def sL5Do : Sx.Spec := ⟨false, true, [.map, .row .cll, .ord], [nCll, [none]], fun _ _ ⟨m, c, o, _⟩ => .asrt (fun _ => cllOk (m ()) (c ()) = true ∧ ordOk (o ()) = true) (.ret (.tup [oCll fun _ => (cllDo (m ()) (c ()) (o ())).c, vI fun _ => (cllDo (m ()) (c ()) (o ())).code], fun _ => 0))⟩
theorem okL5Do : SpecOk1 Tryz.prog 209 sL5Do := spec1 tabOk (ss := [(170, sCloneC), (201, sWlkFind), (147, sWlkPut), (183, sWlkOut), (172, sPlcCell), (177, sPlcEdge)]) ⟨okL5Copy, okSWlkFind, okSWlkPut, okSWlkOut, okSPlcCell, okSPlcEdge, trivial⟩ rfl rfl <| by
 intro (bs : Th (List Int)) (p : Th Int) ⟨(m : Th PMap), (c : Th Cll), (o : Th Sx.Ord), u⟩ K _ _ ho h
 obtain ⟨m, rfl⟩ := th_ex m; obtain ⟨c, rfl⟩ := th_ex c; obtain ⟨o, rfl⟩ := th_ex o
 obtain ⟨hpre, h⟩ := h
 have hpre := hpre.out
 refine ⟨noAnn, noAnn, 20, ?_⟩
 cbv
 repeat' first | ((with_reducible intro _); cbv) | (with_reducible refine And.intro ?_ ?_)
 all_goals first | (refine retK h ?_; clear h; simp only [fin0]) | (with_reducible refine Ob.mk ?_; clear h) | (clear h)
 all_goals (try simp only [eta0, RT.bytes] at *)
 all_goals have hcl := hpre.1
 all_goals have hsr := cllOk_srt hpre.1
 all_goals (try have hh : wlkHas c.wlks o.who = true := by assumption)
 all_goals (try have hwb := cllOk_wlk hpre.1 (has_lt hh).1)
 all_goals (try simp only [setNth_app, find_w hh, id_w hh, put_w hsr hh, put_w1 hsr hh, has_w1 hh, find_w1 hh, has_out, Bool.false_eq_true] at *)
 all_goals (try have ht : wlkHas c.wlks o.dest = true := by assumption)
 all_goals (try have hne := ord_give hpre.2 (by assumption))
 all_goals (try simp only [find_t hh ht hne, find_w ht, id_w ht, put_t hsr hh ht, has_w2 hh ht, find_w2 hh ht hne, put_w2 hsr hh ht hne, List.length_set] at *)
 all_goals (try have hws := step_wrap0 (o := o) hpre.1 (has_lt hh).1 (by assumption))
 all_goals (try have hws := step_wrap1 (o := o) hpre.1 (has_lt hh).1 hpre.2 (by assumption) (by assumption))
 all_goals (try simp only [hws] at *)
 all_goals have hlen := cllOk_len hpre.1
 all_goals have hf := cllOk_facts hpre.1
 all_goals have hoi := ordOk_iff.1 hpre.2
 all_goals have hsd := @cllOk_side m c hpre.1
 all_goals (try have hid := id_w hh)
 all_goals (try have hpl := has_lt hh)
 all_goals (try have hidt := id_w ht)
 all_goals (try have hplt := has_lt ht)
 all_goals (try have hwd := cllOk_wlk hpre.1 (has_lt ht).1)
 all_goals grind [cllDo, doKind, doStep, doGive, doDrop, doPick, doThrow, cllFin, sendOuts, sendNext, wrap_id, has_neg, has_lt, wlkOut_len, wlkPut_len]
end Go.Proofs.YtjdaiobeiimpfaaGreat
