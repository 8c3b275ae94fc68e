/-
  Contract: a record applied to the cell that a pointer shows.
-/
import Derived.Test.YtjdaiobeiimpfaaGreatGnF
import Derived.Test.YtjdaiobeiimpfaaGreatFoE
set_option linter.unusedVariables false
set_option linter.unusedSimpArgs false
set_option maxRecDepth 100000
set_option maxHeartbeats 16000000
namespace Go.Proofs.YtjdaiobeiimpfaaGreat
open Go.Sx Go.Proofs Go.Mo
noncomputable def sApplyP : Sx.Io := ⟨.row .cll, true, [.map, .row .rcd], [], fun c ⟨m, r, _⟩ => .asrt (fun _ => cllOk (m ()) (c ()) = true ∧ logOk (m ()) (r ()) = true) (.ret (.tup [vI fun _ => (cllApply (m ()) (c ()) (r ())).code, vB fun _ => (cllApply (m ()) (c ()) (r ())).ok], fun _ => (cllApply (m ()) (c ()) (r ())).c))⟩
theorem okApplyP : SpecOk1 Tryz.prog 181 (ioX sApplyP) := io1 tabOk (ss := [(213, sFresh), (225, sPlace), (139, sToward), (142, sPlcCell), (234, sWlkOut), (143, sPlcEdge), (93, sPlcSide), (236, sWlkPut), (237, sPclFrom)]) ⟨okFresh, okPlace, okToward, okPlcCell, okWlkOut, okPlcEdge, okPlcSide, okWlkPut, okPclFrom, trivial⟩ rfl rfl <| by
 intro (x : Th Cll) ⟨(m : Th PMap), (r : Th Sx.Rec), u⟩ K _ ho h
 obtain ⟨x, rfl⟩ := th_ex x; obtain ⟨m, rfl⟩ := th_ex m; obtain ⟨r, rfl⟩ := th_ex r
 obtain ⟨ha, h⟩ := h
 have ha := ha.out
 have hck : cllOk m x = true := ha.1
 have hlo : logOk m r = true := ha.2
 clear ha
 refine ⟨noAnn, noAnn, 20, ?_⟩
 cbv
 repeat' first | ((with_reducible intro _); cbv) | (with_reducible refine And.intro ?_ ?_)
 all_goals first | refine ioK h ?_ ?_ | (with_reducible refine Ob.mk ?_; clear h) | (clear h)
 all_goals (try clear h)
 all_goals (try clear K)
 all_goals (try simp only [fin0])
 all_goals (try simp only [eta0, RT.bytes] at *)
 all_goals (try have hlt := place_ge (l := x.wlks) (id := r.ord.who) (by assumption))
 all_goals (try simp only [setNth_app, nth_set_eq .wlk hlt, List.set_set, List.length_set, place_set] at *)
 all_goals (try simp only [setNth_app] at *)
 all_goals (try have hf := @cllOk_facts m x hck)
 all_goals (try have hwk := @cllOk_wlk m x hck)
 all_goals (try have hsd := @cllOk_side m x hck)
 all_goals (try have hlen := cllOk_len hck)
 all_goals (try have hps := @plcSide_ne m x.cell r.side)
 all_goals (try have hdo := logOk_do (m := m) (r := r) hlo (by assumption))
 all_goals (try have hoi := ordOk_iff.1 hdo)
 all_goals (try have hpd := place_lt x.wlks r.ord.dest)
 all_goals (try have hwr := step_wrap (m := m) (c := x) (o := r.ord) hck hlt hdo (by assumption))
 all_goals (try simp only [hwr] at *)
 all_goals (try have hld := place_ge (l := x.wlks) (id := r.ord.dest) (by assumption))
 all_goals (try have hne := place_ne (l := x.wlks) (a := r.ord.who) (b := r.ord.dest) (by assumption) (by assumption) (ord_give hdo (by assumption)))
 all_goals (try simp only [set_swap hne, nth_set_ne .wlk hne, nth_set_ne .wlk hne.symm, nth_set_eq .wlk hlt, nth_set_eq .wlk hld] at *)
 all_goals (try have hin := logOk_in (m := m) (r := r) hlo (by assumption))
 all_goals (try have hpi := pclOk_iff.1 hin)
 all_goals (try have hwg := gwrap (c := x) (p := r.pcl) hck hin)
 all_goals (try simp only [hwg] at *)
 all_goals (try have hfr := @fresh_place x r.ord (by assumption))
 all_goals (try have hlf := fun (h2 : r.side.toNat < 2) h0 => list_first (m := m) (hsd (s := r.side.toNat) h2).2.2.2 h0)
 all_goals first | grind [zeroS, zeroC, cllApply, cllRecv, cllRel, insNext, relOuts, cllDo, doKind, doStep, doGive, doDrop, doPick, doThrow, cllFin, sendOuts, sendNext, wrap_id, place_lt, place_ge, list_first] | grind (splits := 30) [zeroS, zeroC, cllApply, cllRecv, cllRel, insNext, relOuts, cllDo, doKind, doStep, doGive, doDrop, doPick, doThrow, cllFin, sendOuts, sendNext, wrap_id, place_lt, place_ge, list_first]
end Go.Proofs.YtjdaiobeiimpfaaGreat
