/-
  Contract: a record written at the end of the store that a pointer shows.
-/
import Derived.Test.YtjdaiobeiimpfaaGreatGnF
import Derived.Test.YtjdaiobeiimpfaaGreatFoE
set_option linter.unusedVariables false
set_option linter.unusedSimpArgs false
set_option maxRecDepth 100000
set_option maxHeartbeats 16000000
namespace Go.Proofs.YtjdaiobeiimpfaaGreat
open Go.Sx Go.Proofs Go.Mo
noncomputable def sAddP : Sx.Io := ⟨.row .sto, true, [.map, .int .i64, .int .i64, .row .rcd], [], fun s ⟨m, a, b, r, _⟩ => .asrt (fun _ => stoOk (m ()) (s ()) = true) (.ret (vI fun _ => (stoAppend (m ()) (s ()) (a ()) (b ()) (r ())).n, fun _ => (stoAppend (m ()) (s ()) (a ()) (b ()) (r ())).s))⟩
theorem okAddP : SpecOk1 Tryz.prog 226 (ioX sAddP) := io1 tabOk (ss := [(180, sLogOk), (220, sState), (213, sFresh), (225, sPlace), (139, sToward), (142, sPlcCell), (234, sWlkOut), (143, sPlcEdge), (93, sPlcSide), (236, sWlkPut), (237, sPclFrom)]) ⟨okLogOk, okState, okFresh, okPlace, okToward, okPlcCell, okWlkOut, okPlcEdge, okPlcSide, okWlkPut, okPclFrom, trivial⟩ rfl rfl <| by
 intro (s : Th Sto) ⟨(m : Th PMap), (a : Th Int), (b : Th Int), (r : Th Sx.Rec), u⟩ K _ ho h
 obtain ⟨s, rfl⟩ := th_ex s; obtain ⟨m, rfl⟩ := th_ex m; obtain ⟨a, rfl⟩ := th_ex a; obtain ⟨b, rfl⟩ := th_ex b; obtain ⟨r, rfl⟩ := th_ex r
 obtain ⟨hs, h⟩ := h
 have hso : stoOk m s = true := hs.out
 refine ⟨noAnn, noAnn, 20, ?_⟩
 cbv
 repeat' first | ((with_reducible intro _); cbv) | (with_reducible refine And.intro ?_ ?_)
 all_goals first | refine ioK h ?_ ?_ | (with_reducible refine Ob.mk ?_; clear h) | (clear h)
 all_goals (try clear h)
 all_goals (try clear K)
 all_goals (try simp only [fin0])
 all_goals (try simp only [eta0, RT.bytes] at *)
 all_goals (try have hck := state_ok hso)
 all_goals (try have hsl := (stoOk_iff.1 hso).2.2.1)
 all_goals (try have hap := append_eqs (a := a) (b := b) (r := r) hso)
 all_goals (try generalize hx : stoState m s = x at *)
 all_goals (try have hlo := (by assumption : logOk m r = true))
 all_goals (try have hlt := place_ge (l := x.wlks) (id := r.ord.who) (by assumption))
 all_goals (try simp only [setNth_app, nth_set_eq .wlk hlt, List.set_set, List.length_set, place_set] at *)
 all_goals (try simp only [setNth_app] at *)
 all_goals (try have hf := @cllOk_facts m x hck)
 all_goals (try have hwk := @cllOk_wlk m x hck)
 all_goals (try have hsd := @cllOk_side m x hck)
 all_goals (try have hlen := cllOk_len hck)
 all_goals (try have hps := @plcSide_ne m x.cell r.side)
 all_goals (try have hdo := logOk_do (m := m) (r := r) hlo (by assumption))
 all_goals (try have hoi := ordOk_iff.1 hdo)
 all_goals (try have hpd := place_lt x.wlks r.ord.dest)
 all_goals (try have hwr := step_wrap (m := m) (c := x) (o := r.ord) hck hlt hdo (by assumption))
 all_goals (try simp only [hwr] at *)
 all_goals (try have hld := place_ge (l := x.wlks) (id := r.ord.dest) (by assumption))
 all_goals (try have hne := place_ne (l := x.wlks) (a := r.ord.who) (b := r.ord.dest) (by assumption) (by assumption) (ord_give hdo (by assumption)))
 all_goals (try simp only [set_swap hne, nth_set_ne .wlk hne, nth_set_ne .wlk hne.symm, nth_set_eq .wlk hlt, nth_set_eq .wlk hld] at *)
 all_goals (try have hin := logOk_in (m := m) (r := r) hlo (by assumption))
 all_goals (try have hpi := pclOk_iff.1 hin)
 all_goals (try have hwg := gwrap (c := x) (p := r.pcl) hck hin)
 all_goals (try simp only [hwg] at *)
 all_goals (try have hfr := @fresh_place x r.ord (by assumption))
 all_goals (try have hlf := fun (h2 : r.side.toNat < 2) h0 => list_first (m := m) (hsd (s := r.side.toNat) h2).2.2.2 h0)
 all_goals first | grind [zeroS, zeroC, cllApply, cllRecv, cllRel, insNext, relOuts, cllDo, doKind, doStep, doGive, doDrop, doPick, doThrow, cllFin, sendOuts, sendNext, wrap_id, place_lt, place_ge, list_first] | grind (splits := 30) [zeroS, zeroC, cllApply, cllRecv, cllRel, insNext, relOuts, cllDo, doKind, doStep, doGive, doDrop, doPick, doThrow, cllFin, sendOuts, sendNext, wrap_id, place_lt, place_ge, list_first]
end Go.Proofs.YtjdaiobeiimpfaaGreat
