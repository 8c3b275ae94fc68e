/-
  Contracts: a record done; parcels let go.
-/
import Derived.Test.YtfdohbjamanomaaGreatFnFb
import Derived.Test.YtfdohbjamanomaaGreatFnH
import Derived.Test.YtfdohbjamanomaaGreatFnK
import Derived.Test.YtfdohbjamanomaaGreatM2
set_option linter.unusedVariables false
set_option linter.unusedSimpArgs false
namespace Go.Proofs.YtfdohbjamanomaaGreat
open Go.Sx Go.Proofs Go.Mo
set_option maxRecDepth 100000
set_option maxHeartbeats 16000000
set_option linter.unusedSimpArgs false
set_option linter.unusedVariables false

noncomputable def sFreshX : Sx.Spec := ⟨false, true, [.map, .row .cll, .ord], [], fun _ _ ⟨m, c, o, _⟩ => .ret (vB fun _ => freshX (m ()) (c ()) (o ()), fun _ => 0)⟩
noncomputable def sCllAck : Sx.Spec := ⟨false, true, [.map, .row .cll, .int .i64, .int .i64], [nCll, [none]], fun _ _ ⟨m, c, s, n, _⟩ => .ret (.tup [oCll fun _ => (cllAckX (m ()) (c ()) (s ()) (n ())).c, vB fun _ => (cllAckX (m ()) (c ()) (s ()) (n ())).ok], fun _ => 0)⟩

theorem okCllFresh : SpecOk1 Tryz.prog 21 sFreshX := spec1 tabOk (ss := [(27, sCllOk), (68, sOrdOk), (70, sFresh)]) ⟨okCllOk, okOrdOk, okFresh, trivial⟩ rfl rfl <| by
  intro (bs : Th (List Int)) (p : Th Int) ⟨(m : Th PMap), (c : Th Cll), (o : Th Sx.Ord), u⟩ K _ _ ho h
  obtain ⟨m, rfl⟩ := th_ex m; obtain ⟨c, rfl⟩ := th_ex c; obtain ⟨o, rfl⟩ := th_ex o
  refine ⟨noAnn, noAnn, 20, ?_⟩
  cbv
  repeat' first | ((with_reducible refine fun (k : Nat) => ?_); cbv) | ((with_reducible refine fun (q : Nat × Unit) => ?_); obtain ⟨s, _⟩ := q; cbv) | ((with_reducible refine fun (q : Nat × Nat) => ?_); obtain ⟨s, k⟩ := q; cbv) | ((with_reducible intro _); cbv) | ((with_reducible show _ ∧ _); (with_reducible apply And.intro))
  all_goals first | (refine retK h ?_; clear h; simp only [fin0]) | (with_reducible refine Ob.mk ?_; clear h) | (clear h)
  all_goals (try simp only [eta0, RT.bytes] at *)
  all_goals grind [freshX]
theorem okCllAck : SpecOk1 Tryz.prog 23 sCllAck := spec1 tabOk (ss := [(27, sCllOk), (71, sPlcSide), (52, sCloneC), (120, sPclFrom)]) ⟨okCllOk, okPlcSide, okCloneC, okPclFrom, trivial⟩ rfl rfl <| by
  intro (bs : Th (List Int)) (p : Th Int) ⟨(m : Th PMap), (c : Th Cll), (s : Th Int), (n : Th Int), u⟩ K _ _ ho h
  obtain ⟨m, rfl⟩ := th_ex m; obtain ⟨c, rfl⟩ := th_ex c; obtain ⟨s, rfl⟩ := th_ex s; obtain ⟨n, rfl⟩ := th_ex n
  refine ⟨noAnn, noAnn, 20, ?_⟩
  have hps := @plcSide_ne m c.cell s
  have hf := @cllOk_facts m c
  have hlen := @cllOk_len m c
  have hsd := fun h => @cllOk_side m c h s.toNat
  have hlf := fun h => @list_first m (nth .pcls c.outs s.toNat) (nth .int c.next s.toNat) h
  cbv
  repeat' first | ((with_reducible refine fun (k : Nat) => ?_); cbv) | ((with_reducible refine fun (q : Nat × Unit) => ?_); obtain ⟨s, _⟩ := q; cbv) | ((with_reducible refine fun (q : Nat × Nat) => ?_); obtain ⟨s, k⟩ := q; cbv) | ((with_reducible intro _); cbv) | ((with_reducible show _ ∧ _); (with_reducible apply And.intro))
  all_goals first | (refine retK h ?_; clear h; simp only [fin0]) | (with_reducible refine Ob.mk ?_; clear h) | (clear h)
  all_goals (try simp only [eta0, RT.bytes] at *)
  all_goals (try simp only [setNth_app] at *)
  all_goals grind [cllAckX, zeroC, cllRel, relOuts, wrap_id]
theorem okLogApply : SpecOk1 Tryz.prog 13 sLogApply := spec1 tabOk (ss := [(27, sCllOk), (52, sCloneC), (16, sLogOk), (70, sFresh), (71, sPlcSide), (120, sPclFrom), (112, sPlace), (113, sToward), (81, sPlcCell), (115, sWlkOut), (119, sWlkPut), (117, sPlcEdge)])
    ⟨okCllOk, okCloneC, okLogOk, okFresh, okPlcSide, okPclFrom, okPlace, okToward, okPlcCell, okWlkOut, okWlkPut, okPlcEdge, trivial⟩ rfl rfl <| by
  intro (bs : Th (List Int)) (p : Th Int) ⟨(m : Th PMap), (x : Th Cll), (r : Th Sx.Rec), u⟩ K _ _ ho h
  obtain ⟨m, rfl⟩ := th_ex m; obtain ⟨x, rfl⟩ := th_ex x; obtain ⟨r, rfl⟩ := th_ex r
  refine ⟨noAnn, noAnn, 20, ?_⟩
  cbv
  repeat' first | ((with_reducible refine fun (k : Nat) => ?_); cbv) | ((with_reducible refine fun (q : Nat × Unit) => ?_); obtain ⟨s, _⟩ := q; cbv) | ((with_reducible refine fun (q : Nat × Nat) => ?_); obtain ⟨s, k⟩ := q; cbv) | ((with_reducible intro _); cbv) | ((with_reducible show _ ∧ _); (with_reducible apply And.intro))
  all_goals first | (refine retK h ?_; clear h; simp only [fin0]) | (with_reducible refine Ob.mk ?_; clear h) | (clear h)
  all_goals (try simp only [eta0, RT.bytes] at *)
  all_goals (try have hck := (by assumption : cllOk m x = true))
  all_goals (try have hlo := (by assumption : logOk m r = true))
  all_goals (try have hlt := place_ge (l := x.wlks) (id := r.ord.who) (by assumption))
  all_goals (try simp only [setNth_app, nth_set_eq .wlk hlt, List.set_set, List.length_set, place_set] at *)
  all_goals (try simp only [setNth_app] at *)
  all_goals (try have hf := @cllOk_facts m x hck)
  all_goals (try have hwk := @cllOk_wlk m x hck)
  all_goals (try have hsd := @cllOk_side m x hck)
  all_goals (try have hlen := cllOk_len hck)
  all_goals (try have hps := @plcSide_ne m x.cell r.side)
  all_goals (try have hdo := logOk_do (m := m) (r := r) hlo (by assumption))
  all_goals (try have hoi := ordOk_iff.1 hdo)
  all_goals (try have hpd := place_lt x.wlks r.ord.dest)
  all_goals (try have hwr := step_wrap (m := m) (c := x) (o := r.ord) hck hlt hdo (by assumption))
  all_goals (try simp only [hwr] at *)
  all_goals (try have hld := place_ge (l := x.wlks) (id := r.ord.dest) (by assumption))
  all_goals (try have hne := place_ne (l := x.wlks) (a := r.ord.who) (b := r.ord.dest) (by assumption) (by assumption) (ord_give hdo (by assumption)))
  all_goals (try simp only [set_swap hne, nth_set_ne .wlk hne, nth_set_ne .wlk hne.symm, nth_set_eq .wlk hlt, nth_set_eq .wlk hld] at *)
  all_goals (try have hin := logOk_in (m := m) (r := r) hlo (by assumption))
  all_goals (try have hpi := pclOk_iff.1 hin)
  all_goals (try have hwg := gwrap (c := x) (p := r.pcl) hck hin)
  all_goals (try simp only [hwg] at *)
  all_goals (try have hfr := @fresh_place x r.ord (by assumption))
  all_goals grind [cllApplyX, zeroC, cllApply, cllRecv, cllRel, insNext, relOuts, cllDo, doKind, doStep, doGive, doDrop, doPick, doThrow, cllFin, sendOuts, sendNext, wrap_id, place_lt, place_ge, list_first]

end Go.Proofs.YtfdohbjamanomaaGreat
