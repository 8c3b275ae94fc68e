/-
  Contracts: ghosts, the table.
-/
import Derived.Test.YtfgphaokmjdcbaaGreatFnB
import Derived.Test.YtfgphaokmjdcbaaGreatFnD
import Derived.Test.YtfgphaokmjdcbaaGreatM2
set_option linter.unusedVariables false
set_option linter.unusedSimpArgs false
namespace Go.Proofs.YtfgphaokmjdcbaaGreat
open Go.Sx Go.Proofs Go.Mo
set_option maxRecDepth 100000
set_option maxHeartbeats 8000000
set_option linter.unusedSimpArgs false
set_option linter.unusedVariables false

noncomputable def sGstOk : Sx.Spec := ⟨false, true, [.map, .row .gst], [], fun _ _ ⟨m, g, _⟩ => .ret (vB fun _ => gstOk (m ()) (g ()), fun _ => 0)⟩
noncomputable def sGstLess : Sx.Spec := ⟨false, true, [.row .gst, .row .gst], [], fun _ _ ⟨a, b, _⟩ => .ret (vB fun _ => gstLess (a ()) (b ()), fun _ => 0)⟩
noncomputable def sGstsOkS : Sx.Spec := ⟨false, true, [.map, .list .gst], [], fun _ _ ⟨m, l, _⟩ => .ret (vB fun _ => gstsOkS (m ()) (l ()), fun _ => 0)⟩
noncomputable def sArbOk : Sx.Spec := ⟨false, true, [.map, .arb, .int .i64], [], fun _ _ ⟨m, t, s, _⟩ => .ret (vB fun _ => arbOk (m ()) (t ()) (s ()), fun _ => 0)⟩
noncomputable def sArbServer : Sx.Spec := ⟨false, true, [.arb, .int .i64], [], fun _ _ ⟨t, c, _⟩ => .ret (vI fun _ => arbServer (t ()) (c ()), fun _ => 0)⟩

theorem okGstOk : SpecOk1 Tryz.prog 84 sGstOk := spec1 tabOk (ss := [(55, sIn), (126, sWlkOk), (127, sPlcCell), (128, sPlcEdge)]) ⟨okIn, okWlkOk, okPlcCell, okPlcEdge, trivial⟩ rfl rfl <| by
  intro (bs : Th (List Int)) (p : Th Int) ⟨(m : Th PMap), (g : Th Gst), u⟩ K _ _ ho h
  obtain ⟨m, rfl⟩ := th_ex m; obtain ⟨g, rfl⟩ := th_ex g
  refine ⟨noAnn, noAnn, 20, ?_⟩
  cbv
  repeat' first | ((with_reducible intro _); cbv) | ((with_reducible show _ ∧ _); (with_reducible apply And.intro))
  all_goals first | (refine retK h ?_; clear h; simp only [fin0]) | (with_reducible refine Ob.mk ?_; clear h) | (clear h)
  all_goals (try simp only [eta0, RT.bytes] at *)
  all_goals grind [gstOk, inR]
theorem okSGstOk : SpecOk1 Tryz.prog 52 sGstOk := spec1 tabOk (ss := [(47, sIn), (102, sWlkOk), (103, sPlcCell), (104, sPlcEdge)]) ⟨okL1In, okSWlkOk, okSPlcCell, okSPlcEdge, trivial⟩ rfl rfl <| by
  intro (bs : Th (List Int)) (p : Th Int) ⟨(m : Th PMap), (g : Th Gst), u⟩ K _ _ ho h
  obtain ⟨m, rfl⟩ := th_ex m; obtain ⟨g, rfl⟩ := th_ex g
  refine ⟨noAnn, noAnn, 20, ?_⟩
  cbv
  repeat' first | ((with_reducible intro _); cbv) | ((with_reducible show _ ∧ _); (with_reducible apply And.intro))
  all_goals first | (refine retK h ?_; clear h; simp only [fin0]) | (with_reducible refine Ob.mk ?_; clear h) | (clear h)
  all_goals (try simp only [eta0, RT.bytes] at *)
  all_goals grind [gstOk, inR]
theorem okL8Less : SpecOk1 Tryz.prog 119 sGstLess := spec1 tabOk (ss := []) trivial rfl rfl <| by
  intro (bs : Th (List Int)) (p : Th Int) ⟨(a : Th Gst), (b : Th Gst), u⟩ K _ _ ho h
  obtain ⟨a, rfl⟩ := th_ex a; obtain ⟨b, rfl⟩ := th_ex b
  refine ⟨noAnn, noAnn, 20, ?_⟩
  cbv
  repeat' first | ((with_reducible intro _); cbv) | ((with_reducible show _ ∧ _); (with_reducible apply And.intro))
  all_goals first | (refine retK h ?_; clear h; simp only [fin0]) | (with_reducible refine Ob.mk ?_; clear h) | (clear h)
  all_goals (try simp only [eta0, RT.bytes] at *)
  all_goals grind [gstLess]
theorem okSGstsOk : SpecOk1 Tryz.prog 114 sGstsOkS := spec1 tabOk (ss := [(52, sGstOk), (119, sGstLess)]) ⟨okSGstOk, okL8Less, trivial⟩ rfl rfl <| by
  intro (bs : Th (List Int)) (p : Th Int) ⟨(m : Th PMap), (l : Th (List Gst)), u⟩ K _ _ ho h
  obtain ⟨m, rfl⟩ := th_ex m; obtain ⟨l, rfl⟩ := th_ex l
  have hl := okL (ho.2.1 _ (.head _))
  refine ⟨annL [(114, 4, ⟨Nat, [], fun σ k => σ.t 5 (vI fun _ => (k : Int)), fun _ k _ => k ≤ l.length ∧ allTo k (gstAt m l) = true, fun _ k _ => l.length - k⟩)], noAnn, 20, ?_⟩
  cbv
  repeat' first | ((with_reducible refine fun (k : Nat) => ?_); cbv) | ((with_reducible intro _); cbv) | ((with_reducible show _ ∧ _); (with_reducible apply And.intro))
  all_goals try ((first | (with_reducible refine LoopIn.mk ((0 : Nat)) ?_ ?_) | (with_reducible refine LoopBack.mk ((k + 1 : Nat)) ?_ ?_ ?_)) )
  all_goals try ((with_reducible show matchSt _ _); cbv; (try simp only [and_true, true_and]))
  all_goals try (with_reducible show _ ∧ _; (repeat' (with_reducible apply And.intro)))
  all_goals first | (refine retK h ?_; clear h; simp only [fin0]) | (with_reducible refine Ob.mk ?_; clear h) | (clear h)
  all_goals (try simp only [eta0, RT.bytes] at *)
  all_goals grind [wrap_succ, wrap_id, gsts_bad1, gsts_bad2, gsts_long, gsts_all, gstAt, allTo_zero, allTo_succ]
theorem okSArbOk : SpecOk1 Tryz.prog 67 sArbOk := spec1 tabOk (ss := [(45, sPlcOk), (47, sIn)]) ⟨okSPlcOk, okL1In, trivial⟩ rfl rfl <| by
  intro (bs : Th (List Int)) (p : Th Int) ⟨(m : Th PMap), (t : Th Arb), (s : Th Int), u⟩ K _ _ ho h
  obtain ⟨m, rfl⟩ := th_ex m; obtain ⟨t, rfl⟩ := th_ex t; obtain ⟨s, rfl⟩ := th_ex s
  have hA := fun (hh : arbOk m t s = true) (k : Nat) => @arb_cell m t s k hh
  have hl := okL (ho.2.1 _ (.head _))
  refine ⟨annL [(67, 4, ⟨Nat, [], fun σ k => σ.t 7 (vI fun _ => (k : Int)), fun _ k _ => k ≤ t.servers.length ∧ arbHead m t s = true ∧ allTo k (arbAt t s) = true, fun _ k _ => t.servers.length - k⟩)], noAnn, 20, ?_⟩
  cbv
  repeat' first | ((with_reducible refine fun (k : Nat) => ?_); cbv) | ((with_reducible intro _); cbv) | ((with_reducible show _ ∧ _); (with_reducible apply And.intro))
  all_goals try ((first | (with_reducible refine LoopIn.mk ((0 : Nat)) ?_ ?_) | (with_reducible refine LoopBack.mk ((k + 1 : Nat)) ?_ ?_ ?_)) )
  all_goals try ((with_reducible show matchSt _ _); cbv; (try simp only [and_true, true_and]))
  all_goals try (with_reducible show _ ∧ _; (repeat' (with_reducible apply And.intro)))
  all_goals first | (refine retK h ?_; clear h; simp only [fin0]) | (with_reducible refine Ob.mk ?_; clear h) | (clear h)
  all_goals (try simp only [eta0, RT.bytes] at *)
  all_goals grind (splits := 30) [wrap_succ, wrap_id, arb_bad, arb_at, arb_all, arbOk, arbHead, arbAt, allTo_zero, allTo_succ, inR]
theorem okSArbServer : SpecOk1 Tryz.prog 161 sArbServer := spec1 tabOk (ss := []) trivial rfl rfl <| by
  intro (bs : Th (List Int)) (p : Th Int) ⟨(t : Th Arb), (c : Th Int), u⟩ K _ _ ho h
  obtain ⟨t, rfl⟩ := th_ex t; obtain ⟨c, rfl⟩ := th_ex c
  have hl := okL (ho.1 _ (.head _))
  refine ⟨noAnn, noAnn, 20, ?_⟩
  cbv
  repeat' first | ((with_reducible intro _); cbv) | ((with_reducible show _ ∧ _); (with_reducible apply And.intro))
  all_goals first | (refine retK h ?_; clear h; simp only [fin0]) | (with_reducible refine Ob.mk ?_; clear h) | (clear h)
  all_goals (try simp only [eta0, RT.bytes] at *)
  all_goals grind [arbServer, inR, wrap_id]
end Go.Proofs.YtfgphaokmjdcbaaGreat
