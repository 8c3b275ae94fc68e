/-
  Contracts: a world at the beginning.
-/
import Derived.Test.YtfgphaokmjdcbaaGreatGnF
import Derived.Test.YtfgphaokmjdcbaaGreatGnE
import Derived.Test.YtfgphaokmjdcbaaGreatM3
import Derived.Test.YtfgphaokmjdcbaaGreatFnR
set_option linter.unusedVariables false
set_option linter.unusedSimpArgs false
namespace Go.Proofs.YtfgphaokmjdcbaaGreat
open Go.Sx Go.Proofs Go.Mo
set_option maxRecDepth 100000
set_option maxHeartbeats 8000000
set_option linter.unusedSimpArgs false
set_option linter.unusedVariables false

def stoNewS (m : PMap) (c : Int) (l : List Wlk) : Sto := if cllOk m (cllNew m c l) = true then stoNew m c l else zeroS
noncomputable def sCllNew : Sx.Spec := ⟨false, true, [.map, .int .i64, .list .wlk], [nCll], fun _ _ ⟨m, c, l, _⟩ => .ret (oCll fun _ => cllNew (m ()) (c ()) (l ()), fun _ => 0)⟩
noncomputable def sSStoNew : Sx.Spec := ⟨false, true, [.map, .int .i64, .list .wlk], [nSto], fun _ _ ⟨m, c, l, _⟩ => .ret (oSto fun _ => stoNewS (m ()) (c ()) (l ()), fun _ => 0)⟩
noncomputable def sArbNew : Sx.Spec := ⟨false, true, [.map], [[some .int, some .int]], fun _ _ ⟨m, _⟩ => .ret (oArb fun _ => arbNew (m ()), fun _ => 0)⟩
noncomputable def sGwyNew : Sx.Spec := ⟨false, true, [.map, .list .wlk], [[some .row]], fun _ _ ⟨m, l, _⟩ => .ret (oAs [.list .row fun _ => gwyNew (m ()) (l ())], fun _ => 0)⟩
noncomputable def sSrvNew : Sx.Spec := ⟨false, true, [], [[none, some .hld, some .gst]], fun _ _ _ => .ret (oSrv fun _ => ⟨true, [], []⟩, fun _ => 0)⟩
noncomputable def sWldNew : Sx.Spec := ⟨false, true, [.map, .list .wlk, .int .i64], [[none, none, some .srv, some .sto, some .int, some .int, some .row, some .msg, some .note]], fun _ _ ⟨m, l, v, _⟩ => .ret (oWld fun _ => wldNew (m ()) (l ()) (v ()), fun _ => 0)⟩

theorem rep_succ {α : Type} (x : α) (k : Nat) : List.replicate (k + 1) x = List.replicate k x ++ [x] := by
  rw [List.replicate_succ', ]
theorem rng_succ (m : PMap) (l : List Wlk) (k : Nat) : (List.range (k + 1)).map (fun (i : Nat) => stoNew m (i : Int) l) = (List.range k).map (fun (i : Nat) => stoNew m (i : Int) l) ++ [stoNew m (k : Int) l] := by
  rw [List.range_succ, List.map_append]
  rfl
theorem row_succ (m : PMap) {l : List Wlk} {k : Nat} (h : k < l.length) : (l.take (k + 1)).map (rowNew m) = (l.take k).map (rowNew m) ++ [rowNew m (nth .wlk l k)] := by
  have h1 : l.take (k + 1) = l.take k ++ [nth .wlk l k] := pre_succ .wlk h
  rw [h1, List.map_append]
  rfl

theorem okSrvNewS : SpecOk1 Tryz.prog 205 sSrvNew := spec1 tabOk (ss := []) trivial rfl rfl <| by
  intro (bs : Th (List Int)) (p : Th Int) u K _ _ ho h
  refine ⟨noAnn, noAnn, 20, ?_⟩
  cbv
  repeat' first | ((with_reducible intro _); cbv) | ((with_reducible show _ ∧ _); (with_reducible apply And.intro))
  all_goals first | (refine retK h ?_; clear h; simp only [fin0]) | (with_reducible refine Ob.mk ?_; clear h) | (clear h)
  all_goals (try simp only [eta0, RT.bytes] at *)
theorem okSArbNew : SpecOk1 Tryz.prog 203 sArbNew := spec1 tabOk (ss := [(45, sPlcOk)]) ⟨okSPlcOk, trivial⟩ rfl rfl <| by
  intro (bs : Th (List Int)) (p : Th Int) ⟨(m : Th PMap), u⟩ K _ _ ho h
  obtain ⟨m, rfl⟩ := th_ex m
  have hm := @plcOk_iff m
  refine ⟨annL [(203, 5, ⟨Nat, [⟨.cell 4 0, some 500, .int⟩, ⟨.cell 4 1, some 501, .int⟩], fun σ k => ((((((σ.fgs [500, 501]).t 4 (vI fun _ => (k : Int))).cellC 4 0 (.own 500 1)).cellC 4 1 (.own 501 1)).row 500 1 .int (fun _ => List.replicate k (-1 : Int))).row 501 1 .int (fun _ => List.replicate k (0 : Int))), fun _ k _ => (k : Int) ≤ m.cells ∧ plcOk m = true, fun _ k _ => m.cells.toNat - k⟩)], noAnn, 20, ?_⟩
  cbv
  repeat' first | ((with_reducible refine fun (k : Nat) => ?_); cbv) | ((with_reducible intro _); cbv) | ((with_reducible show _ ∧ _); (with_reducible apply And.intro))
  all_goals try ((first | (with_reducible refine LoopIn.mk ((0 : Nat)) ?_ ?_) | (with_reducible refine LoopBack.mk ((k + 1 : Nat)) ?_ ?_ ?_)) )
  all_goals try ((with_reducible show matchSt _ _); cbv; (try simp only [and_true, true_and]))
  all_goals try (with_reducible show _ ∧ _; (repeat' (with_reducible apply And.intro)))
  all_goals first | (refine retK h ?_; clear h; simp only [fin0]) | (with_reducible refine Ob.mk ?_; clear h) | (clear h)
  all_goals (try simp only [eta0, RT.bytes] at *)
  all_goals grind [wrap_succ, rep_succ, arbNew]
theorem okSGwyNew : SpecOk1 Tryz.prog 204 sGwyNew := spec1 tabOk (ss := [(45, sPlcOk), (172, sWlkListOkS), (103, sPlcCell)]) ⟨okSPlcOk, okSWlkListOk, okSPlcCell, trivial⟩ rfl rfl <| by
  intro (bs : Th (List Int)) (p : Th Int) ⟨(m : Th PMap), (l : Th (List Wlk)), u⟩ K _ _ ho h
  obtain ⟨m, rfl⟩ := th_ex m; obtain ⟨l, rfl⟩ := th_ex l
  have hl := okB (ho.2.1 _ (.head _))
  have hf := @wlk_few m l
  refine ⟨annL [(204, 5, ⟨Nat, [⟨.cell 6 0, some 500, .row⟩], fun σ k => (((σ.fgs [500]).t 6 (vI fun _ => (k : Int))).cellC 6 0 (.own 500 1)).row 500 1 .row (fun _ => (l.take k).map (rowNew m)), fun _ k _ => k ≤ l.length, fun _ k _ => l.length - k⟩)], noAnn, 20, ?_⟩
  cbv
  repeat' first | ((with_reducible refine fun (k : Nat) => ?_); cbv) | ((with_reducible intro _); cbv) | ((with_reducible show _ ∧ _); (with_reducible apply And.intro))
  all_goals try ((first | (with_reducible refine LoopIn.mk ((0 : Nat)) ?_ ?_) | (with_reducible refine LoopBack.mk ((k + 1 : Nat)) ?_ ?_ ?_)) )
  all_goals try ((with_reducible show matchSt _ _); cbv; (try simp only [and_true, true_and]))
  all_goals try (with_reducible show _ ∧ _; (repeat' (with_reducible apply And.intro)))
  all_goals first | (refine retK h ?_; clear h; simp only [fin0]) | (with_reducible refine Ob.mk ?_; clear h) | (clear h)
  all_goals (try simp only [eta0, RT.bytes] at *)
  all_goals grind [wrap_succ, row_succ, gwyNew, rowNew, List.length_map, List.length_take]
theorem okSCllNew : SpecOk1 Tryz.prog 229 sCllNew := spec1 tabOk (ss := [(45, sPlcOk), (47, sIn), (172, sWlkListOkS), (103, sPlcCell)]) ⟨okSPlcOk, okL1In, okSWlkListOk, okSPlcCell, trivial⟩ rfl rfl <| by
  intro (bs : Th (List Int)) (p : Th Int) ⟨(m : Th PMap), (c : Th Int), (l : Th (List Wlk)), u⟩ K _ _ ho h
  obtain ⟨m, rfl⟩ := th_ex m; obtain ⟨c, rfl⟩ := th_ex c; obtain ⟨l, rfl⟩ := th_ex l
  have hl := okB (ho.2.2.1 _ (.head _))
  have hn := inCell_len m c l
  have hm := @plcOk_iff m
  refine ⟨annL [(229, 5, ⟨Nat, [⟨.cell 8 1, some 500, .wlk⟩], fun σ k => (((σ.fgs [29, 30, 500]).t 8 (vI fun _ => (k : Int))).cellC 8 1 (.own 500 1)).row 500 1 .wlk (fun _ => inCell m c l k), fun _ k _ => k ≤ l.length, fun _ k _ => l.length - k⟩)], noAnn, 20, ?_⟩
  cbv
  repeat' first | ((with_reducible refine fun (k : Nat) => ?_); cbv) | ((with_reducible intro _); cbv) | ((with_reducible show _ ∧ _); (with_reducible apply And.intro))
  all_goals try ((first | (with_reducible refine LoopIn.mk ((0 : Nat)) ?_ ?_) | (with_reducible refine LoopBack.mk ((k + 1 : Nat)) ?_ ?_ ?_)) )
  all_goals try ((with_reducible show matchSt _ _); cbv; (try simp only [and_true, true_and]))
  all_goals try (with_reducible show _ ∧ _; (repeat' (with_reducible apply And.intro)))
  all_goals first | (refine retK h ?_; clear h; simp only [fin0]) | (with_reducible refine Ob.mk ?_; clear h) | (clear h)
  all_goals (try simp only [eta0, RT.bytes] at *)
  all_goals (try dsimp only [RT.ty] at *)
  all_goals grind (splits := 20) [wrap_succ, wrap_id, inCell_yes, inCell_no, inCell_zero, cllNew, zeroC, inR, wrap_pred]
theorem okSStoNew : SpecOk1 Tryz.prog 206 sSStoNew := spec1 tabOk (ss := [(229, sCllNew), (142, sCllOk)]) ⟨okSCllNew, okSCllOk, trivial⟩ rfl rfl <| by
  intro (bs : Th (List Int)) (p : Th Int) ⟨(m : Th PMap), (c : Th Int), (l : Th (List Wlk)), u⟩ K _ _ ho h
  obtain ⟨m, rfl⟩ := th_ex m; obtain ⟨c, rfl⟩ := th_ex c; obtain ⟨l, rfl⟩ := th_ex l
  refine ⟨noAnn, noAnn, 20, ?_⟩
  cbv
  repeat' first | ((with_reducible intro _); cbv) | ((with_reducible show _ ∧ _); (with_reducible apply And.intro))
  all_goals first | (refine retK h ?_; clear h; simp only [fin0]) | (with_reducible refine Ob.mk ?_; clear h) | (clear h)
  all_goals (try simp only [eta0, RT.bytes] at *)
  all_goals grind [stoNewS, stoNew, zeroS, zeroC]
theorem okSWldNew : SpecOk1 Tryz.prog 185 sWldNew := spec1 tabOk (ss := [(45, sPlcOk), (172, sWlkListOkS), (47, sIn), (203, sArbNew), (204, sGwyNew), (205, sSrvNew), (206, sSStoNew)]) ⟨okSPlcOk, okSWlkListOk, okL1In, okSArbNew, okSGwyNew, okSrvNewS, okSStoNew, trivial⟩ rfl rfl <| by
  intro (bs : Th (List Int)) (p : Th Int) ⟨(m : Th PMap), (l : Th (List Wlk)), (v : Th Int), u⟩ K _ _ ho h
  obtain ⟨m, rfl⟩ := th_ex m; obtain ⟨l, rfl⟩ := th_ex l; obtain ⟨v, rfl⟩ := th_ex v
  have hm := @plcOk_iff m
  have hk := fun (i : Int) => @cllNew_ok m i l
  refine ⟨annL [(185, 5, ⟨Nat × Unit, [⟨.cell 8 2, some 500, .srv⟩], fun σ q => (((σ.fgs [500]).t 8 (vI fun _ => (q.1 : Int))).cellC 8 2 (.own 500 1)).row 500 1 .srv (fun _ => List.replicate q.1 ⟨true, [], []⟩), fun _ q _ => (q.1 : Int) ≤ v ∧ plcOk m = true ∧ wlkAll m l = true ∧ 1 ≤ v ∧ v ≤ 3, fun _ q _ => v.toNat - q.1⟩),
    (185, 9, ⟨Nat, [⟨.cell 8 3, some 501, .sto⟩], fun σ k => (((σ.fgs [501]).t 9 (vI fun _ => (k : Int))).cellC 8 3 (.own 501 1)).row 501 1 .sto (fun _ => (List.range k).map fun (i : Nat) => stoNew m (i : Int) l), fun _ k _ => (k : Int) ≤ m.cells ∧ plcOk m = true ∧ wlkAll m l = true ∧ 1 ≤ v ∧ v ≤ 3, fun _ k _ => m.cells.toNat - k⟩)], noAnn, 20, ?_⟩
  cbv
  repeat' first | ((with_reducible refine fun (k : Nat) => ?_); cbv) | ((with_reducible refine fun (q : Nat × Unit) => ?_); obtain ⟨s, _⟩ := q; cbv) | ((with_reducible intro _); cbv) | ((with_reducible show _ ∧ _); (with_reducible apply And.intro))
  all_goals try ((first | (with_reducible refine LoopIn.mk (((0, ()) : Nat × Unit)) ?_ ?_) | (with_reducible refine LoopIn.mk ((0 : Nat)) ?_ ?_) | (with_reducible refine LoopBack.mk ((k + 1 : Nat)) ?_ ?_ ?_) | (with_reducible refine LoopBack.mk (((s + 1, ()) : Nat × Unit)) ?_ ?_ ?_)) )
  all_goals try ((with_reducible show matchSt _ _); cbv; (try simp only [and_true, true_and]))
  all_goals try (with_reducible show _ ∧ _; (repeat' (with_reducible apply And.intro)))
  all_goals first | (refine retK h ?_; clear h; simp only [fin0]) | (with_reducible refine Ob.mk ?_; clear h) | (clear h)
  all_goals (try simp only [eta0, RT.bytes] at *)
  all_goals (try dsimp only [RT.ty] at *)
  all_goals (try grind (splits := 20) [wrap_succ, wrap_id, inR, rep_succ, rng_succ, wldNew, wldBegin, zeroWld, stoNewS])
end Go.Proofs.YtfgphaokmjdcbaaGreat
