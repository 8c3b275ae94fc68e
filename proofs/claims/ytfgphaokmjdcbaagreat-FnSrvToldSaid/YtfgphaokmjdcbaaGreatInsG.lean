/-
  Contracts: a world at the beginning.
-/
import Derived.Test.YtfgphaokmjdcbaaGreatGnF
import Derived.Test.YtfgphaokmjdcbaaGreatGnE
import Derived.Test.YtfgphaokmjdcbaaGreatM3
import Derived.Test.YtfgphaokmjdcbaaGreatFnR
import Derived.Test.YtfgphaokmjdcbaaGreatFnFb
import Derived.Test.YtfgphaokmjdcbaaGreatFnQ
import Derived.Test.YtfgphaokmjdcbaaGreatTok
import Derived.Test.YtfgphaokmjdcbaaGreatS5
set_option linter.unusedVariables false
set_option linter.unusedSimpArgs false
namespace Go.Proofs.YtfgphaokmjdcbaaGreat
open Go.Sx Go.Proofs Go.Mo
set_option maxRecDepth 100000
set_option maxHeartbeats 8000000
set_option linter.unusedSimpArgs false
set_option linter.unusedVariables false

def stoNewS (m : PMap) (c : Int) (l : List Wlk) : Sto := if cllOk m (cllNew m c l) = true then stoNew m c l else zeroS
noncomputable def sCllNew : Sx.Spec := ⟨false, true, [.map, .int .i64, .list .wlk], [nCll], fun _ _ ⟨m, c, l, _⟩ => .ret (oCll fun _ => cllNew (m ()) (c ()) (l ()), fun _ => 0)⟩
noncomputable def sSStoNew : Sx.Spec := ⟨false, true, [.map, .int .i64, .list .wlk], [nSto], fun _ _ ⟨m, c, l, _⟩ => .ret (oSto fun _ => stoNewS (m ()) (c ()) (l ()), fun _ => 0)⟩
noncomputable def sArbNew : Sx.Spec := ⟨false, true, [.map], [[some .int, some .int]], fun _ _ ⟨m, _⟩ => .ret (oArb fun _ => arbNew (m ()), fun _ => 0)⟩
noncomputable def sGwyNew : Sx.Spec := ⟨false, true, [.map, .list .wlk], [[some .row]], fun _ _ ⟨m, l, _⟩ => .ret (oAs [.list .row fun _ => gwyNew (m ()) (l ())], fun _ => 0)⟩
noncomputable def sSrvNew : Sx.Spec := ⟨false, true, [], [[none, some .hld, some .gst]], fun _ _ _ => .ret (oSrv fun _ => ⟨true, [], []⟩, fun _ => 0)⟩
noncomputable def sWldNew : Sx.Spec := ⟨false, true, [.map, .list .wlk, .int .i64], [[none, none, some .srv, some .sto, some .int, some .int, some .row, some .msg, some .note]], fun _ _ ⟨m, l, v, _⟩ => .ret (oWld fun _ => wldNew (m ()) (l ()) (v ()), fun _ => 0)⟩

theorem rep_succ {α : Type} (x : α) (k : Nat) : List.replicate (k + 1) x = List.replicate k x ++ [x] := by
  rw [List.replicate_succ', ]
theorem rng_succ (m : PMap) (l : List Wlk) (k : Nat) : (List.range (k + 1)).map (fun (i : Nat) => stoNew m (i : Int) l) = (List.range k).map (fun (i : Nat) => stoNew m (i : Int) l) ++ [stoNew m (k : Int) l] := by
  rw [List.range_succ, List.map_append]
  rfl
theorem row_succ (m : PMap) {l : List Wlk} {k : Nat} (h : k < l.length) : (l.take (k + 1)).map (rowNew m) = (l.take k).map (rowNew m) ++ [rowNew m (nth .wlk l k)] := by
  have h1 : l.take (k + 1) = l.take k ++ [nth .wlk l k] := pre_succ .wlk h
  rw [h1, List.map_append]
  rfl

theorem okSrvNew : SpecOk1 Tryz.prog 24 sSrvNew := spec1 tabOk (ss := []) trivial rfl rfl <| by
  intro (bs : Th (List Int)) (p : Th Int) u K _ _ ho h
  refine ⟨noAnn, noAnn, 20, ?_⟩
  cbv
  repeat' first | ((with_reducible intro _); cbv) | ((with_reducible show _ ∧ _); (with_reducible apply And.intro))
  all_goals first | (refine retK h ?_; clear h; simp only [fin0]) | (with_reducible refine Ob.mk ?_; clear h) | (clear h)
  all_goals (try simp only [eta0, RT.bytes] at *)
theorem okSrvNewS : SpecOk1 Tryz.prog 205 sSrvNew := spec1 tabOk (ss := []) trivial rfl rfl <| by
  intro (bs : Th (List Int)) (p : Th Int) u K _ _ ho h
  refine ⟨noAnn, noAnn, 20, ?_⟩
  cbv
  repeat' first | ((with_reducible intro _); cbv) | ((with_reducible show _ ∧ _); (with_reducible apply And.intro))
  all_goals first | (refine retK h ?_; clear h; simp only [fin0]) | (with_reducible refine Ob.mk ?_; clear h) | (clear h)
  all_goals (try simp only [eta0, RT.bytes] at *)
theorem okSArbNew : SpecOk1 Tryz.prog 203 sArbNew := spec1 tabOk (ss := [(45, sPlcOk)]) ⟨okSPlcOk, trivial⟩ rfl rfl <| by
  intro (bs : Th (List Int)) (p : Th Int) ⟨(m : Th PMap), u⟩ K _ _ ho h
  obtain ⟨m, rfl⟩ := th_ex m
  have hm := @plcOk_iff m
  refine ⟨annL [(203, 5, ⟨Nat, [⟨.cell 4 0, some 500, .int⟩, ⟨.cell 4 1, some 501, .int⟩], fun σ k => ((((((σ.fgs [500, 501]).t 4 (vI fun _ => (k : Int))).cellC 4 0 (.own 500 1)).cellC 4 1 (.own 501 1)).row 500 1 .int (fun _ => List.replicate k (-1 : Int))).row 501 1 .int (fun _ => List.replicate k (0 : Int))), fun _ k _ => (k : Int) ≤ m.cells ∧ plcOk m = true, fun _ k _ => m.cells.toNat - k⟩)], noAnn, 20, ?_⟩
  cbv
  repeat' first | ((with_reducible refine fun (k : Nat) => ?_); cbv) | ((with_reducible intro _); cbv) | ((with_reducible show _ ∧ _); (with_reducible apply And.intro))
  all_goals try ((first | (with_reducible refine LoopIn.mk ((0 : Nat)) ?_ ?_) | (with_reducible refine LoopBack.mk ((k + 1 : Nat)) ?_ ?_ ?_)) )
  all_goals try ((with_reducible show matchSt _ _); cbv; (try simp only [and_true, true_and]))
  all_goals try (with_reducible show _ ∧ _; (repeat' (with_reducible apply And.intro)))
  all_goals first | (refine retK h ?_; clear h; simp only [fin0]) | (with_reducible refine Ob.mk ?_; clear h) | (clear h)
  all_goals (try simp only [eta0, RT.bytes] at *)
  all_goals grind [wrap_succ, rep_succ, arbNew]
theorem okSGwyNew : SpecOk1 Tryz.prog 204 sGwyNew := spec1 tabOk (ss := [(45, sPlcOk), (172, sWlkListOkS), (103, sPlcCell)]) ⟨okSPlcOk, okSWlkListOk, okSPlcCell, trivial⟩ rfl rfl <| by
  intro (bs : Th (List Int)) (p : Th Int) ⟨(m : Th PMap), (l : Th (List Wlk)), u⟩ K _ _ ho h
  obtain ⟨m, rfl⟩ := th_ex m; obtain ⟨l, rfl⟩ := th_ex l
  have hl := okB (ho.2.1 _ (.head _))
  have hf := @wlk_few m l
  refine ⟨annL [(204, 5, ⟨Nat, [⟨.cell 6 0, some 500, .row⟩], fun σ k => (((σ.fgs [500]).t 6 (vI fun _ => (k : Int))).cellC 6 0 (.own 500 1)).row 500 1 .row (fun _ => (l.take k).map (rowNew m)), fun _ k _ => k ≤ l.length, fun _ k _ => l.length - k⟩)], noAnn, 20, ?_⟩
  cbv
  repeat' first | ((with_reducible refine fun (k : Nat) => ?_); cbv) | ((with_reducible intro _); cbv) | ((with_reducible show _ ∧ _); (with_reducible apply And.intro))
  all_goals try ((first | (with_reducible refine LoopIn.mk ((0 : Nat)) ?_ ?_) | (with_reducible refine LoopBack.mk ((k + 1 : Nat)) ?_ ?_ ?_)) )
  all_goals try ((with_reducible show matchSt _ _); cbv; (try simp only [and_true, true_and]))
  all_goals try (with_reducible show _ ∧ _; (repeat' (with_reducible apply And.intro)))
  all_goals first | (refine retK h ?_; clear h; simp only [fin0]) | (with_reducible refine Ob.mk ?_; clear h) | (clear h)
  all_goals (try simp only [eta0, RT.bytes] at *)
  all_goals grind [wrap_succ, row_succ, gwyNew, rowNew, List.length_map, List.length_take]
theorem okSCllNew : SpecOk1 Tryz.prog 229 sCllNew := spec1 tabOk (ss := [(45, sPlcOk), (47, sIn), (172, sWlkListOkS), (103, sPlcCell)]) ⟨okSPlcOk, okL1In, okSWlkListOk, okSPlcCell, trivial⟩ rfl rfl <| by
  intro (bs : Th (List Int)) (p : Th Int) ⟨(m : Th PMap), (c : Th Int), (l : Th (List Wlk)), u⟩ K _ _ ho h
  obtain ⟨m, rfl⟩ := th_ex m; obtain ⟨c, rfl⟩ := th_ex c; obtain ⟨l, rfl⟩ := th_ex l
  have hl := okB (ho.2.2.1 _ (.head _))
  have hn := inCell_len m c l
  have hm := @plcOk_iff m
  refine ⟨annL [(229, 5, ⟨Nat, [⟨.cell 8 1, some 500, .wlk⟩], fun σ k => (((σ.fgs [29, 30, 500]).t 8 (vI fun _ => (k : Int))).cellC 8 1 (.own 500 1)).row 500 1 .wlk (fun _ => inCell m c l k), fun _ k _ => k ≤ l.length, fun _ k _ => l.length - k⟩)], noAnn, 20, ?_⟩
  cbv
  repeat' first | ((with_reducible refine fun (k : Nat) => ?_); cbv) | ((with_reducible intro _); cbv) | ((with_reducible show _ ∧ _); (with_reducible apply And.intro))
  all_goals try ((first | (with_reducible refine LoopIn.mk ((0 : Nat)) ?_ ?_) | (with_reducible refine LoopBack.mk ((k + 1 : Nat)) ?_ ?_ ?_)) )
  all_goals try ((with_reducible show matchSt _ _); cbv; (try simp only [and_true, true_and]))
  all_goals try (with_reducible show _ ∧ _; (repeat' (with_reducible apply And.intro)))
  all_goals first | (refine retK h ?_; clear h; simp only [fin0]) | (with_reducible refine Ob.mk ?_; clear h) | (clear h)
  all_goals (try simp only [eta0, RT.bytes] at *)
  all_goals (try dsimp only [RT.ty] at *)
  all_goals grind (splits := 20) [wrap_succ, wrap_id, inCell_yes, inCell_no, inCell_zero, cllNew, zeroC, inR, wrap_pred]
theorem okSStoNew : SpecOk1 Tryz.prog 206 sSStoNew := spec1 tabOk (ss := [(229, sCllNew), (142, sCllOk)]) ⟨okSCllNew, okSCllOk, trivial⟩ rfl rfl <| by
  intro (bs : Th (List Int)) (p : Th Int) ⟨(m : Th PMap), (c : Th Int), (l : Th (List Wlk)), u⟩ K _ _ ho h
  obtain ⟨m, rfl⟩ := th_ex m; obtain ⟨c, rfl⟩ := th_ex c; obtain ⟨l, rfl⟩ := th_ex l
  refine ⟨noAnn, noAnn, 20, ?_⟩
  cbv
  repeat' first | ((with_reducible intro _); cbv) | ((with_reducible show _ ∧ _); (with_reducible apply And.intro))
  all_goals first | (refine retK h ?_; clear h; simp only [fin0]) | (with_reducible refine Ob.mk ?_; clear h) | (clear h)
  all_goals (try simp only [eta0, RT.bytes] at *)
  all_goals grind [stoNewS, stoNew, zeroS, zeroC]
theorem okSWldNew : SpecOk1 Tryz.prog 185 sWldNew := spec1 tabOk (ss := [(45, sPlcOk), (172, sWlkListOkS), (47, sIn), (203, sArbNew), (204, sGwyNew), (205, sSrvNew), (206, sSStoNew)]) ⟨okSPlcOk, okSWlkListOk, okL1In, okSArbNew, okSGwyNew, okSrvNewS, okSStoNew, trivial⟩ rfl rfl <| by
  intro (bs : Th (List Int)) (p : Th Int) ⟨(m : Th PMap), (l : Th (List Wlk)), (v : Th Int), u⟩ K _ _ ho h
  obtain ⟨m, rfl⟩ := th_ex m; obtain ⟨l, rfl⟩ := th_ex l; obtain ⟨v, rfl⟩ := th_ex v
  have hm := @plcOk_iff m
  have hk := fun (i : Int) => @cllNew_ok m i l
  refine ⟨annL [(185, 5, ⟨Nat × Unit, [⟨.cell 8 2, some 500, .srv⟩], fun σ q => (((σ.fgs [500]).t 8 (vI fun _ => (q.1 : Int))).cellC 8 2 (.own 500 1)).row 500 1 .srv (fun _ => List.replicate q.1 ⟨true, [], []⟩), fun _ q _ => (q.1 : Int) ≤ v ∧ plcOk m = true ∧ wlkAll m l = true ∧ 1 ≤ v ∧ v ≤ 3, fun _ q _ => v.toNat - q.1⟩),
    (185, 9, ⟨Nat, [⟨.cell 8 3, some 501, .sto⟩], fun σ k => (((σ.fgs [501]).t 9 (vI fun _ => (k : Int))).cellC 8 3 (.own 501 1)).row 501 1 .sto (fun _ => (List.range k).map fun (i : Nat) => stoNew m (i : Int) l), fun _ k _ => (k : Int) ≤ m.cells ∧ plcOk m = true ∧ wlkAll m l = true ∧ 1 ≤ v ∧ v ≤ 3, fun _ k _ => m.cells.toNat - k⟩)], noAnn, 20, ?_⟩
  cbv
  repeat' first | ((with_reducible refine fun (k : Nat) => ?_); cbv) | ((with_reducible refine fun (q : Nat × Unit) => ?_); obtain ⟨s, _⟩ := q; cbv) | ((with_reducible intro _); cbv) | ((with_reducible show _ ∧ _); (with_reducible apply And.intro))
  all_goals try ((first | (with_reducible refine LoopIn.mk (((0, ()) : Nat × Unit)) ?_ ?_) | (with_reducible refine LoopIn.mk ((0 : Nat)) ?_ ?_) | (with_reducible refine LoopBack.mk ((k + 1 : Nat)) ?_ ?_ ?_) | (with_reducible refine LoopBack.mk (((s + 1, ()) : Nat × Unit)) ?_ ?_ ?_)) )
  all_goals try ((with_reducible show matchSt _ _); cbv; (try simp only [and_true, true_and]))
  all_goals try (with_reducible show _ ∧ _; (repeat' (with_reducible apply And.intro)))
  all_goals first | (refine retK h ?_; clear h; simp only [fin0]) | (with_reducible refine Ob.mk ?_; clear h) | (clear h)
  all_goals (try simp only [eta0, RT.bytes] at *)
  all_goals (try dsimp only [RT.ty] at *)
  all_goals (try grind (splits := 20) [wrap_succ, wrap_id, inR, rep_succ, rng_succ, wldNew, wldBegin, zeroWld, stoNewS])
end Go.Proofs.YtfgphaokmjdcbaaGreat

/-
  Contracts: what happens, drawn.
-/
namespace Go.Proofs.YtfgphaokmjdcbaaGreat
open Go.Sx Go.Proofs Go.Mo
set_option maxRecDepth 100000
set_option maxHeartbeats 8000000
set_option linter.unusedSimpArgs false
set_option linter.unusedVariables false

theorem ncast (n : Nat) : (NatCast.natCast n : Int) = (n : Int) := rfl
/-- Numbers of an event, any; and so many draws at most. -/
theorem tmw {a n : Int} (ha : 0 ≤ a) (hb : a ≤ 1000000000000000) (hn : 1 ≤ n) : 0 ≤ (IntKind.i64.wrap (a + 1)).tmod n ∧ (IntKind.i64.wrap (a + 1)).tmod n < n := by
  rw [wrap_id (by omega) (by omega)]
  exact tm (by omega) hn
noncomputable def evRun (p : Th Int) (pre : Th Prop) (B n : Int) : Rn (V × Th Int) :=   .asrt (fun _ => pre () ∧ 0 ≤ p () ∧ p () ≤ B) (.all Int fun x0 => .all Int fun x1 => .all Int fun x2 => .all Int fun x3 => .all Int fun x4 => .all Int fun q => .asm (fun _ => p () ≤ q ∧ q ≤ p () + n) (.ret (.agg [cI x0, cI x1, cI x2, cI x3, cI x4], fun _ => q)))
noncomputable def sAskE : Sx.Spec := ⟨true, false, [.row .wld], [], fun _ p ⟨w, _⟩ => evRun p (fun _ => True) 999000001000 40⟩
noncomputable def sEventE : Sx.Spec := ⟨true, false, [.row .wld], [], fun _ p ⟨w, _⟩ => evRun p (fun _ => True) 999000000000 60⟩
noncomputable def sStoryE : Sx.Spec := ⟨true, false, [.row .wld, .int .i64, .int .i64], [], fun _ p ⟨w, _⟩ => evRun p (fun _ => True) 999000000000 60⟩
noncomputable def sLateE : Sx.Spec := ⟨true, false, [.row .wld, .int .i64], [], fun _ p ⟨w, _⟩ => evRun p (fun _ => (w ()).rows.length ≤ 20 ∧ 1 ≤ (w ()).servers.length) 999000000000 100⟩
noncomputable def sLivelyE : Sx.Spec := ⟨true, false, [.row .wld, .int .i64], [], fun _ p ⟨w, _⟩ => evRun p (fun _ => (w ()).stores.length ≤ 20) 999000000000 100⟩

theorem okAskE : SpecOk1 Tryz.prog 198 sAskE := spec1 tabOk (ss := [(97, sOrder), (39, sPick)]) ⟨okOrder, okPick, trivial⟩ rfl rfl <| by
  intro (bs : Th (List Int)) (p : Th Int) ⟨(w : Th Wld), u⟩ K hb hp0 ho h
  obtain ⟨w, rfl⟩ := th_ex w; obtain ⟨bs, rfl⟩ := th_ex bs; obtain ⟨p, rfl⟩ := th_ex p
  obtain ⟨hpre, h⟩ := h
  have hpre : True ∧ 0 ≤ p ∧ p ≤ 999000001000 := hpre.out
  have hl := okL (ho.1 _ (.tail _ (.tail _ (.tail _ (.tail _ (.tail _ (.tail _ (.head _))))))))
  refine ⟨noAnn, noAnn, 20, ?_⟩
  cbv
  repeat' first | ((with_reducible intro _); cbv) | ((with_reducible show _ ∧ _); (with_reducible apply And.intro))
  all_goals first | (refine retK (h _ _ _ _ _ _ ?_) rfl; clear h) | (with_reducible refine Ob.mk ?_; clear h) | (clear h)
  all_goals (try simp only [eta0, RT.bytes] at *)
  all_goals first | omega | grind [wrap_id]
theorem okStoryE : SpecOk1 Tryz.prog 181 sStoryE := spec1 tabOk (ss := [(39, sPick)]) ⟨okPick, trivial⟩ rfl rfl <| by
  intro (bs : Th (List Int)) (p : Th Int) ⟨(w : Th Wld), (k : Th Int), (what : Th Int), u⟩ K hb hp0 ho h
  obtain ⟨w, rfl⟩ := th_ex w; obtain ⟨k, rfl⟩ := th_ex k; obtain ⟨what, rfl⟩ := th_ex what; obtain ⟨bs, rfl⟩ := th_ex bs; obtain ⟨p, rfl⟩ := th_ex p
  obtain ⟨hpre, h⟩ := h
  have hpre : True ∧ 0 ≤ p ∧ p ≤ 999000000000 := hpre.out
  refine ⟨noAnn, noAnn, 20, ?_⟩
  cbv
  repeat' first | ((with_reducible intro _); cbv) | ((with_reducible show _ ∧ _); (with_reducible apply And.intro))
  all_goals first | (refine retK (h _ _ _ _ _ _ ?_) rfl; clear h) | (with_reducible refine Ob.mk ?_; clear h) | (clear h)
  all_goals (try simp only [eta0, RT.bytes] at *)
  all_goals first | omega | grind [wrap_id]
theorem okLateE : SpecOk1 Tryz.prog 180 sLateE := spec1 tabOk (ss := [(39, sPick), (198, sAskE), (161, sArbServer)]) ⟨okPick, okAskE, okSArbServer, trivial⟩ rfl rfl <| by
  intro (bs : Th (List Int)) (p : Th Int) ⟨(w : Th Wld), (k : Th Int), u⟩ K hb hp0 ho h
  obtain ⟨w, rfl⟩ := th_ex w; obtain ⟨k, rfl⟩ := th_ex k; obtain ⟨bs, rfl⟩ := th_ex bs; obtain ⟨p, rfl⟩ := th_ex p
  obtain ⟨hpre, h⟩ := h
  have hpre : (w.rows.length ≤ 20 ∧ 1 ≤ w.servers.length) ∧ 0 ≤ p ∧ p ≤ 999000000000 := hpre.out
  have hl := okL (ho.1 _ (.tail _ (.tail _ (.tail _ (.tail _ (.tail _ (.tail _ (.tail _ (.head _)))))))))
  refine ⟨annL [(180, 3, ⟨Th Int × Th Row × Th Int, [], fun σ g => ((σ.t 8 (.one (.att (.int .i64 g.1)))).cellsA 8 0 (encRow g.2.1)).cellC 0 1 (.att (.int .i64 g.2.2)),
      fun _ g _ => Ob fun _ => 0 ≤ g.1 () ∧ g.1 () ≤ w.rows.length ∧ p ≤ g.2.2 () ∧ g.2.2 () ≤ p + g.1 (), fun _ g _ => w.rows.length - (g.1 ()).toNat⟩),
    (180, 19, ⟨Th Int × Th Bool, [], fun σ g => σ.t 9 (.one (.att (.int .i64 g.1))), fun _ g _ => Ob fun _ => 0 ≤ g.1 () ∧ g.1 () ≤ w.net.length, fun _ g _ => w.net.length - (g.1 ()).toNat⟩)], noAnn, 20, ?_⟩
  cbv
  repeat' first | ((with_reducible refine fun (g : Th Int × Th Row × Th Int) => ?_); obtain ⟨i, r, q⟩ := g; obtain ⟨i, rfl⟩ := th_ex i; obtain ⟨r, rfl⟩ := th_ex r; obtain ⟨q, rfl⟩ := th_ex q; (with_reducible refine ImpB.out ?_); cbv; (with_reducible refine ImpB.mk ?_); intro hq; obtain ⟨hq⟩ := hq) | ((with_reducible refine fun (g : Th Int × Th Bool) => ?_); obtain ⟨j, z⟩ := g; obtain ⟨j, rfl⟩ := th_ex j; obtain ⟨z, rfl⟩ := th_ex z; (with_reducible refine ImpB.out ?_); cbv; (with_reducible refine ImpB.mk ?_); intro hq; obtain ⟨hq⟩ := hq) | ((with_reducible intro _); cbv) | ((with_reducible show _ ∧ _); (with_reducible apply And.intro))
  all_goals try ((first | (with_reducible refine LoopIn.wf (fun σ => (σ.tmI 8, rdRow σ 8, asI (σ.ce 0 1))) ?_ ?_) | (with_reducible refine LoopBack.wf (fun σ => (σ.tmI 8, rdRow σ 8, asI (σ.ce 0 1))) ?_ ?_ ?_) | (with_reducible refine LoopIn.wf (fun σ => (σ.tmI 9, noBool)) ?_ ?_) | (with_reducible refine LoopBack.wf (fun σ => (σ.tmI 9, noBool)) ?_ ?_ ?_)) <;> cbv)
  all_goals try (with_reducible show _ ∧ _; (try simp only [and_true, true_and]))
  all_goals try (with_reducible show _ ∧ _; (repeat' (with_reducible apply And.intro)))
  all_goals try (with_reducible refine MeasB.mk ?_)
  all_goals first | (refine retK (h _ _ _ _ _ _ ?_) rfl; clear h) | (with_reducible refine Ob.mk ?_; clear h) | (clear h)
  all_goals (try simp only [eta0, RT.bytes] at *)
  all_goals (first | rfl | omega | grind [wrap_id, tm, tmw])
theorem okLivelyE : SpecOk1 Tryz.prog 182 sLivelyE := spec1 tabOk (ss := [(198, sAskE), (39, sPick), (161, sArbServer)]) ⟨okAskE, okPick, okSArbServer, trivial⟩ rfl rfl <| by
  intro (bs : Th (List Int)) (p : Th Int) ⟨(w : Th Wld), (k : Th Int), u⟩ K hb hp0 ho h
  obtain ⟨w, rfl⟩ := th_ex w; obtain ⟨k, rfl⟩ := th_ex k; obtain ⟨bs, rfl⟩ := th_ex bs; obtain ⟨p, rfl⟩ := th_ex p
  obtain ⟨hpre, h⟩ := h
  have hpre : w.stores.length ≤ 20 ∧ 0 ≤ p ∧ p ≤ 999000000000 := hpre.out
  have hl := okL (ho.1 _ (.tail _ (.tail _ (.tail _ (.tail _ (.tail _ (.tail _ (.head _))))))))
  refine ⟨annL [(182, 8, ⟨Th Int × Th Int, [], fun σ g => (σ.t 7 (.one (.att (.int .i64 g.1)))).t 8 (.one (.att (.int .i64 g.2))),
      fun _ g _ => Ob fun _ => 0 ≤ g.1 () ∧ g.1 () < w.rows.length ∧ 0 ≤ g.2 () ∧ g.2 () ≤ w.rows.length, fun _ g _ => w.rows.length - (g.2 ()).toNat⟩),
    (182, 16, ⟨Th Int × Th Int × Th Int, [], fun σ g => ((σ.t 9 (.one (.att (.int .i64 g.1)))).t 10 (.one (.att (.int .i64 g.2.1)))).cellC 0 1 (.att (.int .i64 g.2.2)),
      fun _ g _ => Ob fun _ => 0 ≤ g.1 () ∧ (w.stores.length = 0 ∨ g.1 () < w.stores.length) ∧ 0 ≤ g.2.1 () ∧ g.2.1 () ≤ w.stores.length ∧ p ≤ g.2.2 () ∧ g.2.2 () ≤ p + 10 + g.2.1 (), fun _ g _ => w.stores.length - (g.2.1 ()).toNat⟩)], noAnn, 20, ?_⟩
  cbv
  repeat' first | ((with_reducible refine fun (g : Th Int × Th Int × Th Int) => ?_); obtain ⟨c, n, q⟩ := g; obtain ⟨c, rfl⟩ := th_ex c; obtain ⟨n, rfl⟩ := th_ex n; obtain ⟨q, rfl⟩ := th_ex q; (with_reducible refine ImpB.out ?_); cbv; (with_reducible refine ImpB.mk ?_); intro hq; obtain ⟨hq⟩ := hq) | ((with_reducible refine fun (g : Th Int × Th Int) => ?_); obtain ⟨i, n⟩ := g; obtain ⟨i, rfl⟩ := th_ex i; obtain ⟨n, rfl⟩ := th_ex n; (with_reducible refine ImpB.out ?_); cbv; (with_reducible refine ImpB.mk ?_); intro hq; obtain ⟨hq⟩ := hq) | ((with_reducible intro _); cbv) | ((with_reducible show _ ∧ _); (with_reducible apply And.intro))
  all_goals try ((first | (with_reducible refine LoopIn.wf (fun σ => (σ.tmI 9, σ.tmI 10, asI (σ.ce 0 1))) ?_ ?_) | (with_reducible refine LoopBack.wf (fun σ => (σ.tmI 9, σ.tmI 10, asI (σ.ce 0 1))) ?_ ?_ ?_) | (with_reducible refine LoopIn.wf (fun σ => (σ.tmI 7, σ.tmI 8)) ?_ ?_) | (with_reducible refine LoopBack.wf (fun σ => (σ.tmI 7, σ.tmI 8)) ?_ ?_ ?_)) <;> cbv)
  all_goals try (with_reducible show _ ∧ _; (try simp only [and_true, true_and]))
  all_goals try (with_reducible show _ ∧ _; (repeat' (with_reducible apply And.intro)))
  all_goals try (with_reducible refine MeasB.mk ?_)
  all_goals first | (refine retK (h _ _ _ _ _ _ ?_) rfl; clear h) | (with_reducible refine Ob.mk ?_; clear h) | (clear h)
  all_goals (try simp only [eta0, RT.bytes] at *)
  all_goals (try dsimp only [RT.ty] at *)
  all_goals (try simp only [ncast] at *)
  all_goals (first | rfl | omega | grind [wrap_id] | (have hq2 := @tmw i w.rows.length (by omega) (by omega) (by omega); have hw := @wrap_id (n + 1) (by omega) (by omega); rw [hw]; exact ⟨hq2.1, hq2.2, by omega, by omega⟩) |
    (have hq2 := @tmw c w.stores.length (by omega) (by omega) (by omega); have hw := @wrap_id (n + 1) (by omega) (by omega); rw [hw]; exact ⟨hq2.1, .inr hq2.2, by omega, by omega, by omega, by omega⟩))
end Go.Proofs.YtfgphaokmjdcbaaGreat

/-
  Contracts: what is drawn: records that a cell takes, one of which may not fit.
-/
namespace Go.Proofs.YtfgphaokmjdcbaaGreat
open Go.Sx Go.Proofs Go.Mo
set_option maxRecDepth 100000
set_option maxHeartbeats 8000000
set_option linter.unusedSimpArgs false
set_option linter.unusedVariables false

noncomputable def sPlaysO : Sx.Spec := ⟨true, true, [.map, .row .cll, .int .i64], [[some .rcd], nCll], fun _ p ⟨m, c0, n, _⟩ => .asrt (fun _ => 0 ≤ p () ∧ p () ≤ 999999990000 ∧ n () ≤ 30) (.all (List Sx.Rec) fun l => .all Int fun a => .all (List Wlk) fun b => .all Int fun c => .all (List (List Pcl)) fun d => .all (List Int) fun e => .all (List Int) fun f => .all Int fun q => .asm (fun _ => p () ≤ q ∧ q ≤ p () + 1800 ∧ l.length ≤ 30 ∧ (small (c0 ()).wlks (c0 ()).outs → small b d)) (.ret (.tup [vW .rcd fun _ => l, rC a b c d e f], fun _ => q)))⟩
theorem okPlaysO : SpecOk1 Tryz.prog 187 sPlaysO := spec1 tabOk (ss := [(142, sCllOk), (208, sRec), (163, sLogApply)]) ⟨okSCllOk, okRec, okSLogApply, trivial⟩ rfl rfl <| by
  intro (bs : Th (List Int)) (p : Th Int) ⟨(m : Th PMap), (c : Th Cll), (n : Th Int), u⟩ K hb hp0 ho h
  obtain ⟨m, rfl⟩ := th_ex m; obtain ⟨c, rfl⟩ := th_ex c; obtain ⟨n, rfl⟩ := th_ex n; obtain ⟨bs, rfl⟩ := th_ex bs; obtain ⟨p, rfl⟩ := th_ex p
  obtain ⟨hpre, h⟩ := h
  have hpre : 0 ≤ p ∧ p ≤ 999999990000 ∧ n ≤ 30 := hpre.out
  refine ⟨annL [(187, 2, ⟨List Sx.Rec × Cll × Int × Int, [⟨.tmp 10 0, some 16, .rcd⟩, ⟨.cell 7 1, none, .wlk⟩, ⟨.cell 7 3, none, .pcls⟩, ⟨.cell 7 4, none, .int⟩, ⟨.cell 7 5, none, .int⟩],
    fun σ g => St.rcll ((((((σ.fgs [16]).t 3 (vI fun _ => g.2.2.1)).t 10 (vO 16 1)).row 16 1 .rcd (fun _ => g.1)).cellC 0 1 (.att (.int .i64 fun _ => g.2.2.2)))) 7 (fun _ => g.2.1),
    fun _ g _ => g.2.2.1 ≤ 30 ∧ (small c.wlks c.outs → small g.2.1.wlks g.2.1.outs) ∧ (g.2.2.1 < 0 ∧ g.1.length = 0 ∧ g.2.2.2 = p ∨ 0 ≤ g.2.2.1 ∧ (g.1.length : Int) ≤ 30 - g.2.2.1 ∧ p ≤ g.2.2.2 ∧ g.2.2.2 ≤ p + 60 * (30 - g.2.2.1)), fun _ g _ => g.2.2.1.toNat⟩)], noAnn, 20, ?_⟩
  cbv
  repeat' first | ((with_reducible refine fun (k : Nat) => ?_); cbv) | ((with_reducible refine fun (g : List Sx.Rec × Cll × Int × Int) => ?_); obtain ⟨gl, gc, gn, gq⟩ := g; cbv) | ((with_reducible intro _); cbv) | ((with_reducible show _ ∧ _); (with_reducible apply And.intro))
  all_goals try (first | (with_reducible refine LoopIn.mk (([], c, n, p) : List Sx.Rec × Cll × Int × Int) ?_ ?_) |
    (rename_i r0 r1 r2 r3 r4 r5 r6 r7 r8 r9 r10 r11 r12 r13 r14 r15 q1 hq hok; have hok : (cllApplyX m gc ⟨r0, ⟨r1, r2, r3, r4, r5⟩, r6, ⟨r7, r8, ⟨r9, r10, r11, r12, r13⟩, r14⟩, r15⟩).ok = true := hok; obtain ⟨L, hL⟩ : ∃ L, L = gl ++ [(⟨r0, ⟨r1, r2, r3, r4, r5⟩, r6, ⟨r7, r8, ⟨r9, r10, r11, r12, r13⟩, r14⟩, r15⟩ : Sx.Rec)] := ⟨_, rfl⟩; obtain ⟨X, hX⟩ : ∃ X, X = (cllApplyX m gc ⟨r0, ⟨r1, r2, r3, r4, r5⟩, r6, ⟨r7, r8, ⟨r9, r10, r11, r12, r13⟩, r14⟩, r15⟩).c := ⟨_, rfl⟩; obtain ⟨g1, hg1⟩ : ∃ g1, g1 = gn - 1 := ⟨_, rfl⟩; with_reducible refine LoopBack.mk ((L, X, g1, q1) : List Sx.Rec × Cll × Int × Int) ?_ ?_ ?_) |
    (rename_i r0 r1 r2 r3 r4 r5 r6 r7 r8 r9 r10 r11 r12 r13 r14 r15 q1 hq hok; obtain ⟨g1, hg1⟩ : ∃ g1, g1 = gn - 1 := ⟨_, rfl⟩; with_reducible refine LoopBack.mk ((gl, gc, g1, q1) : List Sx.Rec × Cll × Int × Int) ?_ ?_ ?_))
  all_goals try ((first | (with_reducible refine LoopIn.mk ((0 : Nat)) ?_ ?_) | (with_reducible refine LoopBack.mk ((0 : Nat)) ?_ ?_ ?_)) )
  all_goals try ((with_reducible show matchSt _ _); cbv; (try simp only [and_true, true_and]))
  all_goals try (with_reducible show _ ∧ _; (repeat' (with_reducible apply And.intro)))
  all_goals first | (refine retK (h _ _ _ _ _ _ _ _ ?_) rfl; clear h) | (with_reducible refine Ob.mk ?_; clear h) | (clear h)
  all_goals (try simp only [eta0, RT.bytes] at *)
  all_goals (try subst hL)
  all_goals (try subst hX)
  all_goals first | omega | rfl | grind [wrap_id, small_apply]
end Go.Proofs.YtfgphaokmjdcbaaGreat

/-
  slices.Insert of one GstGhost: the library's own text walked, each road.
-/
namespace Go.Proofs.YtfgphaokmjdcbaaGreat
open Go.Sx Go.Proofs Go.RowKit
set_option maxRecDepth 100000
set_option maxHeartbeats 8000000
set_option linter.unusedSimpArgs false
set_option linter.unusedVariables false

theorem insG_info : (Tryz.prog.info? 35).map (fun i => (i.zero, i.size, i.bytes)) = some (some (.agg #[.int .i64 0, .int .i64 0, .int .i64 0, .int .i64 0, .int .i64 0, .int .i64 0, .int .i64 0]), 7, 56) := by kernel_rfl
theorem insG_ty : ∃ inf z, Tryz.prog.info? 35 = some inf ∧ inf.size = 7 ∧ inf.bytes = 56 ∧ inf.zero = some z ∧ z.cells.size = 7 := by
  obtain ⟨i0, h1, h2, h3, h4⟩ := info_parts insG_info
  exact ⟨i0, _, h1, h3, h4, h2, rfl⟩

theorem insG_room (w : World) (b n c i vb voff vc T tV : Nat) (cs vcs : Array Value) (us : List Value) (hi : i < n) (hroom : n + 1 ≤ c) (hc : c ≤ maxLen) (hh : w.heap[b]? = some (.cells cs T (0, 0))) (hs : cs.size = c * 7) (hu : us.length = 7)
    (hvh : w.heap[vb]? = some (.cells vcs tV (0, 0))) (hvb : vb ≠ b) (hvs : ∀ j v, us[j]? = some v → w.cell? ⟨vb, voff + j, none⟩ = some v) (h1 : ∀ u ∈ us, one u) (h1c : ∀ u ∈ cs.toList.take (n * 7), one u) :
    Calls Tryz.prog 155 #[.slice (some ⟨b, 0, none⟩) n c, .int .i64 i, .slice (some ⟨vb, voff, none⟩) 1 vc] w fun e w' =>
      ∃ v, e = .returned v ∧ InsE w w' 7 (.slice (some ⟨b, 0, none⟩) n c) v n i 1 b c cs us := by
  obtain ⟨inf, z, hinf, hsz, hby, hz, hzc⟩ := insG_ty
  have u25 := run_underlying Tryz.underlying49
  have z38 : ∀ w, (sizeOf 35).run Tryz.prog w = .ok 7 w := fun w => by simp [sizeOf, typeInfo, hinf, hsz]
  have hc63 : c ≤ 9223372036854775807 := hc
  have hcb : n + 1 ≤ 9223372036854775807 := by omega
  have hkB : cs.size ≠ 0 := by rw [hs]; omega
  have hov : ∀ lb cb, (callFunc 190 #[.slice (some ⟨vb, voff, none⟩) 1 vc, .slice (some ⟨b, (i + 1) * 7, none⟩) lb cb]).run Tryz.prog w = .ok (.value (.bool false)) w := fun lb cb => by
    rw [run_callFunc_extern Tryz.func190 (by kernel_rfl) (by kernel_rfl) (by kernel_rfl) (e := Extern.SlicesOverlaps.overlaps #[49, 49] #[4]) (by kernel_rfl),
      Lib.run_overlaps_apart w 49 4 35 Tryz.underlying49 7 z38 ⟨vb, voff, none⟩ ⟨b, (i + 1) * 7, none⟩ 1 vc lb cb hvb tV T vcs.size cs.size (by simp [World.shape?, hvh]) (by simp [World.shape?, hh]) hkB (frozen_of_row _ _ _ _ _ hvh) (frozen_of_row _ _ _ _ _ hvh)]
    rfl
  have hw1 : IntKind.i64.wrap ((n : Int) + 1) = ((n + 1 : Nat) : Int) := by rw [IntKind.wrap_i64]; omega
  have hw2 : IntKind.i64.wrap ((i : Int) + 1) = ((i + 1 : Nat) : Int) := by rw [IntKind.wrap_i64]; omega
  have hne : ¬ ((i : Int) = (n : Int)) := by omega
  have mixed := tabOk.mix
  have hb1 : (0 : Int) ≤ (i : Int) + 1 := by omega
  have hin : i ≤ n := by omega
  have hb2 : ¬ (c = i + 1) := by omega
  have hb3 : (i : Int) ≤ (n : Int) + 1 := by omega
  have hb4 : ¬ (c = i) := by omega
  have htn : ((i : Int) + 1).toNat = i + 1 := by omega
  go_enter Tryz.func155, Tryz.ntmps155
  go_wp2_with (simp only [hov])
  clear hov
  have htl := tail_len (i := i) hs (show n ≤ c by omega)
  have hn5 : (n + 1) * 7 ≤ c * 7 := Nat.mul_le_mul_right _ hroom
  have hsrc : ∀ j v, ((cs.toList.take (n * 7)).drop (i * 7))[j]? = some v → w.cell? ⟨b, i * 7 + j, none⟩ = some v := fun j v hj => by
    rw [List.getElem?_drop, List.getElem?_take] at hj
    rw [cell_at hh]
    split at hj
    · simpa using hj
    · cases hj
  have hcp1 : ∀ ty dc sc, (Builtin.copy_ #[49, 49] ty #[.slice (some ⟨b, (i + 1) * 7, none⟩) (n - i) dc, .slice (some ⟨b, i * 7, none⟩) (n + 1 - i) sc]).run Tryz.prog w.drew = .ok (goInt (n - i : Nat)) (wrote w.drew b ((i + 1) * 7) cs ((cs.toList.take (n * 7)).drop (i * 7))) := fun ty dc sc =>
    run_copy_big (k := n - i) (us := (cs.toList.take (n * 7)).drop (i * 7)) Tryz.underlying49 hinf (by simp only [Nat.min_def]; split <;> omega) (by rw [hsz]; exact htl) (fun j v hj => by
      rw [addr_add]
      exact hsrc j v hj) hh (by rw [htl, hs]; omega) (fun u hu => h1c u (List.mem_of_mem_drop hu))
  go_region_law_o (refine step_copy_runI rfl _ _ 49 49 rfl _ _ (by simp [Act.eval, Act.put]) (by simp [Act.eval, Act.put]) (hcp1 _ _ _) ?_)
  have htl2 : ((cs.toList.take (n * 7)).drop (i * 7)).length = (n - i) * 7 := htl
  obtain ⟨cs1, hcs1⟩ : ∃ cs1, cs1 = (putAt cs.toList ((i + 1) * 7) ((cs.toList.take (n * 7)).drop (i * 7))).toArray := ⟨_, rfl⟩
  obtain ⟨W1, hW1⟩ : ∃ W1, W1 = wrote w.drew b ((i + 1) * 7) cs ((cs.toList.take (n * 7)).drop (i * 7)) := ⟨_, rfl⟩
  have hh1 : W1.heap[b]? = some (.cells cs1 T (0, 0)) := by rw [hW1, hcs1]; exact wrote_heap hh
  have hv1 : W1.heap[vb]? = some (.cells vcs tV (0, 0)) := by rw [hW1, wrote_other hvb]; exact hvh
  have hsz1 : cs1.size = c * 7 := by rw [hcs1, List.size_toArray, putAt_length _ _ _ (by rw [htl2, Array.length_toList, hs]; omega), Array.length_toList, hs]
  have hcp2 : ∀ (W : World), W.heap = W1.heap → ∀ ty dc, (Builtin.copy_ #[49, 49] ty #[.slice (some ⟨b, i * 7, none⟩) (n + 1 - i) dc, .slice (some ⟨vb, voff, none⟩) 1 vc]).run Tryz.prog W = .ok (goInt (1 : Nat)) (wrote W b (i * 7) cs1 us) := fun W hW ty dc =>
    run_copy_big (k := 1) (us := us) (T := T) Tryz.underlying49 hinf (by simp only [Nat.min_def]; split <;> omega) (by rw [hsz, hu]) (fun j v hj => by
      rw [addr_add, cell_at (cs := vcs) (T := tV) (by rw [hW]; exact hv1)]
      have := hvs j v hj
      rw [cell_at hvh] at this
      exact this) (by rw [hW]; exact hh1) (by rw [hu, hsz1]; omega) h1
  rw [← hW1]
  go_wp2_with (at_builtin; refine wpList_copy_runI _ rfl _ _ 49 49 rfl _ _ rfl rfl (hcp2 _ rfl _ _) ?_)
  have hend : InsM w (wrote W1 b (i * 7) cs1 us) 7 (.slice (some ⟨b, 0, none⟩) n c) (.slice (some ⟨b, 0, none⟩) (n + 1) c) n i 1 b c cs us b c (shifted cs 7 n i us).toArray T := by
    refine InsM.room hh hs hroom hc hi hu ?_ (fun x hx => ?_) ?_ ?_ ?_ ?_
    · rw [wrote_heap hh1, shifted, hcs1]
    · rw [wrote_other hx, hW1, wrote_other hx]; rfl
    · rw [hW1]; rfl
    · rw [hW1]; rfl
    · rw [hW1]; rfl
    · rw [hW1]; simp [wrote, World.setRow]
  subst hcs1
  subst hW1
  go_ret
  exact ⟨.slice (some ⟨b, 0, none⟩) (n + 1) c, rfl, _, _, _, _, hend⟩

theorem insG_grow (w : World) (b n c i vb voff vc T tV : Nat) (cs vcs : Array Value) (us : List Value) (hi : i < n) (hnc : n ≤ c) (hroom : c < n + 1) (hc : c ≤ maxLen) (hh : w.heap[b]? = some (.cells cs T (0, 0))) (hs : cs.size = c * 7) (hu : us.length = 7)
    (hvh : w.heap[vb]? = some (.cells vcs tV (0, 0))) (hvs : ∀ j v, us[j]? = some v → w.cell? ⟨vb, voff + j, none⟩ = some v) (h1 : ∀ u ∈ us, one u) (h1c : ∀ u ∈ cs.toList.take (n * 7), one u) (hbig : (n + 1) * 56 ≤ 140737488355328) :
    Calls Tryz.prog 155 #[.slice (some ⟨b, 0, none⟩) n c, .int .i64 i, .slice (some ⟨vb, voff, none⟩) 1 vc] w fun e w' =>
      ∃ v, e = .returned v ∧ InsE w w' 7 (.slice (some ⟨b, 0, none⟩) n c) v n i 1 b c cs us := by
  obtain ⟨inf, z, hinf, hsz, hby, hz, hzc⟩ := insG_ty
  have u25 := run_underlying Tryz.underlying49
  have z38 : ∀ w, (sizeOf 35).run Tryz.prog w = .ok 7 w := fun w => by simp [sizeOf, typeInfo, hinf, hsz]
  have mixed := tabOk.mix
  have hc63 : c ≤ 9223372036854775807 := hc
  have hsrc : ∀ j v, ((cs.toList.take (n * 7)).drop (i * 7))[j]? = some v → w.cell? ⟨b, i * 7 + j, none⟩ = some v := fun j v hj => by
    rw [List.getElem?_drop, List.getElem?_take] at hj
    rw [cell_at hh]
    split at hj
    · simpa using hj
    · cases hj
  have hi5 : (i + 1) * 7 ≤ c * 7 := Nat.mul_le_mul_right _ (by omega)
  have hold : (Builtin.firstCells inf.size i (.slice (some ⟨b, 0, none⟩) i c)).run Tryz.prog w.drew = .ok (cs.toList.take (i * 7)).toArray w.drew := by
    rw [hsz]
    exact run_firstCells_some w.drew 7 i ⟨b, 0, none⟩ i c (cs.toList.take (i * 7)) (by rw [List.length_take, Array.length_toList, hs]; omega) (fun j v hj => by
      rw [addr_add, Nat.zero_add, show w.drew.cell? ⟨b, j, none⟩ = w.cell? ⟨b, j, none⟩ from rfl, cell_at hh]
      rw [List.getElem?_take] at hj
      split at hj
      · simpa using hj
      · cases hj)
  have hik : i + (n + 1 - i) = n + 1 := by omega
  have hkk : (n : Int) + 1 - (i : Int) = ((n + 1 - i : Nat) : Int) := by omega
  have hrz : ∀ ty, (Builtin.append_ #[49, 3] ty #[.slice (some ⟨b, 0, none⟩) i c, .int .i64 ((n : Int) + 1 - (i : Int))]).run Tryz.prog w =
      .ok (.slice (some ⟨w.heap.size, 0, none⟩) (n + 1) (grownCap w (n + 1) c 35)) (w.drew.alloc (.cells ((cs.toList.take (i * 7)).toArray ++ Builtin.zeroCells z.cells (n + 1 - i) ++ Builtin.zeroCells z.cells (grownCap w (n + 1) c 35 - (n + 1))) 35)) := fun ty => by
    have h := Lib.run_append_grow_zeros w 49 3 ty 35 inf z .i64 .i64 Tryz.underlying49 Tryz.underlying3 hinf hz (some ⟨b, 0, none⟩) i c (cs.toList.take (i * 7)) hold (n + 1 - i) (by omega) (by omega) (by omega) (by omega) (by rw [hby]; omega) (by rw [hby, hik]; exact growslice_fits hroom hbig)
    rw [hik] at h
    rw [hkk]
    exact h
  obtain ⟨G, hG⟩ : ∃ G, G = grownCap w (n + 1) c 35 := ⟨_, rfl⟩
  have hGn : n + 1 ≤ G := by rw [hG]; exact grownCap_ge w _ _ _
  have hGm : G ≤ maxLen := by rw [hG]; exact grownCap_le_maxLen w (n + 1) c _ (by unfold maxLen; omega)
  have hG63 : G ≤ 9223372036854775807 := hGm
  obtain ⟨ROW, hROW⟩ : ∃ ROW : Array Value, ROW = (cs.toList.take (i * 7)).toArray ++ Builtin.zeroCells z.cells (n + 1 - i) ++ Builtin.zeroCells z.cells (G - (n + 1)) := ⟨_, rfl⟩
  rw [← hG] at hrz
  rw [← hROW] at hrz
  have hRl : ROW.toList.length = G * 7 := by
    rw [hROW, Array.length_toList]
    simp only [Array.size_append, List.size_toArray, size_zeroCells, hzc, List.length_take, Array.length_toList, hs]
    omega
  have hR0 : ∀ o, o < i * 7 → ROW.toList[o]? = cs[o]? := fun o ho => by
    have hl : (cs.toList.take (i * 7)).length = i * 7 := by rw [List.length_take, Array.length_toList, hs]; omega
    rw [hROW]
    simp only [Array.toList_append]
    rw [List.append_assoc, List.getElem?_append_left (by rw [List.toList_toArray, hl]; exact ho), List.toList_toArray, List.getElem?_take, if_pos ho]
    simp
  have htl := tail_len (i := i) hs hnc
  have hbw : b < w.heap.size := by
    rcases Nat.lt_or_ge b w.heap.size with h | h
    · exact h
    · rw [Array.getElem?_eq_none h] at hh; cases hh
  have hvw : vb < w.heap.size := by
    rcases Nat.lt_or_ge vb w.heap.size with h | h
    · exact h
    · rw [Array.getElem?_eq_none h] at hvh; cases hvh
  obtain ⟨W1, hW1⟩ : ∃ W1, W1 = w.drew.alloc (.cells ROW 35) := ⟨_, rfl⟩
  rw [← hW1] at hrz
  have hN1 : W1.heap[w.heap.size]? = some (.cells ROW 35 (0, 0)) := by rw [hW1]; exact alloc_new' w _
  have hO1 : ∀ x, x < w.heap.size → W1.heap[x]? = w.heap[x]? := fun x hx => by rw [hW1]; exact alloc_old' w _ x hx
  obtain ⟨R2, hR2⟩ : ∃ R2, R2 = (putAt ROW.toList (i * 7) us).toArray := ⟨_, rfl⟩
  have hG5 : (n + 1) * 7 ≤ G * 7 := Nat.mul_le_mul_right _ hGn
  have hR2l : R2.size = G * 7 := by rw [hR2, List.size_toArray, putAt_length _ _ _ (by rw [hu, hRl]; omega), hRl]
  have hcpA : ∀ (W : World), W.heap = W1.heap → ∀ ty dc, (Builtin.copy_ #[49, 49] ty #[.slice (some ⟨w.heap.size, i * 7, none⟩) (n + 1 - i) dc, .slice (some ⟨vb, voff, none⟩) 1 vc]).run Tryz.prog W = .ok (goInt (1 : Nat)) (wrote W w.heap.size (i * 7) ROW us) := fun W hW ty dc =>
    run_copy_big (k := 1) (us := us) (T := 35) Tryz.underlying49 hinf (by simp only [Nat.min_def]; split <;> omega) (by rw [hsz, hu]) (fun j v hj => by
      rw [addr_add, cell_at (cs := vcs) (T := tV) (by rw [hW, hO1 _ hvw]; exact hvh)]
      have := hvs j v hj
      rw [cell_at hvh] at this
      exact this) (by rw [hW]; exact hN1) (by rw [hu, ← Array.length_toList, hRl]; omega) h1
  obtain ⟨W2, hW2⟩ : ∃ W2, W2 = wrote W1 w.heap.size (i * 7) ROW us := ⟨_, rfl⟩
  have hcpB : ∀ (W : World), W.heap = W2.heap → ∀ ty dc sc, (Builtin.copy_ #[49, 49] ty #[.slice (some ⟨w.heap.size, (i + 1) * 7, none⟩) (n - i) dc, .slice (some ⟨b, i * 7, none⟩) (n - i) sc]).run Tryz.prog W = .ok (goInt (n - i : Nat)) (wrote W w.heap.size ((i + 1) * 7) R2 ((cs.toList.take (n * 7)).drop (i * 7))) := fun W hW ty dc sc =>
    run_copy_big (k := n - i) (us := (cs.toList.take (n * 7)).drop (i * 7)) (T := 35) Tryz.underlying49 hinf (by simp only [Nat.min_def]; split <;> omega) (by rw [hsz, htl]) (fun j v hj => by
      rw [addr_add, cell_at (cs := cs) (T := T) (by rw [hW, hW2, wrote_other (by omega), hO1 _ hbw]; exact hh)]
      have := hsrc j v hj
      rw [cell_at hh] at this
      exact this) (by rw [hW, hW2, hR2]; exact wrote_heap hN1) (by rw [htl, hR2l]; omega) (fun u hu => h1c u (List.mem_of_mem_drop hu))
  have hGi : ¬ (G = i) := by omega
  have hGim : ¬ (G = i + 1) := by omega
  have hci : ¬ (c = i) := by omega
  have hw1 : IntKind.i64.wrap ((n : Int) + 1) = ((n + 1 : Nat) : Int) := by rw [IntKind.wrap_i64]; omega
  have hw2 : IntKind.i64.wrap ((i : Int) + 1) = ((i + 1 : Nat) : Int) := by rw [IntKind.wrap_i64]; omega
  have hb1 : (0 : Int) ≤ (i : Int) + 1 := by omega
  have hin : i ≤ n := by omega
  have htn : ((i : Int) + 1).toNat = i + 1 := by omega
  have hb3 : (i : Int) ≤ (n : Int) := by omega
  have hne : ¬ ((i : Int) = (n : Int)) := by omega
  have hend : ∀ W : World, W.heap = (wrote W2 w.heap.size ((i + 1) * 7) R2 ((cs.toList.take (n * 7)).drop (i * 7))).heap → W.os = w.os → W.tape = w.tape → W.output = w.output → InsE w W 7 (.slice (some ⟨b, 0, none⟩) n c) (.slice (some ⟨w.heap.size, 0, none⟩) (n + 1) G) n i 1 b c cs us := fun W hW g1 g2 g3 => by
    refine ⟨_, _, _, 35, InsM.grow (row := ROW.toList) hRl hs hnc hGn hGm hi hu hR0 ?_ rfl ?_ (fun x hx => ?_) g1 g2 g3⟩
    · rw [hW, wrote_heap (T := 35) (by rw [hW2, hR2]; exact wrote_heap hN1), grownL, hR2]
    · rw [hW, hW2, hW1]; simp [wrote, World.setRow, World.alloc]
    · rw [hW, wrote_other (by omega), hW2, wrote_other (by omega)]; exact hO1 x hx
  clear hkk hik hold hROW hG hRl hR0
  go_enter Tryz.func155, Tryz.ntmps155
  go_wp2_with (first
    | (at_builtin; refine Lib.wpList_append_run _ rfl _ _ _ _ rfl _ _ rfl rfl _ _ (hrz _) ?_)
    | (at_builtin; refine wpList_copy_runI _ rfl _ _ 49 49 rfl _ _ rfl rfl (hcpA _ rfl _ _) ?_))
  go_region_law_o (refine step_copy_runI rfl _ _ 49 49 rfl (.slice (some ⟨w.heap.size, (i + 1) * 7, none⟩) (n - i) (G - (i + 1))) (.slice (some ⟨b, i * 7, none⟩) (n - i) (c - i)) (by simp [Act.eval, Act.put]) (by simp [Act.eval, Act.put]) (hcpB _ (by rw [hW2, hW1]; rfl) _ _ _) ?_)
  go_wp2
  go_ret
  exact ⟨.slice (some ⟨w.heap.size, 0, none⟩) (n + 1) G, rfl, hend _ (by rw [hW2, hW1, hR2]; rfl) rfl rfl rfl⟩

theorem insG_end (w : World) (b n c vb voff vc T : Nat) (cs : Array Value) (us : List Value) (hn : n ≤ c) (hc : c ≤ maxLen) (hh : w.heap[b]? = some (.cells cs T (0, 0))) (hs : cs.size = c * 7) (hu : us.length = 7)
    (hvs : ∀ j v, us[j]? = some v → w.cell? ⟨vb, voff + j, none⟩ = some v) (h1 : ∀ u ∈ us, one u) (hb : (n + 1) * 56 ≤ 140737488355328) :
    Calls Tryz.prog 155 #[.slice (some ⟨b, 0, none⟩) n c, .int .i64 n, .slice (some ⟨vb, voff, none⟩) 1 vc] w fun e w' =>
      ∃ v, e = .returned v ∧ InsE w w' 7 (.slice (some ⟨b, 0, none⟩) n c) v n n 1 b c cs us := by
  obtain ⟨inf, z, hinf, hsz, hby, hz, hzc⟩ := insG_ty
  have u25 := run_underlying Tryz.underlying49
  have z38 : ∀ w, (sizeOf 35).run Tryz.prog w = .ok 7 w := fun w => by simp [sizeOf, typeInfo, hinf, hsz]
  have hc63 : c ≤ 9223372036854775807 := hc
  have mixed := tabOk.mix
  rcases run_append_all (P := Tryz.prog) (ty := 49) (w := w) Tryz.underlying49 hinf hz hsz hby hzc (Old.row n b c cs T hh hn hc hs) (m := 1) (us := us) ⟨by rw [hu], .inr (.inr ⟨vb, voff, vc, rfl, hvs⟩)⟩ h1 (by omega) (by simpa using hb) with ⟨_, h, _⟩ | ⟨v, w', b', cap', cs', T', hr, A⟩
  · cases h
  · have hend : InsE w w' 7 _ v _ _ 1 b _ cs us := ⟨_, _, _, _, A.ins⟩
    by_cases hcn : n = c
    · subst hcn
      go_enter Tryz.func155, Tryz.ntmps155
      go_wp2_with (at_builtin; refine Lib.wpList_append_run _ rfl _ _ _ _ rfl _ _ rfl rfl _ _ hr ?_)
      go_ret
      exact ⟨v, rfl, hend⟩
    · have hcn2 : ¬ (c = n) := fun h => hcn h.symm
      go_enter Tryz.func155, Tryz.ntmps155
      go_wp2_with (at_builtin; refine Lib.wpList_append_run _ rfl _ _ _ _ rfl _ _ rfl rfl _ _ hr ?_)
      go_ret
      exact ⟨v, rfl, hend⟩

theorem insG_nil (w : World) (b vb voff vc T : Nat) (cs : Array Value) (us : List Value) (hcs : cs = #[]) (hu : us.length = 7)
    (hvs : ∀ j v, us[j]? = some v → w.cell? ⟨vb, voff + j, none⟩ = some v) (h1 : ∀ u ∈ us, one u) :
    Calls Tryz.prog 155 #[.slice none 0 0, .int .i64 0, .slice (some ⟨vb, voff, none⟩) 1 vc] w fun e w' =>
      ∃ v, e = .returned v ∧ InsE w w' 7 (.slice none 0 0) v 0 0 1 b 0 cs us := by
  obtain ⟨inf, z, hinf, hsz, hby, hz, hzc⟩ := insG_ty
  have u25 := run_underlying Tryz.underlying49
  have z38 : ∀ w, (sizeOf 35).run Tryz.prog w = .ok 7 w := fun w => by simp [sizeOf, typeInfo, hinf, hsz]
  have mixed := tabOk.mix
  rcases run_append_all (P := Tryz.prog) (ty := 49) (w := w) Tryz.underlying49 hinf hz hsz hby hzc (Old.nil b 0 cs T hcs rfl) (m := 1) (us := us) ⟨by rw [hu], .inr (.inr ⟨vb, voff, vc, rfl, hvs⟩)⟩ h1 (by omega) (by omega) with ⟨_, _, _, h⟩ | ⟨v, w', b', cap', cs', T', hr, A⟩
  · cases h
  · go_enter Tryz.func155, Tryz.ntmps155
    have hend : InsE w w' 7 _ v _ _ 1 b _ cs us := ⟨_, _, _, _, A.ins⟩
    go_wp2_with (at_builtin; refine Lib.wpList_append_run _ rfl _ _ _ _ rfl _ _ rfl rfl _ _ hr ?_)
    all_goals go_ret
    all_goals first | exact ⟨v, rfl, hend⟩ | (have hcn : c = n := by (first | assumption | (symm; assumption) | omega); subst hcn; exact ⟨v, rfl, hend⟩)

theorem insGFn : InsFn Tryz.prog 155 .gst := by
  intro w s n b cap cs T i vb vcap vT vcs us hO hi hvb hvh hu hvs h1 h1c hL
  have hs5 : RT.size .gst = 7 := rfl
  have hb5 : RT.bytes .gst = 56 := rfl
  rw [hs5] at *
  rw [hb5] at hL
  cases hO with
  | nil _ _ _ _ hcs hcap =>
    have : i = 0 := by omega
    subst this
    subst hcap
    exact insG_nil w b vb 0 vcap T cs us hcs hu hvs h1
  | row _ _ _ _ _ hh hnc hcm hcs =>
    rcases Nat.lt_or_ge i n with hlt | hge
    · rcases Nat.lt_or_ge cap (n + 1) with hr | hr
      · exact insG_grow w b n cap i vb 0 vcap T vT cs vcs us hlt hnc hr hcm hh hcs hu hvh hvs h1 h1c hL
      · exact insG_room w b n cap i vb 0 vcap T vT cs vcs us hlt hr hcm hh hcs hu hvh (hvb ⟨_, rfl⟩) hvs h1 h1c
    · have : i = n := by omega
      subst this
      exact insG_end w b i cap vb 0 vcap T cs us hnc hcm hh hcs hu hvs h1 hL

theorem okInsertG : SpecOk1 Tryz.prog 155 (.raw (insM .gst)) :=
  ins_ok ⟨_, _, Tryz.func155, by kernel_rfl, rfl⟩ insGFn

end Go.Proofs.YtfgphaokmjdcbaaGreat
