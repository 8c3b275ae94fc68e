/-
  Contracts: holds put and let go of, the reference's way.
-/
import Derived.Test.YtjdaiobeiimpfaaGreatGrT
import Derived.Test.YtjdaiobeiimpfaaGreatM2
import Derived.Test.YtjdaiobeiimpfaaGreatFnQ
import Derived.Test.YtjdaiobeiimpfaaGreatFnYs
import Derived.Test.YtjdaiobeiimpfaaGreatGnF
import Derived.Test.YtjdaiobeiimpfaaGreatM3
import Derived.Test.YtjdaiobeiimpfaaGreatFnFb
import Derived.Test.YtjdaiobeiimpfaaGreatTok
import Derived.Test.YtjdaiobeiimpfaaGreatS5
import Derived.Test.YtjdaiobeiimpfaaGreatGnJ
set_option linter.unusedVariables false
set_option linter.unusedSimpArgs false
set_option maxRecDepth 100000
set_option maxHeartbeats 8000000
namespace Go.Proofs.YtjdaiobeiimpfaaGreat
open Go.Sx Go.Proofs Go.Mo
noncomputable def sWithout : Sx.Spec := ⟨false, false, [.row .srv, .int .i64], [[none, some .hld, some .gst]], fun _ _ ⟨s, c, _⟩ => .asrt (fun _ => (s ()).holds.length ≤ 9) (.ret (rAs (encSrv fun _ => ⟨(s ()).up, hldDel (s ()).holds (c ()), (s ()).ghosts⟩), fun _ => 0))⟩
noncomputable def sWith : Sx.Spec := ⟨false, false, [.row .srv, .row .hld], [[none, some .hld, some .gst]], fun _ _ ⟨s, h, _⟩ => .asrt (fun _ => (s ()).holds.length ≤ 9) (.ret (rAs (encSrv fun _ => ⟨(s ()).up, hldPutS (s ()).holds (h ()), (s ()).ghosts⟩), fun _ => 0))⟩
theorem okL11Without : SpecOk1 Tryz.prog 204 sWithout := spec1 tabOk (ss := []) trivial rfl rfl <| by
 intro (bs : Th (List Int)) (p : Th Int) ⟨(s : Th Srv), (c : Th Int), u⟩ K _ _ ho h
 obtain ⟨s, rfl⟩ := th_ex s; obtain ⟨c, rfl⟩ := th_ex c
 obtain ⟨ha, h⟩ := h
 have ha := ha.out
 have hl := hldDelTo_len s.holds c
 refine ⟨annL [(204, 3, ⟨Nat, [⟨.tmp 5 0, some 1000000000000008, .hld⟩], fun σ k => (((σ.fg 8).t 6 (vI fun _ => (k : Int))).t 5 (vO 8 1)).h 8 (1, .row false 0 .hld (fun _ => hldDelTo s.holds c k)), fun _ k _ => k ≤ s.holds.length, fun _ k _ => s.holds.length - k⟩)], noAnn, 20, ?_⟩
 cbv
 repeat' first | ((with_reducible refine fun (k : Nat) => ?_); cbv) | ((with_reducible intro _); cbv) | (with_reducible refine And.intro ?_ ?_)
 all_goals try ((first | (with_reducible refine LoopIn.mk ((0 : Nat)) ?_ ?_) | (with_reducible refine LoopBack.mk ((k + 1 : Nat)) ?_ ?_ ?_)) )
 all_goals try ((with_reducible show matchSt _ _); cbv; (try simp only [and_true, true_and]))
 all_goals try (repeat' with_reducible refine And.intro ?_ ?_)
 all_goals first | (refine retK h ?_; clear h; simp only [fin0]) | (with_reducible refine Ob.mk ?_; clear h) | (clear h)
 all_goals (try simp only [eta0, RT.bytes] at *)
 all_goals grind [wrap_succ, hldDelTo_zero, hldDelTo_yes, hldDelTo_no, hldDelTo_all]
theorem okL11With : SpecOk1 Tryz.prog 200 sWith := spec1 tabOk (ss := [(204, sWithout)]) ⟨okL11Without, trivial⟩ rfl rfl <| by
 intro (bs : Th (List Int)) (p : Th Int) ⟨(s : Th Srv), (g : Th Hld), u⟩ K _ _ ho h
 obtain ⟨s, rfl⟩ := th_ex s; obtain ⟨g, rfl⟩ := th_ex g
 obtain ⟨ha, h⟩ := h
 have ha := ha.out
 have hd := hldDel_len s.holds g.state.cell
 have hl := hpTo_len (hldDel s.holds g.state.cell) g
 refine ⟨annL [(200, 5, ⟨Nat, [⟨.tmp 6 0, some 1000000000000016, .hld⟩], fun σ k => ((((σ.fg 16).t 8 (vI fun _ => (k : Int))).t 6 (vO 16 1)).t 7 (vB fun _ => (hpTo (hldDel s.holds g.state.cell) g k).d)).h 16 (1, .row false 0 .hld (fun _ => (hpTo (hldDel s.holds g.state.cell) g k).l)), fun _ k _ => k ≤ (hldDel s.holds g.state.cell).length, fun _ k _ => (hldDel s.holds g.state.cell).length - k⟩)], noAnn, 20, ?_⟩
 cbv
 repeat' first | ((with_reducible refine fun (k : Nat) => ?_); cbv) | ((with_reducible intro _); cbv) | (with_reducible refine And.intro ?_ ?_)
 all_goals try ((first | (with_reducible refine LoopIn.mk ((0 : Nat)) ?_ ?_) | (with_reducible refine LoopBack.mk ((k + 1 : Nat)) ?_ ?_ ?_)) )
 all_goals try ((with_reducible show matchSt _ _); cbv; (try simp only [and_true, true_and]))
 all_goals try (repeat' with_reducible refine And.intro ?_ ?_)
 all_goals first | (refine retK h ?_; clear h; simp only [fin0]) | (with_reducible refine Ob.mk ?_; clear h) | (clear h)
 all_goals (try simp only [eta0, RT.bytes] at *)
 all_goals grind (splits := 30) [wrap_succ, hpTo_zero, hpTo_succ, hpStep, hpOut, hldPutS]
def St.rcll (σ : St) (k : Nat) (c : Th Cll) : St := (((((σ.cellC k 0 (.att (.int .i64 fun _ => (c ()).cell))).cellC k 1 (.att (.list .wlk fun _ => (c ()).wlks))).cellC k 2 (.att (.int .i64 fun _ => (c ()).ground))).cellC k 3 (.att (.list .pcls fun _ => (c ()).outs))).cellC k 4 (.att (.list .int fun _ => (c ()).next))).cellC k 5 (.att (.list .int fun _ => (c ()).ins))
def rC (a : Int) (b : List Wlk) (c : Int) (d : List (List Pcl)) (e f : List Int) : V := .agg [cI a, .att (.list .wlk fun _ => b), cI c, .att (.list .pcls fun _ => d), .att (.list .int fun _ => e), .att (.list .int fun _ => f)]
noncomputable def sCllNewW : Sx.Spec := ⟨false, false, [.map, .int .i64, .list .wlk], [nCll], fun _ _ ⟨m, c, l, _⟩ => .all Int fun a => .all (List Wlk) fun b => .all Int fun c => .all (List (List Pcl)) fun d => .all (List Int) fun e => .all (List Int) fun f => .asm (fun _ => (l ()).length ≤ 10 → small b d) (.ret (rC a b c d e f, fun _ => 0))⟩
noncomputable def sBadCell : Sx.Spec := ⟨true, false, [.map, .row .cll], [nCll], fun _ p ⟨m, c0, _⟩ => .asrt (fun _ => small (c0 ()).wlks (c0 ()).outs ∧ 0 ≤ p () ∧ p () ≤ 999999990000) (.all Int fun a => .all (List Wlk) fun b => .all Int fun c => .all (List (List Pcl)) fun d => .all (List Int) fun e => .all (List Int) fun f => .all Int fun q => .asm (fun _ => p () ≤ q ∧ q ≤ p () + 100) (.ret (rC a b c d e f, fun _ => q)))⟩
theorem okSCllNewW : SpecOk1 Tryz.prog 217 sCllNewW := spec1 tabOk (ss := [(34, sPlcOk), (75, sIn), (171, sWlkListOkS), (172, sPlcCell)]) ⟨okSPlcOk, okL1In, okSWlkListOk, okSPlcCell, trivial⟩ rfl rfl <| by
 intro (bs : Th (List Int)) (p : Th Int) ⟨(m : Th PMap), (c : Th Int), (l : Th (List Wlk)), u⟩ K hb hp0 ho h
 obtain ⟨m, rfl⟩ := th_ex m; obtain ⟨c, rfl⟩ := th_ex c; obtain ⟨l, rfl⟩ := th_ex l
 have hl := okB (ho.2.2.1 _ (.head _))
 refine ⟨annL [(217, 5, ⟨List Wlk × Nat, [⟨.cell 8 1, some 500, .wlk⟩], fun σ g => (((σ.fgs [29, 30, 500]).t 8 (vI fun _ => (g.2 : Int))).cellC 8 1 (.own 500 1)).row 500 1 .wlk (fun _ => g.1), fun _ g _ => g.1.length ≤ g.2 ∧ g.2 ≤ l.length, fun _ g _ => l.length - g.2⟩)], noAnn, 20, ?_⟩
 cbv
 repeat' first | ((with_reducible refine fun (k : Nat) => ?_); cbv) | ((with_reducible refine fun (g : List Wlk × Nat) => ?_); obtain ⟨gl, gk⟩ := g; cbv) | ((with_reducible intro _); cbv) | (with_reducible refine And.intro ?_ ?_)
 all_goals try (first | (with_reducible refine LoopIn.mk (([], 0) : List Wlk × Nat) ?_ ?_) |
  (rename_i hc; have hc : decide (plcCell m (nth .wlk l gk).pos = c) = true := (by first | exact hc | exact decide_eq_true hc); obtain ⟨L, hL⟩ : ∃ L, L = gl ++ [nth .wlk l gk] := ⟨_, rfl⟩; with_reducible refine LoopBack.mk ((L, gk + 1) : List Wlk × Nat) ?_ ?_ ?_) |
  (with_reducible refine LoopBack.mk ((gl, gk + 1) : List Wlk × Nat) ?_ ?_ ?_))
 all_goals try ((first | (with_reducible refine LoopIn.mk ((0 : Nat)) ?_ ?_) | (with_reducible refine LoopBack.mk ((0 : Nat)) ?_ ?_ ?_)) )
 all_goals try ((with_reducible show matchSt _ _); cbv; (try simp only [and_true, true_and]))
 all_goals try (repeat' with_reducible refine And.intro ?_ ?_)
 all_goals first | (refine retK (h _ _ _ _ _ _ ?_) rfl; clear h) | (refine retK (h _ _ _ _ _ _ ?_) rfl) | (with_reducible refine Ob.mk ?_; clear h) | (clear h)
 all_goals (try simp only [eta0, RT.bytes] at *)
 all_goals grind [wrap_succ, small_nil, small_two]
theorem okBadCell : SpecOk1 Tryz.prog 188 sBadCell := spec1 tabOk (ss := [(29, sPick), (170, sCloneC), (189, sWalker), (153, sParcel), (190, sBadWalker)]) ⟨okPick, okL5Copy, okWalker, okParcel, okBadWalker, trivial⟩ rfl rfl <| by
 intro (bs : Th (List Int)) (p : Th Int) ⟨(m : Th PMap), (c : Th Cll), u⟩ K hb hp0 ho h
 obtain ⟨m, rfl⟩ := th_ex m; obtain ⟨c, rfl⟩ := th_ex c; obtain ⟨bs, rfl⟩ := th_ex bs; obtain ⟨p, rfl⟩ := th_ex p
 obtain ⟨hpre, h⟩ := h
 have hpre : small c.wlks c.outs ∧ 0 ≤ p ∧ p ≤ 999999990000 := hpre.out
 have hsm := hpre.1.2
 have hsw := hpre.1.1
 obtain ⟨hw, hou, hoi, hn, hi, _, _⟩ := okCll ho.2.1
 refine ⟨noAnn, noAnn, 20, ?_⟩
 cbv
 repeat' first | ((with_reducible intro _); cbv) | (with_reducible refine And.intro ?_ ?_)
 all_goals first | (refine retK (h _ _ _ _ _ _ _ ?_) rfl; clear h) | (with_reducible refine Ob.mk ?_; clear h) | (clear h)
 all_goals (try simp only [eta0, RT.bytes] at *)
 all_goals (try simp only [setNth_app, List.length_set] at *)
 all_goals first | omega | grind [wrap_id]
def stoNewS (m : PMap) (c : Int) (l : List Wlk) : Sto := if cllOk m (cllNew m c l) = true then stoNew m c l else zeroS
noncomputable def sCllNew : Sx.Spec := ⟨false, true, [.map, .int .i64, .list .wlk], [nCll], fun _ _ ⟨m, c, l, _⟩ => .ret (oCll fun _ => cllNew (m ()) (c ()) (l ()), fun _ => 0)⟩
noncomputable def sSStoNew : Sx.Spec := ⟨false, true, [.map, .int .i64, .list .wlk], [nSto], fun _ _ ⟨m, c, l, _⟩ => .ret (oSto fun _ => stoNewS (m ()) (c ()) (l ()), fun _ => 0)⟩
noncomputable def sArbNew : Sx.Spec := ⟨false, true, [.map], [[some .int, some .int]], fun _ _ ⟨m, _⟩ => .ret (oArb fun _ => arbNew (m ()), fun _ => 0)⟩
noncomputable def sGwyNew : Sx.Spec := ⟨false, true, [.map, .list .wlk], [[some .row]], fun _ _ ⟨m, l, _⟩ => .ret (oAs [.list .row fun _ => gwyNew (m ()) (l ())], fun _ => 0)⟩
noncomputable def sSrvNew : Sx.Spec := ⟨false, true, [], [[none, some .hld, some .gst]], fun _ _ _ => .ret (oSrv fun _ => ⟨true, [], []⟩, fun _ => 0)⟩
noncomputable def sWldNew : Sx.Spec := ⟨false, true, [.map, .list .wlk, .int .i64], [[none, none, some .srv, some .sto, some .int, some .int, some .row, some .msg, some .note]], fun _ _ ⟨m, l, v, _⟩ => .ret (oWld fun _ => wldNew (m ()) (l ()) (v ()), fun _ => 0)⟩
theorem rep_succ {α : Type} (x : α) (k : Nat) : List.replicate (k + 1) x = List.replicate k x ++ [x] := by
 rw [List.replicate_succ', ]
theorem rng_succ (m : PMap) (l : List Wlk) (k : Nat) : (List.range (k + 1)).map (fun (i : Nat) => stoNew m (i : Int) l) = (List.range k).map (fun (i : Nat) => stoNew m (i : Int) l) ++ [stoNew m (k : Int) l] := by
 rw [List.range_succ, List.map_append]
 rfl
theorem row_succ (m : PMap) {l : List Wlk} {k : Nat} (h : k < l.length) : (l.take (k + 1)).map (rowNew m) = (l.take k).map (rowNew m) ++ [rowNew m (nth .wlk l k)] := by
 have h1 : l.take (k + 1) = l.take k ++ [nth .wlk l k] := pre_succ .wlk h
 rw [h1, List.map_append]
 rfl
theorem okSrvNew : SpecOk1 Tryz.prog 23 sSrvNew := spec1 tabOk (ss := []) trivial rfl rfl <| by
 intro (bs : Th (List Int)) (p : Th Int) u K _ _ ho h
 refine ⟨noAnn, noAnn, 20, ?_⟩
 cbv
 repeat' first | ((with_reducible intro _); cbv) | (with_reducible refine And.intro ?_ ?_)
 all_goals first | (refine retK h ?_; clear h; simp only [fin0]) | (with_reducible refine Ob.mk ?_; clear h) | (clear h)
 all_goals (try simp only [eta0, RT.bytes] at *)
theorem okSrvNewS : SpecOk1 Tryz.prog 122 sSrvNew := spec1 tabOk (ss := []) trivial rfl rfl <| by
 intro (bs : Th (List Int)) (p : Th Int) u K _ _ ho h
 refine ⟨noAnn, noAnn, 20, ?_⟩
 cbv
 repeat' first | ((with_reducible intro _); cbv) | (with_reducible refine And.intro ?_ ?_)
 all_goals first | (refine retK h ?_; clear h; simp only [fin0]) | (with_reducible refine Ob.mk ?_; clear h) | (clear h)
 all_goals (try simp only [eta0, RT.bytes] at *)
theorem okSArbNew : SpecOk1 Tryz.prog 184 sArbNew := spec1 tabOk (ss := [(34, sPlcOk)]) ⟨okSPlcOk, trivial⟩ rfl rfl <| by
 intro (bs : Th (List Int)) (p : Th Int) ⟨(m : Th PMap), u⟩ K _ _ ho h
 obtain ⟨m, rfl⟩ := th_ex m
 have hm := @plcOk_iff m
 refine ⟨annL [(184, 5, ⟨Nat, [⟨.cell 4 0, some 500, .int⟩, ⟨.cell 4 1, some 501, .int⟩], fun σ k => ((((((σ.fgs [500, 501]).t 4 (vI fun _ => (k : Int))).cellC 4 0 (.own 500 1)).cellC 4 1 (.own 501 1)).row 500 1 .int (fun _ => List.replicate k (-1 : Int))).row 501 1 .int (fun _ => List.replicate k (0 : Int))), fun _ k _ => (k : Int) ≤ m.cells ∧ plcOk m = true, fun _ k _ => m.cells.toNat - k⟩)], noAnn, 20, ?_⟩
 cbv
 repeat' first | ((with_reducible refine fun (k : Nat) => ?_); cbv) | ((with_reducible intro _); cbv) | (with_reducible refine And.intro ?_ ?_)
 all_goals try ((first | (with_reducible refine LoopIn.mk ((0 : Nat)) ?_ ?_) | (with_reducible refine LoopBack.mk ((k + 1 : Nat)) ?_ ?_ ?_)) )
 all_goals try ((with_reducible show matchSt _ _); cbv; (try simp only [and_true, true_and]))
 all_goals try (repeat' with_reducible refine And.intro ?_ ?_)
 all_goals first | (refine retK h ?_; clear h; simp only [fin0]) | (with_reducible refine Ob.mk ?_; clear h) | (clear h)
 all_goals (try simp only [eta0, RT.bytes] at *)
 all_goals grind [wrap_succ, rep_succ, arbNew]
theorem okSGwyNew : SpecOk1 Tryz.prog 185 sGwyNew := spec1 tabOk (ss := [(34, sPlcOk), (171, sWlkListOkS), (172, sPlcCell)]) ⟨okSPlcOk, okSWlkListOk, okSPlcCell, trivial⟩ rfl rfl <| by
 intro (bs : Th (List Int)) (p : Th Int) ⟨(m : Th PMap), (l : Th (List Wlk)), u⟩ K _ _ ho h
 obtain ⟨m, rfl⟩ := th_ex m; obtain ⟨l, rfl⟩ := th_ex l
 have hl := okB (ho.2.1 _ (.head _))
 have hf := @wlk_few m l
 refine ⟨annL [(185, 5, ⟨Nat, [⟨.cell 6 0, some 500, .row⟩], fun σ k => (((σ.fgs [500]).t 6 (vI fun _ => (k : Int))).cellC 6 0 (.own 500 1)).row 500 1 .row (fun _ => (l.take k).map (rowNew m)), fun _ k _ => k ≤ l.length, fun _ k _ => l.length - k⟩)], noAnn, 20, ?_⟩
 cbv
 repeat' first | ((with_reducible refine fun (k : Nat) => ?_); cbv) | ((with_reducible intro _); cbv) | (with_reducible refine And.intro ?_ ?_)
 all_goals try ((first | (with_reducible refine LoopIn.mk ((0 : Nat)) ?_ ?_) | (with_reducible refine LoopBack.mk ((k + 1 : Nat)) ?_ ?_ ?_)) )
 all_goals try ((with_reducible show matchSt _ _); cbv; (try simp only [and_true, true_and]))
 all_goals try (repeat' with_reducible refine And.intro ?_ ?_)
 all_goals first | (refine retK h ?_; clear h; simp only [fin0]) | (with_reducible refine Ob.mk ?_; clear h) | (clear h)
 all_goals (try simp only [eta0, RT.bytes] at *)
 all_goals grind [wrap_succ, row_succ, gwyNew, rowNew, List.length_map, List.length_take]
theorem okSCllNew : SpecOk1 Tryz.prog 217 sCllNew := spec1 tabOk (ss := [(34, sPlcOk), (75, sIn), (171, sWlkListOkS), (172, sPlcCell)]) ⟨okSPlcOk, okL1In, okSWlkListOk, okSPlcCell, trivial⟩ rfl rfl <| by
 intro (bs : Th (List Int)) (p : Th Int) ⟨(m : Th PMap), (c : Th Int), (l : Th (List Wlk)), u⟩ K _ _ ho h
 obtain ⟨m, rfl⟩ := th_ex m; obtain ⟨c, rfl⟩ := th_ex c; obtain ⟨l, rfl⟩ := th_ex l
 have hl := okB (ho.2.2.1 _ (.head _))
 have hn := inCell_len m c l
 have hm := @plcOk_iff m
 refine ⟨annL [(217, 5, ⟨Nat, [⟨.cell 8 1, some 500, .wlk⟩], fun σ k => (((σ.fgs [29, 30, 500]).t 8 (vI fun _ => (k : Int))).cellC 8 1 (.own 500 1)).row 500 1 .wlk (fun _ => inCell m c l k), fun _ k _ => k ≤ l.length, fun _ k _ => l.length - k⟩)], noAnn, 20, ?_⟩
 cbv
 repeat' first | ((with_reducible refine fun (k : Nat) => ?_); cbv) | ((with_reducible intro _); cbv) | (with_reducible refine And.intro ?_ ?_)
 all_goals try ((first | (with_reducible refine LoopIn.mk ((0 : Nat)) ?_ ?_) | (with_reducible refine LoopBack.mk ((k + 1 : Nat)) ?_ ?_ ?_)) )
 all_goals try ((with_reducible show matchSt _ _); cbv; (try simp only [and_true, true_and]))
 all_goals try (repeat' with_reducible refine And.intro ?_ ?_)
 all_goals first | (refine retK h ?_; clear h; simp only [fin0]) | (with_reducible refine Ob.mk ?_; clear h) | (clear h)
 all_goals (try simp only [eta0, RT.bytes] at *)
 all_goals (try dsimp only [RT.ty] at *)
 all_goals grind (splits := 20) [wrap_succ, wrap_id, inCell_yes, inCell_no, inCell_zero, cllNew, zeroC, inR, wrap_pred]
theorem okSStoNew : SpecOk1 Tryz.prog 186 sSStoNew := spec1 tabOk (ss := [(217, sCllNew), (125, sCllOk)]) ⟨okSCllNew, okSCllOk, trivial⟩ rfl rfl <| by
 intro (bs : Th (List Int)) (p : Th Int) ⟨(m : Th PMap), (c : Th Int), (l : Th (List Wlk)), u⟩ K _ _ ho h
 obtain ⟨m, rfl⟩ := th_ex m; obtain ⟨c, rfl⟩ := th_ex c; obtain ⟨l, rfl⟩ := th_ex l
 refine ⟨noAnn, noAnn, 20, ?_⟩
 cbv
 repeat' first | ((with_reducible intro _); cbv) | (with_reducible refine And.intro ?_ ?_)
 all_goals first | (refine retK h ?_; clear h; simp only [fin0]) | (with_reducible refine Ob.mk ?_; clear h) | (clear h)
 all_goals (try simp only [eta0, RT.bytes] at *)
 all_goals grind [stoNewS, stoNew, zeroS, zeroC]
theorem okSWldNew : SpecOk1 Tryz.prog 148 sWldNew := spec1 tabOk (ss := [(34, sPlcOk), (171, sWlkListOkS), (75, sIn), (184, sArbNew), (185, sGwyNew), (122, sSrvNew), (186, sSStoNew)]) ⟨okSPlcOk, okSWlkListOk, okL1In, okSArbNew, okSGwyNew, okSrvNewS, okSStoNew, trivial⟩ rfl rfl <| by
 intro (bs : Th (List Int)) (p : Th Int) ⟨(m : Th PMap), (l : Th (List Wlk)), (v : Th Int), u⟩ K _ _ ho h
 obtain ⟨m, rfl⟩ := th_ex m; obtain ⟨l, rfl⟩ := th_ex l; obtain ⟨v, rfl⟩ := th_ex v
 have hm := @plcOk_iff m
 have hk := fun (i : Int) => @cllNew_ok m i l
 refine ⟨annL [(148, 5, ⟨Nat × Unit, [⟨.cell 8 2, some 500, .srv⟩], fun σ q => (((σ.fgs [500]).t 8 (vI fun _ => (q.1 : Int))).cellC 8 2 (.own 500 1)).row 500 1 .srv (fun _ => List.replicate q.1 ⟨true, [], []⟩), fun _ q _ => (q.1 : Int) ≤ v ∧ plcOk m = true ∧ wlkAll m l = true ∧ 1 ≤ v ∧ v ≤ 3, fun _ q _ => v.toNat - q.1⟩),
  (148, 9, ⟨Nat, [⟨.cell 8 3, some 501, .sto⟩], fun σ k => (((σ.fgs [501]).t 9 (vI fun _ => (k : Int))).cellC 8 3 (.own 501 1)).row 501 1 .sto (fun _ => (List.range k).map fun (i : Nat) => stoNew m (i : Int) l), fun _ k _ => (k : Int) ≤ m.cells ∧ plcOk m = true ∧ wlkAll m l = true ∧ 1 ≤ v ∧ v ≤ 3, fun _ k _ => m.cells.toNat - k⟩)], noAnn, 20, ?_⟩
 cbv
 repeat' first | ((with_reducible refine fun (k : Nat) => ?_); cbv) | ((with_reducible refine fun (q : Nat × Unit) => ?_); obtain ⟨s, _⟩ := q; cbv) | ((with_reducible intro _); cbv) | (with_reducible refine And.intro ?_ ?_)
 all_goals try ((first | (with_reducible refine LoopIn.mk (((0, ()) : Nat × Unit)) ?_ ?_) | (with_reducible refine LoopIn.mk ((0 : Nat)) ?_ ?_) | (with_reducible refine LoopBack.mk ((k + 1 : Nat)) ?_ ?_ ?_) | (with_reducible refine LoopBack.mk (((s + 1, ()) : Nat × Unit)) ?_ ?_ ?_)) )
 all_goals try ((with_reducible show matchSt _ _); cbv; (try simp only [and_true, true_and]))
 all_goals try (repeat' with_reducible refine And.intro ?_ ?_)
 all_goals first | (refine retK h ?_; clear h; simp only [fin0]) | (with_reducible refine Ob.mk ?_; clear h) | (clear h)
 all_goals (try simp only [eta0, RT.bytes] at *)
 all_goals (try dsimp only [RT.ty] at *)
 all_goals (try grind (splits := 20) [wrap_succ, wrap_id, inR, rep_succ, rng_succ, wldNew, wldBegin, zeroWld, stoNewS])
theorem ncast (n : Nat) : (NatCast.natCast n : Int) = (n : Int) := rfl
theorem tmw {a n : Int} (ha : 0 ≤ a) (hb : a ≤ 1000000000000000) (hn : 1 ≤ n) : 0 ≤ (IntKind.i64.wrap (a + 1)).tmod n ∧ (IntKind.i64.wrap (a + 1)).tmod n < n := by
 rw [wrap_id (by omega) (by omega)]
 exact tm (by omega) hn
noncomputable def evRun (p : Th Int) (pre : Th Prop) (B n : Int) : Rn (V × Th Int) :=   .asrt (fun _ => pre () ∧ 0 ≤ p () ∧ p () ≤ B) (.all Int fun x0 => .all Int fun x1 => .all Int fun x2 => .all Int fun x3 => .all Int fun x4 => .all Int fun q => .asm (fun _ => p () ≤ q ∧ q ≤ p () + n) (.ret (.agg [cI x0, cI x1, cI x2, cI x3, cI x4], fun _ => q)))
noncomputable def sAskE : Sx.Spec := ⟨true, false, [.row .wld], [], fun _ p ⟨w, _⟩ => evRun p (fun _ => True) 999000001000 40⟩
noncomputable def sEventE : Sx.Spec := ⟨true, false, [.row .wld], [], fun _ p ⟨w, _⟩ => evRun p (fun _ => True) 999000000000 60⟩
noncomputable def sStoryE : Sx.Spec := ⟨true, false, [.row .wld, .int .i64, .int .i64], [], fun _ p ⟨w, _⟩ => evRun p (fun _ => True) 999000000000 60⟩
noncomputable def sLateE : Sx.Spec := ⟨true, false, [.row .wld, .int .i64], [], fun _ p ⟨w, _⟩ => evRun p (fun _ => (w ()).rows.length ≤ 20 ∧ 1 ≤ (w ()).servers.length) 999000000000 100⟩
noncomputable def sLivelyE : Sx.Spec := ⟨true, false, [.row .wld, .int .i64], [], fun _ p ⟨w, _⟩ => evRun p (fun _ => (w ()).stores.length ≤ 20) 999000000000 100⟩
theorem okAskE : SpecOk1 Tryz.prog 58 sAskE := spec1 tabOk (ss := [(101, sOrder), (29, sPick)]) ⟨okOrder, okPick, trivial⟩ rfl rfl <| by
 intro (bs : Th (List Int)) (p : Th Int) ⟨(w : Th Wld), u⟩ K hb hp0 ho h
 obtain ⟨w, rfl⟩ := th_ex w; obtain ⟨bs, rfl⟩ := th_ex bs; obtain ⟨p, rfl⟩ := th_ex p
 obtain ⟨hpre, h⟩ := h
 have hpre : True ∧ 0 ≤ p ∧ p ≤ 999000001000 := hpre.out
 have hl := okL (ho.1 _ (.tail _ (.tail _ (.tail _ (.tail _ (.tail _ (.tail _ (.head _))))))))
 refine ⟨noAnn, noAnn, 20, ?_⟩
 cbv
 repeat' first | ((with_reducible intro _); cbv) | (with_reducible refine And.intro ?_ ?_)
 all_goals first | (refine retK (h _ _ _ _ _ _ ?_) rfl; clear h) | (with_reducible refine Ob.mk ?_; clear h) | (clear h)
 all_goals (try simp only [eta0, RT.bytes] at *)
 all_goals first | omega | grind [wrap_id]
theorem okStoryE : SpecOk1 Tryz.prog 145 sStoryE := spec1 tabOk (ss := [(29, sPick)]) ⟨okPick, trivial⟩ rfl rfl <| by
 intro (bs : Th (List Int)) (p : Th Int) ⟨(w : Th Wld), (k : Th Int), (what : Th Int), u⟩ K hb hp0 ho h
 obtain ⟨w, rfl⟩ := th_ex w; obtain ⟨k, rfl⟩ := th_ex k; obtain ⟨what, rfl⟩ := th_ex what; obtain ⟨bs, rfl⟩ := th_ex bs; obtain ⟨p, rfl⟩ := th_ex p
 obtain ⟨hpre, h⟩ := h
 have hpre : True ∧ 0 ≤ p ∧ p ≤ 999000000000 := hpre.out
 refine ⟨noAnn, noAnn, 20, ?_⟩
 cbv
 repeat' first | ((with_reducible intro _); cbv) | (with_reducible refine And.intro ?_ ?_)
 all_goals first | (refine retK (h _ _ _ _ _ _ ?_) rfl; clear h) | (with_reducible refine Ob.mk ?_; clear h) | (clear h)
 all_goals (try simp only [eta0, RT.bytes] at *)
 all_goals first | omega | grind [wrap_id]
theorem okLateE : SpecOk1 Tryz.prog 144 sLateE := spec1 tabOk (ss := [(29, sPick), (58, sAskE), (117, sArbServer)]) ⟨okPick, okAskE, okSArbServer, trivial⟩ rfl rfl <| by
 intro (bs : Th (List Int)) (p : Th Int) ⟨(w : Th Wld), (k : Th Int), u⟩ K hb hp0 ho h
 obtain ⟨w, rfl⟩ := th_ex w; obtain ⟨k, rfl⟩ := th_ex k; obtain ⟨bs, rfl⟩ := th_ex bs; obtain ⟨p, rfl⟩ := th_ex p
 obtain ⟨hpre, h⟩ := h
 have hpre : (w.rows.length ≤ 20 ∧ 1 ≤ w.servers.length) ∧ 0 ≤ p ∧ p ≤ 999000000000 := hpre.out
 have hl := okL (ho.1 _ (.tail _ (.tail _ (.tail _ (.tail _ (.tail _ (.tail _ (.tail _ (.head _)))))))))
 refine ⟨annL [(144, 3, ⟨Th Int × Th Row × Th Int, [], fun σ g => ((σ.t 8 (.one (.att (.int .i64 g.1)))).cellsA 8 0 (encRow g.2.1)).cellC 0 1 (.att (.int .i64 g.2.2)),
   fun _ g _ => Ob fun _ => 0 ≤ g.1 () ∧ g.1 () ≤ w.rows.length ∧ p ≤ g.2.2 () ∧ g.2.2 () ≤ p + g.1 (), fun _ g _ => w.rows.length - (g.1 ()).toNat⟩),
  (144, 19, ⟨Th Int × Th Bool, [], fun σ g => σ.t 9 (.one (.att (.int .i64 g.1))), fun _ g _ => Ob fun _ => 0 ≤ g.1 () ∧ g.1 () ≤ w.net.length, fun _ g _ => w.net.length - (g.1 ()).toNat⟩)], noAnn, 20, ?_⟩
 cbv
 repeat' first | ((with_reducible refine fun (g : Th Int × Th Row × Th Int) => ?_); obtain ⟨i, r, q⟩ := g; obtain ⟨i, rfl⟩ := th_ex i; obtain ⟨r, rfl⟩ := th_ex r; obtain ⟨q, rfl⟩ := th_ex q; (with_reducible refine ImpB.out ?_); cbv; (with_reducible refine ImpB.mk ?_); intro hq; obtain ⟨hq⟩ := hq) | ((with_reducible refine fun (g : Th Int × Th Bool) => ?_); obtain ⟨j, z⟩ := g; obtain ⟨j, rfl⟩ := th_ex j; obtain ⟨z, rfl⟩ := th_ex z; (with_reducible refine ImpB.out ?_); cbv; (with_reducible refine ImpB.mk ?_); intro hq; obtain ⟨hq⟩ := hq) | ((with_reducible intro _); cbv) | (with_reducible refine And.intro ?_ ?_)
 all_goals try ((first | (with_reducible refine LoopIn.wf (fun σ => (σ.tmI 8, rdRow σ 8, asI (σ.ce 0 1))) ?_ ?_) | (with_reducible refine LoopBack.wf (fun σ => (σ.tmI 8, rdRow σ 8, asI (σ.ce 0 1))) ?_ ?_ ?_) | (with_reducible refine LoopIn.wf (fun σ => (σ.tmI 9, noBool)) ?_ ?_) | (with_reducible refine LoopBack.wf (fun σ => (σ.tmI 9, noBool)) ?_ ?_ ?_)) <;> cbv)
 all_goals try (with_reducible show _ ∧ _; (try simp only [and_true, true_and]))
 all_goals try (repeat' with_reducible refine And.intro ?_ ?_)
 all_goals try (with_reducible refine MeasB.mk ?_)
 all_goals first | (refine retK (h _ _ _ _ _ _ ?_) rfl; clear h) | (with_reducible refine Ob.mk ?_; clear h) | (clear h)
 all_goals (try simp only [eta0, RT.bytes] at *)
 all_goals (first | rfl | omega | grind [wrap_id, tm, tmw])
theorem okLivelyE : SpecOk1 Tryz.prog 146 sLivelyE := spec1 tabOk (ss := [(58, sAskE), (29, sPick), (117, sArbServer)]) ⟨okAskE, okPick, okSArbServer, trivial⟩ rfl rfl <| by
 intro (bs : Th (List Int)) (p : Th Int) ⟨(w : Th Wld), (k : Th Int), u⟩ K hb hp0 ho h
 obtain ⟨w, rfl⟩ := th_ex w; obtain ⟨k, rfl⟩ := th_ex k; obtain ⟨bs, rfl⟩ := th_ex bs; obtain ⟨p, rfl⟩ := th_ex p
 obtain ⟨hpre, h⟩ := h
 have hpre : w.stores.length ≤ 20 ∧ 0 ≤ p ∧ p ≤ 999000000000 := hpre.out
 have hl := okL (ho.1 _ (.tail _ (.tail _ (.tail _ (.tail _ (.tail _ (.tail _ (.head _))))))))
 refine ⟨annL [(146, 8, ⟨Th Int × Th Int, [], fun σ g => (σ.t 7 (.one (.att (.int .i64 g.1)))).t 8 (.one (.att (.int .i64 g.2))),
   fun _ g _ => Ob fun _ => 0 ≤ g.1 () ∧ g.1 () < w.rows.length ∧ 0 ≤ g.2 () ∧ g.2 () ≤ w.rows.length, fun _ g _ => w.rows.length - (g.2 ()).toNat⟩),
  (146, 16, ⟨Th Int × Th Int × Th Int, [], fun σ g => ((σ.t 9 (.one (.att (.int .i64 g.1)))).t 10 (.one (.att (.int .i64 g.2.1)))).cellC 0 1 (.att (.int .i64 g.2.2)),
   fun _ g _ => Ob fun _ => 0 ≤ g.1 () ∧ (w.stores.length = 0 ∨ g.1 () < w.stores.length) ∧ 0 ≤ g.2.1 () ∧ g.2.1 () ≤ w.stores.length ∧ p ≤ g.2.2 () ∧ g.2.2 () ≤ p + 10 + g.2.1 (), fun _ g _ => w.stores.length - (g.2.1 ()).toNat⟩)], noAnn, 20, ?_⟩
 cbv
 repeat' first | ((with_reducible refine fun (g : Th Int × Th Int × Th Int) => ?_); obtain ⟨c, n, q⟩ := g; obtain ⟨c, rfl⟩ := th_ex c; obtain ⟨n, rfl⟩ := th_ex n; obtain ⟨q, rfl⟩ := th_ex q; (with_reducible refine ImpB.out ?_); cbv; (with_reducible refine ImpB.mk ?_); intro hq; obtain ⟨hq⟩ := hq) | ((with_reducible refine fun (g : Th Int × Th Int) => ?_); obtain ⟨i, n⟩ := g; obtain ⟨i, rfl⟩ := th_ex i; obtain ⟨n, rfl⟩ := th_ex n; (with_reducible refine ImpB.out ?_); cbv; (with_reducible refine ImpB.mk ?_); intro hq; obtain ⟨hq⟩ := hq) | ((with_reducible intro _); cbv) | (with_reducible refine And.intro ?_ ?_)
 all_goals try ((first | (with_reducible refine LoopIn.wf (fun σ => (σ.tmI 9, σ.tmI 10, asI (σ.ce 0 1))) ?_ ?_) | (with_reducible refine LoopBack.wf (fun σ => (σ.tmI 9, σ.tmI 10, asI (σ.ce 0 1))) ?_ ?_ ?_) | (with_reducible refine LoopIn.wf (fun σ => (σ.tmI 7, σ.tmI 8)) ?_ ?_) | (with_reducible refine LoopBack.wf (fun σ => (σ.tmI 7, σ.tmI 8)) ?_ ?_ ?_)) <;> cbv)
 all_goals try (with_reducible show _ ∧ _; (try simp only [and_true, true_and]))
 all_goals try (repeat' with_reducible refine And.intro ?_ ?_)
 all_goals try (with_reducible refine MeasB.mk ?_)
 all_goals first | (refine retK (h _ _ _ _ _ _ ?_) rfl; clear h) | (with_reducible refine Ob.mk ?_; clear h) | (clear h)
 all_goals (try simp only [eta0, RT.bytes] at *)
 all_goals (try dsimp only [RT.ty] at *)
 all_goals (try simp only [ncast] at *)
 all_goals (first | rfl | omega | grind [wrap_id] | (have hq2 := @tmw i w.rows.length (by omega) (by omega) (by omega); have hw := @wrap_id (n + 1) (by omega) (by omega); rw [hw]; exact ⟨hq2.1, hq2.2, by omega, by omega⟩) |
  (have hq2 := @tmw c w.stores.length (by omega) (by omega) (by omega); have hw := @wrap_id (n + 1) (by omega) (by omega); rw [hw]; exact ⟨hq2.1, .inr hq2.2, by omega, by omega, by omega, by omega⟩))
noncomputable def sPlaysO : Sx.Spec := ⟨true, true, [.map, .row .cll, .int .i64], [[some .rcd], nCll], fun _ p ⟨m, c0, n, _⟩ => .asrt (fun _ => 0 ≤ p () ∧ p () ≤ 999999990000 ∧ n () ≤ 30) (.all (List Sx.Rec) fun l => .all Int fun a => .all (List Wlk) fun b => .all Int fun c => .all (List (List Pcl)) fun d => .all (List Int) fun e => .all (List Int) fun f => .all Int fun q => .asm (fun _ => p () ≤ q ∧ q ≤ p () + 1800 ∧ l.length ≤ 30 ∧ (small (c0 ()).wlks (c0 ()).outs → small b d)) (.ret (.tup [vW .rcd fun _ => l, rC a b c d e f], fun _ => q)))⟩
theorem okPlaysO : SpecOk1 Tryz.prog 219 sPlaysO := spec1 tabOk (ss := [(125, sCllOk), (239, sRec), (230, sLogApply)]) ⟨okSCllOk, okRec, okSLogApply, trivial⟩ rfl rfl <| by
 intro (bs : Th (List Int)) (p : Th Int) ⟨(m : Th PMap), (c : Th Cll), (n : Th Int), u⟩ K hb hp0 ho h
 obtain ⟨m, rfl⟩ := th_ex m; obtain ⟨c, rfl⟩ := th_ex c; obtain ⟨n, rfl⟩ := th_ex n; obtain ⟨bs, rfl⟩ := th_ex bs; obtain ⟨p, rfl⟩ := th_ex p
 obtain ⟨hpre, h⟩ := h
 have hpre : 0 ≤ p ∧ p ≤ 999999990000 ∧ n ≤ 30 := hpre.out
 refine ⟨annL [(219, 2, ⟨List Sx.Rec × Cll × Int × Int, [⟨.tmp 10 0, some 16, .rcd⟩, ⟨.cell 7 1, none, .wlk⟩, ⟨.cell 7 3, none, .pcls⟩, ⟨.cell 7 4, none, .int⟩, ⟨.cell 7 5, none, .int⟩],
  fun σ g => St.rcll ((((((σ.fgs [16]).t 3 (vI fun _ => g.2.2.1)).t 10 (vO 16 1)).row 16 1 .rcd (fun _ => g.1)).cellC 0 1 (.att (.int .i64 fun _ => g.2.2.2)))) 7 (fun _ => g.2.1),
  fun _ g _ => g.2.2.1 ≤ 30 ∧ (small c.wlks c.outs → small g.2.1.wlks g.2.1.outs) ∧ (g.2.2.1 < 0 ∧ g.1.length = 0 ∧ g.2.2.2 = p ∨ 0 ≤ g.2.2.1 ∧ (g.1.length : Int) ≤ 30 - g.2.2.1 ∧ p ≤ g.2.2.2 ∧ g.2.2.2 ≤ p + 60 * (30 - g.2.2.1)), fun _ g _ => g.2.2.1.toNat⟩)], noAnn, 20, ?_⟩
 cbv
 repeat' first | ((with_reducible refine fun (k : Nat) => ?_); cbv) | ((with_reducible refine fun (g : List Sx.Rec × Cll × Int × Int) => ?_); obtain ⟨gl, gc, gn, gq⟩ := g; cbv) | ((with_reducible intro _); cbv) | (with_reducible refine And.intro ?_ ?_)
 all_goals try (first | (with_reducible refine LoopIn.mk (([], c, n, p) : List Sx.Rec × Cll × Int × Int) ?_ ?_) |
  (rename_i r0 r1 r2 r3 r4 r5 r6 r7 r8 r9 r10 r11 r12 r13 r14 r15 q1 hq hok; have hok : (cllApplyX m gc ⟨r0, ⟨r1, r2, r3, r4, r5⟩, r6, ⟨r7, r8, ⟨r9, r10, r11, r12, r13⟩, r14⟩, r15⟩).ok = true := hok; obtain ⟨L, hL⟩ : ∃ L, L = gl ++ [(⟨r0, ⟨r1, r2, r3, r4, r5⟩, r6, ⟨r7, r8, ⟨r9, r10, r11, r12, r13⟩, r14⟩, r15⟩ : Sx.Rec)] := ⟨_, rfl⟩; obtain ⟨X, hX⟩ : ∃ X, X = (cllApplyX m gc ⟨r0, ⟨r1, r2, r3, r4, r5⟩, r6, ⟨r7, r8, ⟨r9, r10, r11, r12, r13⟩, r14⟩, r15⟩).c := ⟨_, rfl⟩; obtain ⟨g1, hg1⟩ : ∃ g1, g1 = gn - 1 := ⟨_, rfl⟩; with_reducible refine LoopBack.mk ((L, X, g1, q1) : List Sx.Rec × Cll × Int × Int) ?_ ?_ ?_) |
  (rename_i r0 r1 r2 r3 r4 r5 r6 r7 r8 r9 r10 r11 r12 r13 r14 r15 q1 hq hok; obtain ⟨g1, hg1⟩ : ∃ g1, g1 = gn - 1 := ⟨_, rfl⟩; with_reducible refine LoopBack.mk ((gl, gc, g1, q1) : List Sx.Rec × Cll × Int × Int) ?_ ?_ ?_))
 all_goals try ((first | (with_reducible refine LoopIn.mk ((0 : Nat)) ?_ ?_) | (with_reducible refine LoopBack.mk ((0 : Nat)) ?_ ?_ ?_)) )
 all_goals try ((with_reducible show matchSt _ _); cbv; (try simp only [and_true, true_and]))
 all_goals try (repeat' with_reducible refine And.intro ?_ ?_)
 all_goals first | (refine retK (h _ _ _ _ _ _ _ _ ?_) rfl; clear h) | (with_reducible refine Ob.mk ?_; clear h) | (clear h)
 all_goals (try simp only [eta0, RT.bytes] at *)
 all_goals (try subst hL)
 all_goals (try subst hX)
 all_goals first | omega | rfl | grind [wrap_id, small_apply]
end Go.Proofs.YtjdaiobeiimpfaaGreat
namespace Go.Proofs.YtjdaiobeiimpfaaGreat
open Go.Sx Go.Proofs Go.RowKit
theorem delM_info : (Tryz.prog.info? 61).map (fun i => (i.zero, i.size, i.bytes)) = some (some (.agg #[.int .i64 0, .int .i64 0, .int .i64 0, .int .i64 0, .int .i64 0, .int .i64 0, .int .i64 0, .int .i64 0, .int .i64 0, .int .i64 0, .int .i64 0, .int .i64 0, .int .i64 0, .int .i64 0, .int .i64 0, .int .i64 0, .int .i64 0, .int .i64 0, .int .i64 0, .int .i64 0, .int .i64 0, .int .i64 0, .int .i64 0, .int .i64 0, .int .i64 0]), 25, 200) := by kernel_rfl
theorem delM_run (w : World) (n b c : Nat) (cs : Array Value) (T i : Nat) (hh : w.heap[b]? = some (.cells cs T (0, 0))) (hnc : n ≤ c) (hc : c ≤ maxLen) (hs : cs.size = c * 25) (hi : i < n) (h1c : ∀ u ∈ cs.toList.take (n * 25), one u) :
  Calls Tryz.prog 68 #[.slice (some ⟨b, 0, none⟩) n c, .int .i64 i, .int .i64 ((i : Int) + 1)] w fun e w' => ∃ v cs', e = .returned v ∧ DelE w w' 25 v n i b c cs T cs' := by
 obtain ⟨inf, hinf, hz, hsz, hby⟩ := info_parts delM_info
 obtain ⟨Z, hZ⟩ : ∃ Z : Value, Z = .agg #[.int .i64 0, .int .i64 0, .int .i64 0, .int .i64 0, .int .i64 0, .int .i64 0, .int .i64 0, .int .i64 0, .int .i64 0, .int .i64 0, .int .i64 0, .int .i64 0, .int .i64 0, .int .i64 0, .int .i64 0, .int .i64 0, .int .i64 0, .int .i64 0, .int .i64 0, .int .i64 0, .int .i64 0, .int .i64 0, .int .i64 0, .int .i64 0, .int .i64 0] := ⟨_, rfl⟩
 rw [← hZ] at hz
 have hzc : (Value.cells Z).size = 25 := by rw [hZ]; rfl
 have hzv : ∀ w, (zeroValue 61).run Tryz.prog w = .ok Z w := fun w => by simp [zeroValue, typeInfo, hinf, hz]
 have hz1 : ∀ u ∈ (Value.cells Z).toList, one u := by
  intro u hu
  rw [hZ] at hu
  simp [Value.cells] at hu
  first | (subst hu; rfl) | (rcases hu with rfl | rfl | rfl | rfl <;> rfl)
 clear hZ
 have u25 := run_underlying Tryz.underlying33
 have z38 : ∀ w, (sizeOf 61).run Tryz.prog w = .ok 25 w := fun w => by simp [sizeOf, typeInfo, hinf, hsz]
 have mixed := tabOk.mix
 have hc63 : c ≤ 9223372036854775807 := hc
 obtain ⟨e1, e2, e3, e4, e5, e6, e7⟩ := closed_spec (cs := cs) (zs := (Value.cells Z).toList) hs hnc hi (by rw [Array.length_toList]; exact hzc)
 obtain ⟨us, hus⟩ : ∃ us, us = (cs.toList.take (n * 25)).drop ((i + 1) * 25) := ⟨_, rfl⟩
 rw [← hus] at e1 e2 e3
 obtain ⟨A, hA, hsrc⟩ : ∃ A : Addr, (if c = i + 1 then some (⟨b, 0, none⟩ : Addr) else some ⟨b, (i + 1) * 25, none⟩) = some A ∧ (∀ j v, us[j]? = some v → w.drew.cell? (A.add j) = some v) := by
  by_cases h : c = i + 1
  ·refine ⟨⟨b, 0, none⟩, by simp [h], fun j v hj => ?_⟩
   have h0 : us.length = 0 := by rw [e1, show n - (i + 1) = 0 by omega, Nat.zero_mul]
   rw [List.length_eq_zero_iff.1 h0] at hj
   simp at hj
  ·refine ⟨⟨b, (i + 1) * 25, none⟩, by simp [h], fun j v hj => ?_⟩
   rw [hus, List.getElem?_drop, List.getElem?_take] at hj
   rw [addr_add, show w.drew.cell? ⟨b, (i + 1) * 25 + j, none⟩ = w.cell? ⟨b, (i + 1) * 25 + j, none⟩ from rfl, cell_at hh]
   split at hj
   ·simpa using hj
   ·cases hj
 have h1u : ∀ u ∈ us, one u := fun u hu => h1c u (by rw [hus] at hu; exact List.mem_of_mem_drop hu)
 obtain ⟨W1, hW1⟩ : ∃ W1, W1 = wrote w.drew b (i * 25) cs us := ⟨_, rfl⟩
 have hap : ∀ ty, (Builtin.append_ #[33, 33] ty #[.slice (some ⟨b, 0, none⟩) i c, .slice (some A) (n - (i + 1)) (c - (i + 1))]).run Tryz.prog w.drew = .ok (.slice (some ⟨b, 0, none⟩) (i + (n - (i + 1))) c) W1 := fun ty => by
  have := run_append_in (P := Tryz.prog) (w := w.drew) (ty := ty) (T := 33) (b := b) (n := i) (cap := c) (m := n - (i + 1)) (capx := c - (i + 1)) (a := A) (cs := cs) (us := us) (T0 := T) Tryz.underlying33 hinf hh (by rw [hsz]; exact e1) hsrc (by omega) (by rw [hsz]; exact hs) h1u
  rw [this, hsz, hW1]
 have hh1 : W1.heap[b]? = some (.cells (putAt cs.toList (i * 25) us).toArray T (0, 0)) := by rw [hW1]; exact wrote_heap hh
 have hin : i + (n - (i + 1)) = n - 1 := by omega
 rw [hin] at hap
 have hcl : ∀ (W : World), W.heap = W1.heap → ∀ ty cc, (Builtin.clear_ #[33] ty #[.slice (some ⟨b, (n - 1) * 25, none⟩) 1 cc]).run Tryz.prog W = .ok (.tuple #[]) (wrote W b ((n - 1) * 25) (putAt cs.toList (i * 25) us).toArray (Value.cells Z).toList) := fun W hW ty cc =>
  run_clear_one (T0 := T) Tryz.underlying33 hzv (by rw [hW]; exact hh1) (by rw [e3]; rw [Array.length_toList] at e4; exact e4) hz1
 have hend : ∀ W : World, W.heap = (wrote W1 b ((n - 1) * 25) (putAt cs.toList (i * 25) us).toArray (Value.cells Z).toList).heap → W.os = w.os → W.tape = w.tape → W.output = w.output → DelE w W 25 (.slice (some ⟨b, 0, none⟩) (n - 1) c) n i b c cs T (closed cs 25 n i (Value.cells Z).toList) := fun W hW g1 g2 g3 => by
  refine ⟨rfl, ?_, e5, e6, e7, g1, g2, g3, ?_, fun x hx => ?_⟩
  ·rw [hW, wrote_heap hh1, closed, ← hus]
  ·rw [hW, hW1]; simp [wrote, World.setRow]
  ·rw [hW, wrote_other hx, hW1, wrote_other hx]; rfl
 have hw2 : IntKind.i64.wrap ((i : Int) + 1) = ((i + 1 : Nat) : Int) := by rw [IntKind.wrap_i64]; omega
 have hci : ¬ (c = n - 1) := by omega
 have hne : ¬ ((i : Int) = (i : Int) + 1) := by omega
 have htn : ((i : Int) + 1).toNat = i + 1 := by omega
 have hb1 : (0 : Int) ≤ (i : Int) + 1 := by omega
 have hb2 : (i : Int) + 1 ≤ (n : Int) := by omega
 have hb3 : (i : Int) + 1 ≤ (c : Int) := by omega
 have hb4 : i ≤ c := by omega
 have hb5 : (i : Int) ≤ (i : Int) + 1 := by omega
 have hb6 : n - (n - 1) = 1 := by omega
 have hb7 : n - 1 ≤ n := by omega
 have g1 : W1.os = w.os := by rw [hW1]; rfl
 have g2 : W1.tape = w.tape := by rw [hW1]; rfl
 have g3 : W1.output = w.output := by rw [hW1]; rfl
 obtain ⟨zs, hzs⟩ : ∃ zs, zs = (Value.cells Z).toList := ⟨_, rfl⟩
 rw [← hzs] at hcl hend
 clear hzs hzv hz1 hzc hW1
 clear hinf hz hby e1 e2 e3 e4 e5 e6 e7 h1u hsrc hh1 h1c hus
 go_enter Tryz.func68, Tryz.ntmps68
 go_wp2_with fail
 go_region_law_o (refine step_append_runI rfl (.tmp 22) (.tmp 25) 33 rfl _ _ (by simp [Act.eval, Act.put]) (by simp [Act.eval, Act.put]) (hap _) ?_)
 go_wp2_with (at_builtin; refine wpList_clear_runI _ rfl _ 33 rfl _ rfl (hcl _ rfl _ _) ?_)
 all_goals go_ret
 all_goals exact ⟨.slice (some ⟨b, 0, none⟩) (n - 1) c, _, rfl, hend _ rfl g1 g2 g3⟩
theorem delMFn : DelFn Tryz.prog 68 .msg := fun w n b cap cs T i hh h1 h2 h3 h4 h5 _ => delM_run w n b cap cs T i hh h1 h2 h3 h4 h5
theorem okDeleteM : SpecOk1 Tryz.prog 68 (.raw (delM .msg)) :=
 del_ok ⟨_, _, Tryz.func68, by kernel_rfl, rfl⟩ delMFn
end Go.Proofs.YtjdaiobeiimpfaaGreat
namespace Go.Proofs.YtjdaiobeiimpfaaGreat
open Go.Sx Go.Proofs Go.Mo
noncomputable def sCloneTab : Sx.Spec := ⟨false, true, [.arb], [[some .int, some .int]], fun _ _ ⟨t, _⟩ => .ret (oArb t, fun _ => 0)⟩
noncomputable def sDeleteMX : SpecX := .raw (takeX (delM .msg))
theorem okDeleteMX : SpecOk1 Tryz.prog 68 sDeleteMX := take_ok okDeleteM ⟨_, _, Tryz.func68, by kernel_rfl, rfl⟩
theorem okCloneTab : SpecOk1 Tryz.prog 60 sCloneTab := spec1 tabOk (ss := []) trivial rfl rfl <| by
 intro (bs : Th (List Int)) (p : Th Int) ⟨(t : Th Arb), u⟩ K _ _ ho h
 obtain ⟨t, rfl⟩ := th_ex t
 have hl := okB (ho.1 _ (.head _))
 have hl2 := okB (ho.1 _ (.tail _ (.head _)))
 refine ⟨noAnn, noAnn, 20, ?_⟩
 cbv
 repeat' first | ((with_reducible intro _); cbv) | (with_reducible refine And.intro ?_ ?_)
 all_goals first | (refine retK h ?_; clear h; simp only [fin0]) | (with_reducible refine Ob.mk ?_; clear h) | (clear h)
 all_goals (try simp only [eta0, RT.bytes] at *)
 all_goals (try grind)
theorem okCloneWld : SpecOk1 Tryz.prog 30 sWCopy := spec1 tabOk (ss := [(59, sCloneSs), (60, sCloneTab), (61, sCloneB), (62, sCloneV)]) ⟨okCloneSs, okCloneTab, okCloneB, okCloneV, trivial⟩ rfl rfl <| by
 intro (bs : Th (List Int)) (p : Th Int) ⟨(w : Th Wld), u⟩ K _ _ ho h
 obtain ⟨w, rfl⟩ := th_ex w
 have hb0 := okB (ho.1 _ (.tail _ (.tail _ (.head _))))
 have hb3 := okB (ho.1 _ (.tail _ (.tail _ (.tail _ (.tail _ (.head _))))))
 have hb4 := okB (ho.1 _ (.tail _ (.tail _ (.tail _ (.tail _ (.tail _ (.head _)))))))
 have hb6 := okB (ho.1 _ (.tail _ (.tail _ (.tail _ (.tail _ (.tail _ (.tail _ (.tail _ (.head _)))))))))
 have hb7 := okB (ho.1 _ (.tail _ (.tail _ (.tail _ (.tail _ (.tail _ (.tail _ (.tail _ (.tail _ (.head _))))))))))
 have hs := fun k => @pre_succ .srv w.servers k
 have hz := pre_len w.servers
 refine ⟨annL [(30, 4, ⟨Nat, [⟨.cell 4 2, some 500, .srv⟩], fun σ k => (((σ.only [1, 2, 3, 27, 28]).t 29 (vI fun _ => (k : Int))).cellC 4 2 (.own 500 1)).row 500 1 .srv (fun _ => pre w.servers k), fun _ k _ => k ≤ w.servers.length, fun _ k _ => w.servers.length - k⟩)], noAnn, 20, ?_⟩
 cbv
 repeat' first | ((with_reducible refine fun (k : Nat) => ?_); cbv) | ((with_reducible intro _); cbv) | (with_reducible refine And.intro ?_ ?_)
 all_goals try ((first | (with_reducible refine LoopIn.mk ((0 : Nat)) ?_ ?_) | (with_reducible refine LoopBack.mk ((k + 1 : Nat)) ?_ ?_ ?_)) )
 all_goals try ((with_reducible show matchSt _ _); cbv; (try simp only [and_true, true_and]))
 all_goals try (repeat' with_reducible refine And.intro ?_ ?_)
 all_goals first | (refine retK h ?_; clear h; simp only [fin0]) | (with_reducible refine Ob.mk ?_; clear h) | (clear h)
 all_goals (try simp only [eta0, RT.bytes] at *)
 all_goals (try grind [pre_zero, pre_all, wrap_succ])
def tabB (t : Arb) (v : Int) : Prop := t.servers.length = t.ages.length ∧ t.servers.length ≤ 4 ∧ 0 ≤ v ∧ v ≤ 3 ∧ ∀ k, k < t.ages.length → @LE.le Int _ 0 (nth .int t.ages k) ∧ @LE.le Int _ (nth .int t.ages k) 900
noncomputable def sGrantP : Sx.Io := ⟨.arb, true, [.int .i64, .int .i64, .int .i64], [], fun t ⟨v, c, s, _⟩ => .asrt (fun _ => tabB (t ()) (v ())) (.ret (vB fun _ => (arbGrant (t ()) (v ()) (c ()) (s ())).ok, fun _ => (arbGrant (t ()) (v ()) (c ()) (s ())).t))⟩
noncomputable def sSendP : Sx.Io := ⟨.row .wld, true, [.list .msg], [], fun w ⟨l, _⟩ => .asrt (fun _ => (w ()).net.length ≤ 40 ∧ (l ()).length ≤ 1000) (.ret (.tup [], fun _ => wSend (w ()) (l ())))⟩
theorem ncastG (n : Nat) : (NatCast.natCast n : Int) = (n : Int) := rfl
theorem okGrantP : SpecOk1 Tryz.prog 63 (ioX sGrantP) := io1 tabOk (ss := [(53, sIn)]) ⟨okIn, trivial⟩ rfl rfl <| by
 intro (t : Th Arb) ⟨(v : Th Int), (c : Th Int), (s : Th Int), u⟩ K _ ho h
 obtain ⟨t, rfl⟩ := th_ex t; obtain ⟨v, rfl⟩ := th_ex v; obtain ⟨c, rfl⟩ := th_ex c; obtain ⟨s, rfl⟩ := th_ex s
 obtain ⟨ha, h⟩ := h
 have ha := ha.out
 have ha : tabB t v := ha
 have h1 : IntKind.i64.wrap ((t.servers.length : Int) - 1) = (t.servers.length : Int) - 1 := wrap_id (by have := ha.2.1; omega) (by have := ha.2.1; omega)
 have h2 : IntKind.i64.wrap (v - 1) = v - 1 := wrap_id (by have := ha.2.2.1; dsimp only at *; omega) (by have := ha.2.2.2.1; dsimp only at *; omega)
 have h3 : 0 ≤ c → c < (t.ages.length : Int) → IntKind.i64.wrap (nth .int t.ages c.toNat + 1) = nth .int t.ages c.toNat + 1 := fun a b => by
  have := ha.2.2.2.2 c.toNat (by dsimp only at *; omega)
  exact wrap_id (by dsimp only [RT.ty] at *; omega) (by dsimp only [RT.ty] at *; omega)
 refine ⟨noAnn, noAnn, 20, ?_⟩
 cbv
 repeat' first | ((with_reducible intro _); cbv) | (with_reducible refine And.intro ?_ ?_)
 all_goals first | refine ioK h ?_ ?_ | (with_reducible refine Ob.mk ?_; clear h) | (clear h)
 all_goals (try clear h)
 all_goals (try clear K)
 all_goals (try simp only [fin0])
 all_goals (try simp only [eta0, RT.bytes] at *)
 all_goals (try dsimp only [RT.ty] at *)
 all_goals (try simp only [ncastG] at *)
 all_goals (try rw [h1] at *)
 all_goals (try rw [h2] at *)
 all_goals (try simp only [setNth_app] at *)
 all_goals grind [inR, arbGrant, tabB]
theorem wrap_natG {k : Nat} (h : k ≤ 1000) : (IntKind.i64.wrap ((k : Int) + 1)).toNat = k + 1 := by rw [wrap_succ (by omega)]; rfl
theorem sent_more {a l : List Msg} {k : Nat} (hk : k < l.length) (h : ((a.length + ((l.take k).take (40 - a.length)).length : Nat) : Int) < 40) : a ++ (l.take k).take (40 - a.length) ++ [nth .msg l k] = a ++ (l.take (k + 1)).take (40 - a.length) := by
 rw [List.length_take, List.length_take] at h
 have h1 : k < 40 - a.length := by omega
 rw [List.take_take, List.take_take, Nat.min_eq_right (by omega), Nat.min_eq_right (by omega), List.take_succ_eq_append_getElem hk, nth_lt .msg l k hk, List.append_assoc]
theorem sent_full {a l : List Msg} {k : Nat} (hk : k < l.length) (h : ¬ ((a.length + ((l.take k).take (40 - a.length)).length : Nat) : Int) < 40) : a ++ (l.take k).take (40 - a.length) = a ++ (l.take (k + 1)).take (40 - a.length) := by
 rw [List.length_take, List.length_take] at h
 have h1 : 40 - a.length ≤ k := by omega
 rw [List.take_take, List.take_take, Nat.min_eq_left (by omega), Nat.min_eq_left (by omega)]
theorem okSendP : SpecOk1 Tryz.prog 64 (ioX sSendP) := io1 tabOk (ss := []) trivial rfl rfl <| by
 intro (w : Th Wld) ⟨(l : Th (List Msg)), u⟩ K _ ho h
 obtain ⟨w, rfl⟩ := th_ex w; obtain ⟨l, rfl⟩ := th_ex l
 obtain ⟨ha, h⟩ := h
 have ha := ha.out
 have ha : w.net.length ≤ 40 ∧ l.length ≤ 1000 := ha
 refine ⟨annL [(64, 1, ⟨Th Int × Th Bool, [⟨.cell 0 7, some 500, .msg⟩], fun σ g => ((((σ.only [0, 6, 7]).h 8 (1, .dead)).t 8 (.one (.att (.int .i64 g.1)))).cellC 0 7 (.own 500 1)).row 500 1 .msg (fun _ => w.net ++ (l.take (g.1 ()).toNat).take (40 - w.net.length)), fun _ g _ => Ob fun _ => 0 ≤ g.1 () ∧ g.1 () ≤ l.length, fun _ g _ => l.length - (g.1 ()).toNat⟩)], noAnn, 20, ?_⟩
 cbv
 repeat' first | ((with_reducible refine fun (g : Th Int × Th Bool) => ?_); obtain ⟨k, z⟩ := g; obtain ⟨k, rfl⟩ := th_ex k; obtain ⟨z, rfl⟩ := th_ex z; (with_reducible refine ImpB.out ?_); cbv; (with_reducible refine ImpB.mk ?_); intro hq; obtain ⟨hq⟩ := hq; have hq0 := hq.1; obtain ⟨k, rfl⟩ := Int.eq_ofNat_of_zero_le hq0; clear hq0) | ((with_reducible intro _); cbv) | (with_reducible refine And.intro ?_ ?_)
 all_goals try ((first | (with_reducible refine LoopIn.wf (fun σ => (σ.tmI 8, noBool)) ?_ ?_) | (with_reducible refine LoopBack.wf (fun σ => (σ.tmI 8, noBool)) ?_ ?_ ?_)) <;> cbv)
 all_goals try (with_reducible show _ ∧ _; (try simp only [and_true, true_and]))
 all_goals try (repeat' with_reducible refine And.intro ?_ ?_)
 all_goals try (with_reducible refine MeasB.mk ?_)
 all_goals first | refine ioK h ?_ ?_ | (with_reducible refine Ob.mk ?_; clear h) | (clear h)
 all_goals (try clear h)
 all_goals (try clear K)
 all_goals (try simp only [fin0])
 all_goals (try simp only [eta0, RT.bytes] at *)
 all_goals (try dsimp only [RT.ty] at *)
 all_goals (try simp only [ncastG, Int.toNat_natCast, Int.toNat_zero] at *)
 all_goals (try simp (disch := omega) only [wrap_natG, wrap_succ, Int.toNat_natCast])
 all_goals first | omega | rfl | exact (sent_more ‹_› ‹_›) | exact (sent_full ‹_› ‹_›) | grind [wSend, List.length_append, List.length_take, List.take_of_length_le]
end Go.Proofs.YtjdaiobeiimpfaaGreat
