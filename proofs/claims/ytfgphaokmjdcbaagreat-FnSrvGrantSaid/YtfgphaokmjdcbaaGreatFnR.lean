/-
  Contracts: a ghost put among others, the reference's way.
-/
import Derived.Test.YtfgphaokmjdcbaaGreatFnFb
import Derived.Test.YtfgphaokmjdcbaaGreatM2
import Derived.Test.YtfgphaokmjdcbaaGreatGnC
import Derived.Test.YtfgphaokmjdcbaaGreatGnE
import Derived.Test.YtfgphaokmjdcbaaGreatFnQ
import Derived.Test.YtfgphaokmjdcbaaGreatFnYs
set_option linter.unusedVariables false
set_option linter.unusedSimpArgs false
namespace Go.Proofs.YtfgphaokmjdcbaaGreat
open Go.Sx Go.Proofs Go.Mo
set_option maxRecDepth 100000
set_option maxHeartbeats 8000000
set_option linter.unusedSimpArgs false
set_option linter.unusedVariables false

noncomputable def sGstPutS : Sx.Spec := ⟨false, true, [.map, .list .gst, .row .gst], [[some .gst]], fun _ _ ⟨m, l, g, _⟩ => .ret (vW .gst fun _ => gstPutS (m ()) (l ()) (g ()), fun _ => 0)⟩

theorem okSGstPut : SpecOk1 Tryz.prog 71 sGstPutS := spec1 tabOk (ss := [(114, sGstsOkS), (52, sGstOk), (119, sGstLess)]) ⟨okSGstsOk, okSGstOk, okL8Less, trivial⟩ rfl rfl <| by
  intro (bs : Th (List Int)) (p : Th Int) ⟨(m : Th PMap), (l : Th (List Gst)), (g : Th Gst), u⟩ K _ _ ho h
  obtain ⟨m, rfl⟩ := th_ex m; obtain ⟨l, rfl⟩ := th_ex l; obtain ⟨g, rfl⟩ := th_ex g
  have hl := okB (ho.2.1 _ (.head _))
  have hz := gpTo_len l g
  have hlong : 20 < l.length → gstsOkS m l = false := fun h => gsts_long h
  refine ⟨annL [(71, 6, ⟨Nat, [⟨.tmp 7 0, some 23, .gst⟩], fun σ k => ((((σ.fg 23).t 9 (vI fun _ => (k : Int))).t 7 (vO 23 1)).t 8 (vB fun _ => (gpTo l g k).d)).row 23 1 .gst (fun _ => (gpTo l g k).l), fun _ k _ => k ≤ l.length ∧ l.length ≤ 20 ∧ gstsOkS m l = true ∧ gstOk m g = true, fun _ k _ => l.length - k⟩)], noAnn, 20, ?_⟩
  cbv
  repeat' first | ((with_reducible refine fun (k : Nat) => ?_); cbv) | ((with_reducible intro _); cbv) | ((with_reducible show _ ∧ _); (with_reducible apply And.intro))
  all_goals try ((first | (with_reducible refine LoopIn.mk ((0 : Nat)) ?_ ?_) | (with_reducible refine LoopBack.mk ((k + 1 : Nat)) ?_ ?_ ?_)) )
  all_goals try ((with_reducible show matchSt _ _); cbv; (try simp only [and_true, true_and]))
  all_goals try (with_reducible show _ ∧ _; (repeat' (with_reducible apply And.intro)))
  all_goals first | (refine retK h ?_; clear h; simp only [fin0]) | (with_reducible refine Ob.mk ?_; clear h) | (clear h)
  all_goals (try simp only [eta0, RT.bytes] at *)
  all_goals grind (splits := 30) [wrap_succ, wrap_id, gpTo_zero, gpTo_succ, gpStep, gpOut, gstPutS]
end Go.Proofs.YtfgphaokmjdcbaaGreat

/-
  Contracts: what is said of a parcel that has come, the reference's way.
-/
namespace Go.Proofs.YtfgphaokmjdcbaaGreat
open Go.Sx Go.Proofs Go.Mo
set_option maxRecDepth 100000
set_option maxHeartbeats 8000000
set_option linter.unusedSimpArgs false
set_option linter.unusedVariables false

def gotS (m : PMap) (t : Arb) (cell side n : Int) : List Msg :=
  if arbServer t (plcSide m cell side) = -1 ∨ n = 0 then [] else [⟨6, arbServer t (plcSide m cell side), plcSide m cell side, IntKind.i64.wrap (1 - side), n, zeroOrd, zeroPcl, zeroGst⟩]
noncomputable def sGot : Sx.Spec := ⟨false, true, [.map, .arb, .int .i64, .int .i64, .int .i64], [[some .msg]], fun _ _ ⟨m, t, c, s, n, _⟩ => .ret (vW .msg fun _ => gotS (m ()) (t ()) (c ()) (s ()) (n ()), fun _ => 0)⟩

theorem okL11Got : SpecOk1 Tryz.prog 120 sGot := spec1 tabOk (ss := [(48, sPlcSide), (161, sArbServer)]) ⟨okSPlcSide, okSArbServer, trivial⟩ rfl rfl <| by
  intro (bs : Th (List Int)) (p : Th Int) ⟨(m : Th PMap), (t : Th Arb), (c : Th Int), (s : Th Int), (n : Th Int), u⟩ K _ _ ho h
  obtain ⟨m, rfl⟩ := th_ex m; obtain ⟨t, rfl⟩ := th_ex t; obtain ⟨c, rfl⟩ := th_ex c; obtain ⟨s, rfl⟩ := th_ex s; obtain ⟨n, rfl⟩ := th_ex n
  refine ⟨noAnn, noAnn, 20, ?_⟩
  cbv
  repeat' first | ((with_reducible intro _); cbv) | ((with_reducible show _ ∧ _); (with_reducible apply And.intro))
  all_goals first | (refine retK h ?_; clear h; simp only [fin0]) | (with_reducible refine Ob.mk ?_; clear h) | (clear h)
  all_goals (try simp only [eta0, RT.bytes] at *)
  all_goals grind [gotS, zeroOrd, zeroPcl, zeroGst]
end Go.Proofs.YtfgphaokmjdcbaaGreat

/-
  Contracts: holds put and let go of, the reference's way.
-/
namespace Go.Proofs.YtfgphaokmjdcbaaGreat
open Go.Sx Go.Proofs Go.Mo
set_option maxRecDepth 100000
set_option maxHeartbeats 8000000
set_option linter.unusedSimpArgs false
set_option linter.unusedVariables false

noncomputable def sWithout : Sx.Spec := ⟨false, false, [.row .srv, .int .i64], [[none, some .hld, some .gst]], fun _ _ ⟨s, c, _⟩ => .asrt (fun _ => (s ()).holds.length ≤ 9) (.ret (rAs (encSrv fun _ => ⟨(s ()).up, hldDel (s ()).holds (c ()), (s ()).ghosts⟩), fun _ => 0))⟩
noncomputable def sWith : Sx.Spec := ⟨false, false, [.row .srv, .row .hld], [[none, some .hld, some .gst]], fun _ _ ⟨s, h, _⟩ => .asrt (fun _ => (s ()).holds.length ≤ 9) (.ret (rAs (encSrv fun _ => ⟨(s ()).up, hldPutS (s ()).holds (h ()), (s ()).ghosts⟩), fun _ => 0))⟩

theorem okL11Without : SpecOk1 Tryz.prog 122 sWithout := spec1 tabOk (ss := []) trivial rfl rfl <| by
  intro (bs : Th (List Int)) (p : Th Int) ⟨(s : Th Srv), (c : Th Int), u⟩ K _ _ ho h
  obtain ⟨s, rfl⟩ := th_ex s; obtain ⟨c, rfl⟩ := th_ex c
  obtain ⟨ha, h⟩ := h
  have ha := ha.out
  have hl := hldDelTo_len s.holds c
  refine ⟨annL [(122, 3, ⟨Nat, [⟨.tmp 5 0, some 1000000000000008, .hld⟩], fun σ k => (((σ.fg 8).t 6 (vI fun _ => (k : Int))).t 5 (vO 8 1)).h 8 (1, .row false 0 .hld (fun _ => hldDelTo s.holds c k)), fun _ k _ => k ≤ s.holds.length, fun _ k _ => s.holds.length - k⟩)], noAnn, 20, ?_⟩
  cbv
  repeat' first | ((with_reducible refine fun (k : Nat) => ?_); cbv) | ((with_reducible intro _); cbv) | ((with_reducible show _ ∧ _); (with_reducible apply And.intro))
  all_goals try ((first | (with_reducible refine LoopIn.mk ((0 : Nat)) ?_ ?_) | (with_reducible refine LoopBack.mk ((k + 1 : Nat)) ?_ ?_ ?_)) )
  all_goals try ((with_reducible show matchSt _ _); cbv; (try simp only [and_true, true_and]))
  all_goals try (with_reducible show _ ∧ _; (repeat' (with_reducible apply And.intro)))
  all_goals first | (refine retK h ?_; clear h; simp only [fin0]) | (with_reducible refine Ob.mk ?_; clear h) | (clear h)
  all_goals (try simp only [eta0, RT.bytes] at *)
  all_goals grind [wrap_succ, hldDelTo_zero, hldDelTo_yes, hldDelTo_no, hldDelTo_all]
theorem okL11With : SpecOk1 Tryz.prog 118 sWith := spec1 tabOk (ss := [(122, sWithout)]) ⟨okL11Without, trivial⟩ rfl rfl <| by
  intro (bs : Th (List Int)) (p : Th Int) ⟨(s : Th Srv), (g : Th Hld), u⟩ K _ _ ho h
  obtain ⟨s, rfl⟩ := th_ex s; obtain ⟨g, rfl⟩ := th_ex g
  obtain ⟨ha, h⟩ := h
  have ha := ha.out
  have hd := hldDel_len s.holds g.state.cell
  have hl := hpTo_len (hldDel s.holds g.state.cell) g
  refine ⟨annL [(118, 5, ⟨Nat, [⟨.tmp 6 0, some 1000000000000016, .hld⟩], fun σ k => ((((σ.fg 16).t 8 (vI fun _ => (k : Int))).t 6 (vO 16 1)).t 7 (vB fun _ => (hpTo (hldDel s.holds g.state.cell) g k).d)).h 16 (1, .row false 0 .hld (fun _ => (hpTo (hldDel s.holds g.state.cell) g k).l)), fun _ k _ => k ≤ (hldDel s.holds g.state.cell).length, fun _ k _ => (hldDel s.holds g.state.cell).length - k⟩)], noAnn, 20, ?_⟩
  cbv
  repeat' first | ((with_reducible refine fun (k : Nat) => ?_); cbv) | ((with_reducible intro _); cbv) | ((with_reducible show _ ∧ _); (with_reducible apply And.intro))
  all_goals try ((first | (with_reducible refine LoopIn.mk ((0 : Nat)) ?_ ?_) | (with_reducible refine LoopBack.mk ((k + 1 : Nat)) ?_ ?_ ?_)) )
  all_goals try ((with_reducible show matchSt _ _); cbv; (try simp only [and_true, true_and]))
  all_goals try (with_reducible show _ ∧ _; (repeat' (with_reducible apply And.intro)))
  all_goals first | (refine retK h ?_; clear h; simp only [fin0]) | (with_reducible refine Ob.mk ?_; clear h) | (clear h)
  all_goals (try simp only [eta0, RT.bytes] at *)
  all_goals grind (splits := 30) [wrap_succ, hpTo_zero, hpTo_succ, hpStep, hpOut, hldPutS]
end Go.Proofs.YtfgphaokmjdcbaaGreat

/-
  Contracts: what is drawn: cells.
-/
namespace Go.Proofs.YtfgphaokmjdcbaaGreat
open Go.Sx Go.Proofs Go.Mo
set_option maxRecDepth 100000
set_option maxHeartbeats 8000000
set_option linter.unusedSimpArgs false
set_option linter.unusedVariables false

def St.rcll (σ : St) (k : Nat) (c : Th Cll) : St := (((((σ.cellC k 0 (.att (.int .i64 fun _ => (c ()).cell))).cellC k 1 (.att (.list .wlk fun _ => (c ()).wlks))).cellC k 2 (.att (.int .i64 fun _ => (c ()).ground))).cellC k 3 (.att (.list .pcls fun _ => (c ()).outs))).cellC k 4 (.att (.list .int fun _ => (c ()).next))).cellC k 5 (.att (.list .int fun _ => (c ()).ins))
def rC (a : Int) (b : List Wlk) (c : Int) (d : List (List Pcl)) (e f : List Int) : V := .agg [cI a, .att (.list .wlk fun _ => b), cI c, .att (.list .pcls fun _ => d), .att (.list .int fun _ => e), .att (.list .int fun _ => f)]

noncomputable def sCllNewW : Sx.Spec := ⟨false, false, [.map, .int .i64, .list .wlk], [nCll], fun _ _ ⟨m, c, l, _⟩ => .all Int fun a => .all (List Wlk) fun b => .all Int fun c => .all (List (List Pcl)) fun d => .all (List Int) fun e => .all (List Int) fun f => .asm (fun _ => (l ()).length ≤ 10 → small b d) (.ret (rC a b c d e f, fun _ => 0))⟩
noncomputable def sBadCell : Sx.Spec := ⟨true, false, [.map, .row .cll], [nCll], fun _ p ⟨m, c0, _⟩ => .asrt (fun _ => small (c0 ()).wlks (c0 ()).outs ∧ 0 ≤ p () ∧ p () ≤ 999999990000) (.all Int fun a => .all (List Wlk) fun b => .all Int fun c => .all (List (List Pcl)) fun d => .all (List Int) fun e => .all (List Int) fun f => .all Int fun q => .asm (fun _ => p () ≤ q ∧ q ≤ p () + 100) (.ret (rC a b c d e f, fun _ => q)))⟩
theorem okSCllNewW : SpecOk1 Tryz.prog 229 sCllNewW := spec1 tabOk (ss := [(45, sPlcOk), (47, sIn), (172, sWlkListOkS), (103, sPlcCell)]) ⟨okSPlcOk, okL1In, okSWlkListOk, okSPlcCell, trivial⟩ rfl rfl <| by
  intro (bs : Th (List Int)) (p : Th Int) ⟨(m : Th PMap), (c : Th Int), (l : Th (List Wlk)), u⟩ K hb hp0 ho h
  obtain ⟨m, rfl⟩ := th_ex m; obtain ⟨c, rfl⟩ := th_ex c; obtain ⟨l, rfl⟩ := th_ex l
  have hl := okB (ho.2.2.1 _ (.head _))
  refine ⟨annL [(229, 5, ⟨List Wlk × Nat, [⟨.cell 8 1, some 500, .wlk⟩], fun σ g => (((σ.fgs [29, 30, 500]).t 8 (vI fun _ => (g.2 : Int))).cellC 8 1 (.own 500 1)).row 500 1 .wlk (fun _ => g.1), fun _ g _ => g.1.length ≤ g.2 ∧ g.2 ≤ l.length, fun _ g _ => l.length - g.2⟩)], noAnn, 20, ?_⟩
  cbv
  repeat' first | ((with_reducible refine fun (k : Nat) => ?_); cbv) | ((with_reducible refine fun (g : List Wlk × Nat) => ?_); obtain ⟨gl, gk⟩ := g; cbv) | ((with_reducible intro _); cbv) | ((with_reducible show _ ∧ _); (with_reducible apply And.intro))
  all_goals try (first | (with_reducible refine LoopIn.mk (([], 0) : List Wlk × Nat) ?_ ?_) |
    (rename_i hc; have hc : decide (plcCell m (nth .wlk l gk).pos = c) = true := (by first | exact hc | exact decide_eq_true hc); obtain ⟨L, hL⟩ : ∃ L, L = gl ++ [nth .wlk l gk] := ⟨_, rfl⟩; with_reducible refine LoopBack.mk ((L, gk + 1) : List Wlk × Nat) ?_ ?_ ?_) |
    (with_reducible refine LoopBack.mk ((gl, gk + 1) : List Wlk × Nat) ?_ ?_ ?_))
  all_goals try ((first | (with_reducible refine LoopIn.mk ((0 : Nat)) ?_ ?_) | (with_reducible refine LoopBack.mk ((0 : Nat)) ?_ ?_ ?_)) )
  all_goals try ((with_reducible show matchSt _ _); cbv; (try simp only [and_true, true_and]))
  all_goals try (with_reducible show _ ∧ _; (repeat' (with_reducible apply And.intro)))
  all_goals first | (refine retK (h _ _ _ _ _ _ ?_) rfl; clear h) | (refine retK (h _ _ _ _ _ _ ?_) rfl) | (with_reducible refine Ob.mk ?_; clear h) | (clear h)
  all_goals (try simp only [eta0, RT.bytes] at *)
  all_goals grind [wrap_succ, small_nil, small_two]

theorem okBadCell : SpecOk1 Tryz.prog 151 sBadCell := spec1 tabOk (ss := [(39, sPick), (135, sCloneC), (146, sWalker), (98, sParcel), (147, sBadWalker)]) ⟨okPick, okL5Copy, okWalker, okParcel, okBadWalker, trivial⟩ rfl rfl <| by
  intro (bs : Th (List Int)) (p : Th Int) ⟨(m : Th PMap), (c : Th Cll), u⟩ K hb hp0 ho h
  obtain ⟨m, rfl⟩ := th_ex m; obtain ⟨c, rfl⟩ := th_ex c; obtain ⟨bs, rfl⟩ := th_ex bs; obtain ⟨p, rfl⟩ := th_ex p
  obtain ⟨hpre, h⟩ := h
  have hpre : small c.wlks c.outs ∧ 0 ≤ p ∧ p ≤ 999999990000 := hpre.out
  have hsm := hpre.1.2
  have hsw := hpre.1.1
  obtain ⟨hw, hou, hoi, hn, hi, _, _⟩ := okCll ho.2.1
  refine ⟨noAnn, noAnn, 20, ?_⟩
  cbv
  repeat' first | ((with_reducible intro _); cbv) | ((with_reducible show _ ∧ _); (with_reducible apply And.intro))
  all_goals first | (refine retK (h _ _ _ _ _ _ _ ?_) rfl; clear h) | (with_reducible refine Ob.mk ?_; clear h) | (clear h)
  all_goals (try simp only [eta0, RT.bytes] at *)
  all_goals (try simp only [setNth_app, List.length_set] at *)
  all_goals first | omega | grind [wrap_id]
end Go.Proofs.YtfgphaokmjdcbaaGreat
