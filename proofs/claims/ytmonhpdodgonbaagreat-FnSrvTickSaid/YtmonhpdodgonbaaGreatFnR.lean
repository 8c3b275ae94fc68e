/-
  Contracts: holds put and let go of, the reference's way.
-/
import Derived.Test.YtmonhpdodgonbaaGreatGnE
import Derived.Test.YtmonhpdodgonbaaGreatM2
import Derived.Test.YtmonhpdodgonbaaGreatFnQ
import Derived.Test.YtmonhpdodgonbaaGreatFnK
set_option linter.unusedVariables false
set_option linter.unusedSimpArgs false
namespace Go.Proofs.YtmonhpdodgonbaaGreat
open Go.Sx Go.Proofs Go.Mo
set_option maxRecDepth 100000
set_option maxHeartbeats 8000000
set_option linter.unusedSimpArgs false
set_option linter.unusedVariables false

noncomputable def sWithout : Sx.Spec := ⟨false, false, [.row .srv, .int .i64], [[none, some .hld, some .gst]], fun _ _ ⟨s, c, _⟩ => .asrt (fun _ => (s ()).holds.length ≤ 9) (.ret (rAs (encSrv fun _ => ⟨(s ()).up, hldDel (s ()).holds (c ()), (s ()).ghosts⟩), fun _ => 0))⟩
noncomputable def sWith : Sx.Spec := ⟨false, false, [.row .srv, .row .hld], [[none, some .hld, some .gst]], fun _ _ ⟨s, h, _⟩ => .asrt (fun _ => (s ()).holds.length ≤ 9) (.ret (rAs (encSrv fun _ => ⟨(s ()).up, hldPutS (s ()).holds (h ()), (s ()).ghosts⟩), fun _ => 0))⟩

theorem okL11Without : SpecOk1 Tryz.prog 152 sWithout := spec1 tabOk (ss := []) trivial rfl rfl <| by
  intro (bs : Th (List Int)) (p : Th Int) ⟨(s : Th Srv), (c : Th Int), u⟩ K _ _ ho h
  obtain ⟨s, rfl⟩ := th_ex s; obtain ⟨c, rfl⟩ := th_ex c
  obtain ⟨ha, h⟩ := h
  have ha := ha.out
  have hl := hldDelTo_len s.holds c
  refine ⟨annL [(152, 3, ⟨Nat, [⟨.tmp 5 0, some 1000000000000008, .hld⟩], fun σ k => (((σ.fg 8).t 6 (vI fun _ => (k : Int))).t 5 (vO 8 1)).h 8 (1, .row false 0 .hld (fun _ => hldDelTo s.holds c k)), fun _ k _ => k ≤ s.holds.length, fun _ k _ => s.holds.length - k⟩)], noAnn, 20, ?_⟩
  cbv
  repeat' first | ((with_reducible refine fun (k : Nat) => ?_); cbv) | ((with_reducible refine fun (q : Nat × Unit) => ?_); obtain ⟨s, _⟩ := q; cbv) | ((with_reducible refine fun (q : Nat × Nat) => ?_); obtain ⟨s, k⟩ := q; cbv) | ((with_reducible intro _); cbv) | ((with_reducible show _ ∧ _); (with_reducible apply And.intro))
  all_goals try ((first | (with_reducible refine LoopIn.mk ((0 : Nat)) ?_ ?_) | (with_reducible refine LoopBack.mk ((k + 1 : Nat)) ?_ ?_ ?_)) )
  all_goals try ((with_reducible show matchSt _ _); cbv; (try simp only [and_true, true_and]))
  all_goals try (with_reducible show _ ∧ _; (repeat' (with_reducible apply And.intro)))
  all_goals first | (refine retK h ?_; clear h; simp only [fin0]) | (with_reducible refine Ob.mk ?_; clear h) | (clear h)
  all_goals (try simp only [eta0, RT.bytes] at *)
  all_goals grind [wrap_succ, hldDelTo_zero, hldDelTo_yes, hldDelTo_no, hldDelTo_all]
theorem okL11With : SpecOk1 Tryz.prog 149 sWith := spec1 tabOk (ss := [(152, sWithout)]) ⟨okL11Without, trivial⟩ rfl rfl <| by
  intro (bs : Th (List Int)) (p : Th Int) ⟨(s : Th Srv), (g : Th Hld), u⟩ K _ _ ho h
  obtain ⟨s, rfl⟩ := th_ex s; obtain ⟨g, rfl⟩ := th_ex g
  obtain ⟨ha, h⟩ := h
  have ha := ha.out
  have hd := hldDel_len s.holds g.state.cell
  have hl := hpTo_len (hldDel s.holds g.state.cell) g
  refine ⟨annL [(149, 5, ⟨Nat, [⟨.tmp 6 0, some 1000000000000016, .hld⟩], fun σ k => ((((σ.fg 16).t 8 (vI fun _ => (k : Int))).t 6 (vO 16 1)).t 7 (vB fun _ => (hpTo (hldDel s.holds g.state.cell) g k).d)).h 16 (1, .row false 0 .hld (fun _ => (hpTo (hldDel s.holds g.state.cell) g k).l)), fun _ k _ => k ≤ (hldDel s.holds g.state.cell).length, fun _ k _ => (hldDel s.holds g.state.cell).length - k⟩)], noAnn, 20, ?_⟩
  cbv
  repeat' first | ((with_reducible refine fun (k : Nat) => ?_); cbv) | ((with_reducible refine fun (q : Nat × Unit) => ?_); obtain ⟨s, _⟩ := q; cbv) | ((with_reducible refine fun (q : Nat × Nat) => ?_); obtain ⟨s, k⟩ := q; cbv) | ((with_reducible intro _); cbv) | ((with_reducible show _ ∧ _); (with_reducible apply And.intro))
  all_goals try ((first | (with_reducible refine LoopIn.mk ((0 : Nat)) ?_ ?_) | (with_reducible refine LoopBack.mk ((k + 1 : Nat)) ?_ ?_ ?_)) )
  all_goals try ((with_reducible show matchSt _ _); cbv; (try simp only [and_true, true_and]))
  all_goals try (with_reducible show _ ∧ _; (repeat' (with_reducible apply And.intro)))
  all_goals first | (refine retK h ?_; clear h; simp only [fin0]) | (with_reducible refine Ob.mk ?_; clear h) | (clear h)
  all_goals (try simp only [eta0, RT.bytes] at *)
  all_goals grind (splits := 30) [wrap_succ, hpTo_zero, hpTo_succ, hpStep, hpOut, hldPutS]
end Go.Proofs.YtmonhpdodgonbaaGreat

/-
  Contracts: what is drawn: cells.
-/
namespace Go.Proofs.YtmonhpdodgonbaaGreat
open Go.Sx Go.Proofs Go.Mo
set_option maxRecDepth 100000
set_option maxHeartbeats 8000000
set_option linter.unusedSimpArgs false
set_option linter.unusedVariables false

def St.rcll (σ : St) (k : Nat) (c : Th Cll) : St := (((((σ.cellC k 0 (.att (.int .i64 fun _ => (c ()).cell))).cellC k 1 (.att (.list .wlk fun _ => (c ()).wlks))).cellC k 2 (.att (.int .i64 fun _ => (c ()).ground))).cellC k 3 (.att (.list .pcls fun _ => (c ()).outs))).cellC k 4 (.att (.list .int fun _ => (c ()).next))).cellC k 5 (.att (.list .int fun _ => (c ()).ins))
def rC (a : Int) (b : List Wlk) (c : Int) (d : List (List Pcl)) (e f : List Int) : V := .agg [cI a, .att (.list .wlk fun _ => b), cI c, .att (.list .pcls fun _ => d), .att (.list .int fun _ => e), .att (.list .int fun _ => f)]

noncomputable def sCllNewW : Sx.Spec := ⟨false, false, [.map, .int .i64, .list .wlk], [nCll], fun _ _ ⟨m, c, l, _⟩ => .all Int fun a => .all (List Wlk) fun b => .all Int fun c => .all (List (List Pcl)) fun d => .all (List Int) fun e => .all (List Int) fun f => .asm (fun _ => (l ()).length ≤ 10 → small b d) (.ret (rC a b c d e f, fun _ => 0))⟩
noncomputable def sPlays : Sx.Spec := ⟨true, false, [.map, .row .cll, .int .i64], [[some .rcd], nCll], fun _ p ⟨m, c0, n, _⟩ => .asrt (fun _ => 0 ≤ p () ∧ p () ≤ 999999990000 ∧ n () ≤ 30) (.all (List Sx.Rec) fun l => .all Int fun a => .all (List Wlk) fun b => .all Int fun c => .all (List (List Pcl)) fun d => .all (List Int) fun e => .all (List Int) fun f => .all Int fun q => .asm (fun _ => p () ≤ q ∧ q ≤ p () + 1800 ∧ l.length ≤ 30 ∧ (small (c0 ()).wlks (c0 ()).outs → small b d)) (.ret (.tup [vL .rcd fun _ => l, rC a b c d e f], fun _ => q)))⟩
noncomputable def sCell : Sx.Spec := ⟨true, false, [], [[none, none], nCll], fun _ p _ => .asrt (fun _ => 0 ≤ p () ∧ p () ≤ 999999980000) (.all Int fun x => .all Int fun y => .all Int fun a => .all (List Wlk) fun b => .all Int fun c => .all (List (List Pcl)) fun d => .all (List Int) fun e => .all (List Int) fun f => .all Int fun q => .asm (fun _ => p () ≤ q ∧ q ≤ p () + 3000 ∧ small b d) (.ret (.tup [.agg [cI x, cI y], rC a b c d e f], fun _ => q)))⟩
noncomputable def sBadCell : Sx.Spec := ⟨true, false, [.map, .row .cll], [nCll], fun _ p ⟨m, c0, _⟩ => .asrt (fun _ => small (c0 ()).wlks (c0 ()).outs ∧ 0 ≤ p () ∧ p () ≤ 999999990000) (.all Int fun a => .all (List Wlk) fun b => .all Int fun c => .all (List (List Pcl)) fun d => .all (List Int) fun e => .all (List Int) fun f => .all Int fun q => .asm (fun _ => p () ≤ q ∧ q ≤ p () + 100) (.ret (rC a b c d e f, fun _ => q)))⟩
noncomputable def sAnyCell : Sx.Spec := ⟨true, false, [.int .i64], [[none, none], nCll], fun _ p ⟨n, _⟩ => .asrt (fun _ => 0 ≤ p () ∧ p () ≤ 999999970000) (.all Int fun x => .all Int fun y => .all Int fun a => .all (List Wlk) fun b => .all Int fun c => .all (List (List Pcl)) fun d => .all (List Int) fun e => .all (List Int) fun f => .all Int fun q => .asm (fun _ => p () ≤ q ∧ q ≤ p () + 4000) (.ret (.tup [.agg [cI x, cI y], rC a b c d e f], fun _ => q)))⟩

theorem okSCllNewW : SpecOk1 Tryz.prog 123 sCllNewW := spec1 tabOk (ss := [(24, sPlcOk), (27, sIn), (74, sWlkListOkS), (67, sPlcCell)]) ⟨okSPlcOk, okL1In, okSWlkListOk, okSPlcCell, trivial⟩ rfl rfl <| by
  intro (bs : Th (List Int)) (p : Th Int) ⟨(m : Th PMap), (c : Th Int), (l : Th (List Wlk)), u⟩ K hb hp0 ho h
  obtain ⟨m, rfl⟩ := th_ex m; obtain ⟨c, rfl⟩ := th_ex c; obtain ⟨l, rfl⟩ := th_ex l
  have hl := okB (ho.2.2.1 _ (.head _))
  refine ⟨annL [(123, 5, ⟨List Wlk × Nat, [⟨.cell 8 1, some 500, .wlk⟩], fun σ g => (((σ.fgs [29, 30, 500]).t 8 (vI fun _ => (g.2 : Int))).cellC 8 1 (.own 500 1)).row 500 1 .wlk (fun _ => g.1), fun _ g _ => g.1.length ≤ g.2 ∧ g.2 ≤ l.length, fun _ g _ => l.length - g.2⟩)], noAnn, 20, ?_⟩
  cbv
  repeat' first | ((with_reducible refine fun (k : Nat) => ?_); cbv) | ((with_reducible refine fun (g : List Wlk × Nat) => ?_); obtain ⟨gl, gk⟩ := g; cbv) | ((with_reducible intro _); cbv) | ((with_reducible show _ ∧ _); (with_reducible apply And.intro))
  all_goals try (first | (with_reducible refine LoopIn.mk (([], 0) : List Wlk × Nat) ?_ ?_) |
    (rename_i hc; have hc : decide (plcCell m (nth .wlk l gk).pos = c) = true := (by first | exact hc | exact decide_eq_true hc); obtain ⟨L, hL⟩ : ∃ L, L = gl ++ [nth .wlk l gk] := ⟨_, rfl⟩; with_reducible refine LoopBack.mk ((L, gk + 1) : List Wlk × Nat) ?_ ?_ ?_) |
    (with_reducible refine LoopBack.mk ((gl, gk + 1) : List Wlk × Nat) ?_ ?_ ?_))
  all_goals try ((first | (with_reducible refine LoopIn.mk ((0 : Nat)) ?_ ?_) | (with_reducible refine LoopBack.mk ((0 : Nat)) ?_ ?_ ?_)) )
  all_goals try ((with_reducible show matchSt _ _); cbv; (try simp only [and_true, true_and]))
  all_goals try (with_reducible show _ ∧ _; (repeat' (with_reducible apply And.intro)))
  all_goals first | (refine retK (h _ _ _ _ _ _ ?_) rfl; clear h) | (refine retK (h _ _ _ _ _ _ ?_) rfl) | (with_reducible refine Ob.mk ?_; clear h) | (clear h)
  all_goals (try simp only [eta0, RT.bytes] at *)
  all_goals grind [wrap_succ, small_nil, small_two]

theorem okPlays : SpecOk1 Tryz.prog 88 sPlays := spec1 tabOk (ss := [(53, sCllOk), (105, sRec), (106, sLogApply)]) ⟨okSCllOk, okRec, okSLogApply, trivial⟩ rfl rfl <| by
  intro (bs : Th (List Int)) (p : Th Int) ⟨(m : Th PMap), (c : Th Cll), (n : Th Int), u⟩ K hb hp0 ho h
  obtain ⟨m, rfl⟩ := th_ex m; obtain ⟨c, rfl⟩ := th_ex c; obtain ⟨n, rfl⟩ := th_ex n; obtain ⟨bs, rfl⟩ := th_ex bs; obtain ⟨p, rfl⟩ := th_ex p
  obtain ⟨hpre, h⟩ := h
  have hpre : 0 ≤ p ∧ p ≤ 999999990000 ∧ n ≤ 30 := hpre.out
  refine ⟨annL [(88, 2, ⟨List Sx.Rec × Cll × Int × Int, [⟨.tmp 10 0, some 16, .rcd⟩, ⟨.cell 7 1, none, .wlk⟩, ⟨.cell 7 3, none, .pcls⟩, ⟨.cell 7 4, none, .int⟩, ⟨.cell 7 5, none, .int⟩],
    fun σ g => St.rcll ((((((σ.fgs [16]).t 3 (vI fun _ => g.2.2.1)).t 10 (vO 16 1)).row 16 1 .rcd (fun _ => g.1)).cellC 0 1 (.att (.int .i64 fun _ => g.2.2.2)))) 7 (fun _ => g.2.1),
    fun _ g _ => g.2.2.1 ≤ 30 ∧ (small c.wlks c.outs → small g.2.1.wlks g.2.1.outs) ∧ (g.2.2.1 < 0 ∧ g.1.length = 0 ∧ g.2.2.2 = p ∨ 0 ≤ g.2.2.1 ∧ (g.1.length : Int) ≤ 30 - g.2.2.1 ∧ p ≤ g.2.2.2 ∧ g.2.2.2 ≤ p + 60 * (30 - g.2.2.1)), fun _ g _ => g.2.2.1.toNat⟩)], noAnn, 20, ?_⟩
  cbv
  repeat' first | ((with_reducible refine fun (k : Nat) => ?_); cbv) | ((with_reducible refine fun (g : List Sx.Rec × Cll × Int × Int) => ?_); obtain ⟨gl, gc, gn, gq⟩ := g; cbv) | ((with_reducible intro _); cbv) | ((with_reducible show _ ∧ _); (with_reducible apply And.intro))
  all_goals try (first | (with_reducible refine LoopIn.mk (([], c, n, p) : List Sx.Rec × Cll × Int × Int) ?_ ?_) |
    (rename_i r0 r1 r2 r3 r4 r5 r6 r7 r8 r9 r10 r11 r12 r13 r14 r15 q1 hq hok; have hok : (cllApplyX m gc ⟨r0, ⟨r1, r2, r3, r4, r5⟩, r6, ⟨r7, r8, ⟨r9, r10, r11, r12, r13⟩, r14⟩, r15⟩).ok = true := hok; obtain ⟨L, hL⟩ : ∃ L, L = gl ++ [(⟨r0, ⟨r1, r2, r3, r4, r5⟩, r6, ⟨r7, r8, ⟨r9, r10, r11, r12, r13⟩, r14⟩, r15⟩ : Sx.Rec)] := ⟨_, rfl⟩; obtain ⟨X, hX⟩ : ∃ X, X = (cllApplyX m gc ⟨r0, ⟨r1, r2, r3, r4, r5⟩, r6, ⟨r7, r8, ⟨r9, r10, r11, r12, r13⟩, r14⟩, r15⟩).c := ⟨_, rfl⟩; obtain ⟨g1, hg1⟩ : ∃ g1, g1 = gn - 1 := ⟨_, rfl⟩; with_reducible refine LoopBack.mk ((L, X, g1, q1) : List Sx.Rec × Cll × Int × Int) ?_ ?_ ?_) |
    (rename_i r0 r1 r2 r3 r4 r5 r6 r7 r8 r9 r10 r11 r12 r13 r14 r15 q1 hq hok; obtain ⟨g1, hg1⟩ : ∃ g1, g1 = gn - 1 := ⟨_, rfl⟩; with_reducible refine LoopBack.mk ((gl, gc, g1, q1) : List Sx.Rec × Cll × Int × Int) ?_ ?_ ?_))
  all_goals try ((first | (with_reducible refine LoopIn.mk ((0 : Nat)) ?_ ?_) | (with_reducible refine LoopBack.mk ((0 : Nat)) ?_ ?_ ?_)) )
  all_goals try ((with_reducible show matchSt _ _); cbv; (try simp only [and_true, true_and]))
  all_goals try (with_reducible show _ ∧ _; (repeat' (with_reducible apply And.intro)))
  all_goals first | (refine retK (h _ _ _ _ _ _ _ _ ?_) rfl; clear h) | (with_reducible refine Ob.mk ?_; clear h) | (clear h)
  all_goals (try simp only [eta0, RT.bytes] at *)
  all_goals (try subst hL)
  all_goals (try subst hX)
  all_goals first | omega | rfl | grind [wrap_id, small_apply]

theorem okBadCell : SpecOk1 Tryz.prog 64 sBadCell := spec1 tabOk (ss := [(17, sPick), (69, sCloneC), (66, sWalker), (89, sParcel), (68, sBadWalker)]) ⟨okPick, okL5Copy, okWalker, okParcel, okBadWalker, trivial⟩ rfl rfl <| by
  intro (bs : Th (List Int)) (p : Th Int) ⟨(m : Th PMap), (c : Th Cll), u⟩ K hb hp0 ho h
  obtain ⟨m, rfl⟩ := th_ex m; obtain ⟨c, rfl⟩ := th_ex c; obtain ⟨bs, rfl⟩ := th_ex bs; obtain ⟨p, rfl⟩ := th_ex p
  obtain ⟨hpre, h⟩ := h
  have hpre : small c.wlks c.outs ∧ 0 ≤ p ∧ p ≤ 999999990000 := hpre.out
  have hsm := hpre.1.2
  have hsw := hpre.1.1
  obtain ⟨hw, hou, hoi, hn, hi, _, _⟩ := okCll ho.2.1
  refine ⟨noAnn, noAnn, 20, ?_⟩
  cbv
  repeat' first | ((with_reducible refine fun (k : Nat) => ?_); cbv) | ((with_reducible refine fun (q : Nat × Unit) => ?_); obtain ⟨s, _⟩ := q; cbv) | ((with_reducible refine fun (q : Nat × Nat) => ?_); obtain ⟨s, k⟩ := q; cbv) | ((with_reducible intro _); cbv) | ((with_reducible show _ ∧ _); (with_reducible apply And.intro))
  all_goals first | (refine retK (h _ _ _ _ _ _ _ ?_) rfl; clear h) | (with_reducible refine Ob.mk ?_; clear h) | (clear h)
  all_goals (try simp only [eta0, RT.bytes] at *)
  all_goals (try simp only [setNth_app, List.length_set] at *)
  all_goals first | omega | grind [wrap_id]
end Go.Proofs.YtmonhpdodgonbaaGreat
