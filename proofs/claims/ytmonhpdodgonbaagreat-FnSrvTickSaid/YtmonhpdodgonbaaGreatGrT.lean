/-
  Contracts: what is drawn: records that a cell takes, one of which may not fit.
-/
import Derived.Test.YtmonhpdodgonbaaGreatFnR
import Derived.Test.YtmonhpdodgonbaaGreatGnE
import Derived.Test.YtmonhpdodgonbaaGreatGnC
import Derived.Test.YtmonhpdodgonbaaGreatM3
set_option linter.unusedVariables false
set_option linter.unusedSimpArgs false
namespace Go.Proofs.YtmonhpdodgonbaaGreat
open Go.Sx Go.Proofs Go.Mo
set_option maxRecDepth 100000
set_option maxHeartbeats 8000000
set_option linter.unusedSimpArgs false
set_option linter.unusedVariables false

noncomputable def sAnyRec : Sx.Spec := ⟨true, false, [.map, .row .cll, .int .i64], [], fun _ p ⟨m, c, n, _⟩ => .asrt (fun _ => 0 ≤ p () ∧ p () ≤ 1000000000000) (.all Int fun x0 => .all Int fun x1 => .all Int fun x2 => .all Int fun x3 => .all Int fun x4 => .all Int fun x5 => .all Int fun x6 => .all Int fun x7 => .all Int fun x8 => .all Int fun x9 => .all Int fun x10 => .all Int fun x11 => .all Int fun x12 => .all Int fun x13 => .all Int fun x14 => .all Int fun x15 => .all Int fun q => .asm (fun _ => p () ≤ q ∧ q ≤ p () + 200) (.ret (.agg [cI x0, cI x1, cI x2, cI x3, cI x4, cI x5, cI x6, cI x7, cI x8, cI x9, cI x10, cI x11, cI x12, cI x13, cI x14, cI x15], fun _ => q)))⟩
noncomputable def sPlaysO : Sx.Spec := ⟨true, true, [.map, .row .cll, .int .i64], [[some .rcd], nCll], fun _ p ⟨m, c0, n, _⟩ => .asrt (fun _ => 0 ≤ p () ∧ p () ≤ 999999990000 ∧ n () ≤ 30) (.all (List Sx.Rec) fun l => .all Int fun a => .all (List Wlk) fun b => .all Int fun c => .all (List (List Pcl)) fun d => .all (List Int) fun e => .all (List Int) fun f => .all Int fun q => .asm (fun _ => p () ≤ q ∧ q ≤ p () + 1800 ∧ l.length ≤ 30 ∧ (small (c0 ()).wlks (c0 ()).outs → small b d)) (.ret (.tup [vW .rcd fun _ => l, rC a b c d e f], fun _ => q)))⟩
noncomputable def sDrawFold : Sx.Spec := ⟨false, false, [.list .byte], [[none, none], nCll, [some .rcd]], fun _ _ _ => .all Int fun x => .all Int fun y => .all Int fun a => .all (List Wlk) fun b => .all Int fun c => .all (List (List Pcl)) fun d => .all (List Int) fun e => .all (List Int) fun f => .all (List Sx.Rec) fun l => .ret (.tup [.agg [cI x, cI y], rC a b c d e f, vL .rcd fun _ => l], fun _ => 0)⟩

theorem okPlaysO : SpecOk1 Tryz.prog 88 sPlaysO := spec1 tabOk (ss := [(53, sCllOk), (105, sRec), (106, sLogApply)]) ⟨okSCllOk, okRec, okSLogApply, trivial⟩ rfl rfl <| by
  intro (bs : Th (List Int)) (p : Th Int) ⟨(m : Th PMap), (c : Th Cll), (n : Th Int), u⟩ K hb hp0 ho h
  obtain ⟨m, rfl⟩ := th_ex m; obtain ⟨c, rfl⟩ := th_ex c; obtain ⟨n, rfl⟩ := th_ex n; obtain ⟨bs, rfl⟩ := th_ex bs; obtain ⟨p, rfl⟩ := th_ex p
  obtain ⟨hpre, h⟩ := h
  have hpre : 0 ≤ p ∧ p ≤ 999999990000 ∧ n ≤ 30 := hpre.out
  refine ⟨annL [(88, 2, ⟨List Sx.Rec × Cll × Int × Int, [⟨.tmp 10 0, some 16, .rcd⟩, ⟨.cell 7 1, none, .wlk⟩, ⟨.cell 7 3, none, .pcls⟩, ⟨.cell 7 4, none, .int⟩, ⟨.cell 7 5, none, .int⟩],
    fun σ g => St.rcll ((((((σ.fgs [16]).t 3 (vI fun _ => g.2.2.1)).t 10 (vO 16 1)).row 16 1 .rcd (fun _ => g.1)).cellC 0 1 (.att (.int .i64 fun _ => g.2.2.2)))) 7 (fun _ => g.2.1),
    fun _ g _ => g.2.2.1 ≤ 30 ∧ (small c.wlks c.outs → small g.2.1.wlks g.2.1.outs) ∧ (g.2.2.1 < 0 ∧ g.1.length = 0 ∧ g.2.2.2 = p ∨ 0 ≤ g.2.2.1 ∧ (g.1.length : Int) ≤ 30 - g.2.2.1 ∧ p ≤ g.2.2.2 ∧ g.2.2.2 ≤ p + 60 * (30 - g.2.2.1)), fun _ g _ => g.2.2.1.toNat⟩)], noAnn, 20, ?_⟩
  cbv
  repeat' first | ((with_reducible refine fun (k : Nat) => ?_); cbv) | ((with_reducible refine fun (g : List Sx.Rec × Cll × Int × Int) => ?_); obtain ⟨gl, gc, gn, gq⟩ := g; cbv) | ((with_reducible intro _); cbv) | ((with_reducible show _ ∧ _); (with_reducible apply And.intro))
  all_goals try (first | (with_reducible refine LoopIn.mk (([], c, n, p) : List Sx.Rec × Cll × Int × Int) ?_ ?_) |
    (rename_i r0 r1 r2 r3 r4 r5 r6 r7 r8 r9 r10 r11 r12 r13 r14 r15 q1 hq hok; have hok : (cllApplyX m gc ⟨r0, ⟨r1, r2, r3, r4, r5⟩, r6, ⟨r7, r8, ⟨r9, r10, r11, r12, r13⟩, r14⟩, r15⟩).ok = true := hok; obtain ⟨L, hL⟩ : ∃ L, L = gl ++ [(⟨r0, ⟨r1, r2, r3, r4, r5⟩, r6, ⟨r7, r8, ⟨r9, r10, r11, r12, r13⟩, r14⟩, r15⟩ : Sx.Rec)] := ⟨_, rfl⟩; obtain ⟨X, hX⟩ : ∃ X, X = (cllApplyX m gc ⟨r0, ⟨r1, r2, r3, r4, r5⟩, r6, ⟨r7, r8, ⟨r9, r10, r11, r12, r13⟩, r14⟩, r15⟩).c := ⟨_, rfl⟩; obtain ⟨g1, hg1⟩ : ∃ g1, g1 = gn - 1 := ⟨_, rfl⟩; with_reducible refine LoopBack.mk ((L, X, g1, q1) : List Sx.Rec × Cll × Int × Int) ?_ ?_ ?_) |
    (rename_i r0 r1 r2 r3 r4 r5 r6 r7 r8 r9 r10 r11 r12 r13 r14 r15 q1 hq hok; obtain ⟨g1, hg1⟩ : ∃ g1, g1 = gn - 1 := ⟨_, rfl⟩; with_reducible refine LoopBack.mk ((gl, gc, g1, q1) : List Sx.Rec × Cll × Int × Int) ?_ ?_ ?_))
  all_goals try ((first | (with_reducible refine LoopIn.mk ((0 : Nat)) ?_ ?_) | (with_reducible refine LoopBack.mk ((0 : Nat)) ?_ ?_ ?_)) )
  all_goals try ((with_reducible show matchSt _ _); cbv; (try simp only [and_true, true_and]))
  all_goals try (with_reducible show _ ∧ _; (repeat' (with_reducible apply And.intro)))
  all_goals first | (refine retK (h _ _ _ _ _ _ _ _ ?_) rfl; clear h) | (with_reducible refine Ob.mk ?_; clear h) | (clear h)
  all_goals (try simp only [eta0, RT.bytes] at *)
  all_goals (try subst hL)
  all_goals (try subst hX)
  all_goals first | omega | rfl | grind [wrap_id, small_apply]
end Go.Proofs.YtmonhpdodgonbaaGreat

/-
  Contract: what a server says of a cell, the program's way.
-/
namespace Go.Proofs.YtmonhpdodgonbaaGreat
open Go.Sx Go.Proofs Go.Mo
set_option maxRecDepth 100000
set_option maxHeartbeats 8000000
set_option linter.unusedSimpArgs false
set_option linter.unusedVariables false

noncomputable def sTick : Sx.Spec := ⟨false, true, [.row .srv, .map, .arb, .int .i64], [[some .msg]], fun _ _ ⟨s, m, t, c, _⟩ => .asrt (fun _ => srvOk (m ()) (s ()) = true) (.ret (vW .msg fun _ => srvTick (m ()) (s ()) (t ()) (c ()), fun _ => 0))⟩
noncomputable def sSrvTickI : Sx.Spec := ⟨false, true, [.map, .row .srv, .arb, .int .i64, .int .i64], [[some .msg]], fun _ _ ⟨m, s, t, v, c, _⟩ => .ret (vW .msg fun _ => srvTickX (m ()) (s ()) (t ()) (v ()) (c ()), fun _ => 0)⟩

theorem takeIf {α : Type} (l : List α) : List.drop (Int.toNat 0) (List.take (if (l.length : Int) < 4 then (l.length : Int) else 4).toNat l) = l.take 4 := by
  show List.drop 0 _ = _
  rw [List.drop_zero]
  by_cases h : (l.length : Int) < 4
  · rw [if_pos h, Int.toNat_natCast, List.take_of_length_le (by omega), List.take_of_length_le (by omega)]
  · rw [if_neg h]; rfl
theorem nth_take4 {t : RT} {l : List t.ty} {k : Nat} (h : k < 4) : nth t (l.take 4) k = nth t l k := by
  unfold nth
  grind
theorem tick_hold {m : PMap} {s : Srv} {t : Arb} {c : Int} (ha : srvOk m s = true) (hz : ¬ (holdPlace s.holds c < 0)) : (nth .hld s.holds (holdPlace s.holds c).toNat).state.outs.length = 2 ∧ (nth .hld s.holds (holdPlace s.holds c).toNat).state.wlks.length ≤ 9 ∧ tkTo m t (nth .hld s.holds (holdPlace s.holds c).toNat) c 2 = srvTick m s t c := by
  have hp := hold_lt s.holds c
  have h1 : srvHas s c = true := by simp [srvHas]; omega
  have h2 : srvHold s c = nth .hld s.holds (holdPlace s.holds c).toNat := by unfold srvHold; rw [if_pos (by omega)]
  have h3 := cllOk_facts (hldOk_iff.1 (srv_at ha (show (holdPlace s.holds c).toNat < s.holds.length by omega))).2.2
  refine ⟨h3.2.2.2.2.2.2.1, cllOk_len (hldOk_iff.1 (srv_at ha (show (holdPlace s.holds c).toNat < s.holds.length by omega))).2.2, ?_⟩
  · rw [← h2]; exact tkTo_two h1
theorem tick_none {m : PMap} {s : Srv} {t : Arb} {c : Int} (hz : holdPlace s.holds c < 0) : srvTick m s t c = [] := by
  have h1 : srvHas s c = false := by simp [srvHas]; omega
  unfold srvTick
  rw [h1]; rfl
theorem ncastU (n : Nat) : (NatCast.natCast n : Int) = (n : Int) := rfl
theorem wrap_nat {k : Nat} (h : k ≤ 1000) : (IntKind.i64.wrap ((k : Int) + 1)).toNat = k + 1 := by rw [wrap_succ (by omega)]; rfl
theorem tkP_say {m : PMap} {t : Arb} {h : Hld} {c : Int} {T : List Msg} {i j : Nat} (hj : j < (List.take 4 (nth .pcls h.state.outs i)).length) : T ++ tkP m t h c (i : Int) j ++ [(⟨5, arbServer t (plcSide m c i), plcSide m c i, 1 - (i : Int), 0, ⟨0, 0, 0, 0, 0⟩, nth .pcl (List.take 4 (nth .pcls h.state.outs i)) j, ⟨0, 0, ⟨0, 0, 0, 0, 0⟩⟩⟩ : Msg)] = T ++ tkP m t h c (i : Int) (j + 1) := by
  have h2 : j < 4 ∧ j < (nth .pcls h.state.outs i).length := by rw [List.length_take] at hj; omega
  have h3 : j < (nth .pcls h.state.outs (i : Int).toNat).length := h2.2
  rw [tkP_succ h3, List.append_assoc, nth_take4 h2.1]
  rfl
theorem tkG_say {m : PMap} {t : Arb} {h : Hld} {c : Int} {T : List Msg} {i j : Nat} (hj : j < (List.take 4 (ghosts m h (i : Int))).length) : T ++ tkG m t h c (i : Int) j ++ [(⟨7, arbServer t (plcSide m c i), plcSide m c i, 1 - (i : Int), 0, ⟨0, 0, 0, 0, 0⟩, ⟨0, 0, ⟨0, 0, 0, 0, 0⟩, 0⟩, nth .gst (List.take 4 (ghosts m h (i : Int))) j⟩ : Msg)] = T ++ tkG m t h c (i : Int) (j + 1) := by
  have h2 : j < 4 ∧ j < (ghosts m h (i : Int)).length := by rw [List.length_take] at hj; omega
  rw [tkG_succ h2.2, List.append_assoc, nth_take4 h2.1]
  rfl
theorem okTick : SpecOk1 Tryz.prog 19 sTick := spec1 tabOk (ss := [(22, sHoldPlace), (14, sPlcSide), (42, sArbServer), (43, sGhosts)]) ⟨okHoldAt, okPlcSide, okArbServer, okGhosts, trivial⟩ rfl rfl <| by
  intro (bs : Th (List Int)) (p : Th Int) ⟨(s : Th Srv), (m : Th PMap), (t : Th Arb), (c : Th Int), u⟩ K _ _ ho h
  obtain ⟨s, rfl⟩ := th_ex s; obtain ⟨m, rfl⟩ := th_ex m; obtain ⟨t, rfl⟩ := th_ex t; obtain ⟨c, rfl⟩ := th_ex c
  obtain ⟨ha, h⟩ := h
  have ha : srvOk m s = true := ha.out
  have hp := hold_lt s.holds c
  have hz : ¬ (holdPlace s.holds c < 0) → (nth .hld s.holds (holdPlace s.holds c).toNat).state.outs.length = 2 ∧ (nth .hld s.holds (holdPlace s.holds c).toNat).state.wlks.length ≤ 9 ∧ tkTo m t (nth .hld s.holds (holdPlace s.holds c).toNat) c 2 = srvTick m s t c := fun hz => tick_hold ha hz
  have hz0 : holdPlace s.holds c < 0 → srvTick m s t c = [] := fun hz => tick_none hz
  have hn : ∀ k : Nat, (k : Int) < 2 → IntKind.i64.wrap (1 - (k : Int)) = 1 - (k : Int) := fun k hk => wrap_id (by omega) (by omega)
  refine ⟨annL [(19, 7, ⟨Th Int × Th Bool, [⟨.tmp 11 0, some 500, .msg⟩], fun σ g => (fun (H : Th Hld) => (((σ.only [3, 4, 5, 6, 8, 10]).t 33 (.one (.att (.int .i64 g.1)))).t 11 (vO 500 1)).row 500 1 .msg (fun _ => tkTo m t (nth .hld s.holds (holdPlace s.holds c).toNat) c (g.1 ()).toNat)) (fun _ => zeroH), fun _ g _ => Ob fun _ => 0 ≤ g.1 () ∧ g.1 () ≤ 2 ∧ 0 ≤ holdPlace s.holds c, fun _ g _ => 2 - (g.1 ()).toNat⟩),
    (19, 14, ⟨Th Bool × Th Int, [⟨.tmp 11 0, some 500, .msg⟩], fun σ g => (fun (S : Th Int) => (((σ.only [3, 4, 5, 6, 8, 10, 12, 13, 14, 15, 33, 68, 69]).t 70 (.one (.att (.int .i64 g.2)))).t 11 (vO 500 1)).row 500 1 .msg (fun _ => tkTo m t (nth .hld s.holds (holdPlace s.holds c).toNat) c (S ()).toNat ++ tkP m t (nth .hld s.holds (holdPlace s.holds c).toNat) c (S ()) (g.2 ()).toNat)) (σ.tmI 12), fun σ g _ => Ob ((fun (S : Th Int) => fun _ => 0 ≤ g.2 () ∧ g.2 () ≤ 4 ∧ g.2 () ≤ (nth .pcls (nth .hld s.holds (holdPlace s.holds c).toNat).state.outs (S ()).toNat).length) (σ.tmI 12)), fun _ g _ => 5 - (g.2 ()).toNat⟩),
    (19, 22, ⟨Th Int × Th Int, [⟨.tmp 11 0, some 500, .msg⟩], fun σ g => (fun (S : Th Int) => (((σ.only [3, 4, 5, 6, 8, 10, 12, 13, 14, 15, 33, 91, 92]).t 93 (.one (.att (.int .i64 g.1)))).t 11 (vO 500 1)).row 500 1 .msg (fun _ => tkTo m t (nth .hld s.holds (holdPlace s.holds c).toNat) c (S ()).toNat ++ tkP m t (nth .hld s.holds (holdPlace s.holds c).toNat) c (S ()) 4 ++ tkG m t (nth .hld s.holds (holdPlace s.holds c).toNat) c (S ()) (g.1 ()).toNat)) (σ.tmI 12), fun σ g _ => Ob ((fun (S : Th Int) => fun _ => 0 ≤ g.1 () ∧ g.1 () ≤ 4 ∧ g.1 () ≤ (ghosts m (nth .hld s.holds (holdPlace s.holds c).toNat) (S ())).length) (σ.tmI 12)), fun _ g _ => 5 - (g.1 ()).toNat⟩)], noAnn, 20, ?_⟩
  cbv
  repeat' first | ((with_reducible refine fun (g : Th Int × Th Bool) => ?_); obtain ⟨i, z⟩ := g; obtain ⟨i, rfl⟩ := th_ex i; obtain ⟨z, rfl⟩ := th_ex z; (with_reducible refine ImpB.out ?_); cbv; (with_reducible refine ImpB.mk ?_); intro hq; obtain ⟨hq⟩ := hq; have hq0 := hq.1; obtain ⟨i, rfl⟩ := Int.eq_ofNat_of_zero_le hq0; clear hq0) | ((with_reducible refine fun (g : Th Bool × Th Int) => ?_); obtain ⟨z, j⟩ := g; obtain ⟨z, rfl⟩ := th_ex z; obtain ⟨j, rfl⟩ := th_ex j; (with_reducible refine ImpB.out ?_); cbv; (with_reducible refine ImpB.mk ?_); intro hq; obtain ⟨hq⟩ := hq; have hq0 := hq.1; obtain ⟨j, rfl⟩ := Int.eq_ofNat_of_zero_le hq0; clear hq0) | ((with_reducible refine fun (g : Th Int × Th Int) => ?_); obtain ⟨k, z⟩ := g; obtain ⟨k, rfl⟩ := th_ex k; obtain ⟨z, rfl⟩ := th_ex z; (with_reducible refine ImpB.out ?_); cbv; (with_reducible refine ImpB.mk ?_); intro hq; obtain ⟨hq⟩ := hq; have hq0 := hq.1; obtain ⟨k, rfl⟩ := Int.eq_ofNat_of_zero_le hq0; clear hq0) | ((with_reducible intro _); cbv) | ((with_reducible show _ ∧ _); (with_reducible apply And.intro))
  all_goals try ((first | (with_reducible refine LoopIn.wf (fun σ => (σ.tmI 33, noBool)) ?_ ?_) | (with_reducible refine LoopBack.wf (fun σ => (σ.tmI 33, noBool)) ?_ ?_ ?_) | (with_reducible refine LoopIn.wf (fun σ => (noBool, σ.tmI 70)) ?_ ?_) | (with_reducible refine LoopBack.wf (fun σ => (noBool, σ.tmI 70)) ?_ ?_ ?_) | (with_reducible refine LoopIn.wf (fun σ => (σ.tmI 93, noInt)) ?_ ?_) | (with_reducible refine LoopBack.wf (fun σ => (σ.tmI 93, noInt)) ?_ ?_ ?_)) <;> cbv)
  all_goals try (with_reducible show _ ∧ _; (try simp only [and_true, true_and]))
  all_goals try (with_reducible show _ ∧ _; (repeat' (with_reducible apply And.intro)))
  all_goals try (with_reducible refine MeasB.mk ?_)
  all_goals first | (refine retK h ?_; clear h; simp only [fin0]) | (with_reducible refine Ob.mk ?_; clear h) | (clear h)
  all_goals (try simp only [eta0, RT.bytes] at *)
  all_goals (try dsimp only [RT.ty] at *)
  all_goals (try simp only [takeIf, Int.toNat_natCast] at *)
  all_goals (try simp only [ncastU] at *)
  all_goals (try simp (disch := assumption) only [hn])
  all_goals (first | omega | (simp (disch := omega) only [wrap_nat]; first | exact tkP_say ‹_› | exact tkG_say ‹_›) | grind [wrap_succ, tkTo_zero, tkTo_skip, tkTo_say, tkP_zero, tkP_succ, tkP_end, tkG_zero, tkG_succ, tkG_end, tkP_len, tkG_len, tkTo_len, zeroOrd, zeroPcl, zeroGst, nth_take4])
theorem okSrvTickI : SpecOk1 Tryz.prog 5 sSrvTickI := spec1 tabOk (ss := [(11, sSrvOk), (18, sArbOk), (19, sTick)]) ⟨okSrvOk, okArbOk, okTick, trivial⟩ rfl rfl <| by
  intro (bs : Th (List Int)) (p : Th Int) ⟨(m : Th PMap), (s : Th Srv), (t : Th Arb), (v : Th Int), (c : Th Int), u⟩ K _ _ ho h
  obtain ⟨m, rfl⟩ := th_ex m; obtain ⟨s, rfl⟩ := th_ex s; obtain ⟨t, rfl⟩ := th_ex t; obtain ⟨v, rfl⟩ := th_ex v; obtain ⟨c, rfl⟩ := th_ex c
  refine ⟨noAnn, noAnn, 20, ?_⟩
  cbv
  repeat' first | ((with_reducible refine fun (k : Nat) => ?_); cbv) | ((with_reducible refine fun (q : Nat × Unit) => ?_); obtain ⟨s, _⟩ := q; cbv) | ((with_reducible refine fun (q : Nat × Nat) => ?_); obtain ⟨s, k⟩ := q; cbv) | ((with_reducible intro _); cbv) | ((with_reducible show _ ∧ _); (with_reducible apply And.intro))
  all_goals first | (refine retK h ?_; clear h; simp only [fin0]) | (with_reducible refine Ob.mk ?_; clear h) | (clear h)
  all_goals (try simp only [eta0, RT.bytes] at *)
  all_goals grind [srvTickX]
end Go.Proofs.YtmonhpdodgonbaaGreat
