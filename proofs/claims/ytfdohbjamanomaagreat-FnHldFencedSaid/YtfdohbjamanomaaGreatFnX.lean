/-
  Contracts: a parcel that comes into a cell.
-/
import Derived.Test.YtfdohbjamanomaaGreatFnFb
import Derived.Test.YtfdohbjamanomaaGreatFnK
import Derived.Test.YtfdohbjamanomaaGreatFnR
set_option linter.unusedVariables false
set_option linter.unusedSimpArgs false
namespace Go.Proofs.YtfdohbjamanomaaGreat
open Go.Sx Go.Proofs Go.Mo
set_option maxRecDepth 100000
set_option maxHeartbeats 8000000
set_option linter.unusedSimpArgs false
set_option linter.unusedVariables false

theorem okCllIn : SpecOk1 Tryz.prog 22 sCllIn := spec1 tabOk (ss := [(27, sCllOk), (60, sPclOk), (71, sPlcSide), (52, sCloneC), (112, sPlace), (81, sPlcCell), (119, sWlkPut)]) ⟨okCllOk, okPclOk, okPlcSide, okCloneC, okPlace, okPlcCell, okWlkPut, trivial⟩ rfl rfl <| by
  intro (bs : Th (List Int)) (p : Th Int) ⟨(m : Th PMap), (c : Th Cll), (s : Th Int), (p : Th Pcl), u⟩ K _ _ ho h
  obtain ⟨m, rfl⟩ := th_ex m; obtain ⟨c, rfl⟩ := th_ex c; obtain ⟨s, rfl⟩ := th_ex s; obtain ⟨p, rfl⟩ := th_ex p
  refine ⟨noAnn, noAnn, 20, ?_⟩
  have hps := @plcSide_ne m c.cell s
  have hf := @cllOk_facts m c
  have hlen := @cllOk_len m c
  have hsd := fun h => @cllOk_side m c h s.toNat
  have hpc : pclOk m p = true → 0 ≤ p.n ∧ p.n ≤ 4999 ∧ (p.kind = 1 ∧ p.coins = 0 ∨ p.kind = 2 ∧ 1 ≤ p.coins ∧ p.coins ≤ 9) := by
    intro this
    simp [pclOk] at this
    omega
  cbv
  repeat' first | ((with_reducible refine fun (k : Nat) => ?_); cbv) | ((with_reducible refine fun (q : Nat × Unit) => ?_); obtain ⟨s, _⟩ := q; cbv) | ((with_reducible refine fun (q : Nat × Nat) => ?_); obtain ⟨s, k⟩ := q; cbv) | ((with_reducible intro _); cbv) | ((with_reducible show _ ∧ _); (with_reducible apply And.intro))
  all_goals first | (refine retK h ?_; clear h; simp only [fin0]) | (with_reducible refine Ob.mk ?_; clear h) | (clear h)
  all_goals (try simp only [eta0, RT.bytes] at *)
  all_goals (try have hwg := gwrap (c := c) (p := p) (by assumption) (by assumption))
  all_goals (try simp only [hwg] at *)
  all_goals grind [cllInX, zeroC, cllRecv, insNext, wrap_id, setNth_app]

end Go.Proofs.YtfdohbjamanomaaGreat

/-
  Contracts: what is drawn: records that a cell takes, one of which may not fit.
-/
namespace Go.Proofs.YtfdohbjamanomaaGreat
open Go.Sx Go.Proofs Go.Mo
set_option maxRecDepth 100000
set_option maxHeartbeats 8000000
set_option linter.unusedSimpArgs false
set_option linter.unusedVariables false

noncomputable def sAnyRec : Sx.Spec := ⟨true, false, [.map, .row .cll, .int .i64], [], fun _ p ⟨m, c, n, _⟩ => .asrt (fun _ => 0 ≤ p () ∧ p () ≤ 1000000000000) (.all Int fun x0 => .all Int fun x1 => .all Int fun x2 => .all Int fun x3 => .all Int fun x4 => .all Int fun x5 => .all Int fun x6 => .all Int fun x7 => .all Int fun x8 => .all Int fun x9 => .all Int fun x10 => .all Int fun x11 => .all Int fun x12 => .all Int fun x13 => .all Int fun x14 => .all Int fun x15 => .all Int fun q => .asm (fun _ => p () ≤ q ∧ q ≤ p () + 200) (.ret (.agg [cI x0, cI x1, cI x2, cI x3, cI x4, cI x5, cI x6, cI x7, cI x8, cI x9, cI x10, cI x11, cI x12, cI x13, cI x14, cI x15], fun _ => q)))⟩
noncomputable def sPlaysO : Sx.Spec := ⟨true, true, [.map, .row .cll, .int .i64], [[some .rcd], nCll], fun _ p ⟨m, c0, n, _⟩ => .asrt (fun _ => 0 ≤ p () ∧ p () ≤ 999999990000 ∧ n () ≤ 30) (.all (List Sx.Rec) fun l => .all Int fun a => .all (List Wlk) fun b => .all Int fun c => .all (List (List Pcl)) fun d => .all (List Int) fun e => .all (List Int) fun f => .all Int fun q => .asm (fun _ => p () ≤ q ∧ q ≤ p () + 1800 ∧ l.length ≤ 30 ∧ (small (c0 ()).wlks (c0 ()).outs → small b d)) (.ret (.tup [vW .rcd fun _ => l, rC a b c d e f], fun _ => q)))⟩
noncomputable def sDrawFold : Sx.Spec := ⟨false, false, [.list .byte], [[none, none], nCll, [some .rcd]], fun _ _ _ => .all Int fun x => .all Int fun y => .all Int fun a => .all (List Wlk) fun b => .all Int fun c => .all (List (List Pcl)) fun d => .all (List Int) fun e => .all (List Int) fun f => .all (List Sx.Rec) fun l => .ret (.tup [.agg [cI x, cI y], rC a b c d e f, vL .rcd fun _ => l], fun _ => 0)⟩

theorem okAnyRec : SpecOk1 Tryz.prog 51 sAnyRec := spec1 tabOk (ss := [(96, sRecOf), (75, sPick), (97, sAnyOrder), (98, sAnyParcel)]) ⟨okRecOf, okPick, okAnyOrder, okAnyParcel, trivial⟩ rfl rfl <| by
  intro (bs : Th (List Int)) (p : Th Int) ⟨(m : Th PMap), (c : Th Cll), (n : Th Int), u⟩ K hb hp0 ho h
  obtain ⟨m, rfl⟩ := th_ex m; obtain ⟨c, rfl⟩ := th_ex c; obtain ⟨n, rfl⟩ := th_ex n; obtain ⟨bs, rfl⟩ := th_ex bs; obtain ⟨p, rfl⟩ := th_ex p
  obtain ⟨hpre, h⟩ := h
  have hpre : 0 ≤ p ∧ p ≤ 1000000000000 := hpre.out
  refine ⟨noAnn, noAnn, 20, ?_⟩
  cbv
  repeat' first | ((with_reducible refine fun (k : Nat) => ?_); cbv) | ((with_reducible refine fun (q : Nat × Unit) => ?_); obtain ⟨s, _⟩ := q; cbv) | ((with_reducible refine fun (q : Nat × Nat) => ?_); obtain ⟨s, k⟩ := q; cbv) | ((with_reducible intro _); cbv) | ((with_reducible show _ ∧ _); (with_reducible apply And.intro))
  all_goals first | (refine retK (h _ _ _ _ _ _ _ _ _ _ _ _ _ _ _ _ _ ?_) rfl; clear h) | (with_reducible refine Ob.mk ?_; clear h) | (clear h)
  all_goals (try simp only [eta0, RT.bytes] at *)
  all_goals first | omega | grind [wrap_id]
theorem okPlaysO : SpecOk1 Tryz.prog 74 sPlaysO := spec1 tabOk (ss := [(18, sCllOk), (121, sRec), (14, sLogApply)]) ⟨okSCllOk, okRec, okSLogApply, trivial⟩ rfl rfl <| by
  intro (bs : Th (List Int)) (p : Th Int) ⟨(m : Th PMap), (c : Th Cll), (n : Th Int), u⟩ K hb hp0 ho h
  obtain ⟨m, rfl⟩ := th_ex m; obtain ⟨c, rfl⟩ := th_ex c; obtain ⟨n, rfl⟩ := th_ex n; obtain ⟨bs, rfl⟩ := th_ex bs; obtain ⟨p, rfl⟩ := th_ex p
  obtain ⟨hpre, h⟩ := h
  have hpre : 0 ≤ p ∧ p ≤ 999999990000 ∧ n ≤ 30 := hpre.out
  refine ⟨annL [(74, 2, ⟨List Sx.Rec × Cll × Int × Int, [⟨.tmp 10 0, some 16, .rcd⟩, ⟨.cell 7 1, none, .wlk⟩, ⟨.cell 7 3, none, .pcls⟩, ⟨.cell 7 4, none, .int⟩, ⟨.cell 7 5, none, .int⟩],
    fun σ g => St.rcll ((((((σ.fgs [16]).t 3 (vI fun _ => g.2.2.1)).t 10 (vO 16 1)).row 16 1 .rcd (fun _ => g.1)).cellC 0 1 (.att (.int .i64 fun _ => g.2.2.2)))) 7 (fun _ => g.2.1),
    fun _ g _ => g.2.2.1 ≤ 30 ∧ (small c.wlks c.outs → small g.2.1.wlks g.2.1.outs) ∧ (g.2.2.1 < 0 ∧ g.1.length = 0 ∧ g.2.2.2 = p ∨ 0 ≤ g.2.2.1 ∧ (g.1.length : Int) ≤ 30 - g.2.2.1 ∧ p ≤ g.2.2.2 ∧ g.2.2.2 ≤ p + 60 * (30 - g.2.2.1)), fun _ g _ => g.2.2.1.toNat⟩)], noAnn, 20, ?_⟩
  cbv
  repeat' first | ((with_reducible refine fun (k : Nat) => ?_); cbv) | ((with_reducible refine fun (g : List Sx.Rec × Cll × Int × Int) => ?_); obtain ⟨gl, gc, gn, gq⟩ := g; cbv) | ((with_reducible intro _); cbv) | ((with_reducible show _ ∧ _); (with_reducible apply And.intro))
  all_goals try (first | (with_reducible refine LoopIn.mk (([], c, n, p) : List Sx.Rec × Cll × Int × Int) ?_ ?_) |
    (rename_i r0 r1 r2 r3 r4 r5 r6 r7 r8 r9 r10 r11 r12 r13 r14 r15 q1 hq hok; have hok : (cllApplyX m gc ⟨r0, ⟨r1, r2, r3, r4, r5⟩, r6, ⟨r7, r8, ⟨r9, r10, r11, r12, r13⟩, r14⟩, r15⟩).ok = true := hok; obtain ⟨L, hL⟩ : ∃ L, L = gl ++ [(⟨r0, ⟨r1, r2, r3, r4, r5⟩, r6, ⟨r7, r8, ⟨r9, r10, r11, r12, r13⟩, r14⟩, r15⟩ : Sx.Rec)] := ⟨_, rfl⟩; obtain ⟨X, hX⟩ : ∃ X, X = (cllApplyX m gc ⟨r0, ⟨r1, r2, r3, r4, r5⟩, r6, ⟨r7, r8, ⟨r9, r10, r11, r12, r13⟩, r14⟩, r15⟩).c := ⟨_, rfl⟩; obtain ⟨g1, hg1⟩ : ∃ g1, g1 = gn - 1 := ⟨_, rfl⟩; with_reducible refine LoopBack.mk ((L, X, g1, q1) : List Sx.Rec × Cll × Int × Int) ?_ ?_ ?_) |
    (rename_i r0 r1 r2 r3 r4 r5 r6 r7 r8 r9 r10 r11 r12 r13 r14 r15 q1 hq hok; obtain ⟨g1, hg1⟩ : ∃ g1, g1 = gn - 1 := ⟨_, rfl⟩; with_reducible refine LoopBack.mk ((gl, gc, g1, q1) : List Sx.Rec × Cll × Int × Int) ?_ ?_ ?_))
  all_goals try ((first | (with_reducible refine LoopIn.mk ((0 : Nat)) ?_ ?_) | (with_reducible refine LoopBack.mk ((0 : Nat)) ?_ ?_ ?_)) )
  all_goals try ((with_reducible show matchSt _ _); cbv; (try simp only [and_true, true_and]))
  all_goals try (with_reducible show _ ∧ _; (repeat' (with_reducible apply And.intro)))
  all_goals first | (refine retK (h _ _ _ _ _ _ _ _ ?_) rfl; clear h) | (with_reducible refine Ob.mk ?_; clear h) | (clear h)
  all_goals (try simp only [eta0, RT.bytes] at *)
  all_goals (try subst hL)
  all_goals (try subst hX)
  all_goals first | omega | rfl | grind [wrap_id, small_apply]
theorem okDrawFold : SpecOk1 Tryz.prog 24 sDrawFold := spec1 tabOk (ss := [(50, sAnyCell), (75, sPick), (74, sPlaysO), (51, sAnyRec)]) ⟨okAnyCell, okPick, okPlaysO, okAnyRec, trivial⟩ rfl rfl <| by
  intro (bs : Th (List Int)) (p : Th Int) ⟨(l : Th (List Int)), u⟩ K hb hp0 ho h
  obtain ⟨l, rfl⟩ := th_ex l
  refine ⟨noAnn, noAnn, 20, ?_⟩
  cbv
  repeat' first | ((with_reducible refine fun (k : Nat) => ?_); cbv) | ((with_reducible refine fun (q : Nat × Unit) => ?_); obtain ⟨s, _⟩ := q; cbv) | ((with_reducible refine fun (q : Nat × Nat) => ?_); obtain ⟨s, k⟩ := q; cbv) | ((with_reducible intro _); cbv) | ((with_reducible show _ ∧ _); (with_reducible apply And.intro))
  all_goals first | (refine retK (h _ _ _ _ _ _ _ _ _) rfl; clear h) | (refine retK (h _ _ _ _ _ _ _ _ _) rfl) | (with_reducible refine Ob.mk ?_; clear h) | (clear h)
  all_goals (try simp only [eta0, RT.bytes] at *)
  all_goals (try simp only [List.length_take] at *)
  all_goals first | omega | grind [wrap_id]

end Go.Proofs.YtfdohbjamanomaaGreat
