/-
  Contracts: how much came in, told of lists that fit; results that fit.
-/
import Derived.Test.YtjgijoageljjgaaGreatFpC
import Derived.Test.YtjgijoageljjgaaGreatFpN
import Derived.Test.YtjgijoageljjgaaGreatM2
set_option linter.unusedVariables false
set_option linter.unusedSimpArgs false
namespace Go.Mo
open Go.Sx
def cntX (c : Cll) : Nat := c.wlks.length + (c.outs.length + pcnt c.outs) + c.next.length + c.ins.length
def cntT (s : Sto) : Nat := cntX s.base + s.recs.length
theorem cntX_fit {c : Cll} {n : Nat} (h : cntX c ≤ n) (hn : n ≤ 1048576) : fitX c := by
  unfold cntX at h
  exact ⟨by omega, by omega, by omega, by omega, by omega⟩
theorem zeroC_fit : fitX zeroC := ⟨by simp [zeroC], by simp [zeroC], by simp [zeroC, pcnt], by simp [zeroC], by simp [zeroC]⟩
theorem ok_fit {m : PMap} {c : Cll} (h : cllOk m c = true) : fitX c := by
  have h1 := small_ok h
  obtain ⟨_, _, _, _, _, _, f1, f2, f3⟩ := cllOk_facts h
  obtain ⟨w, o⟩ := h1
  refine ⟨by omega, by omega, ?_, by omega, by omega⟩
  have h3 := pcnt_bound (n := 5000) (l := c.outs) (fun x hx => by
    obtain ⟨i, hi, rfl⟩ := List.getElem_of_mem hx
    have := o i
    simpa [nth, List.getD, hi] using this)
  omega
theorem apX_fit (m : PMap) (c : Cll) (r : Sx.Rec) : fitX (cllApplyX m c r).c := by
  unfold cllApplyX
  split
  · rename_i h
    exact ok_fit (cllApply_ok h.1 h.2)
  · exact zeroC_fit
theorem lf_fit (m : PMap) (c : Cll) (l : List Sx.Rec) : fitX (logFold m c l).c := by
  by_cases h : cllOk m c = true ∧ l.length ≤ 250
  · exact ok_fit (lf_ok h.1 h.2)
  · rw [logFold, if_neg h]
    exact zeroC_fit
theorem state_fit (m : PMap) (s : Sto) : fitX (stoStateX m s) := by
  unfold stoStateX
  split
  · rename_i h
    exact ok_fit (state_ok h)
  · exact zeroC_fit
theorem endC_ge (k : Int) (c : Cll) : k ≤ endC k c := by unfold endC endI endP endW; omega
theorem endS_ge (k : Int) (s : Sto) : k ≤ endS k s := by
  have := endC_ge k s.base
  unfold endS endR
  omega
theorem endR_ge (k : Int) (l : List Sx.Rec) : k ≤ endR k l := by unfold endR; omega
theorem endC_le {k : Int} {c : Cll} (h : fitX c) : endC k c ≤ k + 140737530298368 := by
  have h1 := h.w
  have h2 := h.p
  have h3 := h.n
  have h4 := h.i
  unfold endC endI endP endW
  omega
theorem eta_markC (k : Int) (x : Cll) : (⟨x.cell, (markC k x).wlks, x.ground, (markC k x).outs, (markC k x).next, (markC k x).ins⟩ : Cll) = markC k x := rfl
theorem eta_markS (k : Int) (x : Sto) : (⟨x.age, ⟨x.base.cell, (markS k x).base.wlks, x.base.ground, (markS k x).base.outs, (markS k x).base.next, (markS k x).base.ins⟩, (markS k x).recs⟩ : Sto) = markS k x := rfl
theorem eta_markH (k : Int) (x : Hld) : (⟨x.age, x.count, ⟨x.state.cell, (markH k x).state.wlks, x.state.ground, (markH k x).state.outs, (markH k x).state.next, (markH k x).state.ins⟩⟩ : Hld) = markH k x := rfl
theorem eta_markSb (k : Int) (x : Sto) : (⟨x.base.cell, (markS k x).base.wlks, x.base.ground, (markS k x).base.outs, (markS k x).base.next, (markS k x).base.ins⟩ : Cll) = (markS k x).base := rfl
theorem eta_markSs (k : Int) (x : Sto) : (⟨x.age, (markS k x).base, (markS k x).recs⟩ : Sto) = markS k x := rfl
theorem eta_markHb (k : Int) (x : Hld) : (⟨x.state.cell, (markH k x).state.wlks, x.state.ground, (markH k x).state.outs, (markH k x).state.next, (markH k x).state.ins⟩ : Cll) = (markH k x).state := rfl
theorem eta_markHs (k : Int) (x : Hld) : (⟨x.age, x.count, (markH k x).state⟩ : Hld) = markH k x := rfl
theorem markH_state (k : Int) (x : Hld) : (markH k x).state = markC k x.state := rfl
structure fitT (s : Sto) : Prop where
  b : fitX s.base
  r : s.recs.length ≤ 4194304
theorem markS_fit {k : Int} {s : Sto} (h : fitT s) : fitT (markS k s) := ⟨markC_fit h.b, by
  show (markR _ s.recs).length ≤ _
  rw [markR_len]
  exact h.r⟩
theorem cntT_fit {s : Sto} {n : Nat} (h : cntT s ≤ n) (hn : n ≤ 1048576) : fitT s := by
  unfold cntT at h
  exact ⟨cntX_fit (n := n) (by omega) hn, by omega⟩
theorem zeroS_fit : fitT zeroS := ⟨zeroC_fit, by simp [zeroS]⟩
theorem sto_fit {m : PMap} {s : Sto} (h : stoOk m s = true) : fitT s := by
  have h1 := stoOk_iff.1 h
  exact ⟨ok_fit h1.2.1, by omega⟩
theorem fence_fit (m : PMap) (s : Sto) (a : Int) : fitT (stoFence m s a).s := by
  unfold stoFence
  split
  · rename_i h
    have h1 := sto_fit h.1
    split
    · exact h1
    · exact ⟨h1.1, h1.2⟩
  · exact zeroS_fit
theorem append_fit (m : PMap) (s : Sto) (a b : Int) (r : Sx.Rec) : fitT (stoAppend m s a b r).s := by
  unfold stoAppend
  split
  · rename_i h
    exact sto_fit (add_ok h)
  · exact zeroS_fit
theorem open_fitS (m : PMap) (s : Sto) (a : Int) : fitT (hldOpen m s a).s := by
  unfold hldOpen
  split
  · rename_i h
    have h1 := sto_fit h.1
    split
    · exact h1
    · exact ⟨h1.1, h1.2⟩
  · exact zeroS_fit
theorem open_fitH (m : PMap) (s : Sto) (a : Int) : fitX (hldOpen m s a).h.state := by
  unfold hldOpen
  split
  · rename_i h
    split
    · exact zeroC_fit
    · exact ok_fit (state_ok h.1)
  · exact zeroC_fit
theorem write_fitS (m : PMap) (h : Hld) (s : Sto) (r : Sx.Rec) : fitT (hldWrite m h s r).s := by
  unfold hldWrite
  split
  · rename_i hh
    split
    · exact sto_fit hh.2
    split
    · exact sto_fit hh.2
    · exact sto_fit (add_ok hh.2)
  · exact zeroS_fit
theorem write_fitH (m : PMap) (h : Hld) (s : Sto) (r : Sx.Rec) : fitX (hldWrite m h s r).h.state := by
  unfold hldWrite
  split
  · rename_i hh
    have h1 := ok_fit (hldOk_iff.1 hh.1).2.2
    split
    · exact h1
    split
    · exact h1
    · rename_i hn _
      have h2 : logOk m r = true := by
        rcases add_cases m s h.age h.count r with ⟨_, h2⟩ | ⟨_, _, _, _, _, h6, _⟩
        · omega
        · exact h6
      exact ok_fit (cllApply_ok (hldOk_iff.1 hh.1).2.2 h2)
  · exact zeroC_fit
end Go.Mo
namespace Go.Proofs.YtjgijoageljjgaaGreat
open Go.Sx Go.Proofs Go.Mo
set_option maxRecDepth 100000
set_option maxHeartbeats 8000000
set_option linter.unusedSimpArgs false
set_option linter.unusedVariables false

noncomputable def sCn (p : PT) (cnt : p.ty → Nat) : Sx.Spec := ⟨false, true, [p, .int .i64], [], fun _ _ ⟨l, n, _⟩ => .asrt (fun _ => 0 ≤ n () ∧ n () ≤ 1048576) (.ret (vI fun _ => szN (cnt (l ())) (n ()), fun _ => 0))⟩
noncomputable abbrev sCnW := sCn (.list .wlk) List.length
noncomputable abbrev sCnI := sCn (.list .int) List.length
noncomputable abbrev sCnR := sCn (.list .rcd) List.length
noncomputable abbrev sCnP := sCn (.list .pcl) List.length
noncomputable abbrev sCnQ := sCn (.list .pcls) fun l => l.length + pcnt l
noncomputable abbrev sCnC := sCn (.row .cll) cntX
noncomputable abbrev sCnS := sCn (.row .sto) cntT
noncomputable abbrev sCnH := sCn (.row .hld) fun h => cntX h.state

theorem okCnW : SpecOk1 Tryz.prog 53 sCnW := spec1 tabOk (ss := []) trivial rfl rfl <| by
  intro (bs : Th (List Int)) (p : Th Int) ⟨(l : Th (List Wlk)), (n : Th Int), u⟩ K _ _ ho h
  obtain ⟨l, rfl⟩ := th_ex l; obtain ⟨n, rfl⟩ := th_ex n
  have hl := okL (ho.1 _ (.head _))
  obtain ⟨ha, h⟩ := h
  have ha := ha.out
  refine ⟨noAnn, noAnn, 20, ?_⟩
  cbv
  repeat' first | ((with_reducible refine fun (k : Nat) => ?_); cbv) | ((with_reducible refine fun (q : Nat × Unit) => ?_); obtain ⟨s, _⟩ := q; cbv) | ((with_reducible refine fun (q : Nat × Nat) => ?_); obtain ⟨s, k⟩ := q; cbv) | ((with_reducible intro _); cbv) | ((with_reducible show _ ∧ _); (with_reducible apply And.intro))
  all_goals first | (refine retK h ?_; clear h; simp only [fin0]) | (with_reducible refine Ob.mk ?_; clear h) | (clear h)
  all_goals (try simp only [eta0, RT.bytes] at *)
  all_goals grind [szN, wrap_id]
theorem okCnI : SpecOk1 Tryz.prog 55 sCnI := spec1 tabOk (ss := []) trivial rfl rfl <| by
  intro (bs : Th (List Int)) (p : Th Int) ⟨(l : Th (List Int)), (n : Th Int), u⟩ K _ _ ho h
  obtain ⟨l, rfl⟩ := th_ex l; obtain ⟨n, rfl⟩ := th_ex n
  have hl := okL (ho.1 _ (.head _))
  obtain ⟨ha, h⟩ := h
  have ha := ha.out
  refine ⟨noAnn, noAnn, 20, ?_⟩
  cbv
  repeat' first | ((with_reducible refine fun (k : Nat) => ?_); cbv) | ((with_reducible refine fun (q : Nat × Unit) => ?_); obtain ⟨s, _⟩ := q; cbv) | ((with_reducible refine fun (q : Nat × Nat) => ?_); obtain ⟨s, k⟩ := q; cbv) | ((with_reducible intro _); cbv) | ((with_reducible show _ ∧ _); (with_reducible apply And.intro))
  all_goals first | (refine retK h ?_; clear h; simp only [fin0]) | (with_reducible refine Ob.mk ?_; clear h) | (clear h)
  all_goals (try simp only [eta0, RT.bytes] at *)
  all_goals grind [szN, wrap_id]
theorem okCnR : SpecOk1 Tryz.prog 25 sCnR := spec1 tabOk (ss := []) trivial rfl rfl <| by
  intro (bs : Th (List Int)) (p : Th Int) ⟨(l : Th (List Sx.Rec)), (n : Th Int), u⟩ K _ _ ho h
  obtain ⟨l, rfl⟩ := th_ex l; obtain ⟨n, rfl⟩ := th_ex n
  have hl := okL (ho.1 _ (.head _))
  obtain ⟨ha, h⟩ := h
  have ha := ha.out
  refine ⟨noAnn, noAnn, 20, ?_⟩
  cbv
  repeat' first | ((with_reducible refine fun (k : Nat) => ?_); cbv) | ((with_reducible refine fun (q : Nat × Unit) => ?_); obtain ⟨s, _⟩ := q; cbv) | ((with_reducible refine fun (q : Nat × Nat) => ?_); obtain ⟨s, k⟩ := q; cbv) | ((with_reducible intro _); cbv) | ((with_reducible show _ ∧ _); (with_reducible apply And.intro))
  all_goals first | (refine retK h ?_; clear h; simp only [fin0]) | (with_reducible refine Ob.mk ?_; clear h) | (clear h)
  all_goals (try simp only [eta0, RT.bytes] at *)
  all_goals grind [szN, wrap_id]
theorem okCnP : SpecOk1 Tryz.prog 97 sCnP := spec1 tabOk (ss := []) trivial rfl rfl <| by
  intro (bs : Th (List Int)) (p : Th Int) ⟨(l : Th (List Pcl)), (n : Th Int), u⟩ K _ _ ho h
  obtain ⟨l, rfl⟩ := th_ex l; obtain ⟨n, rfl⟩ := th_ex n
  have hl := okL (ho.1 _ (.head _))
  obtain ⟨ha, h⟩ := h
  have ha := ha.out
  refine ⟨noAnn, noAnn, 20, ?_⟩
  cbv
  repeat' first | ((with_reducible refine fun (k : Nat) => ?_); cbv) | ((with_reducible refine fun (q : Nat × Unit) => ?_); obtain ⟨s, _⟩ := q; cbv) | ((with_reducible refine fun (q : Nat × Nat) => ?_); obtain ⟨s, k⟩ := q; cbv) | ((with_reducible intro _); cbv) | ((with_reducible show _ ∧ _); (with_reducible apply And.intro))
  all_goals first | (refine retK h ?_; clear h; simp only [fin0]) | (with_reducible refine Ob.mk ?_; clear h) | (clear h)
  all_goals (try simp only [eta0, RT.bytes] at *)
  all_goals grind [szN, wrap_id]
theorem okCnQ : SpecOk1 Tryz.prog 54 sCnQ := spec1 tabOk (ss := [(97, sCnP)]) ⟨okCnP, trivial⟩ rfl rfl <| by
  intro (bs : Th (List Int)) (p : Th Int) ⟨(l : Th (List (List Pcl))), (n : Th Int), u⟩ K _ _ ho h
  obtain ⟨l, rfl⟩ := th_ex l; obtain ⟨n, rfl⟩ := th_ex n
  have hl := okL (ho.1 _ (.head _))
  obtain ⟨ha, h⟩ := h
  have ha := ha.out
  have hle : ∀ k, k < l.length → pcTo l k + (nth .pcls l k).length ≤ pcnt l := fun k hk => pcTo_in hk
  obtain ⟨Z, hZ⟩ : ∃ Z : Int, Z = n - l.length := ⟨_, rfl⟩
  obtain ⟨S, hS⟩ : ∃ S : Nat → Int → Int, ∀ k r, S k r = r - (nth .pcls l k).length := ⟨fun k r => r - (nth .pcls l k).length, fun _ _ => rfl⟩
  refine ⟨annL [(54, 5, ⟨Nat × Int, [], fun σ q => (σ.t 5 (vI fun _ => (q.1 : Int))).t 1 (vI fun _ => q.2), fun _ q _ => q.1 ≤ l.length ∧ 0 ≤ q.2 ∧ q.2 + l.length + pcTo l q.1 = n, fun _ q _ => l.length - q.1⟩)], noAnn, 20, ?_⟩
  cbv
  repeat' first | ((with_reducible refine fun (k : Nat) => ?_); cbv) | ((with_reducible refine fun (g : Nat × Int) => ?_); obtain ⟨k, r⟩ := g; cbv) | ((with_reducible intro _); cbv) | ((with_reducible show _ ∧ _); (with_reducible apply And.intro))
  all_goals try ((first | (with_reducible refine LoopIn.mk (((0 : Nat), Z)) ?_ ?_) | (with_reducible refine LoopBack.mk ((k + 1, S k r)) ?_ ?_ ?_)) )
  all_goals try ((with_reducible show matchSt _ _); cbv; (try simp only [and_true, true_and]))
  all_goals try (with_reducible show _ ∧ _; (repeat' (with_reducible apply And.intro)))
  all_goals first | (refine retK h ?_; clear h; simp only [fin0]) | (with_reducible refine Ob.mk ?_; clear h) | (clear h)
  all_goals (try simp only [eta0, RT.bytes] at *)
  all_goals grind [szN, wrap_id, wrap_succ, pcTo_zero, pcTo_succ, pcTo_all]
theorem okCnC : SpecOk1 Tryz.prog 17 sCnC := spec1 tabOk (ss := [(53, sCnW), (54, sCnQ), (55, sCnI)]) ⟨okCnW, okCnQ, okCnI, trivial⟩ rfl rfl <| by
  intro (bs : Th (List Int)) (p : Th Int) ⟨(c : Th Cll), (n : Th Int), u⟩ K _ _ ho h
  obtain ⟨c, rfl⟩ := th_ex c; obtain ⟨n, rfl⟩ := th_ex n
  obtain ⟨ha, h⟩ := h
  have ha := ha.out
  refine ⟨noAnn, noAnn, 20, ?_⟩
  cbv
  repeat' first | ((with_reducible refine fun (k : Nat) => ?_); cbv) | ((with_reducible refine fun (q : Nat × Unit) => ?_); obtain ⟨s, _⟩ := q; cbv) | ((with_reducible refine fun (q : Nat × Nat) => ?_); obtain ⟨s, k⟩ := q; cbv) | ((with_reducible intro _); cbv) | ((with_reducible show _ ∧ _); (with_reducible apply And.intro))
  all_goals first | (refine retK h ?_; clear h; simp only [fin0]) | (with_reducible refine Ob.mk ?_; clear h) | (clear h)
  all_goals (try simp only [eta0, RT.bytes] at *)
  all_goals grind [szN, cntX]
theorem okCnS : SpecOk1 Tryz.prog 11 sCnS := spec1 tabOk (ss := [(17, sCnC), (25, sCnR)]) ⟨okCnC, okCnR, trivial⟩ rfl rfl <| by
  intro (bs : Th (List Int)) (p : Th Int) ⟨(c : Th Sto), (n : Th Int), u⟩ K _ _ ho h
  obtain ⟨c, rfl⟩ := th_ex c; obtain ⟨n, rfl⟩ := th_ex n
  obtain ⟨ha, h⟩ := h
  have ha := ha.out
  refine ⟨noAnn, noAnn, 20, ?_⟩
  cbv
  repeat' first | ((with_reducible refine fun (k : Nat) => ?_); cbv) | ((with_reducible refine fun (q : Nat × Unit) => ?_); obtain ⟨s, _⟩ := q; cbv) | ((with_reducible refine fun (q : Nat × Nat) => ?_); obtain ⟨s, k⟩ := q; cbv) | ((with_reducible intro _); cbv) | ((with_reducible show _ ∧ _); (with_reducible apply And.intro))
  all_goals first | (refine retK h ?_; clear h; simp only [fin0]) | (with_reducible refine Ob.mk ?_; clear h) | (clear h)
  all_goals (try simp only [eta0, RT.bytes] at *)
  all_goals grind [szN, cntT, cntX]
theorem okCnH : SpecOk1 Tryz.prog 44 sCnH := spec1 tabOk (ss := [(17, sCnC)]) ⟨okCnC, trivial⟩ rfl rfl <| by
  intro (bs : Th (List Int)) (p : Th Int) ⟨(c : Th Hld), (n : Th Int), u⟩ K _ _ ho h
  obtain ⟨c, rfl⟩ := th_ex c; obtain ⟨n, rfl⟩ := th_ex n
  obtain ⟨ha, h⟩ := h
  have ha := ha.out
  refine ⟨noAnn, noAnn, 20, ?_⟩
  cbv
  repeat' first | ((with_reducible refine fun (k : Nat) => ?_); cbv) | ((with_reducible refine fun (q : Nat × Unit) => ?_); obtain ⟨s, _⟩ := q; cbv) | ((with_reducible refine fun (q : Nat × Nat) => ?_); obtain ⟨s, k⟩ := q; cbv) | ((with_reducible intro _); cbv) | ((with_reducible show _ ∧ _); (with_reducible apply And.intro))
  all_goals first | (refine retK h ?_; clear h; simp only [fin0]) | (with_reducible refine Ob.mk ?_; clear h) | (clear h)
  all_goals (try simp only [eta0, RT.bytes] at *)
  all_goals grind [szN, cntX]
end Go.Proofs.YtjgijoageljjgaaGreat
