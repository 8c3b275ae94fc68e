/-
  Contracts: records.
-/
import Derived.Test.YtjdaiobeiimpfaaGreatInsW
import Derived.Test.YtjdaiobeiimpfaaGreatM1
import Derived.Test.YtjdaiobeiimpfaaGreatFnJ
import Derived.Test.YtjdaiobeiimpfaaGreatFnFb
import Derived.Test.YtjdaiobeiimpfaaGreatGnF
import Derived.Test.YtjdaiobeiimpfaaGreatM2
set_option linter.unusedVariables false
set_option linter.unusedSimpArgs false
set_option maxRecDepth 100000
set_option maxHeartbeats 16000000
namespace Go.Proofs.YtjdaiobeiimpfaaGreat
open Go.Sx Go.Proofs Go.Mo
noncomputable def sFormed : Sx.Spec := ⟨false, true, [.row .rcd], [], fun _ _ ⟨r, _⟩ => .ret (vB fun _ => recFormed (r ()), fun _ => 0)⟩
noncomputable def sLogOk : Sx.Spec := ⟨false, true, [.map, .row .rcd], [], fun _ _ ⟨m, r, _⟩ => .ret (vB fun _ => logOk (m ()) (r ()), fun _ => 0)⟩
noncomputable def sFresh : Sx.Spec := ⟨false, true, [.row .cll, .ord], [], fun _ _ ⟨c, o, _⟩ => .ret (vB fun _ => cllFresh (c ()) (o ()), fun _ => 0)⟩
theorem okFormed : SpecOk1 Tryz.prog 212 sFormed := spec1 tabOk (ss := [(89, sOrdOk), (137, sIsSide), (53, sIn)]) ⟨okOrdOk, okIsSide, okIn, trivial⟩ rfl rfl <| by
 intro (bs : Th (List Int)) (p : Th Int) ⟨(r : Th Sx.Rec), u⟩ K _ _ ho h
 obtain ⟨r, rfl⟩ := th_ex r
 refine ⟨noAnn, noAnn, 20, ?_⟩
 cbv
 repeat' first | ((with_reducible intro _); cbv) | (with_reducible refine And.intro ?_ ?_)
 all_goals first | (refine retK h ?_; clear h; simp only [fin0]) | (with_reducible refine Ob.mk ?_; clear h) | (clear h)
 all_goals (try simp only [eta0, RT.bytes] at *)
 all_goals have hrf := @recFormed_iff r
 all_goals grind [inR]
theorem okLogOk : SpecOk1 Tryz.prog 180 sLogOk := spec1 tabOk (ss := [(41, sPlcOk), (212, sFormed), (94, sPclOk)]) ⟨okPlcOk, okFormed, okPclOk, trivial⟩ rfl rfl <| by
 intro (bs : Th (List Int)) (p : Th Int) ⟨(m : Th PMap), (r : Th Sx.Rec), u⟩ K _ _ ho h
 obtain ⟨m, rfl⟩ := th_ex m; obtain ⟨r, rfl⟩ := th_ex r
 refine ⟨noAnn, noAnn, 20, ?_⟩
 cbv
 repeat' first | ((with_reducible intro _); cbv) | (with_reducible refine And.intro ?_ ?_)
 all_goals first | (refine retK h ?_; clear h; simp only [fin0]) | (with_reducible refine Ob.mk ?_; clear h) | (clear h)
 all_goals (try simp only [eta0, RT.bytes] at *)
 all_goals grind [logOk]
theorem okSLogOk : SpecOk1 Tryz.prog 207 sLogOk := spec1 tabOk (ss := [(34, sPlcOk), (116, sOrdOk), (75, sIn), (131, sPclOk)]) ⟨okSPlcOk, okSOrdOk, okL1In, okSPclOk, trivial⟩ rfl rfl <| by
 intro (bs : Th (List Int)) (p : Th Int) ⟨(m : Th PMap), (r : Th Sx.Rec), u⟩ K _ _ ho h
 obtain ⟨m, rfl⟩ := th_ex m; obtain ⟨r, rfl⟩ := th_ex r
 have hpp := @pclOk_plc m r.pcl
 refine ⟨noAnn, noAnn, 20, ?_⟩
 cbv
 repeat' first | ((with_reducible intro _); cbv) | (with_reducible refine And.intro ?_ ?_)
 all_goals first | (refine retK h ?_; clear h; simp only [fin0]) | (with_reducible refine Ob.mk ?_; clear h) | (clear h)
 all_goals (try simp only [eta0, RT.bytes] at *)
 all_goals have hrf := @recFormed_iff r
 all_goals grind [inR, logOk]
theorem okFresh : SpecOk1 Tryz.prog 213 sFresh := spec1 tabOk (ss := [(196, sWlkFind)]) ⟨okWlkFind, trivial⟩ rfl rfl <| by
 intro (bs : Th (List Int)) (p : Th Int) ⟨(c : Th Cll), (o : Th Sx.Ord), u⟩ K _ _ ho h
 obtain ⟨c, rfl⟩ := th_ex c; obtain ⟨o, rfl⟩ := th_ex o
 refine ⟨noAnn, noAnn, 20, ?_⟩
 cbv
 repeat' first | ((with_reducible intro _); cbv) | (with_reducible refine And.intro ?_ ?_)
 all_goals first | (refine retK h ?_; clear h; simp only [fin0]) | (with_reducible refine Ob.mk ?_; clear h) | (clear h)
 all_goals (try simp only [eta0, RT.bytes] at *)
 all_goals grind [cllFresh]
theorem okL5Fresh : SpecOk1 Tryz.prog 208 sFresh := spec1 tabOk (ss := [(201, sWlkFind)]) ⟨okSWlkFind, trivial⟩ rfl rfl <| by
 intro (bs : Th (List Int)) (p : Th Int) ⟨(c : Th Cll), (o : Th Sx.Ord), u⟩ K _ _ ho h
 obtain ⟨c, rfl⟩ := th_ex c; obtain ⟨o, rfl⟩ := th_ex o
 refine ⟨noAnn, noAnn, 20, ?_⟩
 cbv
 repeat' first | ((with_reducible intro _); cbv) | (with_reducible refine And.intro ?_ ?_)
 all_goals first | (refine retK h ?_; clear h; simp only [fin0]) | (with_reducible refine Ob.mk ?_; clear h) | (clear h)
 all_goals (try simp only [eta0, RT.bytes] at *)
 all_goals grind [cllFresh]
noncomputable def sL5In : Sx.Spec := ⟨false, true, [.map, .row .cll, .int .i64, .row .pcl], [nCll, [none]], fun _ _ ⟨m, c, s, p, _⟩ => .asrt (fun _ => cllOk (m ()) (c ()) = true ∧ pclOk (m ()) (p ()) = true ∧ 0 ≤ s () ∧ s () < 2) (.ret (.tup [oCll fun _ => (cllRecv (m ()) (c ()) (s ()).toNat (p ())).c, vB fun _ => (cllRecv (m ()) (c ()) (s ()).toNat (p ())).ok], fun _ => 0))⟩
noncomputable def sL5Ack : Sx.Spec := ⟨false, true, [.row .cll, .int .i64, .int .i64], [nCll, [none]], fun _ _ ⟨c, s, n, _⟩ => .asrt (fun _ => 0 ≤ s () ∧ s () < 2 ∧ (c ()).outs.length = 2 ∧ (c ()).next.length = 2 ∧ 0 ≤ nth .int (c ()).next (s ()).toNat ∧ nth .int (c ()).next (s ()).toNat ≤ 5000) (.ret (.tup [oCll fun _ => (cllRel (c ()) (s ()).toNat (n ())).c, vB fun _ => (cllRel (c ()) (s ()).toNat (n ())).ok], fun _ => 0))⟩
noncomputable def sL6Apply : Sx.Spec := ⟨false, true, [.map, .row .cll, .row .rcd], [nCll, [none], [none]], fun _ _ ⟨m, c, r, _⟩ => .asrt (fun _ => cllOk (m ()) (c ()) = true) (.ret (.tup [oCll fun _ => (cllApplyL (m ()) (c ()) (r ())).c, vI fun _ => (cllApplyL (m ()) (c ()) (r ())).code, vB fun _ => (cllApplyL (m ()) (c ()) (r ())).ok], fun _ => 0))⟩
noncomputable def sLogApply : Sx.Spec := ⟨false, true, [.map, .row .cll, .row .rcd], [nCll, [none], [none]], fun _ _ ⟨m, c, r, _⟩ => .ret (.tup [oCll fun _ => (cllApplyX (m ()) (c ()) (r ())).c, vI fun _ => (cllApplyX (m ()) (c ()) (r ())).code, vB fun _ => (cllApplyX (m ()) (c ()) (r ())).ok], fun _ => 0)⟩
theorem okL5In : SpecOk1 Tryz.prog 210 sL5In := spec1 tabOk (ss := [(170, sCloneC), (201, sWlkFind), (147, sWlkPut), (172, sPlcCell)]) ⟨okL5Copy, okSWlkFind, okSWlkPut, okSPlcCell, trivial⟩ rfl rfl <| by
 intro (bs : Th (List Int)) (p : Th Int) ⟨(m : Th PMap), (c : Th Cll), (s : Th Int), (p : Th Pcl), u⟩ K _ _ ho h
 obtain ⟨m, rfl⟩ := th_ex m; obtain ⟨c, rfl⟩ := th_ex c; obtain ⟨s, rfl⟩ := th_ex s; obtain ⟨p, rfl⟩ := th_ex p
 obtain ⟨hpre, h⟩ := h
 have hpre : cllOk m c = true ∧ pclOk m p = true ∧ 0 ≤ s ∧ s < 2 := hpre.out
 refine ⟨noAnn, noAnn, 20, ?_⟩
 have hf := cllOk_facts hpre.1
 have hlen := cllOk_len hpre.1
 have hsd := cllOk_side hpre.1 (s := s.toNat) (by have := hpre.2.2; omega)
 have hpc : 0 ≤ p.n ∧ p.n ≤ 4999 ∧ (p.kind = 1 ∧ p.coins = 0 ∨ p.kind = 2 ∧ 1 ≤ p.coins ∧ p.coins ≤ 9) := by
  have := hpre.2.1
  simp [pclOk] at this
  omega
 cbv
 repeat' first | ((with_reducible intro _); cbv) | (with_reducible refine And.intro ?_ ?_)
 all_goals first | (refine retK h ?_; clear h; simp only [fin0]) | (with_reducible refine Ob.mk ?_; clear h) | (clear h)
 all_goals (try simp only [eta0, RT.bytes] at *)
 all_goals grind [cllRecv, insNext, wrap_id, has_neg, setNth_app]
theorem okL5Ack : SpecOk1 Tryz.prog 211 sL5Ack := spec1 tabOk (ss := [(170, sCloneC), (232, sPclFrom)]) ⟨okL5Copy, okSPclFrom, trivial⟩ rfl rfl <| by
 intro (bs : Th (List Int)) (p : Th Int) ⟨(c : Th Cll), (s : Th Int), (n : Th Int), u⟩ K _ _ ho h
 obtain ⟨c, rfl⟩ := th_ex c; obtain ⟨s, rfl⟩ := th_ex s; obtain ⟨n, rfl⟩ := th_ex n
 obtain ⟨hpre, h⟩ := h
 have hpre : 0 ≤ s ∧ s < 2 ∧ c.outs.length = 2 ∧ c.next.length = 2 ∧ 0 ≤ nth .int c.next s.toNat ∧ nth .int c.next s.toNat ≤ 5000 := hpre.out
 refine ⟨noAnn, noAnn, 20, ?_⟩
 obtain ⟨hw, hou, hoi, hn, hi, _, _⟩ := okCll ho.1
 have hoi := hoi s.toNat (by omega)
 cbv
 repeat' first | ((with_reducible intro _); cbv) | (with_reducible refine And.intro ?_ ?_)
 all_goals first | (refine retK h ?_; clear h; simp only [fin0]) | (with_reducible refine Ob.mk ?_; clear h) | (clear h)
 all_goals (try simp only [eta0, RT.bytes] at *)
 all_goals grind [cllRel, relOuts, wrap_id, setNth_app]
theorem okL6Apply : SpecOk1 Tryz.prog 174 sL6Apply := spec1 tabOk (ss := [(207, sLogOk), (129, sPlcSide), (170, sCloneC), (208, sFresh), (209, sL5Do), (210, sL5In), (211, sL5Ack)]) ⟨okSLogOk, okSPlcSide, okL5Copy, okL5Fresh, okL5Do, okL5In, okL5Ack, trivial⟩ rfl rfl <| by
 intro (bs : Th (List Int)) (p : Th Int) ⟨(m : Th PMap), (c : Th Cll), (r : Th Sx.Rec), u⟩ K _ _ ho h
 obtain ⟨m, rfl⟩ := th_ex m; obtain ⟨c, rfl⟩ := th_ex c; obtain ⟨r, rfl⟩ := th_ex r
 obtain ⟨hpre, h⟩ := h
 have hpre := hpre.out
 refine ⟨noAnn, noAnn, 20, ?_⟩
 have hf := cllOk_facts hpre
 have hps := @plcSide_ne m c.cell r.side
 have hrf := @recFormed_iff r
 have hsd := @cllOk_side m c hpre
 cbv
 repeat' first | ((with_reducible intro _); cbv) | (with_reducible refine And.intro ?_ ?_)
 all_goals first | (refine retK h ?_; clear h; simp only [fin0]) | (with_reducible refine Ob.mk ?_; clear h) | (clear h)
 all_goals (try simp only [eta0, RT.bytes] at *)
 all_goals have hrn := @recv_no m c r.side.toNat r.pcl
 all_goals have hln := @rel_no c r.side.toNat r.n
 all_goals grind [cllApplyL, cllApply, logOk]
theorem okSLogApply : SpecOk1 Tryz.prog 230 sLogApply := spec1 tabOk (ss := [(125, sCllOk), (207, sLogOk), (174, sL6Apply)]) ⟨okSCllOk, okSLogOk, okL6Apply, trivial⟩ rfl rfl <| by
 intro (bs : Th (List Int)) (p : Th Int) ⟨(m : Th PMap), (c : Th Cll), (r : Th Sx.Rec), u⟩ K _ _ ho h
 obtain ⟨m, rfl⟩ := th_ex m; obtain ⟨c, rfl⟩ := th_ex c; obtain ⟨r, rfl⟩ := th_ex r
 refine ⟨noAnn, noAnn, 20, ?_⟩
 cbv
 repeat' first | ((with_reducible intro _); cbv) | (with_reducible refine And.intro ?_ ?_)
 all_goals first | (refine retK h ?_; clear h; simp only [fin0]) | (with_reducible refine Ob.mk ?_; clear h) | (clear h)
 all_goals (try simp only [eta0, RT.bytes] at *)
 all_goals grind [cllApplyX, cllApplyL, zeroC]
noncomputable def sLogFold : Sx.Spec := ⟨false, true, [.map, .row .cll, .list .rcd], [nCll, [none]], fun _ _ ⟨m, c, l, _⟩ => .ret (.tup [oCll fun _ => (logFold (m ()) (c ()) (l ())).c, vI fun _ => (logFold (m ()) (c ()) (l ())).n], fun _ => 0)⟩
theorem applyL_fit {m : PMap} {c : Cll} {l : List Sx.Rec} {k : Nat} : (cllApplyL m (foldTo m c l k) (nth .rcd l k)).ok = fitAt m c l k := by
 unfold cllApplyL fitAt
 split <;> simp_all
theorem applyL_succ {m : PMap} {c : Cll} {l : List Sx.Rec} {k : Nat} (h : (cllApplyL m (foldTo m c l k) (nth .rcd l k)).ok = true) : (cllApplyL m (foldTo m c l k) (nth .rcd l k)).c = foldTo m c l (k + 1) := by
 unfold cllApplyL at *
 split
 ·rw [foldTo_succ]
 ·rename_i hh
  rw [if_neg hh] at h
  cases h
theorem logFold_at {m : PMap} {c : Cll} {l : List Sx.Rec} {k : Nat} (h : cllOk m c = true) (hl : l.length ≤ 250) (hk : k < l.length) (ha : allTo k (fitAt m c l) = true) (hf : fitAt m c l k = false) : logFold m c l = ⟨foldTo m c l k, k⟩ := by
 rw [logFold, if_pos ⟨h, hl⟩, foldC, foldN_at hk ha hf]
theorem logFold_all {m : PMap} {c : Cll} {l : List Sx.Rec} {k : Nat} (h : cllOk m c = true) (hl : l.length ≤ 250) (hk : k = l.length) (ha : allTo k (fitAt m c l) = true) : logFold m c l = ⟨foldTo m c l k, k⟩ := by
 rw [logFold, if_pos ⟨h, hl⟩, foldC, foldN_all hk ha]
theorem logFold_bad {m : PMap} {c : Cll} {l : List Sx.Rec} (h : cllOk m c = false ∨ 250 < l.length) : logFold m c l = ⟨zeroC, 0⟩ := by
 rw [logFold, if_neg]
 rintro ⟨h1, h2⟩
 rcases h with h | h
 ·rw [h] at h1
  cases h1
 ·omega
end Go.Proofs.YtjdaiobeiimpfaaGreat
