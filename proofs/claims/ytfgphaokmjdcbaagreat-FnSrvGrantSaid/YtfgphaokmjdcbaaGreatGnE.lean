/-
  Contracts: logs folded by the document, into new memory.
-/
import Derived.Test.YtfgphaokmjdcbaaGreatFnYs
import Derived.Test.YtfgphaokmjdcbaaGreatFnM
import Derived.Test.YtfgphaokmjdcbaaGreatInsW
import Derived.Test.YtfgphaokmjdcbaaGreatGnB
import Derived.Test.YtfgphaokmjdcbaaGreatM2
set_option linter.unusedVariables false
set_option linter.unusedSimpArgs false
namespace Go.Proofs.YtfgphaokmjdcbaaGreat
open Go.Sx Go.Proofs Go.Mo
set_option maxRecDepth 100000
set_option maxHeartbeats 8000000
set_option linter.unusedSimpArgs false
set_option linter.unusedVariables false

theorem okNLogFold : SpecOk1 Tryz.prog 94 sLogFold := spec1 tabOk (ss := [(142, sCllOk), (135, sCloneC), (143, sL6Apply)]) ⟨okSCllOk, okL5Copy, okL6Apply, trivial⟩ rfl rfl <| by
  intro (bs : Th (List Int)) (p : Th Int) ⟨(m : Th PMap), (c : Th Cll), (l : Th (List Sx.Rec)), u⟩ K _ _ ho h
  obtain ⟨m, rfl⟩ := th_ex m; obtain ⟨c, rfl⟩ := th_ex c; obtain ⟨l, rfl⟩ := th_ex l
  refine ⟨annL [(94, 5, ⟨Nat, [⟨.cell 9 1, some 13569, .wlk⟩, ⟨.cell 9 3, some 13571, .pcls⟩, ⟨.cell 9 4, some 13572, .int⟩, ⟨.cell 9 5, some 13573, .int⟩],
    fun σ k => (((((((((((((σ.fgs [13569, 13571, 13572, 13573]).t 24 (.one .unk)).t 9 (vI fun _ => (k : Int))).cellC 9 0 (.att (.int .i64 fun _ => (foldTo m c l k).cell))).cellC 9 1 (.own 13569 1)).cellC 9 2 (.att (.int .i64 fun _ => (foldTo m c l k).ground))).cellC 9 3 (.own 13571 1)).cellC 9 4 (.own 13572 1)).cellC 9 5 (.own 13573 1)).row 13569 1 .wlk (fun _ => (foldTo m c l k).wlks)).row 13571 1 .pcls (fun _ => (foldTo m c l k).outs)).row 13572 1 .int (fun _ => (foldTo m c l k).next)).row 13573 1 .int (fun _ => (foldTo m c l k).ins)),
    fun _ k _ => k ≤ l.length ∧ l.length ≤ 250 ∧ cllOk m c = true ∧ allTo k (fitAt m c l) = true, fun _ k _ => l.length - k⟩)], noAnn, 20, ?_⟩
  cbv
  repeat' first | ((with_reducible refine fun (k : Nat) => ?_); cbv) | ((with_reducible intro _); cbv) | ((with_reducible show _ ∧ _); (with_reducible apply And.intro))
  all_goals try ((first | (with_reducible refine LoopIn.mk ((0 : Nat)) ?_ ?_) | (with_reducible refine LoopBack.mk ((k + 1 : Nat)) ?_ ?_ ?_)) )
  all_goals try ((with_reducible show matchSt _ _); cbv; (try simp only [and_true, true_and]))
  all_goals try (with_reducible show _ ∧ _; (repeat' (with_reducible apply And.intro)))
  all_goals first | (refine retK h ?_; clear h; simp only [fin0]) | (with_reducible refine Ob.mk ?_; clear h) | (clear h)
  all_goals (try simp only [eta0, RT.bytes] at *)
  all_goals grind [zeroC, applyL_fit, applyL_succ, fold_ok, allTo_zero, allTo_succ, wrap_succ, logFold_at, logFold_all, logFold_bad, foldTo_zero]

end Go.Proofs.YtfgphaokmjdcbaaGreat

/-
  Contracts: stores.
-/
namespace Go.Proofs.YtfgphaokmjdcbaaGreat
open Go.Sx Go.Proofs Go.Mo
set_option maxRecDepth 100000
set_option maxHeartbeats 1000000
set_option linter.unusedSimpArgs false
set_option linter.unusedVariables false

def nSto : List (Option RT) := [none, none, some .wlk, none, some .pcls, some .int, some .int, some .rcd]
noncomputable def sCloneS : Sx.Spec := ⟨false, true, [.row .sto], [nSto], fun _ _ ⟨s, _⟩ => .ret (oSto s, fun _ => 0)⟩
noncomputable def sStoOk : Sx.Spec := ⟨false, true, [.map, .row .sto], [], fun _ _ ⟨m, s, _⟩ => .ret (vB fun _ => stoOk (m ()) (s ()), fun _ => 0)⟩
noncomputable def sState : Sx.Spec := ⟨false, true, [.row .sto, .map], [nCll], fun _ _ ⟨s, m, _⟩ => .asrt (fun _ => stoOk (m ()) (s ()) = true) (.ret (oCll fun _ => stoState (m ()) (s ()), fun _ => 0))⟩
noncomputable def sStoState : Sx.Spec := ⟨false, true, [.map, .row .sto], [nCll], fun _ _ ⟨m, s, _⟩ => .ret (oCll fun _ => stoStateX (m ()) (s ()), fun _ => 0)⟩
noncomputable def sStoFence : Sx.Spec := ⟨false, true, [.map, .row .sto, .int .i64], [nSto, [none]], fun _ _ ⟨m, s, a, _⟩ => .ret (.tup [oSto fun _ => (stoFence (m ()) (s ()) (a ())).s, vB fun _ => (stoFence (m ()) (s ()) (a ())).ok], fun _ => 0)⟩
noncomputable def sStoAppend : Sx.Spec := ⟨false, true, [.map, .row .sto, .int .i64, .int .i64, .row .rcd], [nSto, [none]], fun _ _ ⟨m, s, a, b, r, _⟩ => .ret (.tup [oSto fun _ => (stoAppend (m ()) (s ()) (a ()) (b ()) (r ())).s, vI fun _ => (stoAppend (m ()) (s ()) (a ()) (b ()) (r ())).n], fun _ => 0)⟩

theorem okStoL {s : Sto} (h : ∀ a ∈ (PT.row .sto).encA (fun _ => s), OkA a) : s.recs.length * 128 ≤ 140737488355328 := okB (h _ (.tail _ (.tail _ (.tail _ (.tail _ (.tail _ (.tail _ (.tail _ (.head _)))))))))

theorem okCloneS : SpecOk1 Tryz.prog 108 sCloneS := spec1 tabOk (ss := [(90, sCloneC)]) ⟨okCloneC, trivial⟩ rfl rfl <| by
  intro (bs : Th (List Int)) (p : Th Int) ⟨(s : Th Sto), u⟩ K _ _ ho h
  obtain ⟨s, rfl⟩ := th_ex s
  have hrl := okStoL ho.1
  refine ⟨noAnn, noAnn, 20, ?_⟩
  cbv
  repeat' first | ((with_reducible intro _); cbv) | ((with_reducible show _ ∧ _); (with_reducible apply And.intro))
  all_goals first | (refine retK h ?_; clear h; simp only [fin0]) | (with_reducible refine Ob.mk ?_; clear h) | (clear h)
  all_goals (try simp only [eta0, RT.bytes] at *)
  all_goals grind
theorem okL6Copy : SpecOk1 Tryz.prog 116 sCloneS := spec1 tabOk (ss := [(135, sCloneC)]) ⟨okL5Copy, trivial⟩ rfl rfl <| by
  intro (bs : Th (List Int)) (p : Th Int) ⟨(s : Th Sto), u⟩ K _ _ ho h
  obtain ⟨s, rfl⟩ := th_ex s
  have hrl := okStoL ho.1
  refine ⟨noAnn, noAnn, 20, ?_⟩
  cbv
  repeat' first | ((with_reducible intro _); cbv) | ((with_reducible show _ ∧ _); (with_reducible apply And.intro))
  all_goals first | (refine retK h ?_; clear h; simp only [fin0]) | (with_reducible refine Ob.mk ?_; clear h) | (clear h)
  all_goals (try simp only [eta0, RT.bytes] at *)
  all_goals grind
theorem okStoOk : SpecOk1 Tryz.prog 29 sStoOk := spec1 tabOk (ss := [(55, sIn), (85, sCllOk), (86, sFold)]) ⟨okIn, okCllOk, okFold, trivial⟩ rfl rfl <| by
  intro (bs : Th (List Int)) (p : Th Int) ⟨(m : Th PMap), (s : Th Sto), u⟩ K _ _ ho h
  obtain ⟨m, rfl⟩ := th_ex m; obtain ⟨s, rfl⟩ := th_ex s
  have hso := @stoOk_iff m s
  refine ⟨noAnn, noAnn, 20, ?_⟩
  cbv
  repeat' first | ((with_reducible intro _); cbv) | ((with_reducible show _ ∧ _); (with_reducible apply And.intro))
  all_goals first | (refine retK h ?_; clear h; simp only [fin0]) | (with_reducible refine Ob.mk ?_; clear h) | (clear h)
  all_goals (try simp only [eta0, RT.bytes] at *)
  all_goals grind [inR]
theorem okSStoOk : SpecOk1 Tryz.prog 93 sStoOk := spec1 tabOk (ss := [(47, sIn), (142, sCllOk), (94, sLogFold)]) ⟨okL1In, okSCllOk, okNLogFold, trivial⟩ rfl rfl <| by
  intro (bs : Th (List Int)) (p : Th Int) ⟨(m : Th PMap), (s : Th Sto), u⟩ K _ _ ho h
  obtain ⟨m, rfl⟩ := th_ex m; obtain ⟨s, rfl⟩ := th_ex s
  have hso := @stoOk_iff m s
  refine ⟨noAnn, noAnn, 20, ?_⟩
  cbv
  repeat' first | ((with_reducible intro _); cbv) | ((with_reducible show _ ∧ _); (with_reducible apply And.intro))
  all_goals first | (refine retK h ?_; clear h; simp only [fin0]) | (with_reducible refine Ob.mk ?_; clear h) | (clear h)
  all_goals (try simp only [eta0, RT.bytes] at *)
  all_goals grind [inR, logFold]
theorem okState : SpecOk1 Tryz.prog 92 sState := spec1 tabOk (ss := [(86, sFold)]) ⟨okFold, trivial⟩ rfl rfl <| by
  intro (bs : Th (List Int)) (p : Th Int) ⟨(s : Th Sto), (m : Th PMap), u⟩ K _ _ ho h
  obtain ⟨s, rfl⟩ := th_ex s; obtain ⟨m, rfl⟩ := th_ex m
  obtain ⟨hpre, h⟩ := h
  have hpre := stoOk_iff.1 hpre.out
  refine ⟨noAnn, noAnn, 20, ?_⟩
  cbv
  repeat' first | ((with_reducible intro _); cbv) | ((with_reducible show _ ∧ _); (with_reducible apply And.intro))
  all_goals first | (refine retK h ?_; clear h; simp only [fin0]) | (with_reducible refine Ob.mk ?_; clear h) | (clear h)
  all_goals (try simp only [eta0, RT.bytes] at *)
  all_goals grind [stoState]
theorem okStoState : SpecOk1 Tryz.prog 34 sStoState := spec1 tabOk (ss := [(29, sStoOk), (92, sState), (90, sCloneC)]) ⟨okStoOk, okState, okCloneC, trivial⟩ rfl rfl <| by
  intro (bs : Th (List Int)) (p : Th Int) ⟨(m : Th PMap), (s : Th Sto), u⟩ K _ _ ho h
  obtain ⟨m, rfl⟩ := th_ex m; obtain ⟨s, rfl⟩ := th_ex s
  refine ⟨noAnn, noAnn, 20, ?_⟩
  cbv
  repeat' first | ((with_reducible intro _); cbv) | ((with_reducible show _ ∧ _); (with_reducible apply And.intro))
  all_goals first | (refine retK h ?_; clear h; simp only [fin0]) | (with_reducible refine Ob.mk ?_; clear h) | (clear h)
  all_goals (try simp only [eta0, RT.bytes] at *)
  all_goals grind [stoStateX, zeroC]
theorem okSStoState : SpecOk1 Tryz.prog 35 sStoState := spec1 tabOk (ss := [(93, sStoOk), (94, sLogFold)]) ⟨okSStoOk, okNLogFold, trivial⟩ rfl rfl <| by
  intro (bs : Th (List Int)) (p : Th Int) ⟨(m : Th PMap), (s : Th Sto), u⟩ K _ _ ho h
  obtain ⟨m, rfl⟩ := th_ex m; obtain ⟨s, rfl⟩ := th_ex s
  have hso := @stoOk_iff m s
  refine ⟨noAnn, noAnn, 20, ?_⟩
  cbv
  repeat' first | ((with_reducible intro _); cbv) | ((with_reducible show _ ∧ _); (with_reducible apply And.intro))
  all_goals first | (refine retK h ?_; clear h; simp only [fin0]) | (with_reducible refine Ob.mk ?_; clear h) | (clear h)
  all_goals (try simp only [eta0, RT.bytes] at *)
  all_goals grind [stoStateX, stoState, zeroC, logFold]
theorem okSStoFence : SpecOk1 Tryz.prog 160 sStoFence := spec1 tabOk (ss := [(93, sStoOk), (47, sIn), (116, sCloneS)]) ⟨okSStoOk, okL1In, okL6Copy, trivial⟩ rfl rfl <| by
  intro (bs : Th (List Int)) (p : Th Int) ⟨(m : Th PMap), (s : Th Sto), (a : Th Int), u⟩ K _ _ ho h
  obtain ⟨m, rfl⟩ := th_ex m; obtain ⟨s, rfl⟩ := th_ex s; obtain ⟨a, rfl⟩ := th_ex a
  refine ⟨noAnn, noAnn, 20, ?_⟩
  cbv
  repeat' first | ((with_reducible intro _); cbv) | ((with_reducible show _ ∧ _); (with_reducible apply And.intro))
  all_goals first | (refine retK h ?_; clear h; simp only [fin0]) | (with_reducible refine Ob.mk ?_; clear h) | (clear h)
  all_goals (try simp only [eta0, RT.bytes] at *)
  all_goals grind [stoFence, zeroS, zeroC, inR]
theorem okSStoAppend : SpecOk1 Tryz.prog 162 sStoAppend := spec1 tabOk (ss := [(93, sStoOk), (116, sCloneS), (94, sLogFold), (143, sL6Apply)]) ⟨okSStoOk, okL6Copy, okNLogFold, okL6Apply, trivial⟩ rfl rfl <| by
  intro (bs : Th (List Int)) (p : Th Int) ⟨(m : Th PMap), (s : Th Sto), (a : Th Int), (b : Th Int), (r : Th Sx.Rec), u⟩ K _ _ ho h
  obtain ⟨m, rfl⟩ := th_ex m; obtain ⟨s, rfl⟩ := th_ex s; obtain ⟨a, rfl⟩ := th_ex a; obtain ⟨b, rfl⟩ := th_ex b; obtain ⟨r, rfl⟩ := th_ex r
  have hso := @stoOk_iff m s
  have hst := @state_ok m s
  refine ⟨noAnn, noAnn, 20, ?_⟩
  cbv
  repeat' first | ((with_reducible intro _); cbv) | ((with_reducible show _ ∧ _); (with_reducible apply And.intro))
  all_goals first | (refine retK h ?_; clear h; simp only [fin0]) | (with_reducible refine Ob.mk ?_; clear h) | (clear h)
  all_goals (try simp only [eta0, RT.bytes] at *)
  all_goals grind [stoAppend, stoAdd, stoState, zeroS, zeroC, logFold, cllApplyL]

end Go.Proofs.YtfgphaokmjdcbaaGreat

/-
  Contracts: holds.
-/
namespace Go.Proofs.YtfgphaokmjdcbaaGreat
open Go.Sx Go.Proofs Go.Mo
set_option maxRecDepth 100000
set_option maxHeartbeats 8000000
set_option linter.unusedSimpArgs false
set_option linter.unusedVariables false

def nHld : List (Option RT) := [none, none, none, some .wlk, none, some .pcls, some .int, some .int]
noncomputable def sCloneH : Sx.Spec := ⟨false, true, [.row .hld], [nHld], fun _ _ ⟨h, _⟩ => .ret (oHld h, fun _ => 0)⟩
noncomputable def sHldOk : Sx.Spec := ⟨false, true, [.map, .row .hld], [], fun _ _ ⟨m, h, _⟩ => .ret (vB fun _ => hldOk (m ()) (h ()), fun _ => 0)⟩
noncomputable def sHldOpen : Sx.Spec := ⟨false, true, [.map, .row .sto, .int .i64], [nHld, nSto, [none]], fun _ _ ⟨m, s, a, _⟩ => .ret (.tup [oHld fun _ => (hldOpen (m ()) (s ()) (a ())).h, oSto fun _ => (hldOpen (m ()) (s ()) (a ())).s, vB fun _ => (hldOpen (m ()) (s ()) (a ())).ok], fun _ => 0)⟩
noncomputable def sHldWrite : Sx.Spec := ⟨false, true, [.map, .row .hld, .row .sto, .row .rcd], [nHld, nSto, [none], [none]], fun _ _ ⟨m, h, s, r, _⟩ => .ret (.tup [oHld fun _ => (hldWrite (m ()) (h ()) (s ()) (r ())).h, oSto fun _ => (hldWrite (m ()) (h ()) (s ()) (r ())).s, vI fun _ => (hldWrite (m ()) (h ()) (s ()) (r ())).n, vI fun _ => (hldWrite (m ()) (h ()) (s ()) (r ())).k], fun _ => 0)⟩

theorem okCloneH : SpecOk1 Tryz.prog 88 sCloneH := spec1 tabOk (ss := [(90, sCloneC)]) ⟨okCloneC, trivial⟩ rfl rfl <| by
  intro (bs : Th (List Int)) (p : Th Int) ⟨(g : Th Hld), u⟩ K _ _ ho h
  obtain ⟨g, rfl⟩ := th_ex g
  refine ⟨noAnn, noAnn, 20, ?_⟩
  cbv
  repeat' first | ((with_reducible intro _); cbv) | ((with_reducible show _ ∧ _); (with_reducible apply And.intro))
  all_goals first | (refine retK h ?_; clear h; simp only [fin0]) | (with_reducible refine Ob.mk ?_; clear h) | (clear h)
  all_goals (try simp only [eta0, RT.bytes] at *)
  all_goals grind
theorem okHldOk : SpecOk1 Tryz.prog 77 sHldOk := spec1 tabOk (ss := [(55, sIn), (85, sCllOk)]) ⟨okIn, okCllOk, trivial⟩ rfl rfl <| by
  intro (bs : Th (List Int)) (p : Th Int) ⟨(m : Th PMap), (g : Th Hld), u⟩ K _ _ ho h
  obtain ⟨m, rfl⟩ := th_ex m; obtain ⟨g, rfl⟩ := th_ex g
  have hso := @hldOk_iff m g
  refine ⟨noAnn, noAnn, 20, ?_⟩
  cbv
  repeat' first | ((with_reducible intro _); cbv) | ((with_reducible show _ ∧ _); (with_reducible apply And.intro))
  all_goals first | (refine retK h ?_; clear h; simp only [fin0]) | (with_reducible refine Ob.mk ?_; clear h) | (clear h)
  all_goals (try simp only [eta0, RT.bytes] at *)
  all_goals grind [inR]
end Go.Proofs.YtfgphaokmjdcbaaGreat

/-
  Contracts: holds, by the document.
-/
namespace Go.Proofs.YtfgphaokmjdcbaaGreat
open Go.Sx Go.Proofs Go.Mo
set_option maxRecDepth 100000
set_option maxHeartbeats 1000000
set_option linter.unusedSimpArgs false
set_option linter.unusedVariables false

theorem open_fence {m : PMap} {s : Sto} {a : Int} (h : stoOk m s = true) (h1 : 1 ≤ a) (h2 : a ≤ 900) : ((stoFence m s a).ok = false → hldOpen m s a = ⟨zeroH, (stoFence m s a).s, false⟩) ∧
    ((stoFence m s a).ok = true → hldOpen m s a = ⟨⟨a, (stoFence m s a).s.recs.length, stoStateX m (stoFence m s a).s⟩, (stoFence m s a).s, true⟩) := by
  have hc : stoOk m s = true ∧ 0 ≤ a ∧ a ≤ 900 := ⟨h, by omega, h2⟩
  have ha := age_ok h (a := a) (by omega) h2
  unfold stoFence hldOpen
  have hd : stoOk m s = true ∧ 1 ≤ a ∧ a ≤ 900 := ⟨h, h1, h2⟩
  rw [if_pos hc, if_pos hd]
  by_cases hl : a < s.age
  · rw [if_pos hl]
    exact ⟨fun _ => (by first | rw [if_pos hl] | rfl), fun hh => by cases hh⟩
  · rw [if_neg hl]
    refine ⟨fun hh => (by cases hh), fun _ => ?_⟩
    first
      | rw [if_neg hl, ha.2, stateX h]
      | rw [ha.2, stateX h]
theorem write_eqs {m : PMap} {g : Hld} {s : Sto} {r : Sx.Rec} (hg : hldOk m g = true) (hs : stoOk m s = true) :
    (¬ (stoAppend m s g.age g.count r).n = 1 → hldWrite m g s r = ⟨g, s, (stoAppend m s g.age g.count r).n, 0⟩ ∧ (stoAppend m s g.age g.count r).s = s) ∧
    ((stoAppend m s g.age g.count r).n = 1 → (cllApplyX m g.state r).ok = false → hldWrite m g s r = ⟨g, s, 4, 0⟩) ∧
    ((stoAppend m s g.age g.count r).n = 1 → (cllApplyX m g.state r).ok = true → hldWrite m g s r = ⟨⟨g.age, g.count + 1, (cllApplyX m g.state r).c⟩, (stoAppend m s g.age g.count r).s, 1, (cllApplyX m g.state r).code⟩) ∧ (-10 ≤ g.count ∧ g.count ≤ 250) := by
  have hg2 := hldOk_iff.1 hg
  have hno := @append_not m s g.age g.count r hs
  have hc : hldOk m g = true ∧ stoOk m s = true := ⟨hg, hs⟩
  refine ⟨fun hn => ⟨?_, hno hn⟩, fun hn ho => ?_, fun hn ho => ?_, by omega⟩
  · rw [append_add hs] at hn ⊢
    rw [hldWrite, if_pos hc, if_pos hn]
  · rw [append_add hs] at hn
    have hl : logOk m r = true := by
      rcases add_cases m s g.age g.count r with ⟨_, h2⟩ | ⟨_, _, _, _, _, h6, _⟩
      · omega
      · exact h6
    rw [apX hg2.2.2 hl] at ho
    rw [hldWrite, if_pos hc, if_neg (fun hh => hh hn), if_pos ho]
  · rw [append_add hs] at hn ⊢
    have hl : logOk m r = true := by
      rcases add_cases m s g.age g.count r with ⟨_, h2⟩ | ⟨_, _, _, _, _, h6, _⟩
      · omega
      · exact h6
    rw [apX hg2.2.2 hl] at ho ⊢
    rw [hldWrite, if_pos hc, if_neg (fun hh => hh hn), if_neg (by rw [ho]; decide)]
theorem write_zero {m : PMap} {g : Hld} {s : Sto} {r : Sx.Rec} (h : hldOk m g = false ∨ stoOk m s = false) : hldWrite m g s r = ⟨zeroH, zeroS, 0, 0⟩ := by
  rw [hldWrite, if_neg]
  rintro ⟨h1, h2⟩
  rcases h with h | h <;> simp_all

theorem okIsHold : SpecOk1 Tryz.prog 76 sIsH := spec1 tabOk (ss := [(27, sIsC)]) ⟨okIsCell, trivial⟩ rfl rfl <| by
  intro (bs : Th (List Int)) (p : Th Int) ⟨(a : Th Hld), (b : Th Hld), u⟩ K _ _ ho h
  obtain ⟨a, rfl⟩ := th_ex a; obtain ⟨b, rfl⟩ := th_ex b
  refine ⟨noAnn, noAnn, 20, ?_⟩
  cbv
  repeat' first | ((with_reducible intro _); cbv) | ((with_reducible show _ ∧ _); (with_reducible apply And.intro))
  all_goals first | (refine retK h ?_; clear h; simp only [fin0]) | (with_reducible refine Ob.mk ?_; clear h) | (clear h)
  all_goals (try simp only [eta0, RT.bytes] at *)
  all_goals grind [hld_ext]
theorem okSHldOk : SpecOk1 Tryz.prog 115 sHldOk := spec1 tabOk (ss := [(47, sIn), (142, sCllOk)]) ⟨okL1In, okSCllOk, trivial⟩ rfl rfl <| by
  intro (bs : Th (List Int)) (p : Th Int) ⟨(m : Th PMap), (g : Th Hld), u⟩ K _ _ ho h
  obtain ⟨m, rfl⟩ := th_ex m; obtain ⟨g, rfl⟩ := th_ex g
  have hso := @hldOk_iff m g
  refine ⟨noAnn, noAnn, 20, ?_⟩
  cbv
  repeat' first | ((with_reducible intro _); cbv) | ((with_reducible show _ ∧ _); (with_reducible apply And.intro))
  all_goals first | (refine retK h ?_; clear h; simp only [fin0]) | (with_reducible refine Ob.mk ?_; clear h) | (clear h)
  all_goals (try simp only [eta0, RT.bytes] at *)
  all_goals grind [inR]
theorem okL7Copy : SpecOk1 Tryz.prog 89 sCloneH := spec1 tabOk (ss := [(135, sCloneC)]) ⟨okL5Copy, trivial⟩ rfl rfl <| by
  intro (bs : Th (List Int)) (p : Th Int) ⟨(g : Th Hld), u⟩ K _ _ ho h
  obtain ⟨g, rfl⟩ := th_ex g
  refine ⟨noAnn, noAnn, 20, ?_⟩
  cbv
  repeat' first | ((with_reducible intro _); cbv) | ((with_reducible show _ ∧ _); (with_reducible apply And.intro))
  all_goals first | (refine retK h ?_; clear h; simp only [fin0]) | (with_reducible refine Ob.mk ?_; clear h) | (clear h)
  all_goals (try simp only [eta0, RT.bytes] at *)
  all_goals grind
theorem okSHldOpen : SpecOk1 Tryz.prog 117 sHldOpen := spec1 tabOk (ss := [(93, sStoOk), (47, sIn), (160, sStoFence), (35, sStoState)]) ⟨okSStoOk, okL1In, okSStoFence, okSStoState, trivial⟩ rfl rfl <| by
  intro (bs : Th (List Int)) (p : Th Int) ⟨(m : Th PMap), (s : Th Sto), (a : Th Int), u⟩ K _ _ ho h
  obtain ⟨m, rfl⟩ := th_ex m; obtain ⟨s, rfl⟩ := th_ex s; obtain ⟨a, rfl⟩ := th_ex a
  have hop := @open_fence m s a
  have hb1 : stoOk m s = false → hldOpen m s a = ⟨zeroH, zeroS, false⟩ := fun hh => by
    rw [hldOpen, if_neg (fun h3 => by simp_all)]
  have hb2 : inR a 1 900 = false → hldOpen m s a = ⟨zeroH, zeroS, false⟩ := fun hh => by
    simp only [inR, decide_eq_false_iff_not] at hh
    rw [hldOpen, if_neg (fun h3 => hh h3.2)]
  have hb3 : inR a 1 900 = true → 1 ≤ a ∧ a ≤ 900 := fun hh => by simpa [inR] using hh
  refine ⟨noAnn, noAnn, 20, ?_⟩
  cbv
  repeat' first | ((with_reducible intro _); cbv) | ((with_reducible show _ ∧ _); (with_reducible apply And.intro))
  all_goals first | (refine retK h ?_; clear h; simp only [fin0]) | (with_reducible refine Ob.mk ?_; clear h) | (clear h)
  all_goals (try simp only [eta0, RT.bytes] at *)
  all_goals grind [zeroS, zeroC, zeroH]
theorem okSHldWrite : SpecOk1 Tryz.prog 121 sHldWrite := spec1 tabOk (ss := [(115, sHldOk), (93, sStoOk), (162, sStoAppend), (89, sCloneH), (163, sLogApply), (116, sCloneS)]) ⟨okSHldOk, okSStoOk, okSStoAppend, okL7Copy, okSLogApply, okL6Copy, trivial⟩ rfl rfl <| by
  intro (bs : Th (List Int)) (p : Th Int) ⟨(m : Th PMap), (g : Th Hld), (s : Th Sto), (r : Th Sx.Rec), u⟩ K _ _ ho h
  obtain ⟨m, rfl⟩ := th_ex m; obtain ⟨g, rfl⟩ := th_ex g; obtain ⟨s, rfl⟩ := th_ex s; obtain ⟨r, rfl⟩ := th_ex r
  have hw := @write_eqs m g s r
  have hz := @write_zero m g s r
  refine ⟨noAnn, noAnn, 20, ?_⟩
  cbv
  repeat' first | ((with_reducible intro _); cbv) | ((with_reducible show _ ∧ _); (with_reducible apply And.intro))
  all_goals first | (refine retK h ?_; clear h; simp only [fin0]) | (with_reducible refine Ob.mk ?_; clear h) | (clear h)
  all_goals (try simp only [eta0, RT.bytes] at *)
  all_goals grind [zeroS, zeroC, zeroH, wrap_id]

end Go.Proofs.YtfgphaokmjdcbaaGreat

/-
  Contracts: servers, lists of stores.
-/
namespace Go.Proofs.YtfgphaokmjdcbaaGreat
open Go.Sx Go.Proofs Go.Mo
set_option maxRecDepth 100000
set_option maxHeartbeats 8000000
set_option linter.unusedSimpArgs false
set_option linter.unusedVariables false

noncomputable def sSrvOk : Sx.Spec := ⟨false, true, [.map, .row .srv], [], fun _ _ ⟨m, s, _⟩ => .ret (vB fun _ => srvOk (m ()) (s ()), fun _ => 0)⟩
noncomputable def sHoldPlace : Sx.Spec := ⟨false, true, [.row .srv, .int .i64], [], fun _ _ ⟨s, c, _⟩ => .ret (vI fun _ => holdPlace (s ()).holds (c ()), fun _ => 0)⟩
noncomputable def sSrvHold : Sx.Spec := ⟨false, true, [.row .srv, .int .i64], [nHld, [none]], fun _ _ ⟨s, c, _⟩ => .ret (.tup [oHld fun _ => srvHold (s ()) (c ()), vB fun _ => srvHas (s ()) (c ())], fun _ => 0)⟩
noncomputable def sCloneV : Sx.Spec := ⟨false, true, [.row .srv], [[none, some .hld, some .gst]], fun _ _ ⟨s, _⟩ => .ret (oSrv s, fun _ => 0)⟩
noncomputable def sCloneG : Sx.Spec := ⟨false, true, [.list .gst], [[some .gst]], fun _ _ ⟨l, _⟩ => .ret (vW .gst l, fun _ => 0)⟩
noncomputable def sCloneSs : Sx.Spec := ⟨false, true, [.list .sto], [[some .sto]], fun _ _ ⟨l, _⟩ => .ret (vW .sto l, fun _ => 0)⟩
noncomputable def sStosOk : Sx.Spec := ⟨false, true, [.map, .list .sto], [], fun _ _ ⟨m, l, _⟩ => .ret (vB fun _ => stosOk (m ()) (l ()), fun _ => 0)⟩
noncomputable def sGstOf : Sx.Spec := ⟨false, true, [.map, .row .hld, .int .i64], [[some .gst]], fun _ _ ⟨m, h, s, _⟩ => .ret (vW .gst fun _ => if hldOk (m ()) (h ()) = true then ghosts (m ()) (h ()) (s ()) else [], fun _ => 0)⟩

theorem okSrvOk : SpecOk1 Tryz.prog 23 sSrvOk := spec1 tabOk (ss := [(77, sHldOk), (78, sGstsOk)]) ⟨okHldOk, okGstsOk, trivial⟩ rfl rfl <| by
  intro (bs : Th (List Int)) (p : Th Int) ⟨(m : Th PMap), (s : Th Srv), u⟩ K _ _ ho h
  obtain ⟨m, rfl⟩ := th_ex m; obtain ⟨s, rfl⟩ := th_ex s
  have hl := okL (ho.2.1 _ (.tail _ (.head _)))
  have hl2 := okL (ho.2.1 _ (.tail _ (.tail _ (.head _))))
  refine ⟨annL [(23, 2, ⟨Nat, [], fun σ k => σ.t 10 (vI fun _ => (k : Int)), fun _ k _ => k ≤ s.holds.length ∧ allTo k (hldAt m s.holds) = true, fun _ k _ => s.holds.length - k⟩)], noAnn, 20, ?_⟩
  cbv
  repeat' first | ((with_reducible refine fun (k : Nat) => ?_); cbv) | ((with_reducible intro _); cbv) | ((with_reducible show _ ∧ _); (with_reducible apply And.intro))
  all_goals try ((first | (with_reducible refine LoopIn.mk ((0 : Nat)) ?_ ?_) | (with_reducible refine LoopBack.mk ((k + 1 : Nat)) ?_ ?_ ?_)) )
  all_goals try ((with_reducible show matchSt _ _); cbv; (try simp only [and_true, true_and]))
  all_goals try (with_reducible show _ ∧ _; (repeat' (with_reducible apply And.intro)))
  all_goals first | (refine retK h ?_; clear h; simp only [fin0]) | (with_reducible refine Ob.mk ?_; clear h) | (clear h)
  all_goals (try simp only [eta0, RT.bytes] at *)
  all_goals grind [wrap_succ, wrap_id, wrap_pred, srv_bad1, srv_bad2, srv_all, srvUp, hldAt, allTo_zero, allTo_succ]
theorem okSSrvOk : SpecOk1 Tryz.prog 65 sSrvOk := spec1 tabOk (ss := [(45, sPlcOk), (114, sGstsOkS), (115, sHldOk)]) ⟨okSPlcOk, okSGstsOk, okSHldOk, trivial⟩ rfl rfl <| by
  intro (bs : Th (List Int)) (p : Th Int) ⟨(m : Th PMap), (s : Th Srv), u⟩ K _ _ ho h
  obtain ⟨m, rfl⟩ := th_ex m; obtain ⟨s, rfl⟩ := th_ex s
  have hl := okL (ho.2.1 _ (.tail _ (.head _)))
  have hl2 := okL (ho.2.1 _ (.tail _ (.tail _ (.head _))))
  have hb : plcOk m = false ∨ gstsOkS m s.ghosts = false ∨ srvUp s = false → srvOk m s = false := by
    intro hh
    rcases hh with hh | hh | hh <;> simp [srvOk, gstsOk, hh]
  have hb2 : plcOk m = true → gstsOkS m s.ghosts = true → gstsOk m s.ghosts = true := fun h1 h2 => by simp [gstsOk, h1, h2]
  refine ⟨annL [(65, 4, ⟨Nat, [], fun σ k => σ.t 5 (vI fun _ => (k : Int)), fun _ k _ => k ≤ s.holds.length ∧ gstsOk m s.ghosts = true ∧ srvUp s = true ∧ allTo k (hldAt m s.holds) = true, fun _ k _ => s.holds.length - k⟩)], noAnn, 20, ?_⟩
  cbv
  repeat' first | ((with_reducible refine fun (k : Nat) => ?_); cbv) | ((with_reducible intro _); cbv) | ((with_reducible show _ ∧ _); (with_reducible apply And.intro))
  all_goals try ((first | (with_reducible refine LoopIn.mk ((0 : Nat)) ?_ ?_) | (with_reducible refine LoopBack.mk ((k + 1 : Nat)) ?_ ?_ ?_)) )
  all_goals try ((with_reducible show matchSt _ _); cbv; (try simp only [and_true, true_and]))
  all_goals try (with_reducible show _ ∧ _; (repeat' (with_reducible apply And.intro)))
  all_goals first | (refine retK h ?_; clear h; simp only [fin0]) | (with_reducible refine Ob.mk ?_; clear h) | (clear h)
  all_goals (try simp only [eta0, RT.bytes] at *)
  all_goals grind [wrap_succ, wrap_id, wrap_pred, srv_bad1, srv_bad2, srv_all, srvUp, hldAt, allTo_zero, allTo_succ]
theorem okHoldAt : SpecOk1 Tryz.prog 87 sHoldPlace := spec1 tabOk (ss := []) trivial rfl rfl <| by
  intro (bs : Th (List Int)) (p : Th Int) ⟨(s : Th Srv), (c : Th Int), u⟩ K _ _ ho h
  obtain ⟨s, rfl⟩ := th_ex s; obtain ⟨c, rfl⟩ := th_ex c
  have hl := okL (ho.1 _ (.tail _ (.head _)))
  refine ⟨annL [(133, 2, ⟨Nat, [], fun σ k => σ.t 8 (vI fun _ => (k : Int)), fun _ k _ => k ≤ s.holds.length ∧ allTo k (ncell s.holds c) = true, fun _ k _ => s.holds.length - k⟩)], noAnn, 20, ?_⟩
  cbv
  repeat' first | ((with_reducible refine fun (k : Nat) => ?_); cbv) | ((with_reducible intro _); cbv) | ((with_reducible show _ ∧ _); (with_reducible apply And.intro))
  all_goals try ((first | (with_reducible refine LoopIn.mk ((0 : Nat)) ?_ ?_) | (with_reducible refine LoopBack.mk ((k + 1 : Nat)) ?_ ?_ ?_)) )
  all_goals try ((with_reducible show matchSt _ _); cbv; (try simp only [and_true, true_and]))
  all_goals try (with_reducible show _ ∧ _; (repeat' (with_reducible apply And.intro)))
  all_goals first | (refine retK h ?_; clear h; simp only [fin0]) | (with_reducible refine Ob.mk ?_; clear h) | (clear h)
  all_goals (try simp only [eta0, RT.bytes] at *)
  all_goals grind [allTo_zero, allTo_succ, ncell, isCell, hold_at, hold_none, wrap_succ]
theorem okSrvHold : SpecOk1 Tryz.prog 30 sSrvHold := spec1 tabOk (ss := [(87, sHoldPlace), (88, sCloneH)]) ⟨okHoldAt, okCloneH, trivial⟩ rfl rfl <| by
  intro (bs : Th (List Int)) (p : Th Int) ⟨(s : Th Srv), (c : Th Int), u⟩ K _ _ ho h
  obtain ⟨s, rfl⟩ := th_ex s; obtain ⟨c, rfl⟩ := th_ex c
  have hp := hold_lt s.holds c
  refine ⟨noAnn, noAnn, 20, ?_⟩
  cbv
  repeat' first | ((with_reducible intro _); cbv) | ((with_reducible show _ ∧ _); (with_reducible apply And.intro))
  all_goals first | (refine retK h ?_; clear h; simp only [fin0]) | (with_reducible refine Ob.mk ?_; clear h) | (clear h)
  all_goals (try simp only [eta0, RT.bytes] at *)
  all_goals grind (splits := 40) [srvHold, srvHas, zeroH, zeroC]
theorem okSSrvHold : SpecOk1 Tryz.prog 31 sSrvHold := spec1 tabOk (ss := [(89, sCloneH)]) ⟨okL7Copy, trivial⟩ rfl rfl <| by
  intro (bs : Th (List Int)) (p : Th Int) ⟨(s : Th Srv), (c : Th Int), u⟩ K _ _ ho h
  obtain ⟨s, rfl⟩ := th_ex s; obtain ⟨c, rfl⟩ := th_ex c
  have hl := okL (ho.1 _ (.tail _ (.head _)))
  refine ⟨annL [(31, 2, ⟨Nat, [], fun σ k => σ.t 6 (vI fun _ => (k : Int)), fun _ k _ => k ≤ s.holds.length ∧ allTo k (ncell s.holds c) = true, fun _ k _ => s.holds.length - k⟩)], noAnn, 20, ?_⟩
  cbv
  repeat' first | ((with_reducible refine fun (k : Nat) => ?_); cbv) | ((with_reducible intro _); cbv) | ((with_reducible show _ ∧ _); (with_reducible apply And.intro))
  all_goals try ((first | (with_reducible refine LoopIn.mk ((0 : Nat)) ?_ ?_) | (with_reducible refine LoopBack.mk ((k + 1 : Nat)) ?_ ?_ ?_)) )
  all_goals try ((with_reducible show matchSt _ _); cbv; (try simp only [and_true, true_and]))
  all_goals try (with_reducible show _ ∧ _; (repeat' (with_reducible apply And.intro)))
  all_goals first | (refine retK h ?_; clear h; simp only [fin0]) | (with_reducible refine Ob.mk ?_; clear h) | (clear h)
  all_goals (try simp only [eta0, RT.bytes] at *)
  all_goals grind (splits := 40) [allTo_zero, allTo_succ, ncell, isCell, hold_at, hold_none, wrap_succ, srvHold, srvHas, zeroH, zeroC]
theorem okCloneG : SpecOk1 Tryz.prog 107 sCloneG := spec1 tabOk (ss := []) trivial rfl rfl <| by
  intro (bs : Th (List Int)) (p : Th Int) ⟨(l : Th (List Gst)), u⟩ K _ _ ho h
  obtain ⟨l, rfl⟩ := th_ex l
  have hl := okB (ho.1 _ (.head _))
  refine ⟨noAnn, noAnn, 20, ?_⟩
  cbv
  repeat' first | ((with_reducible intro _); cbv) | ((with_reducible show _ ∧ _); (with_reducible apply And.intro))
  all_goals first | (refine retK h ?_; clear h; simp only [fin0]) | (with_reducible refine Ob.mk ?_; clear h) | (clear h)
  all_goals (try simp only [eta0, RT.bytes] at *)
  all_goals grind
theorem okCloneV : SpecOk1 Tryz.prog 62 sCloneV := spec1 tabOk (ss := [(107, sCloneG), (88, sCloneH)]) ⟨okCloneG, okCloneH, trivial⟩ rfl rfl <| by
  intro (bs : Th (List Int)) (p : Th Int) ⟨(s : Th Srv), u⟩ K _ _ ho h
  obtain ⟨s, rfl⟩ := th_ex s
  have hl := okB (ho.1 _ (.tail _ (.head _)))
  have hl2 := okB (ho.1 _ (.tail _ (.tail _ (.head _))))
  have hz := pre_len s.holds
  have hs := fun k => @pre_succ .hld s.holds k
  refine ⟨annL [(62, 3, ⟨Nat, [⟨.cell 4 1, some 25, .hld⟩], fun σ k => ((σ.t 15 (vI fun _ => (k : Int))).cellC 4 1 (.own 25 1)).row 25 1 .hld (fun _ => pre s.holds k), fun _ k _ => k ≤ s.holds.length, fun _ k _ => s.holds.length - k⟩)], noAnn, 20, ?_⟩
  cbv
  repeat' first | ((with_reducible refine fun (k : Nat) => ?_); cbv) | ((with_reducible intro _); cbv) | ((with_reducible show _ ∧ _); (with_reducible apply And.intro))
  all_goals try ((first | (with_reducible refine LoopIn.mk ((0 : Nat)) ?_ ?_) | (with_reducible refine LoopBack.mk ((k + 1 : Nat)) ?_ ?_ ?_)) )
  all_goals try ((with_reducible show matchSt _ _); cbv; (try simp only [and_true, true_and]))
  all_goals try (with_reducible show _ ∧ _; (repeat' (with_reducible apply And.intro)))
  all_goals first | (refine retK h ?_; clear h; simp only [fin0]) | (with_reducible refine Ob.mk ?_; clear h) | (clear h)
  all_goals (try simp only [eta0, RT.bytes] at *)
  all_goals grind [pre_zero, pre_all, wrap_succ]
theorem okL11Copy : SpecOk1 Tryz.prog 68 sCloneV := spec1 tabOk (ss := [(89, sCloneH)]) ⟨okL7Copy, trivial⟩ rfl rfl <| by
  intro (bs : Th (List Int)) (p : Th Int) ⟨(s : Th Srv), u⟩ K _ _ ho h
  obtain ⟨s, rfl⟩ := th_ex s
  have hl := okB (ho.1 _ (.tail _ (.head _)))
  have hl2 := okB (ho.1 _ (.tail _ (.tail _ (.head _))))
  have hz := pre_len s.holds
  have hs := fun k => @pre_succ .hld s.holds k
  refine ⟨annL [(68, 3, ⟨Nat, [⟨.cell 4 1, some 29, .hld⟩], fun σ k => (((σ.fg 8).t 4 (vI fun _ => (k : Int))).cellC 4 1 (.own 29 1)).row 29 1 .hld (fun _ => pre s.holds k), fun _ k _ => k ≤ s.holds.length, fun _ k _ => s.holds.length - k⟩)], noAnn, 20, ?_⟩
  cbv
  repeat' first | ((with_reducible refine fun (k : Nat) => ?_); cbv) | ((with_reducible intro _); cbv) | ((with_reducible show _ ∧ _); (with_reducible apply And.intro))
  all_goals try ((first | (with_reducible refine LoopIn.mk ((0 : Nat)) ?_ ?_) | (with_reducible refine LoopBack.mk ((k + 1 : Nat)) ?_ ?_ ?_)) )
  all_goals try ((with_reducible show matchSt _ _); cbv; (try simp only [and_true, true_and]))
  all_goals try (with_reducible show _ ∧ _; (repeat' (with_reducible apply And.intro)))
  all_goals first | (refine retK h ?_; clear h; simp only [fin0]) | (with_reducible refine Ob.mk ?_; clear h) | (clear h)
  all_goals (try simp only [eta0, RT.bytes] at *)
  all_goals grind [pre_zero, pre_all, wrap_succ]
theorem okCloneSs : SpecOk1 Tryz.prog 63 sCloneSs := spec1 tabOk (ss := [(108, sCloneS)]) ⟨okCloneS, trivial⟩ rfl rfl <| by
  intro (bs : Th (List Int)) (p : Th Int) ⟨(l : Th (List Sto)), u⟩ K _ _ ho h
  obtain ⟨l, rfl⟩ := th_ex l
  have hl := okB (ho.1 _ (.head _))
  have hz := pre_len l
  have hs := fun k => @pre_succ .sto l k
  refine ⟨annL [(63, 3, ⟨Nat, [⟨.tmp 3 0, some 17, .sto⟩], fun σ k => ((σ.t 8 (vI fun _ => (k : Int))).t 3 (vO 17 1)).row 17 1 .sto (fun _ => pre l k), fun _ k _ => k ≤ l.length, fun _ k _ => l.length - k⟩)], noAnn, 20, ?_⟩
  cbv
  repeat' first | ((with_reducible refine fun (k : Nat) => ?_); cbv) | ((with_reducible intro _); cbv) | ((with_reducible show _ ∧ _); (with_reducible apply And.intro))
  all_goals try ((first | (with_reducible refine LoopIn.mk ((0 : Nat)) ?_ ?_) | (with_reducible refine LoopBack.mk ((k + 1 : Nat)) ?_ ?_ ?_)) )
  all_goals try ((with_reducible show matchSt _ _); cbv; (try simp only [and_true, true_and]))
  all_goals try (with_reducible show _ ∧ _; (repeat' (with_reducible apply And.intro)))
  all_goals first | (refine retK h ?_; clear h; simp only [fin0]) | (with_reducible refine Ob.mk ?_; clear h) | (clear h)
  all_goals (try simp only [eta0, RT.bytes] at *)
  all_goals grind [pre_zero, pre_all, wrap_succ]
theorem okL11Stores : SpecOk1 Tryz.prog 69 sCloneSs := spec1 tabOk (ss := [(116, sCloneS)]) ⟨okL6Copy, trivial⟩ rfl rfl <| by
  intro (bs : Th (List Int)) (p : Th Int) ⟨(l : Th (List Sto)), u⟩ K _ _ ho h
  obtain ⟨l, rfl⟩ := th_ex l
  have hl := okB (ho.1 _ (.head _))
  have hz := pre_len l
  have hs := fun k => @pre_succ .sto l k
  refine ⟨annL [(69, 3, ⟨Nat, [⟨.tmp 3 0, some 6, .sto⟩], fun σ k => (((σ.fg 6).t 4 (vI fun _ => (k : Int))).t 3 (vO 6 1)).row 6 1 .sto (fun _ => pre l k), fun _ k _ => k ≤ l.length, fun _ k _ => l.length - k⟩)], noAnn, 20, ?_⟩
  cbv
  repeat' first | ((with_reducible refine fun (k : Nat) => ?_); cbv) | ((with_reducible intro _); cbv) | ((with_reducible show _ ∧ _); (with_reducible apply And.intro))
  all_goals try ((first | (with_reducible refine LoopIn.mk ((0 : Nat)) ?_ ?_) | (with_reducible refine LoopBack.mk ((k + 1 : Nat)) ?_ ?_ ?_)) )
  all_goals try ((with_reducible show matchSt _ _); cbv; (try simp only [and_true, true_and]))
  all_goals try (with_reducible show _ ∧ _; (repeat' (with_reducible apply And.intro)))
  all_goals first | (refine retK h ?_; clear h; simp only [fin0]) | (with_reducible refine Ob.mk ?_; clear h) | (clear h)
  all_goals (try simp only [eta0, RT.bytes] at *)
  all_goals grind [pre_zero, pre_all, wrap_succ]
theorem okStosOk : SpecOk1 Tryz.prog 60 sStosOk := spec1 tabOk (ss := [(29, sStoOk), (57, sPlcOk)]) ⟨okStoOk, okPlcOk, trivial⟩ rfl rfl <| by
  intro (bs : Th (List Int)) (p : Th Int) ⟨(m : Th PMap), (l : Th (List Sto)), u⟩ K _ _ ho h
  obtain ⟨m, rfl⟩ := th_ex m; obtain ⟨l, rfl⟩ := th_ex l
  have hl := okL (ho.2.1 _ (.head _))
  refine ⟨annL [(60, 2, ⟨Nat, [], fun σ k => σ.t 9 (vI fun _ => (k : Int)), fun _ k _ => k ≤ l.length ∧ allTo k (stoAt m l) = true, fun _ k _ => l.length - k⟩)], noAnn, 20, ?_⟩
  cbv
  repeat' first | ((with_reducible refine fun (k : Nat) => ?_); cbv) | ((with_reducible intro _); cbv) | ((with_reducible show _ ∧ _); (with_reducible apply And.intro))
  all_goals try ((first | (with_reducible refine LoopIn.mk ((0 : Nat)) ?_ ?_) | (with_reducible refine LoopBack.mk ((k + 1 : Nat)) ?_ ?_ ?_)) )
  all_goals try ((with_reducible show matchSt _ _); cbv; (try simp only [and_true, true_and]))
  all_goals try (with_reducible show _ ∧ _; (repeat' (with_reducible apply And.intro)))
  all_goals first | (refine retK h ?_; clear h; simp only [fin0]) | (with_reducible refine Ob.mk ?_; clear h) | (clear h)
  all_goals (try simp only [eta0, RT.bytes] at *)
  all_goals grind [wrap_succ, stos_bad1, stos_bad2, stos_all, stoAt, allTo_zero, allTo_succ]
theorem okSStosOk : SpecOk1 Tryz.prog 66 sStosOk := spec1 tabOk (ss := [(45, sPlcOk), (93, sStoOk)]) ⟨okSPlcOk, okSStoOk, trivial⟩ rfl rfl <| by
  intro (bs : Th (List Int)) (p : Th Int) ⟨(m : Th PMap), (l : Th (List Sto)), u⟩ K _ _ ho h
  obtain ⟨m, rfl⟩ := th_ex m; obtain ⟨l, rfl⟩ := th_ex l
  have hl := okL (ho.2.1 _ (.head _))
  have hb : plcOk m = false ∨ ¬ (l.length : Int) = m.cells → stosOk m l = false := by
    intro hh
    rcases hh with hh | hh <;> simp [stosOk, hh]
  refine ⟨annL [(66, 4, ⟨Nat, [], fun σ k => σ.t 5 (vI fun _ => (k : Int)), fun _ k _ => k ≤ l.length ∧ plcOk m = true ∧ (l.length : Int) = m.cells ∧ allTo k (stoAt m l) = true, fun _ k _ => l.length - k⟩)], noAnn, 20, ?_⟩
  cbv
  repeat' first | ((with_reducible refine fun (k : Nat) => ?_); cbv) | ((with_reducible intro _); cbv) | ((with_reducible show _ ∧ _); (with_reducible apply And.intro))
  all_goals try ((first | (with_reducible refine LoopIn.mk ((0 : Nat)) ?_ ?_) | (with_reducible refine LoopBack.mk ((k + 1 : Nat)) ?_ ?_ ?_)) )
  all_goals try ((with_reducible show matchSt _ _); cbv; (try simp only [and_true, true_and]))
  all_goals try (with_reducible show _ ∧ _; (repeat' (with_reducible apply And.intro)))
  all_goals first | (refine retK h ?_; clear h; simp only [fin0]) | (with_reducible refine Ob.mk ?_; clear h) | (clear h)
  all_goals (try simp only [eta0, RT.bytes] at *)
  all_goals grind [wrap_succ, stos_bad1, stos_bad2, stos_all, stoAt, allTo_zero, allTo_succ]
theorem okSGstOf : SpecOk1 Tryz.prog 239 sGstOf := spec1 tabOk (ss := [(115, sHldOk), (104, sPlcEdge)]) ⟨okSHldOk, okSPlcEdge, trivial⟩ rfl rfl <| by
  intro (bs : Th (List Int)) (p : Th Int) ⟨(m : Th PMap), (h0 : Th Hld), (s : Th Int), u⟩ K _ _ ho h
  obtain ⟨m, rfl⟩ := th_ex m; obtain ⟨h0, rfl⟩ := th_ex h0; obtain ⟨s, rfl⟩ := th_ex s
  have hn : hldOk m h0 = true → h0.state.wlks.length ≤ 9 := fun h => cllOk_len (hldOk_iff.1 h).2.2
  have hl := okB (ho.2.1 _ (.tail _ (.tail _ (.tail _ (.head _)))))
  have hz := ghTo_len m h0 s
  refine ⟨annL [(239, 5, ⟨Nat, [⟨.tmp 7 0, some 11, .gst⟩], fun σ k => (((σ.fg 11).t 8 (vI fun _ => (k : Int))).t 7 (vO 11 1)).row 11 1 .gst (fun _ => ghTo m h0 s k), fun _ k _ => k ≤ h0.state.wlks.length ∧ hldOk m h0 = true, fun _ k _ => h0.state.wlks.length - k⟩)], noAnn, 20, ?_⟩
  cbv
  repeat' first | ((with_reducible refine fun (k : Nat) => ?_); cbv) | ((with_reducible intro _); cbv) | ((with_reducible show _ ∧ _); (with_reducible apply And.intro))
  all_goals try ((first | (with_reducible refine LoopIn.mk ((0 : Nat)) ?_ ?_) | (with_reducible refine LoopBack.mk ((k + 1 : Nat)) ?_ ?_ ?_)) )
  all_goals try ((with_reducible show matchSt _ _); cbv; (try simp only [and_true, true_and]))
  all_goals try (with_reducible show _ ∧ _; (repeat' (with_reducible apply And.intro)))
  all_goals first | (refine retK h ?_; clear h; simp only [fin0]) | (with_reducible refine Ob.mk ?_; clear h) | (clear h)
  all_goals (try simp only [eta0, RT.bytes] at *)
  all_goals grind [ghTo_zero, ghTo_yes, ghTo_no, ghosts, wrap_succ]
end Go.Proofs.YtfgphaokmjdcbaaGreat
