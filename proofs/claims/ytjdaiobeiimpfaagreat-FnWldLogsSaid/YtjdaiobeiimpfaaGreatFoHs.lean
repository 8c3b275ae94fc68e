/-
  Contracts: logs folded by the document, into new memory.
-/
import Derived.Test.YtjdaiobeiimpfaaGreatFnYs
import Derived.Test.YtjdaiobeiimpfaaGreatFnM
import Derived.Test.YtjdaiobeiimpfaaGreatInsW
set_option linter.unusedVariables false
set_option linter.unusedSimpArgs false
set_option maxRecDepth 100000
set_option maxHeartbeats 8000000
namespace Go.Proofs.YtjdaiobeiimpfaaGreat
open Go.Sx Go.Proofs Go.Mo
theorem okNLogFold : SpecOk1 Tryz.prog 126 sLogFold := spec1 tabOk (ss := [(125, sCllOk), (170, sCloneC), (174, sL6Apply)]) ⟨okSCllOk, okL5Copy, okL6Apply, trivial⟩ rfl rfl <| by
 intro (bs : Th (List Int)) (p : Th Int) ⟨(m : Th PMap), (c : Th Cll), (l : Th (List Sx.Rec)), u⟩ K _ _ ho h
 obtain ⟨m, rfl⟩ := th_ex m; obtain ⟨c, rfl⟩ := th_ex c; obtain ⟨l, rfl⟩ := th_ex l
 refine ⟨annL [(126, 5, ⟨Nat, [⟨.cell 9 1, some 13569, .wlk⟩, ⟨.cell 9 3, some 13571, .pcls⟩, ⟨.cell 9 4, some 13572, .int⟩, ⟨.cell 9 5, some 13573, .int⟩],
  fun σ k => (((((((((((((σ.fgs [13569, 13571, 13572, 13573]).t 24 (.one .unk)).t 9 (vI fun _ => (k : Int))).cellC 9 0 (.att (.int .i64 fun _ => (foldTo m c l k).cell))).cellC 9 1 (.own 13569 1)).cellC 9 2 (.att (.int .i64 fun _ => (foldTo m c l k).ground))).cellC 9 3 (.own 13571 1)).cellC 9 4 (.own 13572 1)).cellC 9 5 (.own 13573 1)).row 13569 1 .wlk (fun _ => (foldTo m c l k).wlks)).row 13571 1 .pcls (fun _ => (foldTo m c l k).outs)).row 13572 1 .int (fun _ => (foldTo m c l k).next)).row 13573 1 .int (fun _ => (foldTo m c l k).ins)),
  fun _ k _ => k ≤ l.length ∧ l.length ≤ 250 ∧ cllOk m c = true ∧ allTo k (fitAt m c l) = true, fun _ k _ => l.length - k⟩)], noAnn, 20, ?_⟩
 cbv
 repeat' first | ((with_reducible refine fun (k : Nat) => ?_); cbv) | ((with_reducible intro _); cbv) | (with_reducible refine And.intro ?_ ?_)
 all_goals try ((first | (with_reducible refine LoopIn.mk ((0 : Nat)) ?_ ?_) | (with_reducible refine LoopBack.mk ((k + 1 : Nat)) ?_ ?_ ?_)) )
 all_goals try ((with_reducible show matchSt _ _); cbv; (try simp only [and_true, true_and]))
 all_goals try (repeat' with_reducible refine And.intro ?_ ?_)
 all_goals first | (refine retK h ?_; clear h; simp only [fin0]) | (with_reducible refine Ob.mk ?_; clear h) | (clear h)
 all_goals (try simp only [eta0, RT.bytes] at *)
 all_goals grind [zeroC, applyL_fit, applyL_succ, fold_ok, allTo_zero, allTo_succ, wrap_succ, logFold_at, logFold_all, logFold_bad, foldTo_zero]
def nSto : List (Option RT) := [none, none, some .wlk, none, some .pcls, some .int, some .int, some .rcd]
noncomputable def sCloneS : Sx.Spec := ⟨false, true, [.row .sto], [nSto], fun _ _ ⟨s, _⟩ => .ret (oSto s, fun _ => 0)⟩
noncomputable def sStoOk : Sx.Spec := ⟨false, true, [.map, .row .sto], [], fun _ _ ⟨m, s, _⟩ => .ret (vB fun _ => stoOk (m ()) (s ()), fun _ => 0)⟩
noncomputable def sState : Sx.Spec := ⟨false, true, [.row .sto, .map], [nCll], fun _ _ ⟨s, m, _⟩ => .asrt (fun _ => stoOk (m ()) (s ()) = true) (.ret (oCll fun _ => stoState (m ()) (s ()), fun _ => 0))⟩
noncomputable def sStoState : Sx.Spec := ⟨false, true, [.map, .row .sto], [nCll], fun _ _ ⟨m, s, _⟩ => .ret (oCll fun _ => stoStateX (m ()) (s ()), fun _ => 0)⟩
noncomputable def sStoFence : Sx.Spec := ⟨false, true, [.map, .row .sto, .int .i64], [nSto, [none]], fun _ _ ⟨m, s, a, _⟩ => .ret (.tup [oSto fun _ => (stoFence (m ()) (s ()) (a ())).s, vB fun _ => (stoFence (m ()) (s ()) (a ())).ok], fun _ => 0)⟩
noncomputable def sStoAppend : Sx.Spec := ⟨false, true, [.map, .row .sto, .int .i64, .int .i64, .row .rcd], [nSto, [none]], fun _ _ ⟨m, s, a, b, r, _⟩ => .ret (.tup [oSto fun _ => (stoAppend (m ()) (s ()) (a ()) (b ()) (r ())).s, vI fun _ => (stoAppend (m ()) (s ()) (a ()) (b ()) (r ())).n], fun _ => 0)⟩
theorem okStoL {s : Sto} (h : ∀ a ∈ (PT.row .sto).encA (fun _ => s), OkA a) : s.recs.length * 128 ≤ 140737488355328 := okB (h _ (.tail _ (.tail _ (.tail _ (.tail _ (.tail _ (.tail _ (.tail _ (.head _)))))))))
theorem okCloneS : SpecOk1 Tryz.prog 105 sCloneS := spec1 tabOk (ss := [(154, sCloneC)]) ⟨okCloneC, trivial⟩ rfl rfl <| by
 intro (bs : Th (List Int)) (p : Th Int) ⟨(s : Th Sto), u⟩ K _ _ ho h
 obtain ⟨s, rfl⟩ := th_ex s
 have hrl := okStoL ho.1
 refine ⟨noAnn, noAnn, 20, ?_⟩
 cbv
 repeat' first | ((with_reducible intro _); cbv) | (with_reducible refine And.intro ?_ ?_)
 all_goals first | (refine retK h ?_; clear h; simp only [fin0]) | (with_reducible refine Ob.mk ?_; clear h) | (clear h)
 all_goals (try simp only [eta0, RT.bytes] at *)
 all_goals grind
theorem okL6Copy : SpecOk1 Tryz.prog 123 sCloneS := spec1 tabOk (ss := [(170, sCloneC)]) ⟨okL5Copy, trivial⟩ rfl rfl <| by
 intro (bs : Th (List Int)) (p : Th Int) ⟨(s : Th Sto), u⟩ K _ _ ho h
 obtain ⟨s, rfl⟩ := th_ex s
 have hrl := okStoL ho.1
 refine ⟨noAnn, noAnn, 20, ?_⟩
 cbv
 repeat' first | ((with_reducible intro _); cbv) | (with_reducible refine And.intro ?_ ?_)
 all_goals first | (refine retK h ?_; clear h; simp only [fin0]) | (with_reducible refine Ob.mk ?_; clear h) | (clear h)
 all_goals (try simp only [eta0, RT.bytes] at *)
 all_goals grind
theorem okStoOk : SpecOk1 Tryz.prog 87 sStoOk := spec1 tabOk (ss := [(53, sIn), (135, sCllOk), (136, sFold)]) ⟨okIn, okCllOk, okFold, trivial⟩ rfl rfl <| by
 intro (bs : Th (List Int)) (p : Th Int) ⟨(m : Th PMap), (s : Th Sto), u⟩ K _ _ ho h
 obtain ⟨m, rfl⟩ := th_ex m; obtain ⟨s, rfl⟩ := th_ex s
 have hso := @stoOk_iff m s
 refine ⟨noAnn, noAnn, 20, ?_⟩
 cbv
 repeat' first | ((with_reducible intro _); cbv) | (with_reducible refine And.intro ?_ ?_)
 all_goals first | (refine retK h ?_; clear h; simp only [fin0]) | (with_reducible refine Ob.mk ?_; clear h) | (clear h)
 all_goals (try simp only [eta0, RT.bytes] at *)
 all_goals grind [inR]
theorem okSStoOk : SpecOk1 Tryz.prog 82 sStoOk := spec1 tabOk (ss := [(75, sIn), (125, sCllOk), (126, sLogFold)]) ⟨okL1In, okSCllOk, okNLogFold, trivial⟩ rfl rfl <| by
 intro (bs : Th (List Int)) (p : Th Int) ⟨(m : Th PMap), (s : Th Sto), u⟩ K _ _ ho h
 obtain ⟨m, rfl⟩ := th_ex m; obtain ⟨s, rfl⟩ := th_ex s
 have hso := @stoOk_iff m s
 refine ⟨noAnn, noAnn, 20, ?_⟩
 cbv
 repeat' first | ((with_reducible intro _); cbv) | (with_reducible refine And.intro ?_ ?_)
 all_goals first | (refine retK h ?_; clear h; simp only [fin0]) | (with_reducible refine Ob.mk ?_; clear h) | (clear h)
 all_goals (try simp only [eta0, RT.bytes] at *)
 all_goals grind [inR, logFold]
theorem okState : SpecOk1 Tryz.prog 220 sState := spec1 tabOk (ss := [(136, sFold)]) ⟨okFold, trivial⟩ rfl rfl <| by
 intro (bs : Th (List Int)) (p : Th Int) ⟨(s : Th Sto), (m : Th PMap), u⟩ K _ _ ho h
 obtain ⟨s, rfl⟩ := th_ex s; obtain ⟨m, rfl⟩ := th_ex m
 obtain ⟨hpre, h⟩ := h
 have hpre := stoOk_iff.1 hpre.out
 refine ⟨noAnn, noAnn, 20, ?_⟩
 cbv
 repeat' first | ((with_reducible intro _); cbv) | (with_reducible refine And.intro ?_ ?_)
 all_goals first | (refine retK h ?_; clear h; simp only [fin0]) | (with_reducible refine Ob.mk ?_; clear h) | (clear h)
 all_goals (try simp only [eta0, RT.bytes] at *)
 all_goals grind [stoState]
theorem okSStoState : SpecOk1 Tryz.prog 228 sStoState := spec1 tabOk (ss := [(82, sStoOk), (126, sLogFold)]) ⟨okSStoOk, okNLogFold, trivial⟩ rfl rfl <| by
 intro (bs : Th (List Int)) (p : Th Int) ⟨(m : Th PMap), (s : Th Sto), u⟩ K _ _ ho h
 obtain ⟨m, rfl⟩ := th_ex m; obtain ⟨s, rfl⟩ := th_ex s
 have hso := @stoOk_iff m s
 refine ⟨noAnn, noAnn, 20, ?_⟩
 cbv
 repeat' first | ((with_reducible intro _); cbv) | (with_reducible refine And.intro ?_ ?_)
 all_goals first | (refine retK h ?_; clear h; simp only [fin0]) | (with_reducible refine Ob.mk ?_; clear h) | (clear h)
 all_goals (try simp only [eta0, RT.bytes] at *)
 all_goals grind [stoStateX, stoState, zeroC, logFold]
theorem okSStoFence : SpecOk1 Tryz.prog 227 sStoFence := spec1 tabOk (ss := [(82, sStoOk), (75, sIn), (123, sCloneS)]) ⟨okSStoOk, okL1In, okL6Copy, trivial⟩ rfl rfl <| by
 intro (bs : Th (List Int)) (p : Th Int) ⟨(m : Th PMap), (s : Th Sto), (a : Th Int), u⟩ K _ _ ho h
 obtain ⟨m, rfl⟩ := th_ex m; obtain ⟨s, rfl⟩ := th_ex s; obtain ⟨a, rfl⟩ := th_ex a
 refine ⟨noAnn, noAnn, 20, ?_⟩
 cbv
 repeat' first | ((with_reducible intro _); cbv) | (with_reducible refine And.intro ?_ ?_)
 all_goals first | (refine retK h ?_; clear h; simp only [fin0]) | (with_reducible refine Ob.mk ?_; clear h) | (clear h)
 all_goals (try simp only [eta0, RT.bytes] at *)
 all_goals grind [stoFence, zeroS, zeroC, inR]
theorem okSStoAppend : SpecOk1 Tryz.prog 229 sStoAppend := spec1 tabOk (ss := [(82, sStoOk), (123, sCloneS), (126, sLogFold), (174, sL6Apply)]) ⟨okSStoOk, okL6Copy, okNLogFold, okL6Apply, trivial⟩ rfl rfl <| by
 intro (bs : Th (List Int)) (p : Th Int) ⟨(m : Th PMap), (s : Th Sto), (a : Th Int), (b : Th Int), (r : Th Sx.Rec), u⟩ K _ _ ho h
 obtain ⟨m, rfl⟩ := th_ex m; obtain ⟨s, rfl⟩ := th_ex s; obtain ⟨a, rfl⟩ := th_ex a; obtain ⟨b, rfl⟩ := th_ex b; obtain ⟨r, rfl⟩ := th_ex r
 have hso := @stoOk_iff m s
 have hst := @state_ok m s
 refine ⟨noAnn, noAnn, 20, ?_⟩
 cbv
 repeat' first | ((with_reducible intro _); cbv) | (with_reducible refine And.intro ?_ ?_)
 all_goals first | (refine retK h ?_; clear h; simp only [fin0]) | (with_reducible refine Ob.mk ?_; clear h) | (clear h)
 all_goals (try simp only [eta0, RT.bytes] at *)
 all_goals grind [stoAppend, stoAdd, stoState, zeroS, zeroC, logFold, cllApplyL]
def nHld : List (Option RT) := [none, none, none, some .wlk, none, some .pcls, some .int, some .int]
noncomputable def sCloneH : Sx.Spec := ⟨false, true, [.row .hld], [nHld], fun _ _ ⟨h, _⟩ => .ret (oHld h, fun _ => 0)⟩
noncomputable def sHldOk : Sx.Spec := ⟨false, true, [.map, .row .hld], [], fun _ _ ⟨m, h, _⟩ => .ret (vB fun _ => hldOk (m ()) (h ()), fun _ => 0)⟩
noncomputable def sHldOpen : Sx.Spec := ⟨false, true, [.map, .row .sto, .int .i64], [nHld, nSto, [none]], fun _ _ ⟨m, s, a, _⟩ => .ret (.tup [oHld fun _ => (hldOpen (m ()) (s ()) (a ())).h, oSto fun _ => (hldOpen (m ()) (s ()) (a ())).s, vB fun _ => (hldOpen (m ()) (s ()) (a ())).ok], fun _ => 0)⟩
noncomputable def sHldWrite : Sx.Spec := ⟨false, true, [.map, .row .hld, .row .sto, .row .rcd], [nHld, nSto, [none], [none]], fun _ _ ⟨m, h, s, r, _⟩ => .ret (.tup [oHld fun _ => (hldWrite (m ()) (h ()) (s ()) (r ())).h, oSto fun _ => (hldWrite (m ()) (h ()) (s ()) (r ())).s, vI fun _ => (hldWrite (m ()) (h ()) (s ()) (r ())).n, vI fun _ => (hldWrite (m ()) (h ()) (s ()) (r ())).k], fun _ => 0)⟩
theorem okCloneH : SpecOk1 Tryz.prog 107 sCloneH := spec1 tabOk (ss := [(154, sCloneC)]) ⟨okCloneC, trivial⟩ rfl rfl <| by
 intro (bs : Th (List Int)) (p : Th Int) ⟨(g : Th Hld), u⟩ K _ _ ho h
 obtain ⟨g, rfl⟩ := th_ex g
 refine ⟨noAnn, noAnn, 20, ?_⟩
 cbv
 repeat' first | ((with_reducible intro _); cbv) | (with_reducible refine And.intro ?_ ?_)
 all_goals first | (refine retK h ?_; clear h; simp only [fin0]) | (with_reducible refine Ob.mk ?_; clear h) | (clear h)
 all_goals (try simp only [eta0, RT.bytes] at *)
 all_goals grind
theorem okHldOk : SpecOk1 Tryz.prog 90 sHldOk := spec1 tabOk (ss := [(53, sIn), (135, sCllOk)]) ⟨okIn, okCllOk, trivial⟩ rfl rfl <| by
 intro (bs : Th (List Int)) (p : Th Int) ⟨(m : Th PMap), (g : Th Hld), u⟩ K _ _ ho h
 obtain ⟨m, rfl⟩ := th_ex m; obtain ⟨g, rfl⟩ := th_ex g
 have hso := @hldOk_iff m g
 refine ⟨noAnn, noAnn, 20, ?_⟩
 cbv
 repeat' first | ((with_reducible intro _); cbv) | (with_reducible refine And.intro ?_ ?_)
 all_goals first | (refine retK h ?_; clear h; simp only [fin0]) | (with_reducible refine Ob.mk ?_; clear h) | (clear h)
 all_goals (try simp only [eta0, RT.bytes] at *)
 all_goals grind [inR]
theorem open_fence {m : PMap} {s : Sto} {a : Int} (h : stoOk m s = true) (h1 : 1 ≤ a) (h2 : a ≤ 900) : ((stoFence m s a).ok = false → hldOpen m s a = ⟨zeroH, (stoFence m s a).s, false⟩) ∧
  ((stoFence m s a).ok = true → hldOpen m s a = ⟨⟨a, (stoFence m s a).s.recs.length, stoStateX m (stoFence m s a).s⟩, (stoFence m s a).s, true⟩) := by
 have hc : stoOk m s = true ∧ 0 ≤ a ∧ a ≤ 900 := ⟨h, by omega, h2⟩
 have ha := age_ok h (a := a) (by omega) h2
 unfold stoFence hldOpen
 have hd : stoOk m s = true ∧ 1 ≤ a ∧ a ≤ 900 := ⟨h, h1, h2⟩
 rw [if_pos hc, if_pos hd]
 by_cases hl : a < s.age
 ·rw [if_pos hl]
  exact ⟨fun _ => (by first | rw [if_pos hl] | rfl), fun hh => by cases hh⟩
 ·rw [if_neg hl]
  refine ⟨fun hh => (by cases hh), fun _ => ?_⟩
  first
   | rw [if_neg hl, ha.2, stateX h]
   | rw [ha.2, stateX h]
theorem write_eqs {m : PMap} {g : Hld} {s : Sto} {r : Sx.Rec} (hg : hldOk m g = true) (hs : stoOk m s = true) :
  (¬ (stoAppend m s g.age g.count r).n = 1 → hldWrite m g s r = ⟨g, s, (stoAppend m s g.age g.count r).n, 0⟩ ∧ (stoAppend m s g.age g.count r).s = s) ∧
  ((stoAppend m s g.age g.count r).n = 1 → (cllApplyX m g.state r).ok = false → hldWrite m g s r = ⟨g, s, 4, 0⟩) ∧
  ((stoAppend m s g.age g.count r).n = 1 → (cllApplyX m g.state r).ok = true → hldWrite m g s r = ⟨⟨g.age, g.count + 1, (cllApplyX m g.state r).c⟩, (stoAppend m s g.age g.count r).s, 1, (cllApplyX m g.state r).code⟩) ∧ (-10 ≤ g.count ∧ g.count ≤ 250) := by
 have hg2 := hldOk_iff.1 hg
 have hno := @append_not m s g.age g.count r hs
 have hc : hldOk m g = true ∧ stoOk m s = true := ⟨hg, hs⟩
 refine ⟨fun hn => ⟨?_, hno hn⟩, fun hn ho => ?_, fun hn ho => ?_, by omega⟩
 ·rw [append_add hs] at hn ⊢
  rw [hldWrite, if_pos hc, if_pos hn]
 ·rw [append_add hs] at hn
  have hl : logOk m r = true := by
   rcases add_cases m s g.age g.count r with ⟨_, h2⟩ | ⟨_, _, _, _, _, h6, _⟩
   ·omega
   ·exact h6
  rw [apX hg2.2.2 hl] at ho
  rw [hldWrite, if_pos hc, if_neg (fun hh => hh hn), if_pos ho]
 ·rw [append_add hs] at hn ⊢
  have hl : logOk m r = true := by
   rcases add_cases m s g.age g.count r with ⟨_, h2⟩ | ⟨_, _, _, _, _, h6, _⟩
   ·omega
   ·exact h6
  rw [apX hg2.2.2 hl] at ho ⊢
  rw [hldWrite, if_pos hc, if_neg (fun hh => hh hn), if_neg (by rw [ho]; decide)]
theorem write_zero {m : PMap} {g : Hld} {s : Sto} {r : Sx.Rec} (h : hldOk m g = false ∨ stoOk m s = false) : hldWrite m g s r = ⟨zeroH, zeroS, 0, 0⟩ := by
 rw [hldWrite, if_neg]
 rintro ⟨h1, h2⟩
 rcases h with h | h <;> simp_all
theorem okIsHold : SpecOk1 Tryz.prog 55 sIsH := spec1 tabOk (ss := [(86, sIsC)]) ⟨okIsCell, trivial⟩ rfl rfl <| by
 intro (bs : Th (List Int)) (p : Th Int) ⟨(a : Th Hld), (b : Th Hld), u⟩ K _ _ ho h
 obtain ⟨a, rfl⟩ := th_ex a; obtain ⟨b, rfl⟩ := th_ex b
 refine ⟨noAnn, noAnn, 20, ?_⟩
 cbv
 repeat' first | ((with_reducible intro _); cbv) | (with_reducible refine And.intro ?_ ?_)
 all_goals first | (refine retK h ?_; clear h; simp only [fin0]) | (with_reducible refine Ob.mk ?_; clear h) | (clear h)
 all_goals (try simp only [eta0, RT.bytes] at *)
 all_goals grind [hld_ext]
theorem okSHldOk : SpecOk1 Tryz.prog 128 sHldOk := spec1 tabOk (ss := [(75, sIn), (125, sCllOk)]) ⟨okL1In, okSCllOk, trivial⟩ rfl rfl <| by
 intro (bs : Th (List Int)) (p : Th Int) ⟨(m : Th PMap), (g : Th Hld), u⟩ K _ _ ho h
 obtain ⟨m, rfl⟩ := th_ex m; obtain ⟨g, rfl⟩ := th_ex g
 have hso := @hldOk_iff m g
 refine ⟨noAnn, noAnn, 20, ?_⟩
 cbv
 repeat' first | ((with_reducible intro _); cbv) | (with_reducible refine And.intro ?_ ?_)
 all_goals first | (refine retK h ?_; clear h; simp only [fin0]) | (with_reducible refine Ob.mk ?_; clear h) | (clear h)
 all_goals (try simp only [eta0, RT.bytes] at *)
 all_goals grind [inR]
theorem okL7Copy : SpecOk1 Tryz.prog 124 sCloneH := spec1 tabOk (ss := [(170, sCloneC)]) ⟨okL5Copy, trivial⟩ rfl rfl <| by
 intro (bs : Th (List Int)) (p : Th Int) ⟨(g : Th Hld), u⟩ K _ _ ho h
 obtain ⟨g, rfl⟩ := th_ex g
 refine ⟨noAnn, noAnn, 20, ?_⟩
 cbv
 repeat' first | ((with_reducible intro _); cbv) | (with_reducible refine And.intro ?_ ?_)
 all_goals first | (refine retK h ?_; clear h; simp only [fin0]) | (with_reducible refine Ob.mk ?_; clear h) | (clear h)
 all_goals (try simp only [eta0, RT.bytes] at *)
 all_goals grind
theorem okSHldOpen : SpecOk1 Tryz.prog 199 sHldOpen := spec1 tabOk (ss := [(82, sStoOk), (75, sIn), (227, sStoFence), (228, sStoState)]) ⟨okSStoOk, okL1In, okSStoFence, okSStoState, trivial⟩ rfl rfl <| by
 intro (bs : Th (List Int)) (p : Th Int) ⟨(m : Th PMap), (s : Th Sto), (a : Th Int), u⟩ K _ _ ho h
 obtain ⟨m, rfl⟩ := th_ex m; obtain ⟨s, rfl⟩ := th_ex s; obtain ⟨a, rfl⟩ := th_ex a
 have hop := @open_fence m s a
 have hb1 : stoOk m s = false → hldOpen m s a = ⟨zeroH, zeroS, false⟩ := fun hh => by
  rw [hldOpen, if_neg (fun h3 => by simp_all)]
 have hb2 : inR a 1 900 = false → hldOpen m s a = ⟨zeroH, zeroS, false⟩ := fun hh => by
  simp only [inR, decide_eq_false_iff_not] at hh
  rw [hldOpen, if_neg (fun h3 => hh h3.2)]
 have hb3 : inR a 1 900 = true → 1 ≤ a ∧ a ≤ 900 := fun hh => by simpa [inR] using hh
 refine ⟨noAnn, noAnn, 20, ?_⟩
 cbv
 repeat' first | ((with_reducible intro _); cbv) | (with_reducible refine And.intro ?_ ?_)
 all_goals first | (refine retK h ?_; clear h; simp only [fin0]) | (with_reducible refine Ob.mk ?_; clear h) | (clear h)
 all_goals (try simp only [eta0, RT.bytes] at *)
 all_goals grind [zeroS, zeroC, zeroH]
theorem okSHldWrite : SpecOk1 Tryz.prog 203 sHldWrite := spec1 tabOk (ss := [(128, sHldOk), (82, sStoOk), (229, sStoAppend), (124, sCloneH), (230, sLogApply), (123, sCloneS)]) ⟨okSHldOk, okSStoOk, okSStoAppend, okL7Copy, okSLogApply, okL6Copy, trivial⟩ rfl rfl <| by
 intro (bs : Th (List Int)) (p : Th Int) ⟨(m : Th PMap), (g : Th Hld), (s : Th Sto), (r : Th Sx.Rec), u⟩ K _ _ ho h
 obtain ⟨m, rfl⟩ := th_ex m; obtain ⟨g, rfl⟩ := th_ex g; obtain ⟨s, rfl⟩ := th_ex s; obtain ⟨r, rfl⟩ := th_ex r
 have hw := @write_eqs m g s r
 have hz := @write_zero m g s r
 refine ⟨noAnn, noAnn, 20, ?_⟩
 cbv
 repeat' first | ((with_reducible intro _); cbv) | (with_reducible refine And.intro ?_ ?_)
 all_goals first | (refine retK h ?_; clear h; simp only [fin0]) | (with_reducible refine Ob.mk ?_; clear h) | (clear h)
 all_goals (try simp only [eta0, RT.bytes] at *)
 all_goals grind [zeroS, zeroC, zeroH, wrap_id]
end Go.Proofs.YtjdaiobeiimpfaaGreat
