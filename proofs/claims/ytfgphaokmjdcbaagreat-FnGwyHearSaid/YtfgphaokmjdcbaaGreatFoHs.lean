/-
  Contracts: holds.
-/
import Derived.Test.YtfgphaokmjdcbaaGreatFoD
import Derived.Test.YtfgphaokmjdcbaaGreatInsW
set_option linter.unusedVariables false
set_option linter.unusedSimpArgs false
namespace Go.Proofs.YtfgphaokmjdcbaaGreat
open Go.Sx Go.Proofs Go.Mo
set_option maxRecDepth 100000
set_option maxHeartbeats 8000000
set_option linter.unusedSimpArgs false
set_option linter.unusedVariables false

def nHld : List (Option RT) := [none, none, none, some .wlk, none, some .pcls, some .int, some .int]
noncomputable def sCloneH : Sx.Spec := ⟨false, true, [.row .hld], [nHld], fun _ _ ⟨h, _⟩ => .ret (oHld h, fun _ => 0)⟩
noncomputable def sHldOk : Sx.Spec := ⟨false, true, [.map, .row .hld], [], fun _ _ ⟨m, h, _⟩ => .ret (vB fun _ => hldOk (m ()) (h ()), fun _ => 0)⟩
noncomputable def sHldOpen : Sx.Spec := ⟨false, true, [.map, .row .sto, .int .i64], [nHld, nSto, [none]], fun _ _ ⟨m, s, a, _⟩ => .ret (.tup [oHld fun _ => (hldOpen (m ()) (s ()) (a ())).h, oSto fun _ => (hldOpen (m ()) (s ()) (a ())).s, vB fun _ => (hldOpen (m ()) (s ()) (a ())).ok], fun _ => 0)⟩
noncomputable def sHldWrite : Sx.Spec := ⟨false, true, [.map, .row .hld, .row .sto, .row .rcd], [nHld, nSto, [none], [none]], fun _ _ ⟨m, h, s, r, _⟩ => .ret (.tup [oHld fun _ => (hldWrite (m ()) (h ()) (s ()) (r ())).h, oSto fun _ => (hldWrite (m ()) (h ()) (s ()) (r ())).s, vI fun _ => (hldWrite (m ()) (h ()) (s ()) (r ())).n, vI fun _ => (hldWrite (m ()) (h ()) (s ()) (r ())).k], fun _ => 0)⟩

end Go.Proofs.YtfgphaokmjdcbaaGreat

/-
  Contracts: holds, by the document.
-/
namespace Go.Proofs.YtfgphaokmjdcbaaGreat
open Go.Sx Go.Proofs Go.Mo
set_option maxRecDepth 100000
set_option maxHeartbeats 1000000
set_option linter.unusedSimpArgs false
set_option linter.unusedVariables false

theorem open_fence {m : PMap} {s : Sto} {a : Int} (h : stoOk m s = true) (h1 : 1 ≤ a) (h2 : a ≤ 900) : ((stoFence m s a).ok = false → hldOpen m s a = ⟨zeroH, (stoFence m s a).s, false⟩) ∧
    ((stoFence m s a).ok = true → hldOpen m s a = ⟨⟨a, (stoFence m s a).s.recs.length, stoStateX m (stoFence m s a).s⟩, (stoFence m s a).s, true⟩) := by
  have hc : stoOk m s = true ∧ 0 ≤ a ∧ a ≤ 900 := ⟨h, by omega, h2⟩
  have ha := age_ok h (a := a) (by omega) h2
  unfold stoFence hldOpen
  have hd : stoOk m s = true ∧ 1 ≤ a ∧ a ≤ 900 := ⟨h, h1, h2⟩
  rw [if_pos hc, if_pos hd]
  by_cases hl : a < s.age
  · rw [if_pos hl]
    exact ⟨fun _ => (by first | rw [if_pos hl] | rfl), fun hh => by cases hh⟩
  · rw [if_neg hl]
    refine ⟨fun hh => (by cases hh), fun _ => ?_⟩
    first
      | rw [if_neg hl, ha.2, stateX h]
      | rw [ha.2, stateX h]
theorem write_eqs {m : PMap} {g : Hld} {s : Sto} {r : Sx.Rec} (hg : hldOk m g = true) (hs : stoOk m s = true) :
    (¬ (stoAppend m s g.age g.count r).n = 1 → hldWrite m g s r = ⟨g, s, (stoAppend m s g.age g.count r).n, 0⟩ ∧ (stoAppend m s g.age g.count r).s = s) ∧
    ((stoAppend m s g.age g.count r).n = 1 → (cllApplyX m g.state r).ok = false → hldWrite m g s r = ⟨g, s, 4, 0⟩) ∧
    ((stoAppend m s g.age g.count r).n = 1 → (cllApplyX m g.state r).ok = true → hldWrite m g s r = ⟨⟨g.age, g.count + 1, (cllApplyX m g.state r).c⟩, (stoAppend m s g.age g.count r).s, 1, (cllApplyX m g.state r).code⟩) ∧ (-10 ≤ g.count ∧ g.count ≤ 250) := by
  have hg2 := hldOk_iff.1 hg
  have hno := @append_not m s g.age g.count r hs
  have hc : hldOk m g = true ∧ stoOk m s = true := ⟨hg, hs⟩
  refine ⟨fun hn => ⟨?_, hno hn⟩, fun hn ho => ?_, fun hn ho => ?_, by omega⟩
  · rw [append_add hs] at hn ⊢
    rw [hldWrite, if_pos hc, if_pos hn]
  · rw [append_add hs] at hn
    have hl : logOk m r = true := by
      rcases add_cases m s g.age g.count r with ⟨_, h2⟩ | ⟨_, _, _, _, _, h6, _⟩
      · omega
      · exact h6
    rw [apX hg2.2.2 hl] at ho
    rw [hldWrite, if_pos hc, if_neg (fun hh => hh hn), if_pos ho]
  · rw [append_add hs] at hn ⊢
    have hl : logOk m r = true := by
      rcases add_cases m s g.age g.count r with ⟨_, h2⟩ | ⟨_, _, _, _, _, h6, _⟩
      · omega
      · exact h6
    rw [apX hg2.2.2 hl] at ho ⊢
    rw [hldWrite, if_pos hc, if_neg (fun hh => hh hn), if_neg (by rw [ho]; decide)]
theorem write_zero {m : PMap} {g : Hld} {s : Sto} {r : Sx.Rec} (h : hldOk m g = false ∨ stoOk m s = false) : hldWrite m g s r = ⟨zeroH, zeroS, 0, 0⟩ := by
  rw [hldWrite, if_neg]
  rintro ⟨h1, h2⟩
  rcases h with h | h <;> simp_all

theorem okSHldOk : SpecOk1 Tryz.prog 115 sHldOk := spec1 tabOk (ss := [(47, sIn), (142, sCllOk)]) ⟨okL1In, okSCllOk, trivial⟩ rfl rfl <| by
  intro (bs : Th (List Int)) (p : Th Int) ⟨(m : Th PMap), (g : Th Hld), u⟩ K _ _ ho h
  obtain ⟨m, rfl⟩ := th_ex m; obtain ⟨g, rfl⟩ := th_ex g
  have hso := @hldOk_iff m g
  refine ⟨noAnn, noAnn, 20, ?_⟩
  cbv
  repeat' first | ((with_reducible intro _); cbv) | ((with_reducible show _ ∧ _); (with_reducible apply And.intro))
  all_goals first | (refine retK h ?_; clear h; simp only [fin0]) | (with_reducible refine Ob.mk ?_; clear h) | (clear h)
  all_goals (try simp only [eta0, RT.bytes] at *)
  all_goals grind [inR]
theorem okL7Copy : SpecOk1 Tryz.prog 89 sCloneH := spec1 tabOk (ss := [(135, sCloneC)]) ⟨okL5Copy, trivial⟩ rfl rfl <| by
  intro (bs : Th (List Int)) (p : Th Int) ⟨(g : Th Hld), u⟩ K _ _ ho h
  obtain ⟨g, rfl⟩ := th_ex g
  refine ⟨noAnn, noAnn, 20, ?_⟩
  cbv
  repeat' first | ((with_reducible intro _); cbv) | ((with_reducible show _ ∧ _); (with_reducible apply And.intro))
  all_goals first | (refine retK h ?_; clear h; simp only [fin0]) | (with_reducible refine Ob.mk ?_; clear h) | (clear h)
  all_goals (try simp only [eta0, RT.bytes] at *)
  all_goals grind
theorem okSHldOpen : SpecOk1 Tryz.prog 117 sHldOpen := spec1 tabOk (ss := [(93, sStoOk), (47, sIn), (160, sStoFence), (35, sStoState)]) ⟨okSStoOk, okL1In, okSStoFence, okSStoState, trivial⟩ rfl rfl <| by
  intro (bs : Th (List Int)) (p : Th Int) ⟨(m : Th PMap), (s : Th Sto), (a : Th Int), u⟩ K _ _ ho h
  obtain ⟨m, rfl⟩ := th_ex m; obtain ⟨s, rfl⟩ := th_ex s; obtain ⟨a, rfl⟩ := th_ex a
  have hop := @open_fence m s a
  have hb1 : stoOk m s = false → hldOpen m s a = ⟨zeroH, zeroS, false⟩ := fun hh => by
    rw [hldOpen, if_neg (fun h3 => by simp_all)]
  have hb2 : inR a 1 900 = false → hldOpen m s a = ⟨zeroH, zeroS, false⟩ := fun hh => by
    simp only [inR, decide_eq_false_iff_not] at hh
    rw [hldOpen, if_neg (fun h3 => hh h3.2)]
  have hb3 : inR a 1 900 = true → 1 ≤ a ∧ a ≤ 900 := fun hh => by simpa [inR] using hh
  refine ⟨noAnn, noAnn, 20, ?_⟩
  cbv
  repeat' first | ((with_reducible intro _); cbv) | ((with_reducible show _ ∧ _); (with_reducible apply And.intro))
  all_goals first | (refine retK h ?_; clear h; simp only [fin0]) | (with_reducible refine Ob.mk ?_; clear h) | (clear h)
  all_goals (try simp only [eta0, RT.bytes] at *)
  all_goals grind [zeroS, zeroC, zeroH]
theorem okSHldWrite : SpecOk1 Tryz.prog 121 sHldWrite := spec1 tabOk (ss := [(115, sHldOk), (93, sStoOk), (162, sStoAppend), (89, sCloneH), (163, sLogApply), (116, sCloneS)]) ⟨okSHldOk, okSStoOk, okSStoAppend, okL7Copy, okSLogApply, okL6Copy, trivial⟩ rfl rfl <| by
  intro (bs : Th (List Int)) (p : Th Int) ⟨(m : Th PMap), (g : Th Hld), (s : Th Sto), (r : Th Sx.Rec), u⟩ K _ _ ho h
  obtain ⟨m, rfl⟩ := th_ex m; obtain ⟨g, rfl⟩ := th_ex g; obtain ⟨s, rfl⟩ := th_ex s; obtain ⟨r, rfl⟩ := th_ex r
  have hw := @write_eqs m g s r
  have hz := @write_zero m g s r
  refine ⟨noAnn, noAnn, 20, ?_⟩
  cbv
  repeat' first | ((with_reducible intro _); cbv) | ((with_reducible show _ ∧ _); (with_reducible apply And.intro))
  all_goals first | (refine retK h ?_; clear h; simp only [fin0]) | (with_reducible refine Ob.mk ?_; clear h) | (clear h)
  all_goals (try simp only [eta0, RT.bytes] at *)
  all_goals grind [zeroS, zeroC, zeroH, wrap_id]

end Go.Proofs.YtfgphaokmjdcbaaGreat
