/-
  Contracts: a walker put among others.
-/
import Derived.Test.YtfgphaokmjdcbaaGreatInsW
import Derived.Test.YtfgphaokmjdcbaaGreatM1
import Derived.Test.YtfgphaokmjdcbaaGreatGnB
import Derived.Test.YtfgphaokmjdcbaaGreatS4f
import Derived.Test.YtfgphaokmjdcbaaGreatM2
set_option linter.unusedVariables false
set_option linter.unusedSimpArgs false
namespace Go.Proofs.YtfgphaokmjdcbaaGreat
open Go.Sx Go.Proofs Go.Mo
set_option maxRecDepth 100000
set_option maxHeartbeats 8000000
set_option linter.unusedSimpArgs false
set_option linter.unusedVariables false

noncomputable def sWlkPut : Sx.Spec := ⟨false, true, [.list .wlk, .row .wlk], [[some .wlk]], fun _ _ ⟨l, w, _⟩ => .asrt (fun _ => ((l ()).length + 1) * 40 ≤ 140737488355328) (.ret (vW .wlk fun _ => wlkPut (l ()) (w ()), fun _ => 0))⟩

theorem okSWlkPut : SpecOk1 Tryz.prog 184 sWlkPut := spec1 tabOk (ss := [(202, sWlkOut)]) ⟨okSWlkOut, trivial⟩ rfl rfl <| by
  intro (bs : Th (List Int)) (p : Th Int) ⟨(l : Th (List Wlk)), (w : Th Wlk), u⟩ K _ _ ho h
  obtain ⟨l, rfl⟩ := th_ex l; obtain ⟨w, rfl⟩ := th_ex w
  obtain ⟨hp, h⟩ := h
  have hp := hp.out
  have hl := wlkOut_len l w.id
  have hz := putTo_len (wlkOut l w.id) w
  refine ⟨annL [(184, 5, ⟨Nat, [⟨.tmp 6 0, some 14, .wlk⟩], fun σ k => ((((σ.fg 14).t 8 (vI fun _ => (k : Int))).t 6 (vO 14 1)).t 7 (vB fun _ => putDone (wlkOut l w.id) w k)).row 14 1 .wlk (fun _ => putTo (wlkOut l w.id) w k), fun _ k _ => k ≤ (wlkOut l w.id).length, fun _ k _ => (wlkOut l w.id).length - k⟩)], noAnn, 20, ?_⟩
  cbv
  repeat' first | ((with_reducible refine fun (k : Nat) => ?_); cbv) | ((with_reducible intro _); cbv) | ((with_reducible show _ ∧ _); (with_reducible apply And.intro))
  all_goals try ((first | (with_reducible refine LoopIn.mk ((0 : Nat)) ?_ ?_) | (with_reducible refine LoopBack.mk ((k + 1 : Nat)) ?_ ?_ ?_)) )
  all_goals try ((with_reducible show matchSt _ _); cbv; (try simp only [and_true, true_and]))
  all_goals try (with_reducible show _ ∧ _; (repeat' (with_reducible apply And.intro)))
  all_goals first | (refine retK h ?_; clear h; simp only [fin0]) | (with_reducible refine Ob.mk ?_; clear h) | (clear h)
  all_goals (try simp only [eta0, RT.bytes] at *)
  all_goals grind [putTo_zero, putDone_zero, putTo_succ1, putTo_succ2, putTo_succ3, putDone_succ1, putDone_succ2, putDone_succ3, putTo_end1, putTo_end2, putTo_len2, wrap_succ, wlkPut_eq]

theorem okWlkPut : SpecOk1 Tryz.prog 193 sWlkPut := spec1 tabOk (ss := [(140, sWlkOut), (136, sCloneW), (212, .raw (insM .wlk))]) ⟨okWlkOut, okCloneW, okInsert, trivial⟩ rfl rfl <| by
  intro (bs : Th (List Int)) (p : Th Int) ⟨(l : Th (List Wlk)), (w : Th Wlk), u⟩ K _ _ ho h
  obtain ⟨l, rfl⟩ := th_ex l; obtain ⟨w, rfl⟩ := th_ex w
  obtain ⟨hp, h⟩ := h
  have hp := hp.out
  have hl := wlkOut_len l w.id
  have hlt := above_lt (wlkOut l w.id) w.id
  refine ⟨annL [(170, 2, ⟨Nat, [], fun σ k => σ.t 8 (vI fun _ => (k : Int)), fun _ k _ => k ≤ (wlkOut l w.id).length ∧ allTo k (nab (wlkOut l w.id) w.id) = true, fun _ k _ => (wlkOut l w.id).length - k⟩)], noAnn, 20, ?_⟩
  cbv
  repeat' first | ((with_reducible refine fun (k : Nat) => ?_); cbv) | ((with_reducible intro _); cbv) | ((with_reducible show _ ∧ _); (with_reducible apply And.intro))
  all_goals try ((first | (with_reducible refine LoopIn.mk ((0 : Nat)) ?_ ?_) | (with_reducible refine LoopBack.mk ((k + 1 : Nat)) ?_ ?_ ?_)) )
  all_goals try ((with_reducible show matchSt _ _); cbv; (try simp only [and_true, true_and]))
  all_goals try (with_reducible show _ ∧ _; (repeat' (with_reducible apply And.intro)))
  all_goals first | (refine retK h ?_; clear h; simp only [fin0]) | (with_reducible refine Ob.mk ?_; clear h) | (clear h)
  all_goals (try simp only [eta0, RT.bytes] at *)
  all_goals grind [allTo_zero, allTo_succ, nab, above, above_at, above_none, wlkPut_eq, putPos, insL_len, wrap_succ]

end Go.Proofs.YtfgphaokmjdcbaaGreat

/-
  Contracts: cells asked.
-/
namespace Go.Proofs.YtfgphaokmjdcbaaGreat
open Go.Sx Go.Proofs Go.Mo
set_option maxRecDepth 100000
set_option maxHeartbeats 8000000
set_option linter.unusedSimpArgs false
set_option linter.unusedVariables false

theorem okSCllOk : SpecOk1 Tryz.prog 142 sCllOk := spec1 tabOk (ss := [(45, sPlcOk), (47, sIn), (172, sWlkListOkS), (103, sPlcCell), (173, sL5Side)]) ⟨okSPlcOk, okL1In, okSWlkListOk, okSPlcCell, okL5Side, trivial⟩ rfl rfl <| by
  intro (bs : Th (List Int)) (p : Th Int) ⟨(m : Th PMap), (c : Th Cll), u⟩ K _ _ ho h
  obtain ⟨m, rfl⟩ := th_ex m; obtain ⟨c, rfl⟩ := th_ex c
  obtain ⟨hw, hou, hoi, hn, hi, _, _⟩ := okCll ho.2.1
  have hi := plcOk_iff (m := m)
  refine ⟨annL [(142, 4, ⟨Nat, [], fun σ k => (σ.t 5 (vI fun _ => (k : Int))), fun _ k _ => k ≤ c.wlks.length ∧ cllHead m c = true ∧ allTo k (wlkIn m c) = true, fun _ k _ => c.wlks.length - k⟩)], noAnn, 20, ?_⟩
  cbv
  repeat' first | ((with_reducible refine fun (k : Nat) => ?_); cbv) | ((with_reducible intro _); cbv) | ((with_reducible show _ ∧ _); (with_reducible apply And.intro))
  all_goals try ((first | (with_reducible refine LoopIn.mk ((0 : Nat)) ?_ ?_) | (with_reducible refine LoopBack.mk ((k + 1 : Nat)) ?_ ?_ ?_)) )
  all_goals try ((with_reducible show matchSt _ _); cbv; (try simp only [and_true, true_and]))
  all_goals try (with_reducible show _ ∧ _; (repeat' (with_reducible apply And.intro)))
  all_goals first | (refine retK h ?_; clear h; simp only [fin0]) | (with_reducible refine Ob.mk ?_; clear h) | (clear h)
  all_goals (try simp only [eta0, RT.bytes] at *)
  all_goals grind [inR, allTo_zero, allTo_succ, wlkIn, cllHead, cllOk, cllOk_bad1, cllOk_bad2, wrap_succ, wrap_id]

end Go.Proofs.YtfgphaokmjdcbaaGreat

/-
  Contracts: an order taken by the book.
-/
namespace Go.Sx
theorem setNth_fnI {t : RT} (l : Th (List t.ty)) (i : Th Int) (f : Th t.ty) : setNth t l i f = fun _ => (l ()).set (i ()).toNat (f ()) := rfl
theorem ioK {α : Type} {K : V × Th α → Prop} {u v : V} {x y : α} (h : K (u, fun _ => x)) (e1 : v = u) (e2 : y = x) : K (v, fun _ => y) := by
  rw [e1, e2]
  exact h
abbrev ioX (s : Io) : SpecX := .raw (callIo s)
end Go.Sx
namespace Go.Proofs.YtfgphaokmjdcbaaGreat
open Go.Sx Go.Proofs Go.Mo
set_option maxRecDepth 100000
set_option maxHeartbeats 8000000
set_option linter.unusedSimpArgs false
set_option linter.unusedVariables false

theorem okSGwyAsk : SpecOk1 Tryz.prog 222 sGwyAsk := spec1 tabOk (ss := [(14, sGwyOk), (43, sCloneB), (44, sRowPlace), (50, sOrdOk)]) ⟨okSGwyOk, okL12Copy, okL12At, okSOrdOk, trivial⟩ rfl rfl <| by
  intro (bs : Th (List Int)) (p : Th Int) ⟨(m : Th PMap), (l : Th (List Row)), (w : Th Int), (k : Th Int), (d : Th Int), (n : Th Int), u⟩ K _ _ ho h
  obtain ⟨m, rfl⟩ := th_ex m; obtain ⟨l, rfl⟩ := th_ex l; obtain ⟨w, rfl⟩ := th_ex w; obtain ⟨k, rfl⟩ := th_ex k; obtain ⟨d, rfl⟩ := th_ex d; obtain ⟨n, rfl⟩ := th_ex n
  have hs := @gwy_seqB m l
  have hp := row_lt l w
  have hlt0 : ¬ rowPlace l w = -1 → (rowPlace l w).toNat < l.length := fun h => by omega
  have hq := fun (h : gwyOk m l = true) => gwy_seqB h (rowPlace l w).toNat
  refine ⟨noAnn, noAnn, 20, ?_⟩
  cbv
  repeat' first | ((with_reducible intro _); cbv) | ((with_reducible show _ ∧ _); (with_reducible apply And.intro))
  all_goals first | (refine retK h ?_; clear h; simp only [fin0]) | (with_reducible refine Ob.mk ?_; clear h) | (clear h)
  all_goals (try simp only [eta0, RT.bytes] at *)
  all_goals (try have hlt := hlt0 (by assumption))
  all_goals (try simp only [nth_set_eq .row hlt, List.set_set, List.length_set] at *)
  all_goals (try simp only [setNth_fnI, nth_set_eq .row hlt, List.set_set, List.length_set, th_eq, thp_eq])
  all_goals grind [gwyAskX, gwyAsk, askOrd, wrap_id]
end Go.Proofs.YtfgphaokmjdcbaaGreat

/-
  Contracts: what the gateway hears and says; grants.
-/
namespace Go.Proofs.YtfgphaokmjdcbaaGreat
open Go.Sx Go.Proofs Go.Mo
set_option maxRecDepth 100000
set_option maxHeartbeats 8000000
set_option linter.unusedSimpArgs false
set_option linter.unusedVariables false

noncomputable def sGwySay : Sx.Spec := ⟨false, true, [.map, .book, .arb, .int .i64, .int .i64], [[none, none, none, none, none, none, none, none, none, none, none, none, none, none, none, none, none, none, none, none, none, none, none, none, none], [none]], fun _ _ ⟨m, l, t, s, w, _⟩ => .ret (.tup [oMsg fun _ => (gwySayX (m ()) (l ()) (t ()) (s ()) (w ())).x, vB fun _ => (gwySayX (m ()) (l ()) (t ()) (s ()) (w ())).ok], fun _ => 0)⟩
noncomputable def sArbGrant : Sx.Spec := ⟨false, true, [.map, .arb, .int .i64, .int .i64, .int .i64], [[some .int, some .int], [none]], fun _ _ ⟨m, t, s, c, v, _⟩ => .ret (.tup [oArb fun _ => (arbGrantX (m ()) (t ()) (s ()) (c ()) (v ())).t, vB fun _ => (arbGrantX (m ()) (t ()) (s ()) (c ()) (v ())).ok], fun _ => 0)⟩

theorem gwy_cellB {m : PMap} {l : List Row} (h : gwyOk m l = true) : 2 ≤ m.cells ∧ m.cells ≤ 4 ∧ ∀ k, k < l.length → 0 ≤ (nth .row l k).cell ∧ (nth .row l k).cell < m.cells := by
  have hp : plcOk m = true := by
    unfold gwyOk at h
    rw [Bool.and_eq_true] at h
    exact h.1
  obtain ⟨h1, h2, _, _⟩ := plcOk_iff.1 hp
  refine ⟨h1, h2, fun k hk => ?_⟩
  have := (gwy_at h hk).1
  simp only [rowOk, decide_eq_true_eq] at this
  exact ⟨this.2.2.1, this.2.2.2.1⟩
theorem cell_rem {c n : Int} (h0 : 0 ≤ c) (h1 : c < n) (h2 : n ≤ 4) : 0 ≤ (c + 1).tmod n ∧ (c + 1).tmod n ≤ 4 := by
  constructor
  · exact Int.tmod_nonneg _ (by omega)
  · have := Int.tmod_lt_of_pos (c + 1) (show 0 < n by omega)
    omega
theorem okSGwySay : SpecOk1 Tryz.prog 223 sGwySay := spec1 tabOk (ss := [(14, sGwyOk), (67, sArbOk), (44, sRowPlace), (161, sArbServer)]) ⟨okSGwyOk, okSArbOk, okL12At, okSArbServer, trivial⟩ rfl rfl <| by
  intro (bs : Th (List Int)) (p : Th Int) ⟨(m : Th PMap), (l : Th (List Row)), (t : Th Arb), (s : Th Int), (w : Th Int), u⟩ K _ _ ho h
  obtain ⟨m, rfl⟩ := th_ex m; obtain ⟨l, rfl⟩ := th_ex l; obtain ⟨t, rfl⟩ := th_ex t; obtain ⟨s, rfl⟩ := th_ex s; obtain ⟨w, rfl⟩ := th_ex w
  have hp := row_lt l w
  refine ⟨noAnn, noAnn, 20, ?_⟩
  cbv
  repeat' first | ((with_reducible intro _); cbv) | ((with_reducible show _ ∧ _); (with_reducible apply And.intro))
  all_goals first | (refine retK h ?_; clear h; simp only [fin0]) | (with_reducible refine Ob.mk ?_; clear h) | (clear h)
  all_goals (try simp only [eta0, RT.bytes] at *)
  all_goals grind (splits := 60) [gwySayX, gwySay, Mo.rowAt, zeroMsg, zeroOrd, zeroPcl, zeroGst]
theorem okSArbGrant : SpecOk1 Tryz.prog 235 sArbGrant := spec1 tabOk (ss := [(67, sArbOk), (47, sIn)]) ⟨okSArbOk, okL1In, trivial⟩ rfl rfl <| by
  intro (bs : Th (List Int)) (p : Th Int) ⟨(m : Th PMap), (t : Th Arb), (s : Th Int), (c : Th Int), (v : Th Int), u⟩ K _ _ ho h
  obtain ⟨m, rfl⟩ := th_ex m; obtain ⟨t, rfl⟩ := th_ex t; obtain ⟨s, rfl⟩ := th_ex s; obtain ⟨c, rfl⟩ := th_ex c; obtain ⟨v, rfl⟩ := th_ex v
  have hl := okB (ho.2.1 _ (.head _))
  have hl2 := okB (ho.2.1 _ (.tail _ (.head _)))
  have hc0 := fun (k : Nat) => @arb_cell m t s k
  have hcc := hc0 c.toNat
  clear hc0
  refine ⟨noAnn, noAnn, 20, ?_⟩
  cbv
  repeat' first | ((with_reducible intro _); cbv) | ((with_reducible show _ ∧ _); (with_reducible apply And.intro))
  all_goals first | (refine retK h ?_; clear h; simp only [fin0]) | (with_reducible refine Ob.mk ?_; clear h) | (clear h)
  all_goals (try simp only [eta0, RT.bytes] at *)
  all_goals (try simp only [setNth_fnI, List.nil_append, List.set_set, List.length_set, th_eq, thp_eq] at *)
  all_goals grind (splits := 40) [arbGrantX, arbGrant, arbOk, arbHead, arbAt, inR, wrap_id]
end Go.Proofs.YtfgphaokmjdcbaaGreat
