/-
  Contracts: an order taken by the book.
-/
import Derived.Test.YtfgphaokmjdcbaaGreatGnB
import Derived.Test.YtfgphaokmjdcbaaGreatS4f
import Derived.Test.YtfgphaokmjdcbaaGreatM2
set_option linter.unusedVariables false
set_option linter.unusedSimpArgs false
namespace Go.Sx
theorem setNth_fnI {t : RT} (l : Th (List t.ty)) (i : Th Int) (f : Th t.ty) : setNth t l i f = fun _ => (l ()).set (i ()).toNat (f ()) := rfl
theorem ioK {α : Type} {K : V × Th α → Prop} {u v : V} {x y : α} (h : K (u, fun _ => x)) (e1 : v = u) (e2 : y = x) : K (v, fun _ => y) := by
  rw [e1, e2]
  exact h
abbrev ioX (s : Io) : SpecX := .raw (callIo s)
end Go.Sx
namespace Go.Proofs.YtfgphaokmjdcbaaGreat
open Go.Sx Go.Proofs Go.Mo
set_option maxRecDepth 100000
set_option maxHeartbeats 8000000
set_option linter.unusedSimpArgs false
set_option linter.unusedVariables false

noncomputable def sIsB : Sx.Spec := ⟨false, true, [.book, .book], [], fun _ _ ⟨a, b, _⟩ => .ret (vB fun _ => decide (a () = b ()), fun _ => 0)⟩

theorem okSGwyAsk : SpecOk1 Tryz.prog 222 sGwyAsk := spec1 tabOk (ss := [(14, sGwyOk), (43, sCloneB), (44, sRowPlace), (50, sOrdOk)]) ⟨okSGwyOk, okL12Copy, okL12At, okSOrdOk, trivial⟩ rfl rfl <| by
  intro (bs : Th (List Int)) (p : Th Int) ⟨(m : Th PMap), (l : Th (List Row)), (w : Th Int), (k : Th Int), (d : Th Int), (n : Th Int), u⟩ K _ _ ho h
  obtain ⟨m, rfl⟩ := th_ex m; obtain ⟨l, rfl⟩ := th_ex l; obtain ⟨w, rfl⟩ := th_ex w; obtain ⟨k, rfl⟩ := th_ex k; obtain ⟨d, rfl⟩ := th_ex d; obtain ⟨n, rfl⟩ := th_ex n
  have hs := @gwy_seqB m l
  have hp := row_lt l w
  have hlt0 : ¬ rowPlace l w = -1 → (rowPlace l w).toNat < l.length := fun h => by omega
  have hq := fun (h : gwyOk m l = true) => gwy_seqB h (rowPlace l w).toNat
  refine ⟨noAnn, noAnn, 20, ?_⟩
  cbv
  repeat' first | ((with_reducible intro _); cbv) | ((with_reducible show _ ∧ _); (with_reducible apply And.intro))
  all_goals first | (refine retK h ?_; clear h; simp only [fin0]) | (with_reducible refine Ob.mk ?_; clear h) | (clear h)
  all_goals (try simp only [eta0, RT.bytes] at *)
  all_goals (try have hlt := hlt0 (by assumption))
  all_goals (try simp only [nth_set_eq .row hlt, List.set_set, List.length_set] at *)
  all_goals (try simp only [setNth_fnI, nth_set_eq .row hlt, List.set_set, List.length_set, th_eq, thp_eq])
  all_goals grind [gwyAskX, gwyAsk, askOrd, wrap_id]
theorem okMaBook : SpecOk1 Tryz.prog 13 sIsB := spec1 tabOk (ss := []) trivial rfl rfl <| by
  intro (bs : Th (List Int)) (p : Th Int) ⟨(a : Th (List Row)), (b : Th (List Row)), u⟩ K _ _ ho h
  obtain ⟨a, rfl⟩ := th_ex a; obtain ⟨b, rfl⟩ := th_ex b
  have hl := okL (ho.1 _ (.head _))
  refine ⟨annL [(13, 4, ⟨Nat, [], fun σ k => σ.t 5 (vI fun _ => (k : Int)), fun _ k _ => k ≤ a.length ∧ a.length = b.length ∧ same .row a b k, fun _ k _ => a.length - k⟩)], noAnn, 20, ?_⟩
  cbv
  repeat' first | ((with_reducible refine fun (k : Nat) => ?_); cbv) | ((with_reducible intro _); cbv) | ((with_reducible show _ ∧ _); (with_reducible apply And.intro))
  all_goals try ((first | (with_reducible refine LoopIn.mk ((0 : Nat)) ?_ ?_) | (with_reducible refine LoopBack.mk ((k + 1 : Nat)) ?_ ?_ ?_)) )
  all_goals try ((with_reducible show matchSt _ _); cbv; (try simp only [and_true, true_and]))
  all_goals try (with_reducible show _ ∧ _; (repeat' (with_reducible apply And.intro)))
  all_goals first | (refine retK h ?_; clear h; simp only [fin0]) | (with_reducible refine Ob.mk ?_; clear h) | (clear h)
  all_goals (try simp only [eta0, RT.bytes] at *)
  all_goals grind [wrap_succ, same_zero, same_succ, same_all, row_ext, ord_ext]
end Go.Proofs.YtfgphaokmjdcbaaGreat

/-
  Contracts: what the gateway hears and says; grants.
-/
namespace Go.Proofs.YtfgphaokmjdcbaaGreat
open Go.Sx Go.Proofs Go.Mo
set_option maxRecDepth 100000
set_option maxHeartbeats 8000000
set_option linter.unusedSimpArgs false
set_option linter.unusedVariables false

noncomputable def sHearP : Sx.Io := ⟨.book, true, [.map, .row .msg], [], fun l ⟨m, x, _⟩ => .asrt (fun _ => gwyOk (m ()) (l ()) = true) (.ret (vB fun _ => (gwyHear (m ()) (l ()) (x ())).ok, fun _ => (gwyHear (m ()) (l ()) (x ())).b))⟩
noncomputable def sGwySay : Sx.Spec := ⟨false, true, [.map, .book, .arb, .int .i64, .int .i64], [[none, none, none, none, none, none, none, none, none, none, none, none, none, none, none, none, none, none, none, none, none, none, none, none, none], [none]], fun _ _ ⟨m, l, t, s, w, _⟩ => .ret (.tup [oMsg fun _ => (gwySayX (m ()) (l ()) (t ()) (s ()) (w ())).x, vB fun _ => (gwySayX (m ()) (l ()) (t ()) (s ()) (w ())).ok], fun _ => 0)⟩
noncomputable def sArbGrant : Sx.Spec := ⟨false, true, [.map, .arb, .int .i64, .int .i64, .int .i64], [[some .int, some .int], [none]], fun _ _ ⟨m, t, s, c, v, _⟩ => .ret (.tup [oArb fun _ => (arbGrantX (m ()) (t ()) (s ()) (c ()) (v ())).t, vB fun _ => (arbGrantX (m ()) (t ()) (s ()) (c ()) (v ())).ok], fun _ => 0)⟩

theorem gwy_cellB {m : PMap} {l : List Row} (h : gwyOk m l = true) : 2 ≤ m.cells ∧ m.cells ≤ 4 ∧ ∀ k, k < l.length → 0 ≤ (nth .row l k).cell ∧ (nth .row l k).cell < m.cells := by
  have hp : plcOk m = true := by
    unfold gwyOk at h
    rw [Bool.and_eq_true] at h
    exact h.1
  obtain ⟨h1, h2, _, _⟩ := plcOk_iff.1 hp
  refine ⟨h1, h2, fun k hk => ?_⟩
  have := (gwy_at h hk).1
  simp only [rowOk, decide_eq_true_eq] at this
  exact ⟨this.2.2.1, this.2.2.2.1⟩
theorem cell_rem {c n : Int} (h0 : 0 ≤ c) (h1 : c < n) (h2 : n ≤ 4) : 0 ≤ (c + 1).tmod n ∧ (c + 1).tmod n ≤ 4 := by
  constructor
  · exact Int.tmod_nonneg _ (by omega)
  · have := Int.tmod_lt_of_pos (c + 1) (show 0 < n by omega)
    omega
theorem okHearP : SpecOk1 Tryz.prog 42 (ioX sHearP) := io1 tabOk (ss := [(101, sRowPlace)]) ⟨okRow, trivial⟩ rfl rfl <| by
  intro (l : Th (List Row)) ⟨(m : Th PMap), (x : Th Msg), u⟩ K _ ho h
  obtain ⟨l, rfl⟩ := th_ex l; obtain ⟨m, rfl⟩ := th_ex m; obtain ⟨x, rfl⟩ := th_ex x
  obtain ⟨ha, h⟩ := h
  have ha := ha.out
  have hp := row_lt l x.ord.who
  obtain ⟨hm1, hm2, hc⟩ := gwy_cellB ha
  have hq := hc (rowPlace l x.ord.who).toNat
  have hr := @cell_rem (nth .row l (rowPlace l x.ord.who).toNat).cell m.cells
  refine ⟨noAnn, noAnn, 20, ?_⟩
  cbv
  repeat' first | ((with_reducible intro _); cbv) | ((with_reducible show _ ∧ _); (with_reducible apply And.intro))
  all_goals first | refine ioK h ?_ ?_ | (with_reducible refine Ob.mk ?_; clear h) | (clear h)
  all_goals (try clear h)
  all_goals (try clear K)
  all_goals (try simp only [fin0])
  all_goals (try simp only [eta0, RT.bytes] at *)
  all_goals (try have hlt : (rowPlace l x.ord.who).toNat < l.length := (by clear ho; grind))
  all_goals (try simp only [setNth_app, nth_set_eq .row hlt, List.set_set, List.length_set] at *)
  all_goals (try have hw := wrap_id (n := (nth .row l (rowPlace l x.ord.who).toNat).cell + 1) (by have := hq hlt; omega) (by have := hq hlt; omega))
  all_goals (try simp only [hw] at *)
  all_goals (try simp only [gwyHear, Mo.rowAt] at *)
  all_goals (try generalize ((nth RT.row l (rowPlace l x.ord.who).toNat).cell + 1).tmod m.cells = q at *)
  all_goals grind [gwyHear, Mo.rowAt, wrap_id, zeroOrd, ord_ext]
theorem okSGwySay : SpecOk1 Tryz.prog 223 sGwySay := spec1 tabOk (ss := [(14, sGwyOk), (67, sArbOk), (44, sRowPlace), (161, sArbServer)]) ⟨okSGwyOk, okSArbOk, okL12At, okSArbServer, trivial⟩ rfl rfl <| by
  intro (bs : Th (List Int)) (p : Th Int) ⟨(m : Th PMap), (l : Th (List Row)), (t : Th Arb), (s : Th Int), (w : Th Int), u⟩ K _ _ ho h
  obtain ⟨m, rfl⟩ := th_ex m; obtain ⟨l, rfl⟩ := th_ex l; obtain ⟨t, rfl⟩ := th_ex t; obtain ⟨s, rfl⟩ := th_ex s; obtain ⟨w, rfl⟩ := th_ex w
  have hp := row_lt l w
  refine ⟨noAnn, noAnn, 20, ?_⟩
  cbv
  repeat' first | ((with_reducible intro _); cbv) | ((with_reducible show _ ∧ _); (with_reducible apply And.intro))
  all_goals first | (refine retK h ?_; clear h; simp only [fin0]) | (with_reducible refine Ob.mk ?_; clear h) | (clear h)
  all_goals (try simp only [eta0, RT.bytes] at *)
  all_goals grind (splits := 60) [gwySayX, gwySay, Mo.rowAt, zeroMsg, zeroOrd, zeroPcl, zeroGst]
theorem okSArbGrant : SpecOk1 Tryz.prog 235 sArbGrant := spec1 tabOk (ss := [(67, sArbOk), (47, sIn)]) ⟨okSArbOk, okL1In, trivial⟩ rfl rfl <| by
  intro (bs : Th (List Int)) (p : Th Int) ⟨(m : Th PMap), (t : Th Arb), (s : Th Int), (c : Th Int), (v : Th Int), u⟩ K _ _ ho h
  obtain ⟨m, rfl⟩ := th_ex m; obtain ⟨t, rfl⟩ := th_ex t; obtain ⟨s, rfl⟩ := th_ex s; obtain ⟨c, rfl⟩ := th_ex c; obtain ⟨v, rfl⟩ := th_ex v
  have hl := okB (ho.2.1 _ (.head _))
  have hl2 := okB (ho.2.1 _ (.tail _ (.head _)))
  have hc0 := fun (k : Nat) => @arb_cell m t s k
  have hcc := hc0 c.toNat
  clear hc0
  refine ⟨noAnn, noAnn, 20, ?_⟩
  cbv
  repeat' first | ((with_reducible intro _); cbv) | ((with_reducible show _ ∧ _); (with_reducible apply And.intro))
  all_goals first | (refine retK h ?_; clear h; simp only [fin0]) | (with_reducible refine Ob.mk ?_; clear h) | (clear h)
  all_goals (try simp only [eta0, RT.bytes] at *)
  all_goals (try simp only [setNth_fnI, List.nil_append, List.set_set, List.length_set, th_eq, thp_eq] at *)
  all_goals grind (splits := 40) [arbGrantX, arbGrant, arbOk, arbHead, arbAt, inR, wrap_id]
end Go.Proofs.YtfgphaokmjdcbaaGreat
