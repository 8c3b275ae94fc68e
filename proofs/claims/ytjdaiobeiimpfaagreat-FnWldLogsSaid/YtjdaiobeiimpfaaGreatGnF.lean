/-
  Contracts: messages, the book.
-/
import Derived.Test.YtjdaiobeiimpfaaGreatFnFb
import Derived.Test.YtjdaiobeiimpfaaGreatInsW
import Derived.Test.YtjdaiobeiimpfaaGreatM1
import Derived.Test.YtjdaiobeiimpfaaGreatS4f
import Derived.Test.YtjdaiobeiimpfaaGreatM2
set_option linter.unusedVariables false
set_option linter.unusedSimpArgs false
set_option maxRecDepth 100000
set_option maxHeartbeats 8000000
namespace Go.Proofs.YtjdaiobeiimpfaaGreat
open Go.Sx Go.Proofs Go.Mo
noncomputable def sRowOk : Sx.Spec := ⟨false, true, [.map, .row .row], [], fun _ _ ⟨m, r, _⟩ => .asrt (fun _ => plcOk (m ()) = true) (.ret (vB fun _ => rowOk (m ()) (r ()), fun _ => 0))⟩
noncomputable def sGwyOk : Sx.Spec := ⟨false, true, [.map, .book], [], fun _ _ ⟨m, l, _⟩ => .ret (vB fun _ => gwyOk (m ()) (l ()), fun _ => 0)⟩
noncomputable def sRowPlace : Sx.Spec := ⟨false, true, [.book, .int .i64], [], fun _ _ ⟨l, w, _⟩ => .ret (vI fun _ => rowPlace (l ()) (w ()), fun _ => 0)⟩
noncomputable def sCloneB : Sx.Spec := ⟨false, true, [.book], [[some .row]], fun _ _ ⟨l, _⟩ => .ret (oAs [.list .row l], fun _ => 0)⟩
noncomputable def sGwyAsk : Sx.Spec := ⟨false, true, [.map, .book, .int .i64, .int .i64, .int .i64, .int .i64], [[some .row], [none]], fun _ _ ⟨m, l, w, k, d, n, _⟩ => .ret (.tup [oAs [.list .row fun _ => (gwyAskX (m ()) (l ()) (w ()) (k ()) (d ()) (n ())).b], vB fun _ => (gwyAskX (m ()) (l ()) (w ()) (k ()) (d ()) (n ())).ok], fun _ => 0)⟩
theorem okL12Row : SpecOk1 Tryz.prog 83 sRowOk := spec1 tabOk (ss := [(75, sIn), (116, sOrdOk)]) ⟨okL1In, okSOrdOk, trivial⟩ rfl rfl <| by
 intro (bs : Th (List Int)) (p : Th Int) ⟨(m : Th PMap), (r : Th Row), u⟩ K _ _ ho h
 obtain ⟨m, rfl⟩ := th_ex m; obtain ⟨r, rfl⟩ := th_ex r
 obtain ⟨ha, h⟩ := h
 have ha := ha.out
 refine ⟨noAnn, noAnn, 20, ?_⟩
 cbv
 repeat' first | ((with_reducible intro _); cbv) | (with_reducible refine And.intro ?_ ?_)
 all_goals first | (refine retK h ?_; clear h; simp only [fin0]) | (with_reducible refine Ob.mk ?_; clear h) | (clear h)
 all_goals (try simp only [eta0, RT.bytes] at *)
 all_goals grind (splits := 20) [rowOk, inR, zeroO, wrap_id, plcOk]
theorem okGwyOk : SpecOk1 Tryz.prog 45 sGwyOk := spec1 tabOk (ss := [(52, sIsWalker), (53, sIn), (89, sOrdOk), (41, sPlcOk)]) ⟨okIsWalker, okIn, okOrdOk, okPlcOk, trivial⟩ rfl rfl <| by
 intro (bs : Th (List Int)) (p : Th Int) ⟨(m : Th PMap), (l : Th (List Row)), u⟩ K _ _ ho h
 obtain ⟨m, rfl⟩ := th_ex m; obtain ⟨l, rfl⟩ := th_ex l
 have hl := okL (ho.2.1 _ (.head _))
 refine ⟨annL [(45, 2, ⟨Nat, [], fun σ k => σ.t 10 (vI fun _ => (k : Int)), fun _ k _ => k ≤ l.length ∧ (plcOk m = true → allTo k (gwRowAt m l) = true), fun _ k _ => l.length - k⟩)], noAnn, 20, ?_⟩
 cbv
 repeat' first | ((with_reducible refine fun (k : Nat) => ?_); cbv) | ((with_reducible intro _); cbv) | (with_reducible refine And.intro ?_ ?_)
 all_goals try ((first | (with_reducible refine LoopIn.mk ((0 : Nat)) ?_ ?_) | (with_reducible refine LoopBack.mk ((k + 1 : Nat)) ?_ ?_ ?_)) )
 all_goals try ((with_reducible show matchSt _ _); cbv; (try simp only [and_true, true_and]))
 all_goals try (repeat' with_reducible refine And.intro ?_ ?_)
 all_goals first | (refine retK h ?_; clear h; simp only [fin0]) | (with_reducible refine Ob.mk ?_; clear h) | (clear h)
 all_goals (try simp only [eta0, RT.bytes] at *)
 all_goals (try have hwp : IntKind.i64.wrap ((k : Int) - 1) = ((k - 1 : Nat) : Int) := wrap_pred (by omega) (by omega))
 all_goals (try simp only [hwp, Int.toNat_natCast] at *)
 all_goals (by_cases hpo : plcOk m = true)
 all_goals grind (splits := 20) [plcOk, wrap_succ, wrap_id, gwy_bad1, gwy_bad2, gwy_all, gwyOk, gwRowAt, rowOk, zeroO, allTo_zero, allTo_succ, inR]
theorem okSGwyOk : SpecOk1 Tryz.prog 37 sGwyOk := spec1 tabOk (ss := [(34, sPlcOk), (83, sRowOk)]) ⟨okSPlcOk, okL12Row, trivial⟩ rfl rfl <| by
 intro (bs : Th (List Int)) (p : Th Int) ⟨(m : Th PMap), (l : Th (List Row)), u⟩ K _ _ ho h
 obtain ⟨m, rfl⟩ := th_ex m; obtain ⟨l, rfl⟩ := th_ex l
 have hl := okL (ho.2.1 _ (.head _))
 refine ⟨annL [(37, 4, ⟨Nat, [], fun σ k => σ.t 5 (vI fun _ => (k : Int)), fun _ k _ => k ≤ l.length ∧ plcOk m = true ∧ allTo k (gwRowAt m l) = true, fun _ k _ => l.length - k⟩)], noAnn, 20, ?_⟩
 cbv
 repeat' first | ((with_reducible refine fun (k : Nat) => ?_); cbv) | ((with_reducible intro _); cbv) | (with_reducible refine And.intro ?_ ?_)
 all_goals try ((first | (with_reducible refine LoopIn.mk ((0 : Nat)) ?_ ?_) | (with_reducible refine LoopBack.mk ((k + 1 : Nat)) ?_ ?_ ?_)) )
 all_goals try ((with_reducible show matchSt _ _); cbv; (try simp only [and_true, true_and]))
 all_goals try (repeat' with_reducible refine And.intro ?_ ?_)
 all_goals first | (refine retK h ?_; clear h; simp only [fin0]) | (with_reducible refine Ob.mk ?_; clear h) | (clear h)
 all_goals (try simp only [eta0, RT.bytes] at *)
 all_goals grind [wrap_succ, wrap_id, gwy_bad1, gwy_bad2, gwy_all, gwyOk, gwRowAt, allTo_zero, allTo_succ]
theorem okRow : SpecOk1 Tryz.prog 108 sRowPlace := spec1 tabOk (ss := []) trivial rfl rfl <| by
 intro (bs : Th (List Int)) (p : Th Int) ⟨(l : Th (List Row)), (w : Th Int), u⟩ K _ _ ho h
 obtain ⟨l, rfl⟩ := th_ex l; obtain ⟨w, rfl⟩ := th_ex w
 have hl := okL (ho.1 _ (.head _))
 refine ⟨annL [(155, 2, ⟨Nat, [], fun σ k => σ.t 8 (vI fun _ => (k : Int)), fun _ k _ => k ≤ l.length ∧ allTo k (nwho l w) = true, fun _ k _ => l.length - k⟩)], noAnn, 20, ?_⟩
 cbv
 repeat' first | ((with_reducible refine fun (k : Nat) => ?_); cbv) | ((with_reducible intro _); cbv) | (with_reducible refine And.intro ?_ ?_)
 all_goals try ((first | (with_reducible refine LoopIn.mk ((0 : Nat)) ?_ ?_) | (with_reducible refine LoopBack.mk ((k + 1 : Nat)) ?_ ?_ ?_)) )
 all_goals try ((with_reducible show matchSt _ _); cbv; (try simp only [and_true, true_and]))
 all_goals try (repeat' with_reducible refine And.intro ?_ ?_)
 all_goals first | (refine retK h ?_; clear h; simp only [fin0]) | (with_reducible refine Ob.mk ?_; clear h) | (clear h)
 all_goals (try simp only [eta0, RT.bytes] at *)
 all_goals grind [allTo_zero, allTo_succ, nwho, isWho, row_at, row_none, wrap_succ]
theorem okL12At : SpecOk1 Tryz.prog 115 sRowPlace := spec1 tabOk (ss := []) trivial rfl rfl <| by
 intro (bs : Th (List Int)) (p : Th Int) ⟨(l : Th (List Row)), (w : Th Int), u⟩ K _ _ ho h
 obtain ⟨l, rfl⟩ := th_ex l; obtain ⟨w, rfl⟩ := th_ex w
 have hl := okL (ho.1 _ (.head _))
 refine ⟨annL [(115, 2, ⟨Nat, [], fun σ k => σ.t 5 (vI fun _ => (k : Int)), fun _ k _ => k ≤ l.length ∧ allTo k (nwho l w) = true, fun _ k _ => l.length - k⟩)], noAnn, 20, ?_⟩
 cbv
 repeat' first | ((with_reducible refine fun (k : Nat) => ?_); cbv) | ((with_reducible intro _); cbv) | (with_reducible refine And.intro ?_ ?_)
 all_goals try ((first | (with_reducible refine LoopIn.mk ((0 : Nat)) ?_ ?_) | (with_reducible refine LoopBack.mk ((k + 1 : Nat)) ?_ ?_ ?_)) )
 all_goals try ((with_reducible show matchSt _ _); cbv; (try simp only [and_true, true_and]))
 all_goals try (repeat' with_reducible refine And.intro ?_ ?_)
 all_goals first | (refine retK h ?_; clear h; simp only [fin0]) | (with_reducible refine Ob.mk ?_; clear h) | (clear h)
 all_goals (try simp only [eta0, RT.bytes] at *)
 all_goals grind [allTo_zero, allTo_succ, nwho, isWho, row_at, row_none, wrap_succ]
theorem okCloneB : SpecOk1 Tryz.prog 61 sCloneB := spec1 tabOk (ss := []) trivial rfl rfl <| by
 intro (bs : Th (List Int)) (p : Th Int) ⟨(l : Th (List Row)), u⟩ K _ _ ho h
 obtain ⟨l, rfl⟩ := th_ex l
 have hl := okB (ho.1 _ (.head _))
 refine ⟨noAnn, noAnn, 20, ?_⟩
 cbv
 repeat' first | ((with_reducible intro _); cbv) | (with_reducible refine And.intro ?_ ?_)
 all_goals first | (refine retK h ?_; clear h; simp only [fin0]) | (with_reducible refine Ob.mk ?_; clear h) | (clear h)
 all_goals (try simp only [eta0, RT.bytes] at *)
 all_goals grind
theorem okL12Copy : SpecOk1 Tryz.prog 80 sCloneB := spec1 tabOk (ss := []) trivial rfl rfl <| by
 intro (bs : Th (List Int)) (p : Th Int) ⟨(l : Th (List Row)), u⟩ K _ _ ho h
 obtain ⟨l, rfl⟩ := th_ex l
 have hl := okB (ho.1 _ (.head _))
 refine ⟨noAnn, noAnn, 20, ?_⟩
 cbv
 repeat' first | ((with_reducible intro _); cbv) | (with_reducible refine And.intro ?_ ?_)
 all_goals first | (refine retK h ?_; clear h; simp only [fin0]) | (with_reducible refine Ob.mk ?_; clear h) | (clear h)
 all_goals (try simp only [eta0, RT.bytes] at *)
 all_goals grind
noncomputable def sWlkPut : Sx.Spec := ⟨false, true, [.list .wlk, .row .wlk], [[some .wlk]], fun _ _ ⟨l, w, _⟩ => .asrt (fun _ => ((l ()).length + 1) * 40 ≤ 140737488355328) (.ret (vW .wlk fun _ => wlkPut (l ()) (w ()), fun _ => 0))⟩
theorem okSWlkPut : SpecOk1 Tryz.prog 147 sWlkPut := spec1 tabOk (ss := [(183, sWlkOut)]) ⟨okSWlkOut, trivial⟩ rfl rfl <| by
 intro (bs : Th (List Int)) (p : Th Int) ⟨(l : Th (List Wlk)), (w : Th Wlk), u⟩ K _ _ ho h
 obtain ⟨l, rfl⟩ := th_ex l; obtain ⟨w, rfl⟩ := th_ex w
 obtain ⟨hp, h⟩ := h
 have hp := hp.out
 have hl := wlkOut_len l w.id
 have hz := putTo_len (wlkOut l w.id) w
 refine ⟨annL [(147, 5, ⟨Nat, [⟨.tmp 6 0, some 14, .wlk⟩], fun σ k => ((((σ.fg 14).t 8 (vI fun _ => (k : Int))).t 6 (vO 14 1)).t 7 (vB fun _ => putDone (wlkOut l w.id) w k)).row 14 1 .wlk (fun _ => putTo (wlkOut l w.id) w k), fun _ k _ => k ≤ (wlkOut l w.id).length, fun _ k _ => (wlkOut l w.id).length - k⟩)], noAnn, 20, ?_⟩
 cbv
 repeat' first | ((with_reducible refine fun (k : Nat) => ?_); cbv) | ((with_reducible intro _); cbv) | (with_reducible refine And.intro ?_ ?_)
 all_goals try ((first | (with_reducible refine LoopIn.mk ((0 : Nat)) ?_ ?_) | (with_reducible refine LoopBack.mk ((k + 1 : Nat)) ?_ ?_ ?_)) )
 all_goals try ((with_reducible show matchSt _ _); cbv; (try simp only [and_true, true_and]))
 all_goals try (repeat' with_reducible refine And.intro ?_ ?_)
 all_goals first | (refine retK h ?_; clear h; simp only [fin0]) | (with_reducible refine Ob.mk ?_; clear h) | (clear h)
 all_goals (try simp only [eta0, RT.bytes] at *)
 all_goals grind [putTo_zero, putDone_zero, putTo_succ1, putTo_succ2, putTo_succ3, putDone_succ1, putDone_succ2, putDone_succ3, putTo_end1, putTo_end2, putTo_len2, wrap_succ, wlkPut_eq]
theorem okWlkPut : SpecOk1 Tryz.prog 236 sWlkPut := spec1 tabOk (ss := [(234, sWlkOut), (191, sCloneW), (250, .raw (insM .wlk))]) ⟨okWlkOut, okCloneW, okInsert, trivial⟩ rfl rfl <| by
 intro (bs : Th (List Int)) (p : Th Int) ⟨(l : Th (List Wlk)), (w : Th Wlk), u⟩ K _ _ ho h
 obtain ⟨l, rfl⟩ := th_ex l; obtain ⟨w, rfl⟩ := th_ex w
 obtain ⟨hp, h⟩ := h
 have hp := hp.out
 have hl := wlkOut_len l w.id
 have hlt := above_lt (wlkOut l w.id) w.id
 refine ⟨annL [(242, 2, ⟨Nat, [], fun σ k => σ.t 8 (vI fun _ => (k : Int)), fun _ k _ => k ≤ (wlkOut l w.id).length ∧ allTo k (nab (wlkOut l w.id) w.id) = true, fun _ k _ => (wlkOut l w.id).length - k⟩)], noAnn, 20, ?_⟩
 cbv
 repeat' first | ((with_reducible refine fun (k : Nat) => ?_); cbv) | ((with_reducible intro _); cbv) | (with_reducible refine And.intro ?_ ?_)
 all_goals try ((first | (with_reducible refine LoopIn.mk ((0 : Nat)) ?_ ?_) | (with_reducible refine LoopBack.mk ((k + 1 : Nat)) ?_ ?_ ?_)) )
 all_goals try ((with_reducible show matchSt _ _); cbv; (try simp only [and_true, true_and]))
 all_goals try (repeat' with_reducible refine And.intro ?_ ?_)
 all_goals first | (refine retK h ?_; clear h; simp only [fin0]) | (with_reducible refine Ob.mk ?_; clear h) | (clear h)
 all_goals (try simp only [eta0, RT.bytes] at *)
 all_goals grind [allTo_zero, allTo_succ, nab, above, above_at, above_none, wlkPut_eq, putPos, insL_len, wrap_succ]
theorem okSCllOk : SpecOk1 Tryz.prog 125 sCllOk := spec1 tabOk (ss := [(34, sPlcOk), (75, sIn), (171, sWlkListOkS), (172, sPlcCell), (173, sL5Side)]) ⟨okSPlcOk, okL1In, okSWlkListOk, okSPlcCell, okL5Side, trivial⟩ rfl rfl <| by
 intro (bs : Th (List Int)) (p : Th Int) ⟨(m : Th PMap), (c : Th Cll), u⟩ K _ _ ho h
 obtain ⟨m, rfl⟩ := th_ex m; obtain ⟨c, rfl⟩ := th_ex c
 obtain ⟨hw, hou, hoi, hn, hi, _, _⟩ := okCll ho.2.1
 have hi := plcOk_iff (m := m)
 refine ⟨annL [(125, 4, ⟨Nat, [], fun σ k => (σ.t 5 (vI fun _ => (k : Int))), fun _ k _ => k ≤ c.wlks.length ∧ cllHead m c = true ∧ allTo k (wlkIn m c) = true, fun _ k _ => c.wlks.length - k⟩)], noAnn, 20, ?_⟩
 cbv
 repeat' first | ((with_reducible refine fun (k : Nat) => ?_); cbv) | ((with_reducible intro _); cbv) | (with_reducible refine And.intro ?_ ?_)
 all_goals try ((first | (with_reducible refine LoopIn.mk ((0 : Nat)) ?_ ?_) | (with_reducible refine LoopBack.mk ((k + 1 : Nat)) ?_ ?_ ?_)) )
 all_goals try ((with_reducible show matchSt _ _); cbv; (try simp only [and_true, true_and]))
 all_goals try (repeat' with_reducible refine And.intro ?_ ?_)
 all_goals first | (refine retK h ?_; clear h; simp only [fin0]) | (with_reducible refine Ob.mk ?_; clear h) | (clear h)
 all_goals (try simp only [eta0, RT.bytes] at *)
 all_goals grind [inR, allTo_zero, allTo_succ, wlkIn, cllHead, cllOk, cllOk_bad1, cllOk_bad2, wrap_succ, wrap_id]
end Go.Proofs.YtjdaiobeiimpfaaGreat
namespace Go.Sx
theorem setNth_fnI {t : RT} (l : Th (List t.ty)) (i : Th Int) (f : Th t.ty) : setNth t l i f = fun _ => (l ()).set (i ()).toNat (f ()) := rfl
theorem ioK {α : Type} {K : V × Th α → Prop} {u v : V} {x y : α} (h : K (u, fun _ => x)) (e1 : v = u) (e2 : y = x) : K (v, fun _ => y) := by
 rw [e1, e2]
 exact h
abbrev ioX (s : Io) : SpecX := .raw (callIo s)
end Go.Sx
namespace Go.Proofs.YtjdaiobeiimpfaaGreat
open Go.Sx Go.Proofs Go.Mo
noncomputable def sAskP : Sx.Io := ⟨.book, true, [.int .i64, .int .i64, .int .i64, .int .i64], [], fun l ⟨w, k, d, n, _⟩ => .asrt (fun _ => seqB (l ())) (.ret (vB fun _ => (gwyAsk (l ()) (w ()) (k ()) (d ()) (n ())).ok, fun _ => (gwyAsk (l ()) (w ()) (k ()) (d ()) (n ())).b))⟩
noncomputable def sIsB : Sx.Spec := ⟨false, true, [.book, .book], [], fun _ _ ⟨a, b, _⟩ => .ret (vB fun _ => decide (a () = b ()), fun _ => 0)⟩
theorem okAskP : SpecOk1 Tryz.prog 65 (ioX sAskP) := io1 tabOk (ss := [(108, sRowPlace), (89, sOrdOk)]) ⟨okRow, okOrdOk, trivial⟩ rfl rfl <| by
 intro (l : Th (List Row)) ⟨(w : Th Int), (k : Th Int), (d : Th Int), (n : Th Int), u⟩ K _ ho h
 obtain ⟨l, rfl⟩ := th_ex l; obtain ⟨w, rfl⟩ := th_ex w; obtain ⟨k, rfl⟩ := th_ex k; obtain ⟨d, rfl⟩ := th_ex d; obtain ⟨n, rfl⟩ := th_ex n
 obtain ⟨ha, h⟩ := h
 have ha := ha.out
 have hp := row_lt l w
 have hq := ha (rowPlace l w).toNat
 refine ⟨noAnn, noAnn, 20, ?_⟩
 cbv
 repeat' first | ((with_reducible intro _); cbv) | (with_reducible refine And.intro ?_ ?_)
 all_goals first | refine ioK h ?_ ?_ | (with_reducible refine Ob.mk ?_; clear h) | (clear h)
 all_goals (try clear h)
 all_goals (try clear K)
 all_goals (try simp only [fin0])
 all_goals (try simp only [eta0, RT.bytes] at *)
 all_goals (try have hlt : (rowPlace l w).toNat < l.length := (by clear ho; grind))
 all_goals (try simp only [setNth_app, nth_set_eq .row hlt, List.set_set, List.length_set] at *)
 all_goals grind [gwyAsk, askOrd, wrap_id]
theorem okSGwyAsk : SpecOk1 Tryz.prog 71 sGwyAsk := spec1 tabOk (ss := [(37, sGwyOk), (80, sCloneB), (115, sRowPlace), (116, sOrdOk)]) ⟨okSGwyOk, okL12Copy, okL12At, okSOrdOk, trivial⟩ rfl rfl <| by
 intro (bs : Th (List Int)) (p : Th Int) ⟨(m : Th PMap), (l : Th (List Row)), (w : Th Int), (k : Th Int), (d : Th Int), (n : Th Int), u⟩ K _ _ ho h
 obtain ⟨m, rfl⟩ := th_ex m; obtain ⟨l, rfl⟩ := th_ex l; obtain ⟨w, rfl⟩ := th_ex w; obtain ⟨k, rfl⟩ := th_ex k; obtain ⟨d, rfl⟩ := th_ex d; obtain ⟨n, rfl⟩ := th_ex n
 have hs := @gwy_seqB m l
 have hp := row_lt l w
 have hlt0 : ¬ rowPlace l w = -1 → (rowPlace l w).toNat < l.length := fun h => by omega
 have hq := fun (h : gwyOk m l = true) => gwy_seqB h (rowPlace l w).toNat
 refine ⟨noAnn, noAnn, 20, ?_⟩
 cbv
 repeat' first | ((with_reducible intro _); cbv) | (with_reducible refine And.intro ?_ ?_)
 all_goals first | (refine retK h ?_; clear h; simp only [fin0]) | (with_reducible refine Ob.mk ?_; clear h) | (clear h)
 all_goals (try simp only [eta0, RT.bytes] at *)
 all_goals (try have hlt := hlt0 (by assumption))
 all_goals (try simp only [nth_set_eq .row hlt, List.set_set, List.length_set] at *)
 all_goals (try simp only [setNth_fnI, nth_set_eq .row hlt, List.set_set, List.length_set, th_eq, thp_eq])
 all_goals grind [gwyAskX, gwyAsk, askOrd, wrap_id]
theorem okMaBook : SpecOk1 Tryz.prog 16 sIsB := spec1 tabOk (ss := []) trivial rfl rfl <| by
 intro (bs : Th (List Int)) (p : Th Int) ⟨(a : Th (List Row)), (b : Th (List Row)), u⟩ K _ _ ho h
 obtain ⟨a, rfl⟩ := th_ex a; obtain ⟨b, rfl⟩ := th_ex b
 have hl := okL (ho.1 _ (.head _))
 refine ⟨annL [(16, 4, ⟨Nat, [], fun σ k => σ.t 5 (vI fun _ => (k : Int)), fun _ k _ => k ≤ a.length ∧ a.length = b.length ∧ same .row a b k, fun _ k _ => a.length - k⟩)], noAnn, 20, ?_⟩
 cbv
 repeat' first | ((with_reducible refine fun (k : Nat) => ?_); cbv) | ((with_reducible intro _); cbv) | (with_reducible refine And.intro ?_ ?_)
 all_goals try ((first | (with_reducible refine LoopIn.mk ((0 : Nat)) ?_ ?_) | (with_reducible refine LoopBack.mk ((k + 1 : Nat)) ?_ ?_ ?_)) )
 all_goals try ((with_reducible show matchSt _ _); cbv; (try simp only [and_true, true_and]))
 all_goals try (repeat' with_reducible refine And.intro ?_ ?_)
 all_goals first | (refine retK h ?_; clear h; simp only [fin0]) | (with_reducible refine Ob.mk ?_; clear h) | (clear h)
 all_goals (try simp only [eta0, RT.bytes] at *)
 all_goals grind [wrap_succ, same_zero, same_succ, same_all, row_ext, ord_ext]
noncomputable def sHearP : Sx.Io := ⟨.book, true, [.map, .row .msg], [], fun l ⟨m, x, _⟩ => .asrt (fun _ => gwyOk (m ()) (l ()) = true) (.ret (vB fun _ => (gwyHear (m ()) (l ()) (x ())).ok, fun _ => (gwyHear (m ()) (l ()) (x ())).b))⟩
noncomputable def sGwySay : Sx.Spec := ⟨false, true, [.map, .book, .arb, .int .i64, .int .i64], [[none, none, none, none, none, none, none, none, none, none, none, none, none, none, none, none, none, none, none, none, none, none, none, none, none], [none]], fun _ _ ⟨m, l, t, s, w, _⟩ => .ret (.tup [oMsg fun _ => (gwySayX (m ()) (l ()) (t ()) (s ()) (w ())).x, vB fun _ => (gwySayX (m ()) (l ()) (t ()) (s ()) (w ())).ok], fun _ => 0)⟩
noncomputable def sArbGrant : Sx.Spec := ⟨false, true, [.map, .arb, .int .i64, .int .i64, .int .i64], [[some .int, some .int], [none]], fun _ _ ⟨m, t, s, c, v, _⟩ => .ret (.tup [oArb fun _ => (arbGrantX (m ()) (t ()) (s ()) (c ()) (v ())).t, vB fun _ => (arbGrantX (m ()) (t ()) (s ()) (c ()) (v ())).ok], fun _ => 0)⟩
theorem gwy_cellB {m : PMap} {l : List Row} (h : gwyOk m l = true) : 2 ≤ m.cells ∧ m.cells ≤ 4 ∧ ∀ k, k < l.length → 0 ≤ (nth .row l k).cell ∧ (nth .row l k).cell < m.cells := by
 have hp : plcOk m = true := by
  unfold gwyOk at h
  rw [Bool.and_eq_true] at h
  exact h.1
 obtain ⟨h1, h2, _, _⟩ := plcOk_iff.1 hp
 refine ⟨h1, h2, fun k hk => ?_⟩
 have := (gwy_at h hk).1
 simp only [rowOk, decide_eq_true_eq] at this
 exact ⟨this.2.2.1, this.2.2.2.1⟩
theorem cell_rem {c n : Int} (h0 : 0 ≤ c) (h1 : c < n) (h2 : n ≤ 4) : 0 ≤ (c + 1).tmod n ∧ (c + 1).tmod n ≤ 4 := by
 constructor
 ·exact Int.tmod_nonneg _ (by omega)
 ·have := Int.tmod_lt_of_pos (c + 1) (show 0 < n by omega)
  omega
theorem okHearP : SpecOk1 Tryz.prog 111 (ioX sHearP) := io1 tabOk (ss := [(108, sRowPlace)]) ⟨okRow, trivial⟩ rfl rfl <| by
 intro (l : Th (List Row)) ⟨(m : Th PMap), (x : Th Msg), u⟩ K _ ho h
 obtain ⟨l, rfl⟩ := th_ex l; obtain ⟨m, rfl⟩ := th_ex m; obtain ⟨x, rfl⟩ := th_ex x
 obtain ⟨ha, h⟩ := h
 have ha := ha.out
 have hp := row_lt l x.ord.who
 obtain ⟨hm1, hm2, hc⟩ := gwy_cellB ha
 have hq := hc (rowPlace l x.ord.who).toNat
 have hr := @cell_rem (nth .row l (rowPlace l x.ord.who).toNat).cell m.cells
 refine ⟨noAnn, noAnn, 20, ?_⟩
 cbv
 repeat' first | ((with_reducible intro _); cbv) | (with_reducible refine And.intro ?_ ?_)
 all_goals first | refine ioK h ?_ ?_ | (with_reducible refine Ob.mk ?_; clear h) | (clear h)
 all_goals (try clear h)
 all_goals (try clear K)
 all_goals (try simp only [fin0])
 all_goals (try simp only [eta0, RT.bytes] at *)
 all_goals (try have hlt : (rowPlace l x.ord.who).toNat < l.length := (by clear ho; grind))
 all_goals (try simp only [setNth_app, nth_set_eq .row hlt, List.set_set, List.length_set] at *)
 all_goals (try have hw := wrap_id (n := (nth .row l (rowPlace l x.ord.who).toNat).cell + 1) (by have := hq hlt; omega) (by have := hq hlt; omega))
 all_goals (try simp only [hw] at *)
 all_goals (try simp only [gwyHear, Mo.rowAt] at *)
 all_goals (try generalize ((nth RT.row l (rowPlace l x.ord.who).toNat).cell + 1).tmod m.cells = q at *)
 all_goals grind [gwyHear, Mo.rowAt, wrap_id, zeroOrd, ord_ext]
theorem okSGwySay : SpecOk1 Tryz.prog 72 sGwySay := spec1 tabOk (ss := [(37, sGwyOk), (35, sArbOk), (115, sRowPlace), (117, sArbServer)]) ⟨okSGwyOk, okSArbOk, okL12At, okSArbServer, trivial⟩ rfl rfl <| by
 intro (bs : Th (List Int)) (p : Th Int) ⟨(m : Th PMap), (l : Th (List Row)), (t : Th Arb), (s : Th Int), (w : Th Int), u⟩ K _ _ ho h
 obtain ⟨m, rfl⟩ := th_ex m; obtain ⟨l, rfl⟩ := th_ex l; obtain ⟨t, rfl⟩ := th_ex t; obtain ⟨s, rfl⟩ := th_ex s; obtain ⟨w, rfl⟩ := th_ex w
 have hp := row_lt l w
 refine ⟨noAnn, noAnn, 20, ?_⟩
 cbv
 repeat' first | ((with_reducible intro _); cbv) | (with_reducible refine And.intro ?_ ?_)
 all_goals first | (refine retK h ?_; clear h; simp only [fin0]) | (with_reducible refine Ob.mk ?_; clear h) | (clear h)
 all_goals (try simp only [eta0, RT.bytes] at *)
 all_goals grind (splits := 60) [gwySayX, gwySay, Mo.rowAt, zeroMsg, zeroOrd, zeroPcl, zeroGst]
theorem okSArbGrant : SpecOk1 Tryz.prog 114 sArbGrant := spec1 tabOk (ss := [(35, sArbOk), (75, sIn)]) ⟨okSArbOk, okL1In, trivial⟩ rfl rfl <| by
 intro (bs : Th (List Int)) (p : Th Int) ⟨(m : Th PMap), (t : Th Arb), (s : Th Int), (c : Th Int), (v : Th Int), u⟩ K _ _ ho h
 obtain ⟨m, rfl⟩ := th_ex m; obtain ⟨t, rfl⟩ := th_ex t; obtain ⟨s, rfl⟩ := th_ex s; obtain ⟨c, rfl⟩ := th_ex c; obtain ⟨v, rfl⟩ := th_ex v
 have hl := okB (ho.2.1 _ (.head _))
 have hl2 := okB (ho.2.1 _ (.tail _ (.head _)))
 have hc0 := fun (k : Nat) => @arb_cell m t s k
 have hcc := hc0 c.toNat
 clear hc0
 refine ⟨noAnn, noAnn, 20, ?_⟩
 cbv
 repeat' first | ((with_reducible intro _); cbv) | (with_reducible refine And.intro ?_ ?_)
 all_goals first | (refine retK h ?_; clear h; simp only [fin0]) | (with_reducible refine Ob.mk ?_; clear h) | (clear h)
 all_goals (try simp only [eta0, RT.bytes] at *)
 all_goals (try simp only [setNth_fnI, List.nil_append, List.set_set, List.length_set, th_eq, thp_eq] at *)
 all_goals grind (splits := 40) [arbGrantX, arbGrant, arbOk, arbHead, arbAt, inR, wrap_id]
end Go.Proofs.YtjdaiobeiimpfaaGreat
