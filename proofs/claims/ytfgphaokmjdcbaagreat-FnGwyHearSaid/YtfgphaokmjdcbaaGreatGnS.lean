/-
  Contracts: the gateway hears, both sides.
-/
import Derived.Test.YtfgphaokmjdcbaaGreatGnC
import Derived.Test.YtfgphaokmjdcbaaGreatGnF
import Derived.Test.YtfgphaokmjdcbaaGreatGnE
import Derived.Test.YtfgphaokmjdcbaaGreatM3
set_option linter.unusedVariables false
set_option linter.unusedSimpArgs false
namespace Go.Proofs.YtfgphaokmjdcbaaGreat
open Go.Sx Go.Proofs Go.Mo
set_option maxRecDepth 100000
set_option maxHeartbeats 8000000
set_option linter.unusedSimpArgs false
set_option linter.unusedVariables false

noncomputable def sGwyHear : Sx.Spec := ⟨false, true, [.map, .book, .int .i64, .row .msg], [[some .row], [none]], fun _ _ ⟨m, l, s, x, _⟩ => .ret (.tup [oAs [.list .row fun _ => (gwyHearX (m ()) (l ()) (s ()) (x ())).b], vB fun _ => (gwyHearX (m ()) (l ()) (s ()) (x ())).ok], fun _ => 0)⟩

theorem okGwyHear : SpecOk1 Tryz.prog 11 sGwyHear := spec1 tabOk (ss := [(16, sGwyOk), (28, sMsgOk), (41, sCloneB), (42, (ioX sHearP))]) ⟨okGwyOk, okMsgOk, okCloneB, okHearP, trivial⟩ rfl rfl <| by
  intro (bs : Th (List Int)) (p : Th Int) ⟨(m : Th PMap), (l : Th (List Row)), (s : Th Int), (x : Th Msg), u⟩ K _ _ ho h
  obtain ⟨m, rfl⟩ := th_ex m; obtain ⟨l, rfl⟩ := th_ex l; obtain ⟨s, rfl⟩ := th_ex s; obtain ⟨x, rfl⟩ := th_ex x
  refine ⟨noAnn, noAnn, 20, ?_⟩
  cbv
  repeat' first | ((with_reducible intro _); cbv) | ((with_reducible show _ ∧ _); (with_reducible apply And.intro))
  all_goals first | (refine retK h ?_; clear h; simp only [fin0]) | (with_reducible refine Ob.mk ?_; clear h) | (clear h)
  all_goals (try simp only [eta0, RT.bytes] at *)
  all_goals grind [gwyHearX]
theorem okSGwyHear : SpecOk1 Tryz.prog 12 sGwyHear := spec1 tabOk (ss := [(14, sGwyOk), (15, sMsgOk), (43, sCloneB), (44, sRowPlace)]) ⟨okSGwyOk, okSMsgOk, okL12Copy, okL12At, trivial⟩ rfl rfl <| by
  intro (bs : Th (List Int)) (p : Th Int) ⟨(m : Th PMap), (l : Th (List Row)), (s : Th Int), (x : Th Msg), u⟩ K _ _ ho h
  obtain ⟨m, rfl⟩ := th_ex m; obtain ⟨l, rfl⟩ := th_ex l; obtain ⟨s, rfl⟩ := th_ex s; obtain ⟨x, rfl⟩ := th_ex x
  have hp := row_lt l x.ord.who
  have hlt0 : ¬ rowPlace l x.ord.who = -1 → (rowPlace l x.ord.who).toNat < l.length := fun h => by omega
  have hq := fun (h : gwyOk m l = true) => gwy_cellB h
  have hr := @cell_rem (nth .row l (rowPlace l x.ord.who).toNat).cell m.cells
  refine ⟨noAnn, noAnn, 20, ?_⟩
  cbv
  repeat' first | ((with_reducible intro _); cbv) | ((with_reducible show _ ∧ _); (with_reducible apply And.intro))
  all_goals first | (refine retK h ?_; clear h; simp only [fin0]) | (with_reducible refine Ob.mk ?_; clear h) | (clear h)
  all_goals (try simp only [eta0, RT.bytes] at *)
  all_goals (try have hlt := hlt0 (by assumption))
  all_goals (try (have hz := hq (by assumption); obtain ⟨hm1, hm2, hc⟩ := hz))
  all_goals (try have hw := wrap_id (n := (nth .row l (rowPlace l x.ord.who).toNat).cell + 1) (by have := hc _ hlt; omega) (by have := hc _ hlt; omega))
  all_goals (try simp only [nth_set_eq .row hlt, List.set_set, List.length_set] at *)
  all_goals (try simp only [setNth_fnI, nth_set_eq .row hlt, List.set_set, List.length_set, th_eq, thp_eq] at *)
  all_goals (try simp only [hw] at *)
  all_goals (try simp only [gwyHearX, gwyHear, Mo.rowAt] at *)
  all_goals (try generalize ((nth RT.row l (rowPlace l x.ord.who).toNat).cell + 1).tmod m.cells = q at *)
  all_goals grind [zeroOrd, ord_ext]
end Go.Proofs.YtfgphaokmjdcbaaGreat

/-
  Contracts: is a world ok.
-/
namespace Go.Proofs.YtfgphaokmjdcbaaGreat
open Go.Sx Go.Proofs Go.Mo
set_option maxRecDepth 100000
set_option maxHeartbeats 8000000
set_option linter.unusedSimpArgs false
set_option linter.unusedVariables false

noncomputable def sServersOk : Sx.Spec := ⟨false, true, [.row .wld], [], fun _ _ ⟨w, _⟩ => .asrt (fun _ => arbOk (w ()).map (w ()).table (w ()).servers.length = true) (.ret (vB fun _ => srvsIn (w ()), fun _ => 0))⟩
noncomputable def sNetOk : Sx.Spec := ⟨false, true, [.row .wld], [], fun _ _ ⟨w, _⟩ => .asrt (fun _ => arbOk (w ()).map (w ()).table (w ()).servers.length = true) (.ret (vB fun _ => msgsIn (w ()), fun _ => 0))⟩
noncomputable def sNotesOk : Sx.Spec := ⟨false, true, [.list .note], [], fun _ _ ⟨l, _⟩ => .ret (vB fun _ => notesIn (l ()), fun _ => 0)⟩
noncomputable def sWldOk : Sx.Spec := ⟨false, true, [.row .wld], [], fun _ _ ⟨w, _⟩ => .ret (vB fun _ => wldOk (w ()), fun _ => 0)⟩

theorem okServersOk : SpecOk1 Tryz.prog 218 sServersOk := spec1 tabOk (ss := [(65, sSrvOk)]) ⟨okSSrvOk, trivial⟩ rfl rfl <| by
  intro (bs : Th (List Int)) (p : Th Int) ⟨(w : Th Wld), u⟩ K _ _ ho h
  obtain ⟨w, rfl⟩ := th_ex w
  obtain ⟨ha, h⟩ := h
  have ha := ha.out
  have ht := arb_len ha
  have hl := okL (ho.1 _ (.tail _ (.tail _ (.head _))))
  have hn := fun (k : Nat) => @srv_few w.map (nth .srv w.servers k)
  have hi := fun (k j : Nat) => @hold_in w.map (nth .srv w.servers k) j
  refine ⟨annL [(218, 2, ⟨Nat × Unit, [], fun σ q => σ.t 3 (vI fun _ => (q.1 : Int)), fun _ q _ => q.1 ≤ w.servers.length ∧ allTo q.1 (srvIn w) = true, fun _ q _ => w.servers.length - q.1⟩),
    (218, 7, ⟨Nat, [], fun σ k => σ.t 4 (vI fun _ => (k : Int)), fun σ k _ => k ≤ (nth .srv w.servers (σ.nat 3)).holds.length ∧ σ.nat 3 < w.servers.length ∧ srvOk w.map (nth .srv w.servers (σ.nat 3)) = true ∧ allTo (σ.nat 3) (srvIn w) = true ∧ allTo k (aheadH w.table (nth .srv w.servers (σ.nat 3)).holds) = true, fun σ k _ => (nth .srv w.servers (σ.nat 3)).holds.length - k⟩)], noAnn, 20, ?_⟩
  cbv
  repeat' first | ((with_reducible refine fun (k : Nat) => ?_); cbv) | ((with_reducible refine fun (q : Nat × Unit) => ?_); obtain ⟨s, _⟩ := q; cbv) | ((with_reducible intro _); cbv) | ((with_reducible show _ ∧ _); (with_reducible apply And.intro))
  all_goals try ((first | (with_reducible refine LoopIn.mk (((0, ()) : Nat × Unit)) ?_ ?_) | (with_reducible refine LoopIn.mk ((0 : Nat)) ?_ ?_) | (with_reducible refine LoopBack.mk ((k + 1 : Nat)) ?_ ?_ ?_) | (with_reducible refine LoopBack.mk (((s + 1, ()) : Nat × Unit)) ?_ ?_ ?_)) )
  all_goals try ((with_reducible show matchSt _ _); cbv; (try simp only [and_true, true_and]))
  all_goals (try simp only [St.nat, St.int, Tr.get, Nat.reduceMod, Nat.reduceDiv, Nat.one_ne_zero, if_false, if_true, ↓reduceIte] at *)
  all_goals try (with_reducible show _ ∧ _; (repeat' (with_reducible apply And.intro)))
  all_goals first | (refine retK h ?_; clear h; simp only [fin0]) | (with_reducible refine Ob.mk ?_; clear h) | (clear h)
  all_goals (try simp only [eta0, RT.bytes] at *)
  all_goals grind (splits := 30) [wrap_succ, wrap_id, srvsIn, srvs_bad1, srvs_bad2, srvIn_of, allTo_all, allTo_zero, allTo_succ, aheadH]
theorem okNetOk : SpecOk1 Tryz.prog 219 sNetOk := spec1 tabOk (ss := [(15, sMsgOk)]) ⟨okSMsgOk, trivial⟩ rfl rfl <| by
  intro (bs : Th (List Int)) (p : Th Int) ⟨(w : Th Wld), u⟩ K _ _ ho h
  obtain ⟨w, rfl⟩ := th_ex w
  obtain ⟨ha, h⟩ := h
  have ha := ha.out
  have ht := arb_len ha
  have hi := fun (k : Nat) => @msg_in w.map w.servers.length (nth .msg w.net k)
  refine ⟨annL [(219, 4, ⟨Nat, [], fun σ k => σ.t 3 (vI fun _ => (k : Int)), fun _ k _ => k ≤ w.net.length ∧ w.net.length ≤ 40 ∧ allTo k (msgIn w) = true, fun _ k _ => w.net.length - k⟩)], noAnn, 20, ?_⟩
  cbv
  repeat' first | ((with_reducible refine fun (k : Nat) => ?_); cbv) | ((with_reducible intro _); cbv) | ((with_reducible show _ ∧ _); (with_reducible apply And.intro))
  all_goals try ((first | (with_reducible refine LoopIn.mk ((0 : Nat)) ?_ ?_) | (with_reducible refine LoopBack.mk ((k + 1 : Nat)) ?_ ?_ ?_)) )
  all_goals try ((with_reducible show matchSt _ _); cbv; (try simp only [and_true, true_and]))
  all_goals (try simp only [St.nat, St.int, Tr.get, Nat.reduceMod, Nat.reduceDiv, Nat.one_ne_zero, if_false, if_true, ↓reduceIte] at *)
  all_goals try (with_reducible show _ ∧ _; (repeat' (with_reducible apply And.intro)))
  all_goals first | (refine retK h ?_; clear h; simp only [fin0]) | (with_reducible refine Ob.mk ?_; clear h) | (clear h)
  all_goals (try simp only [eta0, RT.bytes] at *)
  all_goals grind (splits := 30) [wrap_succ, wrap_id, msgsIn, net_bad, msgIn, allTo_all, allTo_zero, allTo_succ]
theorem okNotesOk : SpecOk1 Tryz.prog 220 sNotesOk := spec1 tabOk (ss := [(47, sIn)]) ⟨okL1In, trivial⟩ rfl rfl <| by
  intro (bs : Th (List Int)) (p : Th Int) ⟨(l : Th (List Note)), u⟩ K _ _ ho h
  obtain ⟨l, rfl⟩ := th_ex l
  refine ⟨annL [(220, 4, ⟨Nat, [], fun σ k => σ.t 3 (vI fun _ => (k : Int)), fun _ k _ => k ≤ l.length ∧ l.length ≤ 150 ∧ allTo k (noteAt l) = true, fun _ k _ => l.length - k⟩)], noAnn, 20, ?_⟩
  cbv
  repeat' first | ((with_reducible refine fun (k : Nat) => ?_); cbv) | ((with_reducible intro _); cbv) | ((with_reducible show _ ∧ _); (with_reducible apply And.intro))
  all_goals try ((first | (with_reducible refine LoopIn.mk ((0 : Nat)) ?_ ?_) | (with_reducible refine LoopBack.mk ((k + 1 : Nat)) ?_ ?_ ?_)) )
  all_goals try ((with_reducible show matchSt _ _); cbv; (try simp only [and_true, true_and]))
  all_goals (try simp only [St.nat, St.int, Tr.get, Nat.reduceMod, Nat.reduceDiv, Nat.one_ne_zero, if_false, if_true, ↓reduceIte] at *)
  all_goals try (with_reducible show _ ∧ _; (repeat' (with_reducible apply And.intro)))
  all_goals first | (refine retK h ?_; clear h; simp only [fin0]) | (with_reducible refine Ob.mk ?_; clear h) | (clear h)
  all_goals (try simp only [eta0, RT.bytes] at *)
  all_goals grind (splits := 30) [wrap_succ, wrap_id, notesIn, notes_bad, noteAt, noteOk, allTo_all, allTo_zero, allTo_succ, inR]
theorem okSWldOk : SpecOk1 Tryz.prog 199 sWldOk := spec1 tabOk (ss := [(45, sPlcOk), (67, sArbOk), (66, sStosOk), (14, sGwyOk), (218, sServersOk), (219, sNetOk), (220, sNotesOk)]) ⟨okSPlcOk, okSArbOk, okSStosOk, okSGwyOk, okServersOk, okNetOk, okNotesOk, trivial⟩ rfl rfl <| by
  intro (bs : Th (List Int)) (p : Th Int) ⟨(w : Th Wld), u⟩ K _ _ ho h
  obtain ⟨w, rfl⟩ := th_ex w
  have ht := @arb_len w.map w.table w.servers.length
  have hs := @stos_len w.map w.stores
  have hs4 := @stos_few w.map w.stores
  have he := wldOk_all w
  refine ⟨annL [(199, 4, ⟨Nat, [], fun σ k => σ.t 3 (vI fun _ => (k : Int)), fun _ k _ => k ≤ w.stores.length ∧ arbOk w.map w.table w.servers.length = true ∧ stosOk w.map w.stores = true ∧ gwyOk w.map w.rows = true ∧ allTo k (aheadS w) = true, fun _ k _ => w.stores.length - k⟩)], noAnn, 20, ?_⟩
  cbv
  repeat' first | ((with_reducible refine fun (k : Nat) => ?_); cbv) | ((with_reducible intro _); cbv) | ((with_reducible show _ ∧ _); (with_reducible apply And.intro))
  all_goals try ((first | (with_reducible refine LoopIn.mk ((0 : Nat)) ?_ ?_) | (with_reducible refine LoopBack.mk ((k + 1 : Nat)) ?_ ?_ ?_)) )
  all_goals try ((with_reducible show matchSt _ _); cbv; (try simp only [and_true, true_and]))
  all_goals (try simp only [St.nat, St.int, Tr.get, Nat.reduceMod, Nat.reduceDiv, Nat.one_ne_zero, if_false, if_true, ↓reduceIte] at *)
  all_goals try (with_reducible show _ ∧ _; (repeat' (with_reducible apply And.intro)))
  all_goals first | (refine retK h ?_; clear h; simp only [fin0]) | (with_reducible refine Ob.mk ?_; clear h) | (clear h)
  all_goals (try simp only [eta0, RT.bytes] at *)
  all_goals grind (splits := 30) [wrap_succ, wrap_id, wldOkAll, stos_bad, aheadS, allTo_all, allTo_zero, allTo_succ]
end Go.Proofs.YtfgphaokmjdcbaaGreat
