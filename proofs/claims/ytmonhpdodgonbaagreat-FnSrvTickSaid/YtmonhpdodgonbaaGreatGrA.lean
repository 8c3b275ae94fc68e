/-
  Contracts: what is drawn: holds.
-/
import Derived.Test.YtmonhpdodgonbaaGreatFoF
import Derived.Test.YtmonhpdodgonbaaGreatFoHs
import Derived.Test.YtmonhpdodgonbaaGreatGnZ
set_option linter.unusedVariables false
set_option linter.unusedSimpArgs false
namespace Go.Mo
open Go.Sx
theorem open_small {m : PMap} {s : Sto} {a : Int} : small (hldOpen m s a).h.state.wlks (hldOpen m s a).h.state.outs := by
  unfold hldOpen
  split
  · rename_i h1
    split
    · exact small_nil (Nat.zero_le _)
    · exact small_ok (state_ok h1.1)
  · exact small_nil (Nat.zero_le _)
theorem open_len {m : PMap} {s : Sto} {a : Int} : (hldOpen m s a).s.recs.length ≤ s.recs.length := by
  unfold hldOpen
  split
  · split
    · exact Nat.le_refl _
    · exact Nat.le_refl _
  · exact Nat.zero_le _
theorem open_count {m : PMap} {s : Sto} {a : Int} : 0 ≤ (hldOpen m s a).h.count ∧ (hldOpen m s a).h.count ≤ 250 := by
  unfold hldOpen
  split
  · rename_i h1
    have := (stoOk_iff.1 h1.1).2.2.1
    split
    · show (0 : Int) ≤ 0 ∧ (0 : Int) ≤ 250
      decide
    · simp
      omega
  · show (0 : Int) ≤ 0 ∧ (0 : Int) ≤ 250
    decide
end Go.Mo
namespace Go.Proofs.YtmonhpdodgonbaaGreat
open Go.Sx Go.Proofs Go.Mo
set_option maxRecDepth 100000
set_option maxHeartbeats 8000000
set_option linter.unusedSimpArgs false
set_option linter.unusedVariables false

def rH (g h a : Int) (b : List Wlk) (c : Int) (d : List (List Pcl)) (e f : List Int) : V := .agg [cI g, cI h, cI a, .att (.list .wlk fun _ => b), cI c, .att (.list .pcls fun _ => d), .att (.list .int fun _ => e), .att (.list .int fun _ => f)]
noncomputable def sHold : Sx.Spec := ⟨true, false, [], [[none, none], nSto, nHld], fun _ p _ => .asrt (fun _ => 0 ≤ p () ∧ p () ≤ 999999970000) (.all Int fun x => .all Int fun y => .all Int fun g => .all Int fun a => .all (List Wlk) fun b => .all Int fun c => .all (List (List Pcl)) fun d => .all (List Int) fun e => .all (List Int) fun f => .all (List Sx.Rec) fun l => .all Int fun g1 => .all Int fun g2 => .all Int fun a1 => .all (List Wlk) fun b1 => .all Int fun c1 => .all (List (List Pcl)) fun d1 => .all (List Int) fun e1 => .all (List Int) fun f1 => .all Int fun q => .asm (fun _ => p () ≤ q ∧ q ≤ p () + 6000 ∧ small b1 d1 ∧ 0 ≤ g2 ∧ g2 ≤ 250) (.ret (.tup [.agg [cI x, cI y], rS g a b c d e f l, rH g1 g2 a1 b1 c1 d1 e1 f1], fun _ => q)))⟩
noncomputable def sAnyHold : Sx.Spec := ⟨true, false, [.int .i64], [[none, none], nSto, nHld], fun _ p ⟨n, _⟩ => .asrt (fun _ => 0 ≤ p () ∧ p () ≤ 999999960000) (.all Int fun x => .all Int fun y => .all Int fun g => .all Int fun a => .all (List Wlk) fun b => .all Int fun c => .all (List (List Pcl)) fun d => .all (List Int) fun e => .all (List Int) fun f => .all (List Sx.Rec) fun l => .all Int fun g1 => .all Int fun g2 => .all Int fun a1 => .all (List Wlk) fun b1 => .all Int fun c1 => .all (List (List Pcl)) fun d1 => .all (List Int) fun e1 => .all (List Int) fun f1 => .all Int fun q => .asm (fun _ => p () ≤ q ∧ q ≤ p () + 7000) (.ret (.tup [.agg [cI x, cI y], rS g a b c d e f l, rH g1 g2 a1 b1 c1 d1 e1 f1], fun _ => q)))⟩
noncomputable def sDrawWrite : Sx.Spec := ⟨false, false, [.list .byte], [[none, none], nHld, nSto, [none, none, none, none, none, none, none, none, none, none, none, none, none, none, none, none]], fun _ _ _ => .all Int fun x => .all Int fun y => .all Int fun g => .all Int fun a => .all (List Wlk) fun b => .all Int fun c => .all (List (List Pcl)) fun d => .all (List Int) fun e => .all (List Int) fun f => .all (List Sx.Rec) fun l => .all Int fun g1 => .all Int fun g2 => .all Int fun a1 => .all (List Wlk) fun b1 => .all Int fun c1 => .all (List (List Pcl)) fun d1 => .all (List Int) fun e1 => .all (List Int) fun f1 => .all Int fun x0 => .all Int fun x1 => .all Int fun x2 => .all Int fun x3 => .all Int fun x4 => .all Int fun x5 => .all Int fun x6 => .all Int fun x7 => .all Int fun x8 => .all Int fun x9 => .all Int fun x10 => .all Int fun x11 => .all Int fun x12 => .all Int fun x13 => .all Int fun x14 => .all Int fun x15 => .ret (.tup [.agg [cI x, cI y], rH g1 g2 a1 b1 c1 d1 e1 f1, rS g a b c d e f l, .agg [cI x0, cI x1, cI x2, cI x3, cI x4, cI x5, cI x6, cI x7, cI x8, cI x9, cI x10, cI x11, cI x12, cI x13, cI x14, cI x15]], fun _ => 0)⟩

theorem okHold : SpecOk1 Tryz.prog 63 sHold := spec1 tabOk (ss := [(86, sStore), (87, sHldOpen), (17, sPick), (88, sPlaysO)]) ⟨okStore, okSHldOpen, okPick, okPlaysO, trivial⟩ rfl rfl <| by
  intro (bs : Th (List Int)) (p : Th Int) u K hb hp0 ho h
  obtain ⟨bs, rfl⟩ := th_ex bs; obtain ⟨p, rfl⟩ := th_ex p
  obtain ⟨hpre, h⟩ := h
  have hpre : 0 ≤ p ∧ p ≤ 999999970000 := hpre.out
  refine ⟨noAnn, noAnn, 20, ?_⟩
  cbv
  repeat' first | ((with_reducible refine fun (k : Nat) => ?_); cbv) | ((with_reducible refine fun (q : Nat × Unit) => ?_); obtain ⟨s, _⟩ := q; cbv) | ((with_reducible refine fun (q : Nat × Nat) => ?_); obtain ⟨s, k⟩ := q; cbv) | ((with_reducible intro _); cbv) | ((with_reducible show _ ∧ _); (with_reducible apply And.intro))
  all_goals first | (refine retK (h _ _ _ _ _ _ _ _ _ _ _ _ _ _ _ _ _ _ _ ?_) rfl; clear h) | (with_reducible refine Ob.mk ?_; clear h) | (clear h)
  all_goals (try simp only [eta0, RT.bytes] at *)
  all_goals first | omega | exact ⟨by omega, by omega, open_small, open_count.1, open_count.2⟩ | grind [wrap_id, open_len]

theorem okAnyHold : SpecOk1 Tryz.prog 40 sAnyHold := spec1 tabOk (ss := [(63, sHold), (17, sPick), (64, sBadCell), (65, sMap)]) ⟨okHold, okPick, okBadCell, okMap, trivial⟩ rfl rfl <| by
  intro (bs : Th (List Int)) (p : Th Int) ⟨(n : Th Int), u⟩ K hb hp0 ho h
  obtain ⟨n, rfl⟩ := th_ex n; obtain ⟨bs, rfl⟩ := th_ex bs; obtain ⟨p, rfl⟩ := th_ex p
  obtain ⟨hpre, h⟩ := h
  have hpre : 0 ≤ p ∧ p ≤ 999999960000 := hpre.out
  refine ⟨noAnn, noAnn, 20, ?_⟩
  cbv
  repeat' first | ((with_reducible refine fun (k : Nat) => ?_); cbv) | ((with_reducible refine fun (q : Nat × Unit) => ?_); obtain ⟨s, _⟩ := q; cbv) | ((with_reducible refine fun (q : Nat × Nat) => ?_); obtain ⟨s, k⟩ := q; cbv) | ((with_reducible intro _); cbv) | ((with_reducible show _ ∧ _); (with_reducible apply And.intro))
  all_goals first | (refine retK (h _ _ _ _ _ _ _ _ _ _ _ _ _ _ _ _ _ _ _ ?_) rfl; clear h) | (with_reducible refine Ob.mk ?_; clear h) | (clear h)
  all_goals (try simp only [eta0, RT.bytes] at *)
  all_goals first | omega | grind [wrap_id]

end Go.Proofs.YtmonhpdodgonbaaGreat

/-
  Contracts: a server drawn, with a table and a cell.
-/
namespace Go.Proofs.YtmonhpdodgonbaaGreat
open Go.Sx Go.Proofs Go.Mo
set_option maxRecDepth 100000
set_option maxHeartbeats 8000000
set_option linter.unusedSimpArgs false
set_option linter.unusedVariables false

noncomputable def nSrvA : List (Option RT) := [none, some .hld, some .gst]
noncomputable def rSrv (u : Bool) (h : List Hld) (g : List Gst) : V := .agg [.att (.bool (.of fun _ => u)), .att (.list .hld fun _ => h), .att (.list .gst fun _ => g)]
noncomputable def sServerE : Sx.Spec := ⟨true, false, [.int .i64], [nWld, nSrvA], fun _ p ⟨n, _⟩ => .asrt (fun _ => 0 ≤ p () ∧ p () ≤ 960000000000) (.all Int fun a => .all Int fun b => .all (List Srv) fun c => .all (List Sto) fun d => .all (List Int) fun e => .all (List Int) fun f => .all (List Row) fun g => .all (List Msg) fun h => .all (List Note) fun i => .all Bool fun u => .all (List Hld) fun hs => .all (List Gst) fun gs => .all Int fun q => .asm (fun _ => p () ≤ q ∧ q ≤ p () + 310000 ∧ wldOk ⟨⟨a, b⟩, c, d, ⟨e, f⟩, g, h, i⟩ = true) (.ret (.tup [rWld a b c d e f g h i, rSrv u hs gs], fun _ => q)))⟩
noncomputable def sDrawSrvTickE : Sx.Spec := ⟨false, false, [.list .byte], [[none, none], nSrvA, [some .int, some .int], [none], [none]], fun _ _ _ => .all Int fun a => .all Int fun b => .all Bool fun u => .all (List Hld) fun hs => .all (List Gst) fun gs => .all (List Int) fun e => .all (List Int) fun f => .all Int fun v => .all Int fun c => .ret (.tup [.agg [cI a, cI b], rSrv u hs gs, .agg [.att (.list .int fun _ => e), .att (.list .int fun _ => f)], .one (cI v), .one (cI c)], fun _ => 0)⟩

theorem srv_small {w : Wld} (h : wldOk w = true) {i : Nat} (hi : i < w.servers.length) : (nth .srv w.servers i).holds.length ≤ 4 ∧ (nth .srv w.servers i).ghosts.length ≤ 20 := by
  have hs := ((wldOk_iff.1 h).2.2.2.2.2.2.1 _ (nth_mem .srv hi)).1
  exact ⟨srv_few hs, (gstsOk_iff.1 (srvOk_iff.1 hs).1).2.1⟩
theorem okServerE : SpecOk1 Tryz.prog 16 sServerE := spec1 tabOk (ss := [(38, sWorld), (17, sPick), (39, sCloneV), (40, sAnyHold), (41, sGhostE)]) ⟨okWorld, okPick, okL11Copy, okAnyHold, okGhostE, trivial⟩ rfl rfl <| by
  intro (bs : Th (List Int)) (p : Th Int) ⟨(n : Th Int), u⟩ K hb hp0 ho h
  obtain ⟨n, rfl⟩ := th_ex n; obtain ⟨bs, rfl⟩ := th_ex bs; obtain ⟨p, rfl⟩ := th_ex p
  obtain ⟨hpre, h⟩ := h
  have hpre : 0 ≤ p ∧ p ≤ 960000000000 := hpre.out
  have hk : ∀ (a b : Int) (c : List Srv) (d : List Sto) (e f : List Int) (g : List Row) (h : List Msg) (i : List Note), wldOk ⟨⟨a, b⟩, c, d, ⟨e, f⟩, g, h, i⟩ = true → 1 ≤ c.length ∧ c.length ≤ 3 := fun a b c d e f g h i w => (ok_few w).2.2
  have hk2 : ∀ (a b : Int) (c : List Srv) (d : List Sto) (e f : List Int) (g : List Row) (h : List Msg) (i : List Note), wldOk ⟨⟨a, b⟩, c, d, ⟨e, f⟩, g, h, i⟩ = true → ∀ j : Int, 0 ≤ j → j < c.length → (nth .srv c j.toNat).holds.length ≤ 4 ∧ (nth .srv c j.toNat).ghosts.length ≤ 20 := fun a b c d e f g h i w j h0 h1 => srv_small w (show j.toNat < c.length by omega)
  refine ⟨noAnn, annL [(16, 8, ⟨Th Int × Th Int, [⟨.cell 8 1, some 1000000000012545, .hld⟩], fun σ g => ((σ.h 12545 (1, .row false 0 .hld (σ.rowL .hld 12545))).t 30 (.one (.att (.int .i64 g.1)))).cellC 0 1 (.att (.int .i64 g.2)), fun _ g _ => Ob fun _ => p ≤ g.2 () ∧ g.2 () ≤ p + 200010, fun _ _ _ => 0⟩)], 20, ?_⟩
  cbv
  repeat' first | ((with_reducible refine fun (g : Th Int × Th Int) => ?_); obtain ⟨k, q⟩ := g; obtain ⟨k, rfl⟩ := th_ex k; obtain ⟨q, rfl⟩ := th_ex q; (with_reducible refine ImpB.out ?_); cbv; (with_reducible refine ImpB.mk ?_); intro hq; obtain ⟨hq⟩ := hq) | ((with_reducible intro _); cbv) | ((with_reducible show _ ∧ _); (with_reducible apply And.intro))
  all_goals try ((first | (with_reducible refine LoopIn.wf (fun σ => (σ.tmI 30, asI (σ.ce 0 1))) ?_ ?_) | (with_reducible refine LoopBack.wf (fun σ => (σ.tmI 30, asI (σ.ce 0 1))) ?_ ?_ ?_)) <;> cbv)
  all_goals try (with_reducible show _ ∧ _; (try simp only [and_true, true_and]))
  all_goals try (with_reducible show _ ∧ _; (repeat' (with_reducible apply And.intro)))
  all_goals try (with_reducible refine MeasB.mk ?_)
  all_goals first | (refine retK (h _ _ _ _ _ _ _ _ _ _ _ _ _ ?_) rfl; clear h) | (with_reducible refine Ob.mk ?_; clear h) | (clear h)
  all_goals (try simp only [eta0, RT.bytes] at *)
  all_goals (try dsimp only [RT.ty] at *)
  all_goals (try simp only [ncast] at *)
  all_goals (first | rfl | omega | grind [wrap_id])
theorem okDrawSrvTickE : SpecOk1 Tryz.prog 4 sDrawSrvTickE := spec1 tabOk (ss := [(16, sServerE), (17, sPick)]) ⟨okServerE, okPick, trivial⟩ rfl rfl <| by
  intro (bs : Th (List Int)) (p : Th Int) ⟨(l : Th (List Int)), u⟩ K hb hp0 ho h
  obtain ⟨l, rfl⟩ := th_ex l
  refine ⟨noAnn, noAnn, 20, ?_⟩
  cbv
  repeat' first | ((with_reducible refine fun (k : Nat) => ?_); cbv) | ((with_reducible refine fun (q : Nat × Unit) => ?_); obtain ⟨s, _⟩ := q; cbv) | ((with_reducible refine fun (q : Nat × Nat) => ?_); obtain ⟨s, k⟩ := q; cbv) | ((with_reducible intro _); cbv) | ((with_reducible show _ ∧ _); (with_reducible apply And.intro))
  all_goals first | (refine retK (h _ _ _ _ _ _ _ _ _) rfl; clear h) | (refine retK (h _ _ _ _ _ _ _ _ _) rfl) | (with_reducible refine Ob.mk ?_; clear h) | (clear h)
  all_goals (try simp only [eta0, RT.bytes] at *)
  all_goals (try dsimp only [RT.ty] at *)
  all_goals (try simp only [ncast] at *)
  all_goals (first | rfl | omega | grind [wrap_id])
end Go.Proofs.YtmonhpdodgonbaaGreat
