/-
  Contracts: what is drawn: stores.
-/
import Derived.Test.YtmonhpdodgonbaaGreatGrT
import Derived.Test.YtmonhpdodgonbaaGreatFoD
set_option linter.unusedVariables false
set_option linter.unusedSimpArgs false
namespace Go.Proofs.YtmonhpdodgonbaaGreat
open Go.Sx Go.Proofs Go.Mo
set_option maxRecDepth 100000
set_option maxHeartbeats 8000000
set_option linter.unusedSimpArgs false
set_option linter.unusedVariables false

def rS (g a : Int) (b : List Wlk) (c : Int) (d : List (List Pcl)) (e f : List Int) (l : List Sx.Rec) : V := .agg [cI g, cI a, .att (.list .wlk fun _ => b), cI c, .att (.list .pcls fun _ => d), .att (.list .int fun _ => e), .att (.list .int fun _ => f), .att (.list .rcd fun _ => l)]
/-- .. with records of its own. -/
def rSo (g a : Int) (b : List Wlk) (c : Int) (d : List (List Pcl)) (e f : List Int) (l : List Sx.Rec) : V := .agg [cI g, cI a, .att (.list .wlk fun _ => b), cI c, .att (.list .pcls fun _ => d), .att (.list .int fun _ => e), .att (.list .int fun _ => f), .ownd .rcd fun _ => l]
noncomputable def sStoNewW : Sx.Spec := ⟨false, false, [.map, .int .i64, .list .wlk], [nSto], fun _ _ ⟨m, c, ws, _⟩ => .all Int fun g => .all Int fun a => .all (List Wlk) fun b => .all Int fun c => .all (List (List Pcl)) fun d => .all (List Int) fun e => .all (List Int) fun f => .all (List Sx.Rec) fun l => .asm (fun _ => (ws ()).length ≤ 10 → small b d) (.ret (rS g a b c d e f l, fun _ => 0))⟩
noncomputable def sStore : Sx.Spec := ⟨true, true, [], [[none, none], nSto], fun _ p _ => .asrt (fun _ => 0 ≤ p () ∧ p () ≤ 999999980000) (.all Int fun x => .all Int fun y => .all Int fun g => .all Int fun a => .all (List Wlk) fun b => .all Int fun c => .all (List (List Pcl)) fun d => .all (List Int) fun e => .all (List Int) fun f => .all (List Sx.Rec) fun l => .all Int fun q => .asm (fun _ => p () ≤ q ∧ q ≤ p () + 3000 ∧ small b d ∧ l.length ≤ 30) (.ret (.tup [.agg [cI x, cI y], rSo g a b c d e f l], fun _ => q)))⟩
noncomputable def sAnyStore : Sx.Spec := ⟨true, false, [.int .i64], [[none, none], nSto], fun _ p ⟨n, _⟩ => .asrt (fun _ => 0 ≤ p () ∧ p () ≤ 999999970000) (.all Int fun x => .all Int fun y => .all Int fun g => .all Int fun a => .all (List Wlk) fun b => .all Int fun c => .all (List (List Pcl)) fun d => .all (List Int) fun e => .all (List Int) fun f => .all (List Sx.Rec) fun l => .all Int fun q => .asm (fun _ => p () ≤ q ∧ q ≤ p () + 4000 ∧ l.length ≤ 31) (.ret (.tup [.agg [cI x, cI y], rS g a b c d e f l], fun _ => q)))⟩
noncomputable def sDrawFence : Sx.Spec := ⟨false, false, [.list .byte], [[none, none], nSto, [none]], fun _ _ _ => .all Int fun x => .all Int fun y => .all Int fun g => .all Int fun a => .all (List Wlk) fun b => .all Int fun c => .all (List (List Pcl)) fun d => .all (List Int) fun e => .all (List Int) fun f => .all (List Sx.Rec) fun l => .all Int fun z => .ret (.tup [.agg [cI x, cI y], rS g a b c d e f l, vI fun _ => z], fun _ => 0)⟩
noncomputable def sDrawAppend : Sx.Spec := ⟨false, false, [.list .byte], [[none, none], nSto, [none], [none], [none, none, none, none, none, none, none, none, none, none, none, none, none, none, none, none]], fun _ _ _ => .all Int fun x => .all Int fun y => .all Int fun g => .all Int fun a => .all (List Wlk) fun b => .all Int fun c => .all (List (List Pcl)) fun d => .all (List Int) fun e => .all (List Int) fun f => .all (List Sx.Rec) fun l => .all Int fun z => .all Int fun w => .all Int fun x0 => .all Int fun x1 => .all Int fun x2 => .all Int fun x3 => .all Int fun x4 => .all Int fun x5 => .all Int fun x6 => .all Int fun x7 => .all Int fun x8 => .all Int fun x9 => .all Int fun x10 => .all Int fun x11 => .all Int fun x12 => .all Int fun x13 => .all Int fun x14 => .all Int fun x15 => .ret (.tup [.agg [cI x, cI y], rS g a b c d e f l, vI fun _ => z, vI fun _ => w, .agg [cI x0, cI x1, cI x2, cI x3, cI x4, cI x5, cI x6, cI x7, cI x8, cI x9, cI x10, cI x11, cI x12, cI x13, cI x14, cI x15]], fun _ => 0)⟩

theorem okStoNewW : SpecOk1 Tryz.prog 100 sStoNewW := spec1 tabOk (ss := [(123, sCllNewW), (53, sCllOk)]) ⟨okSCllNewW, okSCllOk, trivial⟩ rfl rfl <| by
  intro (bs : Th (List Int)) (p : Th Int) ⟨(m : Th PMap), (c : Th Int), (ws : Th (List Wlk)), u⟩ K hb hp0 ho h
  obtain ⟨m, rfl⟩ := th_ex m; obtain ⟨c, rfl⟩ := th_ex c; obtain ⟨ws, rfl⟩ := th_ex ws
  have hs0 : small ([] : List Wlk) [] := small_nil (by decide)
  refine ⟨noAnn, noAnn, 20, ?_⟩
  cbv
  repeat' first | ((with_reducible refine fun (k : Nat) => ?_); cbv) | ((with_reducible refine fun (q : Nat × Unit) => ?_); obtain ⟨s, _⟩ := q; cbv) | ((with_reducible refine fun (q : Nat × Nat) => ?_); obtain ⟨s, k⟩ := q; cbv) | ((with_reducible intro _); cbv) | ((with_reducible show _ ∧ _); (with_reducible apply And.intro))
  all_goals first | (refine retK (h _ _ _ _ _ _ _ _ ?_) rfl; clear h) | (refine retK (h _ _ _ _ _ _ _ _ ?_) rfl) | (with_reducible refine Ob.mk ?_; clear h) | (clear h)
  all_goals (try simp only [eta0, RT.bytes] at *)
  all_goals first | omega | grind [wrap_id]

theorem okStore : SpecOk1 Tryz.prog 86 sStore := spec1 tabOk (ss := [(17, sPick), (101, sWList), (100, sStoNewW), (88, sPlaysO)]) ⟨okPick, okWList, okStoNewW, okPlaysO, trivial⟩ rfl rfl <| by
  intro (bs : Th (List Int)) (p : Th Int) u K hb hp0 ho h
  obtain ⟨bs, rfl⟩ := th_ex bs; obtain ⟨p, rfl⟩ := th_ex p
  obtain ⟨hpre, h⟩ := h
  have hpre : 0 ≤ p ∧ p ≤ 999999980000 := hpre.out
  refine ⟨noAnn, noAnn, 20, ?_⟩
  cbv
  repeat' first | ((with_reducible refine fun (k : Nat) => ?_); cbv) | ((with_reducible refine fun (q : Nat × Unit) => ?_); obtain ⟨s, _⟩ := q; cbv) | ((with_reducible refine fun (q : Nat × Nat) => ?_); obtain ⟨s, k⟩ := q; cbv) | ((with_reducible intro _); cbv) | ((with_reducible show _ ∧ _); (with_reducible apply And.intro))
  all_goals first | (refine retK (h _ _ _ _ _ _ _ _ _ _ _ ?_) rfl; clear h) | (with_reducible refine Ob.mk ?_; clear h) | (clear h)
  all_goals (try simp only [eta0, RT.bytes] at *)
  all_goals first | omega | grind [wrap_id]

end Go.Proofs.YtmonhpdodgonbaaGreat
