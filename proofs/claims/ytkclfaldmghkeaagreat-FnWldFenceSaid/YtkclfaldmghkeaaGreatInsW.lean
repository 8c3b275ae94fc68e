/-
  Contracts: cells copied, cells asked.
-/
import Derived.Test.YtkclfaldmghkeaaGreatFnD
import Derived.Test.YtkclfaldmghkeaaGreatM1
import Derived.Test.YtkclfaldmghkeaaGreatM2
import Derived.Test.YtkclfaldmghkeaaGreatTok
import Derived.Test.YtkclfaldmghkeaaGreatS5
set_option linter.unusedVariables false
set_option linter.unusedSimpArgs false
set_option maxRecDepth 100000
set_option maxHeartbeats 8000000
namespace Go.Proofs.YtkclfaldmghkeaaGreat
open Go.Sx Go.Proofs Go.Mo
noncomputable def M9 : Sx.Spec := ⟨false, true, [.row .cll], [nCll], fun _ _ ⟨c, _⟩ => .ret (oCll c, fun _ => 0)⟩
noncomputable def a1n : Sx.Spec := ⟨false, true, [.map, .row .cll], [], fun _ _ ⟨m, c, _⟩ => .ret (vB fun _ => r7 (m ()) (c ()), fun _ => 0)⟩
noncomputable def b9P : Sx.Spec := ⟨false, true, [.map, .row .cll, .int .i64], [], fun _ _ ⟨m, c, s, _⟩ => .asrt (fun _ => 0 ≤ s () ∧ s () < (c ()).outs.length ∧ s () < (c ()).next.length ∧ s () < (c ()).ins.length) (.ret (vB fun _ => J4 (m ()) (c ()) (s ()).toNat, fun _ => 0))⟩
theorem a3o : b8 Tryz.prog 42 M9 := j6 j4 (ss := [(92, a5A), (93, b9Z)]) ⟨b6e, okCloneP, trivial⟩ rfl rfl <| by
 intro (bs : Th (List Int)) (p : Th Int) ⟨(c : Th Cll), u⟩ K _ _ ho h
 obtain ⟨c, rfl⟩ := b6 c
 obtain ⟨hw, hou, hoi, hn, hi, _, _⟩ := a9J ho.1
 have hz := a0W c.outs
 have hs := fun k => @G6 .pcls c.outs k
 refine ⟨annL [(42, 3, ⟨Nat, [⟨.cell 4 3, some 33, .pcls⟩], fun σ k => ((σ.t 23 (vI fun _ => (k : Int))).F5 4 3 (.own 33 1)).row 33 1 .pcls (fun _ => pre c.outs k), fun _ k _ => k ≤ c.outs.length, fun _ k _ => c.outs.length - k⟩)], noAnn, 20, ?_⟩
 cbv
 repeat' first | ((with_reducible refine fun (k : Nat) => ?_); cbv) | ((with_reducible intro _); cbv) | (with_reducible refine And.intro ?_ ?_)
 all_goals try ((first | (with_reducible refine LoopIn.mk ((0 : Nat)) ?_ ?_) | (with_reducible refine LoopBack.mk ((k + 1 : Nat)) ?_ ?_ ?_)) )
 all_goals try ((with_reducible show l8 _ _); cbv; (try simp only [and_true, true_and]))
 all_goals try (repeat' with_reducible refine And.intro ?_ ?_)
 all_goals first | (refine retK h ?_; clear h; simp only [fin0]) | (with_reducible refine Ob.mk ?_; clear h) | (clear h)
 all_goals (try simp only [eta0, RT.bytes] at *)
 all_goals grind [Y7, a0X, j3]
theorem a0A : b8 Tryz.prog 51 M9 := j6 j4 (ss := [(114, a5A)]) ⟨okL2Copy, trivial⟩ rfl rfl <| by
 intro (bs : Th (List Int)) (p : Th Int) ⟨(c : Th Cll), u⟩ K _ _ ho h
 obtain ⟨c, rfl⟩ := b6 c
 obtain ⟨hw, hou, hoi, hn, hi, _, _⟩ := a9J ho.1
 have hz := a0W c.outs
 have hs := fun k => @G6 .pcls c.outs k
 refine ⟨annL [(51, 4, ⟨Nat, [⟨.tmp 3 0, some 10, .pcls⟩], fun σ k => (((σ.fg 10).t 4 (vI fun _ => (k : Int))).t 3 (vO 10 1)).row 10 1 .pcls (fun _ => pre c.outs k), fun _ k _ => k ≤ c.outs.length, fun _ k _ => c.outs.length - k⟩)], noAnn, 20, ?_⟩
 cbv
 repeat' first | ((with_reducible refine fun (k : Nat) => ?_); cbv) | ((with_reducible intro _); cbv) | (with_reducible refine And.intro ?_ ?_)
 all_goals try ((first | (with_reducible refine LoopIn.mk ((0 : Nat)) ?_ ?_) | (with_reducible refine LoopBack.mk ((k + 1 : Nat)) ?_ ?_ ?_)) )
 all_goals try ((with_reducible show l8 _ _); cbv; (try simp only [and_true, true_and]))
 all_goals try (repeat' with_reducible refine And.intro ?_ ?_)
 all_goals first | (refine retK h ?_; clear h; simp only [fin0]) | (with_reducible refine Ob.mk ?_; clear h) | (clear h)
 all_goals (try simp only [eta0, RT.bytes] at *)
 all_goals grind [Y7, a0X, j3]
theorem okL5Side : b8 Tryz.prog 113 b9P := j6 j4 (ss := [(116, E7), (163, a2k), (110, sIn), (112, D3)]) ⟨W5, b3E, G8, L5, trivial⟩ rfl rfl <| by
 intro (bs : Th (List Int)) (p : Th Int) ⟨(m : Th PMap), (c : Th Cll), (i : Th Int), u⟩ K _ _ ho h
 obtain ⟨m, rfl⟩ := b6 m; obtain ⟨c, rfl⟩ := b6 c; obtain ⟨i, rfl⟩ := b6 i
 obtain ⟨hw, hou, hoi, hn, hi, _, _⟩ := a9J ho.2.1
 obtain ⟨hpre, h⟩ := h
 have hpre := hpre.out
 simp only at hpre
 obtain ⟨s, rfl⟩ : ∃ s : Nat, i = (s : Int) := ⟨i.toNat, (Int.toNat_of_nonneg hpre.1).symm⟩
 simp only [Int.ofNat_lt] at hpre
 refine ⟨annL [(113, 7, ⟨Nat, [], fun σ k => (σ.t 8 (vI fun _ => (k : Int))), fun _ k _ => k ≤ (nth .pcls c.outs s).length ∧ T7 m c s = true ∧ m4 k (a0Y m (b7 m c.cell s) (nth .pcls c.outs s)) = true, fun _ k _ => (nth .pcls c.outs s).length - k⟩)], noAnn, 20, ?_⟩
 cbv
 repeat' first | ((with_reducible refine fun (k : Nat) => ?_); cbv) | ((with_reducible intro _); cbv) | (with_reducible refine And.intro ?_ ?_)
 all_goals try ((first | (with_reducible refine LoopIn.mk ((0 : Nat)) ?_ ?_) | (with_reducible refine LoopBack.mk ((k + 1 : Nat)) ?_ ?_ ?_)) )
 all_goals try ((with_reducible show l8 _ _); cbv; (try simp only [and_true, true_and]))
 all_goals try (repeat' with_reducible refine And.intro ?_ ?_)
 all_goals first | (refine retK h ?_; clear h; simp only [fin0]) | (with_reducible refine Ob.mk ?_; clear h) | (clear h)
 all_goals (try simp only [eta0, RT.bytes] at *)
 all_goals grind [inR, n4, n3, T7, J4, a0Y, a8r, b1k, j3]
end Go.Proofs.YtkclfaldmghkeaaGreat
namespace Go.Mo
open Go.Sx
def same (t : RT) (a b : List t.ty) (k : Nat) : Prop := ∀ i, i < k → nth t a i = nth t b i
theorem H6 (t : RT) (a b : List t.ty) : same t a b 0 := fun i hi => by omega
theorem H7 {t : RT} {a b : List t.ty} {k : Nat} (h : same t a b k) (hk : nth t a k = nth t b k) : same t a b (k + 1) := fun i hi => by
 rcases Nat.lt_or_ge i k with h1 | h1
 ·exact h i h1
 ·have : i = k := by omega
  subst this
  exact hk
theorem L8 {t : RT} {a b : List t.ty} {k : Nat} (h : same t a b k) (hl : a.length = b.length) (hk : k = a.length) : a = b := by
 refine List.ext_getElem hl fun i h1 h2 => ?_
 rw [← k8 t a i h1, ← k8 t b i h2]
 exact h i (by omega)
theorem a5h {a b : Wlk} : a = b ↔ a.id = b.id ∧ a.pos = b.pos ∧ a.l7 = b.l7 ∧ a.seq = b.seq ∧ a.last = b.last := by
 cases a; cases b; simp
theorem a5R {a b : Ord} : a = b ↔ a.who = b.who ∧ a.seq = b.seq ∧ a.kind = b.kind ∧ a.dest = b.dest ∧ a.n = b.n := by
 cases a; cases b; simp
theorem b3t {a b : Pcl} : a = b ↔ a.n = b.n ∧ a.kind = b.kind ∧ a.wlk = b.wlk ∧ a.l7 = b.l7 := by
 cases a; cases b; simp
theorem rec_ext {a b : Rec} : a = b ↔ a.kind = b.kind ∧ a.ord = b.ord ∧ a.side = b.side ∧ a.pcl = b.pcl ∧ a.n = b.n := by
 cases a; cases b; simp
theorem cll_ext {a b : Cll} : a = b ↔ a.cell = b.cell ∧ a.wlks = b.wlks ∧ a.ground = b.ground ∧ a.outs = b.outs ∧ a.next = b.next ∧ a.ins = b.ins := by
 cases a; cases b; simp
end Go.Mo
namespace Go.Proofs.YtkclfaldmghkeaaGreat
open Go.Sx Go.Proofs Go.Mo
noncomputable def sIsW : Sx.Spec := ⟨false, true, [.list .wlk, .list .wlk], [], fun _ _ ⟨a, b, _⟩ => .ret (vB fun _ => decide (a () = b ()), fun _ => 0)⟩
noncomputable def sIsI : Sx.Spec := ⟨false, true, [.list .int, .list .int], [], fun _ _ ⟨a, b, _⟩ => .ret (vB fun _ => decide (a () = b ()), fun _ => 0)⟩
noncomputable def sIsP : Sx.Spec := ⟨false, true, [.list .pcl, .list .pcl], [], fun _ _ ⟨a, b, _⟩ => .ret (vB fun _ => decide (a () = b ()), fun _ => 0)⟩
noncomputable def sIsR : Sx.Spec := ⟨false, true, [.list .rcd, .list .rcd], [], fun _ _ ⟨a, b, _⟩ => .ret (vB fun _ => decide (a () = b ()), fun _ => 0)⟩
noncomputable def sIsC : Sx.Spec := ⟨false, true, [.row .cll, .row .cll], [], fun _ _ ⟨a, b, _⟩ => .ret (vB fun _ => decide (a () = b ()), fun _ => 0)⟩
theorem okIsList : b8 Tryz.prog 53 sIsW := j6 j4 (ss := []) trivial rfl rfl <| by
 intro (bs : Th (List Int)) (p : Th Int) ⟨(a : Th (List Wlk)), (b : Th (List Wlk)), u⟩ K _ _ ho h
 obtain ⟨a, rfl⟩ := b6 a; obtain ⟨b, rfl⟩ := b6 b
 have hl := okL (ho.1 _ (.head _))
 refine ⟨annL [(53, 4, ⟨Nat, [], fun σ k => σ.t 5 (vI fun _ => (k : Int)), fun _ k _ => k ≤ a.length ∧ a.length = b.length ∧ same .wlk a b k, fun _ k _ => a.length - k⟩)], noAnn, 20, ?_⟩
 cbv
 repeat' first | ((with_reducible refine fun (k : Nat) => ?_); cbv) | ((with_reducible intro _); cbv) | (with_reducible refine And.intro ?_ ?_)
 all_goals try ((first | (with_reducible refine LoopIn.mk ((0 : Nat)) ?_ ?_) | (with_reducible refine LoopBack.mk ((k + 1 : Nat)) ?_ ?_ ?_)) )
 all_goals try ((with_reducible show l8 _ _); cbv; (try simp only [and_true, true_and]))
 all_goals try (repeat' with_reducible refine And.intro ?_ ?_)
 all_goals first | (refine retK h ?_; clear h; simp only [fin0]) | (with_reducible refine Ob.mk ?_; clear h) | (clear h)
 all_goals (try simp only [eta0, RT.bytes] at *)
 all_goals grind [j3, H6, H7, L8, a5h]
theorem b6c : b8 Tryz.prog 54 sIsI := j6 j4 (ss := []) trivial rfl rfl <| by
 intro (bs : Th (List Int)) (p : Th Int) ⟨(a : Th (List Int)), (b : Th (List Int)), u⟩ K _ _ ho h
 obtain ⟨a, rfl⟩ := b6 a; obtain ⟨b, rfl⟩ := b6 b
 have hl := okL (ho.1 _ (.head _))
 refine ⟨annL [(54, 4, ⟨Nat, [], fun σ k => σ.t 5 (vI fun _ => (k : Int)), fun _ k _ => k ≤ a.length ∧ a.length = b.length ∧ same .int a b k, fun _ k _ => a.length - k⟩)], noAnn, 20, ?_⟩
 cbv
 repeat' first | ((with_reducible refine fun (k : Nat) => ?_); cbv) | ((with_reducible intro _); cbv) | (with_reducible refine And.intro ?_ ?_)
 all_goals try ((first | (with_reducible refine LoopIn.mk ((0 : Nat)) ?_ ?_) | (with_reducible refine LoopBack.mk ((k + 1 : Nat)) ?_ ?_ ?_)) )
 all_goals try ((with_reducible show l8 _ _); cbv; (try simp only [and_true, true_and]))
 all_goals try (repeat' with_reducible refine And.intro ?_ ?_)
 all_goals first | (refine retK h ?_; clear h; simp only [fin0]) | (with_reducible refine Ob.mk ?_; clear h) | (clear h)
 all_goals (try simp only [eta0, RT.bytes] at *)
 all_goals grind [j3, H6, H7, L8]
theorem b6b : b8 Tryz.prog 55 sIsP := j6 j4 (ss := []) trivial rfl rfl <| by
 intro (bs : Th (List Int)) (p : Th Int) ⟨(a : Th (List Pcl)), (b : Th (List Pcl)), u⟩ K _ _ ho h
 obtain ⟨a, rfl⟩ := b6 a; obtain ⟨b, rfl⟩ := b6 b
 have hl := okL (ho.1 _ (.head _))
 refine ⟨annL [(55, 4, ⟨Nat, [], fun σ k => σ.t 5 (vI fun _ => (k : Int)), fun _ k _ => k ≤ a.length ∧ a.length = b.length ∧ same .pcl a b k, fun _ k _ => a.length - k⟩)], noAnn, 20, ?_⟩
 cbv
 repeat' first | ((with_reducible refine fun (k : Nat) => ?_); cbv) | ((with_reducible intro _); cbv) | (with_reducible refine And.intro ?_ ?_)
 all_goals try ((first | (with_reducible refine LoopIn.mk ((0 : Nat)) ?_ ?_) | (with_reducible refine LoopBack.mk ((k + 1 : Nat)) ?_ ?_ ?_)) )
 all_goals try ((with_reducible show l8 _ _); cbv; (try simp only [and_true, true_and]))
 all_goals try (repeat' with_reducible refine And.intro ?_ ?_)
 all_goals first | (refine retK h ?_; clear h; simp only [fin0]) | (with_reducible refine Ob.mk ?_; clear h) | (clear h)
 all_goals (try simp only [eta0, RT.bytes] at *)
 all_goals grind [j3, H6, H7, L8, a5h, b3t]
theorem a9H : b8 Tryz.prog 18 sIsC := j6 j4 (ss := [(53, sIsW), (54, sIsI), (55, sIsP)]) ⟨okIsList, b6c, b6b, trivial⟩ rfl rfl <| by
 intro (bs : Th (List Int)) (p : Th Int) ⟨(a : Th Cll), (b : Th Cll), u⟩ K _ _ ho h
 obtain ⟨a, rfl⟩ := b6 a; obtain ⟨b, rfl⟩ := b6 b
 have hl := (a9J ho.1).o
 refine ⟨annL [(18, 4, ⟨Nat, [], fun σ k => σ.t 5 (vI fun _ => (k : Int)), fun _ k _ => k ≤ a.outs.length ∧ a.outs.length = b.outs.length ∧ same .pcls a.outs b.outs k ∧ a.cell = b.cell ∧ a.ground = b.ground ∧ a.wlks = b.wlks ∧ a.next = b.next ∧ a.ins = b.ins, fun _ k _ => a.outs.length - k⟩)], noAnn, 20, ?_⟩
 cbv
 repeat' first | ((with_reducible refine fun (k : Nat) => ?_); cbv) | ((with_reducible intro _); cbv) | (with_reducible refine And.intro ?_ ?_)
 all_goals try ((first | (with_reducible refine LoopIn.mk ((0 : Nat)) ?_ ?_) | (with_reducible refine LoopBack.mk ((k + 1 : Nat)) ?_ ?_ ?_)) )
 all_goals try ((with_reducible show l8 _ _); cbv; (try simp only [and_true, true_and]))
 all_goals try (repeat' with_reducible refine And.intro ?_ ?_)
 all_goals first | (refine retK h ?_; clear h; simp only [fin0]) | (with_reducible refine Ob.mk ?_; clear h) | (clear h)
 all_goals (try simp only [eta0, RT.bytes] at *)
 all_goals grind [j3, H6, H7, L8, cll_ext]
end Go.Proofs.YtkclfaldmghkeaaGreat
namespace Go.Mo
open Go.Sx
theorem sto_ext {a b : Sto} : a = b ↔ a.age = b.age ∧ a.base = b.base ∧ a.recs = b.recs := by
 cases a; cases b; simp
theorem hld_ext {a b : Hld} : a = b ↔ a.age = b.age ∧ a.count = b.count ∧ a.state = b.state := by
 cases a; cases b; simp
end Go.Mo
namespace Go.Proofs.YtkclfaldmghkeaaGreat
open Go.Sx Go.Proofs Go.Mo
noncomputable def sIsS : Sx.Spec := ⟨false, true, [.row .sto, .row .sto], [], fun _ _ ⟨a, b, _⟩ => .ret (vB fun _ => decide (a () = b ()), fun _ => 0)⟩
noncomputable def sIsH : Sx.Spec := ⟨false, true, [.row .hld, .row .hld], [], fun _ _ ⟨a, b, _⟩ => .ret (vB fun _ => decide (a () = b ()), fun _ => 0)⟩
theorem okIsRecs : b8 Tryz.prog 171 sIsR := j6 j4 (ss := []) trivial rfl rfl <| by
 intro (bs : Th (List Int)) (p : Th Int) ⟨(a : Th (List Sx.Rec)), (b : Th (List Sx.Rec)), u⟩ K _ _ ho h
 obtain ⟨a, rfl⟩ := b6 a; obtain ⟨b, rfl⟩ := b6 b
 have hl := okL (ho.1 _ (.head _))
 refine ⟨annL [(171, 4, ⟨Nat, [], fun σ k => σ.t 5 (vI fun _ => (k : Int)), fun _ k _ => k ≤ a.length ∧ a.length = b.length ∧ same .rcd a b k, fun _ k _ => a.length - k⟩)], noAnn, 20, ?_⟩
 cbv
 repeat' first | ((with_reducible refine fun (k : Nat) => ?_); cbv) | ((with_reducible intro _); cbv) | (with_reducible refine And.intro ?_ ?_)
 all_goals try ((first | (with_reducible refine LoopIn.mk ((0 : Nat)) ?_ ?_) | (with_reducible refine LoopBack.mk ((k + 1 : Nat)) ?_ ?_ ?_)) )
 all_goals try ((with_reducible show l8 _ _); cbv; (try simp only [and_true, true_and]))
 all_goals try (repeat' with_reducible refine And.intro ?_ ?_)
 all_goals first | (refine retK h ?_; clear h; simp only [fin0]) | (with_reducible refine Ob.mk ?_; clear h) | (clear h)
 all_goals (try simp only [eta0, RT.bytes] at *)
 all_goals grind [j3, H6, H7, L8, a5h, b3t, a5R, rec_ext]
theorem c2R : b8 Tryz.prog 122 sIsS := j6 j4 (ss := [(18, sIsC), (171, sIsR)]) ⟨a9H, okIsRecs, trivial⟩ rfl rfl <| by
 intro (bs : Th (List Int)) (p : Th Int) ⟨(a : Th Sto), (b : Th Sto), u⟩ K _ _ ho h
 obtain ⟨a, rfl⟩ := b6 a; obtain ⟨b, rfl⟩ := b6 b
 refine ⟨noAnn, noAnn, 20, ?_⟩
 cbv
 repeat' first | ((with_reducible intro _); cbv) | (with_reducible refine And.intro ?_ ?_)
 all_goals first | (refine retK h ?_; clear h; simp only [fin0]) | (with_reducible refine Ob.mk ?_; clear h) | (clear h)
 all_goals (try simp only [eta0, RT.bytes] at *)
 all_goals grind [sto_ext]
end Go.Proofs.YtkclfaldmghkeaaGreat
namespace Go.Proofs.YtkclfaldmghkeaaGreat
open Go.Sx Go.Proofs Go.RowKit
theorem ins_info : (Tryz.prog.info? 54).map (fun i => (i.zero, i.size, i.bytes)) = some (some (.agg #[.int .i64 0, .int .i64 0, .int .i64 0, .int .i64 0, .int .i64 0]), 5, 40) := by kernel_rfl
theorem b3W : ∃ inf z, Tryz.prog.info? 54 = some inf ∧ inf.size = 5 ∧ inf.bytes = 40 ∧ inf.zero = some z ∧ z.cells.size = 5 := by
 obtain ⟨i0, h1, h2, h3, h4⟩ := info_parts ins_info
 exact ⟨i0, _, h1, h3, h4, h2, rfl⟩
theorem ins_room (w : World) (b n c i vb voff vc T tV : Nat) (cs vcs : Array Value) (us : List Value) (hi : i < n) (hroom : n + 1 ≤ c) (hc : c ≤ maxLen) (hh : w.heap[b]? = some (.cells cs T (0, 0))) (hs : cs.size = c * 5) (hu : us.length = 5)
  (hvh : w.heap[vb]? = some (.cells vcs tV (0, 0))) (hvb : vb ≠ b) (hvs : ∀ j v, us[j]? = some v → w.cell? ⟨vb, voff + j, none⟩ = some v) (h1 : ∀ u ∈ us, one u) (h1c : ∀ u ∈ cs.toList.take (n * 5), one u) :
  Calls Tryz.prog 214 #[.slice (some ⟨b, 0, none⟩) n c, .int .i64 i, .slice (some ⟨vb, voff, none⟩) 1 vc] w fun e w' =>
   ∃ v, e = .returned v ∧ InsE w w' 5 (.slice (some ⟨b, 0, none⟩) n c) v n i 1 b c cs us := by
 obtain ⟨inf, z, hinf, hsz, hby, hz, hzc⟩ := b3W
 have u25 := run_underlying Tryz.underlying61
 have z38 : ∀ w, (sizeOf 54).run Tryz.prog w = .ok 5 w := fun w => by simp [sizeOf, typeInfo, hinf, hsz]
 have hc63 : c ≤ 9223372036854775807 := hc
 have hcb : n + 1 ≤ 9223372036854775807 := by omega
 have hkB : cs.size ≠ 0 := by rw [hs]; omega
 have hov : ∀ lb cb, (callFunc 226 #[.slice (some ⟨vb, voff, none⟩) 1 vc, .slice (some ⟨b, (i + 1) * 5, none⟩) lb cb]).run Tryz.prog w = .ok (.value (.bool false)) w := fun lb cb => by
  rw [run_callFunc_extern Tryz.func226 (by kernel_rfl) (by kernel_rfl) (by kernel_rfl) (e := Extern.SlicesOverlaps.overlaps #[61, 61] #[4]) (by kernel_rfl),
   Lib.run_overlaps_apart w 61 4 54 Tryz.underlying61 5 z38 ⟨vb, voff, none⟩ ⟨b, (i + 1) * 5, none⟩ 1 vc lb cb hvb tV T vcs.size cs.size (by simp [World.shape?, hvh]) (by simp [World.shape?, hh]) hkB (frozen_of_row _ _ _ _ _ hvh) (frozen_of_row _ _ _ _ _ hvh)]
  rfl
 have hw1 : IntKind.i64.wrap ((n : Int) + 1) = ((n + 1 : Nat) : Int) := by rw [IntKind.wrap_i64]; omega
 have hw2 : IntKind.i64.wrap ((i : Int) + 1) = ((i + 1 : Nat) : Int) := by rw [IntKind.wrap_i64]; omega
 have hne : ¬ ((i : Int) = (n : Int)) := by omega
 have mixed := j4.mix
 have hb1 : (0 : Int) ≤ (i : Int) + 1 := by omega
 have hin : i ≤ n := by omega
 have hb2 : ¬ (c = i + 1) := by omega
 have hb3 : (i : Int) ≤ (n : Int) + 1 := by omega
 have hb4 : ¬ (c = i) := by omega
 have htn : ((i : Int) + 1).toNat = i + 1 := by omega
 go_enter Tryz.func214, Tryz.ntmps214
 go_wp2_with (simp only [hov])
 clear hov
 have htl := S8 (i := i) hs (show n ≤ c by omega)
 have hn5 : (n + 1) * 5 ≤ c * 5 := Nat.mul_le_mul_right _ hroom
 have hsrc : ∀ j v, ((cs.toList.take (n * 5)).drop (i * 5))[j]? = some v → w.cell? ⟨b, i * 5 + j, none⟩ = some v := fun j v hj => by
  rw [List.getElem?_drop, List.getElem?_take] at hj
  rw [p7 hh]
  split at hj
  ·simpa using hj
  ·cases hj
 have hcp1 : ∀ ty dc sc, (Builtin.copy_ #[61, 61] ty #[.slice (some ⟨b, (i + 1) * 5, none⟩) (n - i) dc, .slice (some ⟨b, i * 5, none⟩) (n + 1 - i) sc]).run Tryz.prog w.drew = .ok (goInt (n - i : Nat)) (wrote w.drew b ((i + 1) * 5) cs ((cs.toList.take (n * 5)).drop (i * 5))) := fun ty dc sc =>
  A9 (k := n - i) (us := (cs.toList.take (n * 5)).drop (i * 5)) Tryz.underlying61 hinf (by simp only [Nat.min_def]; split <;> omega) (by rw [hsz]; exact htl) (fun j v hj => by
   rw [u7]
   exact hsrc j v hj) hh (by rw [htl, hs]; omega) (fun u hu => h1c u (List.mem_of_mem_drop hu))
 go_region_law_o (refine step_copy_runI rfl _ _ 61 61 rfl _ _ (by simp [Act.eval, Act.put]) (by simp [Act.eval, Act.put]) (hcp1 _ _ _) ?_)
 have htl2 : ((cs.toList.take (n * 5)).drop (i * 5)).length = (n - i) * 5 := htl
 obtain ⟨cs1, hcs1⟩ : ∃ cs1, cs1 = (putAt cs.toList ((i + 1) * 5) ((cs.toList.take (n * 5)).drop (i * 5))).toArray := ⟨_, rfl⟩
 obtain ⟨W1, hW1⟩ : ∃ W1, W1 = wrote w.drew b ((i + 1) * 5) cs ((cs.toList.take (n * 5)).drop (i * 5)) := ⟨_, rfl⟩
 have hh1 : W1.heap[b]? = some (.cells cs1 T (0, 0)) := by rw [hW1, hcs1]; exact v5 hh
 have hv1 : W1.heap[vb]? = some (.cells vcs tV (0, 0)) := by rw [hW1, s0 hvb]; exact hvh
 have hsz1 : cs1.size = c * 5 := by rw [hcs1, List.size_toArray, p6 _ _ _ (by rw [htl2, Array.length_toList, hs]; omega), Array.length_toList, hs]
 have hcp2 : ∀ (W : World), W.heap = W1.heap → ∀ ty dc, (Builtin.copy_ #[61, 61] ty #[.slice (some ⟨b, i * 5, none⟩) (n + 1 - i) dc, .slice (some ⟨vb, voff, none⟩) 1 vc]).run Tryz.prog W = .ok (goInt (1 : Nat)) (wrote W b (i * 5) cs1 us) := fun W hW ty dc =>
  A9 (k := 1) (us := us) (T := T) Tryz.underlying61 hinf (by simp only [Nat.min_def]; split <;> omega) (by rw [hsz, hu]) (fun j v hj => by
   rw [u7, p7 (cs := vcs) (T := tV) (by rw [hW]; exact hv1)]
   have := hvs j v hj
   rw [p7 hvh] at this
   exact this) (by rw [hW]; exact hh1) (by rw [hu, hsz1]; omega) h1
 rw [← hW1]
 go_wp2_with (at_builtin; refine wpList_copy_runI _ rfl _ _ 61 61 rfl _ _ rfl rfl (hcp2 _ rfl _ _) ?_)
 have hend : InsM w (wrote W1 b (i * 5) cs1 us) 5 (.slice (some ⟨b, 0, none⟩) n c) (.slice (some ⟨b, 0, none⟩) (n + 1) c) n i 1 b c cs us b c (J3 cs 5 n i us).toArray T := by
  refine InsM.room hh hs hroom hc hi hu ?_ (fun x hx => ?_) ?_ ?_ ?_ ?_
  ·rw [v5 hh1, J3, hcs1]
  ·rw [s0 hx, hW1, s0 hx]; rfl
  ·rw [hW1]; rfl
  ·rw [hW1]; rfl
  ·rw [hW1]; rfl
  ·rw [hW1]; simp [wrote, World.setRow]
 subst hcs1
 subst hW1
 go_ret
 exact ⟨.slice (some ⟨b, 0, none⟩) (n + 1) c, rfl, _, _, _, _, hend⟩
theorem ins_grow (w : World) (b n c i vb voff vc T tV : Nat) (cs vcs : Array Value) (us : List Value) (hi : i < n) (hnc : n ≤ c) (hroom : c < n + 1) (hc : c ≤ maxLen) (hh : w.heap[b]? = some (.cells cs T (0, 0))) (hs : cs.size = c * 5) (hu : us.length = 5)
  (hvh : w.heap[vb]? = some (.cells vcs tV (0, 0))) (hvs : ∀ j v, us[j]? = some v → w.cell? ⟨vb, voff + j, none⟩ = some v) (h1 : ∀ u ∈ us, one u) (h1c : ∀ u ∈ cs.toList.take (n * 5), one u) (hbig : (n + 1) * 40 ≤ 140737488355328) :
  Calls Tryz.prog 214 #[.slice (some ⟨b, 0, none⟩) n c, .int .i64 i, .slice (some ⟨vb, voff, none⟩) 1 vc] w fun e w' =>
   ∃ v, e = .returned v ∧ InsE w w' 5 (.slice (some ⟨b, 0, none⟩) n c) v n i 1 b c cs us := by
 obtain ⟨inf, z, hinf, hsz, hby, hz, hzc⟩ := b3W
 have u25 := run_underlying Tryz.underlying61
 have z38 : ∀ w, (sizeOf 54).run Tryz.prog w = .ok 5 w := fun w => by simp [sizeOf, typeInfo, hinf, hsz]
 have mixed := j4.mix
 have hc63 : c ≤ 9223372036854775807 := hc
 have hsrc : ∀ j v, ((cs.toList.take (n * 5)).drop (i * 5))[j]? = some v → w.cell? ⟨b, i * 5 + j, none⟩ = some v := fun j v hj => by
  rw [List.getElem?_drop, List.getElem?_take] at hj
  rw [p7 hh]
  split at hj
  ·simpa using hj
  ·cases hj
 have hi5 : (i + 1) * 5 ≤ c * 5 := Nat.mul_le_mul_right _ (by omega)
 have hold : (Builtin.firstCells inf.size i (.slice (some ⟨b, 0, none⟩) i c)).run Tryz.prog w.drew = .ok (cs.toList.take (i * 5)).toArray w.drew := by
  rw [hsz]
  exact run_firstCells_some w.drew 5 i ⟨b, 0, none⟩ i c (cs.toList.take (i * 5)) (by rw [List.length_take, Array.length_toList, hs]; omega) (fun j v hj => by
   rw [u7, Nat.zero_add, show w.drew.cell? ⟨b, j, none⟩ = w.cell? ⟨b, j, none⟩ from rfl, p7 hh]
   rw [List.getElem?_take] at hj
   split at hj
   ·simpa using hj
   ·cases hj)
 have hik : i + (n + 1 - i) = n + 1 := by omega
 have hkk : (n : Int) + 1 - (i : Int) = ((n + 1 - i : Nat) : Int) := by omega
 have hrz : ∀ ty, (Builtin.append_ #[61, 3] ty #[.slice (some ⟨b, 0, none⟩) i c, .int .i64 ((n : Int) + 1 - (i : Int))]).run Tryz.prog w =
   .ok (.slice (some ⟨w.heap.size, 0, none⟩) (n + 1) (grownCap w (n + 1) c 54)) (w.drew.alloc (.cells ((cs.toList.take (i * 5)).toArray ++ Builtin.zeroCells z.cells (n + 1 - i) ++ Builtin.zeroCells z.cells (grownCap w (n + 1) c 54 - (n + 1))) 54)) := fun ty => by
  have h := Lib.run_append_grow_zeros w 61 3 ty 54 inf z .i64 .i64 Tryz.underlying61 Tryz.underlying3 hinf hz (some ⟨b, 0, none⟩) i c (cs.toList.take (i * 5)) hold (n + 1 - i) (by omega) (by omega) (by omega) (by omega) (by rw [hby]; omega) (by rw [hby, hik]; exact growslice_fits hroom hbig)
  rw [hik] at h
  rw [hkk]
  exact h
 obtain ⟨G, hG⟩ : ∃ G, G = grownCap w (n + 1) c 54 := ⟨_, rfl⟩
 have hGn : n + 1 ≤ G := by rw [hG]; exact grownCap_ge w _ _ _
 have hGm : G ≤ maxLen := by rw [hG]; exact grownCap_le_maxLen w (n + 1) c _ (by unfold maxLen; omega)
 have hG63 : G ≤ 9223372036854775807 := hGm
 obtain ⟨ROW, hROW⟩ : ∃ ROW : Array Value, ROW = (cs.toList.take (i * 5)).toArray ++ Builtin.zeroCells z.cells (n + 1 - i) ++ Builtin.zeroCells z.cells (G - (n + 1)) := ⟨_, rfl⟩
 rw [← hG] at hrz
 rw [← hROW] at hrz
 have hRl : ROW.toList.length = G * 5 := by
  rw [hROW, Array.length_toList]
  simp only [Array.size_append, List.size_toArray, size_zeroCells, hzc, List.length_take, Array.length_toList, hs]
  omega
 have hR0 : ∀ o, o < i * 5 → ROW.toList[o]? = cs[o]? := fun o ho => by
  have hl : (cs.toList.take (i * 5)).length = i * 5 := by rw [List.length_take, Array.length_toList, hs]; omega
  rw [hROW]
  simp only [Array.toList_append]
  rw [List.append_assoc, List.getElem?_append_left (by rw [List.toList_toArray, hl]; exact ho), List.toList_toArray, List.getElem?_take, if_pos ho]
  simp
 have htl := S8 (i := i) hs hnc
 have hbw : b < w.heap.size := by
  rcases Nat.lt_or_ge b w.heap.size with h | h
  ·exact h
  ·rw [Array.getElem?_eq_none h] at hh; cases hh
 have hvw : vb < w.heap.size := by
  rcases Nat.lt_or_ge vb w.heap.size with h | h
  ·exact h
  ·rw [Array.getElem?_eq_none h] at hvh; cases hvh
 obtain ⟨W1, hW1⟩ : ∃ W1, W1 = w.drew.alloc (.cells ROW 54) := ⟨_, rfl⟩
 rw [← hW1] at hrz
 have hN1 : W1.heap[w.heap.size]? = some (.cells ROW 54 (0, 0)) := by rw [hW1]; exact a5f w _
 have hO1 : ∀ x, x < w.heap.size → W1.heap[x]? = w.heap[x]? := fun x hx => by rw [hW1]; exact a5e w _ x hx
 obtain ⟨R2, hR2⟩ : ∃ R2, R2 = (putAt ROW.toList (i * 5) us).toArray := ⟨_, rfl⟩
 have hG5 : (n + 1) * 5 ≤ G * 5 := Nat.mul_le_mul_right _ hGn
 have hR2l : R2.size = G * 5 := by rw [hR2, List.size_toArray, p6 _ _ _ (by rw [hu, hRl]; omega), hRl]
 have hcpA : ∀ (W : World), W.heap = W1.heap → ∀ ty dc, (Builtin.copy_ #[61, 61] ty #[.slice (some ⟨w.heap.size, i * 5, none⟩) (n + 1 - i) dc, .slice (some ⟨vb, voff, none⟩) 1 vc]).run Tryz.prog W = .ok (goInt (1 : Nat)) (wrote W w.heap.size (i * 5) ROW us) := fun W hW ty dc =>
  A9 (k := 1) (us := us) (T := 54) Tryz.underlying61 hinf (by simp only [Nat.min_def]; split <;> omega) (by rw [hsz, hu]) (fun j v hj => by
   rw [u7, p7 (cs := vcs) (T := tV) (by rw [hW, hO1 _ hvw]; exact hvh)]
   have := hvs j v hj
   rw [p7 hvh] at this
   exact this) (by rw [hW]; exact hN1) (by rw [hu, ← Array.length_toList, hRl]; omega) h1
 obtain ⟨W2, hW2⟩ : ∃ W2, W2 = wrote W1 w.heap.size (i * 5) ROW us := ⟨_, rfl⟩
 have hcpB : ∀ (W : World), W.heap = W2.heap → ∀ ty dc sc, (Builtin.copy_ #[61, 61] ty #[.slice (some ⟨w.heap.size, (i + 1) * 5, none⟩) (n - i) dc, .slice (some ⟨b, i * 5, none⟩) (n - i) sc]).run Tryz.prog W = .ok (goInt (n - i : Nat)) (wrote W w.heap.size ((i + 1) * 5) R2 ((cs.toList.take (n * 5)).drop (i * 5))) := fun W hW ty dc sc =>
  A9 (k := n - i) (us := (cs.toList.take (n * 5)).drop (i * 5)) (T := 54) Tryz.underlying61 hinf (by simp only [Nat.min_def]; split <;> omega) (by rw [hsz, htl]) (fun j v hj => by
   rw [u7, p7 (cs := cs) (T := T) (by rw [hW, hW2, s0 (by omega), hO1 _ hbw]; exact hh)]
   have := hsrc j v hj
   rw [p7 hh] at this
   exact this) (by rw [hW, hW2, hR2]; exact v5 hN1) (by rw [htl, hR2l]; omega) (fun u hu => h1c u (List.mem_of_mem_drop hu))
 have hGi : ¬ (G = i) := by omega
 have hGim : ¬ (G = i + 1) := by omega
 have hci : ¬ (c = i) := by omega
 have hw1 : IntKind.i64.wrap ((n : Int) + 1) = ((n + 1 : Nat) : Int) := by rw [IntKind.wrap_i64]; omega
 have hw2 : IntKind.i64.wrap ((i : Int) + 1) = ((i + 1 : Nat) : Int) := by rw [IntKind.wrap_i64]; omega
 have hb1 : (0 : Int) ≤ (i : Int) + 1 := by omega
 have hin : i ≤ n := by omega
 have htn : ((i : Int) + 1).toNat = i + 1 := by omega
 have hb3 : (i : Int) ≤ (n : Int) := by omega
 have hne : ¬ ((i : Int) = (n : Int)) := by omega
 have hend : ∀ W : World, W.heap = (wrote W2 w.heap.size ((i + 1) * 5) R2 ((cs.toList.take (n * 5)).drop (i * 5))).heap → W.os = w.os → W.tape = w.tape → W.output = w.output → InsE w W 5 (.slice (some ⟨b, 0, none⟩) n c) (.slice (some ⟨w.heap.size, 0, none⟩) (n + 1) G) n i 1 b c cs us := fun W hW g1 g2 g3 => by
  refine ⟨_, _, _, 54, InsM.grow (row := ROW.toList) hRl hs hnc hGn hGm hi hu hR0 ?_ rfl ?_ (fun x hx => ?_) g1 g2 g3⟩
  ·rw [hW, v5 (T := 54) (by rw [hW2, hR2]; exact v5 hN1), W9, hR2]
  ·rw [hW, hW2, hW1]; simp [wrote, World.setRow, World.alloc]
  ·rw [hW, s0 (by omega), hW2, s0 (by omega)]; exact hO1 x hx
 clear hkk hik hold hROW hG hRl hR0
 go_enter Tryz.func214, Tryz.ntmps214
 go_wp2_with (first
  | (at_builtin; refine Lib.wpList_append_run _ rfl _ _ _ _ rfl _ _ rfl rfl _ _ (hrz _) ?_)
  | (at_builtin; refine wpList_copy_runI _ rfl _ _ 61 61 rfl _ _ rfl rfl (hcpA _ rfl _ _) ?_))
 go_region_law_o (refine step_copy_runI rfl _ _ 61 61 rfl (.slice (some ⟨w.heap.size, (i + 1) * 5, none⟩) (n - i) (G - (i + 1))) (.slice (some ⟨b, i * 5, none⟩) (n - i) (c - i)) (by simp [Act.eval, Act.put]) (by simp [Act.eval, Act.put]) (hcpB _ (by rw [hW2, hW1]; rfl) _ _ _) ?_)
 go_wp2
 go_ret
 exact ⟨.slice (some ⟨w.heap.size, 0, none⟩) (n + 1) G, rfl, hend _ (by rw [hW2, hW1, hR2]; rfl) rfl rfl rfl⟩
theorem ins_end (w : World) (b n c vb voff vc T : Nat) (cs : Array Value) (us : List Value) (hn : n ≤ c) (hc : c ≤ maxLen) (hh : w.heap[b]? = some (.cells cs T (0, 0))) (hs : cs.size = c * 5) (hu : us.length = 5)
  (hvs : ∀ j v, us[j]? = some v → w.cell? ⟨vb, voff + j, none⟩ = some v) (h1 : ∀ u ∈ us, one u) (hb : (n + 1) * 40 ≤ 140737488355328) :
  Calls Tryz.prog 214 #[.slice (some ⟨b, 0, none⟩) n c, .int .i64 n, .slice (some ⟨vb, voff, none⟩) 1 vc] w fun e w' =>
   ∃ v, e = .returned v ∧ InsE w w' 5 (.slice (some ⟨b, 0, none⟩) n c) v n n 1 b c cs us := by
 obtain ⟨inf, z, hinf, hsz, hby, hz, hzc⟩ := b3W
 have u25 := run_underlying Tryz.underlying61
 have z38 : ∀ w, (sizeOf 54).run Tryz.prog w = .ok 5 w := fun w => by simp [sizeOf, typeInfo, hinf, hsz]
 have hc63 : c ≤ 9223372036854775807 := hc
 have mixed := j4.mix
 rcases G5 (P := Tryz.prog) (ty := 61) (w := w) Tryz.underlying61 hinf hz hsz hby hzc (Old.row n b c cs T hh hn hc hs) (m := 1) (us := us) ⟨by rw [hu], .inr (.inr ⟨vb, voff, vc, rfl, hvs⟩)⟩ h1 (by omega) (by simpa using hb) with ⟨_, h, _⟩ | ⟨v, w', b', cap', cs', T', hr, A⟩
 ·cases h
 ·have hend : InsE w w' 5 _ v _ _ 1 b _ cs us := ⟨_, _, _, _, A.ins⟩
  by_cases hcn : n = c
  ·subst hcn
   go_enter Tryz.func214, Tryz.ntmps214
   go_wp2_with (at_builtin; refine Lib.wpList_append_run _ rfl _ _ _ _ rfl _ _ rfl rfl _ _ hr ?_)
   go_ret
   exact ⟨v, rfl, hend⟩
  ·have hcn2 : ¬ (c = n) := fun h => hcn h.symm
   go_enter Tryz.func214, Tryz.ntmps214
   go_wp2_with (at_builtin; refine Lib.wpList_append_run _ rfl _ _ _ _ rfl _ _ rfl rfl _ _ hr ?_)
   go_ret
   exact ⟨v, rfl, hend⟩
theorem ins_nil (w : World) (b vb voff vc T : Nat) (cs : Array Value) (us : List Value) (hcs : cs = #[]) (hu : us.length = 5)
  (hvs : ∀ j v, us[j]? = some v → w.cell? ⟨vb, voff + j, none⟩ = some v) (h1 : ∀ u ∈ us, one u) :
  Calls Tryz.prog 214 #[.slice none 0 0, .int .i64 0, .slice (some ⟨vb, voff, none⟩) 1 vc] w fun e w' =>
   ∃ v, e = .returned v ∧ InsE w w' 5 (.slice none 0 0) v 0 0 1 b 0 cs us := by
 obtain ⟨inf, z, hinf, hsz, hby, hz, hzc⟩ := b3W
 have u25 := run_underlying Tryz.underlying61
 have z38 : ∀ w, (sizeOf 54).run Tryz.prog w = .ok 5 w := fun w => by simp [sizeOf, typeInfo, hinf, hsz]
 have mixed := j4.mix
 rcases G5 (P := Tryz.prog) (ty := 61) (w := w) Tryz.underlying61 hinf hz hsz hby hzc (Old.nil b 0 cs T hcs rfl) (m := 1) (us := us) ⟨by rw [hu], .inr (.inr ⟨vb, voff, vc, rfl, hvs⟩)⟩ h1 (by omega) (by omega) with ⟨_, _, _, h⟩ | ⟨v, w', b', cap', cs', T', hr, A⟩
 ·cases h
 ·go_enter Tryz.func214, Tryz.ntmps214
  have hend : InsE w w' 5 _ v _ _ 1 b _ cs us := ⟨_, _, _, _, A.ins⟩
  go_wp2_with (at_builtin; refine Lib.wpList_append_run _ rfl _ _ _ _ rfl _ _ rfl rfl _ _ hr ?_)
  all_goals go_ret
  all_goals first | exact ⟨v, rfl, hend⟩ | (have hcn : c = n := by (first | assumption | (symm; assumption) | omega); subst hcn; exact ⟨v, rfl, hend⟩)
theorem insFn : b7p Tryz.prog 214 .wlk := by
 intro w s n b cap cs T i vb vcap vT vcs us hO hi hvb hvh hu hvs h1 h1c hL
 have hs5 : RT.size .wlk = 5 := rfl
 have hb5 : RT.bytes .wlk = 40 := rfl
 rw [hs5] at *
 rw [hb5] at hL
 cases hO with
 | nil _ _ _ _ hcs hcap =>
  have : i = 0 := by omega
  subst this
  subst hcap
  exact ins_nil w b vb 0 vcap T cs us hcs hu hvs h1
 | row _ _ _ _ _ hh hnc hcm hcs =>
  rcases Nat.lt_or_ge i n with hlt | hge
  ·rcases Nat.lt_or_ge cap (n + 1) with hr | hr
   ·exact ins_grow w b n cap i vb 0 vcap T vT cs vcs us hlt hnc hr hcm hh hcs hu hvh hvs h1 h1c hL
   ·exact ins_room w b n cap i vb 0 vcap T vT cs vcs us hlt hr hcm hh hcs hu hvh (hvb ⟨_, rfl⟩) hvs h1 h1c
  ·have : i = n := by omega
   subst this
   exact ins_end w b i cap vb 0 vcap T cs us hnc hcm hh hcs hu hvs h1 hL
theorem okInsert : b8 Tryz.prog 214 (.raw (insM .wlk)) :=
 b8C ⟨_, _, Tryz.func214, by kernel_rfl, rfl⟩ insFn
end Go.Proofs.YtkclfaldmghkeaaGreat
