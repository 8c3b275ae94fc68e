/-
  Contracts: what is drawn: lists of walkers, records.
-/
import Derived.Test.YtkclfaldmghkeaaGreatGsT
import Derived.Test.YtkclfaldmghkeaaGreatGnJ
import Derived.Test.YtkclfaldmghkeaaGreatM1
import Derived.Test.YtkclfaldmghkeaaGreatFnFb
import Derived.Test.YtkclfaldmghkeaaGreatM3
set_option linter.unusedVariables false
set_option linter.unusedSimpArgs false
set_option maxRecDepth 100000
set_option maxHeartbeats 8000000
namespace Go.Proofs.YtkclfaldmghkeaaGreat
open Go.Sx Go.Proofs Go.Mo
theorem a1a (n : Nat) : (NatCast.natCast n : Int) = (n : Int) := rfl
theorem tmw {a n : Int} (ha : 0 ≤ a) (hb : a ≤ 1000000000000000) (hn : 1 ≤ n) : 0 ≤ (IntKind.i64.wrap (a + 1)).tmod n ∧ (IntKind.i64.wrap (a + 1)).tmod n < n := by
 rw [b9 (by omega) (by omega)]
 exact tm (by omega) hn
noncomputable def b6U (p : Th Int) (pre : Th Prop) (B n : Int) : Rn (V × Th Int) :=   .asrt (fun _ => pre () ∧ 0 ≤ p () ∧ p () ≤ B) (.all Int fun x0 => .all Int fun x1 => .all Int fun x2 => .all Int fun x3 => .all Int fun x4 => .all Int fun q => .asm (fun _ => p () ≤ q ∧ q ≤ p () + n) (.ret (.agg [cI x0, cI x1, cI x2, cI x3, cI x4], fun _ => q)))
noncomputable def c0d : Sx.Spec := ⟨true, false, [.row .wld], [], fun _ p ⟨w, _⟩ => b6U p (fun _ => True) 999000001000 40⟩
noncomputable def b9Y : Sx.Spec := ⟨true, false, [.row .wld], [], fun _ p ⟨w, _⟩ => b6U p (fun _ => True) 999000000000 60⟩
noncomputable def b9L : Sx.Spec := ⟨true, false, [.row .wld, .int .i64, .int .i64], [], fun _ p ⟨w, _⟩ => b6U p (fun _ => True) 999000000000 60⟩
noncomputable def sLateE : Sx.Spec := ⟨true, false, [.row .wld, .int .i64], [], fun _ p ⟨w, _⟩ => b6U p (fun _ => (w ()).rows.length ≤ 20 ∧ 1 ≤ (w ()).servers.length) 999000000000 100⟩
noncomputable def b5g : Sx.Spec := ⟨true, false, [.row .wld, .int .i64], [], fun _ p ⟨w, _⟩ => b6U p (fun _ => (w ()).stores.length ≤ 20) 999000000000 100⟩
theorem b8t : b8 Tryz.prog 139 c0d := j6 j4 (ss := [(181, sOrder), (27, a4n)]) ⟨okOrder, a2q, trivial⟩ rfl rfl <| by
 intro (bs : Th (List Int)) (p : Th Int) ⟨(w : Th Wld), u⟩ K hb hp0 ho h
 obtain ⟨w, rfl⟩ := b6 w; obtain ⟨bs, rfl⟩ := b6 bs; obtain ⟨p, rfl⟩ := b6 p
 obtain ⟨hpre, h⟩ := h
 have hpre : True ∧ 0 ≤ p ∧ p ≤ 999000001000 := hpre.out
 have hl := okL (ho.1 _ (.tail _ (.tail _ (.tail _ (.tail _ (.tail _ (.tail _ (.head _))))))))
 refine ⟨noAnn, noAnn, 20, ?_⟩
 cbv
 repeat' first | ((with_reducible intro _); cbv) | (with_reducible refine And.intro ?_ ?_)
 all_goals first | (refine retK (h _ _ _ _ _ _ ?_) rfl; clear h) | (with_reducible refine Ob.mk ?_; clear h) | (clear h)
 all_goals (try simp only [eta0, RT.bytes] at *)
 all_goals first | omega | grind [b9]
theorem okStoryE : b8 Tryz.prog 70 b9L := j6 j4 (ss := [(27, a4n)]) ⟨a2q, trivial⟩ rfl rfl <| by
 intro (bs : Th (List Int)) (p : Th Int) ⟨(w : Th Wld), (k : Th Int), (what : Th Int), u⟩ K hb hp0 ho h
 obtain ⟨w, rfl⟩ := b6 w; obtain ⟨k, rfl⟩ := b6 k; obtain ⟨what, rfl⟩ := b6 what; obtain ⟨bs, rfl⟩ := b6 bs; obtain ⟨p, rfl⟩ := b6 p
 obtain ⟨hpre, h⟩ := h
 have hpre : True ∧ 0 ≤ p ∧ p ≤ 999000000000 := hpre.out
 refine ⟨noAnn, noAnn, 20, ?_⟩
 cbv
 repeat' first | ((with_reducible intro _); cbv) | (with_reducible refine And.intro ?_ ?_)
 all_goals first | (refine retK (h _ _ _ _ _ _ ?_) rfl; clear h) | (with_reducible refine Ob.mk ?_; clear h) | (clear h)
 all_goals (try simp only [eta0, RT.bytes] at *)
 all_goals first | omega | grind [b9]
theorem okLateE : b8 Tryz.prog 69 sLateE := j6 j4 (ss := [(27, a4n), (139, c0d), (140, I8)]) ⟨a2q, b8t, U2, trivial⟩ rfl rfl <| by
 intro (bs : Th (List Int)) (p : Th Int) ⟨(w : Th Wld), (k : Th Int), u⟩ K hb hp0 ho h
 obtain ⟨w, rfl⟩ := b6 w; obtain ⟨k, rfl⟩ := b6 k; obtain ⟨bs, rfl⟩ := b6 bs; obtain ⟨p, rfl⟩ := b6 p
 obtain ⟨hpre, h⟩ := h
 have hpre : (w.rows.length ≤ 20 ∧ 1 ≤ w.servers.length) ∧ 0 ≤ p ∧ p ≤ 999000000000 := hpre.out
 have hl := okL (ho.1 _ (.tail _ (.tail _ (.tail _ (.tail _ (.tail _ (.tail _ (.tail _ (.head _)))))))))
 refine ⟨annL [(69, 3, ⟨Th Int × Th Row × Th Int, [], fun σ g => ((σ.t 8 (.one (.att (.int .i64 g.1)))).a5b 8 0 (b0u g.2.1)).F5 0 1 (.att (.int .i64 g.2.2)),
   fun _ g _ => Ob fun _ => 0 ≤ g.1 () ∧ g.1 () ≤ w.rows.length ∧ p ≤ g.2.2 () ∧ g.2.2 () ≤ p + g.1 (), fun _ g _ => w.rows.length - (g.1 ()).toNat⟩),
  (69, 19, ⟨Th Int × Th Bool, [], fun σ g => σ.t 9 (.one (.att (.int .i64 g.1))), fun _ g _ => Ob fun _ => 0 ≤ g.1 () ∧ g.1 () ≤ w.net.length, fun _ g _ => w.net.length - (g.1 ()).toNat⟩)], noAnn, 20, ?_⟩
 cbv
 repeat' first | ((with_reducible refine fun (g : Th Int × Th Row × Th Int) => ?_); obtain ⟨i, r, q⟩ := g; obtain ⟨i, rfl⟩ := b6 i; obtain ⟨r, rfl⟩ := b6 r; obtain ⟨q, rfl⟩ := b6 q; (with_reducible refine ImpB.out ?_); cbv; (with_reducible refine ImpB.mk ?_); intro hq; obtain ⟨hq⟩ := hq) | ((with_reducible refine fun (g : Th Int × Th Bool) => ?_); obtain ⟨j, z⟩ := g; obtain ⟨j, rfl⟩ := b6 j; obtain ⟨z, rfl⟩ := b6 z; (with_reducible refine ImpB.out ?_); cbv; (with_reducible refine ImpB.mk ?_); intro hq; obtain ⟨hq⟩ := hq) | ((with_reducible intro _); cbv) | (with_reducible refine And.intro ?_ ?_)
 all_goals try ((first | (with_reducible refine LoopIn.wf (fun σ => (σ.tmI 8, rdRow σ 8, asI (σ.ce 0 1))) ?_ ?_) | (with_reducible refine LoopBack.wf (fun σ => (σ.tmI 8, rdRow σ 8, asI (σ.ce 0 1))) ?_ ?_ ?_) | (with_reducible refine LoopIn.wf (fun σ => (σ.tmI 9, y3)) ?_ ?_) | (with_reducible refine LoopBack.wf (fun σ => (σ.tmI 9, y3)) ?_ ?_ ?_)) <;> cbv)
 all_goals try (with_reducible show _ ∧ _; (try simp only [and_true, true_and]))
 all_goals try (repeat' with_reducible refine And.intro ?_ ?_)
 all_goals try (with_reducible refine MeasB.mk ?_)
 all_goals first | (refine retK (h _ _ _ _ _ _ ?_) rfl; clear h) | (with_reducible refine Ob.mk ?_; clear h) | (clear h)
 all_goals (try simp only [eta0, RT.bytes] at *)
 all_goals (first | rfl | omega | grind [b9, tm, tmw])
theorem c2M : b8 Tryz.prog 71 b5g := j6 j4 (ss := [(139, c0d), (27, a4n), (140, I8)]) ⟨b8t, a2q, U2, trivial⟩ rfl rfl <| by
 intro (bs : Th (List Int)) (p : Th Int) ⟨(w : Th Wld), (k : Th Int), u⟩ K hb hp0 ho h
 obtain ⟨w, rfl⟩ := b6 w; obtain ⟨k, rfl⟩ := b6 k; obtain ⟨bs, rfl⟩ := b6 bs; obtain ⟨p, rfl⟩ := b6 p
 obtain ⟨hpre, h⟩ := h
 have hpre : w.stores.length ≤ 20 ∧ 0 ≤ p ∧ p ≤ 999000000000 := hpre.out
 have hl := okL (ho.1 _ (.tail _ (.tail _ (.tail _ (.tail _ (.tail _ (.tail _ (.head _))))))))
 refine ⟨annL [(71, 8, ⟨Th Int × Th Int, [], fun σ g => (σ.t 7 (.one (.att (.int .i64 g.1)))).t 8 (.one (.att (.int .i64 g.2))),
   fun _ g _ => Ob fun _ => 0 ≤ g.1 () ∧ g.1 () < w.rows.length ∧ 0 ≤ g.2 () ∧ g.2 () ≤ w.rows.length, fun _ g _ => w.rows.length - (g.2 ()).toNat⟩),
  (71, 16, ⟨Th Int × Th Int × Th Int, [], fun σ g => ((σ.t 9 (.one (.att (.int .i64 g.1)))).t 10 (.one (.att (.int .i64 g.2.1)))).F5 0 1 (.att (.int .i64 g.2.2)),
   fun _ g _ => Ob fun _ => 0 ≤ g.1 () ∧ (w.stores.length = 0 ∨ g.1 () < w.stores.length) ∧ 0 ≤ g.2.1 () ∧ g.2.1 () ≤ w.stores.length ∧ p ≤ g.2.2 () ∧ g.2.2 () ≤ p + 10 + g.2.1 (), fun _ g _ => w.stores.length - (g.2.1 ()).toNat⟩)], noAnn, 20, ?_⟩
 cbv
 repeat' first | ((with_reducible refine fun (g : Th Int × Th Int × Th Int) => ?_); obtain ⟨c, n, q⟩ := g; obtain ⟨c, rfl⟩ := b6 c; obtain ⟨n, rfl⟩ := b6 n; obtain ⟨q, rfl⟩ := b6 q; (with_reducible refine ImpB.out ?_); cbv; (with_reducible refine ImpB.mk ?_); intro hq; obtain ⟨hq⟩ := hq) | ((with_reducible refine fun (g : Th Int × Th Int) => ?_); obtain ⟨i, n⟩ := g; obtain ⟨i, rfl⟩ := b6 i; obtain ⟨n, rfl⟩ := b6 n; (with_reducible refine ImpB.out ?_); cbv; (with_reducible refine ImpB.mk ?_); intro hq; obtain ⟨hq⟩ := hq) | ((with_reducible intro _); cbv) | (with_reducible refine And.intro ?_ ?_)
 all_goals try ((first | (with_reducible refine LoopIn.wf (fun σ => (σ.tmI 9, σ.tmI 10, asI (σ.ce 0 1))) ?_ ?_) | (with_reducible refine LoopBack.wf (fun σ => (σ.tmI 9, σ.tmI 10, asI (σ.ce 0 1))) ?_ ?_ ?_) | (with_reducible refine LoopIn.wf (fun σ => (σ.tmI 7, σ.tmI 8)) ?_ ?_) | (with_reducible refine LoopBack.wf (fun σ => (σ.tmI 7, σ.tmI 8)) ?_ ?_ ?_)) <;> cbv)
 all_goals try (with_reducible show _ ∧ _; (try simp only [and_true, true_and]))
 all_goals try (repeat' with_reducible refine And.intro ?_ ?_)
 all_goals try (with_reducible refine MeasB.mk ?_)
 all_goals first | (refine retK (h _ _ _ _ _ _ ?_) rfl; clear h) | (with_reducible refine Ob.mk ?_; clear h) | (clear h)
 all_goals (try simp only [eta0, RT.bytes] at *)
 all_goals (try dsimp only [RT.ty] at *)
 all_goals (try simp only [a1a] at *)
 all_goals (first | rfl | omega | grind [b9] | (have hq2 := @tmw i w.rows.length (by omega) (by omega) (by omega); have hw := @b9 (n + 1) (by omega) (by omega); rw [hw]; exact ⟨hq2.1, hq2.2, by omega, by omega⟩) |
  (have hq2 := @tmw c w.stores.length (by omega) (by omega) (by omega); have hw := @b9 (n + 1) (by omega) (by omega); rw [hw]; exact ⟨hq2.1, .inr hq2.2, by omega, by omega, by omega, by omega⟩))
end Go.Proofs.YtkclfaldmghkeaaGreat
namespace Go.Sx
def oneC (v : V) : C := match v with
 | .one c => c
 | _ => .unk
def St.tmB (σ : St) (d : Nat) : Th Bool := asB (oneC (σ.tm.get d))
end Go.Sx
namespace Go.Proofs.YtkclfaldmghkeaaGreat
open Go.Sx Go.Proofs Go.Mo
def noRow : Th Row := fun _ => ⟨0, 0, false, ⟨0, 0, 0, 0, 0⟩, 0, 0⟩
theorem okEventE : b8 Tryz.prog 68 b9Y := j6 j4 (ss := [(27, a4n), (139, c0d)]) ⟨a2q, b8t, trivial⟩ rfl rfl <| by
 intro (bs : Th (List Int)) (p : Th Int) ⟨(w : Th Wld), u⟩ K hb hp0 ho h
 obtain ⟨w, rfl⟩ := b6 w; obtain ⟨bs, rfl⟩ := b6 bs; obtain ⟨p, rfl⟩ := b6 p
 obtain ⟨hpre, h⟩ := h
 have hpre : True ∧ 0 ≤ p ∧ p ≤ 999000000000 := hpre.out
 refine ⟨noAnn, annL [(68, 4, ⟨Th Int × Th Int, [], fun σ g => (σ.t 5 (.one (.att (.int .i64 g.1)))).F5 0 1 (.att (.int .i64 g.2)), fun _ g _ => Ob fun _ => p ≤ g.2 () ∧ g.2 () ≤ p + 2, fun _ g _ => 0⟩),
  (68, 13, ⟨Th Bool × Th Int, [], fun σ g => σ.t 37 (.one (.att (.bool (.of g.1)))), fun _ g _ => Ob fun _ => True, fun _ g _ => 0⟩),
  (68, 19, ⟨Th Int × Th Bool, [], fun σ g => σ.t 47 (.one (.att (.bool (.of g.2)))), fun _ g _ => Ob fun _ => True, fun _ g _ => 0⟩),
  (68, 24, ⟨Th Bool × Th Bool, [], fun σ g => σ.t 61 (.one (.att (.bool (.of g.1)))), fun _ g _ => Ob fun _ => True, fun _ g _ => 0⟩),
  (68, 28, ⟨Th Bool × Th Row, [], fun σ g => σ.t 66 (.one (.att (.bool (.of g.1)))), fun _ g _ => Ob fun _ => True, fun _ g _ => 0⟩)], 20, ?_⟩
 cbv
 repeat' first | ((with_reducible refine fun (g : Th Int × Th Int) => ?_); obtain ⟨i, q⟩ := g; obtain ⟨i, rfl⟩ := b6 i; obtain ⟨q, rfl⟩ := b6 q; (with_reducible refine ImpB.out ?_); cbv; (with_reducible refine ImpB.mk ?_); intro hq; obtain ⟨hq⟩ := hq) | ((with_reducible refine fun (g : Th Bool × Th Int) => ?_); obtain ⟨b1, z1⟩ := g; obtain ⟨b1, rfl⟩ := b6 b1; obtain ⟨z1, rfl⟩ := b6 z1; (with_reducible refine ImpB.out ?_); cbv; (with_reducible refine ImpB.mk ?_); intro hq; obtain ⟨hq⟩ := hq) | ((with_reducible refine fun (g : Th Int × Th Bool) => ?_); obtain ⟨z2, b2⟩ := g; obtain ⟨z2, rfl⟩ := b6 z2; obtain ⟨b2, rfl⟩ := b6 b2; (with_reducible refine ImpB.out ?_); cbv; (with_reducible refine ImpB.mk ?_); intro hq; obtain ⟨hq⟩ := hq) | ((with_reducible refine fun (g : Th Bool × Th Bool) => ?_); obtain ⟨b3, z3⟩ := g; obtain ⟨b3, rfl⟩ := b6 b3; obtain ⟨z3, rfl⟩ := b6 z3; (with_reducible refine ImpB.out ?_); cbv; (with_reducible refine ImpB.mk ?_); intro hq; obtain ⟨hq⟩ := hq) | ((with_reducible refine fun (g : Th Bool × Th Row) => ?_); obtain ⟨b4, z4⟩ := g; obtain ⟨b4, rfl⟩ := b6 b4; obtain ⟨z4, rfl⟩ := b6 z4; (with_reducible refine ImpB.out ?_); cbv; (with_reducible refine ImpB.mk ?_); intro hq; obtain ⟨hq⟩ := hq) | ((with_reducible intro _); cbv) | (with_reducible refine And.intro ?_ ?_)
 all_goals try ((first | (with_reducible refine LoopIn.wf (fun σ => (σ.tmI 5, asI (σ.ce 0 1))) ?_ ?_) | (with_reducible refine LoopBack.wf (fun σ => (σ.tmI 5, asI (σ.ce 0 1))) ?_ ?_ ?_) | (with_reducible refine LoopIn.wf (fun σ => (σ.tmB 37, Z9)) ?_ ?_) | (with_reducible refine LoopBack.wf (fun σ => (σ.tmB 37, Z9)) ?_ ?_ ?_) | (with_reducible refine LoopIn.wf (fun σ => (Z9, σ.tmB 47)) ?_ ?_) | (with_reducible refine LoopBack.wf (fun σ => (Z9, σ.tmB 47)) ?_ ?_ ?_) | (with_reducible refine LoopIn.wf (fun σ => (σ.tmB 61, y3)) ?_ ?_) | (with_reducible refine LoopBack.wf (fun σ => (σ.tmB 61, y3)) ?_ ?_ ?_) | (with_reducible refine LoopIn.wf (fun σ => (σ.tmB 66, noRow)) ?_ ?_) | (with_reducible refine LoopBack.wf (fun σ => (σ.tmB 66, noRow)) ?_ ?_ ?_)) <;> cbv)
 all_goals try (with_reducible show _ ∧ _; (try simp only [and_true, true_and]))
 all_goals try (repeat' with_reducible refine And.intro ?_ ?_)
 all_goals try (with_reducible refine MeasB.mk ?_)
 all_goals first | (refine retK (h _ _ _ _ _ _ ?_) rfl; clear h) | (with_reducible refine Ob.mk ?_; clear h) | (clear h)
 all_goals (try simp only [eta0, RT.bytes] at *)
 all_goals (try dsimp only [RT.ty] at *)
 all_goals (try simp only [a1a] at *)
 all_goals (first | rfl | omega | grind [b9])
end Go.Proofs.YtkclfaldmghkeaaGreat
