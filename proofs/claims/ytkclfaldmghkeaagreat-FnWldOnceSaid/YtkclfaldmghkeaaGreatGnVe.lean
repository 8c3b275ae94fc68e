/-
  Contracts: a record done; parcels let go.
-/
import Derived.Test.YtkclfaldmghkeaaGreatFnFb
import Derived.Test.YtkclfaldmghkeaaGreatFnP
import Derived.Test.YtkclfaldmghkeaaGreatFnIc
import Derived.Test.YtkclfaldmghkeaaGreatM2
import Derived.Test.YtkclfaldmghkeaaGreatM1
set_option linter.unusedVariables false
set_option linter.unusedSimpArgs false
set_option maxRecDepth 100000
set_option maxHeartbeats 16000000
namespace Go.Proofs.YtkclfaldmghkeaaGreat
open Go.Sx Go.Proofs Go.Mo
noncomputable def a2D : Sx.Spec := ⟨false, true, [.map, .row .cll, .list .rcd], [nCll, [none]], fun _ _ ⟨m, c, l, _⟩ => .ret (.tup [oCll fun _ => (H6 (m ()) (c ()) (l ())).c, vI fun _ => (H6 (m ()) (c ()) (l ())).n], fun _ => 0)⟩
theorem b8n {m : PMap} {c : Cll} {l : List Sx.Rec} {k : Nat} : (J4 m (r7 m c l k) (nth .rcd l k)).ok = H8 m c l k := by
 unfold J4 H8
 split <;> simp_all
theorem b6p {m : PMap} {c : Cll} {l : List Sx.Rec} {k : Nat} (h : (J4 m (r7 m c l k) (nth .rcd l k)).ok = true) : (J4 m (r7 m c l k) (nth .rcd l k)).c = r7 m c l (k + 1) := by
 unfold J4 at *
 split
 ·rw [J8]
 ·rename_i hh
  rw [if_neg hh] at h
  cases h
theorem b7C {m : PMap} {c : Cll} {l : List Sx.Rec} {k : Nat} (h : q9 m c = true) (hl : l.length ≤ 250) (hk : k < l.length) (ha : l8 k (H8 m c l) = true) (hf : H8 m c l k = false) : H6 m c l = ⟨r7 m c l k, k⟩ := by
 rw [H6, if_pos ⟨h, hl⟩, a1x, b5Z hk ha hf]
theorem b5s {m : PMap} {c : Cll} {l : List Sx.Rec} {k : Nat} (h : q9 m c = true) (hl : l.length ≤ 250) (hk : k = l.length) (ha : l8 k (H8 m c l) = true) : H6 m c l = ⟨r7 m c l k, k⟩ := by
 rw [H6, if_pos ⟨h, hl⟩, a1x, a3E hk ha]
theorem b5r {m : PMap} {c : Cll} {l : List Sx.Rec} (h : q9 m c = false ∨ 250 < l.length) : H6 m c l = ⟨O7, 0⟩ := by
 rw [H6, if_neg]
 rintro ⟨h1, h2⟩
 rcases h with h | h
 ·rw [h] at h1
  cases h1
 ·omega
end Go.Proofs.YtkclfaldmghkeaaGreat
namespace Go.Sx
def oneC (v : V) : C := match v with
 | .one c => c
 | _ => .unk
def St.tmB (σ : St) (d : Nat) : Th Bool := asB (oneC (σ.tm.get d))
end Go.Sx
namespace Go.Proofs.YtkclfaldmghkeaaGreat
open Go.Sx Go.Proofs Go.Mo
def noRow : Th Row := fun _ => ⟨0, 0, false, ⟨0, 0, 0, 0, 0⟩, 0, 0⟩
theorem c4H : b7 Tryz.prog 68 b9b := j8 j3 (ss := [(27, a3N), (139, b9g)]) ⟨a1S, b7w, trivial⟩ rfl rfl <| by
 intro (bs : Th (List Int)) (p : Th Int) ⟨(w : Th Wld), u⟩ K hb hp0 ho h
 obtain ⟨w, rfl⟩ := a8 w; obtain ⟨bs, rfl⟩ := a8 bs; obtain ⟨p, rfl⟩ := a8 p
 obtain ⟨hpre, h⟩ := h
 have hpre : True ∧ 0 ≤ p ∧ p ≤ 999000000000 := hpre.out
 refine ⟨noAnn, annL [(68, 4, ⟨Th Int × Th Int, [], fun σ g => (σ.t 5 (.one (.att (.int .i64 g.1)))).E7 0 1 (.att (.int .i64 g.2)), fun _ g _ => Ob fun _ => p ≤ g.2 () ∧ g.2 () ≤ p + 2, fun _ g _ => 0⟩),
  (68, 13, ⟨Th Bool × Th Int, [], fun σ g => σ.t 37 (.one (.att (.bool (.of g.1)))), fun _ g _ => Ob fun _ => True, fun _ g _ => 0⟩),
  (68, 19, ⟨Th Int × Th Bool, [], fun σ g => σ.t 47 (.one (.att (.bool (.of g.2)))), fun _ g _ => Ob fun _ => True, fun _ g _ => 0⟩),
  (68, 24, ⟨Th Bool × Th Bool, [], fun σ g => σ.t 61 (.one (.att (.bool (.of g.1)))), fun _ g _ => Ob fun _ => True, fun _ g _ => 0⟩),
  (68, 28, ⟨Th Bool × Th Row, [], fun σ g => σ.t 66 (.one (.att (.bool (.of g.1)))), fun _ g _ => Ob fun _ => True, fun _ g _ => 0⟩)], 20, ?_⟩
 cbv
 repeat' first | ((with_reducible refine fun (g : Th Int × Th Int) => ?_); obtain ⟨i, q⟩ := g; obtain ⟨i, rfl⟩ := a8 i; obtain ⟨q, rfl⟩ := a8 q; (with_reducible refine ImpB.out ?_); cbv; (with_reducible refine ImpB.mk ?_); intro hq; obtain ⟨hq⟩ := hq) | ((with_reducible refine fun (g : Th Bool × Th Int) => ?_); obtain ⟨b1, z1⟩ := g; obtain ⟨b1, rfl⟩ := a8 b1; obtain ⟨z1, rfl⟩ := a8 z1; (with_reducible refine ImpB.out ?_); cbv; (with_reducible refine ImpB.mk ?_); intro hq; obtain ⟨hq⟩ := hq) | ((with_reducible refine fun (g : Th Int × Th Bool) => ?_); obtain ⟨z2, b2⟩ := g; obtain ⟨z2, rfl⟩ := a8 z2; obtain ⟨b2, rfl⟩ := a8 b2; (with_reducible refine ImpB.out ?_); cbv; (with_reducible refine ImpB.mk ?_); intro hq; obtain ⟨hq⟩ := hq) | ((with_reducible refine fun (g : Th Bool × Th Bool) => ?_); obtain ⟨b3, z3⟩ := g; obtain ⟨b3, rfl⟩ := a8 b3; obtain ⟨z3, rfl⟩ := a8 z3; (with_reducible refine ImpB.out ?_); cbv; (with_reducible refine ImpB.mk ?_); intro hq; obtain ⟨hq⟩ := hq) | ((with_reducible refine fun (g : Th Bool × Th Row) => ?_); obtain ⟨b4, z4⟩ := g; obtain ⟨b4, rfl⟩ := a8 b4; obtain ⟨z4, rfl⟩ := a8 z4; (with_reducible refine ImpB.out ?_); cbv; (with_reducible refine ImpB.mk ?_); intro hq; obtain ⟨hq⟩ := hq) | ((with_reducible intro _); cbv) | (with_reducible refine And.intro ?_ ?_)
 all_goals try ((first | (with_reducible refine LoopIn.wf (fun σ => (σ.tmI 5, asI (σ.ce 0 1))) ?_ ?_) | (with_reducible refine LoopBack.wf (fun σ => (σ.tmI 5, asI (σ.ce 0 1))) ?_ ?_ ?_) | (with_reducible refine LoopIn.wf (fun σ => (σ.tmB 37, Y2)) ?_ ?_) | (with_reducible refine LoopBack.wf (fun σ => (σ.tmB 37, Y2)) ?_ ?_ ?_) | (with_reducible refine LoopIn.wf (fun σ => (Y2, σ.tmB 47)) ?_ ?_) | (with_reducible refine LoopBack.wf (fun σ => (Y2, σ.tmB 47)) ?_ ?_ ?_) | (with_reducible refine LoopIn.wf (fun σ => (σ.tmB 61, A4)) ?_ ?_) | (with_reducible refine LoopBack.wf (fun σ => (σ.tmB 61, A4)) ?_ ?_ ?_) | (with_reducible refine LoopIn.wf (fun σ => (σ.tmB 66, noRow)) ?_ ?_) | (with_reducible refine LoopBack.wf (fun σ => (σ.tmB 66, noRow)) ?_ ?_ ?_)) <;> cbv)
 all_goals try (with_reducible show _ ∧ _; (try simp only [and_true, true_and]))
 all_goals try (repeat' with_reducible refine And.intro ?_ ?_)
 all_goals try (with_reducible refine MeasB.mk ?_)
 all_goals first | (refine retK (h _ _ _ _ _ _ ?_) rfl; clear h) | (with_reducible refine Ob.mk ?_; clear h) | (clear h)
 all_goals (try simp only [eta0, RT.bytes] at *)
 all_goals (try dsimp only [RT.ty] at *)
 all_goals (try simp only [a3U] at *)
 all_goals (first | rfl | omega | grind [e8])
end Go.Proofs.YtkclfaldmghkeaaGreat
