/-
  Contracts: a message brought, the program's way.
-/
import Derived.Test.YtkclfaldmghkeaaGreatGnD
import Derived.Test.YtkclfaldmghkeaaGreatGnH
import Derived.Test.YtkclfaldmghkeaaGreatGnTb
import Derived.Test.YtkclfaldmghkeaaGreatGnS
set_option linter.unusedVariables false
set_option linter.unusedSimpArgs false
set_option maxRecDepth 100000
set_option maxHeartbeats 16000000
namespace Go.Sx
def St.upThin (σ : St) : St := ⟨σ.tm, σ.hp, σ.up.map b2j⟩
end Go.Sx
namespace Go.Proofs.YtkclfaldmghkeaaGreat
open Go.Sx Go.Proofs Go.Mo
theorem c5F {w : Wld} (hok : p9 w = true) {i : Nat} (hi : i < w.net.length) (hd : ¬ (nth .msg w.net i).dest = -1) :
  C9 w.map (nth .srv w.servers (nth .msg w.net i).dest.toNat) w.stores w.table w.servers.length (nth .msg w.net i) = n5 w.map (nth .srv w.servers (nth .msg w.net i).dest.toNat) w.stores w.table (nth .msg w.net i) := by
 have hF := G5 hok
 have hm := hF.2.2.2.2.2.1 i hi
 have hs := hF.2.2.2.2.2.2.1 (nth .msg w.net i).dest.toNat (by omega)
 rw [C9, if_pos ⟨hs, hF.2.1, hF.1, hm.1⟩]
theorem b6o {w : Wld} (hok : p9 w = true) {i : Nat} (hi : i < w.net.length) (hd : ¬ (nth .msg w.net i).dest = -1) {s : Srv} {st : List Sto} {out : List Msg}
  (h1 : @Eq Srv (C9 w.map (nth .srv w.servers (nth .msg w.net i).dest.toNat) w.stores w.table w.servers.length (nth .msg w.net i)).srv s) (h2 : @Eq (List Sto) (C9 w.map (nth .srv w.servers (nth .msg w.net i).dest.toNat) w.stores w.table w.servers.length (nth .msg w.net i)).stores st)
  (h3 : @Eq (List Msg) (C9 w.map (nth .srv w.servers (nth .msg w.net i).dest.toNat) w.stores w.table w.servers.length (nth .msg w.net i)).out out) :
  u4 ⟨w.map, w.servers.set (nth .msg w.net i).dest.toNat s, st, w.table, w.rows, w.net.eraseIdx i, w.notes⟩ out = Q8 w i := by
 rw [← h1, ← h2, ← h3, c5F hok hi hd]
 unfold Q8
 simp only
 rw [if_neg hd]
 rfl
theorem c2Z {w : Wld} (hok : p9 w = true) {i : Nat} (hi : i < w.net.length) (hd : ¬ (nth .msg w.net i).dest = -1) {st : List Sto} {out : List Msg}
  (h1 : @Eq Srv (C9 w.map (nth .srv w.servers (nth .msg w.net i).dest.toNat) w.stores w.table w.servers.length (nth .msg w.net i)).srv (nth .srv w.servers (nth .msg w.net i).dest.toNat)) (h2 : @Eq (List Sto) (C9 w.map (nth .srv w.servers (nth .msg w.net i).dest.toNat) w.stores w.table w.servers.length (nth .msg w.net i)).stores st)
  (h3 : @Eq (List Msg) (C9 w.map (nth .srv w.servers (nth .msg w.net i).dest.toNat) w.stores w.table w.servers.length (nth .msg w.net i)).out out) :
  u4 ⟨w.map, w.servers, st, w.table, w.rows, w.net.eraseIdx i, w.notes⟩ out = Q8 w i := by
 have := b6o hok hi hd h1 h2 h3
 have hs : w.servers.set (nth .msg w.net i).dest.toNat (nth .srv w.servers (nth .msg w.net i).dest.toNat) = w.servers := by
  apply List.ext_getElem (by simp)
  intro j h1 h2
  rw [List.getElem_set]
  split
  ·rename_i e
   subst e
   rw [k9 .srv _ _ h2]
  ·rfl
 rw [hs] at this
 exact this
theorem c7Y {w : Wld} {i : Nat} (hd : (nth .msg w.net i).dest = -1) : Q8 w i = ⟨w.map, w.servers, w.stores, w.table, (y0 w.map w.rows (nth .msg w.net i)).b, w.net.eraseIdx i, if (y0 w.map w.rows (nth .msg w.net i)).ok = true ∧ w.notes.length < 150 then w.notes ++ [⟨(nth .msg w.net i).ord.who, (nth .msg w.net i).ord.seq, (nth .msg w.net i).n⟩] else w.notes⟩ := by
 unfold Q8
 simp only
 rw [if_pos hd]
 rfl
theorem c8j {w : Wld} (hok : p9 w = true) (i : Nat) : (w.net.eraseIdx i).length ≤ 40 := Nat.le_trans (List.length_eraseIdx_le ..) (G5 hok).2.2.2.1
noncomputable def b9e : Sx.Io := ⟨.row .wld, true, [.int .i64], [], fun w ⟨i, _⟩ => .asrt (fun _ => p9 (w ()) = true ∧ 0 ≤ i () ∧ i () < (w ()).net.length) (.ret (.tup [], fun _ => Q8 (w ()) (i ()).toNat))⟩
theorem c4M : b7 Tryz.prog 106 (ioX b9e) := io1 j3 (ss := [(107, a6E), (160, a4i), (228, b6O), (216, b0U), (194, b8P), (13, X0), (153, a0z), (42, O0), (233, (ioX sAddP)), (91, (ioX b9i)), (219, b0W), (85, E2), (157, I1), (103, (ioX b6P)), (159, (ioX c3M))]) ⟨a9f, b5k, b9A, b7s, c4u, b1j, b5m, a5z, okAddP, c4O, b7t, Q5, a2S, b9B, c7C, trivial⟩ rfl rfl <| by
 intro (w : Th Wld) ⟨(i : Th Int), u⟩ K _ ho h
 obtain ⟨w, rfl⟩ := a8 w; obtain ⟨i, rfl⟩ := a8 i
 obtain ⟨ha, h⟩ := h
 have ha := ha.out
 have ha : p9 w = true ∧ 0 ≤ i ∧ i < w.net.length := ha
 obtain ⟨hok, hi0, hi1⟩ := ha
 have hF := G5 hok
 have hw1 : IntKind.i64.wrap (i + 1) = i + 1 := e8 (by have := hF.2.2.2.1; dsimp only at *; omega) (by have := hF.2.2.2.1; dsimp only at *; omega)
 refine ⟨annL [(193, 5, ⟨Nat, [], fun σ k => (σ.upThin.only [0, 2, 5, 7, 9, 10]).t 8 (vI fun _ => (k : Int)), fun _ k _ => k ≤ (nth .srv w.servers (nth .msg w.net i.toNat).dest.toNat).holds.length ∧ l8 k (a3h (nth .srv w.servers (nth .msg w.net i.toNat).dest.toNat).holds (nth .msg w.net i.toNat).cell) = true, fun _ k _ => (nth .srv w.servers (nth .msg w.net i.toNat).dest.toNat).holds.length - k⟩)], noAnn, 20, ?_⟩
 cbv
 repeat' first | ((with_reducible refine fun (k : Nat) => ?_); cbv) | ((with_reducible intro _); cbv) | (with_reducible refine And.intro ?_ ?_)
 all_goals try ((first | (with_reducible refine LoopIn.mk ((0 : Nat)) ?_ ?_) | (with_reducible refine LoopBack.mk ((k + 1 : Nat)) ?_ ?_ ?_)) )
 all_goals try ((with_reducible show m6 _ _); cbv; (try simp only [and_true, true_and]))
 all_goals try (repeat' with_reducible refine And.intro ?_ ?_)
 all_goals first | refine ioK h ?_ ?_ | (with_reducible refine Ob.mk ?_; clear h) | (clear h)
 all_goals (try clear h)
 all_goals (try clear K)
 all_goals (try simp only [fin0])
 all_goals (try simp only [eta0, RT.bytes] at *)
 all_goals (try dsimp only [RT.ty] at *)
 all_goals (try simp only [ncastQ] at *)
 all_goals (try simp only [b6M] at *)
 all_goals (try simp only [B5] at *)
 all_goals (try clear ho ha)
 all_goals (try have hcf := c8j hok i.toNat)
 all_goals first | omega | exact ⟨by omega, by omega⟩ | exact j5 (by omega) | exact ⟨hcf, by simp⟩ | skip
 all_goals (try simp only [Classical.not_not] at *)
 all_goals (try have hge := c7Y (by assumption : (nth .msg w.net i.toNat).dest = -1))
 all_goals (try have hM := hF.2.2.2.2.2.1 i.toNat (by omega))
 all_goals (try have hS := hF.2.2.2.2.2.2.1 (nth .msg w.net i.toNat).dest.toNat (by omega))
 all_goals (try have hF2 := b5I hS hF.2.1 hM.1)
 all_goals (try (have hd2 : (nth .msg w.net i.toNat).dest.toNat < w.servers.length := by omega); simp only [l9 .srv hd2, List.set_set])
 all_goals first | refine b6o hok (by omega) (by assumption) ?_ ?_ ?_ | refine c2Z hok (by omega) (by assumption) ?_ ?_ ?_ | skip
 all_goals (try dsimp only [RT.ty] at *)
 all_goals (try generalize nth .srv w.servers (nth .msg w.net i.toNat).dest.toNat = s at *)
 all_goals (try generalize nth .msg w.net i.toNat = x at *)
 all_goals (try rw [l9 .sto (by omega)] at *)
 all_goals (try (have hlt : (e9 s.holds x.cell).toNat < s.holds.length := by omega); simp only [l9 .hld hlt, List.set_set])
 all_goals first | omega | rfl | grind (splits := 40) [C9, n5, I0, R4, R3, y8, s6, b9, v5, a0F, a5D, u5, E8, s5, O4, e8, j5, b2o, add_log, V8, m8, m7, a3h, c7f]
end Go.Proofs.YtkclfaldmghkeaaGreat
