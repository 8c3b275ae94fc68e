/-
  Contracts: a message brought, the program's way.
-/
import Derived.Test.YtkclfaldmghkeaaGreatGnD
import Derived.Test.YtkclfaldmghkeaaGreatGnH
import Derived.Test.YtkclfaldmghkeaaGreatGnTb
import Derived.Test.YtkclfaldmghkeaaGreatGnS
set_option linter.unusedVariables false
set_option linter.unusedSimpArgs false
set_option maxRecDepth 100000
set_option maxHeartbeats 16000000
namespace Go.Sx
def St.upThin (σ : St) : St := ⟨σ.tm, σ.hp, σ.up.map b2S⟩
end Go.Sx
namespace Go.Proofs.YtkclfaldmghkeaaGreat
open Go.Sx Go.Proofs Go.Mo
theorem hearX_is {w : Wld} (hok : o6 w = true) {i : Nat} (hi : i < w.net.length) (hd : ¬ (nth .msg w.net i).dest = -1) :
  D2 w.map (nth .srv w.servers (nth .msg w.net i).dest.toNat) w.stores w.table w.servers.length (nth .msg w.net i) = n9 w.map (nth .srv w.servers (nth .msg w.net i).dest.toNat) w.stores w.table (nth .msg w.net i) := by
 have hF := E4 hok
 have hm := hF.2.2.2.2.2.1 i hi
 have hs := hF.2.2.2.2.2.2.1 (nth .msg w.net i).dest.toNat (by omega)
 rw [D2, if_pos ⟨hs, hF.2.1, hF.1, hm.1⟩]
theorem b7i {w : Wld} (hok : o6 w = true) {i : Nat} (hi : i < w.net.length) (hd : ¬ (nth .msg w.net i).dest = -1) {s : Srv} {st : List Sto} {out : List Msg}
  (h1 : @Eq Srv (D2 w.map (nth .srv w.servers (nth .msg w.net i).dest.toNat) w.stores w.table w.servers.length (nth .msg w.net i)).srv s) (h2 : @Eq (List Sto) (D2 w.map (nth .srv w.servers (nth .msg w.net i).dest.toNat) w.stores w.table w.servers.length (nth .msg w.net i)).stores st)
  (h3 : @Eq (List Msg) (D2 w.map (nth .srv w.servers (nth .msg w.net i).dest.toNat) w.stores w.table w.servers.length (nth .msg w.net i)).out out) :
  u5 ⟨w.map, w.servers.set (nth .msg w.net i).dest.toNat s, st, w.table, w.rows, w.net.eraseIdx i, w.notes⟩ out = S7 w i := by
 rw [← h1, ← h2, ← h3, hearX_is hok hi hd]
 unfold S7
 simp only
 rw [if_neg hd]
 rfl
theorem bring_eq0 {w : Wld} (hok : o6 w = true) {i : Nat} (hi : i < w.net.length) (hd : ¬ (nth .msg w.net i).dest = -1) {st : List Sto} {out : List Msg}
  (h1 : @Eq Srv (D2 w.map (nth .srv w.servers (nth .msg w.net i).dest.toNat) w.stores w.table w.servers.length (nth .msg w.net i)).srv (nth .srv w.servers (nth .msg w.net i).dest.toNat)) (h2 : @Eq (List Sto) (D2 w.map (nth .srv w.servers (nth .msg w.net i).dest.toNat) w.stores w.table w.servers.length (nth .msg w.net i)).stores st)
  (h3 : @Eq (List Msg) (D2 w.map (nth .srv w.servers (nth .msg w.net i).dest.toNat) w.stores w.table w.servers.length (nth .msg w.net i)).out out) :
  u5 ⟨w.map, w.servers, st, w.table, w.rows, w.net.eraseIdx i, w.notes⟩ out = S7 w i := by
 have := b7i hok hi hd h1 h2 h3
 have hs : w.servers.set (nth .msg w.net i).dest.toNat (nth .srv w.servers (nth .msg w.net i).dest.toNat) = w.servers := by
  apply List.ext_getElem (by simp)
  intro j h1 h2
  rw [List.getElem_set]
  split
  ·rename_i e
   subst e
   rw [k8 .srv _ _ h2]
  ·rfl
 rw [hs] at this
 exact this
theorem gate_eq {w : Wld} {i : Nat} (hd : (nth .msg w.net i).dest = -1) : S7 w i = ⟨w.map, w.servers, w.stores, w.table, (y7 w.map w.rows (nth .msg w.net i)).b, w.net.eraseIdx i, if (y7 w.map w.rows (nth .msg w.net i)).ok = true ∧ w.notes.length < 150 then w.notes ++ [⟨(nth .msg w.net i).ord.who, (nth .msg w.net i).ord.seq, (nth .msg w.net i).n⟩] else w.notes⟩ := by
 unfold S7
 simp only
 rw [if_pos hd]
 rfl
theorem cut_few {w : Wld} (hok : o6 w = true) (i : Nat) : (w.net.eraseIdx i).length ≤ 40 := Nat.le_trans (List.length_eraseIdx_le ..) (E4 hok).2.2.2.1
noncomputable def c0b : Sx.Io := ⟨.row .wld, true, [.int .i64], [], fun w ⟨i, _⟩ => .asrt (fun _ => o6 (w ()) = true ∧ 0 ≤ i () ∧ i () < (w ()).net.length) (.ret (.tup [], fun _ => S7 (w ()) (i ()).toNat))⟩
theorem okBringP : b8 Tryz.prog 106 (ioX c0b) := io1 j4 (ss := [(107, a7e), (160, a4H), (228, b7H), (216, b1E), (194, b9M), (13, T8), (153, a0U), (42, M9), (233, (ioX sAddP)), (91, (ioX c0f)), (219, b1G), (85, E7), (157, I8), (103, (ioX b7I)), (159, (ioX sHearP))]) ⟨a9I, b6d, c0w, b8o, okRecord, a7k, b6f, a3o, okAddP, okApplyP, b8q, S1, a3p, c0x, okHearP, trivial⟩ rfl rfl <| by
 intro (w : Th Wld) ⟨(i : Th Int), u⟩ K _ ho h
 obtain ⟨w, rfl⟩ := b6 w; obtain ⟨i, rfl⟩ := b6 i
 obtain ⟨ha, h⟩ := h
 have ha := ha.out
 have ha : o6 w = true ∧ 0 ≤ i ∧ i < w.net.length := ha
 obtain ⟨hok, hi0, hi1⟩ := ha
 have hF := E4 hok
 have hw1 : IntKind.i64.wrap (i + 1) = i + 1 := b9 (by have := hF.2.2.2.1; dsimp only at *; omega) (by have := hF.2.2.2.1; dsimp only at *; omega)
 refine ⟨annL [(193, 5, ⟨Nat, [], fun σ k => (σ.upThin.only [0, 2, 5, 7, 9, 10]).t 8 (vI fun _ => (k : Int)), fun _ k _ => k ≤ (nth .srv w.servers (nth .msg w.net i.toNat).dest.toNat).holds.length ∧ m4 k (a3G (nth .srv w.servers (nth .msg w.net i.toNat).dest.toNat).holds (nth .msg w.net i.toNat).cell) = true, fun _ k _ => (nth .srv w.servers (nth .msg w.net i.toNat).dest.toNat).holds.length - k⟩)], noAnn, 20, ?_⟩
 cbv
 repeat' first | ((with_reducible refine fun (k : Nat) => ?_); cbv) | ((with_reducible intro _); cbv) | (with_reducible refine And.intro ?_ ?_)
 all_goals try ((first | (with_reducible refine LoopIn.mk ((0 : Nat)) ?_ ?_) | (with_reducible refine LoopBack.mk ((k + 1 : Nat)) ?_ ?_ ?_)) )
 all_goals try ((with_reducible show l8 _ _); cbv; (try simp only [and_true, true_and]))
 all_goals try (repeat' with_reducible refine And.intro ?_ ?_)
 all_goals first | refine ioK h ?_ ?_ | (with_reducible refine Ob.mk ?_; clear h) | (clear h)
 all_goals (try clear h)
 all_goals (try clear K)
 all_goals (try simp only [fin0])
 all_goals (try simp only [eta0, RT.bytes] at *)
 all_goals (try dsimp only [RT.ty] at *)
 all_goals (try simp only [ncastQ] at *)
 all_goals (try simp only [b7F] at *)
 all_goals (try simp only [B2] at *)
 all_goals (try clear ho ha)
 all_goals (try have hcf := cut_few hok i.toNat)
 all_goals first | omega | exact ⟨by omega, by omega⟩ | exact j3 (by omega) | exact ⟨hcf, by simp⟩ | skip
 all_goals (try simp only [Classical.not_not] at *)
 all_goals (try have hge := gate_eq (by assumption : (nth .msg w.net i.toNat).dest = -1))
 all_goals (try have hM := hF.2.2.2.2.2.1 i.toNat (by omega))
 all_goals (try have hS := hF.2.2.2.2.2.2.1 (nth .msg w.net i.toNat).dest.toNat (by omega))
 all_goals (try have hF2 := b6B hS hF.2.1 hM.1)
 all_goals (try (have hd2 : (nth .msg w.net i.toNat).dest.toNat < w.servers.length := by omega); simp only [m5 .srv hd2, List.set_set])
 all_goals first | refine b7i hok (by omega) (by assumption) ?_ ?_ ?_ | refine bring_eq0 hok (by omega) (by assumption) ?_ ?_ ?_ | skip
 all_goals (try dsimp only [RT.ty] at *)
 all_goals (try generalize nth .srv w.servers (nth .msg w.net i.toNat).dest.toNat = s at *)
 all_goals (try generalize nth .msg w.net i.toNat = x at *)
 all_goals (try rw [m5 .sto (by omega)] at *)
 all_goals (try (have hlt : (j5 s.holds x.cell).toNat < s.holds.length := by omega); simp only [m5 .hld hlt, List.set_set])
 all_goals first | omega | rfl | grind (splits := 40) [D2, n9, I7, T5, T4, A2, s7, e9, v7, a1b, a6d, u6, F6, s6, P4, b9, j3, b2X, add_log, X6, n4, n3, a3G, b9B]
end Go.Proofs.YtkclfaldmghkeaaGreat
