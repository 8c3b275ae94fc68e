/-
  Contracts: what is drawn: numbers, walkers, orders, parcels.
-/
import Derived.Test.YtkclfaldmghkeaaGreatFnD
import Derived.Test.YtkclfaldmghkeaaGreatGnJ
import Derived.Test.YtkclfaldmghkeaaGreatM3
import Derived.Test.YtkclfaldmghkeaaGreatGnC
import Derived.Test.YtkclfaldmghkeaaGreatGnH
import Derived.Test.YtkclfaldmghkeaaGreatGnTb
set_option linter.unusedVariables false
set_option linter.unusedSimpArgs false
set_option maxRecDepth 100000
set_option maxHeartbeats 8000000
namespace Go.Proofs.YtkclfaldmghkeaaGreat
open Go.Sx Go.Proofs Go.Mo
noncomputable def a4n : Sx.Spec := ⟨true, false, [.int .i64], [], fun _ p ⟨n, _⟩ => .asrt (fun _ => 0 ≤ p () ∧ p () ≤ 1000000001000) (.all Int fun x => .all Int fun q => .asm (fun _ => 0 ≤ x ∧ (1 ≤ n () → x < n ()) ∧ (n () < 1 → x = 0) ∧ q = p () + 1) (.ret (vI fun _ => x, fun _ => q)))⟩
noncomputable def sOrder : Sx.Spec := ⟨true, false, [], [], fun _ p _ => .asrt (fun _ => 0 ≤ p () ∧ p () ≤ 1000000000900) (.all Int fun x0 => .all Int fun x1 => .all Int fun x2 => .all Int fun x3 => .all Int fun x4 => .all Int fun q => .asm (fun _ => p () ≤ q ∧ q ≤ p () + 20) (.ret (.agg [cI x0, cI x1, cI x2, cI x3, cI x4], fun _ => q)))⟩
theorem a2q : b8 Tryz.prog 27 a4n := j6 j4 (ss := []) trivial rfl rfl <| by
 intro (bs : Th (List Int)) (p : Th Int) ⟨(n : Th Int), u⟩ K hb hp0 ho h
 obtain ⟨n, rfl⟩ := b6 n; obtain ⟨bs, rfl⟩ := b6 bs; obtain ⟨p, rfl⟩ := b6 p
 obtain ⟨hpre, h⟩ := h
 have hpre : 0 ≤ p ∧ p ≤ 1000000001000 := hpre.out
 have hbl := okB hb
 have hby := okByte hb
 have hw1 : IntKind.i64.wrap (p + 1) = p + 1 := b9 (by omega) (by omega)
 have hw2 : IntKind.i64.wrap (p + 1 - 1) = p := by rw [b9 (by omega) (by omega)]; omega
 have hw3 : IntKind.i64.wrap (IntKind.i64.wrap (p * 7) + 3) = p * 7 + 3 := by rw [b9 (n := p * 7) (by omega) (by omega), b9 (by omega) (by omega)]
 have hwb : ∀ i, i < bs.length → @LE.le Int _ 0 (IntKind.i64.wrap (nth .byte bs i)) ∧ @LE.le Int _ (IntKind.i64.wrap (nth .byte bs i)) 255 := fun i hi => by
  have h1 := hby i hi
  have h2 : IntKind.i64.wrap (nth .byte bs i) = nth .byte bs i := b9 (Int.le_trans (by decide) h1.1) (Int.le_trans h1.2 (by decide))
  rw [h2]
  exact h1
 have hA : ¬ n < 1 → p < (bs.length : Int) → 0 ≤ (IntKind.i64.wrap (nth .byte bs p.toNat)).tmod n ∧ (IntKind.i64.wrap (nth .byte bs p.toNat)).tmod n < n := fun hn hlt => tm (hwb _ (by omega)).1 (by omega)
 have hC : ¬ (bs.length : Int) = 0 → (0 ≤ p.tmod bs.length ∧ p.tmod bs.length < bs.length) ∧ (0 ≤ (p * 7 + 3).tmod bs.length ∧ (p * 7 + 3).tmod bs.length < bs.length) := fun h0 => ⟨tm (by omega) (by omega), tm (by omega) (by omega)⟩
 have hF : ¬ n < 1 → ¬ (bs.length : Int) = 0 → _ := fun hn h0 => @pick_far bs.length p (IntKind.i64.wrap (nth .byte bs (p.tmod bs.length).toNat)) (IntKind.i64.wrap (nth .byte bs ((p * 7 + 3).tmod bs.length).toNat)) n (by omega) (by omega) (by omega)
  (hwb _ (by have := (hC h0).1; omega)) (hwb _ (by have := (hC h0).2; omega)) (by omega) _ rfl
 refine ⟨noAnn, noAnn, 20, ?_⟩
 cbv
 repeat' first | ((with_reducible intro _); cbv) | (with_reducible refine And.intro ?_ ?_)
 all_goals first | (refine retK (h _ _ ?_) rfl; clear h) | (with_reducible refine Ob.mk ?_; clear h) | (clear h)
 all_goals (try simp only [eta0, RT.bytes] at *)
 all_goals (try simp only [hw1, hw2, hw3])
 all_goals first | omega | exact (hC (by assumption)).1 | exact (hC (by assumption)).2 | exact ⟨by omega, fun _ => by omega, fun _ => trivial, trivial⟩ | exact ⟨by omega, fun _ => by omega, fun _ => trivial⟩ |
  exact ⟨(hA (by assumption) (by assumption)).1, fun _ => (hA (by assumption) (by assumption)).2, fun hh => absurd hh (by assumption), trivial⟩ | exact ⟨(hF (by assumption) (by assumption)).1, fun _ => (hF (by assumption) (by assumption)).2, fun hh => absurd hh (by assumption), trivial⟩ | grind [b9, tm]
theorem okOrder : b8 Tryz.prog 181 sOrder := j6 j4 (ss := [(27, a4n)]) ⟨a2q, trivial⟩ rfl rfl <| by
 intro (bs : Th (List Int)) (p : Th Int) u K hb hp0 ho h
 obtain ⟨bs, rfl⟩ := b6 bs; obtain ⟨p, rfl⟩ := b6 p
 obtain ⟨hpre, h⟩ := h
 have hpre : 0 ≤ p ∧ p ≤ 1000000000900 := hpre.out
 refine ⟨noAnn, noAnn, 20, ?_⟩
 cbv
 repeat' first | ((with_reducible intro _); cbv) | (with_reducible refine And.intro ?_ ?_)
 all_goals first | (refine retK (h _ _ _ _ _ _ ?_) rfl; clear h) | (with_reducible refine Ob.mk ?_; clear h) | (clear h)
 all_goals (try simp only [eta0, RT.bytes] at *)
 all_goals first | omega | grind [b9, tm]
noncomputable def b5k : Sx.Spec := ⟨false, true, [.map, .book, .int .i64, .row .msg], [[some .row], [none]], fun _ _ ⟨m, l, s, x, _⟩ => .ret (.tup [oAs [.list .row fun _ => (a0D (m ()) (l ()) (s ()) (x ())).b], vB fun _ => (a0D (m ()) (l ()) (s ()) (x ())).ok], fun _ => 0)⟩
theorem b8i : b8 Tryz.prog 204 b5k := j6 j4 (ss := [(75, a4I), (144, a6Z), (132, a3U), (173, R8)]) ⟨a5X, a9B, a7p, b3H, trivial⟩ rfl rfl <| by
 intro (bs : Th (List Int)) (p : Th Int) ⟨(m : Th PMap), (l : Th (List Row)), (s : Th Int), (x : Th Msg), u⟩ K _ _ ho h
 obtain ⟨m, rfl⟩ := b6 m; obtain ⟨l, rfl⟩ := b6 l; obtain ⟨s, rfl⟩ := b6 s; obtain ⟨x, rfl⟩ := b6 x
 have hp := a1o l x.ord.who
 have hlt0 : ¬ l6 l x.ord.who = -1 → (l6 l x.ord.who).toNat < l.length := fun h => by omega
 have hq := fun (h : z8 m l = true) => b2h h
 have hr := @b7h (nth .row l (l6 l x.ord.who).toNat).cell m.cells
 refine ⟨noAnn, noAnn, 20, ?_⟩
 cbv
 repeat' first | ((with_reducible intro _); cbv) | (with_reducible refine And.intro ?_ ?_)
 all_goals first | (refine retK h ?_; clear h; simp only [fin0]) | (with_reducible refine Ob.mk ?_; clear h) | (clear h)
 all_goals (try simp only [eta0, RT.bytes] at *)
 all_goals (try have hlt := hlt0 (by assumption))
 all_goals (try (have hz := hq (by assumption); obtain ⟨hm1, hm2, hc⟩ := hz))
 all_goals (try have hw := b9 (n := (nth .row l (l6 l x.ord.who).toNat).cell + 1) (by have := hc _ hlt; omega) (by have := hc _ hlt; omega))
 all_goals (try simp only [m5 .row hlt, List.set_set, List.length_set] at *)
 all_goals (try simp only [a4G, m5 .row hlt, List.set_set, List.length_set, b4I, a8U] at *)
 all_goals (try simp only [hw] at *)
 all_goals (try simp only [a0D, y7, Mo.rowAt] at *)
 all_goals (try generalize ((nth RT.row l (l6 l x.ord.who).toNat).cell + 1).tmod m.cells = q at *)
 all_goals grind [s6, a5R]
theorem tab_of {m : PMap} {t : Arb} {v : Int} (h : A4 m t v = true) : tabB t v := by
 have h1 := E6 h
 have h2 := p5.1 h1.2.2.1
 refine ⟨by omega, by omega, by omega, by omega, fun k hk => ?_⟩
 have := a7I h (k := k) (by omega)
 exact ⟨this.2.2.1, this.2.2.2.1⟩
theorem grant_in {t : Arb} {v c s : Int} (h : tabB t v) (hg : (r6 t v c s).ok = true) : 0 ≤ c ∧ c < ((r6 t v c s).t.ages.length : Int) := by
 obtain ⟨h1, -⟩ := h
 unfold r6 at hg ⊢
 split at hg
 ·rename_i hc
  rw [if_pos hc]
  simp only [List.length_set]
  omega
 ·cases hg
section
variable {w : Wld} {e : Evt} {x : Arb} {rows : List Row} {l : List Msg}
theorem st1 (hk : e.kind = 1) (hg : (r6 w.table w.servers.length e.pos e.dest).ok = true) : u5 ⟨w.map, w.servers, w.stores, (r6 w.table w.servers.length e.pos e.dest).t, w.rows, w.net, w.notes⟩ [⟨1, e.dest, e.pos, 0, nth .int (r6 w.table w.servers.length e.pos e.dest).t.ages e.pos.toNat, ⟨0, 0, 0, 0, 0⟩, ⟨0, 0, ⟨0, 0, 0, 0, 0⟩, 0⟩, ⟨0, 0, ⟨0, 0, 0, 0, 0⟩⟩⟩] = u4 w e := by
 unfold u4
 rw [if_pos hk]
 simp only [hg, if_true]
 rfl
theorem st1n (hk : e.kind = 1) (hg : (r6 w.table w.servers.length e.pos e.dest).ok = false) : (⟨w.map, w.servers, w.stores, (r6 w.table w.servers.length e.pos e.dest).t, w.rows, w.net, w.notes⟩ : Wld) = u4 w e := by
 unfold u4
 rw [if_pos hk]
 simp only [hg]
 rw [if_neg (by simp)]
 unfold r6 at hg ⊢
 split at hg
 ·cases hg
 ·rename_i hc
  rw [if_neg hc]
theorem st2 (hk : e.kind = 2) : (⟨w.map, w.servers, w.stores, w.table, (M6 w.rows e.pos e.what e.dest e.n).b, w.net, w.notes⟩ : Wld) = u4 w e := by
 unfold u4
 rw [if_neg (by omega), if_pos hk]
theorem st3 (hk : e.kind = 3) (h1 : ¬ l6 w.rows e.pos < 0) (h2 : (nth .row w.rows (l6 w.rows e.pos).toNat).busy = true) (h3 : ¬ n8 w.table (nth .row w.rows (l6 w.rows e.pos).toNat).cell = -1) :
  u5 w [⟨2, n8 w.table (nth .row w.rows (l6 w.rows e.pos).toNat).cell, (nth .row w.rows (l6 w.rows e.pos).toNat).cell, 0, 0, (nth .row w.rows (l6 w.rows e.pos).toNat).ord, ⟨0, 0, ⟨0, 0, 0, 0, 0⟩, 0⟩, ⟨0, 0, ⟨0, 0, 0, 0, 0⟩⟩⟩] = u4 w e := by
 unfold u4
 rw [if_neg (by omega), if_neg (by omega), if_pos hk]
 unfold R6
 have hc : 0 ≤ l6 w.rows e.pos ∧ (Mo.rowAt w.rows e.pos).busy = true ∧ n8 w.table (Mo.rowAt w.rows e.pos).cell ≠ -1 := by
  rw [Mo.rowAt]
  exact ⟨by omega, h2, h3⟩
 rw [if_pos hc, if_pos rfl, Mo.rowAt]
 rfl
theorem st3n (hk : e.kind = 3) (h : l6 w.rows e.pos < 0 ∨ (nth .row w.rows (l6 w.rows e.pos).toNat).busy = false ∨ n8 w.table (nth .row w.rows (l6 w.rows e.pos).toNat).cell = -1) : w = u4 w e := by
 unfold u4
 rw [if_neg (by omega), if_neg (by omega), if_pos hk]
 unfold R6
 have hc : ¬ (0 ≤ l6 w.rows e.pos ∧ (Mo.rowAt w.rows e.pos).busy = true ∧ n8 w.table (Mo.rowAt w.rows e.pos).cell ≠ -1) := by
  rintro ⟨h1, h2, h3⟩
  rw [Mo.rowAt] at h2 h3
  rcases h with h | h | h
  ·omega
  ·rw [h] at h2
   cases h2
  ·exact h3 h
 rw [if_neg hc, if_neg (by simp)]
theorem st4 (hk : e.kind = 4) (hp : 0 ≤ e.pos ∧ e.pos < (w.net.length : Int)) : S7 w e.pos.toNat = u4 w e := by
 unfold u4
 rw [if_neg (by omega), if_neg (by omega), if_neg (by omega), if_pos (by omega), if_pos hp, if_pos hk]
theorem st5 (hk : e.kind = 5) (hp : 0 ≤ e.pos ∧ e.pos < (w.net.length : Int)) : (⟨w.map, w.servers, w.stores, w.table, w.rows, w.net.eraseIdx e.pos.toNat, w.notes⟩ : Wld) = u4 w e := by
 unfold u4
 rw [if_neg (by omega), if_neg (by omega), if_neg (by omega), if_pos (by omega), if_pos hp, if_neg (by omega), if_pos hk]
 rfl
theorem st6 (hk : e.kind = 6) (hp : 0 ≤ e.pos ∧ e.pos < (w.net.length : Int)) : u5 w [nth .msg w.net e.pos.toNat] = u4 w e := by
 unfold u4
 rw [if_neg (by omega), if_neg (by omega), if_neg (by omega), if_pos (by omega), if_pos hp, if_neg (by omega), if_neg (by omega)]
theorem st7 (hk : e.kind = 7) (hp : 0 ≤ e.pos ∧ e.pos < (w.servers.length : Int)) : u5 w (B5 w.map (nth .srv w.servers e.pos.toNat) w.table e.dest) = u4 w e := by
 unfold u4
 rw [if_neg (by omega), if_neg (by omega), if_neg (by omega), if_neg (by omega), if_pos (by omega), if_pos hp, if_pos hk]
theorem st8 (hk : e.kind = 8) (hp : 0 ≤ e.pos ∧ e.pos < (w.servers.length : Int)) : (⟨w.map, A1 .srv (fun _ => w.servers) (fun _ => e.pos) (fun _ => (⟨false, [], []⟩ : Srv)) (), w.stores, w.table, w.rows, w.net, w.notes⟩ : Wld) = u4 w e := by
 unfold u4
 rw [if_neg (by omega), if_neg (by omega), if_neg (by omega), if_neg (by omega), if_pos (by omega), if_pos hp, if_neg (by omega), if_pos hk]
 rfl
theorem st9 (hk : e.kind = 9) (hp : 0 ≤ e.pos ∧ e.pos < (w.servers.length : Int)) (hu : (nth .srv w.servers e.pos.toNat).up = false) : (⟨w.map, A1 .srv (fun _ => w.servers) (fun _ => e.pos) (fun _ => (⟨true, [], []⟩ : Srv)) (), w.stores, w.table, w.rows, w.net, w.notes⟩ : Wld) = u4 w e := by
 unfold u4
 rw [if_neg (by omega), if_neg (by omega), if_neg (by omega), if_neg (by omega), if_pos (by omega), if_pos hp, if_neg (by omega), if_neg (by omega), if_pos hu]
 rfl
theorem stn (h : ¬ (1 ≤ e.kind ∧ e.kind ≤ 9) ∨ (4 ≤ e.kind ∧ e.kind ≤ 6 ∧ ¬ (0 ≤ e.pos ∧ e.pos < (w.net.length : Int))) ∨ (7 ≤ e.kind ∧ e.kind ≤ 9 ∧ ¬ (0 ≤ e.pos ∧ e.pos < (w.servers.length : Int)))) : w = u4 w e := by
 unfold u4
 rcases h with h | h | h
 ·rw [if_neg (by omega), if_neg (by omega), if_neg (by omega), if_neg (by omega), if_neg (by omega)]
 ·rw [if_neg (by omega), if_neg (by omega), if_neg (by omega), if_pos (by omega), if_neg (by omega)]
 ·rw [if_neg (by omega), if_neg (by omega), if_neg (by omega), if_neg (by omega), if_pos (by omega), if_neg (by omega)]
theorem stn9 (hk : e.kind = 9) (hu : (nth .srv w.servers e.pos.toNat).up = true) : w = u4 w e := by
 unfold u4
 rw [if_neg (by omega), if_neg (by omega), if_neg (by omega), if_neg (by omega), if_pos (by omega)]
 split
 ·rw [if_neg (by omega), if_neg (by omega), if_neg (by simp [hu])]
 ·rfl
end
end Go.Proofs.YtkclfaldmghkeaaGreat
