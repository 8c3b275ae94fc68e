/-
  Contracts: what the gateway hears and says; grants.
-/
import Derived.Test.YtkclfaldmghkeaaGreatGnD
import Derived.Test.YtkclfaldmghkeaaGreatM2
import Derived.Test.YtkclfaldmghkeaaGreatM3
import Derived.Test.YtkclfaldmghkeaaGreatTok
import Derived.Test.YtkclfaldmghkeaaGreatS5
import Derived.Test.YtkclfaldmghkeaaGreatGrT
set_option linter.unusedVariables false
set_option linter.unusedSimpArgs false
set_option maxRecDepth 100000
set_option maxHeartbeats 8000000
namespace Go.Proofs.YtkclfaldmghkeaaGreat
open Go.Sx Go.Proofs Go.Mo
noncomputable def c3M : Sx.Io := ⟨.book, true, [.map, .row .msg], [], fun l ⟨m, x, _⟩ => .asrt (fun _ => y6 (m ()) (l ()) = true) (.ret (vB fun _ => (y0 (m ()) (l ()) (x ())).ok, fun _ => (y0 (m ()) (l ()) (x ())).b))⟩
noncomputable def b8U : Sx.Spec := ⟨false, true, [.map, .book, .arb, .int .i64, .int .i64], [[none, none, none, none, none, none, none, none, none, none, none, none, none, none, none, none, none, none, none, none, none, none, none, none, none], [none]], fun _ _ ⟨m, l, t, s, w, _⟩ => .ret (.tup [oMsg fun _ => (a3C (m ()) (l ()) (t ()) (s ()) (w ())).x, vB fun _ => (a3C (m ()) (l ()) (t ()) (s ()) (w ())).ok], fun _ => 0)⟩
noncomputable def b0Y : Sx.Spec := ⟨false, true, [.map, .arb, .int .i64, .int .i64, .int .i64], [[some .int, some .int], [none]], fun _ _ ⟨m, t, s, c, v, _⟩ => .ret (.tup [oArb fun _ => (L6 (m ()) (t ()) (s ()) (c ()) (v ())).t, vB fun _ => (L6 (m ()) (t ()) (s ()) (c ()) (v ())).ok], fun _ => 0)⟩
theorem b1z {m : PMap} {l : List Row} (h : y6 m l = true) : 2 ≤ m.cells ∧ m.cells ≤ 4 ∧ ∀ k, k < l.length → 0 ≤ (nth .row l k).cell ∧ (nth .row l k).cell < m.cells := by
 have hp : n8 m = true := by
  unfold y6 at h
  rw [Bool.and_eq_true] at h
  exact h.1
 obtain ⟨h1, h2, _, _⟩ := r6.1 hp
 refine ⟨h1, h2, fun k hk => ?_⟩
 have := (a6X h hk).1
 simp only [R7, decide_eq_true_eq] at this
 exact ⟨this.2.2.1, this.2.2.2.1⟩
theorem b6n {c n : Int} (h0 : 0 ≤ c) (h1 : c < n) (h2 : n ≤ 4) : 0 ≤ (c + 1).tmod n ∧ (c + 1).tmod n ≤ 4 := by
 constructor
 ·exact Int.tmod_nonneg _ (by omega)
 ·have := Int.tmod_lt_of_pos (c + 1) (show 0 < n by omega)
  omega
theorem c7C : b7 Tryz.prog 159 (ioX c3M) := io1 j3 (ss := [(156, Q4)]) ⟨c4t, trivial⟩ rfl rfl <| by
 intro (l : Th (List Row)) ⟨(m : Th PMap), (x : Th Msg), u⟩ K _ ho h
 obtain ⟨l, rfl⟩ := a8 l; obtain ⟨m, rfl⟩ := a8 m; obtain ⟨x, rfl⟩ := a8 x
 obtain ⟨ha, h⟩ := h
 have ha := ha.out
 have hp := a0S l x.ord.who
 obtain ⟨hm1, hm2, hc⟩ := b1z ha
 have hq := hc (k8 l x.ord.who).toNat
 have hr := @b6n (nth .row l (k8 l x.ord.who).toNat).cell m.cells
 refine ⟨noAnn, noAnn, 20, ?_⟩
 cbv
 repeat' first | ((with_reducible intro _); cbv) | (with_reducible refine And.intro ?_ ?_)
 all_goals first | refine ioK h ?_ ?_ | (with_reducible refine Ob.mk ?_; clear h) | (clear h)
 all_goals (try clear h)
 all_goals (try clear K)
 all_goals (try simp only [fin0])
 all_goals (try simp only [eta0, RT.bytes] at *)
 all_goals (try have hlt : (k8 l x.ord.who).toNat < l.length := (by clear ho; grind))
 all_goals (try simp only [B5, l9 .row hlt, List.set_set, List.length_set] at *)
 all_goals (try have hw := e8 (n := (nth .row l (k8 l x.ord.who).toNat).cell + 1) (by have := hq hlt; omega) (by have := hq hlt; omega))
 all_goals (try simp only [hw] at *)
 all_goals (try simp only [y0, Mo.rowAt] at *)
 all_goals (try generalize ((nth RT.row l (k8 l x.ord.who).toNat).cell + 1).tmod m.cells = q at *)
 all_goals grind [y0, Mo.rowAt, e8, s5, b9x]
theorem c1J : b7 Tryz.prog 125 b8U := j8 j3 (ss := [(75, a4j), (73, a2F), (173, Q4), (140, I1)]) ⟨a5w, a2R, b2T, S1, trivial⟩ rfl rfl <| by
 intro (bs : Th (List Int)) (p : Th Int) ⟨(m : Th PMap), (l : Th (List Row)), (t : Th Arb), (s : Th Int), (w : Th Int), u⟩ K _ _ ho h
 obtain ⟨m, rfl⟩ := a8 m; obtain ⟨l, rfl⟩ := a8 l; obtain ⟨t, rfl⟩ := a8 t; obtain ⟨s, rfl⟩ := a8 s; obtain ⟨w, rfl⟩ := a8 w
 have hp := a0S l w
 refine ⟨noAnn, noAnn, 20, ?_⟩
 cbv
 repeat' first | ((with_reducible intro _); cbv) | (with_reducible refine And.intro ?_ ?_)
 all_goals first | (refine retK h ?_; clear h; simp only [fin0]) | (with_reducible refine Ob.mk ?_; clear h) | (clear h)
 all_goals (try simp only [eta0, RT.bytes] at *)
 all_goals grind (splits := 60) [a3C, Q2, Mo.rowAt, b2d, s5, u5, E8]
theorem b5g : b7 Tryz.prog 172 b0Y := j8 j3 (ss := [(73, a2F), (110, sIn)]) ⟨a2R, F9, trivial⟩ rfl rfl <| by
 intro (bs : Th (List Int)) (p : Th Int) ⟨(m : Th PMap), (t : Th Arb), (s : Th Int), (c : Th Int), (v : Th Int), u⟩ K _ _ ho h
 obtain ⟨m, rfl⟩ := a8 m; obtain ⟨t, rfl⟩ := a8 t; obtain ⟨s, rfl⟩ := a8 s; obtain ⟨c, rfl⟩ := a8 c; obtain ⟨v, rfl⟩ := a8 v
 have hl := okB (ho.2.1 _ (.head _))
 have hl2 := okB (ho.2.1 _ (.tail _ (.head _)))
 have hc0 := fun (k : Nat) => @b0k m t s k
 have hcc := hc0 c.toNat
 clear hc0
 refine ⟨noAnn, noAnn, 20, ?_⟩
 cbv
 repeat' first | ((with_reducible intro _); cbv) | (with_reducible refine And.intro ?_ ?_)
 all_goals first | (refine retK h ?_; clear h; simp only [fin0]) | (with_reducible refine Ob.mk ?_; clear h) | (clear h)
 all_goals (try simp only [eta0, RT.bytes] at *)
 all_goals (try simp only [a4h, List.nil_append, List.set_set, List.length_set, b3S, a8s] at *)
 all_goals grind (splits := 40) [L6, p6, z5, U2, a2p, inR, e8]
def tabB (t : Arb) (v : Int) : Prop := t.servers.length = t.ages.length ∧ t.servers.length ≤ 4 ∧ 0 ≤ v ∧ v ≤ 3 ∧ ∀ k, k < t.ages.length → @LE.le Int _ 0 (nth .int t.ages k) ∧ @LE.le Int _ (nth .int t.ages k) 900
noncomputable def b8Y : Sx.Io := ⟨.arb, true, [.int .i64, .int .i64, .int .i64], [], fun t ⟨v, c, s, _⟩ => .asrt (fun _ => tabB (t ()) (v ())) (.ret (vB fun _ => (p6 (t ()) (v ()) (c ()) (s ())).ok, fun _ => (p6 (t ()) (v ()) (c ()) (s ())).t))⟩
noncomputable def b6P : Sx.Io := ⟨.row .wld, true, [.list .msg], [], fun w ⟨l, _⟩ => .asrt (fun _ => (w ()).net.length ≤ 40 ∧ (l ()).length ≤ 1000) (.ret (.tup [], fun _ => u4 (w ()) (l ())))⟩
theorem c5b (n : Nat) : (NatCast.natCast n : Int) = (n : Int) := rfl
theorem c4D : b7 Tryz.prog 102 (ioX b8Y) := io1 j3 (ss := [(39, sIn)]) ⟨okIn, trivial⟩ rfl rfl <| by
 intro (t : Th Arb) ⟨(v : Th Int), (c : Th Int), (s : Th Int), u⟩ K _ ho h
 obtain ⟨t, rfl⟩ := a8 t; obtain ⟨v, rfl⟩ := a8 v; obtain ⟨c, rfl⟩ := a8 c; obtain ⟨s, rfl⟩ := a8 s
 obtain ⟨ha, h⟩ := h
 have ha := ha.out
 have ha : tabB t v := ha
 have h1 : IntKind.i64.wrap ((t.servers.length : Int) - 1) = (t.servers.length : Int) - 1 := e8 (by have := ha.2.1; omega) (by have := ha.2.1; omega)
 have h2 : IntKind.i64.wrap (v - 1) = v - 1 := e8 (by have := ha.2.2.1; dsimp only at *; omega) (by have := ha.2.2.2.1; dsimp only at *; omega)
 have h3 : 0 ≤ c → c < (t.ages.length : Int) → IntKind.i64.wrap (nth .int t.ages c.toNat + 1) = nth .int t.ages c.toNat + 1 := fun a b => by
  have := ha.2.2.2.2 c.toNat (by dsimp only at *; omega)
  exact e8 (by dsimp only [RT.ty] at *; omega) (by dsimp only [RT.ty] at *; omega)
 refine ⟨noAnn, noAnn, 20, ?_⟩
 cbv
 repeat' first | ((with_reducible intro _); cbv) | (with_reducible refine And.intro ?_ ?_)
 all_goals first | refine ioK h ?_ ?_ | (with_reducible refine Ob.mk ?_; clear h) | (clear h)
 all_goals (try clear h)
 all_goals (try clear K)
 all_goals (try simp only [fin0])
 all_goals (try simp only [eta0, RT.bytes] at *)
 all_goals (try dsimp only [RT.ty] at *)
 all_goals (try simp only [c5b] at *)
 all_goals (try rw [h1] at *)
 all_goals (try rw [h2] at *)
 all_goals (try simp only [B5] at *)
 all_goals grind [inR, p6, tabB]
theorem c0O {k : Nat} (h : k ≤ 1000) : (IntKind.i64.wrap ((k : Int) + 1)).toNat = k + 1 := by rw [j5 (by omega)]; rfl
theorem c1j {a l : List Msg} {k : Nat} (hk : k < l.length) (h : ((a.length + ((l.take k).take (40 - a.length)).length : Nat) : Int) < 40) : a ++ (l.take k).take (40 - a.length) ++ [nth .msg l k] = a ++ (l.take (k + 1)).take (40 - a.length) := by
 rw [List.length_take, List.length_take] at h
 have h1 : k < 40 - a.length := by omega
 rw [List.take_take, List.take_take, Nat.min_eq_right (by omega), Nat.min_eq_right (by omega), List.take_succ_eq_append_getElem hk, k9 .msg l k hk, List.append_assoc]
theorem c1k {a l : List Msg} {k : Nat} (hk : k < l.length) (h : ¬ ((a.length + ((l.take k).take (40 - a.length)).length : Nat) : Int) < 40) : a ++ (l.take k).take (40 - a.length) = a ++ (l.take (k + 1)).take (40 - a.length) := by
 rw [List.length_take, List.length_take] at h
 have h1 : 40 - a.length ≤ k := by omega
 rw [List.take_take, List.take_take, Nat.min_eq_left (by omega), Nat.min_eq_left (by omega)]
theorem b9B : b7 Tryz.prog 103 (ioX b6P) := io1 j3 (ss := []) trivial rfl rfl <| by
 intro (w : Th Wld) ⟨(l : Th (List Msg)), u⟩ K _ ho h
 obtain ⟨w, rfl⟩ := a8 w; obtain ⟨l, rfl⟩ := a8 l
 obtain ⟨ha, h⟩ := h
 have ha := ha.out
 have ha : w.net.length ≤ 40 ∧ l.length ≤ 1000 := ha
 refine ⟨annL [(103, 1, ⟨Th Int × Th Bool, [⟨.cell 0 7, some 500, .msg⟩], fun σ g => ((((σ.only [0, 6, 7]).h 8 (1, .dead)).t 8 (.one (.att (.int .i64 g.1)))).E7 0 7 (.own 500 1)).row 500 1 .msg (fun _ => w.net ++ (l.take (g.1 ()).toNat).take (40 - w.net.length)), fun _ g _ => Ob fun _ => 0 ≤ g.1 () ∧ g.1 () ≤ l.length, fun _ g _ => l.length - (g.1 ()).toNat⟩)], noAnn, 20, ?_⟩
 cbv
 repeat' first | ((with_reducible refine fun (g : Th Int × Th Bool) => ?_); obtain ⟨k, z⟩ := g; obtain ⟨k, rfl⟩ := a8 k; obtain ⟨z, rfl⟩ := a8 z; (with_reducible refine ImpB.out ?_); cbv; (with_reducible refine ImpB.mk ?_); intro hq; obtain ⟨hq⟩ := hq; have hq0 := hq.1; obtain ⟨k, rfl⟩ := Int.eq_ofNat_of_zero_le hq0; clear hq0) | ((with_reducible intro _); cbv) | (with_reducible refine And.intro ?_ ?_)
 all_goals try ((first | (with_reducible refine LoopIn.wf (fun σ => (σ.tmI 8, A4)) ?_ ?_) | (with_reducible refine LoopBack.wf (fun σ => (σ.tmI 8, A4)) ?_ ?_ ?_)) <;> cbv)
 all_goals try (with_reducible show _ ∧ _; (try simp only [and_true, true_and]))
 all_goals try (repeat' with_reducible refine And.intro ?_ ?_)
 all_goals try (with_reducible refine MeasB.mk ?_)
 all_goals first | refine ioK h ?_ ?_ | (with_reducible refine Ob.mk ?_; clear h) | (clear h)
 all_goals (try clear h)
 all_goals (try clear K)
 all_goals (try simp only [fin0])
 all_goals (try simp only [eta0, RT.bytes] at *)
 all_goals (try dsimp only [RT.ty] at *)
 all_goals (try simp only [c5b, Int.toNat_natCast, Int.toNat_zero] at *)
 all_goals (try simp (disch := omega) only [c0O, j5, Int.toNat_natCast])
 all_goals first | omega | rfl | exact (c1j ‹_› ‹_›) | exact (c1k ‹_› ‹_›) | grind [u4, List.length_append, List.length_take, List.take_of_length_le]
end Go.Proofs.YtkclfaldmghkeaaGreat
namespace Go.Proofs.YtkclfaldmghkeaaGreat
open Go.Sx Go.Proofs Go.RowKit
theorem c2m : (Tryz.prog.info? 58).map (fun i => (i.zero, i.size, i.bytes)) = some (some (.agg #[.int .i64 0, .int .i64 0, .int .i64 0, .int .i64 0, .int .i64 0, .int .i64 0, .int .i64 0]), 7, 56) := by kernel_rfl
theorem a8h : ∃ inf z, Tryz.prog.info? 58 = some inf ∧ inf.size = 7 ∧ inf.bytes = 56 ∧ inf.zero = some z ∧ z.cells.size = 7 := by
 obtain ⟨i0, h1, h2, h3, h4⟩ := info_parts c2m
 exact ⟨i0, _, h1, h3, h4, h2, rfl⟩
theorem c2l (w : World) (b n c i vb voff vc T tV : Nat) (cs vcs : Array Value) (us : List Value) (hi : i < n) (hroom : n + 1 ≤ c) (hc : c ≤ maxLen) (hh : w.heap[b]? = some (.cells cs T (0, 0))) (hs : cs.size = c * 7) (hu : us.length = 7)
  (hvh : w.heap[vb]? = some (.cells vcs tV (0, 0))) (hvb : vb ≠ b) (hvs : ∀ j v, us[j]? = some v → w.cell? ⟨vb, voff + j, none⟩ = some v) (h1 : ∀ u ∈ us, one u) (h1c : ∀ u ∈ cs.toList.take (n * 7), one u) :
  Calls Tryz.prog 217 #[.slice (some ⟨b, 0, none⟩) n c, .int .i64 i, .slice (some ⟨vb, voff, none⟩) 1 vc] w fun e w' =>
   ∃ v, e = .returned v ∧ InsE w w' 7 (.slice (some ⟨b, 0, none⟩) n c) v n i 1 b c cs us := by
 obtain ⟨inf, z, hinf, hsz, hby, hz, hzc⟩ := a8h
 have u25 := run_underlying Tryz.underlying49
 have z38 : ∀ w, (sizeOf 58).run Tryz.prog w = .ok 7 w := fun w => by simp [sizeOf, typeInfo, hinf, hsz]
 have hc63 : c ≤ 9223372036854775807 := hc
 have hcb : n + 1 ≤ 9223372036854775807 := by omega
 have hkB : cs.size ≠ 0 := by rw [hs]; omega
 have hov : ∀ lb cb, (callFunc 231 #[.slice (some ⟨vb, voff, none⟩) 1 vc, .slice (some ⟨b, (i + 1) * 7, none⟩) lb cb]).run Tryz.prog w = .ok (.value (.bool false)) w := fun lb cb => by
  rw [run_callFunc_extern Tryz.func231 (by kernel_rfl) (by kernel_rfl) (by kernel_rfl) (e := Extern.SlicesOverlaps.overlaps #[49, 49] #[4]) (by kernel_rfl),
   Lib.run_overlaps_apart w 49 4 58 Tryz.underlying49 7 z38 ⟨vb, voff, none⟩ ⟨b, (i + 1) * 7, none⟩ 1 vc lb cb hvb tV T vcs.size cs.size (by simp [World.shape?, hvh]) (by simp [World.shape?, hh]) hkB (frozen_of_row _ _ _ _ _ hvh) (frozen_of_row _ _ _ _ _ hvh)]
  rfl
 have hw1 : IntKind.i64.wrap ((n : Int) + 1) = ((n + 1 : Nat) : Int) := by rw [IntKind.wrap_i64]; omega
 have hw2 : IntKind.i64.wrap ((i : Int) + 1) = ((i + 1 : Nat) : Int) := by rw [IntKind.wrap_i64]; omega
 have hne : ¬ ((i : Int) = (n : Int)) := by omega
 have mixed := j3.mix
 have hb1 : (0 : Int) ≤ (i : Int) + 1 := by omega
 have hin : i ≤ n := by omega
 have hb2 : ¬ (c = i + 1) := by omega
 have hb3 : (i : Int) ≤ (n : Int) + 1 := by omega
 have hb4 : ¬ (c = i) := by omega
 have htn : ((i : Int) + 1).toNat = i + 1 := by omega
 go_enter Tryz.func217, Tryz.ntmps217
 go_wp2_with (simp only [hov])
 clear hov
 have htl := Q9 (i := i) hs (show n ≤ c by omega)
 have hn5 : (n + 1) * 7 ≤ c * 7 := Nat.mul_le_mul_right _ hroom
 have hsrc : ∀ j v, ((cs.toList.take (n * 7)).drop (i * 7))[j]? = some v → w.cell? ⟨b, i * 7 + j, none⟩ = some v := fun j v hj => by
  rw [List.getElem?_drop, List.getElem?_take] at hj
  rw [o7 hh]
  split at hj
  ·simpa using hj
  ·cases hj
 have hcp1 : ∀ ty dc sc, (Builtin.copy_ #[49, 49] ty #[.slice (some ⟨b, (i + 1) * 7, none⟩) (n - i) dc, .slice (some ⟨b, i * 7, none⟩) (n + 1 - i) sc]).run Tryz.prog w.drew = .ok (goInt (n - i : Nat)) (wrote w.drew b ((i + 1) * 7) cs ((cs.toList.take (n * 7)).drop (i * 7))) := fun ty dc sc =>
  A2 (k := n - i) (us := (cs.toList.take (n * 7)).drop (i * 7)) Tryz.underlying49 hinf (by simp only [Nat.min_def]; split <;> omega) (by rw [hsz]; exact htl) (fun j v hj => by
   rw [u6]
   exact hsrc j v hj) hh (by rw [htl, hs]; omega) (fun u hu => h1c u (List.mem_of_mem_drop hu))
 go_region_law_o (refine step_copy_runI rfl _ _ 49 49 rfl _ _ (by simp [Act.eval, Act.put]) (by simp [Act.eval, Act.put]) (hcp1 _ _ _) ?_)
 have htl2 : ((cs.toList.take (n * 7)).drop (i * 7)).length = (n - i) * 7 := htl
 obtain ⟨cs1, hcs1⟩ : ∃ cs1, cs1 = (putAt cs.toList ((i + 1) * 7) ((cs.toList.take (n * 7)).drop (i * 7))).toArray := ⟨_, rfl⟩
 obtain ⟨W1, hW1⟩ : ∃ W1, W1 = wrote w.drew b ((i + 1) * 7) cs ((cs.toList.take (n * 7)).drop (i * 7)) := ⟨_, rfl⟩
 have hh1 : W1.heap[b]? = some (.cells cs1 T (0, 0)) := by rw [hW1, hcs1]; exact u9 hh
 have hv1 : W1.heap[vb]? = some (.cells vcs tV (0, 0)) := by rw [hW1, r9 hvb]; exact hvh
 have hsz1 : cs1.size = c * 7 := by rw [hcs1, List.size_toArray, o6 _ _ _ (by rw [htl2, Array.length_toList, hs]; omega), Array.length_toList, hs]
 have hcp2 : ∀ (W : World), W.heap = W1.heap → ∀ ty dc, (Builtin.copy_ #[49, 49] ty #[.slice (some ⟨b, i * 7, none⟩) (n + 1 - i) dc, .slice (some ⟨vb, voff, none⟩) 1 vc]).run Tryz.prog W = .ok (goInt (1 : Nat)) (wrote W b (i * 7) cs1 us) := fun W hW ty dc =>
  A2 (k := 1) (us := us) (T := T) Tryz.underlying49 hinf (by simp only [Nat.min_def]; split <;> omega) (by rw [hsz, hu]) (fun j v hj => by
   rw [u6, o7 (cs := vcs) (T := tV) (by rw [hW]; exact hv1)]
   have := hvs j v hj
   rw [o7 hvh] at this
   exact this) (by rw [hW]; exact hh1) (by rw [hu, hsz1]; omega) h1
 rw [← hW1]
 go_wp2_with (at_builtin; refine wpList_copy_runI _ rfl _ _ 49 49 rfl _ _ rfl rfl (hcp2 _ rfl _ _) ?_)
 have hend : InsM w (wrote W1 b (i * 7) cs1 us) 7 (.slice (some ⟨b, 0, none⟩) n c) (.slice (some ⟨b, 0, none⟩) (n + 1) c) n i 1 b c cs us b c (I5 cs 7 n i us).toArray T := by
  refine InsM.room hh hs hroom hc hi hu ?_ (fun x hx => ?_) ?_ ?_ ?_ ?_
  ·rw [u9 hh1, I5, hcs1]
  ·rw [r9 hx, hW1, r9 hx]; rfl
  ·rw [hW1]; rfl
  ·rw [hW1]; rfl
  ·rw [hW1]; rfl
  ·rw [hW1]; simp [wrote, World.setRow]
 subst hcs1
 subst hW1
 go_ret
 exact ⟨.slice (some ⟨b, 0, none⟩) (n + 1) c, rfl, _, _, _, _, hend⟩
theorem c2n (w : World) (b n c i vb voff vc T tV : Nat) (cs vcs : Array Value) (us : List Value) (hi : i < n) (hnc : n ≤ c) (hroom : c < n + 1) (hc : c ≤ maxLen) (hh : w.heap[b]? = some (.cells cs T (0, 0))) (hs : cs.size = c * 7) (hu : us.length = 7)
  (hvh : w.heap[vb]? = some (.cells vcs tV (0, 0))) (hvs : ∀ j v, us[j]? = some v → w.cell? ⟨vb, voff + j, none⟩ = some v) (h1 : ∀ u ∈ us, one u) (h1c : ∀ u ∈ cs.toList.take (n * 7), one u) (hbig : (n + 1) * 56 ≤ 140737488355328) :
  Calls Tryz.prog 217 #[.slice (some ⟨b, 0, none⟩) n c, .int .i64 i, .slice (some ⟨vb, voff, none⟩) 1 vc] w fun e w' =>
   ∃ v, e = .returned v ∧ InsE w w' 7 (.slice (some ⟨b, 0, none⟩) n c) v n i 1 b c cs us := by
 obtain ⟨inf, z, hinf, hsz, hby, hz, hzc⟩ := a8h
 have u25 := run_underlying Tryz.underlying49
 have z38 : ∀ w, (sizeOf 58).run Tryz.prog w = .ok 7 w := fun w => by simp [sizeOf, typeInfo, hinf, hsz]
 have mixed := j3.mix
 have hc63 : c ≤ 9223372036854775807 := hc
 have hsrc : ∀ j v, ((cs.toList.take (n * 7)).drop (i * 7))[j]? = some v → w.cell? ⟨b, i * 7 + j, none⟩ = some v := fun j v hj => by
  rw [List.getElem?_drop, List.getElem?_take] at hj
  rw [o7 hh]
  split at hj
  ·simpa using hj
  ·cases hj
 have hi5 : (i + 1) * 7 ≤ c * 7 := Nat.mul_le_mul_right _ (by omega)
 have hold : (Builtin.firstCells inf.size i (.slice (some ⟨b, 0, none⟩) i c)).run Tryz.prog w.drew = .ok (cs.toList.take (i * 7)).toArray w.drew := by
  rw [hsz]
  exact run_firstCells_some w.drew 7 i ⟨b, 0, none⟩ i c (cs.toList.take (i * 7)) (by rw [List.length_take, Array.length_toList, hs]; omega) (fun j v hj => by
   rw [u6, Nat.zero_add, show w.drew.cell? ⟨b, j, none⟩ = w.cell? ⟨b, j, none⟩ from rfl, o7 hh]
   rw [List.getElem?_take] at hj
   split at hj
   ·simpa using hj
   ·cases hj)
 have hik : i + (n + 1 - i) = n + 1 := by omega
 have hkk : (n : Int) + 1 - (i : Int) = ((n + 1 - i : Nat) : Int) := by omega
 have hrz : ∀ ty, (Builtin.append_ #[49, 3] ty #[.slice (some ⟨b, 0, none⟩) i c, .int .i64 ((n : Int) + 1 - (i : Int))]).run Tryz.prog w =
   .ok (.slice (some ⟨w.heap.size, 0, none⟩) (n + 1) (grownCap w (n + 1) c 58)) (w.drew.alloc (.cells ((cs.toList.take (i * 7)).toArray ++ Builtin.zeroCells z.cells (n + 1 - i) ++ Builtin.zeroCells z.cells (grownCap w (n + 1) c 58 - (n + 1))) 58)) := fun ty => by
  have h := Lib.run_append_grow_zeros w 49 3 ty 58 inf z .i64 .i64 Tryz.underlying49 Tryz.underlying3 hinf hz (some ⟨b, 0, none⟩) i c (cs.toList.take (i * 7)) hold (n + 1 - i) (by omega) (by omega) (by omega) (by omega) (by rw [hby]; omega) (by rw [hby, hik]; exact growslice_fits hroom hbig)
  rw [hik] at h
  rw [hkk]
  exact h
 obtain ⟨G, hG⟩ : ∃ G, G = grownCap w (n + 1) c 58 := ⟨_, rfl⟩
 have hGn : n + 1 ≤ G := by rw [hG]; exact grownCap_ge w _ _ _
 have hGm : G ≤ maxLen := by rw [hG]; exact grownCap_le_maxLen w (n + 1) c _ (by unfold maxLen; omega)
 have hG63 : G ≤ 9223372036854775807 := hGm
 obtain ⟨ROW, hROW⟩ : ∃ ROW : Array Value, ROW = (cs.toList.take (i * 7)).toArray ++ Builtin.zeroCells z.cells (n + 1 - i) ++ Builtin.zeroCells z.cells (G - (n + 1)) := ⟨_, rfl⟩
 rw [← hG] at hrz
 rw [← hROW] at hrz
 have hRl : ROW.toList.length = G * 7 := by
  rw [hROW, Array.length_toList]
  simp only [Array.size_append, List.size_toArray, size_zeroCells, hzc, List.length_take, Array.length_toList, hs]
  omega
 have hR0 : ∀ o, o < i * 7 → ROW.toList[o]? = cs[o]? := fun o ho => by
  have hl : (cs.toList.take (i * 7)).length = i * 7 := by rw [List.length_take, Array.length_toList, hs]; omega
  rw [hROW]
  simp only [Array.toList_append]
  rw [List.append_assoc, List.getElem?_append_left (by rw [List.toList_toArray, hl]; exact ho), List.toList_toArray, List.getElem?_take, if_pos ho]
  simp
 have htl := Q9 (i := i) hs hnc
 have hbw : b < w.heap.size := by
  rcases Nat.lt_or_ge b w.heap.size with h | h
  ·exact h
  ·rw [Array.getElem?_eq_none h] at hh; cases hh
 have hvw : vb < w.heap.size := by
  rcases Nat.lt_or_ge vb w.heap.size with h | h
  ·exact h
  ·rw [Array.getElem?_eq_none h] at hvh; cases hvh
 obtain ⟨W1, hW1⟩ : ∃ W1, W1 = w.drew.alloc (.cells ROW 58) := ⟨_, rfl⟩
 rw [← hW1] at hrz
 have hN1 : W1.heap[w.heap.size]? = some (.cells ROW 58 (0, 0)) := by rw [hW1]; exact a4E w _
 have hO1 : ∀ x, x < w.heap.size → W1.heap[x]? = w.heap[x]? := fun x hx => by rw [hW1]; exact a4D w _ x hx
 obtain ⟨R2, hR2⟩ : ∃ R2, R2 = (putAt ROW.toList (i * 7) us).toArray := ⟨_, rfl⟩
 have hG5 : (n + 1) * 7 ≤ G * 7 := Nat.mul_le_mul_right _ hGn
 have hR2l : R2.size = G * 7 := by rw [hR2, List.size_toArray, o6 _ _ _ (by rw [hu, hRl]; omega), hRl]
 have hcpA : ∀ (W : World), W.heap = W1.heap → ∀ ty dc, (Builtin.copy_ #[49, 49] ty #[.slice (some ⟨w.heap.size, i * 7, none⟩) (n + 1 - i) dc, .slice (some ⟨vb, voff, none⟩) 1 vc]).run Tryz.prog W = .ok (goInt (1 : Nat)) (wrote W w.heap.size (i * 7) ROW us) := fun W hW ty dc =>
  A2 (k := 1) (us := us) (T := 58) Tryz.underlying49 hinf (by simp only [Nat.min_def]; split <;> omega) (by rw [hsz, hu]) (fun j v hj => by
   rw [u6, o7 (cs := vcs) (T := tV) (by rw [hW, hO1 _ hvw]; exact hvh)]
   have := hvs j v hj
   rw [o7 hvh] at this
   exact this) (by rw [hW]; exact hN1) (by rw [hu, ← Array.length_toList, hRl]; omega) h1
 obtain ⟨W2, hW2⟩ : ∃ W2, W2 = wrote W1 w.heap.size (i * 7) ROW us := ⟨_, rfl⟩
 have hcpB : ∀ (W : World), W.heap = W2.heap → ∀ ty dc sc, (Builtin.copy_ #[49, 49] ty #[.slice (some ⟨w.heap.size, (i + 1) * 7, none⟩) (n - i) dc, .slice (some ⟨b, i * 7, none⟩) (n - i) sc]).run Tryz.prog W = .ok (goInt (n - i : Nat)) (wrote W w.heap.size ((i + 1) * 7) R2 ((cs.toList.take (n * 7)).drop (i * 7))) := fun W hW ty dc sc =>
  A2 (k := n - i) (us := (cs.toList.take (n * 7)).drop (i * 7)) (T := 58) Tryz.underlying49 hinf (by simp only [Nat.min_def]; split <;> omega) (by rw [hsz, htl]) (fun j v hj => by
   rw [u6, o7 (cs := cs) (T := T) (by rw [hW, hW2, r9 (by omega), hO1 _ hbw]; exact hh)]
   have := hsrc j v hj
   rw [o7 hh] at this
   exact this) (by rw [hW, hW2, hR2]; exact u9 hN1) (by rw [htl, hR2l]; omega) (fun u hu => h1c u (List.mem_of_mem_drop hu))
 have hGi : ¬ (G = i) := by omega
 have hGim : ¬ (G = i + 1) := by omega
 have hci : ¬ (c = i) := by omega
 have hw1 : IntKind.i64.wrap ((n : Int) + 1) = ((n + 1 : Nat) : Int) := by rw [IntKind.wrap_i64]; omega
 have hw2 : IntKind.i64.wrap ((i : Int) + 1) = ((i + 1 : Nat) : Int) := by rw [IntKind.wrap_i64]; omega
 have hb1 : (0 : Int) ≤ (i : Int) + 1 := by omega
 have hin : i ≤ n := by omega
 have htn : ((i : Int) + 1).toNat = i + 1 := by omega
 have hb3 : (i : Int) ≤ (n : Int) := by omega
 have hne : ¬ ((i : Int) = (n : Int)) := by omega
 have hend : ∀ W : World, W.heap = (wrote W2 w.heap.size ((i + 1) * 7) R2 ((cs.toList.take (n * 7)).drop (i * 7))).heap → W.os = w.os → W.tape = w.tape → W.output = w.output → InsE w W 7 (.slice (some ⟨b, 0, none⟩) n c) (.slice (some ⟨w.heap.size, 0, none⟩) (n + 1) G) n i 1 b c cs us := fun W hW g1 g2 g3 => by
  refine ⟨_, _, _, 58, InsM.grow (row := ROW.toList) hRl hs hnc hGn hGm hi hu hR0 ?_ rfl ?_ (fun x hx => ?_) g1 g2 g3⟩
  ·rw [hW, u9 (T := 58) (by rw [hW2, hR2]; exact u9 hN1), V1, hR2]
  ·rw [hW, hW2, hW1]; simp [wrote, World.setRow, World.alloc]
  ·rw [hW, r9 (by omega), hW2, r9 (by omega)]; exact hO1 x hx
 clear hkk hik hold hROW hG hRl hR0
 go_enter Tryz.func217, Tryz.ntmps217
 go_wp2_with (first
  | (at_builtin; refine Lib.wpList_append_run _ rfl _ _ _ _ rfl _ _ rfl rfl _ _ (hrz _) ?_)
  | (at_builtin; refine wpList_copy_runI _ rfl _ _ 49 49 rfl _ _ rfl rfl (hcpA _ rfl _ _) ?_))
 go_region_law_o (refine step_copy_runI rfl _ _ 49 49 rfl (.slice (some ⟨w.heap.size, (i + 1) * 7, none⟩) (n - i) (G - (i + 1))) (.slice (some ⟨b, i * 7, none⟩) (n - i) (c - i)) (by simp [Act.eval, Act.put]) (by simp [Act.eval, Act.put]) (hcpB _ (by rw [hW2, hW1]; rfl) _ _ _) ?_)
 go_wp2
 go_ret
 exact ⟨.slice (some ⟨w.heap.size, 0, none⟩) (n + 1) G, rfl, hend _ (by rw [hW2, hW1, hR2]; rfl) rfl rfl rfl⟩
theorem c5v (w : World) (b n c vb voff vc T : Nat) (cs : Array Value) (us : List Value) (hn : n ≤ c) (hc : c ≤ maxLen) (hh : w.heap[b]? = some (.cells cs T (0, 0))) (hs : cs.size = c * 7) (hu : us.length = 7)
  (hvs : ∀ j v, us[j]? = some v → w.cell? ⟨vb, voff + j, none⟩ = some v) (h1 : ∀ u ∈ us, one u) (hb : (n + 1) * 56 ≤ 140737488355328) :
  Calls Tryz.prog 217 #[.slice (some ⟨b, 0, none⟩) n c, .int .i64 n, .slice (some ⟨vb, voff, none⟩) 1 vc] w fun e w' =>
   ∃ v, e = .returned v ∧ InsE w w' 7 (.slice (some ⟨b, 0, none⟩) n c) v n n 1 b c cs us := by
 obtain ⟨inf, z, hinf, hsz, hby, hz, hzc⟩ := a8h
 have u25 := run_underlying Tryz.underlying49
 have z38 : ∀ w, (sizeOf 58).run Tryz.prog w = .ok 7 w := fun w => by simp [sizeOf, typeInfo, hinf, hsz]
 have hc63 : c ≤ 9223372036854775807 := hc
 have mixed := j3.mix
 rcases F7 (P := Tryz.prog) (ty := 49) (w := w) Tryz.underlying49 hinf hz hsz hby hzc (Old.row n b c cs T hh hn hc hs) (m := 1) (us := us) ⟨by rw [hu], .inr (.inr ⟨vb, voff, vc, rfl, hvs⟩)⟩ h1 (by omega) (by simpa using hb) with ⟨_, h, _⟩ | ⟨v, w', b', cap', cs', T', hr, A⟩
 ·cases h
 ·have hend : InsE w w' 7 _ v _ _ 1 b _ cs us := ⟨_, _, _, _, A.ins⟩
  by_cases hcn : n = c
  ·subst hcn
   go_enter Tryz.func217, Tryz.ntmps217
   go_wp2_with (at_builtin; refine Lib.wpList_append_run _ rfl _ _ _ _ rfl _ _ rfl rfl _ _ hr ?_)
   go_ret
   exact ⟨v, rfl, hend⟩
  ·have hcn2 : ¬ (c = n) := fun h => hcn h.symm
   go_enter Tryz.func217, Tryz.ntmps217
   go_wp2_with (at_builtin; refine Lib.wpList_append_run _ rfl _ _ _ _ rfl _ _ rfl rfl _ _ hr ?_)
   go_ret
   exact ⟨v, rfl, hend⟩
theorem c5u (w : World) (b vb voff vc T : Nat) (cs : Array Value) (us : List Value) (hcs : cs = #[]) (hu : us.length = 7)
  (hvs : ∀ j v, us[j]? = some v → w.cell? ⟨vb, voff + j, none⟩ = some v) (h1 : ∀ u ∈ us, one u) :
  Calls Tryz.prog 217 #[.slice none 0 0, .int .i64 0, .slice (some ⟨vb, voff, none⟩) 1 vc] w fun e w' =>
   ∃ v, e = .returned v ∧ InsE w w' 7 (.slice none 0 0) v 0 0 1 b 0 cs us := by
 obtain ⟨inf, z, hinf, hsz, hby, hz, hzc⟩ := a8h
 have u25 := run_underlying Tryz.underlying49
 have z38 : ∀ w, (sizeOf 58).run Tryz.prog w = .ok 7 w := fun w => by simp [sizeOf, typeInfo, hinf, hsz]
 have mixed := j3.mix
 rcases F7 (P := Tryz.prog) (ty := 49) (w := w) Tryz.underlying49 hinf hz hsz hby hzc (Old.nil b 0 cs T hcs rfl) (m := 1) (us := us) ⟨by rw [hu], .inr (.inr ⟨vb, voff, vc, rfl, hvs⟩)⟩ h1 (by omega) (by omega) with ⟨_, _, _, h⟩ | ⟨v, w', b', cap', cs', T', hr, A⟩
 ·cases h
 ·go_enter Tryz.func217, Tryz.ntmps217
  have hend : InsE w w' 7 _ v _ _ 1 b _ cs us := ⟨_, _, _, _, A.ins⟩
  go_wp2_with (at_builtin; refine Lib.wpList_append_run _ rfl _ _ _ _ rfl _ _ rfl rfl _ _ hr ?_)
  all_goals go_ret
  all_goals first | exact ⟨v, rfl, hend⟩ | (have hcn : c = n := by (first | assumption | (symm; assumption) | omega); subst hcn; exact ⟨v, rfl, hend⟩)
theorem insGFn : b6v Tryz.prog 217 .gst := by
 intro w s n b cap cs T i vb vcap vT vcs us hO hi hvb hvh hu hvs h1 h1c hL
 have hs5 : RT.size .gst = 7 := rfl
 have hb5 : RT.bytes .gst = 56 := rfl
 rw [hs5] at *
 rw [hb5] at hL
 cases hO with
 | nil _ _ _ _ hcs hcap =>
  have : i = 0 := by omega
  subst this
  subst hcap
  exact c5u w b vb 0 vcap T cs us hcs hu hvs h1
 | row _ _ _ _ _ hh hnc hcm hcs =>
  rcases Nat.lt_or_ge i n with hlt | hge
  ·rcases Nat.lt_or_ge cap (n + 1) with hr | hr
   ·exact c2n w b n cap i vb 0 vcap T vT cs vcs us hlt hnc hr hcm hh hcs hu hvh hvs h1 h1c hL
   ·exact c2l w b n cap i vb 0 vcap T vT cs vcs us hlt hr hcm hh hcs hu hvh (hvb ⟨_, rfl⟩) hvs h1 h1c
  ·have : i = n := by omega
   subst this
   exact c5v w b i cap vb 0 vcap T cs us hnc hcm hh hcs hu hvs h1 hL
theorem c1V : b7 Tryz.prog 217 (.raw (insM .gst)) :=
 b7F ⟨_, _, Tryz.func217, by kernel_rfl, rfl⟩ insGFn
end Go.Proofs.YtkclfaldmghkeaaGreat
namespace Go.Proofs.YtkclfaldmghkeaaGreat
open Go.Sx Go.Proofs Go.Mo
noncomputable def b8P : Sx.Spec := ⟨false, true, [.list .gst, .row .gst], [[some .gst]], fun _ _ ⟨l, g, _⟩ => .ret (vW .gst fun _ => a0X (l ()) (g ()), fun _ => 0)⟩
theorem c4u : b7 Tryz.prog 194 b8P := j8 j3 (ss := [(154, b2v), (146, a1k), (217, (.raw (insM .gst)))]) ⟨b5n, b9F, c1V, trivial⟩ rfl rfl <| by
 intro (bs : Th (List Int)) (p : Th Int) ⟨(l : Th (List Gst)), (g : Th Gst), u⟩ K _ _ ho h
 obtain ⟨l, rfl⟩ := a8 l; obtain ⟨g, rfl⟩ := a8 g
 have hl := okB (ho.1 _ (.head _))
 have hp := fun (k : Nat) => @c7X l g k
 refine ⟨annL [(194, 3, ⟨Nat, [], fun σ k => σ.t 6 (vI fun _ => (k : Int)), fun _ k _ => k ≤ l.length ∧ l8 k (a6R l g) = true, fun _ k _ => l.length - k⟩)], noAnn, 20, ?_⟩
 cbv
 repeat' first | ((with_reducible refine fun (k : Nat) => ?_); cbv) | ((with_reducible intro _); cbv) | (with_reducible refine And.intro ?_ ?_)
 all_goals try ((first | (with_reducible refine LoopIn.mk ((0 : Nat)) ?_ ?_) | (with_reducible refine LoopBack.mk ((k + 1 : Nat)) ?_ ?_ ?_)) )
 all_goals try ((with_reducible show m6 _ _); cbv; (try simp only [and_true, true_and]))
 all_goals try (repeat' with_reducible refine And.intro ?_ ?_)
 all_goals first | (refine retK h ?_; clear h; simp only [fin0]) | (with_reducible refine Ob.mk ?_; clear h) | (clear h)
 all_goals (try simp only [eta0, RT.bytes] at *)
 all_goals (try (refine funext fun u => ?_; rw [B5]))
 all_goals (try simp only [Int.toNat_natCast] at *)
 all_goals grind (splits := 30) [j5, e8, a0X, a6R, m8, m7]
end Go.Proofs.YtkclfaldmghkeaaGreat
