/-
  Contracts: logs folded by the document, into new memory.
-/
import Derived.Test.YtkclfaldmghkeaaGreatGnVe
import Derived.Test.YtkclfaldmghkeaaGreatFnM
import Derived.Test.YtkclfaldmghkeaaGreatInsW
set_option linter.unusedVariables false
set_option linter.unusedSimpArgs false
set_option maxRecDepth 100000
set_option maxHeartbeats 8000000
namespace Go.Proofs.YtkclfaldmghkeaaGreat
open Go.Sx Go.Proofs Go.Mo
theorem a1T : b7 Tryz.prog 17 a2D := j8 j3 (ss := [(50, a1N), (51, O0), (52, a4W)]) ⟨a2Q, a0h, a6M, trivial⟩ rfl rfl <| by
 intro (bs : Th (List Int)) (p : Th Int) ⟨(m : Th PMap), (c : Th Cll), (l : Th (List Sx.Rec)), u⟩ K _ _ ho h
 obtain ⟨m, rfl⟩ := a8 m; obtain ⟨c, rfl⟩ := a8 c; obtain ⟨l, rfl⟩ := a8 l
 refine ⟨annL [(17, 5, ⟨Nat, [⟨.cell 9 1, some 13569, .wlk⟩, ⟨.cell 9 3, some 13571, .pcls⟩, ⟨.cell 9 4, some 13572, .int⟩, ⟨.cell 9 5, some 13573, .int⟩],
  fun σ k => (((((((((((((σ.fgs [13569, 13571, 13572, 13573]).t 24 (.one .unk)).t 9 (vI fun _ => (k : Int))).E7 9 0 (.att (.int .i64 fun _ => (r7 m c l k).cell))).E7 9 1 (.own 13569 1)).E7 9 2 (.att (.int .i64 fun _ => (r7 m c l k).ground))).E7 9 3 (.own 13571 1)).E7 9 4 (.own 13572 1)).E7 9 5 (.own 13573 1)).row 13569 1 .wlk (fun _ => (r7 m c l k).wlks)).row 13571 1 .pcls (fun _ => (r7 m c l k).outs)).row 13572 1 .int (fun _ => (r7 m c l k).next)).row 13573 1 .int (fun _ => (r7 m c l k).ins)),
  fun _ k _ => k ≤ l.length ∧ l.length ≤ 250 ∧ q9 m c = true ∧ l8 k (H8 m c l) = true, fun _ k _ => l.length - k⟩)], noAnn, 20, ?_⟩
 cbv
 repeat' first | ((with_reducible refine fun (k : Nat) => ?_); cbv) | ((with_reducible intro _); cbv) | (with_reducible refine And.intro ?_ ?_)
 all_goals try ((first | (with_reducible refine LoopIn.mk ((0 : Nat)) ?_ ?_) | (with_reducible refine LoopBack.mk ((k + 1 : Nat)) ?_ ?_ ?_)) )
 all_goals try ((with_reducible show m6 _ _); cbv; (try simp only [and_true, true_and]))
 all_goals try (repeat' with_reducible refine And.intro ?_ ?_)
 all_goals first | (refine retK h ?_; clear h; simp only [fin0]) | (with_reducible refine Ob.mk ?_; clear h) | (clear h)
 all_goals (try simp only [eta0, RT.bytes] at *)
 all_goals grind [O7, b8n, b6p, a3D, m8, m7, j5, b7C, b5s, b5r, a7M]
def nSto : List (Option RT) := [none, none, some .wlk, none, some .pcls, some .int, some .int, some .rcd]
noncomputable def a0z : Sx.Spec := ⟨false, true, [.row .sto], [nSto], fun _ _ ⟨s, _⟩ => .ret (oSto s, fun _ => 0)⟩
noncomputable def a1L : Sx.Spec := ⟨false, true, [.map, .row .sto], [], fun _ _ ⟨m, s, _⟩ => .ret (vB fun _ => x8 (m ()) (s ()), fun _ => 0)⟩
noncomputable def b6O : Sx.Spec := ⟨false, true, [.row .sto, .map], [nCll], fun _ _ ⟨s, m, _⟩ => .asrt (fun _ => x8 (m ()) (s ()) = true) (.ret (oCll fun _ => p5 (m ()) (s ()), fun _ => 0))⟩
noncomputable def b0R : Sx.Spec := ⟨false, true, [.map, .row .sto], [nCll], fun _ _ ⟨m, s, _⟩ => .ret (oCll fun _ => U6 (m ()) (s ()), fun _ => 0)⟩
noncomputable def b0S : Sx.Spec := ⟨false, true, [.map, .row .sto, .int .i64], [nSto, [none]], fun _ _ ⟨m, s, a, _⟩ => .ret (.tup [oSto fun _ => (P0 (m ()) (s ()) (a ())).s, vB fun _ => (P0 (m ()) (s ()) (a ())).ok], fun _ => 0)⟩
noncomputable def a8B : Sx.Spec := ⟨false, true, [.map, .row .sto, .int .i64, .int .i64, .row .rcd], [nSto, [none]], fun _ _ ⟨m, s, a, b, r, _⟩ => .ret (.tup [oSto fun _ => (u7 (m ()) (s ()) (a ()) (b ()) (r ())).s, vI fun _ => (u7 (m ()) (s ()) (a ()) (b ()) (r ())).n], fun _ => 0)⟩
theorem c4q {s : Sto} (h : ∀ a ∈ (PT.row .sto).encA (fun _ => s), OkA a) : s.recs.length * 128 ≤ 140737488355328 := okB (h _ (.tail _ (.tail _ (.tail _ (.tail _ (.tail _ (.tail _ (.tail _ (.head _)))))))))
theorem b5m : b7 Tryz.prog 153 a0z := j8 j3 (ss := [(42, O0)]) ⟨a5z, trivial⟩ rfl rfl <| by
 intro (bs : Th (List Int)) (p : Th Int) ⟨(s : Th Sto), u⟩ K _ _ ho h
 obtain ⟨s, rfl⟩ := a8 s
 have hrl := c4q ho.1
 refine ⟨noAnn, noAnn, 20, ?_⟩
 cbv
 repeat' first | ((with_reducible intro _); cbv) | (with_reducible refine And.intro ?_ ?_)
 all_goals first | (refine retK h ?_; clear h; simp only [fin0]) | (with_reducible refine Ob.mk ?_; clear h) | (clear h)
 all_goals (try simp only [eta0, RT.bytes] at *)
 all_goals grind
theorem a5x : b7 Tryz.prog 178 a0z := j8 j3 (ss := [(51, O0)]) ⟨a0h, trivial⟩ rfl rfl <| by
 intro (bs : Th (List Int)) (p : Th Int) ⟨(s : Th Sto), u⟩ K _ _ ho h
 obtain ⟨s, rfl⟩ := a8 s
 have hrl := c4q ho.1
 refine ⟨noAnn, noAnn, 20, ?_⟩
 cbv
 repeat' first | ((with_reducible intro _); cbv) | (with_reducible refine And.intro ?_ ?_)
 all_goals first | (refine retK h ?_; clear h; simp only [fin0]) | (with_reducible refine Ob.mk ?_; clear h) | (clear h)
 all_goals (try simp only [eta0, RT.bytes] at *)
 all_goals grind
theorem c7t : b7 Tryz.prog 79 a1L := j8 j3 (ss := [(39, sIn), (40, a1N), (41, c3O)]) ⟨okIn, b9E, c4G, trivial⟩ rfl rfl <| by
 intro (bs : Th (List Int)) (p : Th Int) ⟨(m : Th PMap), (s : Th Sto), u⟩ K _ _ ho h
 obtain ⟨m, rfl⟩ := a8 m; obtain ⟨s, rfl⟩ := a8 s
 have hso := @u0 m s
 refine ⟨noAnn, noAnn, 20, ?_⟩
 cbv
 repeat' first | ((with_reducible intro _); cbv) | (with_reducible refine And.intro ?_ ?_)
 all_goals first | (refine retK h ?_; clear h; simp only [fin0]) | (with_reducible refine Ob.mk ?_; clear h) | (clear h)
 all_goals (try simp only [eta0, RT.bytes] at *)
 all_goals grind [inR]
theorem a1o : b7 Tryz.prog 141 a1L := j8 j3 (ss := [(110, sIn), (50, a1N), (17, a2D)]) ⟨F9, a2Q, a1T, trivial⟩ rfl rfl <| by
 intro (bs : Th (List Int)) (p : Th Int) ⟨(m : Th PMap), (s : Th Sto), u⟩ K _ _ ho h
 obtain ⟨m, rfl⟩ := a8 m; obtain ⟨s, rfl⟩ := a8 s
 have hso := @u0 m s
 refine ⟨noAnn, noAnn, 20, ?_⟩
 cbv
 repeat' first | ((with_reducible intro _); cbv) | (with_reducible refine And.intro ?_ ?_)
 all_goals first | (refine retK h ?_; clear h; simp only [fin0]) | (with_reducible refine Ob.mk ?_; clear h) | (clear h)
 all_goals (try simp only [eta0, RT.bytes] at *)
 all_goals grind [inR, H6]
theorem b9A : b7 Tryz.prog 228 b6O := j8 j3 (ss := [(41, c3O)]) ⟨c4G, trivial⟩ rfl rfl <| by
 intro (bs : Th (List Int)) (p : Th Int) ⟨(s : Th Sto), (m : Th PMap), u⟩ K _ _ ho h
 obtain ⟨s, rfl⟩ := a8 s; obtain ⟨m, rfl⟩ := a8 m
 obtain ⟨hpre, h⟩ := h
 have hpre := u0.1 hpre.out
 refine ⟨noAnn, noAnn, 20, ?_⟩
 cbv
 repeat' first | ((with_reducible intro _); cbv) | (with_reducible refine And.intro ?_ ?_)
 all_goals first | (refine retK h ?_; clear h; simp only [fin0]) | (with_reducible refine Ob.mk ?_; clear h) | (clear h)
 all_goals (try simp only [eta0, RT.bytes] at *)
 all_goals grind [p5]
theorem b5b : b7 Tryz.prog 235 b0R := j8 j3 (ss := [(141, a1L), (17, a2D)]) ⟨a1o, a1T, trivial⟩ rfl rfl <| by
 intro (bs : Th (List Int)) (p : Th Int) ⟨(m : Th PMap), (s : Th Sto), u⟩ K _ _ ho h
 obtain ⟨m, rfl⟩ := a8 m; obtain ⟨s, rfl⟩ := a8 s
 have hso := @u0 m s
 refine ⟨noAnn, noAnn, 20, ?_⟩
 cbv
 repeat' first | ((with_reducible intro _); cbv) | (with_reducible refine And.intro ?_ ?_)
 all_goals first | (refine retK h ?_; clear h; simp only [fin0]) | (with_reducible refine Ob.mk ?_; clear h) | (clear h)
 all_goals (try simp only [eta0, RT.bytes] at *)
 all_goals grind [U6, p5, O7, H6]
theorem b5c : b7 Tryz.prog 234 b0S := j8 j3 (ss := [(141, a1L), (110, sIn), (178, a0z)]) ⟨a1o, F9, a5x, trivial⟩ rfl rfl <| by
 intro (bs : Th (List Int)) (p : Th Int) ⟨(m : Th PMap), (s : Th Sto), (a : Th Int), u⟩ K _ _ ho h
 obtain ⟨m, rfl⟩ := a8 m; obtain ⟨s, rfl⟩ := a8 s; obtain ⟨a, rfl⟩ := a8 a
 refine ⟨noAnn, noAnn, 20, ?_⟩
 cbv
 repeat' first | ((with_reducible intro _); cbv) | (with_reducible refine And.intro ?_ ?_)
 all_goals first | (refine retK h ?_; clear h; simp only [fin0]) | (with_reducible refine Ob.mk ?_; clear h) | (clear h)
 all_goals (try simp only [eta0, RT.bytes] at *)
 all_goals grind [P0, W8, O7, inR]
theorem b2P : b7 Tryz.prog 236 a8B := j8 j3 (ss := [(141, a1L), (178, a0z), (17, a2D), (52, a4W)]) ⟨a1o, a5x, a1T, a6M, trivial⟩ rfl rfl <| by
 intro (bs : Th (List Int)) (p : Th Int) ⟨(m : Th PMap), (s : Th Sto), (a : Th Int), (b : Th Int), (r : Th Sx.Rec), u⟩ K _ _ ho h
 obtain ⟨m, rfl⟩ := a8 m; obtain ⟨s, rfl⟩ := a8 s; obtain ⟨a, rfl⟩ := a8 a; obtain ⟨b, rfl⟩ := a8 b; obtain ⟨r, rfl⟩ := a8 r
 have hso := @u0 m s
 have hst := @a2y m s
 refine ⟨noAnn, noAnn, 20, ?_⟩
 cbv
 repeat' first | ((with_reducible intro _); cbv) | (with_reducible refine And.intro ?_ ?_)
 all_goals first | (refine retK h ?_; clear h; simp only [fin0]) | (with_reducible refine Ob.mk ?_; clear h) | (clear h)
 all_goals (try simp only [eta0, RT.bytes] at *)
 all_goals grind [u7, G4, p5, W8, O7, H6, J4]
def nHld : List (Option RT) := [none, none, none, some .wlk, none, some .pcls, some .int, some .int]
noncomputable def a3s : Sx.Spec := ⟨false, true, [.row .hld], [nHld], fun _ _ ⟨h, _⟩ => .ret (oHld h, fun _ => 0)⟩
noncomputable def a6C : Sx.Spec := ⟨false, true, [.map, .row .hld], [], fun _ _ ⟨m, h, _⟩ => .ret (vB fun _ => N3 (m ()) (h ()), fun _ => 0)⟩
noncomputable def b4s : Sx.Spec := ⟨false, true, [.map, .row .sto, .int .i64], [nHld, nSto, [none]], fun _ _ ⟨m, s, a, _⟩ => .ret (.tup [oHld fun _ => (S7 (m ()) (s ()) (a ())).h, oSto fun _ => (S7 (m ()) (s ()) (a ())).s, vB fun _ => (S7 (m ()) (s ()) (a ())).ok], fun _ => 0)⟩
noncomputable def b0V : Sx.Spec := ⟨false, true, [.map, .row .hld, .row .sto, .row .rcd], [nHld, nSto, [none], [none]], fun _ _ ⟨m, h, s, r, _⟩ => .ret (.tup [oHld fun _ => (s6 (m ()) (h ()) (s ()) (r ())).h, oSto fun _ => (s6 (m ()) (h ()) (s ()) (r ())).s, vI fun _ => (s6 (m ()) (h ()) (s ()) (r ())).n, vI fun _ => (s6 (m ()) (h ()) (s ()) (r ())).k], fun _ => 0)⟩
theorem c4K : b7 Tryz.prog 155 a3s := j8 j3 (ss := [(42, O0)]) ⟨a5z, trivial⟩ rfl rfl <| by
 intro (bs : Th (List Int)) (p : Th Int) ⟨(g : Th Hld), u⟩ K _ _ ho h
 obtain ⟨g, rfl⟩ := a8 g
 refine ⟨noAnn, noAnn, 20, ?_⟩
 cbv
 repeat' first | ((with_reducible intro _); cbv) | (with_reducible refine And.intro ?_ ?_)
 all_goals first | (refine retK h ?_; clear h; simp only [fin0]) | (with_reducible refine Ob.mk ?_; clear h) | (clear h)
 all_goals (try simp only [eta0, RT.bytes] at *)
 all_goals grind
theorem c7B : b7 Tryz.prog 82 a6C := j8 j3 (ss := [(39, sIn), (40, a1N)]) ⟨okIn, b9E, trivial⟩ rfl rfl <| by
 intro (bs : Th (List Int)) (p : Th Int) ⟨(m : Th PMap), (g : Th Hld), u⟩ K _ _ ho h
 obtain ⟨m, rfl⟩ := a8 m; obtain ⟨g, rfl⟩ := a8 g
 have hso := @y5 m g
 refine ⟨noAnn, noAnn, 20, ?_⟩
 cbv
 repeat' first | ((with_reducible intro _); cbv) | (with_reducible refine And.intro ?_ ?_)
 all_goals first | (refine retK h ?_; clear h; simp only [fin0]) | (with_reducible refine Ob.mk ?_; clear h) | (clear h)
 all_goals (try simp only [eta0, RT.bytes] at *)
 all_goals grind [inR]
theorem b7h {m : PMap} {s : Sto} {a : Int} (h : x8 m s = true) (h1 : 1 ≤ a) (h2 : a ≤ 900) : ((P0 m s a).ok = false → S7 m s a = ⟨a2j, (P0 m s a).s, false⟩) ∧
  ((P0 m s a).ok = true → S7 m s a = ⟨⟨a, (P0 m s a).s.recs.length, U6 m (P0 m s a).s⟩, (P0 m s a).s, true⟩) := by
 have hc : x8 m s = true ∧ 0 ≤ a ∧ a ≤ 900 := ⟨h, by omega, h2⟩
 have ha := c6N h (a := a) (by omega) h2
 unfold P0 S7
 have hd : x8 m s = true ∧ 1 ≤ a ∧ a ≤ 900 := ⟨h, h1, h2⟩
 rw [if_pos hc, if_pos hd]
 by_cases hl : a < s.age
 ·rw [if_pos hl]
  exact ⟨fun _ => (by first | rw [if_pos hl] | rfl), fun hh => by cases hh⟩
 ·rw [if_neg hl]
  refine ⟨fun hh => (by cases hh), fun _ => ?_⟩
  first
   | rw [if_neg hl, ha.2, b2p h]
   | rw [ha.2, b2p h]
theorem c0M {m : PMap} {g : Hld} {s : Sto} {r : Sx.Rec} (hg : N3 m g = true) (hs : x8 m s = true) :
  (¬ (u7 m s g.age g.count r).n = 1 → s6 m g s r = ⟨g, s, (u7 m s g.age g.count r).n, 0⟩ ∧ (u7 m s g.age g.count r).s = s) ∧
  ((u7 m s g.age g.count r).n = 1 → (F5 m g.state r).ok = false → s6 m g s r = ⟨g, s, 4, 0⟩) ∧
  ((u7 m s g.age g.count r).n = 1 → (F5 m g.state r).ok = true → s6 m g s r = ⟨⟨g.age, g.count + 1, (F5 m g.state r).c⟩, (u7 m s g.age g.count r).s, 1, (F5 m g.state r).code⟩) ∧ (-10 ≤ g.count ∧ g.count ≤ 250) := by
 have hg2 := y5.1 hg
 have hno := @b8o m s g.age g.count r hs
 have hc : N3 m g = true ∧ x8 m s = true := ⟨hg, hs⟩
 refine ⟨fun hn => ⟨?_, hno hn⟩, fun hn ho => ?_, fun hn ho => ?_, by omega⟩
 ·rw [a0p hs] at hn ⊢
  rw [s6, if_pos hc, if_pos hn]
 ·rw [a0p hs] at hn
  have hl : D1 m r = true := by
   rcases a1B m s g.age g.count r with ⟨_, h2⟩ | ⟨_, _, _, _, _, h6, _⟩
   ·omega
   ·exact h6
  rw [apX hg2.2.2 hl] at ho
  rw [s6, if_pos hc, if_neg (fun hh => hh hn), if_pos ho]
 ·rw [a0p hs] at hn ⊢
  have hl : D1 m r = true := by
   rcases a1B m s g.age g.count r with ⟨_, h2⟩ | ⟨_, _, _, _, _, h6, _⟩
   ·omega
   ·exact h6
  rw [apX hg2.2.2 hl] at ho ⊢
  rw [s6, if_pos hc, if_neg (fun hh => hh hn), if_neg (by rw [ho]; decide)]
theorem b6y {m : PMap} {g : Hld} {s : Sto} {r : Sx.Rec} (h : N3 m g = false ∨ x8 m s = false) : s6 m g s r = ⟨a2j, W8, 0, 0⟩ := by
 rw [s6, if_neg]
 rintro ⟨h1, h2⟩
 rcases h with h | h <;> simp_all
theorem a9b : b7 Tryz.prog 183 a6C := j8 j3 (ss := [(110, sIn), (50, a1N)]) ⟨F9, a2Q, trivial⟩ rfl rfl <| by
 intro (bs : Th (List Int)) (p : Th Int) ⟨(m : Th PMap), (g : Th Hld), u⟩ K _ _ ho h
 obtain ⟨m, rfl⟩ := a8 m; obtain ⟨g, rfl⟩ := a8 g
 have hso := @y5 m g
 refine ⟨noAnn, noAnn, 20, ?_⟩
 cbv
 repeat' first | ((with_reducible intro _); cbv) | (with_reducible refine And.intro ?_ ?_)
 all_goals first | (refine retK h ?_; clear h; simp only [fin0]) | (with_reducible refine Ob.mk ?_; clear h) | (clear h)
 all_goals (try simp only [eta0, RT.bytes] at *)
 all_goals grind [inR]
theorem a9d : b7 Tryz.prog 179 a3s := j8 j3 (ss := [(51, O0)]) ⟨a0h, trivial⟩ rfl rfl <| by
 intro (bs : Th (List Int)) (p : Th Int) ⟨(g : Th Hld), u⟩ K _ _ ho h
 obtain ⟨g, rfl⟩ := a8 g
 refine ⟨noAnn, noAnn, 20, ?_⟩
 cbv
 repeat' first | ((with_reducible intro _); cbv) | (with_reducible refine And.intro ?_ ?_)
 all_goals first | (refine retK h ?_; clear h; simp only [fin0]) | (with_reducible refine Ob.mk ?_; clear h) | (clear h)
 all_goals (try simp only [eta0, RT.bytes] at *)
 all_goals grind
theorem b7p : b7 Tryz.prog 221 b4s := j8 j3 (ss := [(141, a1L), (110, sIn), (234, b0S), (235, b0R)]) ⟨a1o, F9, b5c, b5b, trivial⟩ rfl rfl <| by
 intro (bs : Th (List Int)) (p : Th Int) ⟨(m : Th PMap), (s : Th Sto), (a : Th Int), u⟩ K _ _ ho h
 obtain ⟨m, rfl⟩ := a8 m; obtain ⟨s, rfl⟩ := a8 s; obtain ⟨a, rfl⟩ := a8 a
 have hop := @b7h m s a
 have hb1 : x8 m s = false → S7 m s a = ⟨a2j, W8, false⟩ := fun hh => by
  rw [S7, if_neg (fun h3 => by simp_all)]
 have hb2 : inR a 1 900 = false → S7 m s a = ⟨a2j, W8, false⟩ := fun hh => by
  simp only [inR, decide_eq_false_iff_not] at hh
  rw [S7, if_neg (fun h3 => hh h3.2)]
 have hb3 : inR a 1 900 = true → 1 ≤ a ∧ a ≤ 900 := fun hh => by simpa [inR] using hh
 refine ⟨noAnn, noAnn, 20, ?_⟩
 cbv
 repeat' first | ((with_reducible intro _); cbv) | (with_reducible refine And.intro ?_ ?_)
 all_goals first | (refine retK h ?_; clear h; simp only [fin0]) | (with_reducible refine Ob.mk ?_; clear h) | (clear h)
 all_goals (try simp only [eta0, RT.bytes] at *)
 all_goals grind [W8, O7, a2j]
theorem b5f : b7 Tryz.prog 224 b0V := j8 j3 (ss := [(183, a6C), (141, a1L), (236, a8B), (179, a3s), (58, a6B), (178, a0z)]) ⟨a9b, a1o, b2P, a9d, a7C, a5x, trivial⟩ rfl rfl <| by
 intro (bs : Th (List Int)) (p : Th Int) ⟨(m : Th PMap), (g : Th Hld), (s : Th Sto), (r : Th Sx.Rec), u⟩ K _ _ ho h
 obtain ⟨m, rfl⟩ := a8 m; obtain ⟨g, rfl⟩ := a8 g; obtain ⟨s, rfl⟩ := a8 s; obtain ⟨r, rfl⟩ := a8 r
 have hw := @c0M m g s r
 have hz := @b6y m g s r
 refine ⟨noAnn, noAnn, 20, ?_⟩
 cbv
 repeat' first | ((with_reducible intro _); cbv) | (with_reducible refine And.intro ?_ ?_)
 all_goals first | (refine retK h ?_; clear h; simp only [fin0]) | (with_reducible refine Ob.mk ?_; clear h) | (clear h)
 all_goals (try simp only [eta0, RT.bytes] at *)
 all_goals grind [W8, O7, a2j, e8]
end Go.Proofs.YtkclfaldmghkeaaGreat
