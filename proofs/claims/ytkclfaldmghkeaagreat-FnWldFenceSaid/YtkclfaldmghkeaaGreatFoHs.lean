/-
  Contracts: logs folded by the document, into new memory.
-/
import Derived.Test.YtkclfaldmghkeaaGreatFnYs
import Derived.Test.YtkclfaldmghkeaaGreatFnM
import Derived.Test.YtkclfaldmghkeaaGreatInsW
set_option linter.unusedVariables false
set_option linter.unusedSimpArgs false
set_option maxRecDepth 100000
set_option maxHeartbeats 8000000
namespace Go.Proofs.YtkclfaldmghkeaaGreat
open Go.Sx Go.Proofs Go.Mo
theorem a0z : b8 Tryz.prog 17 a1E := j6 j4 (ss := [(50, a1n), (51, M9), (52, a5y)]) ⟨a3m, a0A, a7o, trivial⟩ rfl rfl <| by
 intro (bs : Th (List Int)) (p : Th Int) ⟨(m : Th PMap), (c : Th Cll), (l : Th (List Sx.Rec)), u⟩ K _ _ ho h
 obtain ⟨m, rfl⟩ := b6 m; obtain ⟨c, rfl⟩ := b6 c; obtain ⟨l, rfl⟩ := b6 l
 refine ⟨annL [(17, 5, ⟨Nat, [⟨.cell 9 1, some 13569, .wlk⟩, ⟨.cell 9 3, some 13571, .pcls⟩, ⟨.cell 9 4, some 13572, .int⟩, ⟨.cell 9 5, some 13573, .int⟩],
  fun σ k => (((((((((((((σ.fgs [13569, 13571, 13572, 13573]).t 24 (.one .unk)).t 9 (vI fun _ => (k : Int))).F5 9 0 (.att (.int .i64 fun _ => (r9 m c l k).cell))).F5 9 1 (.own 13569 1)).F5 9 2 (.att (.int .i64 fun _ => (r9 m c l k).ground))).F5 9 3 (.own 13571 1)).F5 9 4 (.own 13572 1)).F5 9 5 (.own 13573 1)).row 13569 1 .wlk (fun _ => (r9 m c l k).wlks)).row 13571 1 .pcls (fun _ => (r9 m c l k).outs)).row 13572 1 .int (fun _ => (r9 m c l k).next)).row 13573 1 .int (fun _ => (r9 m c l k).ins)),
  fun _ k _ => k ≤ l.length ∧ l.length ≤ 250 ∧ r7 m c = true ∧ m4 k (H3 m c l) = true, fun _ k _ => l.length - k⟩)], noAnn, 20, ?_⟩
 cbv
 repeat' first | ((with_reducible refine fun (k : Nat) => ?_); cbv) | ((with_reducible intro _); cbv) | (with_reducible refine And.intro ?_ ?_)
 all_goals try ((first | (with_reducible refine LoopIn.mk ((0 : Nat)) ?_ ?_) | (with_reducible refine LoopBack.mk ((k + 1 : Nat)) ?_ ?_ ?_)) )
 all_goals try ((with_reducible show l8 _ _); cbv; (try simp only [and_true, true_and]))
 all_goals try (repeat' with_reducible refine And.intro ?_ ?_)
 all_goals first | (refine retK h ?_; clear h; simp only [fin0]) | (with_reducible refine Ob.mk ?_; clear h) | (clear h)
 all_goals (try simp only [eta0, RT.bytes] at *)
 all_goals grind [P7, b9j, b7j, a2y, n4, n3, j3, b8z, b6m, b6l, a8n]
def nSto : List (Option RT) := [none, none, some .wlk, none, some .pcls, some .int, some .int, some .rcd]
noncomputable def a0U : Sx.Spec := ⟨false, true, [.row .sto], [nSto], fun _ _ ⟨s, _⟩ => .ret (oSto s, fun _ => 0)⟩
noncomputable def a2j : Sx.Spec := ⟨false, true, [.map, .row .sto], [], fun _ _ ⟨m, s, _⟩ => .ret (vB fun _ => y4 (m ()) (s ()), fun _ => 0)⟩
noncomputable def b7H : Sx.Spec := ⟨false, true, [.row .sto, .map], [nCll], fun _ _ ⟨s, m, _⟩ => .asrt (fun _ => y4 (m ()) (s ()) = true) (.ret (oCll fun _ => q9 (m ()) (s ()), fun _ => 0))⟩
noncomputable def b1z : Sx.Spec := ⟨false, true, [.map, .row .sto], [nCll], fun _ _ ⟨m, s, _⟩ => .ret (oCll fun _ => W3 (m ()) (s ()), fun _ => 0)⟩
noncomputable def b1A : Sx.Spec := ⟨false, true, [.map, .row .sto, .int .i64], [nSto, [none]], fun _ _ ⟨m, s, a, _⟩ => .ret (.tup [oSto fun _ => (Q0 (m ()) (s ()) (a ())).s, vB fun _ => (Q0 (m ()) (s ()) (a ())).ok], fun _ => 0)⟩
noncomputable def a9d : Sx.Spec := ⟨false, true, [.map, .row .sto, .int .i64, .int .i64, .row .rcd], [nSto, [none]], fun _ _ ⟨m, s, a, b, r, _⟩ => .ret (.tup [oSto fun _ => (u9 (m ()) (s ()) (a ()) (b ()) (r ())).s, vI fun _ => (u9 (m ()) (s ()) (a ()) (b ()) (r ())).n], fun _ => 0)⟩
theorem okStoL {s : Sto} (h : ∀ a ∈ (PT.row .sto).encA (fun _ => s), OkA a) : s.recs.length * 128 ≤ 140737488355328 := okB (h _ (.tail _ (.tail _ (.tail _ (.tail _ (.tail _ (.tail _ (.tail _ (.head _)))))))))
theorem b6f : b8 Tryz.prog 153 a0U := j6 j4 (ss := [(42, M9)]) ⟨a3o, trivial⟩ rfl rfl <| by
 intro (bs : Th (List Int)) (p : Th Int) ⟨(s : Th Sto), u⟩ K _ _ ho h
 obtain ⟨s, rfl⟩ := b6 s
 have hrl := okStoL ho.1
 refine ⟨noAnn, noAnn, 20, ?_⟩
 cbv
 repeat' first | ((with_reducible intro _); cbv) | (with_reducible refine And.intro ?_ ?_)
 all_goals first | (refine retK h ?_; clear h; simp only [fin0]) | (with_reducible refine Ob.mk ?_; clear h) | (clear h)
 all_goals (try simp only [eta0, RT.bytes] at *)
 all_goals grind
theorem a5Y : b8 Tryz.prog 178 a0U := j6 j4 (ss := [(51, M9)]) ⟨a0A, trivial⟩ rfl rfl <| by
 intro (bs : Th (List Int)) (p : Th Int) ⟨(s : Th Sto), u⟩ K _ _ ho h
 obtain ⟨s, rfl⟩ := b6 s
 have hrl := okStoL ho.1
 refine ⟨noAnn, noAnn, 20, ?_⟩
 cbv
 repeat' first | ((with_reducible intro _); cbv) | (with_reducible refine And.intro ?_ ?_)
 all_goals first | (refine retK h ?_; clear h; simp only [fin0]) | (with_reducible refine Ob.mk ?_; clear h) | (clear h)
 all_goals (try simp only [eta0, RT.bytes] at *)
 all_goals grind
theorem okStoOk : b8 Tryz.prog 79 a2j := j6 j4 (ss := [(39, sIn), (40, a1n), (41, b9X)]) ⟨okIn, b3L, b8p, trivial⟩ rfl rfl <| by
 intro (bs : Th (List Int)) (p : Th Int) ⟨(m : Th PMap), (s : Th Sto), u⟩ K _ _ ho h
 obtain ⟨m, rfl⟩ := b6 m; obtain ⟨s, rfl⟩ := b6 s
 have hso := @s8 m s
 refine ⟨noAnn, noAnn, 20, ?_⟩
 cbv
 repeat' first | ((with_reducible intro _); cbv) | (with_reducible refine And.intro ?_ ?_)
 all_goals first | (refine retK h ?_; clear h; simp only [fin0]) | (with_reducible refine Ob.mk ?_; clear h) | (clear h)
 all_goals (try simp only [eta0, RT.bytes] at *)
 all_goals grind [inR]
theorem a1L : b8 Tryz.prog 141 a2j := j6 j4 (ss := [(110, sIn), (50, a1n), (17, a1E)]) ⟨G8, a3m, a0z, trivial⟩ rfl rfl <| by
 intro (bs : Th (List Int)) (p : Th Int) ⟨(m : Th PMap), (s : Th Sto), u⟩ K _ _ ho h
 obtain ⟨m, rfl⟩ := b6 m; obtain ⟨s, rfl⟩ := b6 s
 have hso := @s8 m s
 refine ⟨noAnn, noAnn, 20, ?_⟩
 cbv
 repeat' first | ((with_reducible intro _); cbv) | (with_reducible refine And.intro ?_ ?_)
 all_goals first | (refine retK h ?_; clear h; simp only [fin0]) | (with_reducible refine Ob.mk ?_; clear h) | (clear h)
 all_goals (try simp only [eta0, RT.bytes] at *)
 all_goals grind [inR, y6]
theorem c0w : b8 Tryz.prog 228 b7H := j6 j4 (ss := [(41, b9X)]) ⟨b8p, trivial⟩ rfl rfl <| by
 intro (bs : Th (List Int)) (p : Th Int) ⟨(s : Th Sto), (m : Th PMap), u⟩ K _ _ ho h
 obtain ⟨s, rfl⟩ := b6 s; obtain ⟨m, rfl⟩ := b6 m
 obtain ⟨hpre, h⟩ := h
 have hpre := s8.1 hpre.out
 refine ⟨noAnn, noAnn, 20, ?_⟩
 cbv
 repeat' first | ((with_reducible intro _); cbv) | (with_reducible refine And.intro ?_ ?_)
 all_goals first | (refine retK h ?_; clear h; simp only [fin0]) | (with_reducible refine Ob.mk ?_; clear h) | (clear h)
 all_goals (try simp only [eta0, RT.bytes] at *)
 all_goals grind [q9]
theorem b5R : b8 Tryz.prog 235 b1z := j6 j4 (ss := [(141, a2j), (17, a1E)]) ⟨a1L, a0z, trivial⟩ rfl rfl <| by
 intro (bs : Th (List Int)) (p : Th Int) ⟨(m : Th PMap), (s : Th Sto), u⟩ K _ _ ho h
 obtain ⟨m, rfl⟩ := b6 m; obtain ⟨s, rfl⟩ := b6 s
 have hso := @s8 m s
 refine ⟨noAnn, noAnn, 20, ?_⟩
 cbv
 repeat' first | ((with_reducible intro _); cbv) | (with_reducible refine And.intro ?_ ?_)
 all_goals first | (refine retK h ?_; clear h; simp only [fin0]) | (with_reducible refine Ob.mk ?_; clear h) | (clear h)
 all_goals (try simp only [eta0, RT.bytes] at *)
 all_goals grind [W3, q9, P7, y6]
theorem b5S : b8 Tryz.prog 234 b1A := j6 j4 (ss := [(141, a2j), (110, sIn), (178, a0U)]) ⟨a1L, G8, a5Y, trivial⟩ rfl rfl <| by
 intro (bs : Th (List Int)) (p : Th Int) ⟨(m : Th PMap), (s : Th Sto), (a : Th Int), u⟩ K _ _ ho h
 obtain ⟨m, rfl⟩ := b6 m; obtain ⟨s, rfl⟩ := b6 s; obtain ⟨a, rfl⟩ := b6 a
 refine ⟨noAnn, noAnn, 20, ?_⟩
 cbv
 repeat' first | ((with_reducible intro _); cbv) | (with_reducible refine And.intro ?_ ?_)
 all_goals first | (refine retK h ?_; clear h; simp only [fin0]) | (with_reducible refine Ob.mk ?_; clear h) | (clear h)
 all_goals (try simp only [eta0, RT.bytes] at *)
 all_goals grind [Q0, Y4, P7, inR]
theorem b3D : b8 Tryz.prog 236 a9d := j6 j4 (ss := [(141, a2j), (178, a0U), (17, a1E), (52, a5y)]) ⟨a1L, a5Y, a0z, a7o, trivial⟩ rfl rfl <| by
 intro (bs : Th (List Int)) (p : Th Int) ⟨(m : Th PMap), (s : Th Sto), (a : Th Int), (b : Th Int), (r : Th Sx.Rec), u⟩ K _ _ ho h
 obtain ⟨m, rfl⟩ := b6 m; obtain ⟨s, rfl⟩ := b6 s; obtain ⟨a, rfl⟩ := b6 a; obtain ⟨b, rfl⟩ := b6 b; obtain ⟨r, rfl⟩ := b6 r
 have hso := @s8 m s
 have hst := @a2V m s
 refine ⟨noAnn, noAnn, 20, ?_⟩
 cbv
 repeat' first | ((with_reducible intro _); cbv) | (with_reducible refine And.intro ?_ ?_)
 all_goals first | (refine retK h ?_; clear h; simp only [fin0]) | (with_reducible refine Ob.mk ?_; clear h) | (clear h)
 all_goals (try simp only [eta0, RT.bytes] at *)
 all_goals grind [u9, H4, q9, Y4, P7, y6, K4]
def nHld : List (Option RT) := [none, none, none, some .wlk, none, some .pcls, some .int, some .int]
noncomputable def a3T : Sx.Spec := ⟨false, true, [.row .hld], [nHld], fun _ _ ⟨h, _⟩ => .ret (oHld h, fun _ => 0)⟩
noncomputable def a7c : Sx.Spec := ⟨false, true, [.map, .row .hld], [], fun _ _ ⟨m, h, _⟩ => .ret (vB fun _ => O1 (m ()) (h ()), fun _ => 0)⟩
noncomputable def b5j : Sx.Spec := ⟨false, true, [.map, .row .sto, .int .i64], [nHld, nSto, [none]], fun _ _ ⟨m, s, a, _⟩ => .ret (.tup [oHld fun _ => (U6 (m ()) (s ()) (a ())).h, oSto fun _ => (U6 (m ()) (s ()) (a ())).s, vB fun _ => (U6 (m ()) (s ()) (a ())).ok], fun _ => 0)⟩
noncomputable def b1F : Sx.Spec := ⟨false, true, [.map, .row .hld, .row .sto, .row .rcd], [nHld, nSto, [none], [none]], fun _ _ ⟨m, h, s, r, _⟩ => .ret (.tup [oHld fun _ => (s7 (m ()) (h ()) (s ()) (r ())).h, oSto fun _ => (s7 (m ()) (h ()) (s ()) (r ())).s, vI fun _ => (s7 (m ()) (h ()) (s ()) (r ())).n, vI fun _ => (s7 (m ()) (h ()) (s ()) (r ())).k], fun _ => 0)⟩
theorem okCloneH : b8 Tryz.prog 155 a3T := j6 j4 (ss := [(42, M9)]) ⟨a3o, trivial⟩ rfl rfl <| by
 intro (bs : Th (List Int)) (p : Th Int) ⟨(g : Th Hld), u⟩ K _ _ ho h
 obtain ⟨g, rfl⟩ := b6 g
 refine ⟨noAnn, noAnn, 20, ?_⟩
 cbv
 repeat' first | ((with_reducible intro _); cbv) | (with_reducible refine And.intro ?_ ?_)
 all_goals first | (refine retK h ?_; clear h; simp only [fin0]) | (with_reducible refine Ob.mk ?_; clear h) | (clear h)
 all_goals (try simp only [eta0, RT.bytes] at *)
 all_goals grind
theorem okHldOk : b8 Tryz.prog 82 a7c := j6 j4 (ss := [(39, sIn), (40, a1n)]) ⟨okIn, b3L, trivial⟩ rfl rfl <| by
 intro (bs : Th (List Int)) (p : Th Int) ⟨(m : Th PMap), (g : Th Hld), u⟩ K _ _ ho h
 obtain ⟨m, rfl⟩ := b6 m; obtain ⟨g, rfl⟩ := b6 g
 have hso := @y0 m g
 refine ⟨noAnn, noAnn, 20, ?_⟩
 cbv
 repeat' first | ((with_reducible intro _); cbv) | (with_reducible refine And.intro ?_ ?_)
 all_goals first | (refine retK h ?_; clear h; simp only [fin0]) | (with_reducible refine Ob.mk ?_; clear h) | (clear h)
 all_goals (try simp only [eta0, RT.bytes] at *)
 all_goals grind [inR]
theorem b8a {m : PMap} {s : Sto} {a : Int} (h : y4 m s = true) (h1 : 1 ≤ a) (h2 : a ≤ 900) : ((Q0 m s a).ok = false → U6 m s a = ⟨a2G, (Q0 m s a).s, false⟩) ∧
  ((Q0 m s a).ok = true → U6 m s a = ⟨⟨a, (Q0 m s a).s.recs.length, W3 m (Q0 m s a).s⟩, (Q0 m s a).s, true⟩) := by
 have hc : y4 m s = true ∧ 0 ≤ a ∧ a ≤ 900 := ⟨h, by omega, h2⟩
 have ha := age_ok h (a := a) (by omega) h2
 unfold Q0 U6
 have hd : y4 m s = true ∧ 1 ≤ a ∧ a ≤ 900 := ⟨h, h1, h2⟩
 rw [if_pos hc, if_pos hd]
 by_cases hl : a < s.age
 ·rw [if_pos hl]
  exact ⟨fun _ => (by first | rw [if_pos hl] | rfl), fun hh => by cases hh⟩
 ·rw [if_neg hl]
  refine ⟨fun hh => (by cases hh), fun _ => ?_⟩
  first
   | rw [if_neg hl, ha.2, b2Z h]
   | rw [ha.2, b2Z h]
theorem c1I {m : PMap} {g : Hld} {s : Sto} {r : Sx.Rec} (hg : O1 m g = true) (hs : y4 m s = true) :
  (¬ (u9 m s g.age g.count r).n = 1 → s7 m g s r = ⟨g, s, (u9 m s g.age g.count r).n, 0⟩ ∧ (u9 m s g.age g.count r).s = s) ∧
  ((u9 m s g.age g.count r).n = 1 → (G0 m g.state r).ok = false → s7 m g s r = ⟨g, s, 4, 0⟩) ∧
  ((u9 m s g.age g.count r).n = 1 → (G0 m g.state r).ok = true → s7 m g s r = ⟨⟨g.age, g.count + 1, (G0 m g.state r).c⟩, (u9 m s g.age g.count r).s, 1, (G0 m g.state r).code⟩) ∧ (-10 ≤ g.count ∧ g.count ≤ 250) := by
 have hg2 := y0.1 hg
 have hno := @b9k m s g.age g.count r hs
 have hc : O1 m g = true ∧ y4 m s = true := ⟨hg, hs⟩
 refine ⟨fun hn => ⟨?_, hno hn⟩, fun hn ho => ?_, fun hn ho => ?_, by omega⟩
 ·rw [a0J hs] at hn ⊢
  rw [s7, if_pos hc, if_pos hn]
 ·rw [a0J hs] at hn
  have hl : D4 m r = true := by
   rcases a1Z m s g.age g.count r with ⟨_, h2⟩ | ⟨_, _, _, _, _, h6, _⟩
   ·omega
   ·exact h6
  rw [apX hg2.2.2 hl] at ho
  rw [s7, if_pos hc, if_neg (fun hh => hh hn), if_pos ho]
 ·rw [a0J hs] at hn ⊢
  have hl : D4 m r = true := by
   rcases a1Z m s g.age g.count r with ⟨_, h2⟩ | ⟨_, _, _, _, _, h6, _⟩
   ·omega
   ·exact h6
  rw [apX hg2.2.2 hl] at ho ⊢
  rw [s7, if_pos hc, if_neg (fun hh => hh hn), if_neg (by rw [ho]; decide)]
theorem b7s {m : PMap} {g : Hld} {s : Sto} {r : Sx.Rec} (h : O1 m g = false ∨ y4 m s = false) : s7 m g s r = ⟨a2G, Y4, 0, 0⟩ := by
 rw [s7, if_neg]
 rintro ⟨h1, h2⟩
 rcases h with h | h <;> simp_all
theorem okIsHold : b8 Tryz.prog 170 sIsH := j6 j4 (ss := [(18, sIsC)]) ⟨a9H, trivial⟩ rfl rfl <| by
 intro (bs : Th (List Int)) (p : Th Int) ⟨(a : Th Hld), (b : Th Hld), u⟩ K _ _ ho h
 obtain ⟨a, rfl⟩ := b6 a; obtain ⟨b, rfl⟩ := b6 b
 refine ⟨noAnn, noAnn, 20, ?_⟩
 cbv
 repeat' first | ((with_reducible intro _); cbv) | (with_reducible refine And.intro ?_ ?_)
 all_goals first | (refine retK h ?_; clear h; simp only [fin0]) | (with_reducible refine Ob.mk ?_; clear h) | (clear h)
 all_goals (try simp only [eta0, RT.bytes] at *)
 all_goals grind [hld_ext]
theorem a9C : b8 Tryz.prog 183 a7c := j6 j4 (ss := [(110, sIn), (50, a1n)]) ⟨G8, a3m, trivial⟩ rfl rfl <| by
 intro (bs : Th (List Int)) (p : Th Int) ⟨(m : Th PMap), (g : Th Hld), u⟩ K _ _ ho h
 obtain ⟨m, rfl⟩ := b6 m; obtain ⟨g, rfl⟩ := b6 g
 have hso := @y0 m g
 refine ⟨noAnn, noAnn, 20, ?_⟩
 cbv
 repeat' first | ((with_reducible intro _); cbv) | (with_reducible refine And.intro ?_ ?_)
 all_goals first | (refine retK h ?_; clear h; simp only [fin0]) | (with_reducible refine Ob.mk ?_; clear h) | (clear h)
 all_goals (try simp only [eta0, RT.bytes] at *)
 all_goals grind [inR]
theorem a9F : b8 Tryz.prog 179 a3T := j6 j4 (ss := [(51, M9)]) ⟨a0A, trivial⟩ rfl rfl <| by
 intro (bs : Th (List Int)) (p : Th Int) ⟨(g : Th Hld), u⟩ K _ _ ho h
 obtain ⟨g, rfl⟩ := b6 g
 refine ⟨noAnn, noAnn, 20, ?_⟩
 cbv
 repeat' first | ((with_reducible intro _); cbv) | (with_reducible refine And.intro ?_ ?_)
 all_goals first | (refine retK h ?_; clear h; simp only [fin0]) | (with_reducible refine Ob.mk ?_; clear h) | (clear h)
 all_goals (try simp only [eta0, RT.bytes] at *)
 all_goals grind
theorem b8h : b8 Tryz.prog 221 b5j := j6 j4 (ss := [(141, a2j), (110, sIn), (234, b1A), (235, b1z)]) ⟨a1L, G8, b5S, b5R, trivial⟩ rfl rfl <| by
 intro (bs : Th (List Int)) (p : Th Int) ⟨(m : Th PMap), (s : Th Sto), (a : Th Int), u⟩ K _ _ ho h
 obtain ⟨m, rfl⟩ := b6 m; obtain ⟨s, rfl⟩ := b6 s; obtain ⟨a, rfl⟩ := b6 a
 have hop := @b8a m s a
 have hb1 : y4 m s = false → U6 m s a = ⟨a2G, Y4, false⟩ := fun hh => by
  rw [U6, if_neg (fun h3 => by simp_all)]
 have hb2 : inR a 1 900 = false → U6 m s a = ⟨a2G, Y4, false⟩ := fun hh => by
  simp only [inR, decide_eq_false_iff_not] at hh
  rw [U6, if_neg (fun h3 => hh h3.2)]
 have hb3 : inR a 1 900 = true → 1 ≤ a ∧ a ≤ 900 := fun hh => by simpa [inR] using hh
 refine ⟨noAnn, noAnn, 20, ?_⟩
 cbv
 repeat' first | ((with_reducible intro _); cbv) | (with_reducible refine And.intro ?_ ?_)
 all_goals first | (refine retK h ?_; clear h; simp only [fin0]) | (with_reducible refine Ob.mk ?_; clear h) | (clear h)
 all_goals (try simp only [eta0, RT.bytes] at *)
 all_goals grind [Y4, P7, a2G]
theorem b5V : b8 Tryz.prog 224 b1F := j6 j4 (ss := [(183, a7c), (141, a2j), (236, a9d), (179, a3T), (58, a7b), (178, a0U)]) ⟨a9C, a1L, b3D, a9F, a8d, a5Y, trivial⟩ rfl rfl <| by
 intro (bs : Th (List Int)) (p : Th Int) ⟨(m : Th PMap), (g : Th Hld), (s : Th Sto), (r : Th Sx.Rec), u⟩ K _ _ ho h
 obtain ⟨m, rfl⟩ := b6 m; obtain ⟨g, rfl⟩ := b6 g; obtain ⟨s, rfl⟩ := b6 s; obtain ⟨r, rfl⟩ := b6 r
 have hw := @c1I m g s r
 have hz := @b7s m g s r
 refine ⟨noAnn, noAnn, 20, ?_⟩
 cbv
 repeat' first | ((with_reducible intro _); cbv) | (with_reducible refine And.intro ?_ ?_)
 all_goals first | (refine retK h ?_; clear h; simp only [fin0]) | (with_reducible refine Ob.mk ?_; clear h) | (clear h)
 all_goals (try simp only [eta0, RT.bytes] at *)
 all_goals grind [Y4, P7, a2G, b9]
end Go.Proofs.YtkclfaldmghkeaaGreat
