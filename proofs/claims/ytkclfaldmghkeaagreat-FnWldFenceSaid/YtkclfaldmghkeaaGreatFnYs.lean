/-
  Contracts: records.
-/
import Derived.Test.YtkclfaldmghkeaaGreatFnD
import Derived.Test.YtkclfaldmghkeaaGreatM1
import Derived.Test.YtkclfaldmghkeaaGreatFnJ
import Derived.Test.YtkclfaldmghkeaaGreatFnFb
import Derived.Test.YtkclfaldmghkeaaGreatGnJ
import Derived.Test.YtkclfaldmghkeaaGreatM2
set_option linter.unusedVariables false
set_option linter.unusedSimpArgs false
set_option maxRecDepth 100000
set_option maxHeartbeats 16000000
namespace Go.Proofs.YtkclfaldmghkeaaGreat
open Go.Sx Go.Proofs Go.Mo
noncomputable def b9W : Sx.Spec := ⟨false, true, [.row .rcd], [], fun _ _ ⟨r, _⟩ => .ret (vB fun _ => a3V (r ()), fun _ => 0)⟩
noncomputable def a7a : Sx.Spec := ⟨false, true, [.map, .row .rcd], [], fun _ _ ⟨m, r, _⟩ => .ret (vB fun _ => D4 (m ()) (r ()), fun _ => 0)⟩
noncomputable def a7d : Sx.Spec := ⟨false, true, [.row .cll, .ord], [], fun _ _ ⟨c, o, _⟩ => .ret (vB fun _ => K3 (c ()) (o ()), fun _ => 0)⟩
theorem okFormed : b8 Tryz.prog 148 b9W := j6 j4 (ss := [(81, a1m), (145, a8B), (39, sIn)]) ⟨a8G, a9G, okIn, trivial⟩ rfl rfl <| by
 intro (bs : Th (List Int)) (p : Th Int) ⟨(r : Th Sx.Rec), u⟩ K _ _ ho h
 obtain ⟨r, rfl⟩ := b6 r
 refine ⟨noAnn, noAnn, 20, ?_⟩
 cbv
 repeat' first | ((with_reducible intro _); cbv) | (with_reducible refine And.intro ?_ ?_)
 all_goals first | (refine retK h ?_; clear h; simp only [fin0]) | (with_reducible refine Ob.mk ?_; clear h) | (clear h)
 all_goals (try simp only [eta0, RT.bytes] at *)
 all_goals have hrf := @M1 r
 all_goals grind [inR]
theorem c0y : b8 Tryz.prog 90 a7a := j6 j4 (ss := [(47, B8), (148, b9W), (86, a2Y)]) ⟨Q8, okFormed, b3F, trivial⟩ rfl rfl <| by
 intro (bs : Th (List Int)) (p : Th Int) ⟨(m : Th PMap), (r : Th Sx.Rec), u⟩ K _ _ ho h
 obtain ⟨m, rfl⟩ := b6 m; obtain ⟨r, rfl⟩ := b6 r
 refine ⟨noAnn, noAnn, 20, ?_⟩
 cbv
 repeat' first | ((with_reducible intro _); cbv) | (with_reducible refine And.intro ?_ ?_)
 all_goals first | (refine retK h ?_; clear h; simp only [fin0]) | (with_reducible refine Ob.mk ?_; clear h) | (clear h)
 all_goals (try simp only [eta0, RT.bytes] at *)
 all_goals grind [D4]
theorem b5T : b8 Tryz.prog 115 a7a := j6 j4 (ss := [(72, B8), (164, a1m), (110, sIn), (165, a2Y)]) ⟨F3, a5W, G8, a9A, trivial⟩ rfl rfl <| by
 intro (bs : Th (List Int)) (p : Th Int) ⟨(m : Th PMap), (r : Th Sx.Rec), u⟩ K _ _ ho h
 obtain ⟨m, rfl⟩ := b6 m; obtain ⟨r, rfl⟩ := b6 r
 have hpp := @c2m m r.pcl
 refine ⟨noAnn, noAnn, 20, ?_⟩
 cbv
 repeat' first | ((with_reducible intro _); cbv) | (with_reducible refine And.intro ?_ ?_)
 all_goals first | (refine retK h ?_; clear h; simp only [fin0]) | (with_reducible refine Ob.mk ?_; clear h) | (clear h)
 all_goals (try simp only [eta0, RT.bytes] at *)
 all_goals have hrf := @M1 r
 all_goals grind [inR, D4]
theorem b3K : b8 Tryz.prog 149 a7d := j6 j4 (ss := [(13, T8)]) ⟨a7k, trivial⟩ rfl rfl <| by
 intro (bs : Th (List Int)) (p : Th Int) ⟨(c : Th Cll), (o : Th Sx.Ord), u⟩ K _ _ ho h
 obtain ⟨c, rfl⟩ := b6 c; obtain ⟨o, rfl⟩ := b6 o
 refine ⟨noAnn, noAnn, 20, ?_⟩
 cbv
 repeat' first | ((with_reducible intro _); cbv) | (with_reducible refine And.intro ?_ ?_)
 all_goals first | (refine retK h ?_; clear h; simp only [fin0]) | (with_reducible refine Ob.mk ?_; clear h) | (clear h)
 all_goals (try simp only [eta0, RT.bytes] at *)
 all_goals grind [K3]
theorem c2N : b8 Tryz.prog 117 a7d := j6 j4 (ss := [(166, T8)]) ⟨a2p, trivial⟩ rfl rfl <| by
 intro (bs : Th (List Int)) (p : Th Int) ⟨(c : Th Cll), (o : Th Sx.Ord), u⟩ K _ _ ho h
 obtain ⟨c, rfl⟩ := b6 c; obtain ⟨o, rfl⟩ := b6 o
 refine ⟨noAnn, noAnn, 20, ?_⟩
 cbv
 repeat' first | ((with_reducible intro _); cbv) | (with_reducible refine And.intro ?_ ?_)
 all_goals first | (refine retK h ?_; clear h; simp only [fin0]) | (with_reducible refine Ob.mk ?_; clear h) | (clear h)
 all_goals (try simp only [eta0, RT.bytes] at *)
 all_goals grind [K3]
noncomputable def sL5In : Sx.Spec := ⟨false, true, [.map, .row .cll, .int .i64, .row .pcl], [nCll, [none]], fun _ _ ⟨m, c, s, p, _⟩ => .asrt (fun _ => r7 (m ()) (c ()) = true ∧ I3 (m ()) (p ()) = true ∧ 0 ≤ s () ∧ s () < 2) (.ret (.tup [oCll fun _ => (s9 (m ()) (c ()) (s ()).toNat (p ())).c, vB fun _ => (s9 (m ()) (c ()) (s ()).toNat (p ())).ok], fun _ => 0))⟩
noncomputable def sL5Ack : Sx.Spec := ⟨false, true, [.row .cll, .int .i64, .int .i64], [nCll, [none]], fun _ _ ⟨c, s, n, _⟩ => .asrt (fun _ => 0 ≤ s () ∧ s () < 2 ∧ (c ()).outs.length = 2 ∧ (c ()).next.length = 2 ∧ 0 ≤ nth .int (c ()).next (s ()).toNat ∧ nth .int (c ()).next (s ()).toNat ≤ 5000) (.ret (.tup [oCll fun _ => (D6 (c ()) (s ()).toNat (n ())).c, vB fun _ => (D6 (c ()) (s ()).toNat (n ())).ok], fun _ => 0))⟩
noncomputable def a5y : Sx.Spec := ⟨false, true, [.map, .row .cll, .row .rcd], [nCll, [none], [none]], fun _ _ ⟨m, c, r, _⟩ => .asrt (fun _ => r7 (m ()) (c ()) = true) (.ret (.tup [oCll fun _ => (K4 (m ()) (c ()) (r ())).c, vI fun _ => (K4 (m ()) (c ()) (r ())).code, vB fun _ => (K4 (m ()) (c ()) (r ())).ok], fun _ => 0))⟩
noncomputable def a7b : Sx.Spec := ⟨false, true, [.map, .row .cll, .row .rcd], [nCll, [none], [none]], fun _ _ ⟨m, c, r, _⟩ => .ret (.tup [oCll fun _ => (G0 (m ()) (c ()) (r ())).c, vI fun _ => (G0 (m ()) (c ()) (r ())).code, vB fun _ => (G0 (m ()) (c ()) (r ())).ok], fun _ => 0)⟩
theorem okL5In : b8 Tryz.prog 119 sL5In := j6 j4 (ss := [(51, M9), (166, T8), (66, a0S), (112, D3)]) ⟨a0A, a2p, a7m, L5, trivial⟩ rfl rfl <| by
 intro (bs : Th (List Int)) (p : Th Int) ⟨(m : Th PMap), (c : Th Cll), (s : Th Int), (p : Th Pcl), u⟩ K _ _ ho h
 obtain ⟨m, rfl⟩ := b6 m; obtain ⟨c, rfl⟩ := b6 c; obtain ⟨s, rfl⟩ := b6 s; obtain ⟨p, rfl⟩ := b6 p
 obtain ⟨hpre, h⟩ := h
 have hpre : r7 m c = true ∧ I3 m p = true ∧ 0 ≤ s ∧ s < 2 := hpre.out
 refine ⟨noAnn, noAnn, 20, ?_⟩
 have hf := n0 hpre.1
 have hlen := X4 hpre.1
 have hsd := C5 hpre.1 (s := s.toNat) (by have := hpre.2.2; omega)
 have hpc : 0 ≤ p.n ∧ p.n ≤ 4999 ∧ (p.kind = 1 ∧ p.l7 = 0 ∨ p.kind = 2 ∧ 1 ≤ p.l7 ∧ p.l7 ≤ 9) := by
  have := hpre.2.1
  simp [I3] at this
  omega
 cbv
 repeat' first | ((with_reducible intro _); cbv) | (with_reducible refine And.intro ?_ ?_)
 all_goals first | (refine retK h ?_; clear h; simp only [fin0]) | (with_reducible refine Ob.mk ?_; clear h) | (clear h)
 all_goals (try simp only [eta0, RT.bytes] at *)
 all_goals grind [s9, C3, b9, b4c, B2]
theorem okL5Ack : b8 Tryz.prog 120 sL5Ack := j6 j4 (ss := [(51, M9), (168, a1D)]) ⟨a0A, b8g, trivial⟩ rfl rfl <| by
 intro (bs : Th (List Int)) (p : Th Int) ⟨(c : Th Cll), (s : Th Int), (n : Th Int), u⟩ K _ _ ho h
 obtain ⟨c, rfl⟩ := b6 c; obtain ⟨s, rfl⟩ := b6 s; obtain ⟨n, rfl⟩ := b6 n
 obtain ⟨hpre, h⟩ := h
 have hpre : 0 ≤ s ∧ s < 2 ∧ c.outs.length = 2 ∧ c.next.length = 2 ∧ 0 ≤ nth .int c.next s.toNat ∧ nth .int c.next s.toNat ≤ 5000 := hpre.out
 refine ⟨noAnn, noAnn, 20, ?_⟩
 obtain ⟨hw, hou, hoi, hn, hi, _, _⟩ := a9J ho.1
 have hoi := hoi s.toNat (by omega)
 cbv
 repeat' first | ((with_reducible intro _); cbv) | (with_reducible refine And.intro ?_ ?_)
 all_goals first | (refine retK h ?_; clear h; simp only [fin0]) | (with_reducible refine Ob.mk ?_; clear h) | (clear h)
 all_goals (try simp only [eta0, RT.bytes] at *)
 all_goals grind [D6, N0, b9, B2]
theorem a7o : b8 Tryz.prog 52 a5y := j6 j4 (ss := [(115, a7a), (116, E7), (51, M9), (117, a7d), (118, sL5Do), (119, sL5In), (120, sL5Ack)]) ⟨b5T, W5, a0A, c2N, okL5Do, okL5In, okL5Ack, trivial⟩ rfl rfl <| by
 intro (bs : Th (List Int)) (p : Th Int) ⟨(m : Th PMap), (c : Th Cll), (r : Th Sx.Rec), u⟩ K _ _ ho h
 obtain ⟨m, rfl⟩ := b6 m; obtain ⟨c, rfl⟩ := b6 c; obtain ⟨r, rfl⟩ := b6 r
 obtain ⟨hpre, h⟩ := h
 have hpre := hpre.out
 refine ⟨noAnn, noAnn, 20, ?_⟩
 have hf := n0 hpre
 have hps := @G7 m c.cell r.side
 have hrf := @M1 r
 have hsd := @C5 m c hpre
 cbv
 repeat' first | ((with_reducible intro _); cbv) | (with_reducible refine And.intro ?_ ?_)
 all_goals first | (refine retK h ?_; clear h; simp only [fin0]) | (with_reducible refine Ob.mk ?_; clear h) | (clear h)
 all_goals (try simp only [eta0, RT.bytes] at *)
 all_goals have hrn := @c0j m c r.side.toNat r.pcl
 all_goals have hln := @rel_no c r.side.toNat r.n
 all_goals grind [K4, j9, D4]
theorem a8d : b8 Tryz.prog 58 a7b := j6 j4 (ss := [(50, a1n), (115, a7a), (52, a5y)]) ⟨a3m, b5T, a7o, trivial⟩ rfl rfl <| by
 intro (bs : Th (List Int)) (p : Th Int) ⟨(m : Th PMap), (c : Th Cll), (r : Th Sx.Rec), u⟩ K _ _ ho h
 obtain ⟨m, rfl⟩ := b6 m; obtain ⟨c, rfl⟩ := b6 c; obtain ⟨r, rfl⟩ := b6 r
 refine ⟨noAnn, noAnn, 20, ?_⟩
 cbv
 repeat' first | ((with_reducible intro _); cbv) | (with_reducible refine And.intro ?_ ?_)
 all_goals first | (refine retK h ?_; clear h; simp only [fin0]) | (with_reducible refine Ob.mk ?_; clear h) | (clear h)
 all_goals (try simp only [eta0, RT.bytes] at *)
 all_goals grind [G0, K4, P7]
noncomputable def a1E : Sx.Spec := ⟨false, true, [.map, .row .cll, .list .rcd], [nCll, [none]], fun _ _ ⟨m, c, l, _⟩ => .ret (.tup [oCll fun _ => (y6 (m ()) (c ()) (l ())).c, vI fun _ => (y6 (m ()) (c ()) (l ())).n], fun _ => 0)⟩
theorem b9j {m : PMap} {c : Cll} {l : List Sx.Rec} {k : Nat} : (K4 m (r9 m c l k) (nth .rcd l k)).ok = H3 m c l k := by
 unfold K4 H3
 split <;> simp_all
theorem b7j {m : PMap} {c : Cll} {l : List Sx.Rec} {k : Nat} (h : (K4 m (r9 m c l k) (nth .rcd l k)).ok = true) : (K4 m (r9 m c l k) (nth .rcd l k)).c = r9 m c l (k + 1) := by
 unfold K4 at *
 split
 ·rw [K8]
 ·rename_i hh
  rw [if_neg hh] at h
  cases h
theorem b8z {m : PMap} {c : Cll} {l : List Sx.Rec} {k : Nat} (h : r7 m c = true) (hl : l.length ≤ 250) (hk : k < l.length) (ha : m4 k (H3 m c l) = true) (hf : H3 m c l k = false) : y6 m c l = ⟨r9 m c l k, k⟩ := by
 rw [y6, if_pos ⟨h, hl⟩, a0a, b6R hk ha hf]
theorem b6m {m : PMap} {c : Cll} {l : List Sx.Rec} {k : Nat} (h : r7 m c = true) (hl : l.length ≤ 250) (hk : k = l.length) (ha : m4 k (H3 m c l) = true) : y6 m c l = ⟨r9 m c l k, k⟩ := by
 rw [y6, if_pos ⟨h, hl⟩, a0a, a4e hk ha]
theorem b6l {m : PMap} {c : Cll} {l : List Sx.Rec} (h : r7 m c = false ∨ 250 < l.length) : y6 m c l = ⟨P7, 0⟩ := by
 rw [y6, if_neg]
 rintro ⟨h1, h2⟩
 rcases h with h | h
 ·rw [h] at h1
  cases h1
 ·omega
end Go.Proofs.YtkclfaldmghkeaaGreat
