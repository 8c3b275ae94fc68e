/-
  Contracts: records.
-/
import Derived.Test.YtkclfaldmghkeaaGreatFnD
import Derived.Test.YtkclfaldmghkeaaGreatM1
import Derived.Test.YtkclfaldmghkeaaGreatFnJ
import Derived.Test.YtkclfaldmghkeaaGreatFnFb
import Derived.Test.YtkclfaldmghkeaaGreatFnP
import Derived.Test.YtkclfaldmghkeaaGreatM3
set_option linter.unusedVariables false
set_option linter.unusedSimpArgs false
set_option maxRecDepth 100000
set_option maxHeartbeats 8000000
namespace Go.Proofs.YtkclfaldmghkeaaGreat
open Go.Sx Go.Proofs Go.Mo
noncomputable def b9a : Sx.Spec := ⟨false, true, [.row .rcd], [], fun _ _ ⟨r, _⟩ => .ret (vB fun _ => a3u (r ()), fun _ => 0)⟩
noncomputable def a6A : Sx.Spec := ⟨false, true, [.map, .row .rcd], [], fun _ _ ⟨m, r, _⟩ => .ret (vB fun _ => D1 (m ()) (r ()), fun _ => 0)⟩
noncomputable def a6D : Sx.Spec := ⟨false, true, [.row .cll, .ord], [], fun _ _ ⟨c, o, _⟩ => .ret (vB fun _ => J3 (c ()) (o ()), fun _ => 0)⟩
theorem c4F : b7 Tryz.prog 148 b9a := j8 j3 (ss := [(81, a0R), (145, a8a), (39, sIn)]) ⟨a8f, a9e, okIn, trivial⟩ rfl rfl <| by
 intro (bs : Th (List Int)) (p : Th Int) ⟨(r : Th Sx.Rec), u⟩ K _ _ ho h
 obtain ⟨r, rfl⟩ := a8 r
 refine ⟨noAnn, noAnn, 20, ?_⟩
 cbv
 repeat' first | ((with_reducible intro _); cbv) | (with_reducible refine And.intro ?_ ?_)
 all_goals first | (refine retK h ?_; clear h; simp only [fin0]) | (with_reducible refine Ob.mk ?_; clear h) | (clear h)
 all_goals (try simp only [eta0, RT.bytes] at *)
 all_goals have hrf := @L4 r
 all_goals grind [inR]
theorem b9C : b7 Tryz.prog 90 a6A := j8 j3 (ss := [(47, B6), (148, b9a), (86, a2C)]) ⟨S3, c4F, b2R, trivial⟩ rfl rfl <| by
 intro (bs : Th (List Int)) (p : Th Int) ⟨(m : Th PMap), (r : Th Sx.Rec), u⟩ K _ _ ho h
 obtain ⟨m, rfl⟩ := a8 m; obtain ⟨r, rfl⟩ := a8 r
 refine ⟨noAnn, noAnn, 20, ?_⟩
 cbv
 repeat' first | ((with_reducible intro _); cbv) | (with_reducible refine And.intro ?_ ?_)
 all_goals first | (refine retK h ?_; clear h; simp only [fin0]) | (with_reducible refine Ob.mk ?_; clear h) | (clear h)
 all_goals (try simp only [eta0, RT.bytes] at *)
 all_goals grind [D1]
theorem b5d : b7 Tryz.prog 115 a6A := j8 j3 (ss := [(72, B6), (164, a0R), (110, sIn), (165, a2C)]) ⟨E5, a5v, F9, a8Z, trivial⟩ rfl rfl <| by
 intro (bs : Th (List Int)) (p : Th Int) ⟨(m : Th PMap), (r : Th Sx.Rec), u⟩ K _ _ ho h
 obtain ⟨m, rfl⟩ := a8 m; obtain ⟨r, rfl⟩ := a8 r
 have hpp := @c1q m r.pcl
 refine ⟨noAnn, noAnn, 20, ?_⟩
 cbv
 repeat' first | ((with_reducible intro _); cbv) | (with_reducible refine And.intro ?_ ?_)
 all_goals first | (refine retK h ?_; clear h; simp only [fin0]) | (with_reducible refine Ob.mk ?_; clear h) | (clear h)
 all_goals (try simp only [eta0, RT.bytes] at *)
 all_goals have hrf := @L4 r
 all_goals grind [inR, D1]
theorem b2V : b7 Tryz.prog 149 a6D := j8 j3 (ss := [(13, X0)]) ⟨b1j, trivial⟩ rfl rfl <| by
 intro (bs : Th (List Int)) (p : Th Int) ⟨(c : Th Cll), (o : Th Sx.Ord), u⟩ K _ _ ho h
 obtain ⟨c, rfl⟩ := a8 c; obtain ⟨o, rfl⟩ := a8 o
 refine ⟨noAnn, noAnn, 20, ?_⟩
 cbv
 repeat' first | ((with_reducible intro _); cbv) | (with_reducible refine And.intro ?_ ?_)
 all_goals first | (refine retK h ?_; clear h; simp only [fin0]) | (with_reducible refine Ob.mk ?_; clear h) | (clear h)
 all_goals (try simp only [eta0, RT.bytes] at *)
 all_goals grind [J3]
theorem c1R : b7 Tryz.prog 117 a6D := j8 j3 (ss := [(166, X0)]) ⟨a1R, trivial⟩ rfl rfl <| by
 intro (bs : Th (List Int)) (p : Th Int) ⟨(c : Th Cll), (o : Th Sx.Ord), u⟩ K _ _ ho h
 obtain ⟨c, rfl⟩ := a8 c; obtain ⟨o, rfl⟩ := a8 o
 refine ⟨noAnn, noAnn, 20, ?_⟩
 cbv
 repeat' first | ((with_reducible intro _); cbv) | (with_reducible refine And.intro ?_ ?_)
 all_goals first | (refine retK h ?_; clear h; simp only [fin0]) | (with_reducible refine Ob.mk ?_; clear h) | (clear h)
 all_goals (try simp only [eta0, RT.bytes] at *)
 all_goals grind [J3]
noncomputable def sL5In : Sx.Spec := ⟨false, true, [.map, .row .cll, .int .i64, .row .pcl], [nCll, [none]], fun _ _ ⟨m, c, s, p, _⟩ => .asrt (fun _ => q9 (m ()) (c ()) = true ∧ H5 (m ()) (p ()) = true ∧ 0 ≤ s () ∧ s () < 2) (.ret (.tup [oCll fun _ => (s7 (m ()) (c ()) (s ()).toNat (p ())).c, vB fun _ => (s7 (m ()) (c ()) (s ()).toNat (p ())).ok], fun _ => 0))⟩
noncomputable def c3L : Sx.Spec := ⟨false, true, [.row .cll, .int .i64, .int .i64], [nCll, [none]], fun _ _ ⟨c, s, n, _⟩ => .asrt (fun _ => 0 ≤ s () ∧ s () < 2 ∧ (c ()).outs.length = 2 ∧ (c ()).next.length = 2 ∧ 0 ≤ nth .int (c ()).next (s ()).toNat ∧ nth .int (c ()).next (s ()).toNat ≤ 5000) (.ret (.tup [oCll fun _ => (D3 (c ()) (s ()).toNat (n ())).c, vB fun _ => (D3 (c ()) (s ()).toNat (n ())).ok], fun _ => 0))⟩
noncomputable def a4W : Sx.Spec := ⟨false, true, [.map, .row .cll, .row .rcd], [nCll, [none], [none]], fun _ _ ⟨m, c, r, _⟩ => .asrt (fun _ => q9 (m ()) (c ()) = true) (.ret (.tup [oCll fun _ => (J4 (m ()) (c ()) (r ())).c, vI fun _ => (J4 (m ()) (c ()) (r ())).code, vB fun _ => (J4 (m ()) (c ()) (r ())).ok], fun _ => 0))⟩
noncomputable def a6B : Sx.Spec := ⟨false, true, [.map, .row .cll, .row .rcd], [nCll, [none], [none]], fun _ _ ⟨m, c, r, _⟩ => .ret (.tup [oCll fun _ => (F5 (m ()) (c ()) (r ())).c, vI fun _ => (F5 (m ()) (c ()) (r ())).code, vB fun _ => (F5 (m ()) (c ()) (r ())).ok], fun _ => 0)⟩
theorem okL5In : b7 Tryz.prog 119 sL5In := j8 j3 (ss := [(51, O0), (166, X0), (66, a0x), (112, D0)]) ⟨a0h, a1R, a6K, K6, trivial⟩ rfl rfl <| by
 intro (bs : Th (List Int)) (p : Th Int) ⟨(m : Th PMap), (c : Th Cll), (s : Th Int), (p : Th Pcl), u⟩ K _ _ ho h
 obtain ⟨m, rfl⟩ := a8 m; obtain ⟨c, rfl⟩ := a8 c; obtain ⟨s, rfl⟩ := a8 s; obtain ⟨p, rfl⟩ := a8 p
 obtain ⟨hpre, h⟩ := h
 have hpre : q9 m c = true ∧ H5 m p = true ∧ 0 ≤ s ∧ s < 2 := hpre.out
 refine ⟨noAnn, noAnn, 20, ?_⟩
 have hf := n6 hpre.1
 have hlen := V6 hpre.1
 have hsd := C2 hpre.1 (s := s.toNat) (by have := hpre.2.2; omega)
 have hpc : 0 ≤ p.n ∧ p.n ≤ 4999 ∧ (p.kind = 1 ∧ p.l7 = 0 ∨ p.kind = 2 ∧ 1 ≤ p.l7 ∧ p.l7 ≤ 9) := by
  have := hpre.2.1
  simp [H5] at this
  omega
 cbv
 repeat' first | ((with_reducible intro _); cbv) | (with_reducible refine And.intro ?_ ?_)
 all_goals first | (refine retK h ?_; clear h; simp only [fin0]) | (with_reducible refine Ob.mk ?_; clear h) | (clear h)
 all_goals (try simp only [eta0, RT.bytes] at *)
 all_goals grind [s7, C0, e8, b3m, B5]
theorem c7A : b7 Tryz.prog 120 c3L := j8 j3 (ss := [(51, O0), (168, a1i)]) ⟨a0h, b7o, trivial⟩ rfl rfl <| by
 intro (bs : Th (List Int)) (p : Th Int) ⟨(c : Th Cll), (s : Th Int), (n : Th Int), u⟩ K _ _ ho h
 obtain ⟨c, rfl⟩ := a8 c; obtain ⟨s, rfl⟩ := a8 s; obtain ⟨n, rfl⟩ := a8 n
 obtain ⟨hpre, h⟩ := h
 have hpre : 0 ≤ s ∧ s < 2 ∧ c.outs.length = 2 ∧ c.next.length = 2 ∧ 0 ≤ nth .int c.next s.toNat ∧ nth .int c.next s.toNat ≤ 5000 := hpre.out
 refine ⟨noAnn, noAnn, 20, ?_⟩
 obtain ⟨hw, hou, hoi, hn, hi, _, _⟩ := b1o ho.1
 have hoi := hoi s.toNat (by omega)
 cbv
 repeat' first | ((with_reducible intro _); cbv) | (with_reducible refine And.intro ?_ ?_)
 all_goals first | (refine retK h ?_; clear h; simp only [fin0]) | (with_reducible refine Ob.mk ?_; clear h) | (clear h)
 all_goals (try simp only [eta0, RT.bytes] at *)
 all_goals grind [D3, M1, e8, B5]
theorem a6M : b7 Tryz.prog 52 a4W := j8 j3 (ss := [(115, a6A), (116, E2), (51, O0), (117, a6D), (118, sL5Do), (119, sL5In), (120, c3L)]) ⟨b5d, U8, a0h, c1R, okL5Do, okL5In, c7A, trivial⟩ rfl rfl <| by
 intro (bs : Th (List Int)) (p : Th Int) ⟨(m : Th PMap), (c : Th Cll), (r : Th Sx.Rec), u⟩ K _ _ ho h
 obtain ⟨m, rfl⟩ := a8 m; obtain ⟨c, rfl⟩ := a8 c; obtain ⟨r, rfl⟩ := a8 r
 obtain ⟨hpre, h⟩ := h
 have hpre := hpre.out
 refine ⟨noAnn, noAnn, 20, ?_⟩
 have hf := n6 hpre
 have hps := @F8 m c.cell r.side
 have hrf := @L4 r
 have hsd := @C2 m c hpre
 cbv
 repeat' first | ((with_reducible intro _); cbv) | (with_reducible refine And.intro ?_ ?_)
 all_goals first | (refine retK h ?_; clear h; simp only [fin0]) | (with_reducible refine Ob.mk ?_; clear h) | (clear h)
 all_goals (try simp only [eta0, RT.bytes] at *)
 all_goals have hrn := @b9m m c r.side.toNat r.pcl
 all_goals have hln := @c3T c r.side.toNat r.n
 all_goals grind [J4, j7, D1]
theorem a7C : b7 Tryz.prog 58 a6B := j8 j3 (ss := [(50, a1N), (115, a6A), (52, a4W)]) ⟨a2Q, b5d, a6M, trivial⟩ rfl rfl <| by
 intro (bs : Th (List Int)) (p : Th Int) ⟨(m : Th PMap), (c : Th Cll), (r : Th Sx.Rec), u⟩ K _ _ ho h
 obtain ⟨m, rfl⟩ := a8 m; obtain ⟨c, rfl⟩ := a8 c; obtain ⟨r, rfl⟩ := a8 r
 refine ⟨noAnn, noAnn, 20, ?_⟩
 cbv
 repeat' first | ((with_reducible intro _); cbv) | (with_reducible refine And.intro ?_ ?_)
 all_goals first | (refine retK h ?_; clear h; simp only [fin0]) | (with_reducible refine Ob.mk ?_; clear h) | (clear h)
 all_goals (try simp only [eta0, RT.bytes] at *)
 all_goals grind [F5, J4, O7]
theorem a3U (n : Nat) : (NatCast.natCast n : Int) = (n : Int) := rfl
theorem tmw {a n : Int} (ha : 0 ≤ a) (hb : a ≤ 1000000000000000) (hn : 1 ≤ n) : 0 ≤ (IntKind.i64.wrap (a + 1)).tmod n ∧ (IntKind.i64.wrap (a + 1)).tmod n < n := by
 rw [e8 (by omega) (by omega)]
 exact tm (by omega) hn
noncomputable def b6c (p : Th Int) (pre : Th Prop) (B n : Int) : Rn (V × Th Int) :=   .asrt (fun _ => pre () ∧ 0 ≤ p () ∧ p () ≤ B) (.all Int fun x0 => .all Int fun x1 => .all Int fun x2 => .all Int fun x3 => .all Int fun x4 => .all Int fun q => .asm (fun _ => p () ≤ q ∧ q ≤ p () + n) (.ret (.agg [cI x0, cI x1, cI x2, cI x3, cI x4], fun _ => q)))
noncomputable def b9g : Sx.Spec := ⟨true, false, [.row .wld], [], fun _ p ⟨w, _⟩ => b6c p (fun _ => True) 999000001000 40⟩
noncomputable def b9b : Sx.Spec := ⟨true, false, [.row .wld], [], fun _ p ⟨w, _⟩ => b6c p (fun _ => True) 999000000000 60⟩
noncomputable def b8O : Sx.Spec := ⟨true, false, [.row .wld, .int .i64, .int .i64], [], fun _ p ⟨w, _⟩ => b6c p (fun _ => True) 999000000000 60⟩
noncomputable def c3K : Sx.Spec := ⟨true, false, [.row .wld, .int .i64], [], fun _ p ⟨w, _⟩ => b6c p (fun _ => (w ()).rows.length ≤ 20 ∧ 1 ≤ (w ()).servers.length) 999000000000 100⟩
noncomputable def b4q : Sx.Spec := ⟨true, false, [.row .wld, .int .i64], [], fun _ p ⟨w, _⟩ => b6c p (fun _ => (w ()).stores.length ≤ 20) 999000000000 100⟩
theorem b7w : b7 Tryz.prog 139 b9g := j8 j3 (ss := [(181, c3I), (27, a3N)]) ⟨c7w, a1S, trivial⟩ rfl rfl <| by
 intro (bs : Th (List Int)) (p : Th Int) ⟨(w : Th Wld), u⟩ K hb hp0 ho h
 obtain ⟨w, rfl⟩ := a8 w; obtain ⟨bs, rfl⟩ := a8 bs; obtain ⟨p, rfl⟩ := a8 p
 obtain ⟨hpre, h⟩ := h
 have hpre : True ∧ 0 ≤ p ∧ p ≤ 999000001000 := hpre.out
 have hl := okL (ho.1 _ (.tail _ (.tail _ (.tail _ (.tail _ (.tail _ (.tail _ (.head _))))))))
 refine ⟨noAnn, noAnn, 20, ?_⟩
 cbv
 repeat' first | ((with_reducible intro _); cbv) | (with_reducible refine And.intro ?_ ?_)
 all_goals first | (refine retK (h _ _ _ _ _ _ ?_) rfl; clear h) | (with_reducible refine Ob.mk ?_; clear h) | (clear h)
 all_goals (try simp only [eta0, RT.bytes] at *)
 all_goals first | omega | grind [e8]
theorem c4p : b7 Tryz.prog 70 b8O := j8 j3 (ss := [(27, a3N)]) ⟨a1S, trivial⟩ rfl rfl <| by
 intro (bs : Th (List Int)) (p : Th Int) ⟨(w : Th Wld), (k : Th Int), (what : Th Int), u⟩ K hb hp0 ho h
 obtain ⟨w, rfl⟩ := a8 w; obtain ⟨k, rfl⟩ := a8 k; obtain ⟨what, rfl⟩ := a8 what; obtain ⟨bs, rfl⟩ := a8 bs; obtain ⟨p, rfl⟩ := a8 p
 obtain ⟨hpre, h⟩ := h
 have hpre : True ∧ 0 ≤ p ∧ p ≤ 999000000000 := hpre.out
 refine ⟨noAnn, noAnn, 20, ?_⟩
 cbv
 repeat' first | ((with_reducible intro _); cbv) | (with_reducible refine And.intro ?_ ?_)
 all_goals first | (refine retK (h _ _ _ _ _ _ ?_) rfl; clear h) | (with_reducible refine Ob.mk ?_; clear h) | (clear h)
 all_goals (try simp only [eta0, RT.bytes] at *)
 all_goals first | omega | grind [e8]
theorem c7z : b7 Tryz.prog 69 c3K := j8 j3 (ss := [(27, a3N), (139, b9g), (140, I1)]) ⟨a1S, b7w, S1, trivial⟩ rfl rfl <| by
 intro (bs : Th (List Int)) (p : Th Int) ⟨(w : Th Wld), (k : Th Int), u⟩ K hb hp0 ho h
 obtain ⟨w, rfl⟩ := a8 w; obtain ⟨k, rfl⟩ := a8 k; obtain ⟨bs, rfl⟩ := a8 bs; obtain ⟨p, rfl⟩ := a8 p
 obtain ⟨hpre, h⟩ := h
 have hpre : (w.rows.length ≤ 20 ∧ 1 ≤ w.servers.length) ∧ 0 ≤ p ∧ p ≤ 999000000000 := hpre.out
 have hl := okL (ho.1 _ (.tail _ (.tail _ (.tail _ (.tail _ (.tail _ (.tail _ (.tail _ (.head _)))))))))
 refine ⟨annL [(69, 3, ⟨Th Int × Th Row × Th Int, [], fun σ g => ((σ.t 8 (.one (.att (.int .i64 g.1)))).b0d 8 0 (a9O g.2.1)).E7 0 1 (.att (.int .i64 g.2.2)),
   fun _ g _ => Ob fun _ => 0 ≤ g.1 () ∧ g.1 () ≤ w.rows.length ∧ p ≤ g.2.2 () ∧ g.2.2 () ≤ p + g.1 (), fun _ g _ => w.rows.length - (g.1 ()).toNat⟩),
  (69, 19, ⟨Th Int × Th Bool, [], fun σ g => σ.t 9 (.one (.att (.int .i64 g.1))), fun _ g _ => Ob fun _ => 0 ≤ g.1 () ∧ g.1 () ≤ w.net.length, fun _ g _ => w.net.length - (g.1 ()).toNat⟩)], noAnn, 20, ?_⟩
 cbv
 repeat' first | ((with_reducible refine fun (g : Th Int × Th Row × Th Int) => ?_); obtain ⟨i, r, q⟩ := g; obtain ⟨i, rfl⟩ := a8 i; obtain ⟨r, rfl⟩ := a8 r; obtain ⟨q, rfl⟩ := a8 q; (with_reducible refine ImpB.out ?_); cbv; (with_reducible refine ImpB.mk ?_); intro hq; obtain ⟨hq⟩ := hq) | ((with_reducible refine fun (g : Th Int × Th Bool) => ?_); obtain ⟨j, z⟩ := g; obtain ⟨j, rfl⟩ := a8 j; obtain ⟨z, rfl⟩ := a8 z; (with_reducible refine ImpB.out ?_); cbv; (with_reducible refine ImpB.mk ?_); intro hq; obtain ⟨hq⟩ := hq) | ((with_reducible intro _); cbv) | (with_reducible refine And.intro ?_ ?_)
 all_goals try ((first | (with_reducible refine LoopIn.wf (fun σ => (σ.tmI 8, rdRow σ 8, asI (σ.ce 0 1))) ?_ ?_) | (with_reducible refine LoopBack.wf (fun σ => (σ.tmI 8, rdRow σ 8, asI (σ.ce 0 1))) ?_ ?_ ?_) | (with_reducible refine LoopIn.wf (fun σ => (σ.tmI 9, A4)) ?_ ?_) | (with_reducible refine LoopBack.wf (fun σ => (σ.tmI 9, A4)) ?_ ?_ ?_)) <;> cbv)
 all_goals try (with_reducible show _ ∧ _; (try simp only [and_true, true_and]))
 all_goals try (repeat' with_reducible refine And.intro ?_ ?_)
 all_goals try (with_reducible refine MeasB.mk ?_)
 all_goals first | (refine retK (h _ _ _ _ _ _ ?_) rfl; clear h) | (with_reducible refine Ob.mk ?_; clear h) | (clear h)
 all_goals (try simp only [eta0, RT.bytes] at *)
 all_goals (first | rfl | omega | grind [e8, tm, tmw])
theorem c1Q : b7 Tryz.prog 71 b4q := j8 j3 (ss := [(139, b9g), (27, a3N), (140, I1)]) ⟨b7w, a1S, S1, trivial⟩ rfl rfl <| by
 intro (bs : Th (List Int)) (p : Th Int) ⟨(w : Th Wld), (k : Th Int), u⟩ K hb hp0 ho h
 obtain ⟨w, rfl⟩ := a8 w; obtain ⟨k, rfl⟩ := a8 k; obtain ⟨bs, rfl⟩ := a8 bs; obtain ⟨p, rfl⟩ := a8 p
 obtain ⟨hpre, h⟩ := h
 have hpre : w.stores.length ≤ 20 ∧ 0 ≤ p ∧ p ≤ 999000000000 := hpre.out
 have hl := okL (ho.1 _ (.tail _ (.tail _ (.tail _ (.tail _ (.tail _ (.tail _ (.head _))))))))
 refine ⟨annL [(71, 8, ⟨Th Int × Th Int, [], fun σ g => (σ.t 7 (.one (.att (.int .i64 g.1)))).t 8 (.one (.att (.int .i64 g.2))),
   fun _ g _ => Ob fun _ => 0 ≤ g.1 () ∧ g.1 () < w.rows.length ∧ 0 ≤ g.2 () ∧ g.2 () ≤ w.rows.length, fun _ g _ => w.rows.length - (g.2 ()).toNat⟩),
  (71, 16, ⟨Th Int × Th Int × Th Int, [], fun σ g => ((σ.t 9 (.one (.att (.int .i64 g.1)))).t 10 (.one (.att (.int .i64 g.2.1)))).E7 0 1 (.att (.int .i64 g.2.2)),
   fun _ g _ => Ob fun _ => 0 ≤ g.1 () ∧ (w.stores.length = 0 ∨ g.1 () < w.stores.length) ∧ 0 ≤ g.2.1 () ∧ g.2.1 () ≤ w.stores.length ∧ p ≤ g.2.2 () ∧ g.2.2 () ≤ p + 10 + g.2.1 (), fun _ g _ => w.stores.length - (g.2.1 ()).toNat⟩)], noAnn, 20, ?_⟩
 cbv
 repeat' first | ((with_reducible refine fun (g : Th Int × Th Int × Th Int) => ?_); obtain ⟨c, n, q⟩ := g; obtain ⟨c, rfl⟩ := a8 c; obtain ⟨n, rfl⟩ := a8 n; obtain ⟨q, rfl⟩ := a8 q; (with_reducible refine ImpB.out ?_); cbv; (with_reducible refine ImpB.mk ?_); intro hq; obtain ⟨hq⟩ := hq) | ((with_reducible refine fun (g : Th Int × Th Int) => ?_); obtain ⟨i, n⟩ := g; obtain ⟨i, rfl⟩ := a8 i; obtain ⟨n, rfl⟩ := a8 n; (with_reducible refine ImpB.out ?_); cbv; (with_reducible refine ImpB.mk ?_); intro hq; obtain ⟨hq⟩ := hq) | ((with_reducible intro _); cbv) | (with_reducible refine And.intro ?_ ?_)
 all_goals try ((first | (with_reducible refine LoopIn.wf (fun σ => (σ.tmI 9, σ.tmI 10, asI (σ.ce 0 1))) ?_ ?_) | (with_reducible refine LoopBack.wf (fun σ => (σ.tmI 9, σ.tmI 10, asI (σ.ce 0 1))) ?_ ?_ ?_) | (with_reducible refine LoopIn.wf (fun σ => (σ.tmI 7, σ.tmI 8)) ?_ ?_) | (with_reducible refine LoopBack.wf (fun σ => (σ.tmI 7, σ.tmI 8)) ?_ ?_ ?_)) <;> cbv)
 all_goals try (with_reducible show _ ∧ _; (try simp only [and_true, true_and]))
 all_goals try (repeat' with_reducible refine And.intro ?_ ?_)
 all_goals try (with_reducible refine MeasB.mk ?_)
 all_goals first | (refine retK (h _ _ _ _ _ _ ?_) rfl; clear h) | (with_reducible refine Ob.mk ?_; clear h) | (clear h)
 all_goals (try simp only [eta0, RT.bytes] at *)
 all_goals (try dsimp only [RT.ty] at *)
 all_goals (try simp only [a3U] at *)
 all_goals (first | rfl | omega | grind [e8] | (have hq2 := @tmw i w.rows.length (by omega) (by omega) (by omega); have hw := @e8 (n + 1) (by omega) (by omega); rw [hw]; exact ⟨hq2.1, hq2.2, by omega, by omega⟩) |
  (have hq2 := @tmw c w.stores.length (by omega) (by omega) (by omega); have hw := @e8 (n + 1) (by omega) (by omega); rw [hw]; exact ⟨hq2.1, .inr hq2.2, by omega, by omega, by omega, by omega⟩))
noncomputable def a3r : Sx.Spec := ⟨false, true, [.list .rcd, .int .i64, .int .i64], [], fun _ _ ⟨l, a, b, _⟩ => .ret (vI fun _ => (S4 (l ()) (a ()) (b ()) : Int), fun _ => 0)⟩
theorem b7r : b7 Tryz.prog 56 a3r := j8 j3 (ss := []) trivial rfl rfl <| by
 intro (bs : Th (List Int)) (p : Th Int) ⟨(l : Th (List Sx.Rec)), (a : Th Int), (b : Th Int), u⟩ K _ _ ho h
 obtain ⟨l, rfl⟩ := a8 l; obtain ⟨a, rfl⟩ := a8 a; obtain ⟨b, rfl⟩ := a8 b
 have hl := okL (ho.1 _ (.head _))
 have hz := a9Y l a b
 refine ⟨annL [(56, 3, ⟨Nat, [], fun σ k => (σ.t 12 (vI fun _ => (k : Int))).t 7 (vI fun _ => (a0l l a b k : Int)), fun _ k _ => k ≤ l.length, fun _ k _ => l.length - k⟩)], noAnn, 20, ?_⟩
 cbv
 repeat' first | ((with_reducible refine fun (k : Nat) => ?_); cbv) | ((with_reducible intro _); cbv) | (with_reducible refine And.intro ?_ ?_)
 all_goals try ((first | (with_reducible refine LoopIn.mk ((0 : Nat)) ?_ ?_) | (with_reducible refine LoopBack.mk ((k + 1 : Nat)) ?_ ?_ ?_)) )
 all_goals try ((with_reducible show m6 _ _); cbv; (try simp only [and_true, true_and]))
 all_goals try (repeat' with_reducible refine And.intro ?_ ?_)
 all_goals first | (refine retK h ?_; clear h; simp only [fin0]) | (with_reducible refine Ob.mk ?_; clear h) | (clear h)
 all_goals (try simp only [eta0, RT.bytes] at *)
 all_goals grind [a4z, a7f, a6b, j5, a7H]
theorem b5e : b7 Tryz.prog 57 a3r := j8 j3 (ss := []) trivial rfl rfl <| by
 intro (bs : Th (List Int)) (p : Th Int) ⟨(l : Th (List Sx.Rec)), (a : Th Int), (b : Th Int), u⟩ K _ _ ho h
 obtain ⟨l, rfl⟩ := a8 l; obtain ⟨a, rfl⟩ := a8 a; obtain ⟨b, rfl⟩ := a8 b
 have hl := okL (ho.1 _ (.head _))
 have hz := a9Y l a b
 refine ⟨annL [(57, 3, ⟨Nat, [], fun σ k => (σ.t 8 (vI fun _ => (k : Int))).t 7 (vI fun _ => (a0l l a b k : Int)), fun _ k _ => k ≤ l.length, fun _ k _ => l.length - k⟩)], noAnn, 20, ?_⟩
 cbv
 repeat' first | ((with_reducible refine fun (k : Nat) => ?_); cbv) | ((with_reducible intro _); cbv) | (with_reducible refine And.intro ?_ ?_)
 all_goals try ((first | (with_reducible refine LoopIn.mk ((0 : Nat)) ?_ ?_) | (with_reducible refine LoopBack.mk ((k + 1 : Nat)) ?_ ?_ ?_)) )
 all_goals try ((with_reducible show m6 _ _); cbv; (try simp only [and_true, true_and]))
 all_goals try (repeat' with_reducible refine And.intro ?_ ?_)
 all_goals first | (refine retK h ?_; clear h; simp only [fin0]) | (with_reducible refine Ob.mk ?_; clear h) | (clear h)
 all_goals (try simp only [eta0, RT.bytes] at *)
 all_goals grind [a4z, a7f, a6b, j5, a7H]
end Go.Proofs.YtkclfaldmghkeaaGreat
