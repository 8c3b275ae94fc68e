/-
  Contracts: a world in new memory, the reference's way.
-/
import Derived.Test.YtkclfaldmghkeaaGreatGrT
import Derived.Test.YtkclfaldmghkeaaGreatTok
import Derived.Test.YtkclfaldmghkeaaGreatS5
import Derived.Test.YtkclfaldmghkeaaGreatM3
import Derived.Test.YtkclfaldmghkeaaGreatGnB
import Derived.Test.YtkclfaldmghkeaaGreatS4f
set_option linter.unusedVariables false
set_option linter.unusedSimpArgs false
set_option maxRecDepth 100000
set_option maxHeartbeats 8000000
namespace Go.Proofs.YtkclfaldmghkeaaGreat
open Go.Sx Go.Proofs Go.Mo
noncomputable def nWld : List (Option RT) := [none, none, some .srv, some .sto, some .int, some .int, some .row, some .msg, some .note]
noncomputable def b2u : Sx.Spec := ⟨false, true, [.row .wld], [nWld], fun _ _ ⟨w, _⟩ => .ret (oWld w, fun _ => 0)⟩
theorem c1S : b7 Tryz.prog 65 b2u := j8 j3 (ss := [(131, a2E), (132, a3t), (133, a4Z)]) ⟨a7D, a6N, b1n, trivial⟩ rfl rfl <| by
 intro (bs : Th (List Int)) (p : Th Int) ⟨(w : Th Wld), u⟩ K _ _ ho h
 obtain ⟨w, rfl⟩ := a8 w
 have hb0 := okB (ho.1 _ (.tail _ (.tail _ (.head _))))
 have hb3 := okB (ho.1 _ (.tail _ (.tail _ (.tail _ (.tail _ (.head _))))))
 have hb4 := okB (ho.1 _ (.tail _ (.tail _ (.tail _ (.tail _ (.tail _ (.head _)))))))
 have hb6 := okB (ho.1 _ (.tail _ (.tail _ (.tail _ (.tail _ (.tail _ (.tail _ (.tail _ (.head _)))))))))
 have hb7 := okB (ho.1 _ (.tail _ (.tail _ (.tail _ (.tail _ (.tail _ (.tail _ (.tail _ (.tail _ (.head _))))))))))
 have hs := fun k => @H3 .srv w.servers k
 have hz := a0B w.servers
 refine ⟨annL [(65, 4, ⟨Nat, [⟨.cell 4 2, some 51, .srv⟩], fun σ k => (((σ.fgs [51, 14, 18, 23, 28]).t 4 (vI fun _ => (k : Int))).E7 4 2 (.own 51 1)).row 51 1 .srv (fun _ => pre w.servers k), fun _ k _ => k ≤ w.servers.length, fun _ k _ => w.servers.length - k⟩)], noAnn, 20, ?_⟩
 cbv
 repeat' first | ((with_reducible refine fun (k : Nat) => ?_); cbv) | ((with_reducible intro _); cbv) | (with_reducible refine And.intro ?_ ?_)
 all_goals try ((first | (with_reducible refine LoopIn.mk ((0 : Nat)) ?_ ?_) | (with_reducible refine LoopBack.mk ((k + 1 : Nat)) ?_ ?_ ?_)) )
 all_goals try ((with_reducible show m6 _ _); cbv; (try simp only [and_true, true_and]))
 all_goals try (repeat' with_reducible refine And.intro ?_ ?_)
 all_goals first | (refine retK h ?_; clear h; simp only [fin0]) | (with_reducible refine Ob.mk ?_; clear h) | (clear h)
 all_goals (try simp only [eta0, RT.bytes] at *)
 all_goals (try grind [X2, a0C, j5])
end Go.Proofs.YtkclfaldmghkeaaGreat
namespace Go.Proofs.YtkclfaldmghkeaaGreat
open Go.Sx Go.Proofs Go.RowKit
theorem c2P : (Tryz.prog.info? 60).map (fun i => (i.zero, i.size, i.bytes)) = some (some (.agg #[.int .i64 0, .int .i64 0, .int .i64 0, .int .i64 0, .int .i64 0, .int .i64 0, .int .i64 0, .int .i64 0, .int .i64 0, .int .i64 0, .int .i64 0, .int .i64 0, .int .i64 0, .int .i64 0, .int .i64 0, .int .i64 0, .int .i64 0, .int .i64 0, .int .i64 0, .int .i64 0, .int .i64 0, .int .i64 0, .int .i64 0, .int .i64 0, .int .i64 0]), 25, 200) := by kernel_rfl
theorem c6k (w : World) (n b c : Nat) (cs : Array Value) (T i : Nat) (hh : w.heap[b]? = some (.cells cs T (0, 0))) (hnc : n ≤ c) (hc : c ≤ maxLen) (hs : cs.size = c * 25) (hi : i < n) (h1c : ∀ u ∈ cs.toList.take (n * 25), one u) :
  Calls Tryz.prog 107 #[.slice (some ⟨b, 0, none⟩) n c, .int .i64 i, .int .i64 ((i : Int) + 1)] w fun e w' => ∃ v cs', e = .returned v ∧ DelE w w' 25 v n i b c cs T cs' := by
 obtain ⟨inf, hinf, hz, hsz, hby⟩ := info_parts c2P
 obtain ⟨Z, hZ⟩ : ∃ Z : Value, Z = .agg #[.int .i64 0, .int .i64 0, .int .i64 0, .int .i64 0, .int .i64 0, .int .i64 0, .int .i64 0, .int .i64 0, .int .i64 0, .int .i64 0, .int .i64 0, .int .i64 0, .int .i64 0, .int .i64 0, .int .i64 0, .int .i64 0, .int .i64 0, .int .i64 0, .int .i64 0, .int .i64 0, .int .i64 0, .int .i64 0, .int .i64 0, .int .i64 0, .int .i64 0] := ⟨_, rfl⟩
 rw [← hZ] at hz
 have hzc : (Value.cells Z).size = 25 := by rw [hZ]; rfl
 have hzv : ∀ w, (zeroValue 60).run Tryz.prog w = .ok Z w := fun w => by simp [zeroValue, typeInfo, hinf, hz]
 have hz1 : ∀ u ∈ (Value.cells Z).toList, one u := by
  intro u hu
  rw [hZ] at hu
  simp [Value.cells] at hu
  first | (subst hu; rfl) | (rcases hu with rfl | rfl | rfl | rfl <;> rfl)
 clear hZ
 have u25 := run_underlying Tryz.underlying33
 have z38 : ∀ w, (sizeOf 60).run Tryz.prog w = .ok 25 w := fun w => by simp [sizeOf, typeInfo, hinf, hsz]
 have mixed := j3.mix
 have hc63 : c ≤ 9223372036854775807 := hc
 obtain ⟨e1, e2, e3, e4, e5, e6, e7⟩ := a7P (cs := cs) (zs := (Value.cells Z).toList) hs hnc hi (by rw [Array.length_toList]; exact hzc)
 obtain ⟨us, hus⟩ : ∃ us, us = (cs.toList.take (n * 25)).drop ((i + 1) * 25) := ⟨_, rfl⟩
 rw [← hus] at e1 e2 e3
 obtain ⟨A, hA, hsrc⟩ : ∃ A : Addr, (if c = i + 1 then some (⟨b, 0, none⟩ : Addr) else some ⟨b, (i + 1) * 25, none⟩) = some A ∧ (∀ j v, us[j]? = some v → w.drew.cell? (A.add j) = some v) := by
  by_cases h : c = i + 1
  ·refine ⟨⟨b, 0, none⟩, by simp [h], fun j v hj => ?_⟩
   have h0 : us.length = 0 := by rw [e1, show n - (i + 1) = 0 by omega, Nat.zero_mul]
   rw [List.length_eq_zero_iff.1 h0] at hj
   simp at hj
  ·refine ⟨⟨b, (i + 1) * 25, none⟩, by simp [h], fun j v hj => ?_⟩
   rw [hus, List.getElem?_drop, List.getElem?_take] at hj
   rw [u6, show w.drew.cell? ⟨b, (i + 1) * 25 + j, none⟩ = w.cell? ⟨b, (i + 1) * 25 + j, none⟩ from rfl, o7 hh]
   split at hj
   ·simpa using hj
   ·cases hj
 have h1u : ∀ u ∈ us, one u := fun u hu => h1c u (by rw [hus] at hu; exact List.mem_of_mem_drop hu)
 obtain ⟨W1, hW1⟩ : ∃ W1, W1 = wrote w.drew b (i * 25) cs us := ⟨_, rfl⟩
 have hap : ∀ ty, (Builtin.append_ #[33, 33] ty #[.slice (some ⟨b, 0, none⟩) i c, .slice (some A) (n - (i + 1)) (c - (i + 1))]).run Tryz.prog w.drew = .ok (.slice (some ⟨b, 0, none⟩) (i + (n - (i + 1))) c) W1 := fun ty => by
  have := a3P (P := Tryz.prog) (w := w.drew) (ty := ty) (T := 33) (b := b) (n := i) (cap := c) (m := n - (i + 1)) (capx := c - (i + 1)) (a := A) (cs := cs) (us := us) (T0 := T) Tryz.underlying33 hinf hh (by rw [hsz]; exact e1) hsrc (by omega) (by rw [hsz]; exact hs) h1u
  rw [this, hsz, hW1]
 have hh1 : W1.heap[b]? = some (.cells (putAt cs.toList (i * 25) us).toArray T (0, 0)) := by rw [hW1]; exact u9 hh
 have hin : i + (n - (i + 1)) = n - 1 := by omega
 rw [hin] at hap
 have hcl : ∀ (W : World), W.heap = W1.heap → ∀ ty cc, (Builtin.clear_ #[33] ty #[.slice (some ⟨b, (n - 1) * 25, none⟩) 1 cc]).run Tryz.prog W = .ok (.tuple #[]) (wrote W b ((n - 1) * 25) (putAt cs.toList (i * 25) us).toArray (Value.cells Z).toList) := fun W hW ty cc =>
  a3O (T0 := T) Tryz.underlying33 hzv (by rw [hW]; exact hh1) (by rw [e3]; rw [Array.length_toList] at e4; exact e4) hz1
 have hend : ∀ W : World, W.heap = (wrote W1 b ((n - 1) * 25) (putAt cs.toList (i * 25) us).toArray (Value.cells Z).toList).heap → W.os = w.os → W.tape = w.tape → W.output = w.output → DelE w W 25 (.slice (some ⟨b, 0, none⟩) (n - 1) c) n i b c cs T (closed cs 25 n i (Value.cells Z).toList) := fun W hW g1 g2 g3 => by
  refine ⟨rfl, ?_, e5, e6, e7, g1, g2, g3, ?_, fun x hx => ?_⟩
  ·rw [hW, u9 hh1, closed, ← hus]
  ·rw [hW, hW1]; simp [wrote, World.setRow]
  ·rw [hW, r9 hx, hW1, r9 hx]; rfl
 have hw2 : IntKind.i64.wrap ((i : Int) + 1) = ((i + 1 : Nat) : Int) := by rw [IntKind.wrap_i64]; omega
 have hci : ¬ (c = n - 1) := by omega
 have hne : ¬ ((i : Int) = (i : Int) + 1) := by omega
 have htn : ((i : Int) + 1).toNat = i + 1 := by omega
 have hb1 : (0 : Int) ≤ (i : Int) + 1 := by omega
 have hb2 : (i : Int) + 1 ≤ (n : Int) := by omega
 have hb3 : (i : Int) + 1 ≤ (c : Int) := by omega
 have hb4 : i ≤ c := by omega
 have hb5 : (i : Int) ≤ (i : Int) + 1 := by omega
 have hb6 : n - (n - 1) = 1 := by omega
 have hb7 : n - 1 ≤ n := by omega
 have g1 : W1.os = w.os := by rw [hW1]; rfl
 have g2 : W1.tape = w.tape := by rw [hW1]; rfl
 have g3 : W1.output = w.output := by rw [hW1]; rfl
 obtain ⟨zs, hzs⟩ : ∃ zs, zs = (Value.cells Z).toList := ⟨_, rfl⟩
 rw [← hzs] at hcl hend
 clear hzs hzv hz1 hzc hW1
 clear hinf hz hby e1 e2 e3 e4 e5 e6 e7 h1u hsrc hh1 h1c hus
 go_enter Tryz.func107, Tryz.ntmps107
 go_wp2_with fail
 go_region_law_o (refine a1e rfl (.tmp 22) (.tmp 25) 33 rfl _ _ (by simp [Act.eval, Act.put]) (by simp [Act.eval, Act.put]) (hap _) ?_)
 go_wp2_with (at_builtin; refine a0v _ rfl _ 33 rfl _ rfl (hcl _ rfl _ _) ?_)
 all_goals go_ret
 all_goals exact ⟨.slice (some ⟨b, 0, none⟩) (n - 1) c, _, rfl, hend _ rfl g1 g2 g3⟩
theorem delMFn : c0K Tryz.prog 107 .msg := fun w n b cap cs T i hh h1 h2 h3 h4 h5 _ => c6k w n b cap cs T i hh h1 h2 h3 h4 h5
theorem c1X : b7 Tryz.prog 107 (.raw (delM .msg)) :=
 c6i ⟨_, _, Tryz.func107, by kernel_rfl, rfl⟩ delMFn
end Go.Proofs.YtkclfaldmghkeaaGreat
namespace Go.Proofs.YtkclfaldmghkeaaGreat
open Go.Sx Go.Proofs Go.Mo
noncomputable def b0X : Sx.Spec := ⟨false, true, [.arb], [[some .int, some .int]], fun _ _ ⟨t, _⟩ => .ret (oArb t, fun _ => 0)⟩
noncomputable def a6E : SpecX := .raw (b3T (delM .msg))
theorem a9f : b7 Tryz.prog 107 a6E := b2k c1X ⟨_, _, Tryz.func107, by kernel_rfl, rfl⟩
theorem b7v : b7 Tryz.prog 99 b0X := j8 j3 (ss := []) trivial rfl rfl <| by
 intro (bs : Th (List Int)) (p : Th Int) ⟨(t : Th Arb), u⟩ K _ _ ho h
 obtain ⟨t, rfl⟩ := a8 t
 have hl := okB (ho.1 _ (.head _))
 have hl2 := okB (ho.1 _ (.tail _ (.head _)))
 refine ⟨noAnn, noAnn, 20, ?_⟩
 cbv
 repeat' first | ((with_reducible intro _); cbv) | (with_reducible refine And.intro ?_ ?_)
 all_goals first | (refine retK h ?_; clear h; simp only [fin0]) | (with_reducible refine Ob.mk ?_; clear h) | (clear h)
 all_goals (try simp only [eta0, RT.bytes] at *)
 all_goals (try grind)
theorem b7u : b7 Tryz.prog 48 b2u := j8 j3 (ss := [(98, a2E), (99, b0X), (100, a3t), (101, a4Z)]) ⟨c1Z, b7v, c4L, c4I, trivial⟩ rfl rfl <| by
 intro (bs : Th (List Int)) (p : Th Int) ⟨(w : Th Wld), u⟩ K _ _ ho h
 obtain ⟨w, rfl⟩ := a8 w
 have hb0 := okB (ho.1 _ (.tail _ (.tail _ (.head _))))
 have hb3 := okB (ho.1 _ (.tail _ (.tail _ (.tail _ (.tail _ (.head _))))))
 have hb4 := okB (ho.1 _ (.tail _ (.tail _ (.tail _ (.tail _ (.tail _ (.head _)))))))
 have hb6 := okB (ho.1 _ (.tail _ (.tail _ (.tail _ (.tail _ (.tail _ (.tail _ (.tail _ (.head _)))))))))
 have hb7 := okB (ho.1 _ (.tail _ (.tail _ (.tail _ (.tail _ (.tail _ (.tail _ (.tail _ (.tail _ (.head _))))))))))
 have hs := fun k => @H3 .srv w.servers k
 have hz := a0B w.servers
 refine ⟨annL [(48, 4, ⟨Nat, [⟨.cell 4 2, some 500, .srv⟩], fun σ k => (((σ.only [1, 2, 3, 27, 28]).t 29 (vI fun _ => (k : Int))).E7 4 2 (.own 500 1)).row 500 1 .srv (fun _ => pre w.servers k), fun _ k _ => k ≤ w.servers.length, fun _ k _ => w.servers.length - k⟩)], noAnn, 20, ?_⟩
 cbv
 repeat' first | ((with_reducible refine fun (k : Nat) => ?_); cbv) | ((with_reducible intro _); cbv) | (with_reducible refine And.intro ?_ ?_)
 all_goals try ((first | (with_reducible refine LoopIn.mk ((0 : Nat)) ?_ ?_) | (with_reducible refine LoopBack.mk ((k + 1 : Nat)) ?_ ?_ ?_)) )
 all_goals try ((with_reducible show m6 _ _); cbv; (try simp only [and_true, true_and]))
 all_goals try (repeat' with_reducible refine And.intro ?_ ?_)
 all_goals first | (refine retK h ?_; clear h; simp only [fin0]) | (with_reducible refine Ob.mk ?_; clear h) | (clear h)
 all_goals (try simp only [eta0, RT.bytes] at *)
 all_goals (try grind [X2, a0C, j5])
end Go.Proofs.YtkclfaldmghkeaaGreat
namespace Go.Sx
theorem a4h {t : RT} (l : Th (List t.ty)) (i : Th Int) (f : Th t.ty) : y9 t l i f = fun _ => (l ()).set (i ()).toNat (f ()) := rfl
theorem ioK {α : Type} {K : V × Th α → Prop} {u v : V} {x y : α} (h : K (u, fun _ => x)) (e1 : v = u) (e2 : y = x) : K (v, fun _ => y) := by
 rw [e1, e2]
 exact h
abbrev ioX (s : Io) : SpecX := .raw (b3A s)
end Go.Sx
namespace Go.Proofs.YtkclfaldmghkeaaGreat
open Go.Sx Go.Proofs Go.Mo
noncomputable def sAskP : Sx.Io := ⟨.book, true, [.int .i64, .int .i64, .int .i64, .int .i64], [], fun l ⟨w, k, d, n, _⟩ => .asrt (fun _ => seqB (l ())) (.ret (vB fun _ => (L8 (l ()) (w ()) (k ()) (d ()) (n ())).ok, fun _ => (L8 (l ()) (w ()) (k ()) (d ()) (n ())).b))⟩
theorem okAskP : b7 Tryz.prog 104 (ioX sAskP) := io1 j3 (ss := [(156, Q4), (81, a0R)]) ⟨c4t, a8f, trivial⟩ rfl rfl <| by
 intro (l : Th (List Row)) ⟨(w : Th Int), (k : Th Int), (d : Th Int), (n : Th Int), u⟩ K _ ho h
 obtain ⟨l, rfl⟩ := a8 l; obtain ⟨w, rfl⟩ := a8 w; obtain ⟨k, rfl⟩ := a8 k; obtain ⟨d, rfl⟩ := a8 d; obtain ⟨n, rfl⟩ := a8 n
 obtain ⟨ha, h⟩ := h
 have ha := ha.out
 have hp := a0S l w
 have hq := ha (k8 l w).toNat
 refine ⟨noAnn, noAnn, 20, ?_⟩
 cbv
 repeat' first | ((with_reducible intro _); cbv) | (with_reducible refine And.intro ?_ ?_)
 all_goals first | refine ioK h ?_ ?_ | (with_reducible refine Ob.mk ?_; clear h) | (clear h)
 all_goals (try clear h)
 all_goals (try clear K)
 all_goals (try simp only [fin0])
 all_goals (try simp only [eta0, RT.bytes] at *)
 all_goals (try have hlt : (k8 l w).toNat < l.length := (by clear ho; grind))
 all_goals (try simp only [B5, l9 .row hlt, List.set_set, List.length_set] at *)
 all_goals grind [L8, b3E, e8]
theorem c1L : b7 Tryz.prog 124 b8W := j8 j3 (ss := [(75, a4j), (132, a3t), (173, Q4), (164, a0R)]) ⟨a5w, a6N, b2T, a5v, trivial⟩ rfl rfl <| by
 intro (bs : Th (List Int)) (p : Th Int) ⟨(m : Th PMap), (l : Th (List Row)), (w : Th Int), (k : Th Int), (d : Th Int), (n : Th Int), u⟩ K _ _ ho h
 obtain ⟨m, rfl⟩ := a8 m; obtain ⟨l, rfl⟩ := a8 l; obtain ⟨w, rfl⟩ := a8 w; obtain ⟨k, rfl⟩ := a8 k; obtain ⟨d, rfl⟩ := a8 d; obtain ⟨n, rfl⟩ := a8 n
 have hs := @a9z m l
 have hp := a0S l w
 have hlt0 : ¬ k8 l w = -1 → (k8 l w).toNat < l.length := fun h => by omega
 have hq := fun (h : y6 m l = true) => a9z h (k8 l w).toNat
 refine ⟨noAnn, noAnn, 20, ?_⟩
 cbv
 repeat' first | ((with_reducible intro _); cbv) | (with_reducible refine And.intro ?_ ?_)
 all_goals first | (refine retK h ?_; clear h; simp only [fin0]) | (with_reducible refine Ob.mk ?_; clear h) | (clear h)
 all_goals (try simp only [eta0, RT.bytes] at *)
 all_goals (try have hlt := hlt0 (by assumption))
 all_goals (try simp only [l9 .row hlt, List.set_set, List.length_set] at *)
 all_goals (try simp only [a4h, l9 .row hlt, List.set_set, List.length_set, b3S, a8s])
 all_goals grind [a5O, L8, b3E, e8]
end Go.Proofs.YtkclfaldmghkeaaGreat
