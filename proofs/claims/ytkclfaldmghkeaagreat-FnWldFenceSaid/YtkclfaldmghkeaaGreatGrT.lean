/-
  Contracts: servers, lists of stores.
-/
import Derived.Test.YtkclfaldmghkeaaGreatGnB
import Derived.Test.YtkclfaldmghkeaaGreatFoHs
import Derived.Test.YtkclfaldmghkeaaGreatM2
import Derived.Test.YtkclfaldmghkeaaGreatGnC
import Derived.Test.YtkclfaldmghkeaaGreatM3
set_option linter.unusedVariables false
set_option linter.unusedSimpArgs false
set_option maxRecDepth 100000
set_option maxHeartbeats 8000000
namespace Go.Proofs.YtkclfaldmghkeaaGreat
open Go.Sx Go.Proofs Go.Mo
noncomputable def a6Y : Sx.Spec := ⟨false, true, [.map, .row .srv], [], fun _ _ ⟨m, s, _⟩ => .ret (vB fun _ => y9 (m ()) (s ()), fun _ => 0)⟩
noncomputable def a4H : Sx.Spec := ⟨false, true, [.row .srv, .int .i64], [], fun _ _ ⟨s, c, _⟩ => .ret (vI fun _ => j5 (s ()).holds (c ()), fun _ => 0)⟩
noncomputable def a9e : Sx.Spec := ⟨false, true, [.row .srv, .int .i64], [nHld, [none]], fun _ _ ⟨s, c, _⟩ => .ret (.tup [oHld fun _ => e9 (s ()) (c ()), vB fun _ => v7 (s ()) (c ())], fun _ => 0)⟩
noncomputable def a5B : Sx.Spec := ⟨false, true, [.row .srv], [[none, some .hld, some .gst]], fun _ _ ⟨s, _⟩ => .ret (oSrv s, fun _ => 0)⟩
noncomputable def b3i : Sx.Spec := ⟨false, true, [.list .gst], [[some .gst]], fun _ _ ⟨l, _⟩ => .ret (vW .gst l, fun _ => 0)⟩
noncomputable def a3a : Sx.Spec := ⟨false, true, [.list .sto], [[some .sto]], fun _ _ ⟨l, _⟩ => .ret (vW .sto l, fun _ => 0)⟩
noncomputable def a5x : Sx.Spec := ⟨false, true, [.map, .list .sto], [], fun _ _ ⟨m, l, _⟩ => .ret (vB fun _ => y1 (m ()) (l ()), fun _ => 0)⟩
noncomputable def b9V : Sx.Spec := ⟨false, true, [.row .hld, .map, .int .i64], [[some .gst]], fun _ _ ⟨h, m, s, _⟩ => .asrt (fun _ => (h ()).state.wlks.length ≤ 9) (.ret (vW .gst fun _ => m9 (m ()) (h ()) (s ()), fun _ => 0))⟩
noncomputable def sGstOf : Sx.Spec := ⟨false, true, [.map, .row .hld, .int .i64], [[some .gst]], fun _ _ ⟨m, h, s, _⟩ => .ret (vW .gst fun _ => if O1 (m ()) (h ()) = true then m9 (m ()) (h ()) (s ()) else [], fun _ => 0)⟩
theorem okSrvOk : b8 Tryz.prog 32 a6Y := j6 j4 (ss := [(82, a7c), (83, b9T)]) ⟨okHldOk, okGstsOk, trivial⟩ rfl rfl <| by
 intro (bs : Th (List Int)) (p : Th Int) ⟨(m : Th PMap), (s : Th Srv), u⟩ K _ _ ho h
 obtain ⟨m, rfl⟩ := b6 m; obtain ⟨s, rfl⟩ := b6 s
 have hl := okL (ho.2.1 _ (.tail _ (.head _)))
 have hl2 := okL (ho.2.1 _ (.tail _ (.tail _ (.head _))))
 refine ⟨annL [(32, 2, ⟨Nat, [], fun σ k => σ.t 10 (vI fun _ => (k : Int)), fun _ k _ => k ≤ s.holds.length ∧ m4 k (a1S m s.holds) = true, fun _ k _ => s.holds.length - k⟩)], noAnn, 20, ?_⟩
 cbv
 repeat' first | ((with_reducible refine fun (k : Nat) => ?_); cbv) | ((with_reducible intro _); cbv) | (with_reducible refine And.intro ?_ ?_)
 all_goals try ((first | (with_reducible refine LoopIn.mk ((0 : Nat)) ?_ ?_) | (with_reducible refine LoopBack.mk ((k + 1 : Nat)) ?_ ?_ ?_)) )
 all_goals try ((with_reducible show l8 _ _); cbv; (try simp only [and_true, true_and]))
 all_goals try (repeat' with_reducible refine And.intro ?_ ?_)
 all_goals first | (refine retK h ?_; clear h; simp only [fin0]) | (with_reducible refine Ob.mk ?_; clear h) | (clear h)
 all_goals (try simp only [eta0, RT.bytes] at *)
 all_goals grind [j3, b9, a0o, b4U, b4T, b9C, a4m, a1S, n4, n3]
theorem a9y : b8 Tryz.prog 143 a6Y := j6 j4 (ss := [(72, B8), (182, a9j), (183, a7c)]) ⟨F3, b1V, a9C, trivial⟩ rfl rfl <| by
 intro (bs : Th (List Int)) (p : Th Int) ⟨(m : Th PMap), (s : Th Srv), u⟩ K _ _ ho h
 obtain ⟨m, rfl⟩ := b6 m; obtain ⟨s, rfl⟩ := b6 s
 have hl := okL (ho.2.1 _ (.tail _ (.head _)))
 have hl2 := okL (ho.2.1 _ (.tail _ (.tail _ (.head _))))
 have hb : o8 m = false ∨ B6 m s.m9 = false ∨ a4m s = false → y9 m s = false := by
  intro hh
  rcases hh with hh | hh | hh <;> simp [y9, R7, hh]
 have hb2 : o8 m = true → B6 m s.m9 = true → R7 m s.m9 = true := fun h1 h2 => by simp [R7, h1, h2]
 refine ⟨annL [(143, 4, ⟨Nat, [], fun σ k => σ.t 5 (vI fun _ => (k : Int)), fun _ k _ => k ≤ s.holds.length ∧ R7 m s.m9 = true ∧ a4m s = true ∧ m4 k (a1S m s.holds) = true, fun _ k _ => s.holds.length - k⟩)], noAnn, 20, ?_⟩
 cbv
 repeat' first | ((with_reducible refine fun (k : Nat) => ?_); cbv) | ((with_reducible intro _); cbv) | (with_reducible refine And.intro ?_ ?_)
 all_goals try ((first | (with_reducible refine LoopIn.mk ((0 : Nat)) ?_ ?_) | (with_reducible refine LoopBack.mk ((k + 1 : Nat)) ?_ ?_ ?_)) )
 all_goals try ((with_reducible show l8 _ _); cbv; (try simp only [and_true, true_and]))
 all_goals try (repeat' with_reducible refine And.intro ?_ ?_)
 all_goals first | (refine retK h ?_; clear h; simp only [fin0]) | (with_reducible refine Ob.mk ?_; clear h) | (clear h)
 all_goals (try simp only [eta0, RT.bytes] at *)
 all_goals grind [j3, b9, a0o, b4U, b4T, b9C, a4m, a1S, n4, n3]
theorem b6d : b8 Tryz.prog 160 a4H := j6 j4 (ss := []) trivial rfl rfl <| by
 intro (bs : Th (List Int)) (p : Th Int) ⟨(s : Th Srv), (c : Th Int), u⟩ K _ _ ho h
 obtain ⟨s, rfl⟩ := b6 s; obtain ⟨c, rfl⟩ := b6 c
 have hl := okL (ho.1 _ (.tail _ (.head _)))
 refine ⟨annL [(84, 2, ⟨Nat, [], fun σ k => σ.t 8 (vI fun _ => (k : Int)), fun _ k _ => k ≤ s.holds.length ∧ m4 k (a8f s.holds c) = true, fun _ k _ => s.holds.length - k⟩)], noAnn, 20, ?_⟩
 cbv
 repeat' first | ((with_reducible refine fun (k : Nat) => ?_); cbv) | ((with_reducible intro _); cbv) | (with_reducible refine And.intro ?_ ?_)
 all_goals try ((first | (with_reducible refine LoopIn.mk ((0 : Nat)) ?_ ?_) | (with_reducible refine LoopBack.mk ((k + 1 : Nat)) ?_ ?_ ?_)) )
 all_goals try ((with_reducible show l8 _ _); cbv; (try simp only [and_true, true_and]))
 all_goals try (repeat' with_reducible refine And.intro ?_ ?_)
 all_goals first | (refine retK h ?_; clear h; simp only [fin0]) | (with_reducible refine Ob.mk ?_; clear h) | (clear h)
 all_goals (try simp only [eta0, RT.bytes] at *)
 all_goals grind [n4, n3, a8f, U5, c0P, b2f, j3]
theorem a9z : b8 Tryz.prog 176 a9e := j6 j4 (ss := [(179, a3T)]) ⟨a9F, trivial⟩ rfl rfl <| by
 intro (bs : Th (List Int)) (p : Th Int) ⟨(s : Th Srv), (c : Th Int), u⟩ K _ _ ho h
 obtain ⟨s, rfl⟩ := b6 s; obtain ⟨c, rfl⟩ := b6 c
 have hl := okL (ho.1 _ (.tail _ (.head _)))
 refine ⟨annL [(176, 2, ⟨Nat, [], fun σ k => σ.t 6 (vI fun _ => (k : Int)), fun _ k _ => k ≤ s.holds.length ∧ m4 k (a8f s.holds c) = true, fun _ k _ => s.holds.length - k⟩)], noAnn, 20, ?_⟩
 cbv
 repeat' first | ((with_reducible refine fun (k : Nat) => ?_); cbv) | ((with_reducible intro _); cbv) | (with_reducible refine And.intro ?_ ?_)
 all_goals try ((first | (with_reducible refine LoopIn.mk ((0 : Nat)) ?_ ?_) | (with_reducible refine LoopBack.mk ((k + 1 : Nat)) ?_ ?_ ?_)) )
 all_goals try ((with_reducible show l8 _ _); cbv; (try simp only [and_true, true_and]))
 all_goals try (repeat' with_reducible refine And.intro ?_ ?_)
 all_goals first | (refine retK h ?_; clear h; simp only [fin0]) | (with_reducible refine Ob.mk ?_; clear h) | (clear h)
 all_goals (try simp only [eta0, RT.bytes] at *)
 all_goals grind (splits := 40) [n4, n3, a8f, U5, c0P, b2f, j3, e9, v7, a2G, P7]
theorem b6g : b8 Tryz.prog 154 b3i := j6 j4 (ss := []) trivial rfl rfl <| by
 intro (bs : Th (List Int)) (p : Th Int) ⟨(l : Th (List Gst)), u⟩ K _ _ ho h
 obtain ⟨l, rfl⟩ := b6 l
 have hl := okB (ho.1 _ (.head _))
 refine ⟨noAnn, noAnn, 20, ?_⟩
 cbv
 repeat' first | ((with_reducible intro _); cbv) | (with_reducible refine And.intro ?_ ?_)
 all_goals first | (refine retK h ?_; clear h; simp only [fin0]) | (with_reducible refine Ob.mk ?_; clear h) | (clear h)
 all_goals (try simp only [eta0, RT.bytes] at *)
 all_goals grind
theorem okCloneV : b8 Tryz.prog 101 a5B := j6 j4 (ss := [(154, b3i), (155, a3T)]) ⟨b6g, okCloneH, trivial⟩ rfl rfl <| by
 intro (bs : Th (List Int)) (p : Th Int) ⟨(s : Th Srv), u⟩ K _ _ ho h
 obtain ⟨s, rfl⟩ := b6 s
 have hl := okB (ho.1 _ (.tail _ (.head _)))
 have hl2 := okB (ho.1 _ (.tail _ (.tail _ (.head _))))
 have hz := a0W s.holds
 have hs := fun k => @G6 .hld s.holds k
 refine ⟨annL [(101, 3, ⟨Nat, [⟨.cell 4 1, some 25, .hld⟩], fun σ k => ((σ.t 15 (vI fun _ => (k : Int))).F5 4 1 (.own 25 1)).row 25 1 .hld (fun _ => pre s.holds k), fun _ k _ => k ≤ s.holds.length, fun _ k _ => s.holds.length - k⟩)], noAnn, 20, ?_⟩
 cbv
 repeat' first | ((with_reducible refine fun (k : Nat) => ?_); cbv) | ((with_reducible intro _); cbv) | (with_reducible refine And.intro ?_ ?_)
 all_goals try ((first | (with_reducible refine LoopIn.mk ((0 : Nat)) ?_ ?_) | (with_reducible refine LoopBack.mk ((k + 1 : Nat)) ?_ ?_ ?_)) )
 all_goals try ((with_reducible show l8 _ _); cbv; (try simp only [and_true, true_and]))
 all_goals try (repeat' with_reducible refine And.intro ?_ ?_)
 all_goals first | (refine retK h ?_; clear h; simp only [fin0]) | (with_reducible refine Ob.mk ?_; clear h) | (clear h)
 all_goals (try simp only [eta0, RT.bytes] at *)
 all_goals grind [Y7, a0X, j3]
theorem b1W : b8 Tryz.prog 133 a5B := j6 j4 (ss := [(179, a3T)]) ⟨a9F, trivial⟩ rfl rfl <| by
 intro (bs : Th (List Int)) (p : Th Int) ⟨(s : Th Srv), u⟩ K _ _ ho h
 obtain ⟨s, rfl⟩ := b6 s
 have hl := okB (ho.1 _ (.tail _ (.head _)))
 have hl2 := okB (ho.1 _ (.tail _ (.tail _ (.head _))))
 have hz := a0W s.holds
 have hs := fun k => @G6 .hld s.holds k
 refine ⟨annL [(133, 3, ⟨Nat, [⟨.cell 4 1, some 29, .hld⟩], fun σ k => (((σ.fg 8).t 4 (vI fun _ => (k : Int))).F5 4 1 (.own 29 1)).row 29 1 .hld (fun _ => pre s.holds k), fun _ k _ => k ≤ s.holds.length, fun _ k _ => s.holds.length - k⟩)], noAnn, 20, ?_⟩
 cbv
 repeat' first | ((with_reducible refine fun (k : Nat) => ?_); cbv) | ((with_reducible intro _); cbv) | (with_reducible refine And.intro ?_ ?_)
 all_goals try ((first | (with_reducible refine LoopIn.mk ((0 : Nat)) ?_ ?_) | (with_reducible refine LoopBack.mk ((k + 1 : Nat)) ?_ ?_ ?_)) )
 all_goals try ((with_reducible show l8 _ _); cbv; (try simp only [and_true, true_and]))
 all_goals try (repeat' with_reducible refine And.intro ?_ ?_)
 all_goals first | (refine retK h ?_; clear h; simp only [fin0]) | (with_reducible refine Ob.mk ?_; clear h) | (clear h)
 all_goals (try simp only [eta0, RT.bytes] at *)
 all_goals grind [Y7, a0X, j3]
theorem c2X : b8 Tryz.prog 98 a3a := j6 j4 (ss := [(153, a0U)]) ⟨b6f, trivial⟩ rfl rfl <| by
 intro (bs : Th (List Int)) (p : Th Int) ⟨(l : Th (List Sto)), u⟩ K _ _ ho h
 obtain ⟨l, rfl⟩ := b6 l
 have hl := okB (ho.1 _ (.head _))
 have hz := a0W l
 have hs := fun k => @G6 .sto l k
 refine ⟨annL [(98, 3, ⟨Nat, [⟨.tmp 3 0, some 17, .sto⟩], fun σ k => ((σ.t 8 (vI fun _ => (k : Int))).t 3 (vO 17 1)).row 17 1 .sto (fun _ => pre l k), fun _ k _ => k ≤ l.length, fun _ k _ => l.length - k⟩)], noAnn, 20, ?_⟩
 cbv
 repeat' first | ((with_reducible refine fun (k : Nat) => ?_); cbv) | ((with_reducible intro _); cbv) | (with_reducible refine And.intro ?_ ?_)
 all_goals try ((first | (with_reducible refine LoopIn.mk ((0 : Nat)) ?_ ?_) | (with_reducible refine LoopBack.mk ((k + 1 : Nat)) ?_ ?_ ?_)) )
 all_goals try ((with_reducible show l8 _ _); cbv; (try simp only [and_true, true_and]))
 all_goals try (repeat' with_reducible refine And.intro ?_ ?_)
 all_goals first | (refine retK h ?_; clear h; simp only [fin0]) | (with_reducible refine Ob.mk ?_; clear h) | (clear h)
 all_goals (try simp only [eta0, RT.bytes] at *)
 all_goals grind [Y7, a0X, j3]
theorem a8e : b8 Tryz.prog 131 a3a := j6 j4 (ss := [(178, a0U)]) ⟨a5Y, trivial⟩ rfl rfl <| by
 intro (bs : Th (List Int)) (p : Th Int) ⟨(l : Th (List Sto)), u⟩ K _ _ ho h
 obtain ⟨l, rfl⟩ := b6 l
 have hl := okB (ho.1 _ (.head _))
 have hz := a0W l
 have hs := fun k => @G6 .sto l k
 refine ⟨annL [(131, 3, ⟨Nat, [⟨.tmp 3 0, some 6, .sto⟩], fun σ k => (((σ.fg 6).t 4 (vI fun _ => (k : Int))).t 3 (vO 6 1)).row 6 1 .sto (fun _ => pre l k), fun _ k _ => k ≤ l.length, fun _ k _ => l.length - k⟩)], noAnn, 20, ?_⟩
 cbv
 repeat' first | ((with_reducible refine fun (k : Nat) => ?_); cbv) | ((with_reducible intro _); cbv) | (with_reducible refine And.intro ?_ ?_)
 all_goals try ((first | (with_reducible refine LoopIn.mk ((0 : Nat)) ?_ ?_) | (with_reducible refine LoopBack.mk ((k + 1 : Nat)) ?_ ?_ ?_)) )
 all_goals try ((with_reducible show l8 _ _); cbv; (try simp only [and_true, true_and]))
 all_goals try (repeat' with_reducible refine And.intro ?_ ?_)
 all_goals first | (refine retK h ?_; clear h; simp only [fin0]) | (with_reducible refine Ob.mk ?_; clear h) | (clear h)
 all_goals (try simp only [eta0, RT.bytes] at *)
 all_goals grind [Y7, a0X, j3]
theorem okStosOk : b8 Tryz.prog 30 a5x := j6 j4 (ss := [(79, a2j), (47, B8)]) ⟨okStoOk, Q8, trivial⟩ rfl rfl <| by
 intro (bs : Th (List Int)) (p : Th Int) ⟨(m : Th PMap), (l : Th (List Sto)), u⟩ K _ _ ho h
 obtain ⟨m, rfl⟩ := b6 m; obtain ⟨l, rfl⟩ := b6 l
 have hl := okL (ho.2.1 _ (.head _))
 refine ⟨annL [(30, 2, ⟨Nat, [], fun σ k => σ.t 9 (vI fun _ => (k : Int)), fun _ k _ => k ≤ l.length ∧ m4 k (a1y m l) = true, fun _ k _ => l.length - k⟩)], noAnn, 20, ?_⟩
 cbv
 repeat' first | ((with_reducible refine fun (k : Nat) => ?_); cbv) | ((with_reducible intro _); cbv) | (with_reducible refine And.intro ?_ ?_)
 all_goals try ((first | (with_reducible refine LoopIn.mk ((0 : Nat)) ?_ ?_) | (with_reducible refine LoopBack.mk ((k + 1 : Nat)) ?_ ?_ ?_)) )
 all_goals try ((with_reducible show l8 _ _); cbv; (try simp only [and_true, true_and]))
 all_goals try (repeat' with_reducible refine And.intro ?_ ?_)
 all_goals first | (refine retK h ?_; clear h; simp only [fin0]) | (with_reducible refine Ob.mk ?_; clear h) | (clear h)
 all_goals (try simp only [eta0, RT.bytes] at *)
 all_goals grind [j3, b1u, b1t, b4M, a1y, n4, n3]
theorem b1U : b8 Tryz.prog 74 a5x := j6 j4 (ss := [(72, B8), (141, a2j)]) ⟨F3, a1L, trivial⟩ rfl rfl <| by
 intro (bs : Th (List Int)) (p : Th Int) ⟨(m : Th PMap), (l : Th (List Sto)), u⟩ K _ _ ho h
 obtain ⟨m, rfl⟩ := b6 m; obtain ⟨l, rfl⟩ := b6 l
 have hl := okL (ho.2.1 _ (.head _))
 have hb : o8 m = false ∨ ¬ (l.length : Int) = m.cells → y1 m l = false := by
  intro hh
  rcases hh with hh | hh <;> simp [y1, hh]
 refine ⟨annL [(74, 4, ⟨Nat, [], fun σ k => σ.t 5 (vI fun _ => (k : Int)), fun _ k _ => k ≤ l.length ∧ o8 m = true ∧ (l.length : Int) = m.cells ∧ m4 k (a1y m l) = true, fun _ k _ => l.length - k⟩)], noAnn, 20, ?_⟩
 cbv
 repeat' first | ((with_reducible refine fun (k : Nat) => ?_); cbv) | ((with_reducible intro _); cbv) | (with_reducible refine And.intro ?_ ?_)
 all_goals try ((first | (with_reducible refine LoopIn.mk ((0 : Nat)) ?_ ?_) | (with_reducible refine LoopBack.mk ((k + 1 : Nat)) ?_ ?_ ?_)) )
 all_goals try ((with_reducible show l8 _ _); cbv; (try simp only [and_true, true_and]))
 all_goals try (repeat' with_reducible refine And.intro ?_ ?_)
 all_goals first | (refine retK h ?_; clear h; simp only [fin0]) | (with_reducible refine Ob.mk ?_; clear h) | (clear h)
 all_goals (try simp only [eta0, RT.bytes] at *)
 all_goals grind [j3, b1u, b1t, b4M, a1y, n4, n3]
theorem okGhosts : b8 Tryz.prog 161 b9V := j6 j4 (ss := [(46, Q1)]) ⟨a1M, trivial⟩ rfl rfl <| by
 intro (bs : Th (List Int)) (p : Th Int) ⟨(h0 : Th Hld), (m : Th PMap), (s : Th Int), u⟩ K _ _ ho h
 obtain ⟨h0, rfl⟩ := b6 h0; obtain ⟨m, rfl⟩ := b6 m; obtain ⟨s, rfl⟩ := b6 s
 obtain ⟨ha, h⟩ := h
 have ha := ha.out
 have hl := okB (ho.1 _ (.tail _ (.tail _ (.tail _ (.head _)))))
 have hz := b6P m h0 s
 refine ⟨annL [(161, 3, ⟨Nat, [⟨.tmp 7 0, some 33, .gst⟩], fun σ k => ((σ.t 14 (vI fun _ => (k : Int))).t 7 (vO 33 1)).row 33 1 .gst (fun _ => ghTo m h0 s k), fun _ k _ => k ≤ h0.state.wlks.length, fun _ k _ => h0.state.wlks.length - k⟩)], noAnn, 20, ?_⟩
 cbv
 repeat' first | ((with_reducible refine fun (k : Nat) => ?_); cbv) | ((with_reducible intro _); cbv) | (with_reducible refine And.intro ?_ ?_)
 all_goals try ((first | (with_reducible refine LoopIn.mk ((0 : Nat)) ?_ ?_) | (with_reducible refine LoopBack.mk ((k + 1 : Nat)) ?_ ?_ ?_)) )
 all_goals try ((with_reducible show l8 _ _); cbv; (try simp only [and_true, true_and]))
 all_goals try (repeat' with_reducible refine And.intro ?_ ?_)
 all_goals first | (refine retK h ?_; clear h; simp only [fin0]) | (with_reducible refine Ob.mk ?_; clear h) | (clear h)
 all_goals (try simp only [eta0, RT.bytes] at *)
 all_goals grind [b2o, b6O, c0U, m9, j3]
theorem okSGstOf : b8 Tryz.prog 210 sGstOf := j6 j4 (ss := [(183, a7c), (212, Q1)]) ⟨a9C, a4M, trivial⟩ rfl rfl <| by
 intro (bs : Th (List Int)) (p : Th Int) ⟨(m : Th PMap), (h0 : Th Hld), (s : Th Int), u⟩ K _ _ ho h
 obtain ⟨m, rfl⟩ := b6 m; obtain ⟨h0, rfl⟩ := b6 h0; obtain ⟨s, rfl⟩ := b6 s
 have hn : O1 m h0 = true → h0.state.wlks.length ≤ 9 := fun h => X4 (y0.1 h).2.2
 have hl := okB (ho.2.1 _ (.tail _ (.tail _ (.tail _ (.head _)))))
 have hz := b6P m h0 s
 refine ⟨annL [(210, 5, ⟨Nat, [⟨.tmp 7 0, some 11, .gst⟩], fun σ k => (((σ.fg 11).t 8 (vI fun _ => (k : Int))).t 7 (vO 11 1)).row 11 1 .gst (fun _ => ghTo m h0 s k), fun _ k _ => k ≤ h0.state.wlks.length ∧ O1 m h0 = true, fun _ k _ => h0.state.wlks.length - k⟩)], noAnn, 20, ?_⟩
 cbv
 repeat' first | ((with_reducible refine fun (k : Nat) => ?_); cbv) | ((with_reducible intro _); cbv) | (with_reducible refine And.intro ?_ ?_)
 all_goals try ((first | (with_reducible refine LoopIn.mk ((0 : Nat)) ?_ ?_) | (with_reducible refine LoopBack.mk ((k + 1 : Nat)) ?_ ?_ ?_)) )
 all_goals try ((with_reducible show l8 _ _); cbv; (try simp only [and_true, true_and]))
 all_goals try (repeat' with_reducible refine And.intro ?_ ?_)
 all_goals first | (refine retK h ?_; clear h; simp only [fin0]) | (with_reducible refine Ob.mk ?_; clear h) | (clear h)
 all_goals (try simp only [eta0, RT.bytes] at *)
 all_goals grind [b2o, b6O, c0U, m9, j3]
noncomputable def sTick : Sx.Spec := ⟨false, true, [.row .srv, .map, .arb, .int .i64], [[some .msg]], fun _ _ ⟨s, m, t, c, _⟩ => .asrt (fun _ => y9 (m ()) (s ()) = true) (.ret (vW .msg fun _ => B5 (m ()) (s ()) (t ()) (c ()), fun _ => 0))⟩
theorem takeIf {α : Type} (l : List α) : List.drop (Int.toNat 0) (List.take (if (l.length : Int) < 4 then (l.length : Int) else 4).toNat l) = l.take 4 := by
 show List.drop 0 _ = _
 rw [List.drop_zero]
 by_cases h : (l.length : Int) < 4
 ·rw [if_pos h, Int.toNat_natCast, List.take_of_length_le (by omega), List.take_of_length_le (by omega)]
 ·rw [if_neg h]; rfl
theorem a7s {t : RT} {l : List t.ty} {k : Nat} (h : k < 4) : nth t (l.take 4) k = nth t l k := by
 unfold nth
 grind
theorem c1Q {m : PMap} {s : Srv} {t : Arb} {c : Int} (ha : y9 m s = true) (hz : ¬ (j5 s.holds c < 0)) : (nth .hld s.holds (j5 s.holds c).toNat).state.outs.length = 2 ∧ (nth .hld s.holds (j5 s.holds c).toNat).state.wlks.length ≤ 9 ∧ tkTo m t (nth .hld s.holds (j5 s.holds c).toNat) c 2 = B5 m s t c := by
 have hp := a2w s.holds c
 have h1 : v7 s c = true := by simp [v7]; omega
 have h2 : e9 s c = nth .hld s.holds (j5 s.holds c).toNat := by unfold e9; rw [if_pos (by omega)]
 have h3 := n0 (y0.1 (a4E ha (show (j5 s.holds c).toNat < s.holds.length by omega))).2.2
 refine ⟨h3.2.2.2.2.2.2.1, X4 (y0.1 (a4E ha (show (j5 s.holds c).toNat < s.holds.length by omega))).2.2, ?_⟩
 ·rw [← h2]; exact b4F h1
theorem c1P {m : PMap} {s : Srv} {t : Arb} {c : Int} (hz : j5 s.holds c < 0) : B5 m s t c = [] := by
 have h1 : v7 s c = false := by simp [v7]; omega
 unfold B5
 rw [h1]; rfl
theorem ncastU (n : Nat) : (NatCast.natCast n : Int) = (n : Int) := rfl
theorem wrap_nat {k : Nat} (h : k ≤ 1000) : (IntKind.i64.wrap ((k : Int) + 1)).toNat = k + 1 := by rw [j3 (by omega)]; rfl
theorem tkP_say {m : PMap} {t : Arb} {h : Hld} {c : Int} {T : List Msg} {i j : Nat} (hj : j < (List.take 4 (nth .pcls h.state.outs i)).length) : T ++ tkP m t h c (i : Int) j ++ [(⟨5, n8 t (b7 m c i), b7 m c i, 1 - (i : Int), 0, ⟨0, 0, 0, 0, 0⟩, nth .pcl (List.take 4 (nth .pcls h.state.outs i)) j, ⟨0, 0, ⟨0, 0, 0, 0, 0⟩⟩⟩ : Msg)] = T ++ tkP m t h c (i : Int) (j + 1) := by
 have h2 : j < 4 ∧ j < (nth .pcls h.state.outs i).length := by rw [List.length_take] at hj; omega
 have h3 : j < (nth .pcls h.state.outs (i : Int).toNat).length := h2.2
 rw [b4G h3, List.append_assoc, a7s h2.1]
 rfl
theorem tkG_say {m : PMap} {t : Arb} {h : Hld} {c : Int} {T : List Msg} {i j : Nat} (hj : j < (List.take 4 (m9 m h (i : Int))).length) : T ++ tkG m t h c (i : Int) j ++ [(⟨7, n8 t (b7 m c i), b7 m c i, 1 - (i : Int), 0, ⟨0, 0, 0, 0, 0⟩, ⟨0, 0, ⟨0, 0, 0, 0, 0⟩, 0⟩, nth .gst (List.take 4 (m9 m h (i : Int))) j⟩ : Msg)] = T ++ tkG m t h c (i : Int) (j + 1) := by
 have h2 : j < 4 ∧ j < (m9 m h (i : Int)).length := by rw [List.length_take] at hj; omega
 rw [b4H h2.2, List.append_assoc, a7s h2.1]
 rfl
theorem okTick : b8 Tryz.prog 108 sTick := j6 j4 (ss := [(160, a4H), (85, E7), (157, I8), (161, b9V)]) ⟨b6d, S1, a3p, okGhosts, trivial⟩ rfl rfl <| by
 intro (bs : Th (List Int)) (p : Th Int) ⟨(s : Th Srv), (m : Th PMap), (t : Th Arb), (c : Th Int), u⟩ K _ _ ho h
 obtain ⟨s, rfl⟩ := b6 s; obtain ⟨m, rfl⟩ := b6 m; obtain ⟨t, rfl⟩ := b6 t; obtain ⟨c, rfl⟩ := b6 c
 obtain ⟨ha, h⟩ := h
 have ha : y9 m s = true := ha.out
 have hp := a2w s.holds c
 have hz : ¬ (j5 s.holds c < 0) → (nth .hld s.holds (j5 s.holds c).toNat).state.outs.length = 2 ∧ (nth .hld s.holds (j5 s.holds c).toNat).state.wlks.length ≤ 9 ∧ tkTo m t (nth .hld s.holds (j5 s.holds c).toNat) c 2 = B5 m s t c := fun hz => c1Q ha hz
 have hz0 : j5 s.holds c < 0 → B5 m s t c = [] := fun hz => c1P hz
 have hn : ∀ k : Nat, (k : Int) < 2 → IntKind.i64.wrap (1 - (k : Int)) = 1 - (k : Int) := fun k hk => b9 (by omega) (by omega)
 refine ⟨annL [(108, 7, ⟨Th Int × Th Bool, [⟨.tmp 11 0, some 500, .msg⟩], fun σ g => (fun (H : Th Hld) => (((σ.only [3, 4, 5, 6, 8, 10]).t 33 (.one (.att (.int .i64 g.1)))).t 11 (vO 500 1)).row 500 1 .msg (fun _ => tkTo m t (nth .hld s.holds (j5 s.holds c).toNat) c (g.1 ()).toNat)) (fun _ => a2G), fun _ g _ => Ob fun _ => 0 ≤ g.1 () ∧ g.1 () ≤ 2 ∧ 0 ≤ j5 s.holds c, fun _ g _ => 2 - (g.1 ()).toNat⟩),
  (108, 14, ⟨Th Bool × Th Int, [⟨.tmp 11 0, some 500, .msg⟩], fun σ g => (fun (S : Th Int) => (((σ.only [3, 4, 5, 6, 8, 10, 12, 13, 14, 15, 33, 68, 69]).t 70 (.one (.att (.int .i64 g.2)))).t 11 (vO 500 1)).row 500 1 .msg (fun _ => tkTo m t (nth .hld s.holds (j5 s.holds c).toNat) c (S ()).toNat ++ tkP m t (nth .hld s.holds (j5 s.holds c).toNat) c (S ()) (g.2 ()).toNat)) (σ.tmI 12), fun σ g _ => Ob ((fun (S : Th Int) => fun _ => 0 ≤ g.2 () ∧ g.2 () ≤ 4 ∧ g.2 () ≤ (nth .pcls (nth .hld s.holds (j5 s.holds c).toNat).state.outs (S ()).toNat).length) (σ.tmI 12)), fun _ g _ => 5 - (g.2 ()).toNat⟩),
  (108, 22, ⟨Th Int × Th Int, [⟨.tmp 11 0, some 500, .msg⟩], fun σ g => (fun (S : Th Int) => (((σ.only [3, 4, 5, 6, 8, 10, 12, 13, 14, 15, 33, 91, 92]).t 93 (.one (.att (.int .i64 g.1)))).t 11 (vO 500 1)).row 500 1 .msg (fun _ => tkTo m t (nth .hld s.holds (j5 s.holds c).toNat) c (S ()).toNat ++ tkP m t (nth .hld s.holds (j5 s.holds c).toNat) c (S ()) 4 ++ tkG m t (nth .hld s.holds (j5 s.holds c).toNat) c (S ()) (g.1 ()).toNat)) (σ.tmI 12), fun σ g _ => Ob ((fun (S : Th Int) => fun _ => 0 ≤ g.1 () ∧ g.1 () ≤ 4 ∧ g.1 () ≤ (m9 m (nth .hld s.holds (j5 s.holds c).toNat) (S ())).length) (σ.tmI 12)), fun _ g _ => 5 - (g.1 ()).toNat⟩)], noAnn, 20, ?_⟩
 cbv
 repeat' first | ((with_reducible refine fun (g : Th Int × Th Bool) => ?_); obtain ⟨i, z⟩ := g; obtain ⟨i, rfl⟩ := b6 i; obtain ⟨z, rfl⟩ := b6 z; (with_reducible refine ImpB.out ?_); cbv; (with_reducible refine ImpB.mk ?_); intro hq; obtain ⟨hq⟩ := hq; have hq0 := hq.1; obtain ⟨i, rfl⟩ := Int.eq_ofNat_of_zero_le hq0; clear hq0) | ((with_reducible refine fun (g : Th Bool × Th Int) => ?_); obtain ⟨z, j⟩ := g; obtain ⟨z, rfl⟩ := b6 z; obtain ⟨j, rfl⟩ := b6 j; (with_reducible refine ImpB.out ?_); cbv; (with_reducible refine ImpB.mk ?_); intro hq; obtain ⟨hq⟩ := hq; have hq0 := hq.1; obtain ⟨j, rfl⟩ := Int.eq_ofNat_of_zero_le hq0; clear hq0) | ((with_reducible refine fun (g : Th Int × Th Int) => ?_); obtain ⟨k, z⟩ := g; obtain ⟨k, rfl⟩ := b6 k; obtain ⟨z, rfl⟩ := b6 z; (with_reducible refine ImpB.out ?_); cbv; (with_reducible refine ImpB.mk ?_); intro hq; obtain ⟨hq⟩ := hq; have hq0 := hq.1; obtain ⟨k, rfl⟩ := Int.eq_ofNat_of_zero_le hq0; clear hq0) | ((with_reducible intro _); cbv) | (with_reducible refine And.intro ?_ ?_)
 all_goals try ((first | (with_reducible refine LoopIn.wf (fun σ => (σ.tmI 33, y3)) ?_ ?_) | (with_reducible refine LoopBack.wf (fun σ => (σ.tmI 33, y3)) ?_ ?_ ?_) | (with_reducible refine LoopIn.wf (fun σ => (y3, σ.tmI 70)) ?_ ?_) | (with_reducible refine LoopBack.wf (fun σ => (y3, σ.tmI 70)) ?_ ?_ ?_) | (with_reducible refine LoopIn.wf (fun σ => (σ.tmI 93, Z9)) ?_ ?_) | (with_reducible refine LoopBack.wf (fun σ => (σ.tmI 93, Z9)) ?_ ?_ ?_)) <;> cbv)
 all_goals try (with_reducible show _ ∧ _; (try simp only [and_true, true_and]))
 all_goals try (repeat' with_reducible refine And.intro ?_ ?_)
 all_goals try (with_reducible refine MeasB.mk ?_)
 all_goals first | (refine retK h ?_; clear h; simp only [fin0]) | (with_reducible refine Ob.mk ?_; clear h) | (clear h)
 all_goals (try simp only [eta0, RT.bytes] at *)
 all_goals (try dsimp only [RT.ty] at *)
 all_goals (try simp only [takeIf, Int.toNat_natCast] at *)
 all_goals (try simp only [ncastU] at *)
 all_goals (try simp (disch := assumption) only [hn])
 all_goals (first | omega | (simp (disch := omega) only [wrap_nat]; first | exact tkP_say ‹_› | exact tkG_say ‹_›) | grind [j3, c1N, c1O, tkTo_say, tkP_zero, b4G, tkP_end, tkG_zero, b4H, tkG_end, tkP_len, tkG_len, a8T, s6, u6, F6, a7s])
end Go.Proofs.YtkclfaldmghkeaaGreat
