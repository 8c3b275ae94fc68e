/-
  Contracts: servers, lists of stores.
-/
import Derived.Test.YtkclfaldmghkeaaGreatGnB
import Derived.Test.YtkclfaldmghkeaaGreatFoHs
import Derived.Test.YtkclfaldmghkeaaGreatM2
import Derived.Test.YtkclfaldmghkeaaGreatGnC
import Derived.Test.YtkclfaldmghkeaaGreatM3
set_option linter.unusedVariables false
set_option linter.unusedSimpArgs false
set_option maxRecDepth 100000
set_option maxHeartbeats 8000000
namespace Go.Proofs.YtkclfaldmghkeaaGreat
open Go.Sx Go.Proofs Go.Mo
noncomputable def a6x : Sx.Spec := ⟨false, true, [.map, .row .srv], [], fun _ _ ⟨m, s, _⟩ => .ret (vB fun _ => y3 (m ()) (s ()), fun _ => 0)⟩
noncomputable def a4i : Sx.Spec := ⟨false, true, [.row .srv, .int .i64], [], fun _ _ ⟨s, c, _⟩ => .ret (vI fun _ => e9 (s ()).holds (c ()), fun _ => 0)⟩
noncomputable def a8C : Sx.Spec := ⟨false, true, [.row .srv, .int .i64], [nHld, [none]], fun _ _ ⟨s, c, _⟩ => .ret (.tup [oHld fun _ => b9 (s ()) (c ()), vB fun _ => v5 (s ()) (c ())], fun _ => 0)⟩
noncomputable def a4Z : Sx.Spec := ⟨false, true, [.row .srv], [[none, some .hld, some .gst]], fun _ _ ⟨s, _⟩ => .ret (oSrv s, fun _ => 0)⟩
noncomputable def b2v : Sx.Spec := ⟨false, true, [.list .gst], [[some .gst]], fun _ _ ⟨l, _⟩ => .ret (vW .gst l, fun _ => 0)⟩
noncomputable def a2E : Sx.Spec := ⟨false, true, [.list .sto], [[some .sto]], fun _ _ ⟨l, _⟩ => .ret (vW .sto l, fun _ => 0)⟩
noncomputable def a4V : Sx.Spec := ⟨false, true, [.map, .list .sto], [], fun _ _ ⟨m, l, _⟩ => .ret (vB fun _ => x7 (m ()) (l ()), fun _ => 0)⟩
noncomputable def b8Z : Sx.Spec := ⟨false, true, [.row .hld, .map, .int .i64], [[some .gst]], fun _ _ ⟨h, m, s, _⟩ => .asrt (fun _ => (h ()).state.wlks.length ≤ 9) (.ret (vW .gst fun _ => n0 (m ()) (h ()) (s ()), fun _ => 0))⟩
noncomputable def c3N : Sx.Spec := ⟨false, true, [.map, .row .hld, .int .i64], [[some .gst]], fun _ _ ⟨m, h, s, _⟩ => .ret (vW .gst fun _ => if N3 (m ()) (h ()) = true then n0 (m ()) (h ()) (s ()) else [], fun _ => 0)⟩
theorem c7v : b7 Tryz.prog 32 a6x := j8 j3 (ss := [(82, a6C), (83, b8X)]) ⟨c7B, c4C, trivial⟩ rfl rfl <| by
 intro (bs : Th (List Int)) (p : Th Int) ⟨(m : Th PMap), (s : Th Srv), u⟩ K _ _ ho h
 obtain ⟨m, rfl⟩ := a8 m; obtain ⟨s, rfl⟩ := a8 s
 have hl := okL (ho.2.1 _ (.tail _ (.head _)))
 have hl2 := okL (ho.2.1 _ (.tail _ (.tail _ (.head _))))
 refine ⟨annL [(32, 2, ⟨Nat, [], fun σ k => σ.t 10 (vI fun _ => (k : Int)), fun _ k _ => k ≤ s.holds.length ∧ l8 k (a1u m s.holds) = true, fun _ k _ => s.holds.length - k⟩)], noAnn, 20, ?_⟩
 cbv
 repeat' first | ((with_reducible refine fun (k : Nat) => ?_); cbv) | ((with_reducible intro _); cbv) | (with_reducible refine And.intro ?_ ?_)
 all_goals try ((first | (with_reducible refine LoopIn.mk ((0 : Nat)) ?_ ?_) | (with_reducible refine LoopBack.mk ((k + 1 : Nat)) ?_ ?_ ?_)) )
 all_goals try ((with_reducible show m6 _ _); cbv; (try simp only [and_true, true_and]))
 all_goals try (repeat' with_reducible refine And.intro ?_ ?_)
 all_goals first | (refine retK h ?_; clear h; simp only [fin0]) | (with_reducible refine Ob.mk ?_; clear h) | (clear h)
 all_goals (try simp only [eta0, RT.bytes] at *)
 all_goals grind [j5, e8, Z7, b4e, b4d, b8F, a3M, a1u, m8, m7]
theorem a8X : b7 Tryz.prog 143 a6x := j8 j3 (ss := [(72, B6), (182, a8G), (183, a6C)]) ⟨E5, b1m, a9b, trivial⟩ rfl rfl <| by
 intro (bs : Th (List Int)) (p : Th Int) ⟨(m : Th PMap), (s : Th Srv), u⟩ K _ _ ho h
 obtain ⟨m, rfl⟩ := a8 m; obtain ⟨s, rfl⟩ := a8 s
 have hl := okL (ho.2.1 _ (.tail _ (.head _)))
 have hl2 := okL (ho.2.1 _ (.tail _ (.tail _ (.head _))))
 have hb : n8 m = false ∨ A9 m s.n0 = false ∨ a3M s = false → y3 m s = false := by
  intro hh
  rcases hh with hh | hh | hh <;> simp [y3, Q3, hh]
 have hb2 : n8 m = true → A9 m s.n0 = true → Q3 m s.n0 = true := fun h1 h2 => by simp [Q3, h1, h2]
 refine ⟨annL [(143, 4, ⟨Nat, [], fun σ k => σ.t 5 (vI fun _ => (k : Int)), fun _ k _ => k ≤ s.holds.length ∧ Q3 m s.n0 = true ∧ a3M s = true ∧ l8 k (a1u m s.holds) = true, fun _ k _ => s.holds.length - k⟩)], noAnn, 20, ?_⟩
 cbv
 repeat' first | ((with_reducible refine fun (k : Nat) => ?_); cbv) | ((with_reducible intro _); cbv) | (with_reducible refine And.intro ?_ ?_)
 all_goals try ((first | (with_reducible refine LoopIn.mk ((0 : Nat)) ?_ ?_) | (with_reducible refine LoopBack.mk ((k + 1 : Nat)) ?_ ?_ ?_)) )
 all_goals try ((with_reducible show m6 _ _); cbv; (try simp only [and_true, true_and]))
 all_goals try (repeat' with_reducible refine And.intro ?_ ?_)
 all_goals first | (refine retK h ?_; clear h; simp only [fin0]) | (with_reducible refine Ob.mk ?_; clear h) | (clear h)
 all_goals (try simp only [eta0, RT.bytes] at *)
 all_goals grind [j5, e8, Z7, b4e, b4d, b8F, a3M, a1u, m8, m7]
theorem b5k : b7 Tryz.prog 160 a4i := j8 j3 (ss := []) trivial rfl rfl <| by
 intro (bs : Th (List Int)) (p : Th Int) ⟨(s : Th Srv), (c : Th Int), u⟩ K _ _ ho h
 obtain ⟨s, rfl⟩ := a8 s; obtain ⟨c, rfl⟩ := a8 c
 have hl := okL (ho.1 _ (.tail _ (.head _)))
 refine ⟨annL [(84, 2, ⟨Nat, [], fun σ k => σ.t 8 (vI fun _ => (k : Int)), fun _ k _ => k ≤ s.holds.length ∧ l8 k (a7E s.holds c) = true, fun _ k _ => s.holds.length - k⟩)], noAnn, 20, ?_⟩
 cbv
 repeat' first | ((with_reducible refine fun (k : Nat) => ?_); cbv) | ((with_reducible intro _); cbv) | (with_reducible refine And.intro ?_ ?_)
 all_goals try ((first | (with_reducible refine LoopIn.mk ((0 : Nat)) ?_ ?_) | (with_reducible refine LoopBack.mk ((k + 1 : Nat)) ?_ ?_ ?_)) )
 all_goals try ((with_reducible show m6 _ _); cbv; (try simp only [and_true, true_and]))
 all_goals try (repeat' with_reducible refine And.intro ?_ ?_)
 all_goals first | (refine retK h ?_; clear h; simp only [fin0]) | (with_reducible refine Ob.mk ?_; clear h) | (clear h)
 all_goals (try simp only [eta0, RT.bytes] at *)
 all_goals grind [m8, m7, a7E, S6, b9U, b1x, j5]
theorem a8Y : b7 Tryz.prog 176 a8C := j8 j3 (ss := [(179, a3s)]) ⟨a9d, trivial⟩ rfl rfl <| by
 intro (bs : Th (List Int)) (p : Th Int) ⟨(s : Th Srv), (c : Th Int), u⟩ K _ _ ho h
 obtain ⟨s, rfl⟩ := a8 s; obtain ⟨c, rfl⟩ := a8 c
 have hl := okL (ho.1 _ (.tail _ (.head _)))
 refine ⟨annL [(176, 2, ⟨Nat, [], fun σ k => σ.t 6 (vI fun _ => (k : Int)), fun _ k _ => k ≤ s.holds.length ∧ l8 k (a7E s.holds c) = true, fun _ k _ => s.holds.length - k⟩)], noAnn, 20, ?_⟩
 cbv
 repeat' first | ((with_reducible refine fun (k : Nat) => ?_); cbv) | ((with_reducible intro _); cbv) | (with_reducible refine And.intro ?_ ?_)
 all_goals try ((first | (with_reducible refine LoopIn.mk ((0 : Nat)) ?_ ?_) | (with_reducible refine LoopBack.mk ((k + 1 : Nat)) ?_ ?_ ?_)) )
 all_goals try ((with_reducible show m6 _ _); cbv; (try simp only [and_true, true_and]))
 all_goals try (repeat' with_reducible refine And.intro ?_ ?_)
 all_goals first | (refine retK h ?_; clear h; simp only [fin0]) | (with_reducible refine Ob.mk ?_; clear h) | (clear h)
 all_goals (try simp only [eta0, RT.bytes] at *)
 all_goals grind (splits := 40) [m8, m7, a7E, S6, b9U, b1x, j5, b9, v5, a2j, O7]
theorem b5n : b7 Tryz.prog 154 b2v := j8 j3 (ss := []) trivial rfl rfl <| by
 intro (bs : Th (List Int)) (p : Th Int) ⟨(l : Th (List Gst)), u⟩ K _ _ ho h
 obtain ⟨l, rfl⟩ := a8 l
 have hl := okB (ho.1 _ (.head _))
 refine ⟨noAnn, noAnn, 20, ?_⟩
 cbv
 repeat' first | ((with_reducible intro _); cbv) | (with_reducible refine And.intro ?_ ?_)
 all_goals first | (refine retK h ?_; clear h; simp only [fin0]) | (with_reducible refine Ob.mk ?_; clear h) | (clear h)
 all_goals (try simp only [eta0, RT.bytes] at *)
 all_goals grind
theorem c4I : b7 Tryz.prog 101 a4Z := j8 j3 (ss := [(154, b2v), (155, a3s)]) ⟨b5n, c4K, trivial⟩ rfl rfl <| by
 intro (bs : Th (List Int)) (p : Th Int) ⟨(s : Th Srv), u⟩ K _ _ ho h
 obtain ⟨s, rfl⟩ := a8 s
 have hl := okB (ho.1 _ (.tail _ (.head _)))
 have hl2 := okB (ho.1 _ (.tail _ (.tail _ (.head _))))
 have hz := a0B s.holds
 have hs := fun k => @H3 .hld s.holds k
 refine ⟨annL [(101, 3, ⟨Nat, [⟨.cell 4 1, some 25, .hld⟩], fun σ k => ((σ.t 15 (vI fun _ => (k : Int))).E7 4 1 (.own 25 1)).row 25 1 .hld (fun _ => pre s.holds k), fun _ k _ => k ≤ s.holds.length, fun _ k _ => s.holds.length - k⟩)], noAnn, 20, ?_⟩
 cbv
 repeat' first | ((with_reducible refine fun (k : Nat) => ?_); cbv) | ((with_reducible intro _); cbv) | (with_reducible refine And.intro ?_ ?_)
 all_goals try ((first | (with_reducible refine LoopIn.mk ((0 : Nat)) ?_ ?_) | (with_reducible refine LoopBack.mk ((k + 1 : Nat)) ?_ ?_ ?_)) )
 all_goals try ((with_reducible show m6 _ _); cbv; (try simp only [and_true, true_and]))
 all_goals try (repeat' with_reducible refine And.intro ?_ ?_)
 all_goals first | (refine retK h ?_; clear h; simp only [fin0]) | (with_reducible refine Ob.mk ?_; clear h) | (clear h)
 all_goals (try simp only [eta0, RT.bytes] at *)
 all_goals grind [X2, a0C, j5]
theorem b1n : b7 Tryz.prog 133 a4Z := j8 j3 (ss := [(179, a3s)]) ⟨a9d, trivial⟩ rfl rfl <| by
 intro (bs : Th (List Int)) (p : Th Int) ⟨(s : Th Srv), u⟩ K _ _ ho h
 obtain ⟨s, rfl⟩ := a8 s
 have hl := okB (ho.1 _ (.tail _ (.head _)))
 have hl2 := okB (ho.1 _ (.tail _ (.tail _ (.head _))))
 have hz := a0B s.holds
 have hs := fun k => @H3 .hld s.holds k
 refine ⟨annL [(133, 3, ⟨Nat, [⟨.cell 4 1, some 29, .hld⟩], fun σ k => (((σ.fg 8).t 4 (vI fun _ => (k : Int))).E7 4 1 (.own 29 1)).row 29 1 .hld (fun _ => pre s.holds k), fun _ k _ => k ≤ s.holds.length, fun _ k _ => s.holds.length - k⟩)], noAnn, 20, ?_⟩
 cbv
 repeat' first | ((with_reducible refine fun (k : Nat) => ?_); cbv) | ((with_reducible intro _); cbv) | (with_reducible refine And.intro ?_ ?_)
 all_goals try ((first | (with_reducible refine LoopIn.mk ((0 : Nat)) ?_ ?_) | (with_reducible refine LoopBack.mk ((k + 1 : Nat)) ?_ ?_ ?_)) )
 all_goals try ((with_reducible show m6 _ _); cbv; (try simp only [and_true, true_and]))
 all_goals try (repeat' with_reducible refine And.intro ?_ ?_)
 all_goals first | (refine retK h ?_; clear h; simp only [fin0]) | (with_reducible refine Ob.mk ?_; clear h) | (clear h)
 all_goals (try simp only [eta0, RT.bytes] at *)
 all_goals grind [X2, a0C, j5]
theorem c1Z : b7 Tryz.prog 98 a2E := j8 j3 (ss := [(153, a0z)]) ⟨b5m, trivial⟩ rfl rfl <| by
 intro (bs : Th (List Int)) (p : Th Int) ⟨(l : Th (List Sto)), u⟩ K _ _ ho h
 obtain ⟨l, rfl⟩ := a8 l
 have hl := okB (ho.1 _ (.head _))
 have hz := a0B l
 have hs := fun k => @H3 .sto l k
 refine ⟨annL [(98, 3, ⟨Nat, [⟨.tmp 3 0, some 17, .sto⟩], fun σ k => ((σ.t 8 (vI fun _ => (k : Int))).t 3 (vO 17 1)).row 17 1 .sto (fun _ => pre l k), fun _ k _ => k ≤ l.length, fun _ k _ => l.length - k⟩)], noAnn, 20, ?_⟩
 cbv
 repeat' first | ((with_reducible refine fun (k : Nat) => ?_); cbv) | ((with_reducible intro _); cbv) | (with_reducible refine And.intro ?_ ?_)
 all_goals try ((first | (with_reducible refine LoopIn.mk ((0 : Nat)) ?_ ?_) | (with_reducible refine LoopBack.mk ((k + 1 : Nat)) ?_ ?_ ?_)) )
 all_goals try ((with_reducible show m6 _ _); cbv; (try simp only [and_true, true_and]))
 all_goals try (repeat' with_reducible refine And.intro ?_ ?_)
 all_goals first | (refine retK h ?_; clear h; simp only [fin0]) | (with_reducible refine Ob.mk ?_; clear h) | (clear h)
 all_goals (try simp only [eta0, RT.bytes] at *)
 all_goals grind [X2, a0C, j5]
theorem a7D : b7 Tryz.prog 131 a2E := j8 j3 (ss := [(178, a0z)]) ⟨a5x, trivial⟩ rfl rfl <| by
 intro (bs : Th (List Int)) (p : Th Int) ⟨(l : Th (List Sto)), u⟩ K _ _ ho h
 obtain ⟨l, rfl⟩ := a8 l
 have hl := okB (ho.1 _ (.head _))
 have hz := a0B l
 have hs := fun k => @H3 .sto l k
 refine ⟨annL [(131, 3, ⟨Nat, [⟨.tmp 3 0, some 6, .sto⟩], fun σ k => (((σ.fg 6).t 4 (vI fun _ => (k : Int))).t 3 (vO 6 1)).row 6 1 .sto (fun _ => pre l k), fun _ k _ => k ≤ l.length, fun _ k _ => l.length - k⟩)], noAnn, 20, ?_⟩
 cbv
 repeat' first | ((with_reducible refine fun (k : Nat) => ?_); cbv) | ((with_reducible intro _); cbv) | (with_reducible refine And.intro ?_ ?_)
 all_goals try ((first | (with_reducible refine LoopIn.mk ((0 : Nat)) ?_ ?_) | (with_reducible refine LoopBack.mk ((k + 1 : Nat)) ?_ ?_ ?_)) )
 all_goals try ((with_reducible show m6 _ _); cbv; (try simp only [and_true, true_and]))
 all_goals try (repeat' with_reducible refine And.intro ?_ ?_)
 all_goals first | (refine retK h ?_; clear h; simp only [fin0]) | (with_reducible refine Ob.mk ?_; clear h) | (clear h)
 all_goals (try simp only [eta0, RT.bytes] at *)
 all_goals grind [X2, a0C, j5]
theorem c4o : b7 Tryz.prog 30 a4V := j8 j3 (ss := [(79, a1L), (47, B6)]) ⟨c7t, S3, trivial⟩ rfl rfl <| by
 intro (bs : Th (List Int)) (p : Th Int) ⟨(m : Th PMap), (l : Th (List Sto)), u⟩ K _ _ ho h
 obtain ⟨m, rfl⟩ := a8 m; obtain ⟨l, rfl⟩ := a8 l
 have hl := okL (ho.2.1 _ (.head _))
 refine ⟨annL [(30, 2, ⟨Nat, [], fun σ k => σ.t 9 (vI fun _ => (k : Int)), fun _ k _ => k ≤ l.length ∧ l8 k (a1d m l) = true, fun _ k _ => l.length - k⟩)], noAnn, 20, ?_⟩
 cbv
 repeat' first | ((with_reducible refine fun (k : Nat) => ?_); cbv) | ((with_reducible intro _); cbv) | (with_reducible refine And.intro ?_ ?_)
 all_goals try ((first | (with_reducible refine LoopIn.mk ((0 : Nat)) ?_ ?_) | (with_reducible refine LoopBack.mk ((k + 1 : Nat)) ?_ ?_ ?_)) )
 all_goals try ((with_reducible show m6 _ _); cbv; (try simp only [and_true, true_and]))
 all_goals try (repeat' with_reducible refine And.intro ?_ ?_)
 all_goals first | (refine retK h ?_; clear h; simp only [fin0]) | (with_reducible refine Ob.mk ?_; clear h) | (clear h)
 all_goals (try simp only [eta0, RT.bytes] at *)
 all_goals grind [j5, b0L, b0K, b3W, a1d, m8, m7]
theorem b1l : b7 Tryz.prog 74 a4V := j8 j3 (ss := [(72, B6), (141, a1L)]) ⟨E5, a1o, trivial⟩ rfl rfl <| by
 intro (bs : Th (List Int)) (p : Th Int) ⟨(m : Th PMap), (l : Th (List Sto)), u⟩ K _ _ ho h
 obtain ⟨m, rfl⟩ := a8 m; obtain ⟨l, rfl⟩ := a8 l
 have hl := okL (ho.2.1 _ (.head _))
 have hb : n8 m = false ∨ ¬ (l.length : Int) = m.cells → x7 m l = false := by
  intro hh
  rcases hh with hh | hh <;> simp [x7, hh]
 refine ⟨annL [(74, 4, ⟨Nat, [], fun σ k => σ.t 5 (vI fun _ => (k : Int)), fun _ k _ => k ≤ l.length ∧ n8 m = true ∧ (l.length : Int) = m.cells ∧ l8 k (a1d m l) = true, fun _ k _ => l.length - k⟩)], noAnn, 20, ?_⟩
 cbv
 repeat' first | ((with_reducible refine fun (k : Nat) => ?_); cbv) | ((with_reducible intro _); cbv) | (with_reducible refine And.intro ?_ ?_)
 all_goals try ((first | (with_reducible refine LoopIn.mk ((0 : Nat)) ?_ ?_) | (with_reducible refine LoopBack.mk ((k + 1 : Nat)) ?_ ?_ ?_)) )
 all_goals try ((with_reducible show m6 _ _); cbv; (try simp only [and_true, true_and]))
 all_goals try (repeat' with_reducible refine And.intro ?_ ?_)
 all_goals first | (refine retK h ?_; clear h; simp only [fin0]) | (with_reducible refine Ob.mk ?_; clear h) | (clear h)
 all_goals (try simp only [eta0, RT.bytes] at *)
 all_goals grind [j5, b0L, b0K, b3W, a1d, m8, m7]
theorem c4E : b7 Tryz.prog 161 b8Z := j8 j3 (ss := [(46, P1)]) ⟨a1p, trivial⟩ rfl rfl <| by
 intro (bs : Th (List Int)) (p : Th Int) ⟨(h0 : Th Hld), (m : Th PMap), (s : Th Int), u⟩ K _ _ ho h
 obtain ⟨h0, rfl⟩ := a8 h0; obtain ⟨m, rfl⟩ := a8 m; obtain ⟨s, rfl⟩ := a8 s
 obtain ⟨ha, h⟩ := h
 have ha := ha.out
 have hl := okB (ho.1 _ (.tail _ (.tail _ (.tail _ (.head _)))))
 have hz := b5W m h0 s
 refine ⟨annL [(161, 3, ⟨Nat, [⟨.tmp 7 0, some 33, .gst⟩], fun σ k => ((σ.t 14 (vI fun _ => (k : Int))).t 7 (vO 33 1)).row 33 1 .gst (fun _ => ghTo m h0 s k), fun _ k _ => k ≤ h0.state.wlks.length, fun _ k _ => h0.state.wlks.length - k⟩)], noAnn, 20, ?_⟩
 cbv
 repeat' first | ((with_reducible refine fun (k : Nat) => ?_); cbv) | ((with_reducible intro _); cbv) | (with_reducible refine And.intro ?_ ?_)
 all_goals try ((first | (with_reducible refine LoopIn.mk ((0 : Nat)) ?_ ?_) | (with_reducible refine LoopBack.mk ((k + 1 : Nat)) ?_ ?_ ?_)) )
 all_goals try ((with_reducible show m6 _ _); cbv; (try simp only [and_true, true_and]))
 all_goals try (repeat' with_reducible refine And.intro ?_ ?_)
 all_goals first | (refine retK h ?_; clear h; simp only [fin0]) | (with_reducible refine Ob.mk ?_; clear h) | (clear h)
 all_goals (try simp only [eta0, RT.bytes] at *)
 all_goals grind [b1F, b5V, b9Y, n0, j5]
theorem c4s : b7 Tryz.prog 210 c3N := j8 j3 (ss := [(183, a6C), (212, P1)]) ⟨a9b, a4n, trivial⟩ rfl rfl <| by
 intro (bs : Th (List Int)) (p : Th Int) ⟨(m : Th PMap), (h0 : Th Hld), (s : Th Int), u⟩ K _ _ ho h
 obtain ⟨m, rfl⟩ := a8 m; obtain ⟨h0, rfl⟩ := a8 h0; obtain ⟨s, rfl⟩ := a8 s
 have hn : N3 m h0 = true → h0.state.wlks.length ≤ 9 := fun h => V6 (y5.1 h).2.2
 have hl := okB (ho.2.1 _ (.tail _ (.tail _ (.tail _ (.head _)))))
 have hz := b5W m h0 s
 refine ⟨annL [(210, 5, ⟨Nat, [⟨.tmp 7 0, some 11, .gst⟩], fun σ k => (((σ.fg 11).t 8 (vI fun _ => (k : Int))).t 7 (vO 11 1)).row 11 1 .gst (fun _ => ghTo m h0 s k), fun _ k _ => k ≤ h0.state.wlks.length ∧ N3 m h0 = true, fun _ k _ => h0.state.wlks.length - k⟩)], noAnn, 20, ?_⟩
 cbv
 repeat' first | ((with_reducible refine fun (k : Nat) => ?_); cbv) | ((with_reducible intro _); cbv) | (with_reducible refine And.intro ?_ ?_)
 all_goals try ((first | (with_reducible refine LoopIn.mk ((0 : Nat)) ?_ ?_) | (with_reducible refine LoopBack.mk ((k + 1 : Nat)) ?_ ?_ ?_)) )
 all_goals try ((with_reducible show m6 _ _); cbv; (try simp only [and_true, true_and]))
 all_goals try (repeat' with_reducible refine And.intro ?_ ?_)
 all_goals first | (refine retK h ?_; clear h; simp only [fin0]) | (with_reducible refine Ob.mk ?_; clear h) | (clear h)
 all_goals (try simp only [eta0, RT.bytes] at *)
 all_goals grind [b1F, b5V, b9Y, n0, j5]
noncomputable def sTick : Sx.Spec := ⟨false, true, [.row .srv, .map, .arb, .int .i64], [[some .msg]], fun _ _ ⟨s, m, t, c, _⟩ => .asrt (fun _ => y3 (m ()) (s ()) = true) (.ret (vW .msg fun _ => A8 (m ()) (s ()) (t ()) (c ()), fun _ => 0))⟩
theorem takeIf {α : Type} (l : List α) : List.drop (Int.toNat 0) (List.take (if (l.length : Int) < 4 then (l.length : Int) else 4).toNat l) = l.take 4 := by
 show List.drop 0 _ = _
 rw [List.drop_zero]
 by_cases h : (l.length : Int) < 4
 ·rw [if_pos h, Int.toNat_natCast, List.take_of_length_le (by omega), List.take_of_length_le (by omega)]
 ·rw [if_neg h]; rfl
theorem a6Q {t : RT} {l : List t.ty} {k : Nat} (h : k < 4) : nth t (l.take 4) k = nth t l k := by
 unfold nth
 grind
theorem c0U {m : PMap} {s : Srv} {t : Arb} {c : Int} (ha : y3 m s = true) (hz : ¬ (e9 s.holds c < 0)) : (nth .hld s.holds (e9 s.holds c).toNat).state.outs.length = 2 ∧ (nth .hld s.holds (e9 s.holds c).toNat).state.wlks.length ≤ 9 ∧ tkTo m t (nth .hld s.holds (e9 s.holds c).toNat) c 2 = A8 m s t c := by
 have hp := a1Z s.holds c
 have h1 : v5 s c = true := by simp [v5]; omega
 have h2 : b9 s c = nth .hld s.holds (e9 s.holds c).toNat := by unfold b9; rw [if_pos (by omega)]
 have h3 := n6 (y5.1 (a4f ha (show (e9 s.holds c).toNat < s.holds.length by omega))).2.2
 refine ⟨h3.2.2.2.2.2.2.1, V6 (y5.1 (a4f ha (show (e9 s.holds c).toNat < s.holds.length by omega))).2.2, ?_⟩
 ·rw [← h2]; exact b3P h1
theorem c0T {m : PMap} {s : Srv} {t : Arb} {c : Int} (hz : e9 s.holds c < 0) : A8 m s t c = [] := by
 have h1 : v5 s c = false := by simp [v5]; omega
 unfold A8
 rw [h1]; rfl
theorem ncastU (n : Nat) : (NatCast.natCast n : Int) = (n : Int) := rfl
theorem c3j {k : Nat} (h : k ≤ 1000) : (IntKind.i64.wrap ((k : Int) + 1)).toNat = k + 1 := by rw [j5 (by omega)]; rfl
theorem c6U {m : PMap} {t : Arb} {h : Hld} {c : Int} {T : List Msg} {i j : Nat} (hj : j < (List.take 4 (nth .pcls h.state.outs i)).length) : T ++ tkP m t h c (i : Int) j ++ [(⟨5, n4 t (b6 m c i), b6 m c i, 1 - (i : Int), 0, ⟨0, 0, 0, 0, 0⟩, nth .pcl (List.take 4 (nth .pcls h.state.outs i)) j, ⟨0, 0, ⟨0, 0, 0, 0, 0⟩⟩⟩ : Msg)] = T ++ tkP m t h c (i : Int) (j + 1) := by
 have h2 : j < 4 ∧ j < (nth .pcls h.state.outs i).length := by rw [List.length_take] at hj; omega
 have h3 : j < (nth .pcls h.state.outs (i : Int).toNat).length := h2.2
 rw [b3Q h3, List.append_assoc, a6Q h2.1]
 rfl
theorem c6X {m : PMap} {t : Arb} {h : Hld} {c : Int} {T : List Msg} {i j : Nat} (hj : j < (List.take 4 (n0 m h (i : Int))).length) : T ++ tkG m t h c (i : Int) j ++ [(⟨7, n4 t (b6 m c i), b6 m c i, 1 - (i : Int), 0, ⟨0, 0, 0, 0, 0⟩, ⟨0, 0, ⟨0, 0, 0, 0, 0⟩, 0⟩, nth .gst (List.take 4 (n0 m h (i : Int))) j⟩ : Msg)] = T ++ tkG m t h c (i : Int) (j + 1) := by
 have h2 : j < 4 ∧ j < (n0 m h (i : Int)).length := by rw [List.length_take] at hj; omega
 rw [b3R h2.2, List.append_assoc, a6Q h2.1]
 rfl
theorem okTick : b7 Tryz.prog 108 sTick := j8 j3 (ss := [(160, a4i), (85, E2), (157, I1), (161, b8Z)]) ⟨b5k, Q5, a2S, c4E, trivial⟩ rfl rfl <| by
 intro (bs : Th (List Int)) (p : Th Int) ⟨(s : Th Srv), (m : Th PMap), (t : Th Arb), (c : Th Int), u⟩ K _ _ ho h
 obtain ⟨s, rfl⟩ := a8 s; obtain ⟨m, rfl⟩ := a8 m; obtain ⟨t, rfl⟩ := a8 t; obtain ⟨c, rfl⟩ := a8 c
 obtain ⟨ha, h⟩ := h
 have ha : y3 m s = true := ha.out
 have hp := a1Z s.holds c
 have hz : ¬ (e9 s.holds c < 0) → (nth .hld s.holds (e9 s.holds c).toNat).state.outs.length = 2 ∧ (nth .hld s.holds (e9 s.holds c).toNat).state.wlks.length ≤ 9 ∧ tkTo m t (nth .hld s.holds (e9 s.holds c).toNat) c 2 = A8 m s t c := fun hz => c0U ha hz
 have hz0 : e9 s.holds c < 0 → A8 m s t c = [] := fun hz => c0T hz
 have hn : ∀ k : Nat, (k : Int) < 2 → IntKind.i64.wrap (1 - (k : Int)) = 1 - (k : Int) := fun k hk => e8 (by omega) (by omega)
 refine ⟨annL [(108, 7, ⟨Th Int × Th Bool, [⟨.tmp 11 0, some 500, .msg⟩], fun σ g => (fun (H : Th Hld) => (((σ.only [3, 4, 5, 6, 8, 10]).t 33 (.one (.att (.int .i64 g.1)))).t 11 (vO 500 1)).row 500 1 .msg (fun _ => tkTo m t (nth .hld s.holds (e9 s.holds c).toNat) c (g.1 ()).toNat)) (fun _ => a2j), fun _ g _ => Ob fun _ => 0 ≤ g.1 () ∧ g.1 () ≤ 2 ∧ 0 ≤ e9 s.holds c, fun _ g _ => 2 - (g.1 ()).toNat⟩),
  (108, 14, ⟨Th Bool × Th Int, [⟨.tmp 11 0, some 500, .msg⟩], fun σ g => (fun (S : Th Int) => (((σ.only [3, 4, 5, 6, 8, 10, 12, 13, 14, 15, 33, 68, 69]).t 70 (.one (.att (.int .i64 g.2)))).t 11 (vO 500 1)).row 500 1 .msg (fun _ => tkTo m t (nth .hld s.holds (e9 s.holds c).toNat) c (S ()).toNat ++ tkP m t (nth .hld s.holds (e9 s.holds c).toNat) c (S ()) (g.2 ()).toNat)) (σ.tmI 12), fun σ g _ => Ob ((fun (S : Th Int) => fun _ => 0 ≤ g.2 () ∧ g.2 () ≤ 4 ∧ g.2 () ≤ (nth .pcls (nth .hld s.holds (e9 s.holds c).toNat).state.outs (S ()).toNat).length) (σ.tmI 12)), fun _ g _ => 5 - (g.2 ()).toNat⟩),
  (108, 22, ⟨Th Int × Th Int, [⟨.tmp 11 0, some 500, .msg⟩], fun σ g => (fun (S : Th Int) => (((σ.only [3, 4, 5, 6, 8, 10, 12, 13, 14, 15, 33, 91, 92]).t 93 (.one (.att (.int .i64 g.1)))).t 11 (vO 500 1)).row 500 1 .msg (fun _ => tkTo m t (nth .hld s.holds (e9 s.holds c).toNat) c (S ()).toNat ++ tkP m t (nth .hld s.holds (e9 s.holds c).toNat) c (S ()) 4 ++ tkG m t (nth .hld s.holds (e9 s.holds c).toNat) c (S ()) (g.1 ()).toNat)) (σ.tmI 12), fun σ g _ => Ob ((fun (S : Th Int) => fun _ => 0 ≤ g.1 () ∧ g.1 () ≤ 4 ∧ g.1 () ≤ (n0 m (nth .hld s.holds (e9 s.holds c).toNat) (S ())).length) (σ.tmI 12)), fun _ g _ => 5 - (g.1 ()).toNat⟩)], noAnn, 20, ?_⟩
 cbv
 repeat' first | ((with_reducible refine fun (g : Th Int × Th Bool) => ?_); obtain ⟨i, z⟩ := g; obtain ⟨i, rfl⟩ := a8 i; obtain ⟨z, rfl⟩ := a8 z; (with_reducible refine ImpB.out ?_); cbv; (with_reducible refine ImpB.mk ?_); intro hq; obtain ⟨hq⟩ := hq; have hq0 := hq.1; obtain ⟨i, rfl⟩ := Int.eq_ofNat_of_zero_le hq0; clear hq0) | ((with_reducible refine fun (g : Th Bool × Th Int) => ?_); obtain ⟨z, j⟩ := g; obtain ⟨z, rfl⟩ := a8 z; obtain ⟨j, rfl⟩ := a8 j; (with_reducible refine ImpB.out ?_); cbv; (with_reducible refine ImpB.mk ?_); intro hq; obtain ⟨hq⟩ := hq; have hq0 := hq.1; obtain ⟨j, rfl⟩ := Int.eq_ofNat_of_zero_le hq0; clear hq0) | ((with_reducible refine fun (g : Th Int × Th Int) => ?_); obtain ⟨k, z⟩ := g; obtain ⟨k, rfl⟩ := a8 k; obtain ⟨z, rfl⟩ := a8 z; (with_reducible refine ImpB.out ?_); cbv; (with_reducible refine ImpB.mk ?_); intro hq; obtain ⟨hq⟩ := hq; have hq0 := hq.1; obtain ⟨k, rfl⟩ := Int.eq_ofNat_of_zero_le hq0; clear hq0) | ((with_reducible intro _); cbv) | (with_reducible refine And.intro ?_ ?_)
 all_goals try ((first | (with_reducible refine LoopIn.wf (fun σ => (σ.tmI 33, A4)) ?_ ?_) | (with_reducible refine LoopBack.wf (fun σ => (σ.tmI 33, A4)) ?_ ?_ ?_) | (with_reducible refine LoopIn.wf (fun σ => (A4, σ.tmI 70)) ?_ ?_) | (with_reducible refine LoopBack.wf (fun σ => (A4, σ.tmI 70)) ?_ ?_ ?_) | (with_reducible refine LoopIn.wf (fun σ => (σ.tmI 93, Y2)) ?_ ?_) | (with_reducible refine LoopBack.wf (fun σ => (σ.tmI 93, Y2)) ?_ ?_ ?_)) <;> cbv)
 all_goals try (with_reducible show _ ∧ _; (try simp only [and_true, true_and]))
 all_goals try (repeat' with_reducible refine And.intro ?_ ?_)
 all_goals try (with_reducible refine MeasB.mk ?_)
 all_goals first | (refine retK h ?_; clear h; simp only [fin0]) | (with_reducible refine Ob.mk ?_; clear h) | (clear h)
 all_goals (try simp only [eta0, RT.bytes] at *)
 all_goals (try dsimp only [RT.ty] at *)
 all_goals (try simp only [takeIf, Int.toNat_natCast] at *)
 all_goals (try simp only [ncastU] at *)
 all_goals (try simp (disch := assumption) only [hn])
 all_goals (first | omega | (simp (disch := omega) only [c3j]; first | exact c6U ‹_› | exact c6X ‹_›) | grind [j5, c0R, c0S, c3p, c3q, b3Q, c6W, c3r, b3R, c6Z, c6V, c6Y, a8r, s5, u5, E8, a6Q])
end Go.Proofs.YtkclfaldmghkeaaGreat
