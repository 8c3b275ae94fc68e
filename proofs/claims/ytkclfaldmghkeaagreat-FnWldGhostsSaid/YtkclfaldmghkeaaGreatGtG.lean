/-
  The law FnWldGhosts.
-/
import Derived.Test.YtkclfaldmghkeaaGreatMx
import Derived.Test.YtkclfaldmghkeaaGreatGtA
set_option linter.unusedVariables false
set_option linter.unusedSimpArgs false
set_option maxRecDepth 100000
set_option maxHeartbeats 8000000
namespace Go.Proofs.YtkclfaldmghkeaaGreat
open Go.Sx Go.Proofs Go.Mo
noncomputable def b0X : Sx.Spec := ⟨false, true, [.list .byte], [], fun _ _ _ => .ret (vB fun _ => true, fun _ => 0)⟩
theorem gho_in {W : Wld} {l : List Evt} (h : BegE W ∧ l.length ≤ 149) : o6 W = true ∧ l.length ≤ 1000 ∧ From (J8 W l) ∧ o6 (J8 W l) = true := by
 have hb := h.1
 have hf := a4W (a6F hb) l
 exact ⟨a2C hb, by omega, hf, H0 hf⟩
theorem b4e {W : Wld} (h : From W) : W.servers.length ≤ 3 ∧ W.net.length ≤ 40 ∧ (∀ i : Nat, i < W.servers.length → (nth .srv W.servers i).m9.length ≤ 20) := by
 have hF := E4 (H0 h)
 exact ⟨hF.2.2.2.2.2.2.2.2, hF.2.2.2.1, fun i hi => ghost_few (H0 h) hi⟩
theorem gho_at {W : Wld} (h : From W) {L : List Gst} (hl : a0M W L) {i : Int} (h0 : 0 ≤ i) (h1 : i < L.length) :
  0 ≤ (nth .gst L i.toNat).src ∧ (nth .gst L i.toNat).src < W.stores.length ∧ 0 ≤ (nth .gst L i.toNat).count ∧ (nth .gst L i.toNat).count ≤ (nth .sto W.stores (nth .gst L i.toNat).src.toNat).recs.length ∧ S4 W.map (nth .gst L i.toNat) = true ∧
  r7 W.map (nth .sto W.stores (nth .gst L i.toNat).src.toNat).base = true ∧ (List.take (nth .gst L i.toNat).count.toNat (nth .sto W.stores (nth .gst L i.toNat).src.toNat).recs).length ≤ 250 ∧
  o7 (a0a W.map (nth .sto W.stores (nth .gst L i.toNat).src.toNat).base (List.take (nth .gst L i.toNat).count.toNat (nth .sto W.stores (nth .gst L i.toNat).src.toNat).recs)).wlks (nth .gst L i.toNat).wlk.id = true ∧
  @Eq Wlk (A3 (a0a W.map (nth .sto W.stores (nth .gst L i.toNat).src.toNat).base (List.take (nth .gst L i.toNat).count.toNat (nth .sto W.stores (nth .gst L i.toNat).src.toNat).recs)).wlks (nth .gst L i.toNat).wlk.id) (nth .gst L i.toNat).wlk := by
 obtain ⟨a1, a2, a3, a4, a5, a6, a7⟩ := ghost_at h hl (k := i.toNat) (by omega)
 generalize nth .gst L i.toNat = G at *
 have hok := H0 h
 have hst := z7.1 (m8.1 hok).2.1
 have hsz : (W.stores.length : Int) = W.map.cells := (a1x (m8.1 hok).2.1).1
 have hc := Z1 hok (c := G.src) a1 (by omega)
 have hs := s8.1 hc.2.1
 have hb : r7 W.map (nth .sto W.stores G.src.toNat).base = true := hs.2.1
 have hn : (nth .sto W.stores G.src.toNat).recs.length ≤ 250 := hs.2.2.1
 have hl2 : (List.take G.count.toNat (nth .sto W.stores G.src.toNat).recs).length ≤ 250 := by rw [List.length_take]; omega
 have e : y6 W.map (nth .sto W.stores G.src.toNat).base (List.take G.count.toNat (nth .sto W.stores G.src.toNat).recs) = ⟨a0a W.map (nth .sto W.stores G.src.toNat).base (List.take G.count.toNat (nth .sto W.stores G.src.toNat).recs), S6 W.map (nth .sto W.stores G.src.toNat).base (List.take G.count.toNat (nth .sto W.stores G.src.toNat).recs)⟩ := by rw [y6, if_pos ⟨hb, hl2⟩]
 rw [e] at a6 a7
 exact ⟨a1, a2, a3, a4, a5, hb, hl2, a6, a7⟩
theorem gho_b1 {W : Wld} {L : List Gst} {i : Int} (h : 0 ≤ i ∧ i ≤ W.servers.length ∧ W.servers.length ≤ 3 ∧ L.length ≤ 20 * i.toNat ∧ a0M W L ∧ From W) (hi : i < W.servers.length) :
  0 ≤ IntKind.i64.wrap (i + 1) ∧ IntKind.i64.wrap (i + 1) ≤ W.servers.length ∧ W.servers.length ≤ 3 ∧ L.length + (nth .srv W.servers i.toNat).m9.length ≤ 20 * (IntKind.i64.wrap (i + 1)).toNat ∧ a0M W (L ++ (nth .srv W.servers i.toNat).m9) ∧ From W := by
 obtain ⟨h1, h2, h3, h4, h5, h6⟩ := h
 have hw : IntKind.i64.wrap (i + 1) = i + 1 := b9 (by omega) (by omega)
 have := (b4e h6).2.2 i.toNat (by omega)
 rw [hw]
 exact ⟨by omega, by omega, h3, by omega, goodG_srv h6 h5 (by omega), h6⟩
theorem gho_len {W : Wld} {L : List Gst} {i : Int} (h : 0 ≤ i ∧ i ≤ W.servers.length ∧ W.servers.length ≤ 3 ∧ L.length ≤ 20 * i.toNat ∧ a0M W L ∧ From W) (hi : i < W.servers.length) :
  (L.length + (nth .srv W.servers i.toNat).m9.length) * 56 ≤ 140737488355328 := by
 obtain ⟨h1, h2, h3, h4, h5, h6⟩ := h
 have := (b4e h6).2.2 i.toNat (by omega)
 omega
theorem gho_b2 {W : Wld} {L : List Gst} {i : Int} (h : 0 ≤ i ∧ i ≤ W.net.length ∧ W.net.length ≤ 40 ∧ L.length ≤ 60 + i.toNat ∧ a0M W L ∧ From W) (hi : i < W.net.length) (hk : (nth .msg W.net i.toNat).kind = 7) :
  0 ≤ IntKind.i64.wrap (i + 1) ∧ IntKind.i64.wrap (i + 1) ≤ W.net.length ∧ W.net.length ≤ 40 ∧ L.length + (0 + 1) ≤ 60 + (IntKind.i64.wrap (i + 1)).toNat ∧ a0M W (L ++ [(nth .msg W.net i.toNat).gst]) ∧ From W := by
 obtain ⟨h1, h2, h3, h4, h5, h6⟩ := h
 have hw : IntKind.i64.wrap (i + 1) = i + 1 := b9 (by omega) (by omega)
 rw [hw]
 exact ⟨by omega, by omega, h3, by omega, goodG_net h6 h5 (by omega) hk, h6⟩
theorem a9E : b8 Tryz.prog 4 b0X := j6 j4 (ss := [(8, a1H), (11, P3), (28, P3), (10, a8A), (40, a1n), (41, b9X), (42, M9), (13, T8), (14, a2Z), (47, B8)]) ⟨a1N, a2o, a0y, b8j, b3L, b8p, a3o, a7k, b3J, Q8, trivial⟩ rfl rfl <| by
 intro (bs : Th (List Int)) (p : Th Int) ⟨(a : Th (List Int)), u⟩ K _ _ ho h
 obtain ⟨a, rfl⟩ := b6 a
 refine ⟨annL [(4, 9, ⟨Th Int × Th (List Gst), [⟨.tmp 5 0, some 30, .gst⟩], fun σ g => ((((σ.only [0, 3]).t 6 (.one (.att (.int .i64 g.1)))).t 5 (vO 30 1)).h 30 (1, .row true 0 .gst g.2)), fun σ g _ => Ob ((fun (W : Th Wld) => fun _ => 0 ≤ g.1 () ∧ g.1 () ≤ (W ()).servers.length ∧ (W ()).servers.length ≤ 3 ∧ (g.2 ()).length ≤ 20 * (g.1 ()).toNat ∧ a0M (W ()) (g.2 ()) ∧ From (W ())) (Q2 σ 4)), fun _ g _ => (10 - g.1 ()).toNat⟩),
  (4, 13, ⟨Th (List Gst) × Th Int, [⟨.tmp 5 0, some 30, .gst⟩], fun σ g => ((((σ.only [0, 3]).t 7 (.one (.att (.int .i64 g.2)))).t 5 (vO 30 1)).h 30 (1, .row true 0 .gst g.1)), fun σ g _ => Ob ((fun (W : Th Wld) => fun _ => 0 ≤ g.2 () ∧ g.2 () ≤ (W ()).net.length ∧ (W ()).net.length ≤ 40 ∧ (g.1 ()).length ≤ 60 + (g.2 ()).toNat ∧ a0M (W ()) (g.1 ()) ∧ From (W ())) (Q2 σ 4)), fun _ g _ => (151 - g.2 ()).toNat⟩),
  (4, 18, ⟨Th (List Gst) × Th Int × Th Bool, [], fun σ g => ((((σ.only [0, 3]).t 8 (.one (.att (.int .i64 g.2.1)))).t 5 (vO 30 1)).h 30 (1, .row true 0 .gst g.1)), fun σ g _ => Ob ((fun (W : Th Wld) => fun _ => 0 ≤ g.2.1 () ∧ g.2.1 () ≤ (g.1 ()).length ∧ (g.1 ()).length ≤ 100 ∧ a0M (W ()) (g.1 ()) ∧ From (W ())) (Q2 σ 4)), fun _ g _ => (151 - g.2.1 ()).toNat⟩)], noAnn, 20, ?_⟩
 cbv
 repeat' first | ((with_reducible refine fun (g : Th Int × Th (List Gst)) => ?_); obtain ⟨i, L⟩ := g; obtain ⟨i, rfl⟩ := b6 i; obtain ⟨L, rfl⟩ := b6 L; (with_reducible refine ImpB.out ?_); cbv; (with_reducible refine ImpB.mk ?_); intro hq; obtain ⟨hq⟩ := hq) | ((with_reducible refine fun (g : Th (List Gst) × Th Int) => ?_); obtain ⟨L, i⟩ := g; obtain ⟨L, rfl⟩ := b6 L; obtain ⟨i, rfl⟩ := b6 i; (with_reducible refine ImpB.out ?_); cbv; (with_reducible refine ImpB.mk ?_); intro hq; obtain ⟨hq⟩ := hq) | ((with_reducible refine fun (g : Th (List Gst) × Th Int × Th Bool) => ?_); obtain ⟨L, i, z⟩ := g; obtain ⟨L, rfl⟩ := b6 L; obtain ⟨i, rfl⟩ := b6 i; obtain ⟨z, rfl⟩ := b6 z; (with_reducible refine ImpB.out ?_); cbv; (with_reducible refine ImpB.mk ?_); intro hq; obtain ⟨hq⟩ := hq) | ((with_reducible intro _); cbv) | (with_reducible refine And.intro ?_ ?_)
 all_goals try ((first | (with_reducible refine LoopIn.wf (fun σ => (σ.tmI 6, σ.rowL .gst 30)) ?_ ?_) | (with_reducible refine LoopBack.wf (fun σ => (σ.tmI 6, σ.rowL .gst 30)) ?_ ?_ ?_) | (with_reducible refine LoopIn.wf (fun σ => (σ.rowL .gst 30, σ.tmI 7)) ?_ ?_) | (with_reducible refine LoopBack.wf (fun σ => (σ.rowL .gst 30, σ.tmI 7)) ?_ ?_ ?_) | (with_reducible refine LoopIn.wf (fun σ => (σ.rowL .gst 30, σ.tmI 8, y3)) ?_ ?_) | (with_reducible refine LoopBack.wf (fun σ => (σ.rowL .gst 30, σ.tmI 8, y3)) ?_ ?_ ?_)) <;> cbv)
 all_goals try (with_reducible show _ ∧ _; (try simp only [and_true, true_and]))
 all_goals try (repeat' with_reducible refine And.intro ?_ ?_)
 all_goals try (with_reducible refine MeasB.mk ?_)
 all_goals first | (refine retK h ?_; clear h; simp only [fin0]) | (with_reducible refine Ob.mk ?_; clear h) | (clear h)
 all_goals (try simp only [eta0, RT.bytes] at *)
 all_goals (try dsimp only [RT.ty] at *)
 all_goals (try simp only [a1a] at *)
 all_goals (try simp only [a9N] at *)
 all_goals (try simp only [eta0, RT.bytes] at *)
 all_goals (try have hO := gho_in (by assumption))
 all_goals (try dsimp only [RT.ty] at hO)
 all_goals (try generalize J8 _ _ = W at *)
 all_goals (try have hN := b4e hO.2.2.1)
 all_goals (try simp only [Int.toNat_zero, List.drop_zero] at *)
 all_goals first | rfl | assumption | omega | exact gho_b1 hq (by assumption) | exact gho_len hq (by assumption) | exact gho_b2 hq (by assumption) (by assumption) | skip
 all_goals (try have hwi : IntKind.i64.wrap (i + 1) = i + 1 := b9 (by omega) (by omega))
 all_goals (try rw [hwi])
 all_goals (try omega)
 all_goals (try have hA := gho_at hq.2.2.2.2 hq.2.2.2.1 hq.1 (by assumption))
 all_goals (try obtain ⟨a1, a2, a3, a4, a5, a6, a7, a8, a9⟩ := hA)
 all_goals (try dsimp only [RT.ty] at *)
 all_goals first | exact ⟨a1, a2⟩ | exact ⟨by omega, by omega, by omega, b2m _, hO.2.2.1⟩ | exact ⟨by omega, by omega, by omega, by omega, b2m _, hO.2.2.1⟩ | exact ⟨a6, a7⟩ | exact ⟨by omega, a3, a4⟩ | (rw [a5] at *; contradiction) | grind
end Go.Proofs.YtkclfaldmghkeaaGreat
