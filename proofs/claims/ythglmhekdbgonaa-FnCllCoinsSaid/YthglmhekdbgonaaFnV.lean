/-
  Contracts: coins counted.
-/
import Derived.Test.YthglmhekdbgonaaFnFb
import Derived.Test.YthglmhekdbgonaaFnF
import Derived.Test.YthglmhekdbgonaaM2
set_option linter.unusedVariables false
set_option linter.unusedSimpArgs false
namespace Go.Proofs.Ythglmhekdbgonaa
open Go.Sx Go.Proofs Go.Mo
set_option maxRecDepth 100000
set_option maxHeartbeats 8000000
set_option linter.unusedSimpArgs false
set_option linter.unusedVariables false

noncomputable def sCoins : Sx.Spec := ⟨false, true, [.map, .row .cll], [], fun _ _ ⟨m, c, _⟩ => .ret (vI fun _ => cllCoins (m ()) (c ()), fun _ => 0)⟩

theorem coins_facts {m : PMap} {c : Cll} (h : cllOk m c = true) : (∀ k, 0 ≤ sumK wC c.wlks k ∧ sumK wC c.wlks k ≤ 1000) ∧ (∀ k, 0 ≤ sumK oC c.outs k ∧ sumK oC c.outs k ≤ 2000000) ∧ ∀ s, s < 2 → ∀ k, 0 ≤ sumK pC (nth .pcls c.outs s) k ∧ sumK pC (nth .pcls c.outs s) k ≤ 1000000 := by
  have hl := cllOk_len h
  have ho := (cllOk_facts h).2.2.2.2.2.2.1
  refine ⟨fun k => ?_, fun k => ?_, fun s hs k => ?_⟩
  · have h1 := sumK_le (by decide) (wC_le h) k
    omega
  · have h1 := sumK_le (by decide) (oC_le h) k
    rw [ho] at h1
    omega
  · have hsd := cllOk_side h hs
    have h1 := sumK_le (by decide) (pC_le hsd.2.2.2) k
    have h2 : ((nth .pcls c.outs s).length : Int) ≤ 5000 := Int.le_trans hsd.2.2.1 hsd.1.2
    have h3 : ((nth .pcls c.outs s).length : Int) * 200 ≤ 5000 * 200 := Int.mul_le_mul_of_nonneg_right h2 (by decide)
    exact ⟨h1.1, Int.le_trans h1.2 h3⟩
theorem wC_succ {l : List Wlk} {k : Nat} (h : k < l.length) : sumK wC l (k + 1) = sumK wC l k + (nth .wlk l k).coins := sumK_succ .wlk wC h
theorem oC_succ {l : List (List Pcl)} {k : Nat} (h : k < l.length) : sumK oC l (k + 1) = sumK oC l k + sumL pC (nth .pcls l k) := sumK_succ .pcls oC h
theorem pC_succ {l : List Pcl} {k : Nat} (h : k < l.length) : sumK pC l (k + 1) = sumK pC l k + ((nth .pcl l k).coins + (nth .pcl l k).wlk.coins) := sumK_succ .pcl pC h
def oInv (m : PMap) (c : Cll) (s k : Nat) : Prop := s < 2 ∧ cllOk m c = true ∧ k ≤ (nth .pcls c.outs s).length

theorem pc_parts {m : PMap} {l : List Pcl} {n : Int} (h : pclListOk m l n = true) {k : Nat} (hk : k < l.length) : (0 ≤ (nth .pcl l k).coins ∧ (nth .pcl l k).coins ≤ 100) ∧ 0 ≤ (nth .pcl l k).wlk.coins ∧ (nth .pcl l k).wlk.coins ≤ 100 := by
  have h1 := pclOk_iff.1 (((pclListOk_iff.1 h).2.2.2.2 k hk).1)
  rcases h1.2.2.2 with ⟨_, hw, hc⟩ | ⟨_, hz, hc⟩
  · have := wlkOk_iff.1 hw
    omega
  · simp [zeroW] at hz
    omega
theorem in_bounds {m : PMap} {c : Cll} {s k : Nat} (h : oInv m c s k) (hk : k < (nth .pcls c.outs s).length) : (0 ≤ c.ground + sumL wC c.wlks + sumK oC c.outs s + sumK pC (nth .pcls c.outs s) k ∧ c.ground + sumL wC c.wlks + sumK oC c.outs s + sumK pC (nth .pcls c.outs s) k ≤ 9000000) ∧
    (0 ≤ (nth .pcl (nth .pcls c.outs s) k).coins ∧ (nth .pcl (nth .pcls c.outs s) k).coins ≤ 100) ∧ 0 ≤ (nth .pcl (nth .pcls c.outs s) k).wlk.coins ∧ (nth .pcl (nth .pcls c.outs s) k).wlk.coins ≤ 100 := by
  obtain ⟨hs, hc, _⟩ := h
  obtain ⟨h1, h2, h3⟩ := coins_facts hc
  have hf := cllOk_facts hc
  have ha := h1 c.wlks.length
  rw [sumK_all wC rfl] at ha
  have hb := h2 s
  have hd := h3 s hs k
  exact ⟨by omega, pc_parts (cllOk_side hc hs).2.2.2 hk⟩
theorem in_wrap1 {m : PMap} {c : Cll} {s k : Nat} (h : oInv m c s k) (hk : k < (nth .pcls c.outs s).length) : IntKind.i64.wrap (c.ground + sumL wC c.wlks + sumK oC c.outs s + sumK pC (nth .pcls c.outs s) k + IntKind.i64.wrap ((nth .pcl (nth .pcls c.outs s) k).coins + (nth .pcl (nth .pcls c.outs s) k).wlk.coins)) = c.ground + sumL wC c.wlks + sumK oC c.outs s + sumK pC (nth .pcls c.outs s) (k + 1) := by
  obtain ⟨h1, h2, h3⟩ := in_bounds h hk
  rw [wrap_id (n := (nth .pcl (nth .pcls c.outs s) k).coins + (nth .pcl (nth .pcls c.outs s) k).wlk.coins) (by omega) (by omega), wrap_id (by omega) (by omega), pC_succ hk]
  omega
theorem in_wrap2 {m : PMap} {c : Cll} {s k : Nat} (h : oInv m c s k) (hk : k < (nth .pcls c.outs s).length) : IntKind.i64.wrap (IntKind.i64.wrap (c.ground + sumL wC c.wlks + sumK oC c.outs s + sumK pC (nth .pcls c.outs s) k + (nth .pcl (nth .pcls c.outs s) k).coins) + (nth .pcl (nth .pcls c.outs s) k).wlk.coins) = c.ground + sumL wC c.wlks + sumK oC c.outs s + sumK pC (nth .pcls c.outs s) (k + 1) := by
  obtain ⟨h1, h2, h3⟩ := in_bounds h hk
  rw [wrap_id (n := c.ground + sumL wC c.wlks + sumK oC c.outs s + sumK pC (nth .pcls c.outs s) k + (nth .pcl (nth .pcls c.outs s) k).coins) (by omega) (by omega), wrap_id (by omega) (by omega), pC_succ hk]
  omega
theorem out_sum {c : Cll} {s k : Nat} (hs : s < c.outs.length) (hk : k = (nth .pcls c.outs s).length) : sumK oC c.outs s + sumK pC (nth .pcls c.outs s) k = sumK oC c.outs (s + 1) := by
  rw [oC_succ hs, sumK_all pC hk]
theorem w_wrap {m : PMap} {c : Cll} {k : Nat} (h : cllOk m c = true) (hk : k < c.wlks.length) : IntKind.i64.wrap (c.ground + sumK wC c.wlks k + (nth .wlk c.wlks k).coins) = c.ground + sumK wC c.wlks (k + 1) := by
  have h1 := (coins_facts h).1 k
  have h2 := cllOk_wlk h hk
  have h3 := cllOk_facts h
  rw [wrap_id (by omega) (by omega), wC_succ hk]
  omega

theorem okCoins : SpecOk1 Try.prog 17 sCoins := spec1 tabOk (ss := [(13, sCllOk)]) ⟨okCllOk, trivial⟩ rfl rfl <| by
  intro (bs : Th (List Int)) (p : Th Int) ⟨(m : Th PMap), (c : Th Cll), u⟩ K _ _ ho h
  obtain ⟨m, rfl⟩ := th_ex m; obtain ⟨c, rfl⟩ := th_ex c
  obtain ⟨hw, hou, hoi, hn, hi, _, _⟩ := okCll ho.2.1
  have hcf := @coins_facts m c
  have hf := @cllOk_facts m c
  have hpc : cllOk m c = true → ∀ s, s < 2 → ∀ x ∈ nth .pcls c.outs s, 0 ≤ pC x ∧ pC x ≤ 200 := fun h s hs => pC_le (cllOk_side h hs).2.2.2
  refine ⟨annL [(17, 5, ⟨Nat, [], fun σ k => (σ.t 21 (vI fun _ => (k : Int))).t 5 (vI fun _ => c.ground + sumK wC c.wlks k), fun _ k _ => k ≤ c.wlks.length ∧ cllOk m c = true, fun _ k _ => c.wlks.length - k⟩),
    (17, 10, ⟨Nat × Unit, [], fun σ q => (σ.t 33 (vI fun _ => (q.1 : Int))).t 5 (vI fun _ => c.ground + sumL wC c.wlks + sumK oC c.outs q.1), fun _ q _ => q.1 ≤ c.outs.length ∧ cllOk m c = true, fun _ q _ => c.outs.length - q.1⟩),
    (17, 13, ⟨Nat, [], fun σ k => (σ.t 39 (vI fun _ => (k : Int))).t 5 (vI fun _ => c.ground + sumL wC c.wlks + sumK oC c.outs (σ.nat 33) + sumK pC (nth .pcls c.outs (σ.nat 33)) k), fun σ k _ => oInv m c (σ.nat 33) k, fun σ k _ => (nth .pcls c.outs (σ.nat 33)).length - k⟩)], noAnn, 20, ?_⟩
  cbv
  repeat' first | ((with_reducible refine fun (k : Nat) => ?_); cbv) | ((with_reducible refine fun (q : Nat × Unit) => ?_); obtain ⟨s, _⟩ := q; cbv) | ((with_reducible refine fun (q : Nat × Nat) => ?_); obtain ⟨s, k⟩ := q; cbv) | ((with_reducible intro _); cbv) | ((with_reducible show _ ∧ _); (with_reducible apply And.intro))
  all_goals try ((first | (with_reducible refine LoopIn.mk ((0 : Nat)) ?_ ?_) | (with_reducible refine LoopIn.mk (((0, ()) : Nat × Unit)) ?_ ?_) | (with_reducible refine LoopBack.mk ((k + 1 : Nat)) ?_ ?_ ?_) | (with_reducible refine LoopBack.mk (((s + 1, ()) : Nat × Unit)) ?_ ?_ ?_)) )
  all_goals try ((with_reducible show matchSt _ _); cbv; (try simp only [and_true, true_and]))
  all_goals (try simp only [St.nat, St.int, Tr.get, Nat.reduceMod, Nat.reduceDiv, Nat.one_ne_zero, if_false, if_true, ↓reduceIte] at *)
  all_goals try (with_reducible show _ ∧ _; (repeat' (with_reducible apply And.intro)))
  all_goals first | (refine retK h ?_; clear h; simp only [vB, vI, vL, vW, cI, oMap, oWlk, oOrd, oPcl, oRec, oCll, rCll, oSto, oHld, oGst, oArb, oMsg, oSrv, oRow, oNote, oEvt, oOW, oOne, oWld, encMap, encWlk, encOrd, encPcl, encRec, encCll, encSto, encHld, encGst, encArb, encMsg, encSrv, encRow, encNote, encEvt, encOW, encOne, encWld, oAs, rAs, oA, List.map_cons, List.map_nil, C.ownd.injEq, A.list.injEq, heq_eq_eq, SB.val, Prod.mk.injEq, V.one.injEq, V.agg.injEq, V.tup.injEq, List.cons.injEq, C.at.injEq, A.bool.injEq, A.int.injEq, SB.of.injEq, th_eq, thp_eq, and_true, true_and]) | (with_reducible refine Ob.mk ?_; clear h) | (clear h)
  all_goals (try simp only [eta_map, eta_wlk, eta_ord, eta_pcl, eta_cll, eta_rec, eta_sto, eta_hld, eta_gst, eta_arb, eta_msg, eta_srv, eta_row, eta_note, eta_evt, eta_ow, eta_one, eta_wld, Int.toNat_natCast, Nat.succ_eq_add_one, decide_eq_true_eq, decide_eq_false_iff_not, Int.ofNat_lt, Int.ofNat_le, Int.natCast_pos, Bool.not_eq_true', Bool.not_eq_false', castL_self, SB.val, evT, RT.bytes, List.length_append, List.length_cons, List.length_nil] at *)
  all_goals (try have hbk := okL (t := .pcls) (l := c.outs) (by first | exact ho.2.1 _ (.tail _ (.tail _ (.tail _ (.head _))))))
  all_goals grind [cllCoins, oInv, sumK_zero, in_wrap1, in_wrap2, out_sum, w_wrap, sumK_all, wrap_succ]

theorem okSCoins : SpecOk1 Try.prog 18 sCoins := spec1 tabOk (ss := [(14, sCllOk)]) ⟨okSCllOk, trivial⟩ rfl rfl <| by
  intro (bs : Th (List Int)) (p : Th Int) ⟨(m : Th PMap), (c : Th Cll), u⟩ K _ _ ho h
  obtain ⟨m, rfl⟩ := th_ex m; obtain ⟨c, rfl⟩ := th_ex c
  obtain ⟨hw, hou, hoi, hn, hi, _, _⟩ := okCll ho.2.1
  have hcf := @coins_facts m c
  have hf := @cllOk_facts m c
  refine ⟨annL [(18, 5, ⟨Nat, [], fun σ k => (σ.t 6 (vI fun _ => (k : Int))).t 5 (vI fun _ => c.ground + sumK wC c.wlks k), fun _ k _ => k ≤ c.wlks.length ∧ cllOk m c = true, fun _ k _ => c.wlks.length - k⟩),
    (18, 9, ⟨Nat × Unit, [], fun σ q => (σ.t 7 (vI fun _ => (q.1 : Int))).t 5 (vI fun _ => c.ground + sumL wC c.wlks + sumK oC c.outs q.1), fun _ q _ => q.1 ≤ c.outs.length ∧ cllOk m c = true, fun _ q _ => c.outs.length - q.1⟩),
    (18, 12, ⟨Nat, [], fun σ k => (σ.t 8 (vI fun _ => (k : Int))).t 5 (vI fun _ => c.ground + sumL wC c.wlks + sumK oC c.outs (σ.nat 7) + sumK pC (nth .pcls c.outs (σ.nat 7)) k), fun σ k _ => oInv m c (σ.nat 7) k, fun σ k _ => (nth .pcls c.outs (σ.nat 7)).length - k⟩)], noAnn, 20, ?_⟩
  cbv
  repeat' first | ((with_reducible refine fun (k : Nat) => ?_); cbv) | ((with_reducible refine fun (q : Nat × Unit) => ?_); obtain ⟨s, _⟩ := q; cbv) | ((with_reducible refine fun (q : Nat × Nat) => ?_); obtain ⟨s, k⟩ := q; cbv) | ((with_reducible intro _); cbv) | ((with_reducible show _ ∧ _); (with_reducible apply And.intro))
  all_goals try ((first | (with_reducible refine LoopIn.mk ((0 : Nat)) ?_ ?_) | (with_reducible refine LoopIn.mk (((0, ()) : Nat × Unit)) ?_ ?_) | (with_reducible refine LoopBack.mk ((k + 1 : Nat)) ?_ ?_ ?_) | (with_reducible refine LoopBack.mk (((s + 1, ()) : Nat × Unit)) ?_ ?_ ?_)) )
  all_goals try ((with_reducible show matchSt _ _); cbv; (try simp only [and_true, true_and]))
  all_goals (try simp only [St.nat, St.int, Tr.get, Nat.reduceMod, Nat.reduceDiv, Nat.one_ne_zero, if_false, if_true, ↓reduceIte] at *)
  all_goals try (with_reducible show _ ∧ _; (repeat' (with_reducible apply And.intro)))
  all_goals first | (refine retK h ?_; clear h; simp only [vB, vI, vL, vW, cI, oMap, oWlk, oOrd, oPcl, oRec, oCll, rCll, oSto, oHld, oGst, oArb, oMsg, oSrv, oRow, oNote, oEvt, oOW, oOne, oWld, encMap, encWlk, encOrd, encPcl, encRec, encCll, encSto, encHld, encGst, encArb, encMsg, encSrv, encRow, encNote, encEvt, encOW, encOne, encWld, oAs, rAs, oA, List.map_cons, List.map_nil, C.ownd.injEq, A.list.injEq, heq_eq_eq, SB.val, Prod.mk.injEq, V.one.injEq, V.agg.injEq, V.tup.injEq, List.cons.injEq, C.at.injEq, A.bool.injEq, A.int.injEq, SB.of.injEq, th_eq, thp_eq, and_true, true_and]) | (with_reducible refine Ob.mk ?_; clear h) | (clear h)
  all_goals (try simp only [eta_map, eta_wlk, eta_ord, eta_pcl, eta_cll, eta_rec, eta_sto, eta_hld, eta_gst, eta_arb, eta_msg, eta_srv, eta_row, eta_note, eta_evt, eta_ow, eta_one, eta_wld, Int.toNat_natCast, Nat.succ_eq_add_one, decide_eq_true_eq, decide_eq_false_iff_not, Int.ofNat_lt, Int.ofNat_le, Int.natCast_pos, Bool.not_eq_true', Bool.not_eq_false', castL_self, SB.val, evT, RT.bytes, List.length_append, List.length_cons, List.length_nil] at *)
  all_goals (try have hbk := okL (t := .pcls) (l := c.outs) (by first | exact ho.2.1 _ (.tail _ (.tail _ (.tail _ (.head _))))))
  all_goals grind [cllCoins, oInv, sumK_zero, in_wrap1, in_wrap2, out_sum, w_wrap, sumK_all, wrap_succ]

end Go.Proofs.Ythglmhekdbgonaa
