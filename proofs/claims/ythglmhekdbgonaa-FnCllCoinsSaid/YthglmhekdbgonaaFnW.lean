/-
  The law: no order makes a coin, and none loses one.
-/
import Derived.Test.YthglmhekdbgonaaFnU
import Derived.Test.YthglmhekdbgonaaFnV
set_option linter.unusedVariables false
set_option linter.unusedSimpArgs false
namespace Go.Proofs.Ythglmhekdbgonaa
open Go.Sx Go.Proofs Go.Mo
set_option maxRecDepth 100000
set_option maxHeartbeats 8000000
set_option linter.unusedSimpArgs false
set_option linter.unusedVariables false

theorem inX_wrap {m : PMap} {c : Cll} {s : Int} {p : Pcl} (h : (cllInX m c s p).ok = true) : cllCoins m (cllInX m c s p).c = IntKind.i64.wrap (IntKind.i64.wrap (cllCoins m c + p.coins) + p.wlk.coins) := by
  have hh : cllOk m c = true ∧ pclOk m p = true := by
    unfold cllInX at h
    split at h
    · rename_i g
      exact ⟨g.1, g.2.1⟩
    · cases h
  rw [inX_coins h]
  have hc : 0 ≤ cllCoins m c ∧ cllCoins m c ≤ 3000000 := by
    unfold cllCoins
    rw [if_pos hh.1]
    have h1 := (coins_facts hh.1).1 c.wlks.length
    have h2 := (coins_facts hh.1).2.1 c.outs.length
    rw [sumK_all wC rfl] at h1
    rw [sumK_all oC rfl] at h2
    have h3 := cllOk_facts hh.1
    omega
  have hp : 0 ≤ p.coins ∧ p.coins ≤ 9 ∧ 0 ≤ p.wlk.coins ∧ p.wlk.coins ≤ 99 := by
    have hq := pclOk_iff.1 hh.2
    rcases hq.2.2.2 with ⟨_, hw, h3⟩ | ⟨_, hz, h3⟩
    · have := wlkOk_iff.1 hw
      omega
    · simp [zeroW] at hz
      omega
  rw [wrap_id (n := cllCoins m c + p.coins) (by omega) (by omega), wrap_id (by omega) (by omega)]

theorem okCllCoins : SpecOk1 Try.prog 4 sLaw2 := spec1 tabOk (ss := [(6, sDrawDo), (7, sCllDo), (8, sCllDo), (9, sEqC), (17, sCoins), (18, sCoins), (10, sDrawIn), (11, sCllIn), (13, sCllOk), (14, sCllOk), (16, sMaOk)])
    ⟨okDrawDo, okCllDo, okSCllDo, okMaCell, okCoins, okSCoins, okDrawIn, okCllIn, okCllOk, okSCllOk, okMaOk, trivial⟩ rfl rfl <| by
  intro (bs : Th (List Int)) (p : Th Int) ⟨(a : Th (List Int)), (b : Th (List Int)), u⟩ K _ _ ho h
  obtain ⟨a, rfl⟩ := th_ex a; obtain ⟨b, rfl⟩ := th_ex b
  refine ⟨noAnn, noAnn, 20, ?_⟩
  cbv
  repeat' first | ((with_reducible refine fun (k : Nat) => ?_); cbv) | ((with_reducible refine fun (q : Nat × Unit) => ?_); obtain ⟨s, _⟩ := q; cbv) | ((with_reducible refine fun (q : Nat × Nat) => ?_); obtain ⟨s, k⟩ := q; cbv) | ((with_reducible intro _); cbv) | ((with_reducible show _ ∧ _); (with_reducible apply And.intro))
  all_goals first | (refine retK h ?_; clear h; simp only [vB, vI, vL, vW, cI, oMap, oWlk, oOrd, oPcl, oRec, oCll, rCll, oSto, oHld, oGst, oArb, oMsg, oSrv, oRow, oNote, oEvt, oOW, oOne, oWld, encMap, encWlk, encOrd, encPcl, encRec, encCll, encSto, encHld, encGst, encArb, encMsg, encSrv, encRow, encNote, encEvt, encOW, encOne, encWld, oAs, rAs, oA, List.map_cons, List.map_nil, C.ownd.injEq, A.list.injEq, heq_eq_eq, SB.val, Prod.mk.injEq, V.one.injEq, V.agg.injEq, V.tup.injEq, List.cons.injEq, C.at.injEq, A.bool.injEq, A.int.injEq, SB.of.injEq, th_eq, thp_eq, and_true, true_and]) | (with_reducible refine Ob.mk ?_; clear h) | (clear h)
  all_goals (try simp only [eta_map, eta_wlk, eta_ord, eta_pcl, eta_cll, eta_rec, eta_sto, eta_hld, eta_gst, eta_arb, eta_msg, eta_srv, eta_row, eta_note, eta_evt, eta_ow, eta_one, eta_wld, Int.toNat_natCast, Nat.succ_eq_add_one, decide_eq_true_eq, decide_eq_false_iff_not, Int.ofNat_lt, Int.ofNat_le, Int.natCast_pos, Bool.not_eq_true', Bool.not_eq_false', castL_self, SB.val, evT, RT.bytes, List.length_append, List.length_cons, List.length_nil] at *)
  all_goals grind [doX_coins, inX_wrap]

end Go.Proofs.Ythglmhekdbgonaa
