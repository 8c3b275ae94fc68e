/-
  Contracts: a ghost put among others, the reference's way.
-/
import Derived.Test.YtfgphaokmjdcbaaGreatGnA
import Derived.Test.YtfgphaokmjdcbaaGreatM2
import Derived.Test.YtfgphaokmjdcbaaGreatGnC
set_option linter.unusedVariables false
set_option linter.unusedSimpArgs false
namespace Go.Proofs.YtfgphaokmjdcbaaGreat
open Go.Sx Go.Proofs Go.Mo
set_option maxRecDepth 100000
set_option maxHeartbeats 8000000
set_option linter.unusedSimpArgs false
set_option linter.unusedVariables false

noncomputable def sGstPutS : Sx.Spec := ⟨false, true, [.map, .list .gst, .row .gst], [[some .gst]], fun _ _ ⟨m, l, g, _⟩ => .ret (vW .gst fun _ => gstPutS (m ()) (l ()) (g ()), fun _ => 0)⟩

theorem okSGstPut : SpecOk1 Tryz.prog 71 sGstPutS := spec1 tabOk (ss := [(114, sGstsOkS), (52, sGstOk), (119, sGstLess)]) ⟨okSGstsOk, okSGstOk, okL8Less, trivial⟩ rfl rfl <| by
  intro (bs : Th (List Int)) (p : Th Int) ⟨(m : Th PMap), (l : Th (List Gst)), (g : Th Gst), u⟩ K _ _ ho h
  obtain ⟨m, rfl⟩ := th_ex m; obtain ⟨l, rfl⟩ := th_ex l; obtain ⟨g, rfl⟩ := th_ex g
  have hl := okB (ho.2.1 _ (.head _))
  have hz := gpTo_len l g
  have hlong : 20 < l.length → gstsOkS m l = false := fun h => gsts_long h
  refine ⟨annL [(71, 6, ⟨Nat, [⟨.tmp 7 0, some 23, .gst⟩], fun σ k => ((((σ.fg 23).t 9 (vI fun _ => (k : Int))).t 7 (vO 23 1)).t 8 (vB fun _ => (gpTo l g k).d)).row 23 1 .gst (fun _ => (gpTo l g k).l), fun _ k _ => k ≤ l.length ∧ l.length ≤ 20 ∧ gstsOkS m l = true ∧ gstOk m g = true, fun _ k _ => l.length - k⟩)], noAnn, 20, ?_⟩
  cbv
  repeat' first | ((with_reducible refine fun (k : Nat) => ?_); cbv) | ((with_reducible intro _); cbv) | ((with_reducible show _ ∧ _); (with_reducible apply And.intro))
  all_goals try ((first | (with_reducible refine LoopIn.mk ((0 : Nat)) ?_ ?_) | (with_reducible refine LoopBack.mk ((k + 1 : Nat)) ?_ ?_ ?_)) )
  all_goals try ((with_reducible show matchSt _ _); cbv; (try simp only [and_true, true_and]))
  all_goals try (with_reducible show _ ∧ _; (repeat' (with_reducible apply And.intro)))
  all_goals first | (refine retK h ?_; clear h; simp only [fin0]) | (with_reducible refine Ob.mk ?_; clear h) | (clear h)
  all_goals (try simp only [eta0, RT.bytes] at *)
  all_goals grind (splits := 30) [wrap_succ, wrap_id, gpTo_zero, gpTo_succ, gpStep, gpOut, gstPutS]
end Go.Proofs.YtfgphaokmjdcbaaGreat

/-
  Contracts: what is said of a parcel that has come, the reference's way.
-/
namespace Go.Proofs.YtfgphaokmjdcbaaGreat
open Go.Sx Go.Proofs Go.Mo
set_option maxRecDepth 100000
set_option maxHeartbeats 8000000
set_option linter.unusedSimpArgs false
set_option linter.unusedVariables false

def gotS (m : PMap) (t : Arb) (cell side n : Int) : List Msg :=
  if arbServer t (plcSide m cell side) = -1 ∨ n = 0 then [] else [⟨6, arbServer t (plcSide m cell side), plcSide m cell side, IntKind.i64.wrap (1 - side), n, zeroOrd, zeroPcl, zeroGst⟩]
noncomputable def sGot : Sx.Spec := ⟨false, true, [.map, .arb, .int .i64, .int .i64, .int .i64], [[some .msg]], fun _ _ ⟨m, t, c, s, n, _⟩ => .ret (vW .msg fun _ => gotS (m ()) (t ()) (c ()) (s ()) (n ()), fun _ => 0)⟩

theorem okL11Got : SpecOk1 Tryz.prog 120 sGot := spec1 tabOk (ss := [(48, sPlcSide), (161, sArbServer)]) ⟨okSPlcSide, okSArbServer, trivial⟩ rfl rfl <| by
  intro (bs : Th (List Int)) (p : Th Int) ⟨(m : Th PMap), (t : Th Arb), (c : Th Int), (s : Th Int), (n : Th Int), u⟩ K _ _ ho h
  obtain ⟨m, rfl⟩ := th_ex m; obtain ⟨t, rfl⟩ := th_ex t; obtain ⟨c, rfl⟩ := th_ex c; obtain ⟨s, rfl⟩ := th_ex s; obtain ⟨n, rfl⟩ := th_ex n
  refine ⟨noAnn, noAnn, 20, ?_⟩
  cbv
  repeat' first | ((with_reducible intro _); cbv) | ((with_reducible show _ ∧ _); (with_reducible apply And.intro))
  all_goals first | (refine retK h ?_; clear h; simp only [fin0]) | (with_reducible refine Ob.mk ?_; clear h) | (clear h)
  all_goals (try simp only [eta0, RT.bytes] at *)
  all_goals grind [gotS, zeroOrd, zeroPcl, zeroGst]
end Go.Proofs.YtfgphaokmjdcbaaGreat
