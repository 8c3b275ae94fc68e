/-
  Contracts: a book and a message drawn.
-/
import Derived.Test.YtfgphaokmjdcbaaGreatGnZ
set_option linter.unusedVariables false
set_option linter.unusedSimpArgs false
namespace Go.Proofs.YtfgphaokmjdcbaaGreat
open Go.Sx Go.Proofs Go.Mo
set_option maxRecDepth 100000
set_option maxHeartbeats 8000000
set_option linter.unusedSimpArgs false
set_option linter.unusedVariables false

noncomputable def sDrawHearE : Sx.Spec := ⟨false, false, [.list .byte], [[none, none], [some .row], [none], [none, none, none, none, none, none, none, none, none, none, none, none, none, none, none, none, none, none, none, none, none, none, none, none, none]], fun _ _ _ => .all Int fun a => .all Int fun b => .all (List Row) fun r => .all Int fun s => .all Int fun x0 => .all Int fun x1 => .all Int fun x2 => .all Int fun x3 => .all Int fun x4 => .all Int fun x5 => .all Int fun x6 => .all Int fun x7 => .all Int fun x8 => .all Int fun x9 => .all Int fun x10 => .all Int fun x11 => .all Int fun x12 => .all Int fun x13 => .all Int fun x14 => .all Int fun x15 => .all Int fun x16 => .all Int fun x17 => .all Int fun x18 => .all Int fun x19 => .all Int fun x20 => .all Int fun x21 => .all Int fun x22 => .all Int fun x23 => .all Int fun x24 => .asm (fun _ => r.length ≤ 10 ∧ 1 ≤ s ∧ s ≤ 3) (.ret (.tup [.agg [cI a, cI b], .agg [.att (.list .row fun _ => r)], .one (cI s), .agg [cI x0, cI x1, cI x2, cI x3, cI x4, cI x5, cI x6, cI x7, cI x8, cI x9, cI x10, cI x11, cI x12, cI x13, cI x14, cI x15, cI x16, cI x17, cI x18, cI x19, cI x20, cI x21, cI x22, cI x23, cI x24]], fun _ => 0))⟩
theorem okDrawHearE : SpecOk1 Tryz.prog 10 sDrawHearE := spec1 tabOk (ss := [(37, sBookE), (38, sMessageE), (39, sPick), (40, sBadMsgE)]) ⟨okBookE, okMessageE, okPick, okBadMsgE, trivial⟩ rfl rfl <| by
  intro (bs : Th (List Int)) (p : Th Int) ⟨(l : Th (List Int)), u⟩ K hb hp0 ho h
  obtain ⟨l, rfl⟩ := th_ex l
  have hk : ∀ (a b : Int) (c : List Srv) (d : List Sto) (e f : List Int) (g : List Row) (h : List Msg) (i : List Note), wldOk ⟨⟨a, b⟩, c, d, ⟨e, f⟩, g, h, i⟩ = true → 1 ≤ c.length ∧ c.length ≤ 3 := fun a b c d e f g h i w => (ok_few w).2.2
  refine ⟨noAnn, noAnn, 20, ?_⟩
  cbv
  repeat' first | ((with_reducible intro _); cbv) | ((with_reducible show _ ∧ _); (with_reducible apply And.intro))
  all_goals first | (refine retK (h _ _ _ _ _ _ _ _ _ _ _ _ _ _ _ _ _ _ _ _ _ _ _ _ _ _ _ _ _ ?_) rfl; clear h) | (refine retK (h _ _ _ _ _ _ _ _ _ _ _ _ _ _ _ _ _ _ _ _ _ _ _ _ _ _ _ _ _ ?_) rfl) | (with_reducible refine Ob.mk ?_; clear h) | (clear h)
  all_goals (try simp only [eta0, RT.bytes] at *)
  all_goals (try simp only [List.length_take] at *)
  all_goals (try dsimp only [RT.ty] at *)
  all_goals (try simp only [ncast] at *)
  all_goals (first | rfl | omega | grind [wrap_id])
end Go.Proofs.YtfgphaokmjdcbaaGreat
