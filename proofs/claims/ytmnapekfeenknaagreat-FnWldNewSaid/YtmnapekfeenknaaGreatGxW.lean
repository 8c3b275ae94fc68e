/-
  Contract: who has a cell holds it.
-/
import Derived.Test.YtmnapekfeenknaaGreatFx
import Derived.Test.YtmnapekfeenknaaGreatMx
import Derived.Test.YtmnapekfeenknaaGreatFnQ
import Derived.Test.YtmnapekfeenknaaGreatGnE
import Derived.Test.YtmnapekfeenknaaGreatInsW
import Derived.Test.YtmnapekfeenknaaGreatM8
set_option linter.unusedVariables false
set_option linter.unusedSimpArgs false
set_option maxRecDepth 100000
set_option maxHeartbeats 8000000
namespace Go.Proofs.YtmnapekfeenknaaGreat
open Go.Sx Go.Proofs Go.Mo
noncomputable def b8V:Sx.Spec:=⟨false,true,[.row .wld,.int .i64],[],fun _ _ ⟨w,c,_⟩ => .ret (vB fun _=>a7B (w ()) (c ()),fun _=>0)⟩
theorem c7Y:b9 Tryz.prog 20 b8V:=j5 j3 (ss := [(18,a2T),(129,L5),(130,a4U)]) ⟨a8l,a2F,c8a,trivial⟩ rfl rfl<|by
 intro(bs:Th (List Int)) (p:Th Int) ⟨(w:Th Wld),(c:Th Int),u⟩ K _ _ ho h
 obtain⟨w,rfl⟩:=b6 w;obtain⟨c,rfl⟩:=b6 c
 refine⟨noAnn,noAnn,20,?_⟩
 cbv
 repeat' first|((with_reducible intro _);cbv)|(with_reducible refine And.intro ?_ ?_)
 all_goals first|(refine retK h ?_;clear h;simp only[fin0])|(with_reducible refine Ob.mk ?_;clear h)|(clear h)
 all_goals(try simp only[eta0,RT.bytes]at *)
 all_goals(try dsimp only[RT.ty]at *)
 all_goals(try simp only[M0,b2D]at *)
 all_goals(first|exact(c5V (by assumption) (by assumption)).1|exact(c5V (by assumption) (by assumption)).2|grind[a7B])
end Go.Proofs.YtmnapekfeenknaaGreat
