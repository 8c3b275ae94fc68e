/-
  The law FnWldAsk.
-/
import Derived.Test.YtihaeoicjglieaaGreatMx
import Derived.Test.YtihaeoicjglieaaGreatGsE
import Derived.Test.YtihaeoicjglieaaGreatGsS
import Derived.Test.YtihaeoicjglieaaGreatGnR
import Derived.Test.YtihaeoicjglieaaGreatGnW
import Derived.Test.YtihaeoicjglieaaGreatGnT
import Derived.Test.YtihaeoicjglieaaGreatM7
set_option linter.unusedVariables false
set_option linter.unusedSimpArgs false
set_option maxRecDepth 100000
set_option maxHeartbeats 8000000
namespace Go.Proofs.YtihaeoicjglieaaGreat
open Go.Sx Go.Proofs Go.Mo
noncomputable def c1v:Sx.Spec:=⟨false,true,[.list .byte],[],fun _ _ _ => .ret (vB fun _=>true,fun _=>0)⟩
theorem b9m:b8 Tryz.prog 6 c1v:=j4 e9 (ss := [(31,W0),(16,T9),(32,N7),(29,a4p),(33,Q5),(54,z7),(35,a8E),(36,sIsB),(37,a0k),(38,a0l),(39,a0O),(18,sIsI)]) ⟨X5,X4,N1,a0o,V2,K9,a7D,a3c,a0p,a0S,a0q,a1K,trivial⟩ rfl rfl<|by
 intro(bs:Th (List Int)) (p:Th Int) ⟨(a:Th (List Int)),u⟩ K _ _ ho h
 obtain⟨a,rfl⟩:=b6 a
 refine⟨noAnn,noAnn,20,?_⟩
 cbv
 repeat' first|((with_reducible intro _);cbv)|(with_reducible refine And.intro ?_ ?_)
 all_goals first|(refine retK h ?_;clear h;simp only[fin0])|(with_reducible refine Ob.mk ?_;clear h)|(clear h)
 all_goals(try simp only[eta0,RT.bytes]at *)
 all_goals(try dsimp only[RT.ty]at *)
 all_goals(try simp only[S6]at *)
 all_goals(try simp only[a5Q]at *)
 all_goals(try simp only[eta0,RT.bytes]at *)
 all_goals(first|omega|rfl|exact absurd (L9 (by assumption)) (by assumption)|exact absurd (c3B (by assumption) rfl) (by assumption)|grind[L9,d5h,c3C,c3B,a2m,a3q,b0d])
end Go.Proofs.YtihaeoicjglieaaGreat
