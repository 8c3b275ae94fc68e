/-
  The law FnWldDown.
-/
import Derived.Test.YtihaeoicjglieaaGreatMx
import Derived.Test.YtihaeoicjglieaaGreatGsE
import Derived.Test.YtihaeoicjglieaaGreatGsS
import Derived.Test.YtihaeoicjglieaaGreatGnR
import Derived.Test.YtihaeoicjglieaaGreatGnW
import Derived.Test.YtihaeoicjglieaaGreatGnT
import Derived.Test.YtihaeoicjglieaaGreatM7
set_option linter.unusedVariables false
set_option linter.unusedSimpArgs false
set_option maxRecDepth 100000
set_option maxHeartbeats 8000000
namespace Go.Proofs.YtihaeoicjglieaaGreat
open Go.Sx Go.Proofs Go.Mo
noncomputable def b8l:Sx.Spec:=⟨false,true,[.list .byte],[],fun _ _ _ => .ret (vB fun _=>true,fun _=>0)⟩
theorem b6z:b8 Tryz.prog 7 b8l:=j4 e9 (ss := [(31,W0),(33,Q5),(32,N7),(16,T9),(29,a4p),(21,Q5),(54,z7),(35,a8E),(37,a0k),(38,a0l),(36,sIsB),(39,a0O)]) ⟨X5,V2,N1,X4,a0o,a5r,K9,a7D,a0p,a0S,a3c,a0q,trivial⟩ rfl rfl<|by
 intro(bs:Th (List Int)) (p:Th Int) ⟨(a:Th (List Int)),u⟩ K _ _ ho h
 obtain⟨a,rfl⟩:=b6 a
 refine⟨noAnn,noAnn,20,?_⟩
 cbv
 repeat' first|((with_reducible intro _);cbv)|(with_reducible refine And.intro ?_ ?_)
 all_goals first|(refine retK h ?_;clear h;simp only[fin0])|(with_reducible refine Ob.mk ?_;clear h)|(clear h)
 all_goals(try simp only[eta0,RT.bytes]at *)
 all_goals(try dsimp only[RT.ty]at *)
 all_goals(try simp only[S6]at *)
 all_goals(try simp only[a5Q]at *)
 all_goals(try simp only[eta0,RT.bytes]at *)
 all_goals(first|omega|rfl|exact⟨by omega,d1f (by assumption) (by omega)⟩|exact absurd (L9 (by assumption)) (by assumption)|grind[L9,b2x,c0q,d2p,a0A,a5E,a2m,a3q,b0d])
end Go.Proofs.YtihaeoicjglieaaGreat
