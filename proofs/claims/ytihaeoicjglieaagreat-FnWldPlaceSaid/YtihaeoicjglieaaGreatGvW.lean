/-
  The law FnWldPlace.
-/
import Derived.Test.YtihaeoicjglieaaGreatMy
import Derived.Test.YtihaeoicjglieaaGreatGvQ
import Derived.Test.YtihaeoicjglieaaGreatGvI
import Derived.Test.YtihaeoicjglieaaGreatGtA
import Derived.Test.YtihaeoicjglieaaGreatGsS
import Derived.Test.YtihaeoicjglieaaGreatGnR
import Derived.Test.YtihaeoicjglieaaGreatGnW
import Derived.Test.YtihaeoicjglieaaGreatGnT
set_option linter.unusedVariables false
set_option linter.unusedSimpArgs false
set_option maxRecDepth 100000
set_option maxHeartbeats 8000000
namespace Go.Proofs.YtihaeoicjglieaaGreat
open Go.Sx Go.Proofs Go.Mo
noncomputable def b5P:Sx.Spec:=⟨false,true,[.list .byte],[],fun _ _ _ => .ret (vB fun _=>true,fun _=>0)⟩
theorem b3q:b8 Tryz.prog 3 b5P:=j4 e9 (ss := [(12,b0X),(21,Q5),(33,Q5),(15,b5O),(14,sIds),(16,T9),(17,b0U),(18,sIsI),(20,c1u),(19,c9K)]) ⟨b4v,a5r,V2,c4A,d4h,X4,c4z,a1K,b9d,d4k,trivial⟩ rfl rfl<|by
 intro(bs:Th (List Int)) (p:Th Int) ⟨(a:Th (List Int)),u⟩ K _ _ ho h
 obtain⟨a,rfl⟩:=b6 a
 refine⟨annL [(3,8,⟨Th Wld×Th Int,[],fun σ g=>((σ.only [3,4,5]).t 6 (.one (.att (.int .i64 g.2)))).a2M 4 0 (X0 g.1),fun σ g _=>Ob ((fun(L:Th (List Int))=>fun _=>Placed (L ()) (g.1 ())∧0≤g.2 ()∧g.2 ()≤149) (σ.rowL .int 12032)),fun _ g _=>(150-g.2 ()).toNat⟩)],noAnn,20,?_⟩
 cbv
 repeat' first|((with_reducible refine fun(g:Th Wld×Th Int) => ?_);obtain⟨w,i⟩:=g;obtain⟨w,rfl⟩:=b6 w;obtain⟨i,rfl⟩:=b6 i;(with_reducible refine ImpB.out ?_);cbv;(with_reducible refine ImpB.mk ?_);intro hq;obtain⟨hq⟩:=hq)|((with_reducible intro _);cbv)|(with_reducible refine And.intro ?_ ?_)
 all_goals try((first|(with_reducible refine LoopIn.wf (fun σ => (X3 σ 4,σ.tmI 6)) ?_ ?_)|(with_reducible refine LoopBack.wf (fun σ => (X3 σ 4,σ.tmI 6)) ?_ ?_ ?_))<;>cbv)
 all_goals try(with_reducible show _∧_;(try simp only[and_true,true_and]))
 all_goals try(repeat' with_reducible refine And.intro ?_ ?_)
 all_goals try(with_reducible refine MeasB.mk ?_)
 all_goals first|(refine retK h ?_;clear h;simp only[fin0])|(with_reducible refine Ob.mk ?_;clear h)|(clear h)
 all_goals(try simp only[eta0,RT.bytes]at *)
 all_goals(try dsimp only[RT.ty]at *)
 all_goals(try simp only[a6r]at *)
 all_goals(try simp only[a5Q]at *)
 all_goals(try simp only[eta0,RT.bytes]at *)
 all_goals(try have hO:=c9Z (by assumption))
 all_goals(try have hN:=b4k hq.1)
 all_goals(try have hX:=fun(e:Evt)=>c1J hq.1 e)
 all_goals(try dsimp only at hO)
 all_goals(first|omega|rfl|assumption|exact hO.2.1|exact hN.2|exact(hX _).2.2.1|exact(hX _).2.2.2|grind[e8])
end Go.Proofs.YtihaeoicjglieaaGreat
