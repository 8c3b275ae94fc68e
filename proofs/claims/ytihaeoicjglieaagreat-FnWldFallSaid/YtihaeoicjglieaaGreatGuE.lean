/-
  The law FnWldFall.
-/
import Derived.Test.YtihaeoicjglieaaGreatMx
import Derived.Test.YtihaeoicjglieaaGreatGsE
import Derived.Test.YtihaeoicjglieaaGreatGsS
import Derived.Test.YtihaeoicjglieaaGreatGnR
import Derived.Test.YtihaeoicjglieaaGreatGnW
import Derived.Test.YtihaeoicjglieaaGreatGnT
import Derived.Test.YtihaeoicjglieaaGreatM7
set_option linter.unusedVariables false
set_option linter.unusedSimpArgs false
set_option maxRecDepth 100000
set_option maxHeartbeats 8000000
namespace Go.Proofs.YtihaeoicjglieaaGreat
open Go.Sx Go.Proofs Go.Mo
noncomputable def b8k:Sx.Spec:=⟨false,true,[.list .byte],[],fun _ _ _ => .ret (vB fun _=>true,fun _=>0)⟩
theorem b6y:b8 Tryz.prog 8 b8k:=j4 e9 (ss := [(31,W0),(16,T9),(32,N7),(29,a4p),(33,Q5),(54,z7),(40,sIsV),(41,a6W),(37,a0k),(36,sIsB),(35,a8E),(39,a0O),(18,sIsI)]) ⟨X5,X4,N1,a0o,V2,K9,b1F,b8Z,a0p,a3c,a7D,a0q,a1K,trivial⟩ rfl rfl<|by
 intro(bs:Th (List Int)) (p:Th Int) ⟨(a:Th (List Int)),u⟩ K _ _ ho h
 obtain⟨a,rfl⟩:=b6 a
 have hm3:=b0e a.length 3 (by omega)
 refine⟨annL [(8,12,⟨Th Wld×Th Wld×Th Int,[],fun σ g=>(((σ.only [3,5,6,7]).t 8 (.one (.att (.int .i64 g.2.2)))).a2M 7 0 (X0 g.1)).a2M 8 0 (X0 g.2.1),fun σ g _=>Ob ((fun(W:Th Wld) (p:Th Int)=>fun _=>0≤g.2.2 ()∧g.2.2 ()≤(W ()).servers.length∧(W ()).servers.length≤3∧j8 (W ())=true∧0≤p ()∧p ()<(W ()).servers.length∧g.1 ()=b9 (W ()) ⟨8,p (),0,0,0⟩∧g.2.1 ()=b9 (g.1 ()) ⟨9,p (),0,0,0⟩) (X3 σ 4) (σ.tmI 5)),fun _ g _=>(4-g.2.2 ()).toNat⟩)],noAnn,20,?_⟩
 cbv
 repeat' first|((with_reducible refine fun(g:Th Wld×Th Wld×Th Int) => ?_);obtain⟨X,Y,i⟩:=g;obtain⟨X,rfl⟩:=b6 X;obtain⟨Y,rfl⟩:=b6 Y;obtain⟨i,rfl⟩:=b6 i;(with_reducible refine ImpB.out ?_);cbv;(with_reducible refine ImpB.mk ?_);intro hq;obtain⟨hq⟩:=hq)|((with_reducible intro _);cbv)|(with_reducible refine And.intro ?_ ?_)
 all_goals try((first|(with_reducible refine LoopIn.wf (fun σ => (X3 σ 7,X3 σ 8,σ.tmI 8)) ?_ ?_)|(with_reducible refine LoopBack.wf (fun σ => (X3 σ 7,X3 σ 8,σ.tmI 8)) ?_ ?_ ?_))<;>cbv)
 all_goals try(with_reducible show _∧_;(try simp only[and_true,true_and]))
 all_goals try(repeat' with_reducible refine And.intro ?_ ?_)
 all_goals try(with_reducible refine MeasB.mk ?_)
 all_goals first|(refine retK h ?_;clear h;simp only[fin0])|(with_reducible refine Ob.mk ?_;clear h)|(clear h)
 all_goals(try simp only[eta0,RT.bytes]at *)
 all_goals(try dsimp only[RT.ty]at *)
 all_goals(try simp only[S6]at *)
 all_goals(try simp only[a5Q]at *)
 all_goals(try simp only[eta0,RT.bytes]at *)
 all_goals(first|omega|rfl|exact⟨by omega,by omega,c9s (by assumption),by assumption,by omega,by omega,trivial,trivial⟩|exact absurd (L9 (by assumption)) (by assumption)|grind[L9,b2x,c0q,c8m,d2e,d4U,d2f,a5E,e8])
end Go.Proofs.YtihaeoicjglieaaGreat
