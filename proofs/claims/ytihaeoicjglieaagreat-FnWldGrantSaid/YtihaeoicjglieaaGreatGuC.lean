/-
  The law FnWldGrant.
-/
import Derived.Test.YtihaeoicjglieaaGreatMx
import Derived.Test.YtihaeoicjglieaaGreatGsE
import Derived.Test.YtihaeoicjglieaaGreatGsS
import Derived.Test.YtihaeoicjglieaaGreatGnR
import Derived.Test.YtihaeoicjglieaaGreatGnW
import Derived.Test.YtihaeoicjglieaaGreatGnT
import Derived.Test.YtihaeoicjglieaaGreatM7
set_option linter.unusedVariables false
set_option linter.unusedSimpArgs false
set_option maxRecDepth 100000
set_option maxHeartbeats 8000000
namespace Go.Proofs.YtihaeoicjglieaaGreat
open Go.Sx Go.Proofs Go.Mo
noncomputable def b5Q:Sx.Spec:=⟨false,true,[.list .byte],[],fun _ _ _ => .ret (vB fun _=>true,fun _=>0)⟩
theorem b3r:b8 Tryz.prog 9 b5Q:=j4 e9 (ss := [(31,W0),(16,T9),(32,N7),(29,a4p),(33,Q5),(54,z7),(35,a8E),(37,a0k),(38,a0l),(36,sIsB),(39,a0O)]) ⟨X5,X4,N1,a0o,V2,K9,a7D,a0p,a0S,a3c,a0q,trivial⟩ rfl rfl<|by
 intro(bs:Th (List Int)) (p:Th Int) ⟨(a:Th (List Int)),u⟩ K _ _ ho h
 obtain⟨a,rfl⟩:=b6 a
 have hm5:=b0e a.length 5 (by omega)
 have hm4:=c9d a.length 5 4 (by omega) (by omega)
 refine⟨noAnn,annL [(9,12,⟨Th Bool×Th Bool,[],fun σ _ => σ.only [3,4,5],fun σ _ _=>Ob ((fun(W:Th Wld) (p d:Th Int)=>fun _=>j8 (W ())=true∧0≤p ()∧p ()<(W ()).map.cells∧0≤d ()∧d ()<(W ()).servers.length ∧ ¬nth .int (W ()).table.ages (p ()).toNat=900) (X3 σ 4) (asI (σ.ce 5 1)) (asI (σ.ce 5 3))),fun _ _ _=>0⟩),
  (9,14,⟨Th Bool×Th Int,[],fun σ g=>(σ.only [3,4,5,6]).t 7 (.one (.att (.bool (.of g.1)))),fun σ g _=>Ob ((fun(W:Th Wld) (p d:Th Int)=>fun _=>((W ()).net.length<40→g.1 ()=true)∧j8 (W ())=true∧0≤p ()∧p ()<(W ()).map.cells∧0≤d ()∧d ()<(W ()).servers.length ∧ ¬nth .int (W ()).table.ages (p ()).toNat=900) (X3 σ 4) (asI (σ.ce 5 1)) (asI (σ.ce 5 3))),fun _ _ _=>0⟩)],20,?_⟩
 cbv
 repeat' first|((with_reducible refine fun(g:Th Bool×Th Bool) => ?_);obtain⟨z,y⟩:=g;obtain⟨z,rfl⟩:=b6 z;obtain⟨y,rfl⟩:=b6 y;(with_reducible refine ImpB.out ?_);cbv;(with_reducible refine ImpB.mk ?_);intro hq;obtain⟨hq⟩:=hq)|((with_reducible refine fun(g:Th Bool×Th Int) => ?_);obtain⟨s,y⟩:=g;obtain⟨s,rfl⟩:=b6 s;obtain⟨y,rfl⟩:=b6 y;(with_reducible refine ImpB.out ?_);cbv;(with_reducible refine ImpB.mk ?_);intro hq;obtain⟨hq⟩:=hq)|((with_reducible intro _);cbv)|(with_reducible refine And.intro ?_ ?_)
 all_goals try((first|(with_reducible refine LoopIn.wf (fun σ => (s5,s5)) ?_ ?_)|(with_reducible refine LoopBack.wf (fun σ => (s5,s5)) ?_ ?_ ?_)|(with_reducible refine LoopIn.wf (fun σ => (σ.tmB 7,L0)) ?_ ?_)|(with_reducible refine LoopBack.wf (fun σ => (σ.tmB 7,L0)) ?_ ?_ ?_))<;>cbv)
 all_goals try(with_reducible show _∧_;(try simp only[and_true,true_and]))
 all_goals try(repeat' with_reducible refine And.intro ?_ ?_)
 all_goals try(with_reducible refine MeasB.mk ?_)
 all_goals first|(refine retK h ?_;clear h;simp only[fin0])|(with_reducible refine Ob.mk ?_;clear h)|(clear h)
 all_goals(try simp only[eta0,RT.bytes]at *)
 all_goals(try dsimp only[RT.ty]at *)
 all_goals(try simp only[S6]at *)
 all_goals(try simp only[a5Q]at *)
 all_goals(try simp only[eta0,RT.bytes]at *)
 all_goals(try have hG:=b4K (w:=⟨⟨_,_⟩,_,_,⟨_,_⟩,_,_,_⟩) hq.2)
 all_goals(try have hG:=b4K (w:=⟨⟨_,_⟩,_,_,⟨_,_⟩,_,_,_⟩) hq)
 all_goals(try dsimp only at hG)
 all_goals(first|omega|rfl|exact absurd (L9 (by assumption)) (by assumption)|exact d3G (by assumption) (a2m (w:=⟨⟨_,_⟩,_,_,⟨_,_⟩,_,_,_⟩) (by assumption))|exact d5n (by assumption) rfl (by omega) (by dsimp only;omega)|exact d3C (by assumption) rfl (by omega) (by dsimp only;omega)|exact⟨(c5O (w:=⟨⟨_,_⟩,_,_,⟨_,_⟩,_,_,_⟩) (by assumption) (by omega) (by dsimp only;omega)).1,(c5O (w:=⟨⟨_,_⟩,_,_,⟨_,_⟩,_,_,_⟩) (by assumption) (by omega) (by dsimp only;omega)).2.1⟩|exact c7W (by assumption) (by omega) (by assumption) (c9X _ (by assumption)) (by assumption) (by assumption)|exact⟨fun hn=>by rw[(hG.2.2.2.2.2.2.1 hn).2];simp,hq⟩|exact⟨fun hn=>absurd (hG.2.2.2.2.2.2.1 hn).1 (by assumption),hq⟩|grind[L9,c7U,a2m,a3q])
end Go.Proofs.YtihaeoicjglieaaGreat
