/-
  The law FnOneDo.
-/
import Derived.Test.YtmnapekfeenknaaGreatFx
import Derived.Test.YtmnapekfeenknaaGreatMx
import Derived.Test.YtmnapekfeenknaaGreatGxA
import Derived.Test.YtmnapekfeenknaaGreatGvDs
import Derived.Test.YtmnapekfeenknaaGreatGvDt
import Derived.Test.YtmnapekfeenknaaGreatGnE
import Derived.Test.YtmnapekfeenknaaGreatM8
set_option linter.unusedVariables false
set_option linter.unusedSimpArgs false
set_option maxRecDepth 100000
set_option maxHeartbeats 8000000
namespace Go.Proofs.YtmnapekfeenknaaGreat
open Go.Sx Go.Proofs Go.Mo
theorem a6n {o:One} {r:Ord} (h:r6 o=false):(n9 o r).o=⟨⟨0,0⟩,[],[],[]⟩∧(n9 o r).code=0:=by rw[b3B h];exact⟨rfl,rfl⟩
theorem a6m {o:One} {r:Ord} (h:y9 r=false):(n9 o r).o=⟨⟨0,0⟩,[],[],[]⟩∧(n9 o r).code=0:=by rw[b3A h];exact⟨rfl,rfl⟩
noncomputable def c7x:Sx.Spec:=⟨false,true,[.list .byte],[],fun _ _ _ => .ret (vB fun _=>true,fun _=>0)⟩
theorem c2U:b9 Tryz.prog 8 c7x:=j5 j3 (ss := [(32,a4e),(33,a2U),(34,a2U),(23,a6O),(25,U5),(35,Y5),(66,A5),(26,a1M)]) ⟨a5o,a8p,b2s,a6c,a0o,a2h,K4,a6Z,trivial⟩ rfl rfl<|by
 intro(bs:Th (List Int)) (p:Th Int) ⟨(a:Th (List Int)),u⟩ K _ _ ho h
 obtain⟨a,rfl⟩:=b6 a
 refine⟨annL [(8,11,⟨Th Int×Th Bool,[],fun σ g=>(σ.only [3,4,5,6,7,8]).t 9 (.one (.att (.int .i64 g.1))),fun σ g _=>Ob ((fun(O:Th One)=>fun _=>0≤g.1 ()∧g.1 ()≤(O ()).wlks.length) (b9v σ 4)),fun _ g _=>(10-g.1 ()).toNat⟩)],noAnn,20,?_⟩
 cbv
 repeat' first|((with_reducible refine fun(g:Th Int×Th Bool) => ?_);obtain⟨i,z⟩:=g;obtain⟨i,rfl⟩:=b6 i;obtain⟨z,rfl⟩:=b6 z;(with_reducible refine ImpB.out ?_);cbv;(with_reducible refine ImpB.mk ?_);intro hq;obtain⟨hq⟩:=hq)|((with_reducible intro _);cbv)|(with_reducible refine And.intro ?_ ?_)
 all_goals try((first|(with_reducible refine LoopIn.wf (fun σ => (σ.tmI 9,r7)) ?_ ?_)|(with_reducible refine LoopBack.wf (fun σ => (σ.tmI 9,r7)) ?_ ?_ ?_))<;>cbv)
 all_goals try(with_reducible show _∧_;(try simp only[and_true,true_and]))
 all_goals try(repeat' with_reducible refine And.intro ?_ ?_)
 all_goals try(with_reducible refine MeasB.mk ?_)
 all_goals first|(refine retK h ?_;clear h;simp only[fin0])|(with_reducible refine Ob.mk ?_;clear h)|(clear h)
 all_goals(try simp only[eta0,RT.bytes]at *)
 all_goals(try dsimp only[RT.ty]at *)
 all_goals(try simp only[M0]at *)
 all_goals(try simp only[mkOne]at *)
 all_goals(try have hok:=(by assumption:r6 _=true))
 all_goals(try have hor:=(by assumption:y9 _=true))
 all_goals(try have hD:=c6A hok hor)
 all_goals(try have hf:=a4j hok)
 all_goals(try dsimp only at hD hf)
 all_goals(try have hw:IntKind.i64.wrap (i+1)=i+1:=e9 (by omega) (by omega))
 all_goals(first|omega|rfl|assumption|decide|exact absurd trivial (by assumption)|exact absurd (a6n (by assumption)).1 (by assumption)|exact absurd (a6m (by assumption)).1 (by assumption)|exact absurd (a6n (by assumption)).2 (by assumption)|exact absurd (a6m (by assumption)).2 (by assumption)|grind)
end Go.Proofs.YtmnapekfeenknaaGreat
