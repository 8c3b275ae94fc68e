/-
  The law FnOneApart.
-/
import Derived.Test.YtmnapekfeenknaaGreatFx
import Derived.Test.YtmnapekfeenknaaGreatMx
import Derived.Test.YtmnapekfeenknaaGreatGxA
import Derived.Test.YtmnapekfeenknaaGreatGvDo
import Derived.Test.YtmnapekfeenknaaGreatGvDt
import Derived.Test.YtmnapekfeenknaaGreatGnE
import Derived.Test.YtmnapekfeenknaaGreatM8
import Derived.Test.YtmnapekfeenknaaGreatM9
import Derived.Test.YtmnapekfeenknaaGreatGxO
set_option linter.unusedVariables false
set_option linter.unusedSimpArgs false
set_option maxRecDepth 100000
set_option maxHeartbeats 8000000
namespace Go.Proofs.YtmnapekfeenknaaGreat
open Go.Sx Go.Proofs Go.Mo
def d2C (a b c d e:Th Int):Th Wlk:=fun _=>⟨a (),b (),c (),d (),e ()⟩
def b6V (σ : St) (k:Nat):Th Wlk:=d2C (asI (σ.ce k 0)) (asI (σ.ce k 1)) (asI (σ.ce k 2)) (asI (σ.ce k 3)) (asI (σ.ce k 4))
noncomputable def b6P:Sx.Spec:=⟨false,true,[.list .byte,.list .byte],[],fun _ _ _ => .ret (vB fun _=>true,fun _=>0)⟩
theorem b4o:b9 Tryz.prog 6 b6P:=j5 j3 (ss := [(32,a4e),(33,a2U),(34,a2U),(23,a6O),(25,U5),(35,Y5),(66,A5),(36,B6)]) ⟨a5o,a8p,b2s,a6c,a0o,a2h,K4,M7,trivial⟩ rfl rfl<|by
 intro(bs:Th (List Int)) (p:Th Int) ⟨(a:Th (List Int)),(e:Th (List Int)),u⟩ K _ _ ho h
 obtain⟨a,rfl⟩:=b6 a;obtain⟨e,rfl⟩:=b6 e
 refine⟨annL [(6,13,⟨Th Wlk×Th Wlk×Th Int,[],fun σ g=>(((σ.only [5,6,7,8,9,10,11,12,13,14]).t 15 (.one (.att (.int .i64 g.2.2)))).a4D 14 0 (a9W g.1)).a4D 15 0 (a9W g.2.1),
  fun σ g _=>Ob ((fun(O:Th One) (p q:Th Int)=>fun _=>0≤g.2.2 ()∧g.2.2 ()≤(O ()).wlks.length∧g.1 ()=X2 (O ()).wlks (p ()) (g.2.2 ()).toNat∧g.2.1 ()=X2 (O ()).wlks (q ()) (g.2.2 ()).toNat) (b9v σ 6) (asI (σ.ce 7 0)) (asI (σ.ce 9 0))),fun _ g _=>(10-g.2.2 ()).toNat⟩)],noAnn,20,?_⟩
 cbv
 repeat' first|((with_reducible refine fun(g:Th Wlk×Th Wlk×Th Int) => ?_);obtain⟨v,w,i⟩:=g;obtain⟨v,rfl⟩:=b6 v;obtain⟨w,rfl⟩:=b6 w;obtain⟨i,rfl⟩:=b6 i;(with_reducible refine ImpB.out ?_);cbv;(with_reducible refine ImpB.mk ?_);intro hq;obtain⟨hq⟩:=hq)|((with_reducible intro _);cbv)|(with_reducible refine And.intro ?_ ?_)
 all_goals try((first|(with_reducible refine LoopIn.wf (fun σ => (b6V σ 14,b6V σ 15,σ.tmI 15)) ?_ ?_)|(with_reducible refine LoopBack.wf (fun σ => (b6V σ 14,b6V σ 15,σ.tmI 15)) ?_ ?_ ?_))<;>cbv)
 all_goals try(with_reducible show _∧_;(try simp only[and_true,true_and]))
 all_goals try(repeat' with_reducible refine And.intro ?_ ?_)
 all_goals try(with_reducible refine MeasB.mk ?_)
 all_goals first|(refine retK h ?_;clear h;simp only[fin0])|(with_reducible refine Ob.mk ?_;clear h)|(clear h)
 all_goals(try simp only[eta0,RT.bytes]at *)
 all_goals(try dsimp only[RT.ty]at *)
 all_goals(try simp only[M0]at *)
 all_goals(try simp only[mkOne,d2C]at *)
 all_goals(try have hok:=(by assumption:r6 _=true))
 all_goals(try have hf:=a4j hok)
 all_goals(try dsimp only at hf)
 all_goals(try have hw:IntKind.i64.wrap (i+1)=i+1:=e9 (by omega) (by omega))
 all_goals(try rw[hw])
 all_goals(try have hA:=d8N hok (v:=v) (w:=w) (k:=i.toNat) (by dsimp only;omega) (by assumption) (by assumption) (by assumption))
 all_goals(try dsimp only at hA)
 all_goals(first|omega|rfl|assumption|decide|exact absurd trivial (by assumption)|exact⟨by decide,by omega,(b1I _ _).symm,(b1I _ _).symm⟩|exact⟨by omega,by omega,by first|exact b4N hok hq.1 (by assumption) (by assumption)|exact b8U hok hq.1 (by assumption) hq.2.2.1,by first|exact b4N hok hq.1 (by assumption) (by assumption)|exact b8U hok hq.1 (by assumption) hq.2.2.2⟩|exact absurd (a6n (by assumption)).1 (by assumption)|exact absurd (a6m (by assumption)).1 (by assumption)|grind)
end Go.Proofs.YtmnapekfeenknaaGreat
