/-
  The law FnWldOne.
-/
import Derived.Test.YtmnapekfeenknaaGreatFy
import Derived.Test.YtmnapekfeenknaaGreatMy
import Derived.Test.YtmnapekfeenknaaGreatGvQ
import Derived.Test.YtmnapekfeenknaaGreatGvI
import Derived.Test.YtmnapekfeenknaaGreatGvN
import Derived.Test.YtmnapekfeenknaaGreatGvG
import Derived.Test.YtmnapekfeenknaaGreatGsD
import Derived.Test.YtmnapekfeenknaaGreatGnE
import Derived.Test.YtmnapekfeenknaaGreatGsS
import Derived.Test.YtmnapekfeenknaaGreatFnQ
import Derived.Test.YtmnapekfeenknaaGreatGnT
set_option linter.unusedVariables false
set_option linter.unusedSimpArgs false
set_option maxRecDepth 100000
set_option maxHeartbeats 8000000
namespace Go.Proofs.YtmnapekfeenknaaGreat
open Go.Sx Go.Proofs Go.Mo
theorem d1z {b:Bool} (h:b=true) (h':b=false):False:=by cases h.symm.trans h'
noncomputable def c2s:Sx.Spec:=⟨false,true,[.list .byte],[],fun _ _ _ => .ret (vB fun _=>true,fun _=>0)⟩
theorem c0k:b9 Tryz.prog 9 c2s:=j5 j3 (ss := [(37,b9k),(18,a2T),(100,a2T),(17,b6O),(39,b4P),(40,sNew),(23,a6O),(41,d7b),(43,a5Q),(42,d0Z),(33,a2U),(44,c2r)]) ⟨c8w,a8l,b2n,c5y,c7X,d5E,a6c,d1P,c2M,d5L,a8p,c0b,trivial⟩ rfl rfl<|by
 intro(bs:Th (List Int)) (p:Th Int) ⟨(a:Th (List Int)),u⟩ K _ _ ho h
 obtain⟨a,rfl⟩:=b6 a
 refine⟨annL [(9,8,⟨Th Wld×Th One×Th Int,[⟨.cell 6 2,none,.ow⟩,⟨.cell 6 3,none,.int⟩,⟨.cell 6 4,none,.ints⟩],fun σ g=>((((St.kill σ [15106,15107,15108]).only [3,4,5]).t 6 (.one (.att (.int .i64 g.2.2)))).a4D 4 0 (a3e g.1)).a4D 6 0 (a7p g.2.1),fun σ g _=>Ob fun _=>a0J (g.1 ())∧g.2.1 ()=oneOf (g.1 ())∧0≤g.2.2 ()∧g.2.2 ()≤149,fun _ g _=>(150-g.2.2 ()).toNat⟩)],noAnn,20,?_⟩
 cbv
 repeat' first|((with_reducible refine fun(g:Th Wld×Th One×Th Int) => ?_);obtain⟨w,o,i⟩:=g;obtain⟨w,rfl⟩:=b6 w;obtain⟨o,rfl⟩:=b6 o;obtain⟨i,rfl⟩:=b6 i;(with_reducible refine ImpB.out ?_);cbv;(with_reducible refine ImpB.mk ?_);intro hq;obtain⟨hq⟩:=hq)|((with_reducible intro _);cbv)|(with_reducible refine And.intro ?_ ?_)
 all_goals try((first|(with_reducible refine LoopIn.wf (fun σ => (b0r σ 4,b9v σ 6,σ.tmI 6)) ?_ ?_)|(with_reducible refine LoopBack.wf (fun σ => (b0r σ 4,b9v σ 6,σ.tmI 6)) ?_ ?_ ?_))<;>cbv)
 all_goals try(with_reducible show _∧_;(try simp only[and_true,true_and]))
 all_goals try(repeat' with_reducible refine And.intro ?_ ?_)
 all_goals try(with_reducible refine MeasB.mk ?_)
 all_goals first|(refine retK h ?_;clear h;simp only[fin0])|(with_reducible refine Ob.mk ?_;clear h)|(clear h)
 all_goals(try simp only[eta0,RT.bytes]at *)
 all_goals(try dsimp only[RT.ty]at *)
 all_goals(try simp only[a9I]at *)
 all_goals(try simp only[d2D]at *)
 all_goals(try simp only[eta0,RT.bytes]at *)
 all_goals(try simp only[mkOne]at *)
 all_goals(try have hO:=c7H (by assumption))
 all_goals(try dsimp only at hO)
 all_goals(try have hl:=hO.2.2.2)
 all_goals(try(obtain⟨hp,hoe,hi0,hi1⟩:=hq;subst hoe))
 all_goals(try have hN:=b2e hp)
 all_goals(try have hX:=fun(e:Evt)=>b9I hp e)
 all_goals(try have hS:=fun(e:Evt)=>c7l hp e)
 all_goals(try have hw:IntKind.i64.wrap (i+1)=i+1:=e9 (by omega) (by omega))
 all_goals(try rw[hw])
 all_goals(first|exact(d1z hO.1 (by assumption)).elim|exact absurd trivial (by assumption)|exact hO.2.1|exact⟨hO.2.2.1,by first|trivial|rfl,by decide,by decide⟩|exact⟨hi0,by assumption⟩|exact(hX _).2.2.2|exact(hS _).pre hN.1|rfl|exact absurd (by assumption) (hS _).not2|exact absurd ((hS _).same (by assumption)) (by assumption)|exact(hS _).inX (by assumption)|exact(hS _).inW (by assumption)|exact(hS _).inR (by assumption)|exact absurd ((hS _).goes (by assumption)) (by assumption)|exact absurd ((hS _).code (by assumption) (by assumption)) (by assumption)|exact hN.1|omega|exact⟨(hX _).1,by first|trivial|rfl,by omega,by omega⟩|exact(d1z hN.1 (by assumption)).elim|exact absurd rfl (by assumption))
end Go.Proofs.YtmnapekfeenknaaGreat
