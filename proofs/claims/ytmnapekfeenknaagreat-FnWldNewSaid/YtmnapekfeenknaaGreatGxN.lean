/-
  What is drawn for FnWldNew, and the law.
-/
import Derived.Test.YtmnapekfeenknaaGreatFx
import Derived.Test.YtmnapekfeenknaaGreatMx
import Derived.Test.YtmnapekfeenknaaGreatGvI
import Derived.Test.YtmnapekfeenknaaGreatGnVe
import Derived.Test.YtmnapekfeenknaaGreatGnE
import Derived.Test.YtmnapekfeenknaaGreatFnQ
import Derived.Test.YtmnapekfeenknaaGreatGxW
import Derived.Test.YtmnapekfeenknaaGreatM8
set_option linter.unusedVariables false
set_option linter.unusedSimpArgs false
set_option maxRecDepth 100000
set_option maxHeartbeats 8000000
namespace Go.Proofs.YtmnapekfeenknaaGreat
open Go.Sx Go.Proofs Go.Mo
noncomputable def b0q:Sx.Spec:=⟨false,false,[.list .byte],[[none,none],[some .wlk],[none]],fun _ _ _ => .all Int fun a => .all Int fun b => .all (List Wlk) fun l => .all Int fun v => .asm (fun _=>l.length≤10) (.ret (.tup [.agg [cI a,cI b],vL .wlk fun _=>l,.one (cI v)],fun _=>0))⟩
theorem b7x:b9 Tryz.prog 10 b0q:=j5 j3 (ss := [(46,sMap),(47,d0O),(48,U4)]) ⟨d7g,d5z,M4,trivial⟩ rfl rfl<|by
 intro(bs:Th (List Int)) (p:Th Int) ⟨(l:Th (List Int)),u⟩ K hb hp0 ho h
 obtain⟨l,rfl⟩:=b6 l
 refine⟨noAnn,noAnn,20,?_⟩
 cbv
 repeat' first|((with_reducible intro _);cbv)|(with_reducible refine And.intro ?_ ?_)
 all_goals first|(refine retK (h _ _ _ _ ?_) rfl;clear h)|(refine retK (h _ _ _ _ ?_) rfl)|(with_reducible refine Ob.mk ?_;clear h)|(clear h)
 all_goals(try simp only[eta0,RT.bytes]at *)
 all_goals(try dsimp only[RT.ty]at *)
 all_goals(try simp only[M0]at *)
 all_goals(first|rfl|omega|assumption|grind[e9])
noncomputable def c2t:Sx.Spec:=⟨false,true,[.list .byte],[],fun _ _ _ => .ret (vB fun _=>true,fun _=>0)⟩
theorem c0l:b9 Tryz.prog 3 c2t:=j5 j3 (ss := [(10,b0q),(11,a5P),(13,a5P),(12,d0V),(14,A5),(15,Z2),(66,A5),(17,b6O),(18,a2T),(19,sIsI),(20,b8V)]) ⟨b7x,d1E,a9C,c8r,F7,a0n,K4,c5y,a8l,a8t,c7Y,trivial⟩ rfl rfl<|by
 intro(bs:Th (List Int)) (p:Th Int) ⟨(a:Th (List Int)),u⟩ K _ _ ho h
 obtain⟨a,rfl⟩:=b6 a
 refine⟨annL [(3,13,⟨Th Int×Th Bool,[],fun σ g=>(σ.only [3,4,6,7]).t 8 (.one (.att (.int .i64 g.1))),fun σ g _=>Ob fun _=>0≤g.1 ()∧g.1 ()≤10,fun _ g _=>(11-g.1 ()).toNat⟩)],noAnn,20,?_⟩
 cbv
 repeat' first|((with_reducible refine fun(g:Th Int×Th Bool) => ?_);obtain⟨i,z⟩:=g;obtain⟨i,rfl⟩:=b6 i;obtain⟨z,rfl⟩:=b6 z;(with_reducible refine ImpB.out ?_);cbv;(with_reducible refine ImpB.mk ?_);intro hq;obtain⟨hq⟩:=hq)|((with_reducible intro _);cbv)|(with_reducible refine And.intro ?_ ?_)
 all_goals try((first|(with_reducible refine LoopIn.wf (fun σ => (σ.tmI 8,r7)) ?_ ?_)|(with_reducible refine LoopBack.wf (fun σ => (σ.tmI 8,r7)) ?_ ?_ ?_))<;>cbv)
 all_goals try(with_reducible show _∧_;(try simp only[and_true,true_and]))
 all_goals try(repeat' with_reducible refine And.intro ?_ ?_)
 all_goals try(with_reducible refine MeasB.mk ?_)
 all_goals first|(refine retK h ?_;clear h;simp only[fin0])|(with_reducible refine Ob.mk ?_;clear h)|(clear h)
 all_goals(try simp only[eta0,RT.bytes]at *)
 all_goals(try dsimp only[RT.ty]at *)
 all_goals(try simp only[M0]at *)
 all_goals(try simp only[d2D]at *)
 all_goals(try simp only[eta0,RT.bytes]at *)
 all_goals(try have hK:=d5Q (by assumption) (by assumption) (by assumption) (by assumption))
 all_goals(first|rfl|decide|exact absurd trivial (by assumption)|exact absurd (d2y (by assumption)) (by assumption)|exact absurd (d2x (by assumption)) (by assumption)|exact absurd (d2w (by assumption)) (by assumption)|exact absurd (d2v (by assumption)) (by assumption)|exact fun _=>hK.2.1|exact(d8g hK.1 (by assumption)).elim|exact hK.2.2.2.2.2.2.1|exact absurd hK.2.2.2.2.2.1 (by assumption)|exact⟨trivial,hK.2.2.2.2.2.2.2.2.1⟩|exact d5S hK.2.2.2.2.2.2.2.2|skip)
 all_goals(try have hl9:=hK.2.2.2.2.2.2.2.1)
 all_goals(try simp only[hK.2.2.1,hK.2.2.2.1,hK.2.2.2.2.1,b5I,List.length_nil]at *)
 all_goals(first|omega|exact absurd rfl (by assumption)|skip)
 all_goals(try have hi:=hq.1)
 all_goals(try have hA:=d8v hi (by assumption))
 all_goals(try simp only[hA,decide_true,Bool.and_self]at *)
 all_goals(try have hw:IntKind.i64.wrap (i+1)=i+1:=e9 (by omega) (by omega))
 all_goals(try rw[hw])
 all_goals(first|omega|exact d8w hi (by assumption) hl9|contradiction)
end Go.Proofs.YtmnapekfeenknaaGreat
