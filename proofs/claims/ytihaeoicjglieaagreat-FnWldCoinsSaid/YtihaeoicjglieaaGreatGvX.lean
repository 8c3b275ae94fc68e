/-
  FnWldCoins.
-/
import Derived.Test.YtihaeoicjglieaaGreatGvQ
import Derived.Test.YtihaeoicjglieaaGreatGvI
set_option linter.unusedVariables false
set_option linter.unusedSimpArgs false
set_option maxRecDepth 100000
set_option maxHeartbeats 8000000
namespace Go.Proofs.YtihaeoicjglieaaGreat
open Go.Sx Go.Proofs Go.Mo
theorem q0q {b:Bool} (h:b=true) (h':b=false):False:=by cases h.symm.trans h'
noncomputable def b5R:Sx.Spec:=⟨false,true,[.list .byte],[],fun _ _ _ => .ret (vB fun _=>true,fun _=>0)⟩
theorem b3s:b8 Tryz.prog 5 b5R:=j4 e9 (ss := [(12,b0X),(21,Q5),(33,Q5),(15,b5O),(27,a5f),(20,c1u),(28,a5f),(16,T9),(30,c3L),(29,a4p)]) ⟨b4v,a5r,V2,c4A,c1W,b9d,b9e,X4,d0D,a0o,trivial⟩ rfl rfl<|by
 intro(bs:Th (List Int)) (p:Th Int) ⟨(a:Th (List Int)),u⟩ K _ _ ho h
 obtain⟨a,rfl⟩:=b6 a
 refine⟨annL [(5,10,⟨Th Wld×Th Int,[],fun σ g=>((σ.only [3,4,5]).t 6 (.one (.att (.int .i64 g.2)))).a2M 4 0 (X0 g.1),fun σ g _=>Ob ((fun(n:Th Int)=>fun _=>a0J (g.1 ())∧n ()=I9 (oneOf (g.1 ()))∧0≤g.2 ()∧g.2 ()≤149) (σ.tmI 5)),fun _ g _=>(150-g.2 ()).toNat⟩)],noAnn,20,?_⟩
 cbv
 repeat' first|((with_reducible refine fun(g:Th Wld×Th Int) => ?_);obtain⟨w,i⟩:=g;obtain⟨w,rfl⟩:=b6 w;obtain⟨i,rfl⟩:=b6 i;(with_reducible refine ImpB.out ?_);cbv;(with_reducible refine ImpB.mk ?_);intro hq;obtain⟨hq⟩:=hq)|((with_reducible intro _);cbv)|(with_reducible refine And.intro ?_ ?_)
 all_goals try((first|(with_reducible refine LoopIn.wf (fun σ => (X3 σ 4,σ.tmI 6)) ?_ ?_)|(with_reducible refine LoopBack.wf (fun σ => (X3 σ 4,σ.tmI 6)) ?_ ?_ ?_))<;>cbv)
 all_goals try(with_reducible show _∧_;(try simp only[and_true,true_and]))
 all_goals try(repeat' with_reducible refine And.intro ?_ ?_)
 all_goals try(with_reducible refine MeasB.mk ?_)
 all_goals first|(refine retK h ?_;clear h;simp only[fin0])|(with_reducible refine Ob.mk ?_;clear h)|(clear h)
 all_goals(try dsimp only[RT.ty]at *)
 all_goals(try simp only[a6r]at *)
 all_goals(try simp only[a5Q]at *)
 all_goals(try simp only[eta0,RT.bytes]at *)
 all_goals(try have hO:=c6B (by assumption))
 all_goals(try have hN:=b1m hq.1;have hX:=fun(e:Evt)=>b8P hq.1 e)
 all_goals(try dsimp only at hO;have hl:=hO.2.2.2)
 all_goals(try have hw:IntKind.i64.wrap (i+1)=i+1:=(by have h1:=hq.2.2.1;have h2:=hq.2.2.2;exact e8 (by omega) (by omega)))
 all_goals(try rw[hw])
 all_goals(first|exact(q0q hO.1 (by assumption)).elim|exact absurd trivial (by assumption)|exact hO.2.1|exact⟨hO.2.2.1,trivial,by decide,by decide⟩|exact⟨hq.2.2.1,by assumption⟩|exact(hX _).2.2.2|exact absurd ((hX _).2.1.trans hq.2.1.symm) (by assumption)|exact absurd (rfl:w=c4l w []) (by assumption)|exact hN.1|(have h1:=hq.2.2.1;have h2:=hq.2.2.2;first|omega|exact⟨(hX _).1,hq.2.1.trans (hX _).2.1.symm,by omega,by omega⟩))
end Go.Proofs.YtihaeoicjglieaaGreat
