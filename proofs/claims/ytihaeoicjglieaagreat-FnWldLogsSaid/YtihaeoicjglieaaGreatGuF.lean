/-
  The law FnWldLogs.
-/
import Derived.Test.YtihaeoicjglieaaGreatMx
import Derived.Test.YtihaeoicjglieaaGreatGsE
import Derived.Test.YtihaeoicjglieaaGreatGsS
import Derived.Test.YtihaeoicjglieaaGreatGnR
import Derived.Test.YtihaeoicjglieaaGreatGnW
import Derived.Test.YtihaeoicjglieaaGreatGnT
import Derived.Test.YtihaeoicjglieaaGreatGvN
set_option linter.unusedVariables false
set_option linter.unusedSimpArgs false
set_option maxRecDepth 100000
set_option maxHeartbeats 8000000
namespace Go.Proofs.YtihaeoicjglieaaGreat
open Go.Sx Go.Proofs Go.Mo
theorem b6M {W:Wld} {e:Evt} (h:j8 W=true):j8 (b9 W e)=true∧W.stores.length≤4∧(b9 W e).stores.length=W.stores.length∧(W.table.ages.length:Int)=W.stores.length∧(b9 W e).table.ages.length=W.table.ages.length ∧
  (∀i:Nat,(nth .sto (b9 W e).stores i).recs.take (nth .sto W.stores i).recs.length=(nth .sto W.stores i).recs∧(nth .sto W.stores i).recs.length≤(nth .sto (b9 W e).stores i).recs.length∧(nth .sto W.stores i).age≤(nth .sto (b9 W e).stores i).age ∧
   @LE.le Int _ (nth .int W.table.ages i) (nth .int (b9 W e).table.ages i)) ∧ -1≤b1M W.stores (b9 W e).stores∧(b9 W e).notes.take W.notes.length=W.notes∧W.notes.length≤(b9 W e).notes.length:=by
 have h1:=d1n (e:=e) h
 have h2:=(a0A (e:=e) h).1
 have h3:=a1A (n0.1 h).2.1
 have h4:=a5E h
 exact⟨h2,b0G h,h1.1.len,by omega,h1.2.1,fun i=>⟨(h1.1.pre i).1,(h1.1.pre i).2,h1.1.age i,h1.2.2.1 i⟩,h1.1.new,h1.2.2.2.1,h1.2.2.2.2⟩
theorem c8M {W:Wld} {e:Evt} {i:Int} (h:j8 W=true) (h0:0≤i) (h1:i<(W.stores.length:Int)):0≤i∧i<((b9 W e).table.ages.length:Int):=by
 have hL:=b6M (e:=e) h
 omega
theorem c8N {W:Wld} {i:Int} (h:j8 W=true) (h0:0≤i) (h1:i<(W.stores.length:Int)):0≤i∧i<(W.table.ages.length:Int):=by
 have hL:=b6M (e:=⟨0,0,0,0,0⟩) h
 omega
noncomputable def b8j:Sx.Spec:=⟨false,true,[.list .byte],[],fun _ _ _ => .ret (vB fun _=>true,fun _=>0)⟩
theorem b6x:b8 Tryz.prog 11 b8j:=j4 e9 (ss := [(31,W0),(16,T9),(32,N7),(29,a4p),(33,Q5),(21,Q5),(54,z7),(42,sIsR),(22,sNew),(39,a0O)]) ⟨X5,X4,N1,a0o,V2,a5r,K9,b9o,d4g,a0q,trivial⟩ rfl rfl<|by
 intro(bs:Th (List Int)) (p:Th Int) ⟨(a:Th (List Int)),u⟩ K _ _ ho h
 obtain⟨a,rfl⟩:=b6 a
 refine⟨annL [(11,10,⟨Th Int×Th Bool,[],fun σ g=>(σ.only [3,4,5]).t 6 (.one (.att (.int .i64 g.1))),fun σ g _=>Ob ((fun(W:Th Wld)=>fun _=>0≤g.1 ()∧g.1 ()≤(W ()).stores.length∧(W ()).stores.length≤4∧j8 (W ())=true) (X3 σ 4)),fun _ g _=>(5-g.1 ()).toNat⟩)],noAnn,20,?_⟩
 cbv
 repeat' first|((with_reducible refine fun(g:Th Int×Th Bool) => ?_);obtain⟨i,z⟩:=g;obtain⟨i,rfl⟩:=b6 i;obtain⟨z,rfl⟩:=b6 z;(with_reducible refine ImpB.out ?_);cbv;(with_reducible refine ImpB.mk ?_);intro hq;obtain⟨hq⟩:=hq)|((with_reducible intro _);cbv)|(with_reducible refine And.intro ?_ ?_)
 all_goals try((first|(with_reducible refine LoopIn.wf (fun σ => (σ.tmI 6,s5)) ?_ ?_)|(with_reducible refine LoopBack.wf (fun σ => (σ.tmI 6,s5)) ?_ ?_ ?_))<;>cbv)
 all_goals try(with_reducible show _∧_;(try simp only[and_true,true_and]))
 all_goals try(repeat' with_reducible refine And.intro ?_ ?_)
 all_goals try(with_reducible refine MeasB.mk ?_)
 all_goals first|(refine retK h ?_;clear h;simp only[fin0])|(with_reducible refine Ob.mk ?_;clear h)|(clear h)
 all_goals(try simp only[eta0,RT.bytes]at *)
 all_goals(try dsimp only[RT.ty]at *)
 all_goals(try simp only[S6]at *)
 all_goals(try simp only[a5Q]at *)
 all_goals(try simp only[eta0,RT.bytes]at *)
 all_goals(first|omega|rfl|exact absurd trivial (by assumption)|exact⟨by omega,by omega,b0G (by assumption),by assumption⟩|exact c8M (by assumption) (by omega) (by assumption)|exact c8N (W:=⟨⟨_,_⟩,_,_,⟨_,_⟩,_,_,_⟩) (by assumption) (by omega) (by assumption)|exact absurd (L9 (by assumption)) (by assumption)|(have hL:=fun(e:Evt)=>b6M (e:=e) (by assumption);grind[L9,e8]))
end Go.Proofs.YtihaeoicjglieaaGreat
