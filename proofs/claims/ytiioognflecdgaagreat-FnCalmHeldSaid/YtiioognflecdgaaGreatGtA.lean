/-
  Contracts: a world at its beginning, and things that happen, drawn.
-/
import Derived.Test.YtiioognflecdgaaGreatFy
import Derived.Test.YtiioognflecdgaaGreatMy
import Derived.Test.YtiioognflecdgaaGreatGnX
import Derived.Test.YtiioognflecdgaaGreatM7
import Derived.Test.YtiioognflecdgaaGreatGnW
import Derived.Test.YtiioognflecdgaaGreatGnE
import Derived.Test.YtiioognflecdgaaGreatFnFb
import Derived.Test.YtiioognflecdgaaGreatM8
import Derived.Test.YtiioognflecdgaaGreatGsS
import Derived.Test.YtiioognflecdgaaGreatGnT
set_option linter.unusedVariables false
set_option linter.unusedSimpArgs false
set_option maxRecDepth 100000
set_option maxHeartbeats 8000000
namespace Go.Mo
open Go.Sx
def d1W (a b:Th Int) (l:Th (List Wlk)) (k q:Th Int) (p:Int):Th Prop:=fun _=>p7 ⟨a (),b ()⟩=true∧z6 ⟨a (),b ()⟩ (l ())=true∧0≤k ()∧k ()≤5∧p≤q ()∧q ()≤p+3+2 * (5-k ())∧(∀v∈l (),v.seq=0∧v.last=0)∧(l ()).length+k ()≤5
theorem c3r {l:List Wlk} {k x y:Int} (h : ∀v∈l,v.seq=0∧v.last=0) : ∀v∈O0 l ⟨k,x,y,0,0⟩,v.seq=0∧v.last=0:=fun v hv=>by
 rcases b4b hv with hx|rfl
 ·exact h v hx
 ·exact⟨rfl,rfl⟩
end Go.Mo
namespace Go.Proofs.YtiioognflecdgaaGreat
open Go.Sx Go.Proofs Go.Mo
noncomputable def a5E:Sx.Spec:=⟨false,true,[.row .wld,.int .i64],[],fun _ _ ⟨w,c,_⟩ => .ret (vB fun _=>D4 (w ()) (c ()),fun _=>0)⟩
theorem c3G:b6 Tryz.prog 9 a5E:=j3 b9 (ss := [(11,X9),(75,E6),(76,a0I)]) ⟨a4i,a0a,b2z,trivial⟩ rfl rfl<|by
 intro(bs:Th (List Int)) (p:Th Int) ⟨(w:Th Wld),(c:Th Int),u⟩ K _ _ ho h
 obtain⟨w,rfl⟩:=a8 w;obtain⟨c,rfl⟩:=a8 c
 refine⟨noAnn,noAnn,20,?_⟩
 cbv
 repeat' first|((with_reducible intro _);cbv)|(with_reducible refine And.intro ?_ ?_)
 all_goals first|(refine retK h ?_;clear h;simp only[fin0])|(with_reducible refine Ob.mk ?_;clear h)|(clear h)
 all_goals(try simp only[eta0,RT.bytes]at *)
 all_goals(try dsimp only[RT.ty]at *)
 all_goals(try simp only[M1,b9z]at *)
 all_goals(first|exact(a2K (by assumption) (by assumption)).1|exact(a2K (by assumption) (by assumption)).2|grind[D4])
theorem b9g:b6 Tryz.prog 10 a5E:=j3 b9 (ss := [(16,X9),(77,E6),(78,a0I)]) ⟨a3D,Q3,a4V,trivial⟩ rfl rfl<|by
 intro(bs:Th (List Int)) (p:Th Int) ⟨(w:Th Wld),(c:Th Int),u⟩ K _ _ ho h
 obtain⟨w,rfl⟩:=a8 w;obtain⟨c,rfl⟩:=a8 c
 refine⟨noAnn,noAnn,20,?_⟩
 cbv
 repeat' first|((with_reducible intro _);cbv)|(with_reducible refine And.intro ?_ ?_)
 all_goals first|(refine retK h ?_;clear h;simp only[fin0])|(with_reducible refine Ob.mk ?_;clear h)|(clear h)
 all_goals(try simp only[eta0,RT.bytes]at *)
 all_goals(try dsimp only[RT.ty]at *)
 all_goals(try simp only[M1,b9z]at *)
 all_goals(first|exact(a2K (by assumption) (by assumption)).1|exact(a2K (by assumption) (by assumption)).2|grind[D4])
theorem b8T {w x:Wld} {l:List Evt} {i:Int} (hl:l.length≤1000) (h0:0≤i) (h1:i<l.length) (hx:x=J2 w l i.toNat):0≤IntKind.i64.wrap (i+1)∧IntKind.i64.wrap (i+1)≤l.length∧m0 x (nth .evt l i.toNat)=J2 w l (IntKind.i64.wrap (i+1)).toNat:=by
 have hw:IntKind.i64.wrap (i+1)=i+1:=b8 (by omega) (by omega)
 rw[hw,show(i+1).toNat=i.toNat+1 by omega,a2B (by omega),hx]
 exact⟨by omega,by omega,rfl⟩
noncomputable def c0W:Sx.Spec:=⟨false,false,[.row .wld,.list .evt],[nWld],fun _ _ ⟨w,l,_⟩ => .asrt (fun _=>(l ()).length≤1000) (.ret (rAs (W7 fun _=>J3 (w ()) (l ())),fun _=>0))⟩
theorem d2E:b6 Tryz.prog 7 c0W:=j3 b9 (ss := [(22,b2b)]) ⟨c3F,trivial⟩ rfl rfl<|by
 intro(bs:Th (List Int)) (p:Th Int) ⟨(w:Th Wld),(l:Th (List Evt)),u⟩ K _ _ ho h
 obtain⟨w,rfl⟩:=a8 w;obtain⟨l,rfl⟩:=a8 l
 obtain⟨hpre,h⟩:=h
 have hpre:l.length≤1000:=hpre.out
 refine⟨annL [(7,2,⟨Th Wld×Th Int,[],fun σ g=>((σ.only [1,2,4]).t 5 (.one (.att (.int .i64 g.2)))).a3Q 3 0 (W7 g.1),fun σ g _=>Ob fun _=>0≤g.2 ()∧g.2 ()≤l.length∧g.1 ()=J2 w l (g.2 ()).toNat,fun _ g _=>(1001-g.2 ()).toNat⟩)],noAnn,20,?_⟩
 cbv
 repeat' first|((with_reducible refine fun(g:Th Wld×Th Int) => ?_);obtain⟨x,i⟩:=g;obtain⟨x,rfl⟩:=a8 x;obtain⟨i,rfl⟩:=a8 i;(with_reducible refine ImpB.out ?_);cbv;(with_reducible refine ImpB.mk ?_);intro hq;obtain⟨hq⟩:=hq)|((with_reducible intro _);cbv)|(with_reducible refine And.intro ?_ ?_)
 all_goals try((first|(with_reducible refine LoopIn.wf (fun σ => (a2U σ 3,σ.tmI 5)) ?_ ?_)|(with_reducible refine LoopBack.wf (fun σ => (a2U σ 3,σ.tmI 5)) ?_ ?_ ?_))<;>cbv)
 all_goals try(with_reducible show _∧_;(try simp only[and_true,true_and]))
 all_goals try(repeat' with_reducible refine And.intro ?_ ?_)
 all_goals try(with_reducible refine MeasB.mk ?_)
 all_goals first|(refine retK h ?_;clear h;simp only[fin0])|(with_reducible refine Ob.mk ?_;clear h)|(clear h)
 all_goals(try simp only[eta0,RT.bytes]at *)
 all_goals(try dsimp only[RT.ty]at *)
 all_goals(try simp only[M1]at *)
 all_goals(try simp only[a4F]at *)
 all_goals(first|omega|exact⟨by omega,by omega,rfl⟩|exact b8T hpre hq.1 (by assumption) hq.2.2|grind[j4,b8,b4f,a2B,a7X])
end Go.Proofs.YtiioognflecdgaaGreat
