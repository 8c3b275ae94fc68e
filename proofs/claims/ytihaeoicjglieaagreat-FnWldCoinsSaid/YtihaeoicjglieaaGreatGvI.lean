/-
  Contracts: the one world of a system, the program's way.
-/
import Derived.Test.YtihaeoicjglieaaGreatMy
import Derived.Test.YtihaeoicjglieaaGreatGtA
import Derived.Test.YtihaeoicjglieaaGreatGnW
import Derived.Test.YtihaeoicjglieaaGreatM3
import Derived.Test.YtihaeoicjglieaaGreatM8
set_option linter.unusedVariables false
set_option linter.unusedSimpArgs false
set_option maxRecDepth 100000
set_option maxHeartbeats 8000000
namespace Go.Proofs.YtihaeoicjglieaaGreat
open Go.Sx Go.Proofs Go.Mo
noncomputable def c3G:Sx.Spec:=⟨false,false,[.row .sto,.map],[nCll],fun _ _ ⟨s,m,_⟩ => .asrt (fun _=>B1 (m ()) (s ())=true) (.ret (rCll fun _=>q9 (m ()) (s ()),fun _=>0))⟩
theorem d0w:b8 Tryz.prog 47 c3G:=j4 e9 (ss := [(100,c3U)]) ⟨c2a,trivial⟩ rfl rfl<|by
 intro(bs:Th (List Int)) (p:Th Int) ⟨(s:Th Sto),(m:Th PMap),u⟩ K _ _ ho h
 obtain⟨s,rfl⟩:=b6 s;obtain⟨m,rfl⟩:=b6 m
 obtain⟨hpre,h⟩:=h
 have hpre:=y7.1 hpre.out
 refine⟨noAnn,noAnn,20,?_⟩
 cbv
 repeat' first|((with_reducible intro _);cbv)|(with_reducible refine And.intro ?_ ?_)
 all_goals first|(refine retK h ?_;clear h;simp only[fin0])|(with_reducible refine Ob.mk ?_;clear h)|(clear h)
 all_goals(try simp only[eta0,RT.bytes]at *)
 all_goals grind[q9]
noncomputable def b5O:Sx.Spec:=⟨false,true,[.row .wld],[nOne],fun _ _ ⟨w,_⟩ => .asrt (fun _=>j8 (w ())=true→(allO (w ()).map (w ()).stores).length≤9∧R4 (allO (w ()).map (w ()).stores)=true) (.ret (oOne fun _=>oneOf (w ()),fun _=>0))⟩
theorem c4A:b8 Tryz.prog 15 b5O:=j4 e9 (ss := [(21,Q5),(47,c3G),(48,G5),(49,a0N)]) ⟨a5r,d0w,U1,a5s,trivial⟩ rfl rfl<|by
 intro(bs:Th (List Int)) (p:Th Int) ⟨(w:Th Wld),u⟩ K _ _ ho h
 obtain⟨w,rfl⟩:=b6 w
 obtain⟨hpre,h⟩:=h
 have hpre:=hpre.out
 refine⟨annL [(15,6,⟨Th Int×Th Bool,[⟨.tmp 4 0,some 1000000000000038,.cll⟩,⟨.cell 4 2,some 64,.ow⟩,⟨.cell 4 3,some 44,.int⟩,⟨.cell 4 4,some 50,.ints⟩],fun σ g=>(((((((((σ.only [1,2,3,24,25]).t 26 (.one (.att (.int .i64 g.1)))).t 4 (vO 38 1)).h 38 (1,.row false 0 .cll fun _=>N5 w.map w.stores (g.1 ()).toNat)).u7 4 2 (.own 64 1)).h 64 (1,.row true 0 .ow fun _=>accH w.map w.stores (g.1 ()).toNat 0)).u7 4 3 (.own 44 1)).h 44 (1,.row true 0 .int fun _=>T5 w.map w.stores (g.1 ()).toNat)).u7 4 4 (.own 50 1)).h 50 (1,.row true 0 .ints fun _=>airZ (g.1 ()).toNat),
   fun σ g _=>Ob fun _=>j8 w=true∧0≤g.1 ()∧g.1 ()≤w.map.cells,fun _ g _=>(5-g.1 ()).toNat⟩),
  (15,13,⟨Th Bool×Th Int,[⟨.cell 4 2,some 64,.ow⟩],fun σ g=>(((σ.only [1,2,3,4,24,25,26,52,53]).t 54 (.one (.att (.int .i64 g.2)))).u7 4 2 (.own 64 1)).h 64 (1,.row true 0 .ow ((fun(I:Th Int)=>fun _=>accH w.map w.stores (I ()).toNat (g.2 ()).toNat) (σ.tmI 26))),
   fun σ g _=>Ob ((fun(I:Th Int)=>fun _=>0≤g.2 ()∧g.2 ()≤(cX w.map w.stores (I ())).wlks.length∧(cX w.map w.stores (I ())).wlks.length≤9) (σ.tmI 26)),fun _ g _=>(10-g.2 ()).toNat⟩),
  (15,19,⟨Th Int×Th Int,[⟨.cell 4 2,some 64,.ow⟩,⟨.cell 4 4,some 50,.ints⟩],fun σ g=>(((((σ.only [1,2,3,4,67,68]).t 69 (.one (.att (.int .i64 g.1)))).u7 4 2 (.own 64 1)).h 64 (1,.row true 0 .ow fun _=>accF w.map w.stores (g.1 ()).toNat 0 0)).u7 4 4 (.own 50 1)).h 50 (1,.row true 0 .ints fun _=>airA w.map w.stores (g.1 ()).toNat 0 0),
   fun σ g _=>Ob fun _=>j8 w=true∧0≤g.1 ()∧g.1 ()≤w.map.cells,fun _ g _=>(5-g.1 ()).toNat⟩),
  (15,22,⟨Th Int×Th Int×Th Bool,[⟨.cell 4 2,some 64,.ow⟩,⟨.cell 4 4,some 50,.ints⟩],fun σ g=>(((((σ.only [1,2,3,4,67,68,69,10,11]).t 74 (.one (.att (.int .i64 g.1)))).u7 4 2 (.own 64 1)).h 64 (1,.row true 0 .ow ((fun(I:Th Int)=>fun _=>accS w.map w.stores (I ()).toNat (g.1 ()).toNat) (σ.tmI 69)))).u7 4 4 (.own 50 1)).h 50 (1,.row true 0 .ints ((fun(I:Th Int)=>fun _=>airS w.map w.stores (I ()).toNat (g.1 ()).toNat) (σ.tmI 69))),
   fun σ g _=>Ob fun _=>0≤g.1 ()∧g.1 ()≤2,fun _ g _=>(3-g.1 ()).toNat⟩),
  (15,27,⟨Th Bool×Th Int×Th Int,[⟨.cell 4 2,some 64,.ow⟩,⟨.cell 4 4,some 50,.ints⟩],fun σ g=>(((((σ.only [1,2,3,4,67,68,69,10,11,74,12,13,98,99]).t 100 (.one (.att (.int .i64 g.2.1)))).u7 4 2 (.own 64 1)).h 64 (1,.row true 0 .ow ((fun(I S:Th Int)=>fun _=>accF w.map w.stores (I ()).toNat (S ()).toNat (g.2.1 ()).toNat) (σ.tmI 69) (σ.tmI 74)))).u7 4 4 (.own 50 1)).h 50 (1,.row true 0 .ints ((fun(I S:Th Int)=>fun _=>airA w.map w.stores (I ()).toNat (S ()).toNat (g.2.1 ()).toNat) (σ.tmI 69) (σ.tmI 74))),
   fun σ g _=>Ob ((fun(I S d:Th Int) (L:Th (List Pcl))=>fun _=>0≤g.2.1 ()∧g.2.1 ()≤(L ()).length∧L ()=fl w.map w.stores (I ()) (S ())∧d ()=b7 w.map (I ()) (S ()) ∧ ¬d () = -1∧0≤S ()∧S ()<2∧0≤I ()∧I ()<w.map.cells∧(L ()).length≤5000) (σ.tmI 69) (σ.tmI 74) (σ.tmI 13) (σ.rowL .pcl 51456)),fun _ g _=>(5001-g.2.1 ()).toNat⟩),
  (104,2,⟨Th Bool×Th Bool,[],fun σ _ => σ.only [0,1,2,6,7,8],fun σ _ _=>Ob ((fun(n:Th Int)=>fun _=>n ()≤9) (σ.tmI 1)),fun _ _ _=>0⟩),
  (104,7,⟨Th Bool×Th Bool×Th Int,[],fun σ _ => σ.only [0,1,2,6],fun σ _ _=>Ob ((fun(n:Th Int)=>fun _=>n ()≤9) (σ.tmI 1)),fun _ _ _=>0⟩),
  (168,1,⟨Th (List OW)×Th Int,[],fun σ g=>((σ.only [0,1,2,3]).t 8 (.one (.att (.int .i64 g.2)))).h 64 (1,.row true 0 .ow g.1),fun σ g _=>Ob ((fun(L:Th (List OW)) (a b:Th Int)=>fun _=>SortI (L ()) (g.1 ()) (a ()) (b ()) (g.2 ())) (σ.rowL .ow 64) (σ.tmI 1) (σ.tmI 2)),fun _ g _=>(11-g.2 ()).toNat⟩),
  (168,4,⟨Th (List OW)×Th Int×Th Bool,[],fun σ g=>((σ.only [0,1,2,3,8]).t 9 (.one (.att (.int .i64 g.2.1)))).h 64 (1,.row true 0 .ow g.1),fun σ g _=>Ob ((fun(L:Th (List OW)) (i:Th Int)=>fun _=>SinkI (L ()) (g.1 ()) (i ()) (g.2.1 ())) (σ.rowL .ow 64) (σ.tmI 8)),fun _ g _=>(g.2.1 ()).toNat⟩)],
  annL [(104,3,⟨Empty,[],fun σ _ => σ,fun _ _ _=>Ob fun _=>False,fun _ _ _=>0⟩),(104,8,⟨Empty,[],fun σ _ => σ,fun _ _ _=>Ob fun _=>False,fun _ _ _=>0⟩)],20,?_⟩
 cbv
 repeat' first|((with_reducible refine fun(g:Empty) => ?_);exact g.elim)|((with_reducible refine fun(g:Th Int×Th Bool) => ?_);obtain⟨i,z⟩:=g;obtain⟨i,rfl⟩:=b6 i;obtain⟨z,rfl⟩:=b6 z;(with_reducible refine ImpB.out ?_);cbv;(with_reducible refine ImpB.mk ?_);intro hq;obtain⟨hq⟩:=hq)|((with_reducible refine fun(g:Th Bool×Th Int) => ?_);obtain⟨z,k⟩:=g;obtain⟨z,rfl⟩:=b6 z;obtain⟨k,rfl⟩:=b6 k;(with_reducible refine ImpB.out ?_);cbv;(with_reducible refine ImpB.mk ?_);intro hq;obtain⟨hq⟩:=hq)|((with_reducible refine fun(g:Th Int×Th Int) => ?_);obtain⟨i,y⟩:=g;obtain⟨i,rfl⟩:=b6 i;obtain⟨y,rfl⟩:=b6 y;(with_reducible refine ImpB.out ?_);cbv;(with_reducible refine ImpB.mk ?_);intro hq;obtain⟨hq⟩:=hq)|((with_reducible refine fun(g:Th Int×Th Int×Th Bool) => ?_);obtain⟨s,y,z⟩:=g;obtain⟨s,rfl⟩:=b6 s;obtain⟨y,rfl⟩:=b6 y;obtain⟨z,rfl⟩:=b6 z;(with_reducible refine ImpB.out ?_);cbv;(with_reducible refine ImpB.mk ?_);intro hq;obtain⟨hq⟩:=hq)|((with_reducible refine fun(g:Th Bool×Th Int×Th Int) => ?_);obtain⟨z,j,y⟩:=g;obtain⟨z,rfl⟩:=b6 z;obtain⟨j,rfl⟩:=b6 j;obtain⟨y,rfl⟩:=b6 y;(with_reducible refine ImpB.out ?_);cbv;(with_reducible refine ImpB.mk ?_);intro hq;obtain⟨hq⟩:=hq)|((with_reducible refine fun(g:Th Bool×Th Bool) => ?_);obtain⟨z,y⟩:=g;obtain⟨z,rfl⟩:=b6 z;obtain⟨y,rfl⟩:=b6 y;(with_reducible refine ImpB.out ?_);cbv;(with_reducible refine ImpB.mk ?_);intro hq;obtain⟨hq⟩:=hq)|((with_reducible refine fun(g:Th Bool×Th Bool×Th Int) => ?_);obtain⟨z,y,x⟩:=g;obtain⟨z,rfl⟩:=b6 z;obtain⟨y,rfl⟩:=b6 y;obtain⟨x,rfl⟩:=b6 x;(with_reducible refine ImpB.out ?_);cbv;(with_reducible refine ImpB.mk ?_);intro hq;obtain⟨hq⟩:=hq)|((with_reducible refine fun(g:Th (List OW)×Th Int) => ?_);obtain⟨R,i⟩:=g;obtain⟨R,rfl⟩:=b6 R;obtain⟨i,rfl⟩:=b6 i;(with_reducible refine ImpB.out ?_);cbv;(with_reducible refine ImpB.mk ?_);intro hq;obtain⟨hq⟩:=hq)|((with_reducible refine fun(g:Th (List OW)×Th Int×Th Bool) => ?_);obtain⟨R,j,z⟩:=g;obtain⟨R,rfl⟩:=b6 R;obtain⟨j,rfl⟩:=b6 j;obtain⟨z,rfl⟩:=b6 z;(with_reducible refine ImpB.out ?_);cbv;(with_reducible refine ImpB.mk ?_);intro hq;obtain⟨hq⟩:=hq)|((with_reducible intro _);cbv)|(with_reducible refine And.intro ?_ ?_)
 all_goals try((first|(with_reducible refine LoopIn.wf (fun σ => (σ.tmI 26,s5)) ?_ ?_)|(with_reducible refine LoopBack.wf (fun σ => (σ.tmI 26,s5)) ?_ ?_ ?_)|(with_reducible refine LoopIn.wf (fun σ => (s5,σ.tmI 54)) ?_ ?_)|(with_reducible refine LoopBack.wf (fun σ => (s5,σ.tmI 54)) ?_ ?_ ?_)|(with_reducible refine LoopIn.wf (fun σ => (σ.tmI 69,L0)) ?_ ?_)|(with_reducible refine LoopBack.wf (fun σ => (σ.tmI 69,L0)) ?_ ?_ ?_)|(with_reducible refine LoopIn.wf (fun σ => (σ.tmI 74,L0,s5)) ?_ ?_)|(with_reducible refine LoopBack.wf (fun σ => (σ.tmI 74,L0,s5)) ?_ ?_ ?_)|(with_reducible refine LoopIn.wf (fun σ => (s5,σ.tmI 100,L0)) ?_ ?_)|(with_reducible refine LoopBack.wf (fun σ => (s5,σ.tmI 100,L0)) ?_ ?_ ?_)|(with_reducible refine LoopIn.wf (fun _=>(s5,s5)) ?_ ?_)|(with_reducible refine LoopBack.wf (fun _=>(s5,s5)) ?_ ?_ ?_)|(with_reducible refine LoopIn.wf (fun _=>(s5,s5,L0)) ?_ ?_)|(with_reducible refine LoopBack.wf (fun _=>(s5,s5,L0)) ?_ ?_ ?_)|(with_reducible refine LoopIn.wf (fun σ => (σ.rowL .ow 64,σ.tmI 8)) ?_ ?_)|(with_reducible refine LoopBack.wf (fun σ => (σ.rowL .ow 64,σ.tmI 8)) ?_ ?_ ?_)|(with_reducible refine LoopIn.wf (fun σ => (σ.rowL .ow 64,σ.tmI 9,s5)) ?_ ?_)|(with_reducible refine LoopBack.wf (fun σ => (σ.rowL .ow 64,σ.tmI 9,s5)) ?_ ?_ ?_))<;>cbv)
 all_goals try(with_reducible show _∧_;(try simp only[and_true,true_and]))
 all_goals try(repeat' with_reducible refine And.intro ?_ ?_)
 all_goals try(with_reducible refine MeasB.mk ?_)
 all_goals first|(refine retK h ?_;clear h;simp only[fin0])|(with_reducible refine Ob.mk ?_;clear h)|(clear h)
 all_goals(try simp only[eta0,RT.bytes]at *)
 all_goals(try dsimp only[RT.ty]at *)
 all_goals(try simp only[b6I]at *)
 all_goals(try simp only[Int.toNat_zero,Int.toNat_one,d7a]at *)
 all_goals(try have hM:=a5n (by assumption))
 all_goals(try simp only[B3])
 all_goals(try simp(disch:=omega) only[e8,a1h,a3M,b2U,a1T]at *)
 all_goals(try simp(disch:=first|assumption|omega) only[c1j,b7L]at *)
 all_goals(try simp(disch:=first|assumption|omega) only[d6R]at *)
 all_goals(try dsimp only[RT.ty]at *)
 all_goals(try simp only[b6I]at *)
 all_goals(try simp(disch:=first|assumption|omega) only[Int.reduceSub,Int.reduceToNat,a1h,a3M,b2U,a1T,b6o,b8W,b6n,c8H,e8]at *)
 all_goals(try dsimp only[RT.ty]at *)
 all_goals(try simp only[b6I]at *)
 all_goals(first|omega|with_reducible rfl|with_reducible exact c4v (by assumption)|with_reducible exact c8Q (by omega) (by omega) (by omega)|with_reducible exact c3f (by omega) (by omega) (by omega)|with_reducible exact d5q (by omega) (by omega)|with_reducible exact d3c (by omega) (by omega)|with_reducible exact b0J (by omega)|with_reducible exact b2k (by omega)|with_reducible exact c0I (by omega)|with_reducible exact(c0L (by omega) (by omega) (by omega) (by omega) (by omega) (by assumption)).1|with_reducible exact(c0L (by omega) (by omega) (by omega) (by omega) (by omega) (by assumption)).2|with_reducible exact c8O (by omega) (by omega) (by omega) (by omega) (by omega) (by assumption)|with_reducible exact d3d (by assumption) (by omega) (by omega) (by omega) (by assumption) (by omega) (by omega) (by assumption)|with_reducible exact(a9m (by omega) (by omega) (by omega) (by omega) (by omega)).1|with_reducible exact(a9m (by omega) (by omega) (by omega) (by omega) (by omega)).2|with_reducible exact(b5g (by omega) (by omega) (by omega) (by assumption)).1|with_reducible exact(b5g (by omega) (by omega) (by omega) (by assumption)).2|with_reducible exact(b0v (by omega) (by omega)).1|with_reducible exact(b0v (by omega) (by omega)).2|with_reducible exact(c0K (by omega) (by omega)).1|with_reducible exact(c0K (by omega) (by omega)).2|with_reducible exact d0p (by assumption) (by omega) (by omega)|exact⟨by assumption,by omega,by omega⟩|exact⟨by omega,by omega,a7t (by assumption) (by omega) (by omega)⟩|exact⟨by omega,by omega,trivial,trivial,by assumption,by omega,by omega,by omega,by omega,a9h (by assumption) _ _⟩|exact c9B (by assumption)|exact c6s (by assumption) (by omega)|with_reducible exact d5K (c8R (by assumption) (by omega) (by omega) _)|with_reducible exact d5K (c8U (by assumption) (by omega) (by omega) _ _)|with_reducible exact c9z hpre (by assumption) (by omega) (by omega)|with_reducible exact c1m hpre (by assumption) (by omega) (by omega)|with_reducible exact SortI.down (by assumption) (by assumption)|with_reducible exact SinkI.in1 (by assumption)|with_reducible exact SinkI.in2 (by assumption) (by assumption)|with_reducible exact SortI.less (by assumption) (by assumption)|with_reducible exact SortI.next (by assumption) (by assumption) (SinkI.stop (by assumption) (.inl (by assumption)))|with_reducible exact SortI.next (by assumption) (by assumption) (SinkI.d7h (by assumption) (by assumption) (by assumption))|with_reducible exact SinkI.in3 (by assumption) (by assumption) _ _|with_reducible exact SinkI.d7i (by assumption) (by assumption) (by assumption)|with_reducible exact SinkI.d7n (by assumption) (by assumption)|with_reducible exact d0s (by assumption) (by omega) (by omega) (by omega) (by omega) (by assumption) (by assumption)|(exfalso;omega)|rfl)
end Go.Proofs.YtihaeoicjglieaaGreat
