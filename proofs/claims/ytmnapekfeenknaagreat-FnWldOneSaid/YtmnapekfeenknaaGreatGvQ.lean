/-
  Contracts: the one world of a system, the reference's way.
-/
import Derived.Test.YtmnapekfeenknaaGreatGvC
import Derived.Test.YtmnapekfeenknaaGreatGnT
import Derived.Test.YtmnapekfeenknaaGreatM3
import Derived.Test.YtmnapekfeenknaaGreatM7
set_option linter.unusedVariables false
set_option linter.unusedSimpArgs false
set_option maxRecDepth 100000
set_option maxHeartbeats 8000000
namespace Go.Proofs.YtmnapekfeenknaaGreat
open Go.Sx Go.Proofs Go.Mo
noncomputable def c4G:Sx.Spec:=⟨false,false,[.map,.row .sto],[nCll],fun _ _ ⟨m,s,_⟩ => .ret (rCll fun _=>E4 (m ()) (s ()),fun _=>0)⟩
theorem c8c:b9 Tryz.prog 107 c4G:=j5 j3 (ss := [(169,a2b),(170,a4Y)]) ⟨a2g,a4o,trivial⟩ rfl rfl<|by
 intro(bs:Th (List Int)) (p:Th Int) ⟨(m:Th PMap),(s:Th Sto),u⟩ K _ _ ho h
 obtain⟨m,rfl⟩:=b6 m;obtain⟨s,rfl⟩:=b6 s
 have hso := @z6 m s
 refine⟨noAnn,noAnn,20,?_⟩
 cbv
 repeat' first|((with_reducible intro _);cbv)|(with_reducible refine And.intro ?_ ?_)
 all_goals first|(refine retK h ?_;clear h;simp only[fin0])|(with_reducible refine Ob.mk ?_;clear h)|(clear h)
 all_goals(try simp only[eta0,RT.bytes]at *)
 all_goals grind[E4,r9,O1,Y1]
noncomputable def c2r:Sx.Spec:=⟨false,true,[.row .wld],[nOne],fun _ _ ⟨w,_⟩ => .ret (oOne fun _=>oneOf (w ()),fun _=>0)⟩
theorem c0b:b9 Tryz.prog 44 c2r:=j5 j3 (ss := [(100,a2T),(107,c4G),(108,d6Y),(138,E6),(171,a1i)]) ⟨b2n,c8c,d7Z,V3,b2r,trivial⟩ rfl rfl<|by
 intro(bs:Th (List Int)) (p:Th Int) ⟨(w:Th Wld),u⟩ K _ _ ho h
 obtain⟨w,rfl⟩:=b6 w
 refine⟨annL [(44,6,⟨Th Int×Th Bool,[⟨.tmp 4 0,some 1000000000000017,.cll⟩,⟨.cell 4 2,some 34048,.ow⟩,⟨.cell 4 3,some 42,.int⟩,⟨.cell 4 4,some 48,.ints⟩],fun σ g=>(((((((((σ.only [1,2,3]).t 5 (.one (.att (.int .i64 g.1)))).t 4 (vO 17 1)).h 17 (1,.row false 0 .cll fun _=>O3 w.map w.stores (g.1 ()).toNat)).u9 4 2 (.own 34048 1)).h 34048 (1,.row true 0 .ow fun _=>n4 (accH w.map w.stores (g.1 ()).toNat 0))).u9 4 3 (.own 42 1)).h 42 (1,.row true 0 .int fun _=>V8 w.map w.stores (g.1 ()).toNat)).u9 4 4 (.own 48 1)).h 48 (1,.row true 0 .ints fun _=>airZ (g.1 ()).toNat),
   fun σ g _=>Ob fun _=>m8 w=true∧0≤g.1 ()∧g.1 ()≤w.map.cells,fun _ g _=>(5-g.1 ()).toNat⟩),
  (44,13,⟨Th Bool×Th Int,[⟨.cell 4 2,some 34048,.ow⟩],fun σ g=>(((σ.only [1,2,3,4,5,6]).t 7 (.one (.att (.int .i64 g.2)))).u9 4 2 (.own 34048 1)).h 34048 (1,.row true 0 .ow ((fun(I:Th Int)=>fun _=>n4 (accH w.map w.stores (I ()).toNat (g.2 ()).toNat)) (σ.tmI 5))),
   fun σ g _=>Ob ((fun(I:Th Int)=>fun _=>0≤g.2 ()∧g.2 ()≤(cX w.map w.stores (I ())).wlks.length∧(cX w.map w.stores (I ())).wlks.length≤9) (σ.tmI 5)),fun _ g _=>(10-g.2 ()).toNat⟩),
  (44,17,⟨Th Int×Th Int,[⟨.cell 4 2,some 34048,.ow⟩,⟨.cell 4 4,some 48,.ints⟩],fun σ g=>(((((σ.only [1,2,3,4]).t 8 (.one (.att (.int .i64 g.1)))).u9 4 2 (.own 34048 1)).h 34048 (1,.row true 0 .ow fun _=>n4 (accF w.map w.stores (g.1 ()).toNat 0 0))).u9 4 4 (.own 48 1)).h 48 (1,.row true 0 .ints fun _=>airA w.map w.stores (g.1 ()).toNat 0 0),
   fun σ g _=>Ob fun _=>m8 w=true∧0≤g.1 ()∧g.1 ()≤w.map.cells,fun _ g _=>(5-g.1 ()).toNat⟩),
  (109+1000000 * 46080,4,⟨Th Int×Th Int×Th Bool,[⟨.cell 46084 2,some 34048,.ow⟩,⟨.cell 46084 4,some 48,.ints⟩],fun σ g=>((((((((σ.only [2,4,5,8,9,10]).d0j [1,2,3,4,8]).t 11 (.one (.att (.int .i64 g.1)))).u9 4 2 .unk).u9 46084 2 (.own 34048 1)).h 34048 (1,.row true 0 .ow ((fun(I:Th Int)=>fun _=>n4 (accF w.map w.stores (I ()).toNat 0 (g.1 ()).toNat)) (upI σ 8)))).u9 46084 4 (.own 48 1)).h 48 (1,.row true 0 .ints ((fun(I:Th Int)=>fun _=>airA w.map w.stores (I ()).toNat 0 (g.1 ()).toNat) (upI σ 8)))),
   fun σ g _=>Ob ((fun(I:Th Int) (L:Th (List Pcl)) (d:Th Int)=>fun _=>0≤g.1 ()∧g.1 ()≤(L ()).length∧L ()=fl w.map w.stores (I ()) 0∧d ()=b7 w.map (I ()) 0∧d () ≠ -1∧0≤I ()∧I ()<w.map.cells∧(L ()).length≤5000) (upI σ 8) (σ.rowL .pcl 23606016) (σ.tmI 9)),fun _ g _=>(5001-g.1 ()).toNat⟩),
  (109+1000000 * 56320,4,⟨Th Bool×Th Int×Th Int,[⟨.cell 56324 2,some 34048,.ow⟩,⟨.cell 56324 4,some 48,.ints⟩],fun σ g=>((((((((((σ.only [2,4,5,8,9,10]).d0j [1,2,3,4,8]).t 11 (.one (.att (.int .i64 g.2.1)))).u9 4 2 .unk).u9 46084 2 .unk).u9 46088 2 .unk).u9 56324 2 (.own 34048 1)).h 34048 (1,.row true 0 .ow ((fun(I:Th Int)=>fun _=>n4 (accF w.map w.stores (I ()).toNat 1 (g.2.1 ()).toNat)) (upI σ 8)))).u9 56324 4 (.own 48 1)).h 48 (1,.row true 0 .ints ((fun(I:Th Int)=>fun _=>airA w.map w.stores (I ()).toNat 1 (g.2.1 ()).toNat) (upI σ 8)))),
   fun σ g _=>Ob ((fun(I:Th Int) (L:Th (List Pcl)) (d:Th Int)=>fun _=>0≤g.2.1 ()∧g.2.1 ()≤(L ()).length∧L ()=fl w.map w.stores (I ()) 1∧d ()=b7 w.map (I ()) 1∧d () ≠ -1∧0≤I ()∧I ()<w.map.cells∧(L ()).length≤5000) (upI σ 8) (σ.rowL .pcl 28848896) (σ.tmI 9)),fun _ g _=>(5001-g.2.1 ()).toNat⟩)],noAnn,20,?_⟩
 cbv
 repeat' first|((with_reducible refine fun(g:Th Int×Th Bool) => ?_);obtain⟨i,z⟩:=g;obtain⟨i,rfl⟩:=b6 i;obtain⟨z,rfl⟩:=b6 z;(with_reducible refine ImpB.out ?_);cbv;(with_reducible refine ImpB.mk ?_);intro hq;obtain⟨hq⟩:=hq)|((with_reducible refine fun(g:Th Bool×Th Int) => ?_);obtain⟨z,k⟩:=g;obtain⟨z,rfl⟩:=b6 z;obtain⟨k,rfl⟩:=b6 k;(with_reducible refine ImpB.out ?_);cbv;(with_reducible refine ImpB.mk ?_);intro hq;obtain⟨hq⟩:=hq)|((with_reducible refine fun(g:Th Int×Th Int) => ?_);obtain⟨i,y⟩:=g;obtain⟨i,rfl⟩:=b6 i;obtain⟨y,rfl⟩:=b6 y;(with_reducible refine ImpB.out ?_);cbv;(with_reducible refine ImpB.mk ?_);intro hq;obtain⟨hq⟩:=hq)|((with_reducible refine fun(g:Th Int×Th Int×Th Bool) => ?_);obtain⟨j,y,z⟩:=g;obtain⟨j,rfl⟩:=b6 j;obtain⟨y,rfl⟩:=b6 y;obtain⟨z,rfl⟩:=b6 z;(with_reducible refine ImpB.out ?_);cbv;(with_reducible refine ImpB.mk ?_);intro hq;obtain⟨hq⟩:=hq)|((with_reducible refine fun(g:Th Bool×Th Int×Th Int) => ?_);obtain⟨z,j,y⟩:=g;obtain⟨z,rfl⟩:=b6 z;obtain⟨j,rfl⟩:=b6 j;obtain⟨y,rfl⟩:=b6 y;(with_reducible refine ImpB.out ?_);cbv;(with_reducible refine ImpB.mk ?_);intro hq;obtain⟨hq⟩:=hq)|((with_reducible intro _);cbv)|(with_reducible refine And.intro ?_ ?_)
 all_goals try((first|(with_reducible refine LoopIn.wf (fun σ => (σ.tmI 5,r7)) ?_ ?_)|(with_reducible refine LoopBack.wf (fun σ => (σ.tmI 5,r7)) ?_ ?_ ?_)|(with_reducible refine LoopIn.wf (fun σ => (r7,σ.tmI 7)) ?_ ?_)|(with_reducible refine LoopBack.wf (fun σ => (r7,σ.tmI 7)) ?_ ?_ ?_)|(with_reducible refine LoopIn.wf (fun σ => (σ.tmI 8,G8)) ?_ ?_)|(with_reducible refine LoopBack.wf (fun σ => (σ.tmI 8,G8)) ?_ ?_ ?_)|(with_reducible refine LoopIn.wf (fun σ => (σ.tmI 11,G8,r7)) ?_ ?_)|(with_reducible refine LoopBack.wf (fun σ => (σ.tmI 11,G8,r7)) ?_ ?_ ?_)|(with_reducible refine LoopIn.wf (fun σ => (r7,σ.tmI 11,G8)) ?_ ?_)|(with_reducible refine LoopBack.wf (fun σ => (r7,σ.tmI 11,G8)) ?_ ?_ ?_))<;>cbv)
 all_goals try(with_reducible show _∧_;(try simp only[and_true,true_and]))
 all_goals try(repeat' with_reducible refine And.intro ?_ ?_)
 all_goals try(with_reducible refine MeasB.mk ?_)
 all_goals first|(refine retK h ?_;clear h;simp only[fin0])|(with_reducible refine Ob.mk ?_;clear h)|(clear h)
 all_goals(try simp only[eta0,RT.bytes]at *)
 all_goals(try dsimp only[RT.ty]at *)
 all_goals(try simp only[a9I]at *)
 all_goals(try simp only[eta0,RT.bytes]at *)
 all_goals(try simp only[Int.toNat_zero,Int.toNat_one]at *)
 all_goals(try have hM:=a5X (by assumption))
 all_goals(try simp only[z8])
 all_goals(try simp(disch:=omega) only[e9]at *)
 all_goals(try simp(disch:=first|assumption|omega) only[c2f,d7W,d7X,c2k,c2j,fl_l,fl_r]at *)
 all_goals(try dsimp only[RT.ty]at *)
 all_goals(try simp only[a9I]at *)
 all_goals(try simp(disch:=first|assumption|omega) only[Int.reduceSub,Int.reduceToNat,a1A,a4w,b3Q,a2q,b7l,b9R,c1H,e9]at *)
 all_goals(try dsimp only[RT.ty]at *)
 all_goals(try simp only[a9I]at *)
 all_goals(first|omega|with_reducible rfl|with_reducible exact c5t (by assumption)|with_reducible exact c1K (by assumption) (by omega) (by omega)|with_reducible exact b3Z (by assumption) (by omega) (by omega) _ _|with_reducible exact d4H (by omega) (by omega) (by omega)|with_reducible exact d8P (by omega) (by omega)|with_reducible exact d4C (by omega) (by omega)|with_reducible exact c9U (by omega) (by omega) (by omega)|with_reducible exact b1D (by omega)|with_reducible exact b3e (by omega)|with_reducible exact c1G (by omega)|with_reducible exact c9Y (by omega) (by omega) (by omega) (by assumption)|with_reducible exact c9X (by omega) (by omega) (by omega) (by assumption)|with_reducible exact c9Q (by omega) (by omega) (by omega) (by assumption)|with_reducible exact c9P (by omega) (by omega) (by omega) (by assumption)|with_reducible exact c4g (by omega) (by omega) (by omega) (by assumption)|with_reducible exact c4f (by omega) (by omega) (by omega) (by assumption)|with_reducible exact c9S (by assumption) (by omega) (by omega) (by omega) (by omega) (by assumption)|with_reducible exact c9R (by assumption) (by omega) (by omega) (by omega) (by omega) (by assumption)|with_reducible exact(a5K (by omega) (by omega) (by omega)).1|with_reducible exact(a5K (by omega) (by omega) (by omega)).2|with_reducible exact(b3V (by omega) (by omega) (by omega)).1|with_reducible exact(b3V (by omega) (by omega) (by omega)).2|with_reducible exact(c1O (by omega) (by omega)).1|with_reducible exact(c1O (by omega) (by omega)).2|with_reducible exact(a5K (by omega) (by omega) (by omega)).1.trans (c1N (by omega) (by omega)).1|with_reducible exact(a5K (by omega) (by omega) (by omega)).2.trans (c1N (by omega) (by omega)).2|with_reducible exact c5u (by assumption) (by omega) (by omega) (by omega) (by omega)|exact⟨by assumption,by omega,by omega⟩|exact⟨by omega,by omega,a8i (by assumption) (by omega) (by omega)⟩|exact⟨by omega,by omega,trivial,trivial,by omega,by omega,by omega,a9V (by assumption) _ _⟩|exact(b6k▸rfl)|(exfalso;omega)|exact(by rw[b6k];rfl)|rfl)
end Go.Proofs.YtmnapekfeenknaaGreat
