/-
  Contracts: the one world of a system, the reference's way.
-/
import Derived.Test.YtihaeoicjglieaaGreatMy
import Derived.Test.YtihaeoicjglieaaGreatGtA
import Derived.Test.YtihaeoicjglieaaGreatGnW
import Derived.Test.YtihaeoicjglieaaGreatGnT
import Derived.Test.YtihaeoicjglieaaGreatM3
import Derived.Test.YtihaeoicjglieaaGreatM8
set_option linter.unusedVariables false
set_option linter.unusedSimpArgs false
set_option maxRecDepth 100000
set_option maxHeartbeats 8000000
namespace Go.Proofs.YtihaeoicjglieaaGreat
open Go.Sx Go.Proofs Go.Mo
noncomputable def c3F:Sx.Spec:=⟨false,false,[.map,.row .sto],[nCll],fun _ _ ⟨m,s,_⟩ => .ret (rCll fun _=>L6 (m ()) (s ()),fun _=>0)⟩
theorem c6U:b8 Tryz.prog 58 c3F:=j4 e9 (ss := [(117,a2A),(118,a4o)]) ⟨a1I,a3E,trivial⟩ rfl rfl<|by
 intro(bs:Th (List Int)) (p:Th Int) ⟨(m:Th PMap),(s:Th Sto),u⟩ K _ _ ho h
 obtain⟨m,rfl⟩:=b6 m;obtain⟨s,rfl⟩:=b6 s
 have hso := @y7 m s
 refine⟨noAnn,noAnn,20,?_⟩
 cbv
 repeat' first|((with_reducible intro _);cbv)|(with_reducible refine And.intro ?_ ?_)
 all_goals first|(refine retK h ?_;clear h;simp only[fin0])|(with_reducible refine Ob.mk ?_;clear h)|(clear h)
 all_goals(try simp only[eta0,RT.bytes]at *)
 all_goals grind[L6,q9,U4,V6]
noncomputable def c1u:Sx.Spec:=⟨false,true,[.row .wld],[nOne],fun _ _ ⟨w,_⟩ => .ret (oOne fun _=>oneOf (w ()),fun _=>0)⟩
theorem b9d:b8 Tryz.prog 20 c1u:=j4 e9 (ss := [(33,Q5),(58,c3F),(59,d5w),(119,G5),(120,a0N)]) ⟨V2,c6U,d6u,W5,b1y,trivial⟩ rfl rfl<|by
 intro(bs:Th (List Int)) (p:Th Int) ⟨(w:Th Wld),u⟩ K _ _ ho h
 obtain⟨w,rfl⟩:=b6 w
 refine⟨annL [(20,6,⟨Th Int×Th Bool,[⟨.tmp 4 0,some 1000000000000017,.cll⟩,⟨.cell 4 2,some 34048,.ow⟩,⟨.cell 4 3,some 42,.int⟩,⟨.cell 4 4,some 48,.ints⟩],fun σ g=>(((((((((σ.only [1,2,3]).t 5 (.one (.att (.int .i64 g.1)))).t 4 (vO 17 1)).h 17 (1,.row false 0 .cll fun _=>N5 w.map w.stores (g.1 ()).toNat)).u7 4 2 (.own 34048 1)).h 34048 (1,.row true 0 .ow fun _=>m9 (accH w.map w.stores (g.1 ()).toNat 0))).u7 4 3 (.own 42 1)).h 42 (1,.row true 0 .int fun _=>T5 w.map w.stores (g.1 ()).toNat)).u7 4 4 (.own 48 1)).h 48 (1,.row true 0 .ints fun _=>airZ (g.1 ()).toNat),
   fun σ g _=>Ob fun _=>j8 w=true∧0≤g.1 ()∧g.1 ()≤w.map.cells,fun _ g _=>(5-g.1 ()).toNat⟩),
  (20,13,⟨Th Bool×Th Int,[⟨.cell 4 2,some 34048,.ow⟩],fun σ g=>(((σ.only [1,2,3,4,5,6]).t 7 (.one (.att (.int .i64 g.2)))).u7 4 2 (.own 34048 1)).h 34048 (1,.row true 0 .ow ((fun(I:Th Int)=>fun _=>m9 (accH w.map w.stores (I ()).toNat (g.2 ()).toNat)) (σ.tmI 5))),
   fun σ g _=>Ob ((fun(I:Th Int)=>fun _=>0≤g.2 ()∧g.2 ()≤(cX w.map w.stores (I ())).wlks.length∧(cX w.map w.stores (I ())).wlks.length≤9) (σ.tmI 5)),fun _ g _=>(10-g.2 ()).toNat⟩),
  (20,17,⟨Th Int×Th Int,[⟨.cell 4 2,some 34048,.ow⟩,⟨.cell 4 4,some 48,.ints⟩],fun σ g=>(((((σ.only [1,2,3,4]).t 8 (.one (.att (.int .i64 g.1)))).u7 4 2 (.own 34048 1)).h 34048 (1,.row true 0 .ow fun _=>m9 (accF w.map w.stores (g.1 ()).toNat 0 0))).u7 4 4 (.own 48 1)).h 48 (1,.row true 0 .ints fun _=>airA w.map w.stores (g.1 ()).toNat 0 0),
   fun σ g _=>Ob fun _=>j8 w=true∧0≤g.1 ()∧g.1 ()≤w.map.cells,fun _ g _=>(5-g.1 ()).toNat⟩),
  (60+1000000 * 46080,4,⟨Th Int×Th Int×Th Bool,[⟨.cell 46084 2,some 34048,.ow⟩,⟨.cell 46084 4,some 48,.ints⟩],fun σ g=>((((((((σ.only [2,4,5,8,9,10]).c9a [1,2,3,4,8]).t 11 (.one (.att (.int .i64 g.1)))).u7 4 2 .unk).u7 46084 2 (.own 34048 1)).h 34048 (1,.row true 0 .ow ((fun(I:Th Int)=>fun _=>m9 (accF w.map w.stores (I ()).toNat 0 (g.1 ()).toNat)) (upI σ 8)))).u7 46084 4 (.own 48 1)).h 48 (1,.row true 0 .ints ((fun(I:Th Int)=>fun _=>airA w.map w.stores (I ()).toNat 0 (g.1 ()).toNat) (upI σ 8)))),
   fun σ g _=>Ob ((fun(I:Th Int) (L:Th (List Pcl)) (d:Th Int)=>fun _=>0≤g.1 ()∧g.1 ()≤(L ()).length∧L ()=fl w.map w.stores (I ()) 0∧d ()=b7 w.map (I ()) 0∧d () ≠ -1∧0≤I ()∧I ()<w.map.cells∧(L ()).length≤5000) (upI σ 8) (σ.rowL .pcl 23606016) (σ.tmI 9)),fun _ g _=>(5001-g.1 ()).toNat⟩),
  (60+1000000 * 56320,4,⟨Th Bool×Th Int×Th Int,[⟨.cell 56324 2,some 34048,.ow⟩,⟨.cell 56324 4,some 48,.ints⟩],fun σ g=>((((((((((σ.only [2,4,5,8,9,10]).c9a [1,2,3,4,8]).t 11 (.one (.att (.int .i64 g.2.1)))).u7 4 2 .unk).u7 46084 2 .unk).u7 46088 2 .unk).u7 56324 2 (.own 34048 1)).h 34048 (1,.row true 0 .ow ((fun(I:Th Int)=>fun _=>m9 (accF w.map w.stores (I ()).toNat 1 (g.2.1 ()).toNat)) (upI σ 8)))).u7 56324 4 (.own 48 1)).h 48 (1,.row true 0 .ints ((fun(I:Th Int)=>fun _=>airA w.map w.stores (I ()).toNat 1 (g.2.1 ()).toNat) (upI σ 8)))),
   fun σ g _=>Ob ((fun(I:Th Int) (L:Th (List Pcl)) (d:Th Int)=>fun _=>0≤g.2.1 ()∧g.2.1 ()≤(L ()).length∧L ()=fl w.map w.stores (I ()) 1∧d ()=b7 w.map (I ()) 1∧d () ≠ -1∧0≤I ()∧I ()<w.map.cells∧(L ()).length≤5000) (upI σ 8) (σ.rowL .pcl 28848896) (σ.tmI 9)),fun _ g _=>(5001-g.2.1 ()).toNat⟩)],noAnn,20,?_⟩
 cbv
 repeat' first|((with_reducible refine fun(g:Th Int×Th Bool) => ?_);obtain⟨i,z⟩:=g;obtain⟨i,rfl⟩:=b6 i;obtain⟨z,rfl⟩:=b6 z;(with_reducible refine ImpB.out ?_);cbv;(with_reducible refine ImpB.mk ?_);intro hq;obtain⟨hq⟩:=hq)|((with_reducible refine fun(g:Th Bool×Th Int) => ?_);obtain⟨z,k⟩:=g;obtain⟨z,rfl⟩:=b6 z;obtain⟨k,rfl⟩:=b6 k;(with_reducible refine ImpB.out ?_);cbv;(with_reducible refine ImpB.mk ?_);intro hq;obtain⟨hq⟩:=hq)|((with_reducible refine fun(g:Th Int×Th Int) => ?_);obtain⟨i,y⟩:=g;obtain⟨i,rfl⟩:=b6 i;obtain⟨y,rfl⟩:=b6 y;(with_reducible refine ImpB.out ?_);cbv;(with_reducible refine ImpB.mk ?_);intro hq;obtain⟨hq⟩:=hq)|((with_reducible refine fun(g:Th Int×Th Int×Th Bool) => ?_);obtain⟨j,y,z⟩:=g;obtain⟨j,rfl⟩:=b6 j;obtain⟨y,rfl⟩:=b6 y;obtain⟨z,rfl⟩:=b6 z;(with_reducible refine ImpB.out ?_);cbv;(with_reducible refine ImpB.mk ?_);intro hq;obtain⟨hq⟩:=hq)|((with_reducible refine fun(g:Th Bool×Th Int×Th Int) => ?_);obtain⟨z,j,y⟩:=g;obtain⟨z,rfl⟩:=b6 z;obtain⟨j,rfl⟩:=b6 j;obtain⟨y,rfl⟩:=b6 y;(with_reducible refine ImpB.out ?_);cbv;(with_reducible refine ImpB.mk ?_);intro hq;obtain⟨hq⟩:=hq)|((with_reducible intro _);cbv)|(with_reducible refine And.intro ?_ ?_)
 all_goals try((first|(with_reducible refine LoopIn.wf (fun σ => (σ.tmI 5,s5)) ?_ ?_)|(with_reducible refine LoopBack.wf (fun σ => (σ.tmI 5,s5)) ?_ ?_ ?_)|(with_reducible refine LoopIn.wf (fun σ => (s5,σ.tmI 7)) ?_ ?_)|(with_reducible refine LoopBack.wf (fun σ => (s5,σ.tmI 7)) ?_ ?_ ?_)|(with_reducible refine LoopIn.wf (fun σ => (σ.tmI 8,L0)) ?_ ?_)|(with_reducible refine LoopBack.wf (fun σ => (σ.tmI 8,L0)) ?_ ?_ ?_)|(with_reducible refine LoopIn.wf (fun σ => (σ.tmI 11,L0,s5)) ?_ ?_)|(with_reducible refine LoopBack.wf (fun σ => (σ.tmI 11,L0,s5)) ?_ ?_ ?_)|(with_reducible refine LoopIn.wf (fun σ => (s5,σ.tmI 11,L0)) ?_ ?_)|(with_reducible refine LoopBack.wf (fun σ => (s5,σ.tmI 11,L0)) ?_ ?_ ?_))<;>cbv)
 all_goals try(with_reducible show _∧_;(try simp only[and_true,true_and]))
 all_goals try(repeat' with_reducible refine And.intro ?_ ?_)
 all_goals try(with_reducible refine MeasB.mk ?_)
 all_goals first|(refine retK h ?_;clear h;simp only[fin0])|(with_reducible refine Ob.mk ?_;clear h)|(clear h)
 all_goals(try simp only[eta0,RT.bytes]at *)
 all_goals(try dsimp only[RT.ty]at *)
 all_goals(try simp only[a6r]at *)
 all_goals(try simp only[eta0,RT.bytes]at *)
 all_goals(try simp only[Int.toNat_zero,Int.toNat_one]at *)
 all_goals(try have hM:=a5n (by assumption))
 all_goals(try simp only[B3])
 all_goals(try simp(disch:=omega) only[e8]at *)
 all_goals(try simp(disch:=first|assumption|omega) only[c1j,d6r,d6s,c1o,c1n,fl_l,fl_r]at *)
 all_goals(try dsimp only[RT.ty]at *)
 all_goals(try simp only[a6r]at *)
 all_goals(try simp(disch:=first|assumption|omega) only[Int.reduceSub,Int.reduceToNat,a1h,a3M,b2U,a1T,b6o,b8W,c0J,e8]at *)
 all_goals(try dsimp only[RT.ty]at *)
 all_goals(try simp only[a6r]at *)
 all_goals(first|omega|with_reducible rfl|with_reducible exact c4v (by assumption)|with_reducible exact c0M (by assumption) (by omega) (by omega)|with_reducible exact c0R (by assumption) (by omega) (by omega) _ _|with_reducible exact d3h (by omega) (by omega) (by omega)|with_reducible exact d7d (by omega) (by omega)|with_reducible exact d3c (by omega) (by omega)|with_reducible exact c8P (by omega) (by omega) (by omega)|with_reducible exact b0J (by omega)|with_reducible exact b2k (by omega)|with_reducible exact c0I (by omega)|with_reducible exact c8T (by omega) (by omega) (by omega) (by assumption)|with_reducible exact c8S (by omega) (by omega) (by omega) (by assumption)|with_reducible exact c8J (by omega) (by omega) (by omega) (by assumption)|with_reducible exact c8I (by omega) (by omega) (by omega) (by assumption)|with_reducible exact c3h (by omega) (by omega) (by omega) (by assumption)|with_reducible exact c3g (by omega) (by omega) (by omega) (by assumption)|with_reducible exact c8L (by assumption) (by omega) (by omega) (by omega) (by omega) (by assumption)|with_reducible exact c8K (by assumption) (by omega) (by omega) (by omega) (by omega) (by assumption)|with_reducible exact(a4X (by omega) (by omega) (by omega)).1|with_reducible exact(a4X (by omega) (by omega) (by omega)).2|with_reducible exact(b2Z (by omega) (by omega) (by omega)).1|with_reducible exact(b2Z (by omega) (by omega) (by omega)).2|with_reducible exact(c0Q (by omega) (by omega)).1|with_reducible exact(c0Q (by omega) (by omega)).2|with_reducible exact(a4X (by omega) (by omega) (by omega)).1.trans (c0P (by omega) (by omega)).1|with_reducible exact(a4X (by omega) (by omega) (by omega)).2.trans (c0P (by omega) (by omega)).2|with_reducible exact c4w (by assumption) (by omega) (by omega) (by omega) (by omega)|exact⟨by assumption,by omega,by omega⟩|exact⟨by omega,by omega,a7t (by assumption) (by omega) (by omega)⟩|exact⟨by omega,by omega,trivial,trivial,by omega,by omega,by omega,a9h (by assumption) _ _⟩|exact(b5h▸rfl)|(exfalso;omega)|exact(by rw[b5h];rfl)|rfl)
end Go.Proofs.YtihaeoicjglieaaGreat
