/-
  Contracts: the one world of a system, the program's way.
-/
import Derived.Test.YtmnapekfeenknaaGreatGvC
import Derived.Test.YtmnapekfeenknaaGreatFnQ
import Derived.Test.YtmnapekfeenknaaGreatM3
import Derived.Test.YtmnapekfeenknaaGreatM8
set_option linter.unusedVariables false
set_option linter.unusedSimpArgs false
set_option maxRecDepth 100000
set_option maxHeartbeats 8000000
namespace Go.Proofs.YtmnapekfeenknaaGreat
open Go.Sx Go.Proofs Go.Mo
noncomputable def c4H:Sx.Spec:=⟨false,false,[.row .sto,.map],[nCll],fun _ _ ⟨s,m,_⟩ => .asrt (fun _=>B2 (m ()) (s ())=true) (.ret (rCll fun _=>r9 (m ()) (s ()),fun _=>0))⟩
theorem d1J:b9 Tryz.prog 67 c4H:=j5 j3 (ss := [(120,c4T)]) ⟨c2Z,trivial⟩ rfl rfl<|by
 intro(bs:Th (List Int)) (p:Th Int) ⟨(s:Th Sto),(m:Th PMap),u⟩ K _ _ ho h
 obtain⟨s,rfl⟩:=b6 s;obtain⟨m,rfl⟩:=b6 m
 obtain⟨hpre,h⟩:=h
 have hpre:=z6.1 hpre.out
 refine⟨noAnn,noAnn,20,?_⟩
 cbv
 repeat' first|((with_reducible intro _);cbv)|(with_reducible refine And.intro ?_ ?_)
 all_goals first|(refine retK h ?_;clear h;simp only[fin0])|(with_reducible refine Ob.mk ?_;clear h)|(clear h)
 all_goals(try simp only[eta0,RT.bytes]at *)
 all_goals grind[r9]
noncomputable def b6O:Sx.Spec:=⟨false,true,[.row .wld],[nOne],fun _ _ ⟨w,_⟩ => .asrt (fun _=>m8 (w ())=true→(allO (w ()).map (w ()).stores).length≤9∧S5 (allO (w ()).map (w ()).stores)=true) (.ret (oOne fun _=>oneOf (w ()),fun _=>0))⟩
theorem c5y:b9 Tryz.prog 17 b6O:=j5 j3 (ss := [(18,a2T),(67,c4H),(68,E6),(69,a1i)]) ⟨a8l,d1J,S9,a5Z,trivial⟩ rfl rfl<|by
 intro(bs:Th (List Int)) (p:Th Int) ⟨(w:Th Wld),u⟩ K _ _ ho h
 obtain⟨w,rfl⟩:=b6 w
 obtain⟨hpre,h⟩:=h
 have hpre:=hpre.out
 refine⟨annL [(17,6,⟨Th Int×Th Bool,[⟨.tmp 4 0,some 1000000000000038,.cll⟩,⟨.cell 4 2,some 64,.ow⟩,⟨.cell 4 3,some 44,.int⟩,⟨.cell 4 4,some 50,.ints⟩],fun σ g=>(((((((((σ.only [1,2,3,24,25]).t 26 (.one (.att (.int .i64 g.1)))).t 4 (vO 38 1)).h 38 (1,.row false 0 .cll fun _=>O3 w.map w.stores (g.1 ()).toNat)).u9 4 2 (.own 64 1)).h 64 (1,.row true 0 .ow fun _=>accH w.map w.stores (g.1 ()).toNat 0)).u9 4 3 (.own 44 1)).h 44 (1,.row true 0 .int fun _=>V8 w.map w.stores (g.1 ()).toNat)).u9 4 4 (.own 50 1)).h 50 (1,.row true 0 .ints fun _=>airZ (g.1 ()).toNat),
   fun σ g _=>Ob fun _=>m8 w=true∧0≤g.1 ()∧g.1 ()≤w.map.cells,fun _ g _=>(5-g.1 ()).toNat⟩),
  (17,13,⟨Th Bool×Th Int,[⟨.cell 4 2,some 64,.ow⟩],fun σ g=>(((σ.only [1,2,3,4,24,25,26,52,53]).t 54 (.one (.att (.int .i64 g.2)))).u9 4 2 (.own 64 1)).h 64 (1,.row true 0 .ow ((fun(I:Th Int)=>fun _=>accH w.map w.stores (I ()).toNat (g.2 ()).toNat) (σ.tmI 26))),
   fun σ g _=>Ob ((fun(I:Th Int)=>fun _=>0≤g.2 ()∧g.2 ()≤(cX w.map w.stores (I ())).wlks.length∧(cX w.map w.stores (I ())).wlks.length≤9) (σ.tmI 26)),fun _ g _=>(10-g.2 ()).toNat⟩),
  (17,19,⟨Th Int×Th Int,[⟨.cell 4 2,some 64,.ow⟩,⟨.cell 4 4,some 50,.ints⟩],fun σ g=>(((((σ.only [1,2,3,4,67,68]).t 69 (.one (.att (.int .i64 g.1)))).u9 4 2 (.own 64 1)).h 64 (1,.row true 0 .ow fun _=>accF w.map w.stores (g.1 ()).toNat 0 0)).u9 4 4 (.own 50 1)).h 50 (1,.row true 0 .ints fun _=>airA w.map w.stores (g.1 ()).toNat 0 0),
   fun σ g _=>Ob fun _=>m8 w=true∧0≤g.1 ()∧g.1 ()≤w.map.cells,fun _ g _=>(5-g.1 ()).toNat⟩),
  (17,22,⟨Th Int×Th Int×Th Bool,[⟨.cell 4 2,some 64,.ow⟩,⟨.cell 4 4,some 50,.ints⟩],fun σ g=>(((((σ.only [1,2,3,4,67,68,69,10,11]).t 74 (.one (.att (.int .i64 g.1)))).u9 4 2 (.own 64 1)).h 64 (1,.row true 0 .ow ((fun(I:Th Int)=>fun _=>accS w.map w.stores (I ()).toNat (g.1 ()).toNat) (σ.tmI 69)))).u9 4 4 (.own 50 1)).h 50 (1,.row true 0 .ints ((fun(I:Th Int)=>fun _=>airS w.map w.stores (I ()).toNat (g.1 ()).toNat) (σ.tmI 69))),
   fun σ g _=>Ob fun _=>0≤g.1 ()∧g.1 ()≤2,fun _ g _=>(3-g.1 ()).toNat⟩),
  (17,27,⟨Th Bool×Th Int×Th Int,[⟨.cell 4 2,some 64,.ow⟩,⟨.cell 4 4,some 50,.ints⟩],fun σ g=>(((((σ.only [1,2,3,4,67,68,69,10,11,74,12,13,98,99]).t 100 (.one (.att (.int .i64 g.2.1)))).u9 4 2 (.own 64 1)).h 64 (1,.row true 0 .ow ((fun(I S:Th Int)=>fun _=>accF w.map w.stores (I ()).toNat (S ()).toNat (g.2.1 ()).toNat) (σ.tmI 69) (σ.tmI 74)))).u9 4 4 (.own 50 1)).h 50 (1,.row true 0 .ints ((fun(I S:Th Int)=>fun _=>airA w.map w.stores (I ()).toNat (S ()).toNat (g.2.1 ()).toNat) (σ.tmI 69) (σ.tmI 74))),
   fun σ g _=>Ob ((fun(I S d:Th Int) (L:Th (List Pcl))=>fun _=>0≤g.2.1 ()∧g.2.1 ()≤(L ()).length∧L ()=fl w.map w.stores (I ()) (S ())∧d ()=b7 w.map (I ()) (S ()) ∧ ¬d () = -1∧0≤S ()∧S ()<2∧0≤I ()∧I ()<w.map.cells∧(L ()).length≤5000) (σ.tmI 69) (σ.tmI 74) (σ.tmI 13) (σ.rowL .pcl 51456)),fun _ g _=>(5001-g.2.1 ()).toNat⟩),
  (122,2,⟨Th Bool×Th Bool,[],fun σ _ => σ.only [0,1,2,6,7,8],fun σ _ _=>Ob ((fun(n:Th Int)=>fun _=>n ()≤9) (σ.tmI 1)),fun _ _ _=>0⟩),
  (122,7,⟨Th Bool×Th Bool×Th Int,[],fun σ _ => σ.only [0,1,2,6],fun σ _ _=>Ob ((fun(n:Th Int)=>fun _=>n ()≤9) (σ.tmI 1)),fun _ _ _=>0⟩),
  (181,1,⟨Th (List OW)×Th Int,[],fun σ g=>((σ.only [0,1,2,3]).t 8 (.one (.att (.int .i64 g.2)))).h 64 (1,.row true 0 .ow g.1),fun σ g _=>Ob ((fun(L:Th (List OW)) (a b:Th Int)=>fun _=>SortI (L ()) (g.1 ()) (a ()) (b ()) (g.2 ())) (σ.rowL .ow 64) (σ.tmI 1) (σ.tmI 2)),fun _ g _=>(11-g.2 ()).toNat⟩),
  (181,4,⟨Th (List OW)×Th Int×Th Bool,[],fun σ g=>((σ.only [0,1,2,3,8]).t 9 (.one (.att (.int .i64 g.2.1)))).h 64 (1,.row true 0 .ow g.1),fun σ g _=>Ob ((fun(L:Th (List OW)) (i:Th Int)=>fun _=>SinkI (L ()) (g.1 ()) (i ()) (g.2.1 ())) (σ.rowL .ow 64) (σ.tmI 8)),fun _ g _=>(g.2.1 ()).toNat⟩)],
  annL [(122,3,⟨Empty,[],fun σ _ => σ,fun _ _ _=>Ob fun _=>False,fun _ _ _=>0⟩),(122,8,⟨Empty,[],fun σ _ => σ,fun _ _ _=>Ob fun _=>False,fun _ _ _=>0⟩)],20,?_⟩
 cbv
 repeat' first|((with_reducible refine fun(g:Empty) => ?_);exact g.elim)|((with_reducible refine fun(g:Th Int×Th Bool) => ?_);obtain⟨i,z⟩:=g;obtain⟨i,rfl⟩:=b6 i;obtain⟨z,rfl⟩:=b6 z;(with_reducible refine ImpB.out ?_);cbv;(with_reducible refine ImpB.mk ?_);intro hq;obtain⟨hq⟩:=hq)|((with_reducible refine fun(g:Th Bool×Th Int) => ?_);obtain⟨z,k⟩:=g;obtain⟨z,rfl⟩:=b6 z;obtain⟨k,rfl⟩:=b6 k;(with_reducible refine ImpB.out ?_);cbv;(with_reducible refine ImpB.mk ?_);intro hq;obtain⟨hq⟩:=hq)|((with_reducible refine fun(g:Th Int×Th Int) => ?_);obtain⟨i,y⟩:=g;obtain⟨i,rfl⟩:=b6 i;obtain⟨y,rfl⟩:=b6 y;(with_reducible refine ImpB.out ?_);cbv;(with_reducible refine ImpB.mk ?_);intro hq;obtain⟨hq⟩:=hq)|((with_reducible refine fun(g:Th Int×Th Int×Th Bool) => ?_);obtain⟨s,y,z⟩:=g;obtain⟨s,rfl⟩:=b6 s;obtain⟨y,rfl⟩:=b6 y;obtain⟨z,rfl⟩:=b6 z;(with_reducible refine ImpB.out ?_);cbv;(with_reducible refine ImpB.mk ?_);intro hq;obtain⟨hq⟩:=hq)|((with_reducible refine fun(g:Th Bool×Th Int×Th Int) => ?_);obtain⟨z,j,y⟩:=g;obtain⟨z,rfl⟩:=b6 z;obtain⟨j,rfl⟩:=b6 j;obtain⟨y,rfl⟩:=b6 y;(with_reducible refine ImpB.out ?_);cbv;(with_reducible refine ImpB.mk ?_);intro hq;obtain⟨hq⟩:=hq)|((with_reducible refine fun(g:Th Bool×Th Bool) => ?_);obtain⟨z,y⟩:=g;obtain⟨z,rfl⟩:=b6 z;obtain⟨y,rfl⟩:=b6 y;(with_reducible refine ImpB.out ?_);cbv;(with_reducible refine ImpB.mk ?_);intro hq;obtain⟨hq⟩:=hq)|((with_reducible refine fun(g:Th Bool×Th Bool×Th Int) => ?_);obtain⟨z,y,x⟩:=g;obtain⟨z,rfl⟩:=b6 z;obtain⟨y,rfl⟩:=b6 y;obtain⟨x,rfl⟩:=b6 x;(with_reducible refine ImpB.out ?_);cbv;(with_reducible refine ImpB.mk ?_);intro hq;obtain⟨hq⟩:=hq)|((with_reducible refine fun(g:Th (List OW)×Th Int) => ?_);obtain⟨R,i⟩:=g;obtain⟨R,rfl⟩:=b6 R;obtain⟨i,rfl⟩:=b6 i;(with_reducible refine ImpB.out ?_);cbv;(with_reducible refine ImpB.mk ?_);intro hq;obtain⟨hq⟩:=hq)|((with_reducible refine fun(g:Th (List OW)×Th Int×Th Bool) => ?_);obtain⟨R,j,z⟩:=g;obtain⟨R,rfl⟩:=b6 R;obtain⟨j,rfl⟩:=b6 j;obtain⟨z,rfl⟩:=b6 z;(with_reducible refine ImpB.out ?_);cbv;(with_reducible refine ImpB.mk ?_);intro hq;obtain⟨hq⟩:=hq)|((with_reducible intro _);cbv)|(with_reducible refine And.intro ?_ ?_)
 all_goals try((first|(with_reducible refine LoopIn.wf (fun σ => (σ.tmI 26,r7)) ?_ ?_)|(with_reducible refine LoopBack.wf (fun σ => (σ.tmI 26,r7)) ?_ ?_ ?_)|(with_reducible refine LoopIn.wf (fun σ => (r7,σ.tmI 54)) ?_ ?_)|(with_reducible refine LoopBack.wf (fun σ => (r7,σ.tmI 54)) ?_ ?_ ?_)|(with_reducible refine LoopIn.wf (fun σ => (σ.tmI 69,G8)) ?_ ?_)|(with_reducible refine LoopBack.wf (fun σ => (σ.tmI 69,G8)) ?_ ?_ ?_)|(with_reducible refine LoopIn.wf (fun σ => (σ.tmI 74,G8,r7)) ?_ ?_)|(with_reducible refine LoopBack.wf (fun σ => (σ.tmI 74,G8,r7)) ?_ ?_ ?_)|(with_reducible refine LoopIn.wf (fun σ => (r7,σ.tmI 100,G8)) ?_ ?_)|(with_reducible refine LoopBack.wf (fun σ => (r7,σ.tmI 100,G8)) ?_ ?_ ?_)|(with_reducible refine LoopIn.wf (fun _=>(r7,r7)) ?_ ?_)|(with_reducible refine LoopBack.wf (fun _=>(r7,r7)) ?_ ?_ ?_)|(with_reducible refine LoopIn.wf (fun _=>(r7,r7,G8)) ?_ ?_)|(with_reducible refine LoopBack.wf (fun _=>(r7,r7,G8)) ?_ ?_ ?_)|(with_reducible refine LoopIn.wf (fun σ => (σ.rowL .ow 64,σ.tmI 8)) ?_ ?_)|(with_reducible refine LoopBack.wf (fun σ => (σ.rowL .ow 64,σ.tmI 8)) ?_ ?_ ?_)|(with_reducible refine LoopIn.wf (fun σ => (σ.rowL .ow 64,σ.tmI 9,r7)) ?_ ?_)|(with_reducible refine LoopBack.wf (fun σ => (σ.rowL .ow 64,σ.tmI 9,r7)) ?_ ?_ ?_))<;>cbv)
 all_goals try(with_reducible show _∧_;(try simp only[and_true,true_and]))
 all_goals try(repeat' with_reducible refine And.intro ?_ ?_)
 all_goals try(with_reducible refine MeasB.mk ?_)
 all_goals first|(refine retK h ?_;clear h;simp only[fin0])|(with_reducible refine Ob.mk ?_;clear h)|(clear h)
 all_goals(try simp only[eta0,RT.bytes]at *)
 all_goals(try dsimp only[RT.ty]at *)
 all_goals(try simp only[b2D]at *)
 all_goals(try simp only[Int.toNat_zero,Int.toNat_one,d8K]at *)
 all_goals(try have hM:=a5X (by assumption))
 all_goals(try simp only[z8])
 all_goals(try simp(disch:=omega) only[e9,a1A,a4w,b3Q,a2q]at *)
 all_goals(try simp(disch:=first|assumption|omega) only[c2f,b8I]at *)
 all_goals(try simp(disch:=first|assumption|omega) only[d8A]at *)
 all_goals(try dsimp only[RT.ty]at *)
 all_goals(try simp only[b2D]at *)
 all_goals(try simp(disch:=first|assumption|omega) only[Int.reduceSub,Int.reduceToNat,a1A,a4w,b3Q,a2q,b7l,b9R,b7k,c9O,e9]at *)
 all_goals(try dsimp only[RT.ty]at *)
 all_goals(try simp only[b2D]at *)
 all_goals(first|omega|with_reducible rfl|with_reducible exact c5t (by assumption)|with_reducible exact c9V (by omega) (by omega) (by omega)|with_reducible exact c4e (by omega) (by omega) (by omega)|with_reducible exact d6S (by omega) (by omega)|with_reducible exact d4C (by omega) (by omega)|with_reducible exact b1D (by omega)|with_reducible exact b3e (by omega)|with_reducible exact c1G (by omega)|with_reducible exact(c1J (by omega) (by omega) (by omega) (by omega) (by omega) (by assumption)).1|with_reducible exact(c1J (by omega) (by omega) (by omega) (by omega) (by omega) (by assumption)).2|with_reducible exact c9T (by omega) (by omega) (by omega) (by omega) (by omega) (by assumption)|with_reducible exact d4D (by assumption) (by omega) (by omega) (by omega) (by assumption) (by omega) (by omega) (by assumption)|with_reducible exact(b0d (by omega) (by omega) (by omega) (by omega) (by omega)).1|with_reducible exact(b0d (by omega) (by omega) (by omega) (by omega) (by omega)).2|with_reducible exact(b6j (by omega) (by omega) (by omega) (by assumption)).1|with_reducible exact(b6j (by omega) (by omega) (by omega) (by assumption)).2|with_reducible exact(b1q (by omega) (by omega)).1|with_reducible exact(b1q (by omega) (by omega)).2|with_reducible exact(c1I (by omega) (by omega)).1|with_reducible exact(c1I (by omega) (by omega)).2|with_reducible exact d1A (by assumption) (by omega) (by omega)|exact⟨by assumption,by omega,by omega⟩|exact⟨by omega,by omega,a8i (by assumption) (by omega) (by omega)⟩|exact⟨by omega,by omega,trivial,trivial,by assumption,by omega,by omega,by omega,by omega,a9V (by assumption) _ _⟩|exact d0K (by assumption)|exact c7s (by assumption) (by omega)|with_reducible exact d7m (c9W (by assumption) (by omega) (by omega) _)|with_reducible exact d7m (c9Z (by assumption) (by omega) (by omega) _ _)|with_reducible exact d0I hpre (by assumption) (by omega) (by omega)|with_reducible exact c2i hpre (by assumption) (by omega) (by omega)|with_reducible exact SortI.down (by assumption) (by assumption)|with_reducible exact SinkI.in1 (by assumption)|with_reducible exact SinkI.in2 (by assumption) (by assumption)|with_reducible exact SortI.less (by assumption) (by assumption)|with_reducible exact SortI.next (by assumption) (by assumption) (SinkI.stop (by assumption) (.inl (by assumption)))|with_reducible exact SortI.next (by assumption) (by assumption) (SinkI.d8T (by assumption) (by assumption) (by assumption))|with_reducible exact SinkI.in3 (by assumption) (by assumption) _ _|with_reducible exact SinkI.d8U (by assumption) (by assumption) (by assumption)|with_reducible exact SinkI.d8Z (by assumption) (by assumption)|with_reducible exact d1D (by assumption) (by omega) (by omega) (by omega) (by omega) (by assumption) (by assumption)|(exfalso;omega)|rfl)
end Go.Proofs.YtmnapekfeenknaaGreat
