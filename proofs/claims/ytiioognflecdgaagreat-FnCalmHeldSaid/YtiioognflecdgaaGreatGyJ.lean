/-
  Contracts: calm rounds, the program's way.
-/
import Derived.Test.YtiioognflecdgaaGreatFy
import Derived.Test.YtiioognflecdgaaGreatMy
import Derived.Test.YtiioognflecdgaaGreatGsS
import Derived.Test.YtiioognflecdgaaGreatGsB
import Derived.Test.YtiioognflecdgaaGreatInsH
import Derived.Test.YtiioognflecdgaaGreatGnW
import Derived.Test.YtiioognflecdgaaGreatGtA
import Derived.Test.YtiioognflecdgaaGreatM9
import Derived.Test.YtiioognflecdgaaGreatM7
set_option linter.unusedVariables false
set_option linter.unusedSimpArgs false
set_option maxRecDepth 100000
set_option maxHeartbeats 8000000
namespace Go.Proofs.YtiioognflecdgaaGreat
open Go.Sx Go.Proofs Go.Mo
noncomputable def b2l:Sx.Io:=⟨.row .wld,true,[],[],fun w _ => .asrt (fun _=>j6 (w ())=true) (.ret (.tup [],fun _=>m8 (w ())))⟩
theorem b9s:b6 Tryz.prog 74 (ioX b2l):=io1 b9 (ss := [(70,(ioX b3U))]) ⟨b7e,trivial⟩ rfl rfl<|by
 intro(w:Th Wld) u K _ ho h
 obtain⟨w,rfl⟩:=a8 w
 obtain⟨ha,h⟩:=h
 have ha:=ha.out
 have hok:j6 w=true:=ha
 refine⟨annL [(74,1,⟨Th Wld×Th Int,a9L 0 500,fun σ g=>((((σ.only [0]).t 2 (.one (.att (.int .i64 g.2)))).b2K 3 7).ownW 0 500 g.1),fun _ g _=>Ob fun _=>0≤g.2 ()∧g.2 ()≤200∧g.1 ()=E1 w (g.2 ()).toNat,fun _ g _=>(200-g.2 ()).toNat⟩)],noAnn,20,?_⟩
 cbv
 repeat' first|((with_reducible refine fun(g:Th Wld×Th Int) => ?_);obtain⟨x,i⟩:=g;obtain⟨x,rfl⟩:=a8 x;obtain⟨i,rfl⟩:=a8 i;(with_reducible refine ImpB.out ?_);cbv;(with_reducible refine ImpB.mk ?_);intro hq;obtain⟨hq⟩:=hq)|((with_reducible intro _);cbv)|(with_reducible refine And.intro ?_ ?_)
 all_goals try((first|(with_reducible refine LoopIn.wf (fun σ => (V6 σ 0 500,σ.tmI 2)) ?_ ?_)|(with_reducible refine LoopBack.wf (fun σ => (V6 σ 0 500,σ.tmI 2)) ?_ ?_ ?_))<;>cbv)
 all_goals try(with_reducible show _∧_;(try simp only[and_true,true_and]))
 all_goals try(repeat' with_reducible refine And.intro ?_ ?_)
 all_goals try(with_reducible refine MeasB.mk ?_)
 all_goals first|refine ioK h ?_ ?_|(with_reducible refine Ob.mk ?_;clear h)|(clear h)
 all_goals(try clear h)
 all_goals(try clear K)
 all_goals(try simp only[fin0])
 all_goals(try simp only[a4F]at *)
 all_goals(try simp only[eta0,RT.bytes]at *)
 all_goals(try dsimp only[RT.ty]at *)
 all_goals(try simp only[M1]at *)
 all_goals(try have hD:=c0r hok hq (by assumption) (by assumption))
 all_goals(first|exact⟨by decide,by decide,rfl⟩|exact⟨hD.1.1,by omega,by omega⟩|exact hD.2.1|exact hD.2.2|exact c0q hq (by assumption)|exact c0p hq (by assumption) (by assumption))
noncomputable def c0T:Sx.Io:=⟨.row .wld,true,[],[],fun w _ => .asrt (fun _=>j6 (w ())=true) (.ret (.tup [],fun _=>D0 (w ())))⟩
theorem c6W:b6 Tryz.prog 25 (ioX c0T):=io1 b9 (ss := [(74,(ioX b2l)),(75,E6),(76,a0I),(24,(ioX a9k))]) ⟨b9s,a0a,b2z,a8H,trivial⟩ rfl rfl<|by
 intro(w:Th Wld) u K _ ho h
 obtain⟨w,rfl⟩:=a8 w
 obtain⟨ha,h⟩:=h
 have ha:=ha.out
 have hok:j6 w=true:=ha
 refine⟨annL [(25,2,⟨Th Wld×Th Int,a9L 0 500,fun σ g=>((((σ.only [0,11]).t 12 (.one (.att (.int .i64 g.2)))).b2K 3 7).ownW 0 500 g.1),fun σ g _=>Ob ((fun(c:Th Int)=>fun _=>0≤g.2 ()∧g.2 ()≤w.map.cells∧c ()=w.map.cells∧g.1 ()=s5 n7 (m8 w) (g.2 ()).toNat) (σ.tmI 11)),fun _ g _=>(w.map.cells-g.2 ()).toNat⟩),
  (25,9,⟨Th Wld×Th Int×Th Bool,a9L 0 500,fun σ g=>(((σ.only [0,37]).t 38 (.one (.att (.int .i64 g.2.1)))).ownW 0 500 g.1),fun σ g _=>Ob ((fun(c:Th Int)=>fun _=>0≤g.2.1 ()∧g.2.1 ()≤w.map.cells∧c ()=w.map.cells∧g.1 ()=s5 B3 (s5 n7 (m8 w) w.map.cells.toNat) (g.2.1 ()).toNat) (σ.tmI 37)),fun _ g _=>(w.map.cells-g.2.1 ()).toNat⟩),
  (25,15,⟨Th Wld×Th Int×Th Int,a9L 0 500,fun σ g=>(((σ.only [0,60]).t 61 (.one (.att (.int .i64 g.2.1)))).ownW 0 500 g.1),fun σ g _=>Ob ((fun(c:Th Int)=>fun _=>0≤g.2.1 ()∧g.2.1 ()≤w.rows.length∧c ()=w.rows.length∧g.1 ()=s5 S8 (s5 B3 (s5 n7 (m8 w) w.map.cells.toNat) w.map.cells.toNat) (g.2.1 ()).toNat) (σ.tmI 60)),fun _ g _=>(w.rows.length-g.2.1 ()).toNat⟩)],noAnn,20,?_⟩
 cbv
 repeat' first|((with_reducible refine fun(g:Th Wld×Th Int) => ?_);obtain⟨x,i⟩:=g;obtain⟨x,rfl⟩:=a8 x;obtain⟨i,rfl⟩:=a8 i;(with_reducible refine ImpB.out ?_);cbv;(with_reducible refine ImpB.mk ?_);intro hq;obtain⟨hq⟩:=hq)|((with_reducible refine fun(g:Th Wld×Th Int×Th Bool) => ?_);obtain⟨x,i,z⟩:=g;obtain⟨x,rfl⟩:=a8 x;obtain⟨i,rfl⟩:=a8 i;obtain⟨z,rfl⟩:=a8 z;(with_reducible refine ImpB.out ?_);cbv;(with_reducible refine ImpB.mk ?_);intro hq;obtain⟨hq⟩:=hq)|((with_reducible refine fun(g:Th Wld×Th Int×Th Int) => ?_);obtain⟨x,i,z⟩:=g;obtain⟨x,rfl⟩:=a8 x;obtain⟨i,rfl⟩:=a8 i;obtain⟨z,rfl⟩:=a8 z;(with_reducible refine ImpB.out ?_);cbv;(with_reducible refine ImpB.mk ?_);intro hq;obtain⟨hq⟩:=hq)|((with_reducible intro _);cbv)|(with_reducible refine And.intro ?_ ?_)
 all_goals try((first|(with_reducible refine LoopIn.wf (fun σ => (V6 σ 0 500,σ.tmI 12)) ?_ ?_)|(with_reducible refine LoopBack.wf (fun σ => (V6 σ 0 500,σ.tmI 12)) ?_ ?_ ?_)|(with_reducible refine LoopIn.wf (fun σ => (V6 σ 0 500,σ.tmI 38,B6)) ?_ ?_)|(with_reducible refine LoopBack.wf (fun σ => (V6 σ 0 500,σ.tmI 38,B6)) ?_ ?_ ?_)|(with_reducible refine LoopIn.wf (fun σ => (V6 σ 0 500,σ.tmI 61,a0n)) ?_ ?_)|(with_reducible refine LoopBack.wf (fun σ => (V6 σ 0 500,σ.tmI 61,a0n)) ?_ ?_ ?_))<;>cbv)
 all_goals try(with_reducible show _∧_;(try simp only[and_true,true_and]))
 all_goals try(repeat' with_reducible refine And.intro ?_ ?_)
 all_goals try(with_reducible refine MeasB.mk ?_)
 all_goals first|refine ioK h ?_ ?_|(with_reducible refine Ob.mk ?_;clear h)|(clear h)
 all_goals(try clear h)
 all_goals(try clear K)
 all_goals(try simp only[fin0])
 all_goals(try simp only[a4F]at *)
 all_goals(try simp only[eta0,RT.bytes]at *)
 all_goals(try dsimp only[RT.ty]at *)
 all_goals(try simp only[M1]at *)
 all_goals(first|exact hok|exact c9R hok|skip)
 all_goals(try have hG:=c3p hok (by assumption) (by assumption))
 all_goals(try have hT:=c6x hok (by assumption) (by assumption))
 all_goals(try have hS:=c9Q hok (by assumption) (by assumption))
 all_goals(first|exact hG.1|exact hG.2.1|exact hG.2.2.1 _ (by intro q;cases q)|exact hG.2.2.2.1|exact hG.2.2.2.2.1 (b7A (by assumption))|exact hG.2.2.2.2.1 (c8c (by assumption))|exact hG.2.2.2.2.1 (c8b (by assumption))|exact hG.2.2.2.2.2 (c8a hG.1 (by assumption) (by assumption) (by assumption))|exact(a2K hG.1 (by assumption)).1|exact(a2K hG.1 (by assumption)).2|exact c9P hok (by assumption) (by assumption)|exact hT.1|exact hT.2.1 _ (by intro q;cases q)|exact hT.2.2.1|exact hT.2.2.2|exact c3o hok (by assumption) (by assumption)|exact hS.1|exact hS.2.1|exact hS.2.2.1 _ (by intro q;cases q)|exact hS.2.2.2.1|exact hS.2.2.2.2|exact c9S (by assumption) (by assumption))
noncomputable def c6q:Sx.Spec:=⟨false,true,[.row .wld,.int .i64],[nWld],fun _ _ ⟨w,n,_⟩ => .ret (oWld fun _=>U8 (w ()) (n ()),fun _=>0)⟩
theorem c3H:b6 Tryz.prog 8 c6q:=j3 b9 (ss := [(11,X9),(23,a3o),(24,(ioX a9k)),(25,(ioX c0T))]) ⟨a4i,a4Y,a8H,c6W,trivial⟩ rfl rfl<|by
 intro(bs:Th (List Int)) (p:Th Int) ⟨(w:Th Wld),(n:Th Int),u⟩ K _ _ ho h
 obtain⟨w,rfl⟩:=a8 w;obtain⟨n,rfl⟩:=a8 n
 refine⟨annL [(8,5,⟨Th Wld×Th Int,a9L 6 500,fun σ g=>((((σ.only [1,4,5,20]).t 21 (.one (.att (.int .i64 g.2)))).b2K 9986 7).ownW 6 500 g.1),fun σ g _=>Ob ((fun(c:Th Int)=>fun _=>j6 w=true∧n≤60∧c ()=w.servers.length∧0≤g.2 ()∧g.2 ()≤w.servers.length∧g.1 ()=s5 A1 w (g.2 ()).toNat) (σ.tmI 20)),fun _ g _=>(w.servers.length-g.2 ()).toNat⟩),
  (8,10,⟨Th Wld×Th Int×Th Bool,a9L 6 500,fun σ g=>(((σ.only [1,4,5]).t 7 (.one (.att (.int .i64 g.2.1)))).ownW 6 500 g.1),fun σ g _=>Ob fun _=>j6 w=true∧n≤60∧0≤g.2.1 ()∧(g.2.1 ()≤n∨g.2.1 ()=0)∧g.1 ()=s5 (fun x _=>D0 x) (U2 w) (g.2.1 ()).toNat,fun _ g _=>(61-g.2.1 ()).toNat⟩)],noAnn,20,?_⟩
 cbv
 repeat' first|((with_reducible refine fun(g:Th Wld×Th Int) => ?_);obtain⟨x,i⟩:=g;obtain⟨x,rfl⟩:=a8 x;obtain⟨i,rfl⟩:=a8 i;(with_reducible refine ImpB.out ?_);cbv;(with_reducible refine ImpB.mk ?_);intro hq;obtain⟨hq⟩:=hq)|((with_reducible refine fun(g:Th Wld×Th Int×Th Bool) => ?_);obtain⟨x,i,z⟩:=g;obtain⟨x,rfl⟩:=a8 x;obtain⟨i,rfl⟩:=a8 i;obtain⟨z,rfl⟩:=a8 z;(with_reducible refine ImpB.out ?_);cbv;(with_reducible refine ImpB.mk ?_);intro hq;obtain⟨hq⟩:=hq)|((with_reducible intro _);cbv)|(with_reducible refine And.intro ?_ ?_)
 all_goals try((first|(with_reducible refine LoopIn.wf (fun σ => (V6 σ 6 500,σ.tmI 21)) ?_ ?_)|(with_reducible refine LoopBack.wf (fun σ => (V6 σ 6 500,σ.tmI 21)) ?_ ?_ ?_)|(with_reducible refine LoopIn.wf (fun σ => (V6 σ 6 500,σ.tmI 7,B6)) ?_ ?_)|(with_reducible refine LoopBack.wf (fun σ => (V6 σ 6 500,σ.tmI 7,B6)) ?_ ?_ ?_))<;>cbv)
 all_goals try(with_reducible show _∧_;(try simp only[and_true,true_and]))
 all_goals try(repeat' with_reducible refine And.intro ?_ ?_)
 all_goals try(with_reducible refine MeasB.mk ?_)
 all_goals first|(refine retK h ?_;clear h;simp only[fin0])|(with_reducible refine Ob.mk ?_;clear h)|(clear h)
 all_goals(try simp only[eta0,RT.bytes]at *)
 all_goals(try dsimp only[RT.ty]at *)
 all_goals(try simp only[M1]at *)
 all_goals(try simp only[a4F]at *)
 all_goals(try simp only[eta0,RT.bytes]at *)
 all_goals(first|(rw[c5q (by assumption)];exact⟨rfl,rfl,rfl,rfl,rfl,rfl,rfl,rfl,rfl⟩)|(rw[c5p (by assumption)];exact⟨rfl,rfl,rfl,rfl,rfl,rfl,rfl,rfl,rfl⟩)|exact c0o (by assumption) (by assumption)|exact c9a (by assumption) (by assumption)|skip)
 all_goals(try have hR:=c5l (by assumption) (by assumption))
 all_goals(try have hM:=c5m (by assumption) (by assumption))
 all_goals(try have hE:=c9b (by assumption) (by assumption))
 all_goals(first|exact hM.1|exact hM.2.1|exact hM.2.2|exact hR.1|exact hR.2.1|exact hR.2.2|(rw[hE];exact⟨rfl,rfl,rfl,rfl,rfl,rfl,rfl,rfl,rfl⟩))
noncomputable def c1h:Sx.Spec:=⟨true,false,[],[nWld],fun _ p _ => .asrt (fun _=>0≤p ()∧p ()≤980000000000) (.all Int fun a => .all Int fun b => .all (List Srv) fun c => .all (List Sto) fun d => .all (List Int) fun e => .all (List Int) fun f => .all (List Row) fun g => .all (List Msg) fun h => .all (List Note) fun i => .all Int fun q => .asm (fun _=>p ()≤q∧q≤p ()+100∧BegA ⟨⟨a,b⟩,c,d,⟨e,f⟩,g,h,i⟩ 4) (.ret (rWld a b c d e f g h i,fun _=>q)))⟩
theorem c7q:b6 Tryz.prog 19 c1h:=j3 b9 (ss := [(21,G0),(56,Y9),(57,b3N),(47,a0A)]) ⟨C1,a1U,b2B,a0M,trivial⟩ rfl rfl<|by
 intro(bs:Th (List Int)) (p:Th Int) u K hb hp0 ho h
 obtain⟨bs,rfl⟩:=a8 bs;obtain⟨p,rfl⟩:=a8 p
 obtain⟨hpre,h⟩:=h
 have hpre:0≤p∧p≤980000000000:=hpre.out
 refine⟨annL [(19,4,⟨Th (List Wlk)×Th Int×Th Int,[⟨.tmp 4 0,some 16,.wlk⟩],fun σ g=>((((σ.fgs [16]).t 5 (.one (.att (.int .i64 g.2.1)))).t 4 (vO 16 1)).h 16 (1,.row true 0 .wlk g.1)).v5 0 1 (.att (.int .i64 g.2.2)),
   fun σ g _=>Ob (d1W (asI (σ.ce 4 0)) (asI (σ.ce 4 1)) g.1 g.2.1 g.2.2 p),fun _ g _=>(g.2.1 ()).toNat⟩),
  (19,9,⟨Th Wld×Th Int×Th Int,[⟨.cell 7 2,none,.srv⟩,⟨.cell 7 3,none,.sto⟩,⟨.cell 7 4,none,.int⟩,⟨.cell 7 5,none,.int⟩,⟨.cell 7 6,none,.row⟩,⟨.cell 7 7,none,.msg⟩,⟨.cell 7 8,none,.note⟩],fun σ g=>((((St.kill σ [23810,23811,23812,23813,23814,23815,23816]).only [0,2,3,6]).t 7 (.one (.att (.int .i64 g.2.1)))).a3Q 7 0 (W7 g.1)).v5 0 1 (.att (.int .i64 g.2.2)),
   fun _ g _=>Ob fun _=>BegA (g.1 ()) (g.2.1 ())∧0≤g.2.1 ()∧g.2.1 ()≤4∧p≤g.2.2 ()∧g.2.2 ()≤p+20+2 * g.2.1 (),fun _ g _=>(4-g.2.1 ()).toNat⟩)],noAnn,20,?_⟩
 cbv
 repeat' first|((with_reducible refine fun(g:Th (List Wlk)×Th Int×Th Int) => ?_);obtain⟨l,k,q⟩:=g;obtain⟨l,rfl⟩:=a8 l;obtain⟨k,rfl⟩:=a8 k;obtain⟨q,rfl⟩:=a8 q;(with_reducible refine ImpB.out ?_);cbv;(with_reducible refine ImpB.mk ?_);intro hq;obtain⟨hq⟩:=hq)|((with_reducible refine fun(g:Th Wld×Th Int×Th Int) => ?_);obtain⟨w,c,q⟩:=g;obtain⟨w,rfl⟩:=a8 w;obtain⟨c,rfl⟩:=a8 c;obtain⟨q,rfl⟩:=a8 q;(with_reducible refine ImpB.out ?_);cbv;(with_reducible refine ImpB.mk ?_);intro hq;obtain⟨hq⟩:=hq)|((with_reducible intro _);cbv)|(with_reducible refine And.intro ?_ ?_)
 all_goals try((first|(with_reducible refine LoopIn.wf (fun σ => (σ.rowL .wlk 16,σ.tmI 5,asI (σ.ce 0 1))) ?_ ?_)|(with_reducible refine LoopBack.wf (fun σ => (σ.rowL .wlk 16,σ.tmI 5,asI (σ.ce 0 1))) ?_ ?_ ?_)|(with_reducible refine LoopIn.wf (fun σ => (a2U σ 7,σ.tmI 7,asI (σ.ce 0 1))) ?_ ?_)|(with_reducible refine LoopBack.wf (fun σ => (a2U σ 7,σ.tmI 7,asI (σ.ce 0 1))) ?_ ?_ ?_))<;>cbv)
 all_goals try(with_reducible show _∧_;(try simp only[and_true,true_and]))
 all_goals try(repeat' with_reducible refine And.intro ?_ ?_)
 all_goals try(with_reducible refine MeasB.mk ?_)
 all_goals first|(refine retK (h _ _ _ _ _ _ _ _ _ _ ?_) rfl;clear h)|(with_reducible refine Ob.mk ?_;clear h)|(clear h)
 all_goals(try simp only[eta0,RT.bytes]at *)
 all_goals(try simp only[d1W]at *)
 all_goals(try dsimp only[RT.ty]at *)
 all_goals(try simp only[M1]at *)
 all_goals(try(have hfew:=b3t hq.2.1))
 all_goals(try(first|omega|rfl|exact⟨by omega,by omega,c5x hq.1 (by omega)⟩))
 ·rename_i x5 x4 ha x3 x2 hb1 x1 x0 hc
  have hw:IntKind.i64.wrap (1+x1)=1+x1:=b8 (by omega) (by omega)
  rw[hw]
  exact⟨c2D ⟨ha.1,ha.2.1⟩ ⟨hb1.1,hb1.2.1⟩,by simp[z6,l9],by omega,by omega,by omega,by omega,(by intro v hv;cases hv),by simp only[List.length_nil];omega⟩
 ·rename_i x3 x2 ha x1 x0 hb1 hk
  have hw:IntKind.i64.wrap (k-1)=k-1:=b8 (by omega) (by omega)
  rw[hw]
  have hpl:=a4L l ⟨k,x3,nth .int [0,3,10,40,95,99] x1.toNat,0,0⟩
  exact⟨hq.1,c2C hq.1 hq.2.1 hk (by omega) ⟨ha.1,ha.2.1⟩ ⟨hb1.1,hb1.2.1⟩,by omega,by omega,by omega,by omega,c3r hq.2.2.2.2.2.2.1,by omega⟩
 ·have hw:IntKind.i64.wrap (k-1)=k-1:=b8 (by omega) (by omega)
  rw[hw]
  omega
 ·rename_i x1 x0 hc hk
  have hw:IntKind.i64.wrap (1+x1)=1+x1:=b8 (by omega) (by omega)
  exact⟨c9g (m:=⟨_,_⟩) (l:=l) (v:=IntKind.i64.wrap (1+x1)) ⟨l,@d1p ⟨_,_⟩ l (IntKind.i64.wrap (1+x1)) hq.1 hq.2.1 (by rw[hw];omega) (by rw[hw];omega) hq.2.2.2.2.2.2.1 (by omega)⟩ rfl,by omega,by omega,by omega,by omega⟩
 ·have hwc:IntKind.i64.wrap (c+1)=c+1:=b8 (by omega) (by omega)
  rw[hwc]
  refine⟨c5w hq.1 hq.2.1 _ _,?_⟩
  grind[b8]
 ·grind[b8]
noncomputable def b6e:Sx.Spec:=⟨false,false,[.list .byte],[nWld,[some .evt]],fun _ _ _ => .all Int fun a => .all Int fun b => .all (List Srv) fun c => .all (List Sto) fun d => .all (List Int) fun e => .all (List Int) fun f => .all (List Row) fun g => .all (List Msg) fun h => .all (List Note) fun i => .all (List Evt) fun l => .asm (fun _=>BegA ⟨⟨a,b⟩,c,d,⟨e,f⟩,g,h,i⟩ 4∧l.length≤149) (.ret (.tup [rWld a b c d e f g h i,vL .evt fun _=>l],fun _=>0))⟩
theorem c4d:b6 Tryz.prog 5 b6e:=j3 b9 (ss := [(19,c1h),(21,G0),(20,b3Q)]) ⟨c7q,C1,b6R,trivial⟩ rfl rfl<|by
 intro(bs:Th (List Int)) (p:Th Int) ⟨(l:Th (List Int)),u⟩ K hb hp0 ho h
 obtain⟨l,rfl⟩:=a8 l
 have hk : ∀w:Wld,BegA w 4→w.rows.length≤9∧w.stores.length≤4:=fun w h=>⟨(a1C (b5e h.1)).1,(a1C (b5e h.1)).2.1⟩
 refine⟨noAnn,noAnn,20,?_⟩
 cbv
 repeat' first|((with_reducible intro _);cbv)|(with_reducible refine And.intro ?_ ?_)
 all_goals first|(refine retK (h _ _ _ _ _ _ _ _ _ _ ?_) rfl;clear h)|(refine retK (h _ _ _ _ _ _ _ _ _ _ ?_) rfl)|(with_reducible refine Ob.mk ?_;clear h)|(clear h)
 all_goals(try simp only[eta0,RT.bytes]at *)
 all_goals(try dsimp only[RT.ty]at *)
 all_goals(try simp only[M1]at *)
 all_goals(first|rfl|omega|grind[b8])
noncomputable def b3R:Sx.Spec:=⟨false,true,[.list .byte],[],fun _ _ _ => .ret (vB fun _=>true,fun _=>0)⟩
theorem b1B:b6 Tryz.prog 3 b3R:=j3 b9 (ss := [(5,b6e),(11,X9),(16,X9),(7,c0W),(8,c6q),(9,a5E),(10,a5E)]) ⟨c4d,a4i,a3D,d2E,c3H,c3G,b9g,trivial⟩ rfl rfl<|by
 intro(bs:Th (List Int)) (p:Th Int) ⟨(a:Th (List Int)),u⟩ K _ _ ho h
 obtain⟨a,rfl⟩:=a8 a
 refine⟨annL [(3,9,⟨Th Int×Th Bool,[],fun σ g=>(σ.only [3,5]).t 6 (.one (.att (.int .i64 g.1))),fun σ g _=>Ob fun _=>0≤g.1 ()∧g.1 ()≤4,fun _ g _=>(5-g.1 ()).toNat⟩)],noAnn,20,?_⟩
 cbv
 repeat' first|((with_reducible refine fun(g:Th Int×Th Bool) => ?_);obtain⟨i,z⟩:=g;obtain⟨i,rfl⟩:=a8 i;obtain⟨z,rfl⟩:=a8 z;(with_reducible refine ImpB.out ?_);cbv;(with_reducible refine ImpB.mk ?_);intro hq;obtain⟨hq⟩:=hq)|((with_reducible intro _);cbv)|(with_reducible refine And.intro ?_ ?_)
 all_goals try((first|(with_reducible refine LoopIn.wf (fun σ => (σ.tmI 6,B6)) ?_ ?_)|(with_reducible refine LoopBack.wf (fun σ => (σ.tmI 6,B6)) ?_ ?_ ?_))<;>cbv)
 all_goals try(with_reducible show _∧_;(try simp only[and_true,true_and]))
 all_goals try(repeat' with_reducible refine And.intro ?_ ?_)
 all_goals try(with_reducible refine MeasB.mk ?_)
 all_goals first|(refine retK h ?_;clear h;simp only[fin0])|(with_reducible refine Ob.mk ?_;clear h)|(clear h)
 all_goals(try simp only[eta0,RT.bytes]at *)
 all_goals(try dsimp only[RT.ty]at *)
 all_goals(try simp only[M1]at *)
 all_goals(try simp only[a4F]at *)
 all_goals(try simp only[eta0,RT.bytes]at *)
 all_goals(try have hO:=c0n (by assumption) (by decide) (by decide))
 all_goals(first|rfl|decide|assumption|exact hO.1|exact hO.2.2.2.2.2.2.2.2.2|exact⟨by decide,by decide⟩|exact(b4B hO.1 (by assumption)).elim|exact(b4B hO.2.2.1 (by assumption)).elim|exact(b4B (by assumption) hO.2.2.2.2.2.1).elim|exact hO.2.2.2.2.2.1|exact(b4B (hO.2.2.2.1 _ hq.1 (by assumption)) (by assumption)).elim|exact(d3i (by assumption)).elim|exact c7T hq.1 (by assumption) hO.2.2.2.2.2.2.2.2.1|exact c7T hq.1 (by assumption) hO.2.2.2.2.2.2.2.1|exact absurd (hO.2.2.2.2.1 _ (by assumption)) (by assumption)|exact(c0A hq.1 (by assumption) hO.2.2.2.2.2.2.1).1|exact(c0A hq.1 (by assumption) hO.2.2.2.2.2.2.1).2)
end Go.Proofs.YtiioognflecdgaaGreat
