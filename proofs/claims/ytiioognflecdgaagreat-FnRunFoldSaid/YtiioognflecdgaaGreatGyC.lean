/-
  Contracts: a run of events, both sides.
-/
import Derived.Test.YtiioognflecdgaaGreatFx
import Derived.Test.YtiioognflecdgaaGreatMx
import Derived.Test.YtiioognflecdgaaGreatGsS
import Derived.Test.YtiioognflecdgaaGreatGnT
import Derived.Test.YtiioognflecdgaaGreatInsH
import Derived.Test.YtiioognflecdgaaGreatGnW
import Derived.Test.YtiioognflecdgaaGreatM7
import Derived.Test.YtiioognflecdgaaGreatGsE
import Derived.Test.YtiioognflecdgaaGreatGnX
set_option linter.unusedVariables false
set_option linter.unusedSimpArgs false
set_option maxRecDepth 100000
set_option maxHeartbeats 8000000
namespace Go.Proofs.YtiioognflecdgaaGreat
open Go.Sx Go.Proofs Go.Mo
noncomputable def d1B:Sx.Spec:=⟨false,false,[.row .wld,.list .evt],[nWld],fun _ _ ⟨w,l,_⟩ => .ret (rAs (W7 fun _=>runX (w ()) (l ())),fun _=>0)⟩
noncomputable def d1C:Sx.Spec:=⟨false,true,[.row .wld,.list .evt],[nWld],fun _ _ ⟨w,l,_⟩ => .ret (oWld fun _=>runX (w ()) (l ()),fun _=>0)⟩
theorem c3L:b6 Tryz.prog 15 d1B:=j3 b9 (ss := [(16,X9),(46,a3o),(47,a0A)]) ⟨a3D,a7q,a0M,trivial⟩ rfl rfl<|by
 intro(bs:Th (List Int)) (p:Th Int) ⟨(w:Th Wld),(l:Th (List Evt)),u⟩ K _ _ ho h
 obtain⟨w,rfl⟩:=a8 w;obtain⟨l,rfl⟩:=a8 l
 refine⟨annL [(15,5,⟨Th Wld×Th Int,[⟨.cell 6 2,none,.srv⟩,⟨.cell 6 3,none,.sto⟩,⟨.cell 6 4,none,.int⟩,⟨.cell 6 5,none,.int⟩,⟨.cell 6 6,none,.row⟩,⟨.cell 6 7,none,.msg⟩,⟨.cell 6 8,none,.note⟩],fun σ g=>(((σ.b2K 9986 7).only [1,2,4,5]).t 6 (.one (.att (.int .i64 g.2)))).a3Q 6 0 (W7 g.1),fun σ g _=>Ob fun _=>j6 w=true∧(l.length:Int)≤400∧0≤g.2 ()∧g.2 ()≤l.length∧g.1 ()=J2 w l (g.2 ()).toNat,fun _ g _=>(401-g.2 ()).toNat⟩)],noAnn,20,?_⟩
 cbv
 repeat' first|((with_reducible refine fun(g:Th Wld×Th Int) => ?_);obtain⟨x,i⟩:=g;obtain⟨x,rfl⟩:=a8 x;obtain⟨i,rfl⟩:=a8 i;(with_reducible refine ImpB.out ?_);cbv;(with_reducible refine ImpB.mk ?_);intro hq;obtain⟨hq⟩:=hq)|((with_reducible intro _);cbv)|(with_reducible refine And.intro ?_ ?_)
 all_goals try((first|(with_reducible refine LoopIn.wf (fun σ => (a2U σ 6,σ.tmI 6)) ?_ ?_)|(with_reducible refine LoopBack.wf (fun σ => (a2U σ 6,σ.tmI 6)) ?_ ?_ ?_))<;>cbv)
 all_goals try(with_reducible show _∧_;(try simp only[and_true,true_and]))
 all_goals try(repeat' with_reducible refine And.intro ?_ ?_)
 all_goals try(with_reducible refine MeasB.mk ?_)
 all_goals first|(refine retK h ?_;clear h;simp only[fin0])|(with_reducible refine Ob.mk ?_;clear h)|(clear h)
 all_goals(try simp only[eta0,RT.bytes]at *)
 all_goals(try dsimp only[RT.ty]at *)
 all_goals(try simp only[M1]at *)
 all_goals(try simp only[a4F]at *)
 all_goals(try simp only[eta0,RT.bytes]at *)
 all_goals(try have hB:=b6o hq.1 hq.2.1 hq.2.2.1 (by assumption) hq.2.2.2.2)
 all_goals(try have hwr:=a9t hq.2.1 hq.2.2.1 (by assumption))
 all_goals(try have hE:=c1l hq.1 hq.2.1 (by assumption) hq.2.2.2.1 hq.2.2.2.2)
 all_goals(first|omega|rfl|(rw[a9w (by assumption)];exact⟨rfl,rfl,rfl,rfl,rfl,rfl,rfl,rfl,rfl⟩)|(rw[a9v (by assumption)];exact⟨rfl,rfl,rfl,rfl,rfl,rfl,rfl,rfl,rfl⟩)|exact⟨by assumption,by omega,by omega,by omega,rfl⟩|exact⟨hq.1,hq.2.1,hB.1,hB.2.1,hB.2.2.1⟩|exact⟨hq.1,hq.2.1,hB.1,hB.2.1,hB.2.2.2.1⟩|exact hB.2.2.2.2|exact b6j hq.2.1 hq.2.2.1 (by assumption)|(rw[hE.1];exact⟨rfl,rfl,rfl,rfl,rfl,rfl,rfl,rfl,rfl⟩)|exact b2p (by assumption) (by assumption))
theorem c6P:b6 Tryz.prog 13 d1C:=j3 b9 (ss := [(11,X9),(23,a3o),(24,(ioX a9k))]) ⟨a4i,a4Y,a8H,trivial⟩ rfl rfl<|by
 intro(bs:Th (List Int)) (p:Th Int) ⟨(w:Th Wld),(l:Th (List Evt)),u⟩ K _ _ ho h
 obtain⟨w,rfl⟩:=a8 w;obtain⟨l,rfl⟩:=a8 l
 refine⟨annL [(13,5,⟨Th Wld×Th Int,a9L 6 500,fun σ g=>((((σ.only [1,2,4,5,19,20]).t 21 (.one (.att (.int .i64 g.2)))).b2K 10498 7).ownW 6 500 g.1),fun σ g _=>Ob fun _=>j6 w=true∧(l.length:Int)≤400∧0≤g.2 ()∧g.2 ()≤l.length∧g.1 ()=J2 w l (g.2 ()).toNat,fun _ g _=>(401-g.2 ()).toNat⟩)],noAnn,20,?_⟩
 cbv
 repeat' first|((with_reducible refine fun(g:Th Wld×Th Int) => ?_);obtain⟨x,i⟩:=g;obtain⟨x,rfl⟩:=a8 x;obtain⟨i,rfl⟩:=a8 i;(with_reducible refine ImpB.out ?_);cbv;(with_reducible refine ImpB.mk ?_);intro hq;obtain⟨hq⟩:=hq)|((with_reducible intro _);cbv)|(with_reducible refine And.intro ?_ ?_)
 all_goals try((first|(with_reducible refine LoopIn.wf (fun σ => (V6 σ 6 500,σ.tmI 21)) ?_ ?_)|(with_reducible refine LoopBack.wf (fun σ => (V6 σ 6 500,σ.tmI 21)) ?_ ?_ ?_))<;>cbv)
 all_goals try(with_reducible show _∧_;(try simp only[and_true,true_and]))
 all_goals try(repeat' with_reducible refine And.intro ?_ ?_)
 all_goals try(with_reducible refine MeasB.mk ?_)
 all_goals first|(refine retK h ?_;clear h;simp only[fin0])|(with_reducible refine Ob.mk ?_;clear h)|(clear h)
 all_goals(try simp only[eta0,RT.bytes]at *)
 all_goals(try dsimp only[RT.ty]at *)
 all_goals(try simp only[M1]at *)
 all_goals(try simp only[a4F]at *)
 all_goals(try simp only[eta0,RT.bytes]at *)
 all_goals(try have hB:=b6o hq.1 hq.2.1 hq.2.2.1 (by assumption) hq.2.2.2.2)
 all_goals(try have hwr:=a9t hq.2.1 hq.2.2.1 (by assumption))
 all_goals(try have hE:=c1l hq.1 hq.2.1 (by assumption) hq.2.2.2.1 hq.2.2.2.2)
 all_goals(first|omega|rfl|(rw[a9w (by assumption)];exact⟨rfl,rfl,rfl,rfl,rfl,rfl,rfl,rfl,rfl⟩)|(rw[a9v (by assumption)];exact⟨rfl,rfl,rfl,rfl,rfl,rfl,rfl,rfl,rfl⟩)|exact⟨by assumption,by omega,by omega,by omega,rfl⟩|exact⟨hq.1,hq.2.1,hB.1,hB.2.1,hB.2.2.1⟩|exact⟨hq.1,hq.2.1,hB.1,hB.2.1,hB.2.2.2.1⟩|exact hB.2.2.2.2|exact b6j hq.2.1 hq.2.2.1 (by assumption)|(rw[hE.1];exact⟨rfl,rfl,rfl,rfl,rfl,rfl,rfl,rfl,rfl⟩)|exact b2p (by assumption) (by assumption))
noncomputable def b5Y:Sx.Spec:=⟨true,true,[.row .wld,.int .i64],[[some .evt],nWld],fun _ p ⟨w0,n,_⟩ => .asrt (fun _=>0≤p ()∧p ()≤990000000000∧n ()≤200∧(w0 ()).rows.length≤20∧(w0 ()).stores.length≤20) (.all (List Evt) fun l => .all Int fun a => .all Int fun b => .all (List Srv) fun c => .all (List Sto) fun d => .all (List Int) fun e => .all (List Int) fun f => .all (List Row) fun g => .all (List Msg) fun h => .all (List Note) fun i => .all Int fun q => .asm (fun _=>p ()≤q∧q≤p ()+100000∧((l.length:Int)≤n ()∨l.length=0)∧wP (w0 ()) ⟨⟨a,b⟩,c,d,⟨e,f⟩,g,h,i⟩) (.ret (.tup [vW .evt fun _=>l,rWld a b c d e f g h i],fun _=>q)))⟩
theorem c3U:b6 Tryz.prog 20 b5Y:=j3 b9 (ss := [(21,G0),(58,b3S),(59,b8H),(60,b3O),(61,a9o),(47,a0A)]) ⟨C1,b6Z,c1F,b6J,b2E,a0M,trivial⟩ rfl rfl<|by
 intro(bs:Th (List Int)) (p:Th Int) ⟨(w0:Th Wld),(n:Th Int),u⟩ K hb hp0 ho h
 obtain⟨w0,rfl⟩:=a8 w0;obtain⟨n,rfl⟩:=a8 n;obtain⟨bs,rfl⟩:=a8 bs;obtain⟨p,rfl⟩:=a8 p
 obtain⟨hpre,h⟩:=h
 have hpre:0≤p∧p≤990000000000∧n≤200∧w0.rows.length≤20∧w0.stores.length≤20:=hpre.out
 have hz:=b3v w0
 have hs:=fun(w:Wld) (e:Evt) (h:wP w0 w)=>b3u e h
 have hf:=fun(w:Wld) (h:wP w0 w)=>c5D h hpre.2.2.2.1 hpre.2.2.2.2
 refine⟨annL [(20,6,⟨Th (List Evt)×Th Wld×Th Int×Th Int×Th Int×Th Int,[],fun σ g=>((((((((σ.fgs [15]).t 12 (.one (.att (.int .i64 g.2.2.1)))).t 10 (.one (.att (.int .i64 g.2.2.2.1)))).t 11 (.one (.att (.int .i64 g.2.2.2.2.1)))).t 8 (vO 15 1)).h 15 (1,.row true 0 .evt g.1)).a3Q 5 0 (W7 g.2.1)).v5 0 1 (.att (.int .i64 g.2.2.2.2.2))),
  fun _ g _=>Ob fun _=>0≤g.2.2.1 ()∧(g.2.2.1 ()≤n∨g.2.2.1 ()=0)∧((g.1 ()).length:Int)=g.2.2.1 ()∧0≤g.2.2.2.1 ()∧g.2.2.2.1 ()≤6∧p≤g.2.2.2.2.2 ()∧g.2.2.2.2.2 ()≤p+1+400 * g.2.2.1 ()∧wP w0 (g.2.1 ()),fun _ g _=>(n-g.2.2.1 ()).toNat⟩)],noAnn,20,?_⟩
 cbv
 repeat' first|((with_reducible refine fun(g:Th (List Evt)×Th Wld×Th Int×Th Int×Th Int×Th Int) => ?_);obtain⟨l,w,i,s,t,q⟩:=g;obtain⟨l,rfl⟩:=a8 l;obtain⟨w,rfl⟩:=a8 w;obtain⟨i,rfl⟩:=a8 i;obtain⟨s,rfl⟩:=a8 s;obtain⟨t,rfl⟩:=a8 t;obtain⟨q,rfl⟩:=a8 q;(with_reducible refine ImpB.out ?_);cbv;(with_reducible refine ImpB.mk ?_);intro hq;obtain⟨hq⟩:=hq)|((with_reducible intro _);cbv)|(with_reducible refine And.intro ?_ ?_)
 all_goals try((first|(with_reducible refine LoopIn.wf (fun σ => (σ.rowL .evt 15,a2U σ 5,σ.tmI 12,σ.tmI 10,σ.tmI 11,asI (σ.ce 0 1))) ?_ ?_)|(with_reducible refine LoopBack.wf (fun σ => (σ.rowL .evt 15,a2U σ 5,σ.tmI 12,σ.tmI 10,σ.tmI 11,asI (σ.ce 0 1))) ?_ ?_ ?_))<;>cbv)
 all_goals try(with_reducible show _∧_;(try simp only[and_true,true_and]))
 all_goals try(repeat' with_reducible refine And.intro ?_ ?_)
 all_goals try(with_reducible refine MeasB.mk ?_)
 all_goals first|(refine retK (h _ _ _ _ _ _ _ _ _ _ _ ?_) rfl;clear h)|(with_reducible refine Ob.mk ?_;clear h)|(clear h)
 all_goals(try simp only[eta0,RT.bytes]at *)
 all_goals(try dsimp only[RT.ty]at *)
 all_goals(try simp only[M1]at *)
 all_goals(try have hw1:IntKind.i64.wrap (i+1)=i+1:=b8 (by omega) (by omega))
 all_goals(try have hw2:IntKind.i64.wrap (s-1)=s-1:=b8 (by omega) (by omega))
 all_goals(try have hff:=hf w hq.2.2.2.2.2.2.2)
 all_goals(try simp only[hw1])
 all_goals(try simp only[hw2])
 all_goals(first|rfl|omega|exact⟨trivial,by omega,by omega⟩|(refine⟨by omega,by(first|omega|exact .inr trivial),by(first|omega|rfl),by omega,by omega,by omega,by omega,?_⟩;first|exact hz|exact hs w _ hq.2.2.2.2.2.2.2)|exact⟨by omega,by omega,by omega,hq.2.2.2.2.2.2.2⟩)
noncomputable def b2k:Sx.Spec:=⟨false,false,[.list .byte],[nWld,[some .evt]],fun _ _ _ => .all Int fun a => .all Int fun b => .all (List Srv) fun c => .all (List Sto) fun d => .all (List Int) fun e => .all (List Int) fun f => .all (List Row) fun g => .all (List Msg) fun h => .all (List Note) fun i => .all (List Evt) fun l => .asm (fun _=>l.length≤1000) (.ret (.tup [rWld a b c d e f g h i,vL .evt fun _=>l],fun _=>0))⟩
theorem b9r:b6 Tryz.prog 12 b2k:=j3 b9 (ss := [(39,d1H),(21,G0),(20,b5Y)]) ⟨d2K,C1,c3U,trivial⟩ rfl rfl<|by
 intro(bs:Th (List Int)) (p:Th Int) ⟨(l:Th (List Int)),u⟩ K hb hp0 ho h
 obtain⟨l,rfl⟩:=a8 l
 refine⟨annL [(12,5,⟨Th (List Evt)×Th Int,[],fun σ g=>(fun(k:Nat)=>((σ.only [2,3,4,5]).t 6 (vO k 1)).h k (1,.row true 0 .evt g.1)) (σ.okT 6),fun σ g _=>Ob fun _=>(g.1 ()).length≤401,fun _ g _=>402-(g.1 ()).length⟩)],noAnn,20,?_⟩
 cbv
 repeat' first|((with_reducible refine fun(g:Th (List Evt)×Th Int) => ?_);obtain⟨L,z⟩:=g;obtain⟨L,rfl⟩:=a8 L;obtain⟨z,rfl⟩:=a8 z;(with_reducible refine ImpB.out ?_);cbv;(with_reducible refine ImpB.mk ?_);intro hq;obtain⟨hq⟩:=hq)|((with_reducible intro _);cbv)|(with_reducible refine And.intro ?_ ?_)
 all_goals try((first|(with_reducible refine LoopIn.wf (fun σ => (σ.rowL .evt (σ.okT 6),a0n)) ?_ ?_)|(with_reducible refine LoopBack.wf (fun σ => (σ.rowL .evt (σ.okT 6),a0n)) ?_ ?_ ?_))<;>cbv)
 all_goals try(with_reducible show _∧_;(try simp only[and_true,true_and]))
 all_goals try(repeat' with_reducible refine And.intro ?_ ?_)
 all_goals try(with_reducible refine MeasB.mk ?_)
 all_goals first|(refine retK (h _ _ _ _ _ _ _ _ _ _ ?_) rfl;clear h)|(refine retK (h _ _ _ _ _ _ _ _ _ _ ?_) rfl)|(with_reducible refine Ob.mk ?_;clear h)|(clear h)
 all_goals(try simp only[eta0,RT.bytes]at *)
 all_goals(try dsimp only[RT.ty]at *)
 all_goals(try simp only[M1]at *)
 all_goals(try simp only[List.length_append,List.length_cons,List.length_nil]at *)
 all_goals(first|rfl|omega|grind[b8])
noncomputable def b6a:Sx.Spec:=⟨false,true,[.list .byte],[],fun _ _ _ => .ret (vB fun _=>true,fun _=>0)⟩
theorem b4t:b6 Tryz.prog 4 b6a:=j3 b9 (ss := [(12,b2k),(13,d1C),(15,d1B),(14,c6l),(16,X9),(55,A9),(11,X9)]) ⟨b9r,c6P,c3L,c3Y,a3D,S6,a4i,trivial⟩ rfl rfl<|by
 intro(bs:Th (List Int)) (p:Th Int) ⟨(a:Th (List Int)),u⟩ K _ _ ho h
 obtain⟨a,rfl⟩:=a8 a
 have hla:=okL (ho.1 _ (.head _))
 refine⟨noAnn,noAnn,20,?_⟩
 cbv
 repeat' first|((with_reducible intro _);cbv)|(with_reducible refine And.intro ?_ ?_)
 all_goals first|(refine retK h ?_;clear h;simp only[fin0])|(with_reducible refine Ob.mk ?_;clear h)|(clear h)
 all_goals(try simp only[eta0,RT.bytes]at *)
 all_goals(try dsimp only[RT.ty]at *)
 all_goals(try simp only[M1]at *)
 all_goals(try simp only[a4F]at *)
 all_goals(try simp only[eta0,RT.bytes]at *)
 all_goals(first|rfl|exact absurd trivial (by assumption)|exact(c3n (by assumption) (by assumption)).elim|exact(c3m (by assumption) (by assumption)).elim|exact d2p (by assumption)|exact d2o (by assumption)|exact d2n (by assumption)|exact d2m (by assumption) (by assumption)|exact absurd (d2l (by assumption) (by assumption)) (by assumption))
end Go.Proofs.YtiioognflecdgaaGreat
