/-
  Contracts: worlds drawn.
-/
import Derived.Test.YtihaeoicjglieaaGreatGnT
import Derived.Test.YtihaeoicjglieaaGreatInsG
import Derived.Test.YtihaeoicjglieaaGreatM3
set_option linter.unusedVariables false
set_option linter.unusedSimpArgs false
set_option maxRecDepth 100000
set_option maxHeartbeats 8000000
namespace Go.Proofs.YtihaeoicjglieaaGreat
open Go.Sx Go.Proofs Go.Mo
noncomputable def rWld (a b:Int) (c:List Srv) (d:List Sto) (e f:List Int) (g:List Row) (h:List Msg) (i:List Note):V := .agg [cI a,cI b,.att (.list .srv fun _=>c),.att (.list .sto fun _=>d),.att (.list .int fun _=>e),.att (.list .int fun _=>f),.att (.list .row fun _=>g),.att (.list .msg fun _=>h),.att (.list .note fun _=>i)]
noncomputable def b5N:Sx.Spec:=⟨true,false,[.row .wld,.int .i64],[[some .evt],nWld],fun _ p ⟨w0,n,_⟩ => .asrt (fun _=>0≤p ()∧p ()≤990000000000∧n ()≤200∧(w0 ()).rows.length≤20∧(w0 ()).stores.length≤20) (.all (List Evt) fun l => .all Int fun a => .all Int fun b => .all (List Srv) fun c => .all (List Sto) fun d => .all (List Int) fun e => .all (List Int) fun f => .all (List Row) fun g => .all (List Msg) fun h => .all (List Note) fun i => .all Int fun q => .asm (fun _=>p ()≤q∧q≤p ()+100000∧((l.length:Int)≤n ()∨l.length=0)∧wP (w0 ()) ⟨⟨a,b⟩,c,d,⟨e,f⟩,g,h,i⟩) (.ret (.tup [vL .evt fun _=>l,rWld a b c d e f g h i],fun _=>q)))⟩
noncomputable def c8X (p:Th Int) (B n:Int):Rn (V×Th Int) := .asrt (fun _=>0≤p ()∧p ()≤B) (.all Int fun a => .all Int fun b => .all (List Srv) fun c => .all (List Sto) fun d => .all (List Int) fun e => .all (List Int) fun f => .all (List Row) fun g => .all (List Msg) fun h => .all (List Note) fun i => .all Int fun q => .asm (fun _=>p ()≤q∧q≤p ()+n∧j8 ⟨⟨a,b⟩,c,d,⟨e,f⟩,g,h,i⟩=true) (.ret (rWld a b c d e f g h i,fun _=>q)))
noncomputable def c9O:Sx.Spec:=⟨true,false,[],[nWld],fun _ p _=>c8X p 980000000000 100⟩
noncomputable def b5K:Sx.Spec:=⟨true,false,[],[nWld],fun _ p _=>c8X p 970000000000 200000⟩
def St.kill (σ : St) (ks:List Nat):St:=ks.foldl (fun s k=>s.h k (1,.dead)) σ
theorem b9j:b8 Tryz.prog 45 b5N:=j4 e9 (ss := [(46,J4),(82,b5S),(97,c9I),(98,c3E),(99,b8h),(32,N7)]) ⟨D2,b9s,d4i,d0u,c7f,N1,trivial⟩ rfl rfl<|by
 intro(bs:Th (List Int)) (p:Th Int) ⟨(w0:Th Wld),(n:Th Int),u⟩ K hb hp0 ho h
 obtain⟨w0,rfl⟩:=b6 w0;obtain⟨n,rfl⟩:=b6 n;obtain⟨bs,rfl⟩:=b6 bs;obtain⟨p,rfl⟩:=b6 p
 obtain⟨hpre,h⟩:=h
 have hpre:0≤p∧p≤990000000000∧n≤200∧w0.rows.length≤20∧w0.stores.length≤20:=hpre.out
 have hz:=c3m w0
 have hs:=fun(w:Wld) (e:Evt) (h:wP w0 w)=>c3l e h
 have hf:=fun(w:Wld) (h:wP w0 w)=>d5S h hpre.2.2.2.1 hpre.2.2.2.2
 refine⟨annL [(45,6,⟨Th (List Evt)×Th Wld×Th Int×Th Int×Th Int×Th Int,[],fun σ g=>((((((((σ.fgs [15]).t 12 (.one (.att (.int .i64 g.2.2.1)))).t 10 (.one (.att (.int .i64 g.2.2.2.1)))).t 11 (.one (.att (.int .i64 g.2.2.2.2.1)))).t 8 (vO 15 1)).h 15 (1,.row true 0 .evt g.1)).a2M 5 0 (X0 g.2.1)).u7 0 1 (.att (.int .i64 g.2.2.2.2.2))),
  fun _ g _=>Ob fun _=>0≤g.2.2.1 ()∧(g.2.2.1 ()≤n∨g.2.2.1 ()=0)∧((g.1 ()).length:Int)=g.2.2.1 ()∧0≤g.2.2.2.1 ()∧g.2.2.2.1 ()≤6∧p≤g.2.2.2.2.2 ()∧g.2.2.2.2.2 ()≤p+1+400 * g.2.2.1 ()∧wP w0 (g.2.1 ()),fun _ g _=>(n-g.2.2.1 ()).toNat⟩)],noAnn,20,?_⟩
 cbv
 repeat' first|((with_reducible refine fun(g:Th (List Evt)×Th Wld×Th Int×Th Int×Th Int×Th Int) => ?_);obtain⟨l,w,i,s,t,q⟩:=g;obtain⟨l,rfl⟩:=b6 l;obtain⟨w,rfl⟩:=b6 w;obtain⟨i,rfl⟩:=b6 i;obtain⟨s,rfl⟩:=b6 s;obtain⟨t,rfl⟩:=b6 t;obtain⟨q,rfl⟩:=b6 q;(with_reducible refine ImpB.out ?_);cbv;(with_reducible refine ImpB.mk ?_);intro hq;obtain⟨hq⟩:=hq)|((with_reducible intro _);cbv)|(with_reducible refine And.intro ?_ ?_)
 all_goals try((first|(with_reducible refine LoopIn.wf (fun σ => (σ.rowL .evt 15,X3 σ 5,σ.tmI 12,σ.tmI 10,σ.tmI 11,asI (σ.ce 0 1))) ?_ ?_)|(with_reducible refine LoopBack.wf (fun σ => (σ.rowL .evt 15,X3 σ 5,σ.tmI 12,σ.tmI 10,σ.tmI 11,asI (σ.ce 0 1))) ?_ ?_ ?_))<;>cbv)
 all_goals try(with_reducible show _∧_;(try simp only[and_true,true_and]))
 all_goals try(repeat' with_reducible refine And.intro ?_ ?_)
 all_goals try(with_reducible refine MeasB.mk ?_)
 all_goals first|(refine retK (h _ _ _ _ _ _ _ _ _ _ _ ?_) rfl;clear h)|(with_reducible refine Ob.mk ?_;clear h)|(clear h)
 all_goals(try simp only[eta0,RT.bytes]at *)
 all_goals(try dsimp only[RT.ty]at *)
 all_goals(try simp only[S6]at *)
 all_goals(try have hw1:IntKind.i64.wrap (i+1)=i+1:=e8 (by omega) (by omega))
 all_goals(try have hw2:IntKind.i64.wrap (s-1)=s-1:=e8 (by omega) (by omega))
 all_goals(try have hff:=hf w hq.2.2.2.2.2.2.2)
 all_goals(try simp only[hw1])
 all_goals(try simp only[hw2])
 all_goals(first|rfl|omega|exact⟨trivial,by omega,by omega⟩|(refine⟨by omega,by(first|omega|exact .inr trivial),by(first|omega|rfl),by omega,by omega,by omega,by omega,?_⟩;first|exact hz|exact hs w _ hq.2.2.2.2.2.2.2)|exact⟨by omega,by omega,by omega,hq.2.2.2.2.2.2.2⟩)
theorem d4p:b8 Tryz.prog 44 c9O:=j4 e9 (ss := [(46,J4),(95,a0D),(96,b5L),(32,N7)]) ⟨D2,a3a,b4r,N1,trivial⟩ rfl rfl<|by
 intro(bs:Th (List Int)) (p:Th Int) u K hb hp0 ho h
 obtain⟨bs,rfl⟩:=b6 bs;obtain⟨p,rfl⟩:=b6 p
 obtain⟨hpre,h⟩:=h
 have hpre:0≤p∧p≤980000000000:=hpre.out
 refine⟨annL [(44,4,⟨Th (List Wlk)×Th Int×Th Int,[⟨.tmp 4 0,some 16,.wlk⟩],fun σ g=>((((σ.fgs [16]).t 5 (.one (.att (.int .i64 g.2.1)))).t 4 (vO 16 1)).h 16 (1,.row true 0 .wlk g.1)).u7 0 1 (.att (.int .i64 g.2.2)),
   fun σ g _=>Ob (begC (asI (σ.ce 4 0)) (asI (σ.ce 4 1)) g.1 g.2.1 g.2.2 p),fun _ g _=>(g.2.1 ()).toNat⟩),
  (44,9,⟨Th Wld×Th Int×Th Int,[⟨.cell 7 2,none,.srv⟩,⟨.cell 7 3,none,.sto⟩,⟨.cell 7 4,none,.int⟩,⟨.cell 7 5,none,.int⟩,⟨.cell 7 6,none,.row⟩,⟨.cell 7 7,none,.msg⟩,⟨.cell 7 8,none,.note⟩],fun σ g=>((((St.kill σ [23810,23811,23812,23813,23814,23815,23816]).only [0,2,3,6]).t 7 (.one (.att (.int .i64 g.2.1)))).a2M 7 0 (X0 g.1)).u7 0 1 (.att (.int .i64 g.2.2)),
   fun _ g _=>Ob fun _=>j8 (g.1 ())=true∧0≤g.2.1 ()∧g.2.1 ()≤4∧p≤g.2.2 ()∧g.2.2 ()≤p+20+2 * g.2.1 (),fun _ g _=>(4-g.2.1 ()).toNat⟩)],noAnn,20,?_⟩
 cbv
 repeat' first|((with_reducible refine fun(g:Th (List Wlk)×Th Int×Th Int) => ?_);obtain⟨l,k,q⟩:=g;obtain⟨l,rfl⟩:=b6 l;obtain⟨k,rfl⟩:=b6 k;obtain⟨q,rfl⟩:=b6 q;(with_reducible refine ImpB.out ?_);cbv;(with_reducible refine ImpB.mk ?_);intro hq;obtain⟨hq⟩:=hq)|((with_reducible refine fun(g:Th Wld×Th Int×Th Int) => ?_);obtain⟨w,c,q⟩:=g;obtain⟨w,rfl⟩:=b6 w;obtain⟨c,rfl⟩:=b6 c;obtain⟨q,rfl⟩:=b6 q;(with_reducible refine ImpB.out ?_);cbv;(with_reducible refine ImpB.mk ?_);intro hq;obtain⟨hq⟩:=hq)|((with_reducible intro _);cbv)|(with_reducible refine And.intro ?_ ?_)
 all_goals try((first|(with_reducible refine LoopIn.wf (fun σ => (σ.rowL .wlk 16,σ.tmI 5,asI (σ.ce 0 1))) ?_ ?_)|(with_reducible refine LoopBack.wf (fun σ => (σ.rowL .wlk 16,σ.tmI 5,asI (σ.ce 0 1))) ?_ ?_ ?_)|(with_reducible refine LoopIn.wf (fun σ => (X3 σ 7,σ.tmI 7,asI (σ.ce 0 1))) ?_ ?_)|(with_reducible refine LoopBack.wf (fun σ => (X3 σ 7,σ.tmI 7,asI (σ.ce 0 1))) ?_ ?_ ?_))<;>cbv)
 all_goals try(with_reducible show _∧_;(try simp only[and_true,true_and]))
 all_goals try(repeat' with_reducible refine And.intro ?_ ?_)
 all_goals try(with_reducible refine MeasB.mk ?_)
 all_goals first|(refine retK (h _ _ _ _ _ _ _ _ _ _ ?_) rfl;clear h)|(with_reducible refine Ob.mk ?_;clear h)|(clear h)
 all_goals(try simp only[eta0,RT.bytes]at *)
 all_goals(try simp only[begC]at *)
 all_goals(try dsimp only[RT.ty]at *)
 all_goals(try simp only[S6]at *)
 all_goals(try(have hfew:=b5p hq.2.1))
 all_goals(try(first|omega|rfl|exact⟨by omega,by omega,hq.1⟩))
 ·rename_i x5 x4 ha x3 x2 hb1 x1 x0 hc
  have hw:IntKind.i64.wrap (1+x1)=1+x1:=e8 (by omega) (by omega)
  rw[hw]
  exact⟨c5H ⟨ha.1,ha.2.1⟩ ⟨hb1.1,hb1.2.1⟩,by simp[A5,m8],by omega,by omega,by omega,by omega⟩
 ·rename_i x3 x2 ha x1 x0 hb1 hk
  have hw:IntKind.i64.wrap (k-1)=k-1:=e8 (by omega) (by omega)
  rw[hw]
  exact⟨hq.1,c5G hq.1 hq.2.1 hk (by omega) ⟨ha.1,ha.2.1⟩ ⟨hb1.1,hb1.2.1⟩,by omega,by omega,by omega,by omega⟩
 ·have hw:IntKind.i64.wrap (k-1)=k-1:=e8 (by omega) (by omega)
  rw[hw]
  omega
 ·rename_i x1 x0 hc hk
  have hw:IntKind.i64.wrap (1+x1)=1+x1:=e8 (by omega) (by omega)
  exact⟨@b3D ⟨_,_⟩ l (IntKind.i64.wrap (1+x1)) hq.1 hq.2.1 (by rw[hw];omega) (by rw[hw];omega),by omega,by omega,by omega,by omega⟩
 ·refine⟨b0I _ (b0I _ hq.1),?_⟩
  grind[e8]
 ·grind[e8]
theorem b6r:b8 Tryz.prog 140 b5K:=j4 e9 (ss := [(44,c9O),(46,J4),(45,b5N)]) ⟨d4p,D2,b9j,trivial⟩ rfl rfl<|by
 intro(bs:Th (List Int)) (p:Th Int) u K hb hp0 ho h
 obtain⟨bs,rfl⟩:=b6 bs;obtain⟨p,rfl⟩:=b6 p
 obtain⟨hpre,h⟩:=h
 have hpre:0≤p∧p≤970000000000:=hpre.out
 refine⟨noAnn,noAnn,20,?_⟩
 cbv
 repeat' first|((with_reducible intro _);cbv)|(with_reducible refine And.intro ?_ ?_)
 all_goals first|(refine retK (h _ _ _ _ _ _ _ _ _ _ ?_) rfl;clear h)|(with_reducible refine Ob.mk ?_;clear h)|(clear h)
 all_goals(try simp only[eta0,RT.bytes]at *)
 all_goals(try dsimp only[RT.ty]at *)
 all_goals(try simp only[S6]at *)
 all_goals(first|rfl|omega|grind[e8,a6n,wP]|(rename_i xa xb xc xd xe xf xg xh xi xq hw y3 y2 hy y1 y0 hz;have hfew:=a6n hw.2.2;have hm := @d4v y1 y3 hz.1 (hz.2.1 (by omega)) hy.1 (hy.2.1 (by omega));dsimp only at hfew;exact⟨by omega,by omega,Int.le_trans hm (by decide),by omega,by omega⟩))
noncomputable def c9N:Sx.Spec:=⟨true,false,[.int .i64],[nWld,[some .row]],fun _ p ⟨n,_⟩ => .asrt (fun _=>0≤p ()∧p ()≤960000000000) (.all Int fun a => .all Int fun b => .all (List Srv) fun c => .all (List Sto) fun d => .all (List Int) fun e => .all (List Int) fun f => .all (List Row) fun g => .all (List Msg) fun h => .all (List Note) fun i => .all (List Row) fun r => .all Int fun q => .asm (fun _=>p ()≤q∧q≤p ()+300000∧j8 ⟨⟨a,b⟩,c,d,⟨e,f⟩,g,h,i⟩=true∧r.length≤10) (.ret (.tup [rWld a b c d e f g h i,.agg [.att (.list .row fun _=>r)]],fun _=>q)))⟩
theorem d4o:b8 Tryz.prog 193 c9N:=j4 e9 (ss := [(140,b5K),(153,a3z),(46,J4),(235,a8I)]) ⟨b6r,a5t,D2,b1I,trivial⟩ rfl rfl<|by
 intro(bs:Th (List Int)) (p:Th Int) ⟨(n:Th Int),u⟩ K hb hp0 ho h
 obtain⟨n,rfl⟩:=b6 n;obtain⟨bs,rfl⟩:=b6 bs;obtain⟨p,rfl⟩:=b6 p
 obtain⟨hpre,h⟩:=h
 have hpre:0≤p∧p≤960000000000:=hpre.out
 have hk : ∀(a b:Int) (c:List Srv) (d:List Sto) (e f:List Int) (g:List Row) (h:List Msg) (i:List Note),j8 ⟨⟨a,b⟩,c,d,⟨e,f⟩,g,h,i⟩=true→g.length≤9:=fun a b c d e f g h i w=>(a6n w).1
 refine⟨noAnn,noAnn,20,?_⟩
 cbv
 repeat' first|((with_reducible intro _);cbv)|(with_reducible refine And.intro ?_ ?_)
 all_goals first|(refine retK (h _ _ _ _ _ _ _ _ _ _ _ ?_) rfl;clear h)|(with_reducible refine Ob.mk ?_;clear h)|(clear h)
 all_goals(try simp only[eta0,RT.bytes]at *)
 all_goals(try dsimp only[RT.ty]at *)
 all_goals(try simp only[S6]at *)
 all_goals(first|rfl|omega|grind[List.length_set])
end Go.Proofs.YtihaeoicjglieaaGreat
