/-
  Contracts: worlds drawn.
-/
import Derived.Test.YtiioognflecdgaaGreatGnT
import Derived.Test.YtiioognflecdgaaGreatGnW
import Derived.Test.YtiioognflecdgaaGreatGnV
import Derived.Test.YtiioognflecdgaaGreatGnVe
import Derived.Test.YtiioognflecdgaaGreatM5
set_option linter.unusedVariables false
set_option linter.unusedSimpArgs false
set_option maxRecDepth 100000
set_option maxHeartbeats 8000000
namespace Go.Proofs.YtiioognflecdgaaGreat
open Go.Sx Go.Proofs Go.Mo
noncomputable def rWld (a b:Int) (c:List Srv) (d:List Sto) (e f:List Int) (g:List Row) (h:List Msg) (i:List Note):V := .agg [cI a,cI b,.att (.list .srv fun _=>c),.att (.list .sto fun _=>d),.att (.list .int fun _=>e),.att (.list .int fun _=>f),.att (.list .row fun _=>g),.att (.list .msg fun _=>h),.att (.list .note fun _=>i)]
noncomputable def b3Q:Sx.Spec:=⟨true,false,[.row .wld,.int .i64],[[some .evt],nWld],fun _ p ⟨w0,n,_⟩ => .asrt (fun _=>0≤p ()∧p ()≤990000000000∧n ()≤200∧(w0 ()).rows.length≤20∧(w0 ()).stores.length≤20) (.all (List Evt) fun l => .all Int fun a => .all Int fun b => .all (List Srv) fun c => .all (List Sto) fun d => .all (List Int) fun e => .all (List Int) fun f => .all (List Row) fun g => .all (List Msg) fun h => .all (List Note) fun i => .all Int fun q => .asm (fun _=>p ()≤q∧q≤p ()+100000∧((l.length:Int)≤n ()∨l.length=0)∧wP (w0 ()) ⟨⟨a,b⟩,c,d,⟨e,f⟩,g,h,i⟩) (.ret (.tup [vL .evt fun _=>l,rWld a b c d e f g h i],fun _=>q)))⟩
def St.kill (σ : St) (ks:List Nat):St:=ks.foldl (fun s k=>s.h k (1,.dead)) σ
theorem b6R:b6 Tryz.prog 20 b3Q:=j3 b9 (ss := [(21,G0),(58,b3S),(59,b8H),(60,b3O),(61,a9o),(47,a0A)]) ⟨C1,b6Z,c1F,b6J,b2E,a0M,trivial⟩ rfl rfl<|by
 intro(bs:Th (List Int)) (p:Th Int) ⟨(w0:Th Wld),(n:Th Int),u⟩ K hb hp0 ho h
 obtain⟨w0,rfl⟩:=a8 w0;obtain⟨n,rfl⟩:=a8 n;obtain⟨bs,rfl⟩:=a8 bs;obtain⟨p,rfl⟩:=a8 p
 obtain⟨hpre,h⟩:=h
 have hpre:0≤p∧p≤990000000000∧n≤200∧w0.rows.length≤20∧w0.stores.length≤20:=hpre.out
 have hz:=b3v w0
 have hs:=fun(w:Wld) (e:Evt) (h:wP w0 w)=>b3u e h
 have hf:=fun(w:Wld) (h:wP w0 w)=>c5D h hpre.2.2.2.1 hpre.2.2.2.2
 refine⟨annL [(20,6,⟨Th (List Evt)×Th Wld×Th Int×Th Int×Th Int×Th Int,[],fun σ g=>((((((((σ.fgs [15]).t 12 (.one (.att (.int .i64 g.2.2.1)))).t 10 (.one (.att (.int .i64 g.2.2.2.1)))).t 11 (.one (.att (.int .i64 g.2.2.2.2.1)))).t 8 (vO 15 1)).h 15 (1,.row true 0 .evt g.1)).a3Q 5 0 (W7 g.2.1)).v5 0 1 (.att (.int .i64 g.2.2.2.2.2))),
  fun _ g _=>Ob fun _=>0≤g.2.2.1 ()∧(g.2.2.1 ()≤n∨g.2.2.1 ()=0)∧((g.1 ()).length:Int)=g.2.2.1 ()∧0≤g.2.2.2.1 ()∧g.2.2.2.1 ()≤6∧p≤g.2.2.2.2.2 ()∧g.2.2.2.2.2 ()≤p+1+400 * g.2.2.1 ()∧wP w0 (g.2.1 ()),fun _ g _=>(n-g.2.2.1 ()).toNat⟩)],noAnn,20,?_⟩
 cbv
 repeat' first|((with_reducible refine fun(g:Th (List Evt)×Th Wld×Th Int×Th Int×Th Int×Th Int) => ?_);obtain⟨l,w,i,s,t,q⟩:=g;obtain⟨l,rfl⟩:=a8 l;obtain⟨w,rfl⟩:=a8 w;obtain⟨i,rfl⟩:=a8 i;obtain⟨s,rfl⟩:=a8 s;obtain⟨t,rfl⟩:=a8 t;obtain⟨q,rfl⟩:=a8 q;(with_reducible refine ImpB.out ?_);cbv;(with_reducible refine ImpB.mk ?_);intro hq;obtain⟨hq⟩:=hq)|((with_reducible intro _);cbv)|(with_reducible refine And.intro ?_ ?_)
 all_goals try((first|(with_reducible refine LoopIn.wf (fun σ => (σ.rowL .evt 15,a2U σ 5,σ.tmI 12,σ.tmI 10,σ.tmI 11,asI (σ.ce 0 1))) ?_ ?_)|(with_reducible refine LoopBack.wf (fun σ => (σ.rowL .evt 15,a2U σ 5,σ.tmI 12,σ.tmI 10,σ.tmI 11,asI (σ.ce 0 1))) ?_ ?_ ?_))<;>cbv)
 all_goals try(with_reducible show _∧_;(try simp only[and_true,true_and]))
 all_goals try(repeat' with_reducible refine And.intro ?_ ?_)
 all_goals try(with_reducible refine MeasB.mk ?_)
 all_goals first|(refine retK (h _ _ _ _ _ _ _ _ _ _ _ ?_) rfl;clear h)|(with_reducible refine Ob.mk ?_;clear h)|(clear h)
 all_goals(try simp only[eta0,RT.bytes]at *)
 all_goals(try dsimp only[RT.ty]at *)
 all_goals(try simp only[M1]at *)
 all_goals(try have hw1:IntKind.i64.wrap (i+1)=i+1:=b8 (by omega) (by omega))
 all_goals(try have hw2:IntKind.i64.wrap (s-1)=s-1:=b8 (by omega) (by omega))
 all_goals(try have hff:=hf w hq.2.2.2.2.2.2.2)
 all_goals(try simp only[hw1])
 all_goals(try simp only[hw2])
 all_goals(first|rfl|omega|exact⟨trivial,by omega,by omega⟩|(refine⟨by omega,by(first|omega|exact .inr trivial),by(first|omega|rfl),by omega,by omega,by omega,by omega,?_⟩;first|exact hz|exact hs w _ hq.2.2.2.2.2.2.2)|exact⟨by omega,by omega,by omega,hq.2.2.2.2.2.2.2⟩)
end Go.Proofs.YtiioognflecdgaaGreat
