/-
  Contracts: what is drawn: holds.
-/
import Derived.Test.YtiioognflecdgaaGreatFx
import Derived.Test.YtiioognflecdgaaGreatMx
import Derived.Test.YtiioognflecdgaaGreatFoF
import Derived.Test.YtiioognflecdgaaGreatGnE
import Derived.Test.YtiioognflecdgaaGreatGnZ
set_option linter.unusedVariables false
set_option linter.unusedSimpArgs false
set_option maxRecDepth 100000
set_option maxHeartbeats 8000000
namespace Go.Mo
open Go.Sx
theorem b9b {m:PMap} {s:Sto} {a:Int}:small (G9 m s a).h.state.wlks (G9 m s a).h.state.outs:=by
 unfold G9
 split
 ·rename_i h1
  split
  ·exact a3Z (Nat.zero_le _)
  ·exact b5N (a1M h1.1)
 ·exact a3Z (Nat.zero_le _)
theorem c6E {m:PMap} {s:Sto} {a:Int}:(G9 m s a).s.recs.length≤s.recs.length:=by
 unfold G9
 split
 ·split
  ·exact Nat.le_refl _
  ·exact Nat.le_refl _
 ·exact Nat.zero_le _
theorem a9U {m:PMap} {s:Sto} {a:Int}:0≤(G9 m s a).h.count∧(G9 m s a).h.count≤250:=by
 unfold G9
 split
 ·rename_i h1
  have:=(v8.1 h1.1).2.2.1
  split
  ·show(0:Int)≤0∧(0:Int)≤250
   decide
  ·simp
   omega
 ·show(0:Int)≤0∧(0:Int)≤250
  decide
end Go.Mo
namespace Go.Proofs.YtiioognflecdgaaGreat
open Go.Sx Go.Proofs Go.Mo
def rH (g h a:Int) (b:List Wlk) (c:Int) (d:List (List Pcl)) (e f:List Int):V := .agg [cI g,cI h,cI a,.att (.list .wlk fun _=>b),cI c,.att (.list .pcls fun _=>d),.att (.list .int fun _=>e),.att (.list .int fun _=>f)]
noncomputable def d1F:Sx.Spec:=⟨true,false,[],[[none,none],nSto,nHld],fun _ p _ => .asrt (fun _=>0≤p ()∧p ()≤999999970000) (.all Int fun x => .all Int fun y => .all Int fun g => .all Int fun a => .all (List Wlk) fun b => .all Int fun c => .all (List (List Pcl)) fun d => .all (List Int) fun e => .all (List Int) fun f => .all (List Sx.Rec) fun l => .all Int fun g1 => .all Int fun g2 => .all Int fun a1 => .all (List Wlk) fun b1 => .all Int fun c1 => .all (List (List Pcl)) fun d1 => .all (List Int) fun e1 => .all (List Int) fun f1 => .all Int fun q => .asm (fun _=>p ()≤q∧q≤p ()+6000∧small b1 d1∧0≤g2∧g2≤250) (.ret (.tup [.agg [cI x,cI y],rS g a b c d e f l,rH g1 g2 a1 b1 c1 d1 e1 f1],fun _=>q)))⟩
noncomputable def b6i:Sx.Spec:=⟨true,false,[.int .i64],[[none,none],nSto,nHld],fun _ p ⟨n,_⟩ => .asrt (fun _=>0≤p ()∧p ()≤999999960000) (.all Int fun x => .all Int fun y => .all Int fun g => .all Int fun a => .all (List Wlk) fun b => .all Int fun c => .all (List (List Pcl)) fun d => .all (List Int) fun e => .all (List Int) fun f => .all (List Sx.Rec) fun l => .all Int fun g1 => .all Int fun g2 => .all Int fun a1 => .all (List Wlk) fun b1 => .all Int fun c1 => .all (List (List Pcl)) fun d1 => .all (List Int) fun e1 => .all (List Int) fun f1 => .all Int fun q => .asm (fun _=>p ()≤q∧q≤p ()+7000) (.ret (.tup [.agg [cI x,cI y],rS g a b c d e f l,rH g1 g2 a1 b1 c1 d1 e1 f1],fun _=>q)))⟩
theorem d2H:b6 Tryz.prog 203 d1F:=j3 b9 (ss := [(232,c6h),(233,a9q),(21,G0),(234,b3P)]) ⟨d0n,b0b,C1,b6Q,trivial⟩ rfl rfl<|by
 intro(bs:Th (List Int)) (p:Th Int) u K hb hp0 ho h
 obtain⟨bs,rfl⟩:=a8 bs;obtain⟨p,rfl⟩:=a8 p
 obtain⟨hpre,h⟩:=h
 have hpre:0≤p∧p≤999999970000:=hpre.out
 refine⟨noAnn,noAnn,20,?_⟩
 cbv
 repeat' first|((with_reducible intro _);cbv)|(with_reducible refine And.intro ?_ ?_)
 all_goals first|(refine retK (h _ _ _ _ _ _ _ _ _ _ _ _ _ _ _ _ _ _ _ ?_) rfl;clear h)|(with_reducible refine Ob.mk ?_;clear h)|(clear h)
 all_goals(try simp only[eta0,RT.bytes]at *)
 all_goals first|omega|exact⟨by omega,by omega,b9b,a9U.1,a9U.2⟩|grind[b8,c6E]
theorem c4j:b6 Tryz.prog 173 b6i:=j3 b9 (ss := [(203,d1F),(21,G0),(204,b6h),(127,sMap)]) ⟨d2H,C1,c4i,d1K,trivial⟩ rfl rfl<|by
 intro(bs:Th (List Int)) (p:Th Int) ⟨(n:Th Int),u⟩ K hb hp0 ho h
 obtain⟨n,rfl⟩:=a8 n;obtain⟨bs,rfl⟩:=a8 bs;obtain⟨p,rfl⟩:=a8 p
 obtain⟨hpre,h⟩:=h
 have hpre:0≤p∧p≤999999960000:=hpre.out
 refine⟨noAnn,noAnn,20,?_⟩
 cbv
 repeat' first|((with_reducible intro _);cbv)|(with_reducible refine And.intro ?_ ?_)
 all_goals first|(refine retK (h _ _ _ _ _ _ _ _ _ _ _ _ _ _ _ _ _ _ _ ?_) rfl;clear h)|(with_reducible refine Ob.mk ?_;clear h)|(clear h)
 all_goals(try simp only[eta0,RT.bytes]at *)
 all_goals first|omega|grind[b8]
noncomputable def d3z:List (Option RT) := [none,some .hld,some .gst]
noncomputable def rSrv (u:Bool) (h:List Hld) (g:List Gst):V := .agg [.att (.bool (.of fun _=>u)),.att (.list .hld fun _=>h),.att (.list .gst fun _=>g)]
noncomputable def b5V:Sx.Spec:=⟨true,false,[.int .i64],[nWld,d3z],fun _ p ⟨n,_⟩ => .asrt (fun _=>0≤p ()∧p ()≤960000000000) (.all Int fun a => .all Int fun b => .all (List Srv) fun c => .all (List Sto) fun d => .all (List Int) fun e => .all (List Int) fun f => .all (List Row) fun g => .all (List Msg) fun h => .all (List Note) fun i => .all Bool fun u => .all (List Hld) fun hs => .all (List Gst) fun gs => .all Int fun q => .asm (fun _=>p ()≤q∧q≤p ()+310000∧j6 ⟨⟨a,b⟩,c,d,⟨e,f⟩,g,h,i⟩=true) (.ret (.tup [rWld a b c d e f g h i,rSrv u hs gs],fun _=>q)))⟩
theorem c3d {w:Wld} (h:j6 w=true) {i:Nat} (hi:i<w.servers.length):(nth .srv w.servers i).holds.length≤4∧(nth .srv w.servers i).n6.length≤20:=by
 have hs:=((m7.1 h).2.2.2.2.2.2.1 _ (s7 .srv hi)).1
 exact⟨a5x hs,(a0T.1 (y9.1 hs).1).2.1⟩
theorem c3K:b6 Tryz.prog 128 b5V:=j3 b9 (ss := [(89,b3M),(21,G0),(95,a4b),(173,b6i),(174,a8F)]) ⟨b4o,C1,a7r,c4j,b0h,trivial⟩ rfl rfl<|by
 intro(bs:Th (List Int)) (p:Th Int) ⟨(n:Th Int),u⟩ K hb hp0 ho h
 obtain⟨n,rfl⟩:=a8 n;obtain⟨bs,rfl⟩:=a8 bs;obtain⟨p,rfl⟩:=a8 p
 obtain⟨hpre,h⟩:=h
 have hpre:0≤p∧p≤960000000000:=hpre.out
 have hk : ∀(a b:Int) (c:List Srv) (d:List Sto) (e f:List Int) (g:List Row) (h:List Msg) (i:List Note),j6 ⟨⟨a,b⟩,c,d,⟨e,f⟩,g,h,i⟩=true→1≤c.length∧c.length≤3:=fun a b c d e f g h i w=>(a1C w).2.2
 have hk2 : ∀(a b:Int) (c:List Srv) (d:List Sto) (e f:List Int) (g:List Row) (h:List Msg) (i:List Note),j6 ⟨⟨a,b⟩,c,d,⟨e,f⟩,g,h,i⟩=true → ∀j:Int,0≤j→j<c.length→(nth .srv c j.toNat).holds.length≤4∧(nth .srv c j.toNat).n6.length≤20:=fun a b c d e f g h i w j h0 h1=>c3d w (show j.toNat<c.length by omega)
 refine⟨noAnn,annL [(128,8,⟨Th Int×Th Int,[⟨.cell 8 1,some 1000000000012545,.hld⟩],fun σ g=>((σ.h 12545 (1,.row false 0 .hld (σ.rowL .hld 12545))).t 30 (.one (.att (.int .i64 g.1)))).v5 0 1 (.att (.int .i64 g.2)),fun _ g _=>Ob fun _=>p≤g.2 ()∧g.2 ()≤p+200010,fun _ _ _=>0⟩)],20,?_⟩
 cbv
 repeat' first|((with_reducible refine fun(g:Th Int×Th Int) => ?_);obtain⟨k,q⟩:=g;obtain⟨k,rfl⟩:=a8 k;obtain⟨q,rfl⟩:=a8 q;(with_reducible refine ImpB.out ?_);cbv;(with_reducible refine ImpB.mk ?_);intro hq;obtain⟨hq⟩:=hq)|((with_reducible intro _);cbv)|(with_reducible refine And.intro ?_ ?_)
 all_goals try((first|(with_reducible refine LoopIn.wf (fun σ => (σ.tmI 30,asI (σ.ce 0 1))) ?_ ?_)|(with_reducible refine LoopBack.wf (fun σ => (σ.tmI 30,asI (σ.ce 0 1))) ?_ ?_ ?_))<;>cbv)
 all_goals try(with_reducible show _∧_;(try simp only[and_true,true_and]))
 all_goals try(repeat' with_reducible refine And.intro ?_ ?_)
 all_goals try(with_reducible refine MeasB.mk ?_)
 all_goals first|(refine retK (h _ _ _ _ _ _ _ _ _ _ _ _ _ ?_) rfl;clear h)|(with_reducible refine Ob.mk ?_;clear h)|(clear h)
 all_goals(try simp only[eta0,RT.bytes]at *)
 all_goals(try dsimp only[RT.ty]at *)
 all_goals(try simp only[M1]at *)
 all_goals(first|rfl|omega|grind[b8])
end Go.Proofs.YtiioognflecdgaaGreat
