/-
  Contracts: what is drawn: holds.
-/
import Derived.Test.YtihaeoicjglieaaGreatMx
import Derived.Test.YtihaeoicjglieaaGreatFoF
import Derived.Test.YtihaeoicjglieaaGreatGrT
import Derived.Test.YtihaeoicjglieaaGreatFnX
set_option linter.unusedVariables false
set_option linter.unusedSimpArgs false
set_option maxRecDepth 100000
set_option maxHeartbeats 8000000
namespace Go.Mo
open Go.Sx
theorem c1O {m:PMap} {s:Sto} {a:Int}:small (J3 m s a).h.state.wlks (J3 m s a).h.state.outs:=by
 unfold J3
 split
 ·rename_i h1
  split
  ·exact a5d (Nat.zero_le _)
  ·exact b7T (a1C h1.1)
 ·exact a5d (Nat.zero_le _)
theorem d0f {m:PMap} {s:Sto} {a:Int}:(J3 m s a).s.recs.length≤s.recs.length:=by
 unfold J3
 split
 ·split
  ·exact Nat.le_refl _
  ·exact Nat.le_refl _
 ·exact Nat.zero_le _
theorem b1s {m:PMap} {s:Sto} {a:Int}:0≤(J3 m s a).h.count∧(J3 m s a).h.count≤250:=by
 unfold J3
 split
 ·rename_i h1
  have:=(y7.1 h1.1).2.2.1
  split
  ·show(0:Int)≤0∧(0:Int)≤250
   decide
  ·simp
   omega
 ·show(0:Int)≤0∧(0:Int)≤250
  decide
end Go.Mo
namespace Go.Proofs.YtihaeoicjglieaaGreat
open Go.Sx Go.Proofs Go.Mo
def rH (g h a:Int) (b:List Wlk) (c:Int) (d:List (List Pcl)) (e f:List Int):V := .agg [cI g,cI h,cI a,.att (.list .wlk fun _=>b),cI c,.att (.list .pcls fun _=>d),.att (.list .int fun _=>e),.att (.list .int fun _=>f)]
noncomputable def d5z:Sx.Spec:=⟨true,false,[],[[none,none],nSto,nHld],fun _ p _ => .asrt (fun _=>0≤p ()∧p ()≤999999970000) (.all Int fun x => .all Int fun y => .all Int fun g => .all Int fun a => .all (List Wlk) fun b => .all Int fun c => .all (List (List Pcl)) fun d => .all (List Int) fun e => .all (List Int) fun f => .all (List Sx.Rec) fun l => .all Int fun g1 => .all Int fun g2 => .all Int fun a1 => .all (List Wlk) fun b1 => .all Int fun c1 => .all (List (List Pcl)) fun d1 => .all (List Int) fun e1 => .all (List Int) fun f1 => .all Int fun q => .asm (fun _=>p ()≤q∧q≤p ()+6000∧small b1 d1∧0≤g2∧g2≤250) (.ret (.tup [.agg [cI x,cI y],rS g a b c d e f l,rH g1 g2 a1 b1 c1 d1 e1 f1],fun _=>q)))⟩
noncomputable def b8r:Sx.Spec:=⟨true,false,[.int .i64],[[none,none],nSto,nHld],fun _ p ⟨n,_⟩ => .asrt (fun _=>0≤p ()∧p ()≤999999960000) (.all Int fun x => .all Int fun y => .all Int fun g => .all Int fun a => .all (List Wlk) fun b => .all Int fun c => .all (List (List Pcl)) fun d => .all (List Int) fun e => .all (List Int) fun f => .all (List Sx.Rec) fun l => .all Int fun g1 => .all Int fun g2 => .all Int fun a1 => .all (List Wlk) fun b1 => .all Int fun c1 => .all (List (List Pcl)) fun d1 => .all (List Int) fun e1 => .all (List Int) fun f1 => .all Int fun q => .asm (fun _=>p ()≤q∧q≤p ()+7000) (.ret (.tup [.agg [cI x,cI y],rS g a b c d e f l,rH g1 g2 a1 b1 c1 d1 e1 f1],fun _=>q)))⟩
theorem d6x:b8 Tryz.prog 258 d5z:=j4 e9 (ss := [(279,c9E),(262,b0V),(46,J4),(280,b5M)]) ⟨d4a,b1A,D2,b9i,trivial⟩ rfl rfl<|by
 intro(bs:Th (List Int)) (p:Th Int) u K hb hp0 ho h
 obtain⟨bs,rfl⟩:=b6 bs;obtain⟨p,rfl⟩:=b6 p
 obtain⟨hpre,h⟩:=h
 have hpre:0≤p∧p≤999999970000:=hpre.out
 refine⟨noAnn,noAnn,20,?_⟩
 cbv
 repeat' first|((with_reducible intro _);cbv)|(with_reducible refine And.intro ?_ ?_)
 all_goals first|(refine retK (h _ _ _ _ _ _ _ _ _ _ _ _ _ _ _ _ _ _ _ ?_) rfl;clear h)|(with_reducible refine Ob.mk ?_;clear h)|(clear h)
 all_goals(try simp only[eta0,RT.bytes]at *)
 all_goals first|omega|exact⟨by omega,by omega,c1O,b1s.1,b1s.2⟩|grind[e8,d0f]
theorem c7q:b8 Tryz.prog 233 b8r:=j4 e9 (ss := [(258,d5z),(46,J4),(259,b8q),(190,sMap)]) ⟨d6x,D2,c7p,d5E,trivial⟩ rfl rfl<|by
 intro(bs:Th (List Int)) (p:Th Int) ⟨(n:Th Int),u⟩ K hb hp0 ho h
 obtain⟨n,rfl⟩:=b6 n;obtain⟨bs,rfl⟩:=b6 bs;obtain⟨p,rfl⟩:=b6 p
 obtain⟨hpre,h⟩:=h
 have hpre:0≤p∧p≤999999960000:=hpre.out
 refine⟨noAnn,noAnn,20,?_⟩
 cbv
 repeat' first|((with_reducible intro _);cbv)|(with_reducible refine And.intro ?_ ?_)
 all_goals first|(refine retK (h _ _ _ _ _ _ _ _ _ _ _ _ _ _ _ _ _ _ _ ?_) rfl;clear h)|(with_reducible refine Ob.mk ?_;clear h)|(clear h)
 all_goals(try simp only[eta0,RT.bytes]at *)
 all_goals first|omega|grind[e8]
noncomputable def d7l:List (Option RT) := [none,some .hld,some .gst]
noncomputable def rSrv (u:Bool) (h:List Hld) (g:List Gst):V := .agg [.att (.bool (.of fun _=>u)),.att (.list .hld fun _=>h),.att (.list .gst fun _=>g)]
noncomputable def b8c:Sx.Spec:=⟨true,false,[.int .i64],[nWld,d7l],fun _ p ⟨n,_⟩ => .asrt (fun _=>0≤p ()∧p ()≤960000000000) (.all Int fun a => .all Int fun b => .all (List Srv) fun c => .all (List Sto) fun d => .all (List Int) fun e => .all (List Int) fun f => .all (List Row) fun g => .all (List Msg) fun h => .all (List Note) fun i => .all Bool fun u => .all (List Hld) fun hs => .all (List Gst) fun gs => .all Int fun q => .asm (fun _=>p ()≤q∧q≤p ()+310000∧j8 ⟨⟨a,b⟩,c,d,⟨e,f⟩,g,h,i⟩=true) (.ret (.tup [rWld a b c d e f g h i,rSrv u hs gs],fun _=>q)))⟩
theorem c6k {w:Wld} (h:j8 w=true) {i:Nat} (hi:i<w.servers.length):(nth .srv w.servers i).holds.length≤4∧(nth .srv w.servers i).n9.length≤20:=by
 have hs:=((n0.1 h).2.2.2.2.2.2.1 _ (s4 .srv hi)).1
 exact⟨a6N hs,(a1O.1 (C3.1 hs).1).2.1⟩
theorem c6S:b8 Tryz.prog 191 b8c:=j4 e9 (ss := [(140,b5K),(46,J4),(154,a5g),(233,b8r),(234,b0i)]) ⟨b6r,D2,a8P,c7q,b1G,trivial⟩ rfl rfl<|by
 intro(bs:Th (List Int)) (p:Th Int) ⟨(n:Th Int),u⟩ K hb hp0 ho h
 obtain⟨n,rfl⟩:=b6 n;obtain⟨bs,rfl⟩:=b6 bs;obtain⟨p,rfl⟩:=b6 p
 obtain⟨hpre,h⟩:=h
 have hpre:0≤p∧p≤960000000000:=hpre.out
 have hk : ∀(a b:Int) (c:List Srv) (d:List Sto) (e f:List Int) (g:List Row) (h:List Msg) (i:List Note),j8 ⟨⟨a,b⟩,c,d,⟨e,f⟩,g,h,i⟩=true→1≤c.length∧c.length≤3:=fun a b c d e f g h i w=>(a6n w).2.2
 have hk2 : ∀(a b:Int) (c:List Srv) (d:List Sto) (e f:List Int) (g:List Row) (h:List Msg) (i:List Note),j8 ⟨⟨a,b⟩,c,d,⟨e,f⟩,g,h,i⟩=true → ∀j:Int,0≤j→j<c.length→(nth .srv c j.toNat).holds.length≤4∧(nth .srv c j.toNat).n9.length≤20:=fun a b c d e f g h i w j h0 h1=>c6k w (show j.toNat<c.length by omega)
 refine⟨noAnn,annL [(191,8,⟨Th Int×Th Int,[⟨.cell 8 1,some 1000000000012545,.hld⟩],fun σ g=>((σ.h 12545 (1,.row false 0 .hld (σ.rowL .hld 12545))).t 30 (.one (.att (.int .i64 g.1)))).u7 0 1 (.att (.int .i64 g.2)),fun _ g _=>Ob fun _=>p≤g.2 ()∧g.2 ()≤p+200010,fun _ _ _=>0⟩)],20,?_⟩
 cbv
 repeat' first|((with_reducible refine fun(g:Th Int×Th Int) => ?_);obtain⟨k,q⟩:=g;obtain⟨k,rfl⟩:=b6 k;obtain⟨q,rfl⟩:=b6 q;(with_reducible refine ImpB.out ?_);cbv;(with_reducible refine ImpB.mk ?_);intro hq;obtain⟨hq⟩:=hq)|((with_reducible intro _);cbv)|(with_reducible refine And.intro ?_ ?_)
 all_goals try((first|(with_reducible refine LoopIn.wf (fun σ => (σ.tmI 30,asI (σ.ce 0 1))) ?_ ?_)|(with_reducible refine LoopBack.wf (fun σ => (σ.tmI 30,asI (σ.ce 0 1))) ?_ ?_ ?_))<;>cbv)
 all_goals try(with_reducible show _∧_;(try simp only[and_true,true_and]))
 all_goals try(repeat' with_reducible refine And.intro ?_ ?_)
 all_goals try(with_reducible refine MeasB.mk ?_)
 all_goals first|(refine retK (h _ _ _ _ _ _ _ _ _ _ _ _ _ ?_) rfl;clear h)|(with_reducible refine Ob.mk ?_;clear h)|(clear h)
 all_goals(try simp only[eta0,RT.bytes]at *)
 all_goals(try dsimp only[RT.ty]at *)
 all_goals(try simp only[S6]at *)
 all_goals(first|rfl|omega|grind[e8])
end Go.Proofs.YtihaeoicjglieaaGreat
