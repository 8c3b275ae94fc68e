/-
  Contracts: the one world: is it ok, copies, who is where, j9.
-/
import Derived.Test.YtihaeoicjglieaaGreatMy
import Derived.Test.YtihaeoicjglieaaGreatGnR
import Derived.Test.YtihaeoicjglieaaGreatM4
import Derived.Test.YtihaeoicjglieaaGreatM3
import Derived.Test.YtihaeoicjglieaaGreatM8
import Derived.Test.YtihaeoicjglieaaGreatGnX
import Derived.Test.YtihaeoicjglieaaGreatM7
import Derived.Test.YtihaeoicjglieaaGreatGsS
import Derived.Test.YtihaeoicjglieaaGreatGnW
import Derived.Test.YtihaeoicjglieaaGreatGnT
set_option linter.unusedVariables false
set_option linter.unusedSimpArgs false
set_option maxRecDepth 100000
set_option maxHeartbeats 8000000
namespace Go.Proofs.YtihaeoicjglieaaGreat
open Go.Sx Go.Proofs Go.Mo
def nOne:List (Option RT) := [none,none,some .ow,some .int,some .ints]
noncomputable def b8f:Sx.Spec:=⟨false,true,[.one],[[some .wlk]],fun _ _ ⟨o,_⟩ => .ret (vW .wlk fun _=>ows (o ()).wlks,fun _=>0)⟩
noncomputable def b0U:Sx.Spec:=⟨false,true,[.one],[],fun _ _ ⟨o,_⟩ => .ret (vB fun _=>I3 (o ()),fun _=>0)⟩
noncomputable def c3K:Sx.Spec:=⟨false,true,[.one],[],fun _ _ ⟨o,_⟩ => .asrt (fun _=>s0 (o ()).map=true) (.ret (vB fun _=>a2k (o ())&&a4t (o ()),fun _=>0))⟩
noncomputable def a5f:Sx.Spec:=⟨false,true,[.one],[],fun _ _ ⟨o,_⟩ => .ret (vI fun _=>I9 (o ()),fun _=>0)⟩
theorem c7d:b8 Tryz.prog 56 b8f:=j4 e9 (ss := []) trivial rfl rfl<|by
 intro(bs:Th (List Int)) (p:Th Int) ⟨(o:Th One),u⟩ K _ _ ho h
 obtain⟨o,rfl⟩:=b6 o
 have hl:=okB (ho.1 _ (.tail _ (.tail _ (.head _))))
 have hz:=c6D o.wlks
 refine⟨annL [(56,3,⟨Nat,[⟨.tmp 3 0,some 18,.wlk⟩],fun σ k=>((σ.t 9 (vI fun _=>(k:Int))).t 3 (vO 18 1)).row 18 1 .wlk (fun _=>a5O o.wlks k),fun _ k _=>k≤o.wlks.length,fun _ k _=>o.wlks.length-k⟩)],noAnn,20,?_⟩
 cbv
 repeat' first|((with_reducible refine fun(k:Nat) => ?_);cbv)|((with_reducible intro _);cbv)|(with_reducible refine And.intro ?_ ?_)
 all_goals try((first|(with_reducible refine LoopIn.mk ((0:Nat)) ?_ ?_)|(with_reducible refine LoopBack.mk ((k+1:Nat)) ?_ ?_ ?_)) )
 all_goals try((with_reducible show m0 _ _);cbv;(try simp only[and_true,true_and]))
 all_goals try(repeat' with_reducible refine And.intro ?_ ?_)
 all_goals first|(refine retK h ?_;clear h;simp only[fin0])|(with_reducible refine Ob.mk ?_;clear h)|(clear h)
 all_goals(try simp only[eta0,RT.bytes]at *)
 all_goals grind[c1M,c1N,c6E,j3]
theorem c4z:b8 Tryz.prog 17 b0U:=j4 e9 (ss := [(54,z7),(56,b8f),(55,a4m),(57,sIn)]) ⟨K9,c7d,a9G,okIn,trivial⟩ rfl rfl<|by
 intro(bs:Th (List Int)) (p:Th Int) ⟨(o:Th One),u⟩ K _ _ ho h
 obtain⟨o,rfl⟩:=b6 o
 have hi := @O9 o
 have hk := @U0 o
 have hw:=c4o o.map o.wlks
 have hp := @o8 o.map
 refine⟨annL [(17,4,⟨Nat,[],fun σ k => σ.t 39 (vI fun _=>(k:Int)),fun _ k _=>k≤o.ground.length∧a2k o=true∧m8 o.wlks.length (owAt o.map o.wlks)=true∧m8 k (Y6 o)=true,fun _ k _=>o.ground.length-k⟩)],noAnn,20,?_⟩
 cbv
 repeat' first|((with_reducible refine fun(k:Nat) => ?_);cbv)|((with_reducible intro _);cbv)|(with_reducible refine And.intro ?_ ?_)
 all_goals try((first|(with_reducible refine LoopIn.mk ((0:Nat)) ?_ ?_)|(with_reducible refine LoopBack.mk ((k+1:Nat)) ?_ ?_ ?_)) )
 all_goals try((with_reducible show m0 _ _);cbv;(try simp only[and_true,true_and]))
 all_goals try(repeat' with_reducible refine And.intro ?_ ?_)
 all_goals first|(refine retK h ?_;clear h;simp only[fin0])|(with_reducible refine Ob.mk ?_;clear h)|(clear h)
 all_goals(try simp only[eta0,RT.bytes]at *)
 all_goals grind(splits:=30) [j3,b4h,b4i,Y6,n7,n4,inR]
theorem ncastP (n:Nat):(NatCast.natCast n:Int)=(n:Int):=rfl
theorem purse_no1 {o:One} {k:Nat} (h:k<o.ground.length) (hw:inR (nth .int o.ground k) 0 900=false):a4t o=false:=b4h h (by
 simp only[inR,decide_eq_false_iff_not]at hw
 simp only[Y6,decide_eq_false_iff_not]
 exact fun q=>hw ⟨q.1,q.2.1⟩)
theorem purse_no2 {o:One} {k:Nat} (h:k<o.ground.length) (hw : ¬((nth .ints o.air k).length:Int)=2):a4t o=false:=b4h h (by
 simp only[Y6,decide_eq_false_iff_not]
 exact fun q=>hw (by rw[q.2.2.1];rfl))
theorem purse_no3 {o:One} {k:Nat} (h:k<o.ground.length) (hw:inR (nth .int (nth .ints o.air k) 0) 0 100000=false):a4t o=false:=b4h h (by
 simp only[inR,decide_eq_false_iff_not]at hw
 simp only[Y6,decide_eq_false_iff_not]
 exact fun q=>hw ⟨q.2.2.2.1,q.2.2.2.2.1⟩)
theorem purse_no4 {o:One} {k:Nat} (h:k<o.ground.length) (hw:inR (nth .int (nth .ints o.air k) 1) 0 100000=false):a4t o=false:=b4h h (by
 simp only[inR,decide_eq_false_iff_not]at hw
 simp only[Y6,decide_eq_false_iff_not]
 exact fun q=>hw ⟨q.2.2.2.2.2.1,q.2.2.2.2.2.2⟩)
theorem c6W:b8 Tryz.prog 138 c3K:=j4 e9 (ss := [(148,sIn)]) ⟨I5,trivial⟩ rfl rfl<|by
 intro(bs:Th (List Int)) (p:Th Int) ⟨(o:Th One),u⟩ K _ _ ho h
 obtain⟨o,rfl⟩:=b6 o
 obtain⟨ha,h⟩:=h
 have ha:=ha.out
 have hi := @O9 o
 have hp:=o8.1 ha
 refine⟨annL [(138,4,⟨Nat,[],fun σ k => σ.t 3 (vI fun _=>(k:Int)),fun _ k _=>k≤o.ground.length∧a2k o=true∧m8 k (Y6 o)=true,fun _ k _=>o.ground.length-k⟩)],noAnn,20,?_⟩
 cbv
 repeat' first|((with_reducible refine fun(k:Nat) => ?_);cbv)|((with_reducible intro _);cbv)|(with_reducible refine And.intro ?_ ?_)
 all_goals try((first|(with_reducible refine LoopIn.mk ((0:Nat)) ?_ ?_)|(with_reducible refine LoopBack.mk ((k+1:Nat)) ?_ ?_ ?_)) )
 all_goals try((with_reducible show m0 _ _);cbv;(try simp only[and_true,true_and]))
 all_goals try(repeat' with_reducible refine And.intro ?_ ?_)
 all_goals first|(refine retK h ?_;clear h;simp only[fin0])|(with_reducible refine Ob.mk ?_;clear h)|(clear h)
 all_goals(try simp only[eta0,RT.bytes]at *)
 all_goals(try dsimp only[RT.ty]at *)
 all_goals(try simp only[ncastP]at *)
 all_goals(first|(rw[purse_no1 (k:=k) (by omega) (by assumption),Bool.and_false])|(rw[purse_no2 (k:=k) (by omega) (by assumption),Bool.and_false])|(rw[purse_no3 (k:=k) (by omega) (by assumption),Bool.and_false])|(rw[purse_no4 (k:=k) (by omega) (by assumption),Bool.and_false])|skip)
 all_goals grind(splits:=30) [j3,b4h,b4i,Y6,n7,n4,inR]
theorem d0y:b8 Tryz.prog 80 b0U:=j4 e9 (ss := [(85,z7),(138,c3K),(139,a3x)]) ⟨C7,c6W,a7w,trivial⟩ rfl rfl<|by
 intro(bs:Th (List Int)) (p:Th Int) ⟨(o:Th One),u⟩ K _ _ ho h
 obtain⟨o,rfl⟩:=b6 o
 have hl:=okL (ho.1 _ (.tail _ (.tail _ (.head _))))
 have hi := @O9 o
 have hk := @U0 o
 refine⟨annL [(80,4,⟨Nat,[],fun σ k => σ.t 3 (vI fun _=>(k:Int)),fun _ k _=>k≤o.wlks.length∧a2k o=true∧a4t o=true∧m8 k (owAt o.map o.wlks)=true,fun _ k _=>o.wlks.length-k⟩)],noAnn,20,?_⟩
 cbv
 repeat' first|((with_reducible refine fun(k:Nat) => ?_);cbv)|((with_reducible intro _);cbv)|(with_reducible refine And.intro ?_ ?_)
 all_goals try((first|(with_reducible refine LoopIn.mk ((0:Nat)) ?_ ?_)|(with_reducible refine LoopBack.mk ((k+1:Nat)) ?_ ?_ ?_)) )
 all_goals try((with_reducible show m0 _ _);cbv;(try simp only[and_true,true_and]))
 all_goals try(repeat' with_reducible refine And.intro ?_ ?_)
 all_goals first|(refine retK h ?_;clear h;simp only[fin0])|(with_reducible refine Ob.mk ?_;clear h)|(clear h)
 all_goals(try simp only[eta0,RT.bytes]at *)
 all_goals grind(splits:=30) [j3,e8,a0g,d3S,d3R,owAt,a1w,n7,n4]
noncomputable def d5w:Sx.Spec:=⟨false,true,[.list .ow,.row .ow],[[some .ow]],fun _ _ ⟨l,w,_⟩ => .asrt (fun _=>(l ()).length≤100000) (.ret (vW .ow fun _=>putO (l ()) (w ()),fun _=>0))⟩
theorem d6u:b8 Tryz.prog 59 d5w:=j4 e9 (ss := []) trivial rfl rfl<|by
 intro(bs:Th (List Int)) (p:Th Int) ⟨(l:Th (List OW)),(w:Th OW),u⟩ K _ _ ho h
 obtain⟨l,rfl⟩:=b6 l;obtain⟨w,rfl⟩:=b6 w
 obtain⟨hpre,h⟩:=h
 have hl:l.length≤100000:=hpre.out
 have hz := @c1F l w
 refine⟨annL [(59,4,⟨Nat,[⟨.tmp 5 0,some 9,.ow⟩],fun σ k=>((((σ.fg 9).t 7 (vI fun _=>(k:Int))).t 5 (vO 9 1)).t 6 (vB fun _=>z8 l w k)).row 9 1 .ow (fun _=>N9 l w k),fun _ k _=>k≤l.length,fun _ k _=>l.length-k⟩)],noAnn,20,?_⟩
 cbv
 repeat' first|((with_reducible refine fun(k:Nat) => ?_);cbv)|((with_reducible intro _);cbv)|(with_reducible refine And.intro ?_ ?_)
 all_goals try((first|(with_reducible refine LoopIn.mk ((0:Nat)) ?_ ?_)|(with_reducible refine LoopBack.mk ((k+1:Nat)) ?_ ?_ ?_)) )
 all_goals try((with_reducible show m0 _ _);cbv;(try simp only[and_true,true_and]))
 all_goals try(repeat' with_reducible refine And.intro ?_ ?_)
 all_goals first|(refine retK h ?_;clear h;simp only[fin0])|(with_reducible refine Ob.mk ?_;clear h)|(clear h)
 all_goals(try simp only[eta0,RT.bytes]at *)
 all_goals grind[b8D,b3n,b1e,b1d,b1c,b1i,b1h,b1g,b8G,b8F,b8E,j3]
noncomputable def sIds:Sx.Spec:=⟨false,true,[.one],[[some .int]],fun _ _ ⟨o,_⟩ => .ret (vW .int fun _=>(o ()).wlks.map oid,fun _=>0)⟩
theorem d4h:b8 Tryz.prog 14 sIds:=j4 e9 (ss := []) trivial rfl rfl<|by
 intro(bs:Th (List Int)) (p:Th Int) ⟨(o:Th One),u⟩ K _ _ ho h
 obtain⟨o,rfl⟩:=b6 o
 have hl:=okB (ho.1 _ (.tail _ (.tail _ (.head _))))
 have hz:=c7K o.wlks
 refine⟨annL [(14,3,⟨Nat,[⟨.tmp 3 0,some 6,.int⟩],fun σ k=>(((σ.fg 6).t 4 (vI fun _=>(k:Int))).t 3 (vO 6 1)).row 6 1 .int (fun _=>a7Q o.wlks k),fun _ k _=>k≤o.wlks.length,fun _ k _=>o.wlks.length-k⟩)],noAnn,20,?_⟩
 cbv
 repeat' first|((with_reducible refine fun(k:Nat) => ?_);cbv)|((with_reducible intro _);cbv)|(with_reducible refine And.intro ?_ ?_)
 all_goals try((first|(with_reducible refine LoopIn.mk ((0:Nat)) ?_ ?_)|(with_reducible refine LoopBack.mk ((k+1:Nat)) ?_ ?_ ?_)) )
 all_goals try((with_reducible show m0 _ _);cbv;(try simp only[and_true,true_and]))
 all_goals try(repeat' with_reducible refine And.intro ?_ ?_)
 all_goals first|(refine retK h ?_;clear h;simp only[fin0])|(with_reducible refine Ob.mk ?_;clear h)|(clear h)
 all_goals(try simp only[eta0,RT.bytes]at *)
 all_goals grind[c2s,c2t,c7L,j3]
theorem c1W:b8 Tryz.prog 27 a5f:=j4 e9 (ss := [(17,b0U)]) ⟨c4z,trivial⟩ rfl rfl<|by
 intro(bs:Th (List Int)) (p:Th Int) ⟨(o:Th One),u⟩ K _ _ ho h
 obtain⟨o,rfl⟩:=b6 o
 have hn := @b8X o
 refine⟨annL [(27,5,⟨Nat,[],fun σ k=>((σ.only [1,2,12,13]).t 14 (vI fun _=>(k:Int))).t 3 (vI fun _=>K6 o.wlks k),fun _ k _=>k≤o.wlks.length∧I3 o=true,fun _ k _=>o.wlks.length-k⟩),
  (27,10,⟨Nat,[],fun σ k=>((σ.only [1,2,25,26]).t 27 (vI fun _=>(k:Int))).t 3 (vI fun _=>K6 o.wlks o.wlks.length+O5 o k),fun _ k _=>k≤o.ground.length∧I3 o=true,fun _ k _=>o.ground.length-k⟩)],noAnn,20,?_⟩
 cbv
 repeat' first|((with_reducible refine fun(k:Nat) => ?_);cbv)|((with_reducible intro _);cbv)|(with_reducible refine And.intro ?_ ?_)
 all_goals try((first|(with_reducible refine LoopIn.mk ((0:Nat)) ?_ ?_)|(with_reducible refine LoopBack.mk ((k+1:Nat)) ?_ ?_ ?_)) )
 all_goals try((with_reducible show m0 _ _);cbv;(try simp only[and_true,true_and]))
 all_goals try(repeat' with_reducible refine And.intro ?_ ?_)
 all_goals first|(refine retK h ?_;clear h;simp only[fin0])|(with_reducible refine Ob.mk ?_;clear h)|(clear h)
 all_goals(try simp only[eta0,RT.bytes]at *)
 all_goals grind[c5D,d3N,b4X,c0A,b4g,j3,a6k,a6y]
theorem b9e:b8 Tryz.prog 28 a5f:=j4 e9 (ss := [(80,b0U)]) ⟨d0y,trivial⟩ rfl rfl<|by
 intro(bs:Th (List Int)) (p:Th Int) ⟨(o:Th One),u⟩ K _ _ ho h
 obtain⟨o,rfl⟩:=b6 o
 have hn := @b8X o
 refine⟨annL [(28,5,⟨Nat,[],fun σ k=>((σ.only [1,2]).t 4 (vI fun _=>(k:Int))).t 3 (vI fun _=>K6 o.wlks k),fun _ k _=>k≤o.wlks.length∧I3 o=true,fun _ k _=>o.wlks.length-k⟩),
  (28,9,⟨Nat,[],fun σ k=>((σ.only [1,2]).t 5 (vI fun _=>(k:Int))).t 3 (vI fun _=>K6 o.wlks o.wlks.length+O5 o k),fun _ k _=>k≤o.ground.length∧I3 o=true,fun _ k _=>o.ground.length-k⟩)],noAnn,20,?_⟩
 cbv
 repeat' first|((with_reducible refine fun(k:Nat) => ?_);cbv)|((with_reducible intro _);cbv)|(with_reducible refine And.intro ?_ ?_)
 all_goals try((first|(with_reducible refine LoopIn.mk ((0:Nat)) ?_ ?_)|(with_reducible refine LoopBack.mk ((k+1:Nat)) ?_ ?_ ?_)) )
 all_goals try((with_reducible show m0 _ _);cbv;(try simp only[and_true,true_and]))
 all_goals try(repeat' with_reducible refine And.intro ?_ ?_)
 all_goals first|(refine retK h ?_;clear h;simp only[fin0])|(with_reducible refine Ob.mk ?_;clear h)|(clear h)
 all_goals(try simp only[eta0,RT.bytes]at *)
 all_goals grind[c5D,d3O,b4X,c0A,b4g,j3,a6k,a6y]
end Go.Proofs.YtihaeoicjglieaaGreat
namespace Go.Mo
open Go.Sx
def d5Q (a b:Th Int) (l:Th (List Wlk)) (k q:Th Int) (p:Int):Th Prop:=fun _=>s0 ⟨a (),b ()⟩=true∧A5 ⟨a (),b ()⟩ (l ())=true∧0≤k ()∧k ()≤5∧p≤q ()∧q ()≤p+3+2 * (5-k ())∧(∀v∈l (),v.seq=0∧v.last=0)∧(l ()).length+k ()≤5
theorem c6x {l:List Wlk} {k x y:Int} (h : ∀v∈l,v.seq=0∧v.last=0) : ∀v∈M4 l ⟨k,x,y,0,0⟩,v.seq=0∧v.last=0:=fun v hv=>by
 rcases b5X hv with hx|rfl
 ·exact h v hx
 ·exact⟨rfl,rfl⟩
end Go.Mo
namespace Go.Proofs.YtihaeoicjglieaaGreat
open Go.Sx Go.Proofs Go.Mo
noncomputable def c3Y:Sx.Spec:=⟨true,false,[],[nWld],fun _ p _ => .asrt (fun _=>0≤p ()∧p ()≤980000000000) (.all Int fun a => .all Int fun b => .all (List Srv) fun c => .all (List Sto) fun d => .all (List Int) fun e => .all (List Int) fun f => .all (List Row) fun g => .all (List Msg) fun h => .all (List Note) fun i => .all Int fun q => .asm (fun _=>p ()≤q∧q≤p ()+100∧BegE ⟨⟨a,b⟩,c,d,⟨e,f⟩,g,h,i⟩) (.ret (rWld a b c d e f g h i,fun _=>q)))⟩
theorem d0U:b8 Tryz.prog 44 c3Y:=j4 e9 (ss := [(46,J4),(95,a0D),(96,b5L),(32,N7)]) ⟨D2,a3a,b4r,N1,trivial⟩ rfl rfl<|by
 intro(bs:Th (List Int)) (p:Th Int) u K hb hp0 ho h
 obtain⟨bs,rfl⟩:=b6 bs;obtain⟨p,rfl⟩:=b6 p
 obtain⟨hpre,h⟩:=h
 have hpre:0≤p∧p≤980000000000:=hpre.out
 refine⟨annL [(44,4,⟨Th (List Wlk)×Th Int×Th Int,[⟨.tmp 4 0,some 16,.wlk⟩],fun σ g=>((((σ.fgs [16]).t 5 (.one (.att (.int .i64 g.2.1)))).t 4 (vO 16 1)).h 16 (1,.row true 0 .wlk g.1)).u7 0 1 (.att (.int .i64 g.2.2)),
   fun σ g _=>Ob (d5Q (asI (σ.ce 4 0)) (asI (σ.ce 4 1)) g.1 g.2.1 g.2.2 p),fun _ g _=>(g.2.1 ()).toNat⟩),
  (44,9,⟨Th Wld×Th Int×Th Int,[⟨.cell 7 2,none,.srv⟩,⟨.cell 7 3,none,.sto⟩,⟨.cell 7 4,none,.int⟩,⟨.cell 7 5,none,.int⟩,⟨.cell 7 6,none,.row⟩,⟨.cell 7 7,none,.msg⟩,⟨.cell 7 8,none,.note⟩],fun σ g=>((((St.kill σ [23810,23811,23812,23813,23814,23815,23816]).only [0,2,3,6]).t 7 (.one (.att (.int .i64 g.2.1)))).a2M 7 0 (X0 g.1)).u7 0 1 (.att (.int .i64 g.2.2)),
   fun _ g _=>Ob fun _=>BegE (g.1 ())∧0≤g.2.1 ()∧g.2.1 ()≤4∧p≤g.2.2 ()∧g.2.2 ()≤p+20+2 * g.2.1 (),fun _ g _=>(4-g.2.1 ()).toNat⟩)],noAnn,20,?_⟩
 cbv
 repeat' first|((with_reducible refine fun(g:Th (List Wlk)×Th Int×Th Int) => ?_);obtain⟨l,k,q⟩:=g;obtain⟨l,rfl⟩:=b6 l;obtain⟨k,rfl⟩:=b6 k;obtain⟨q,rfl⟩:=b6 q;(with_reducible refine ImpB.out ?_);cbv;(with_reducible refine ImpB.mk ?_);intro hq;obtain⟨hq⟩:=hq)|((with_reducible refine fun(g:Th Wld×Th Int×Th Int) => ?_);obtain⟨w,c,q⟩:=g;obtain⟨w,rfl⟩:=b6 w;obtain⟨c,rfl⟩:=b6 c;obtain⟨q,rfl⟩:=b6 q;(with_reducible refine ImpB.out ?_);cbv;(with_reducible refine ImpB.mk ?_);intro hq;obtain⟨hq⟩:=hq)|((with_reducible intro _);cbv)|(with_reducible refine And.intro ?_ ?_)
 all_goals try((first|(with_reducible refine LoopIn.wf (fun σ => (σ.rowL .wlk 16,σ.tmI 5,asI (σ.ce 0 1))) ?_ ?_)|(with_reducible refine LoopBack.wf (fun σ => (σ.rowL .wlk 16,σ.tmI 5,asI (σ.ce 0 1))) ?_ ?_ ?_)|(with_reducible refine LoopIn.wf (fun σ => (X3 σ 7,σ.tmI 7,asI (σ.ce 0 1))) ?_ ?_)|(with_reducible refine LoopBack.wf (fun σ => (X3 σ 7,σ.tmI 7,asI (σ.ce 0 1))) ?_ ?_ ?_))<;>cbv)
 all_goals try(with_reducible show _∧_;(try simp only[and_true,true_and]))
 all_goals try(repeat' with_reducible refine And.intro ?_ ?_)
 all_goals try(with_reducible refine MeasB.mk ?_)
 all_goals first|(refine retK (h _ _ _ _ _ _ _ _ _ _ ?_) rfl;clear h)|(with_reducible refine Ob.mk ?_;clear h)|(clear h)
 all_goals(try simp only[eta0,RT.bytes]at *)
 all_goals(try simp only[d5Q]at *)
 all_goals(try dsimp only[RT.ty]at *)
 all_goals(try simp only[S6]at *)
 all_goals(try(have hfew:=b5p hq.2.1))
 all_goals(try(first|omega|rfl|exact⟨by omega,by omega,hq.1⟩))
 ·rename_i x5 x4 ha x3 x2 hb1 x1 x0 hc
  have hw:IntKind.i64.wrap (1+x1)=1+x1:=e8 (by omega) (by omega)
  rw[hw]
  exact⟨c5H ⟨ha.1,ha.2.1⟩ ⟨hb1.1,hb1.2.1⟩,by simp[A5,m8],by omega,by omega,by omega,by omega,(by intro v hv;cases hv),by simp only[List.length_nil];omega⟩
 ·rename_i x3 x2 ha x1 x0 hb1 hk
  have hw:IntKind.i64.wrap (k-1)=k-1:=e8 (by omega) (by omega)
  rw[hw]
  have hpl:=a5X l ⟨k,x3,nth .int [0,3,10,40,95,99] x1.toNat,0,0⟩
  exact⟨hq.1,c5G hq.1 hq.2.1 hk (by omega) ⟨ha.1,ha.2.1⟩ ⟨hb1.1,hb1.2.1⟩,by omega,by omega,by omega,by omega,c6x hq.2.2.2.2.2.2.1,by omega⟩
 ·have hw:IntKind.i64.wrap (k-1)=k-1:=e8 (by omega) (by omega)
  rw[hw]
  omega
 ·rename_i x1 x0 hc hk
  have hw:IntKind.i64.wrap (1+x1)=1+x1:=e8 (by omega) (by omega)
  exact⟨⟨l,@d5e ⟨_,_⟩ l (IntKind.i64.wrap (1+x1)) hq.1 hq.2.1 (by rw[hw];omega) (by rw[hw];omega) hq.2.2.2.2.2.2.1 (by omega)⟩,by omega,by omega,by omega,by omega⟩
 ·refine⟨c8D hq.1 _ _,?_⟩
  grind[e8]
 ·grind[e8]
noncomputable def b0X:Sx.Spec:=⟨false,false,[.list .byte],[nWld,[some .evt]],fun _ _ _ => .all Int fun a => .all Int fun b => .all (List Srv) fun c => .all (List Sto) fun d => .all (List Int) fun e => .all (List Int) fun f => .all (List Row) fun g => .all (List Msg) fun h => .all (List Note) fun i => .all (List Evt) fun l => .asm (fun _=>BegE ⟨⟨a,b⟩,c,d,⟨e,f⟩,g,h,i⟩∧l.length≤149) (.ret (.tup [rWld a b c d e f g h i,vL .evt fun _=>l],fun _=>0))⟩
theorem b4v:b8 Tryz.prog 12 b0X:=j4 e9 (ss := [(44,c3Y),(46,J4),(45,b5N)]) ⟨d0U,D2,b9j,trivial⟩ rfl rfl<|by
 intro(bs:Th (List Int)) (p:Th Int) ⟨(l:Th (List Int)),u⟩ K hb hp0 ho h
 obtain⟨l,rfl⟩:=b6 l
 have hk : ∀w:Wld,BegE w→w.rows.length≤9∧w.stores.length≤4:=fun w h=>⟨(a6n (c5K h)).1,(a6n (c5K h)).2.1⟩
 refine⟨noAnn,noAnn,20,?_⟩
 cbv
 repeat' first|((with_reducible intro _);cbv)|(with_reducible refine And.intro ?_ ?_)
 all_goals first|(refine retK (h _ _ _ _ _ _ _ _ _ _ ?_) rfl;clear h)|(refine retK (h _ _ _ _ _ _ _ _ _ _ ?_) rfl)|(with_reducible refine Ob.mk ?_;clear h)|(clear h)
 all_goals(try simp only[eta0,RT.bytes]at *)
 all_goals(try dsimp only[RT.ty]at *)
 all_goals(try simp only[S6]at *)
 all_goals(first|rfl|omega|grind[e8])
theorem c1H {w x:Wld} {l:List Evt} {i:Int} (hl:l.length≤1000) (h0:0≤i) (h1:i<l.length) (hx:x=a1k w l i.toNat):0≤IntKind.i64.wrap (i+1)∧IntKind.i64.wrap (i+1)≤l.length∧b9 x (nth .evt l i.toNat)=a1k w l (IntKind.i64.wrap (i+1)).toNat:=by
 have hw:IntKind.i64.wrap (i+1)=i+1:=e8 (by omega) (by omega)
 rw[hw,show(i+1).toNat=i.toNat+1 by omega,a7h (by omega),hx]
 exact⟨by omega,by omega,rfl⟩
noncomputable def c3L:Sx.Spec:=⟨false,false,[.row .wld,.list .evt],[nWld],fun _ _ ⟨w,l,_⟩ => .asrt (fun _=>(l ()).length≤1000) (.ret (rAs (X0 fun _=>c4l (w ()) (l ())),fun _=>0))⟩
theorem d0D:b8 Tryz.prog 30 c3L:=j4 e9 (ss := [(32,N7)]) ⟨N1,trivial⟩ rfl rfl<|by
 intro(bs:Th (List Int)) (p:Th Int) ⟨(w:Th Wld),(l:Th (List Evt)),u⟩ K _ _ ho h
 obtain⟨w,rfl⟩:=b6 w;obtain⟨l,rfl⟩:=b6 l
 obtain⟨hpre,h⟩:=h
 have hpre:l.length≤1000:=hpre.out
 refine⟨annL [(30,2,⟨Th Wld×Th Int,[],fun σ g=>((σ.only [1,2,4]).t 5 (.one (.att (.int .i64 g.2)))).a2M 3 0 (X0 g.1),fun σ g _=>Ob fun _=>0≤g.2 ()∧g.2 ()≤l.length∧g.1 ()=a1k w l (g.2 ()).toNat,fun _ g _=>(1001-g.2 ()).toNat⟩)],noAnn,20,?_⟩
 cbv
 repeat' first|((with_reducible refine fun(g:Th Wld×Th Int) => ?_);obtain⟨x,i⟩:=g;obtain⟨x,rfl⟩:=b6 x;obtain⟨i,rfl⟩:=b6 i;(with_reducible refine ImpB.out ?_);cbv;(with_reducible refine ImpB.mk ?_);intro hq;obtain⟨hq⟩:=hq)|((with_reducible intro _);cbv)|(with_reducible refine And.intro ?_ ?_)
 all_goals try((first|(with_reducible refine LoopIn.wf (fun σ => (X3 σ 3,σ.tmI 5)) ?_ ?_)|(with_reducible refine LoopBack.wf (fun σ => (X3 σ 3,σ.tmI 5)) ?_ ?_ ?_))<;>cbv)
 all_goals try(with_reducible show _∧_;(try simp only[and_true,true_and]))
 all_goals try(repeat' with_reducible refine And.intro ?_ ?_)
 all_goals try(with_reducible refine MeasB.mk ?_)
 all_goals first|(refine retK h ?_;clear h;simp only[fin0])|(with_reducible refine Ob.mk ?_;clear h)|(clear h)
 all_goals(try simp only[eta0,RT.bytes]at *)
 all_goals(try dsimp only[RT.ty]at *)
 all_goals(try simp only[S6]at *)
 all_goals(try simp only[a5Q]at *)
 all_goals(first|omega|exact⟨by omega,by omega,rfl⟩|exact c1H hpre hq.1 (by assumption) hq.2.2|grind[j3,e8,b6a,a7h,b8L])
end Go.Proofs.YtihaeoicjglieaaGreat
