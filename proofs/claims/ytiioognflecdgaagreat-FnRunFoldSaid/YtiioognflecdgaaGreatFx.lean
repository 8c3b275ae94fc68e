/- What some ends alone need. -/
import Derived.Test.YtiioognflecdgaaGreatInsW
import Derived.Test.YtiioognflecdgaaGreatFnFb
import Derived.Test.YtiioognflecdgaaGreatGnC
import Derived.Test.YtiioognflecdgaaGreatGnJ
import Derived.Test.YtiioognflecdgaaGreatFnJ
import Derived.Test.YtiioognflecdgaaGreatFnYs
import Derived.Test.YtiioognflecdgaaGreatFnM
import Derived.Test.YtiioognflecdgaaGreatGnE
import Derived.Test.YtiioognflecdgaaGreatInsH
import Derived.Test.YtiioognflecdgaaGreatFoE
import Derived.Test.YtiioognflecdgaaGreatGnM
import Derived.Test.YtiioognflecdgaaGreatGnV
import Derived.Test.YtiioognflecdgaaGreatGnP
import Derived.Test.YtiioognflecdgaaGreatGnVe
import Derived.Test.YtiioognflecdgaaGreatGrT
import Derived.Test.YtiioognflecdgaaGreatGnW
import Derived.Test.YtiioognflecdgaaGreatGsB
import Derived.Test.YtiioognflecdgaaGreatGnT
import Derived.Test.YtiioognflecdgaaGreatGsT
import Derived.Test.YtiioognflecdgaaGreatGsS
import Derived.Test.YtiioognflecdgaaGreatGnX
import Derived.Test.YtiioognflecdgaaGreatMx
set_option linter.unusedVariables false
set_option linter.unusedSimpArgs false
set_option maxRecDepth 100000
set_option maxHeartbeats 8000000
namespace Go.Proofs.YtiioognflecdgaaGreat
open Go.Sx Go.Proofs Go.Mo
end Go.Proofs.YtiioognflecdgaaGreat
namespace Go.Mo
open Go.Sx
theorem I7 (t:RT) (a b:List t.ty):same t a b 0:=fun i hi=>by omega
theorem I8 {t:RT} {a b:List t.ty} {k:Nat} (h:same t a b k) (hk:nth t a k=nth t b k):same t a b (k+1):=fun i hi=>by
 rcases Nat.lt_or_ge i k with h1|h1
 ·exact h i h1
 ·have:i=k:=by omega
  subst this
  exact hk
theorem N0 {t:RT} {a b:List t.ty} {k:Nat} (h:same t a b k) (hl:a.length=b.length) (hk:k=a.length):a=b:=by
 refine List.ext_getElem hl fun i h1 h2 => ?_
 rw[←l7 t a i h1,←l7 t b i h2]
 exact h i (by omega)
theorem a5q {a b:Wlk}:a=b↔a.id=b.id∧a.pos=b.pos∧a.n0=b.n0∧a.seq=b.seq∧a.last=b.last:=by
 cases a;cases b;simp
theorem b4g {a b:Pcl}:a=b↔a.n=b.n∧a.kind=b.kind∧a.wlk=b.wlk∧a.n0=b.n0:=by
 cases a;cases b;simp
theorem c9U {a b:Rec}:a=b↔a.kind=b.kind∧a.ord=b.ord∧a.side=b.side∧a.pcl=b.pcl∧a.n=b.n:=by
 cases a;cases b;simp
theorem d1n {a b:Cll}:a=b↔a.cell=b.cell∧a.wlks=b.wlks∧a.ground=b.ground∧a.outs=b.outs∧a.next=b.next∧a.ins=b.ins:=by
 cases a;cases b;simp
end Go.Mo
namespace Go.Proofs.YtiioognflecdgaaGreat
open Go.Sx Go.Proofs Go.Mo
noncomputable def sIsW:Sx.Spec:=⟨false,true,[.list .wlk,.list .wlk],[],fun _ _ ⟨a,b,_⟩ => .ret (vB fun _=>decide (a ()=b ()),fun _=>0)⟩
noncomputable def sIsI:Sx.Spec:=⟨false,true,[.list .int,.list .int],[],fun _ _ ⟨a,b,_⟩ => .ret (vB fun _=>decide (a ()=b ()),fun _=>0)⟩
noncomputable def sIsP:Sx.Spec:=⟨false,true,[.list .pcl,.list .pcl],[],fun _ _ ⟨a,b,_⟩ => .ret (vB fun _=>decide (a ()=b ()),fun _=>0)⟩
noncomputable def sIsR:Sx.Spec:=⟨false,true,[.list .rcd,.list .rcd],[],fun _ _ ⟨a,b,_⟩ => .ret (vB fun _=>decide (a ()=b ()),fun _=>0)⟩
noncomputable def sIsC:Sx.Spec:=⟨false,true,[.row .cll,.row .cll],[],fun _ _ ⟨a,b,_⟩ => .ret (vB fun _=>decide (a ()=b ()),fun _=>0)⟩
theorem c7f:b6 Tryz.prog 178 sIsW:=j3 b9 (ss := []) trivial rfl rfl<|by
 intro(bs:Th (List Int)) (p:Th Int) ⟨(a:Th (List Wlk)),(b:Th (List Wlk)),u⟩ K _ _ ho h
 obtain⟨a,rfl⟩:=a8 a;obtain⟨b,rfl⟩:=a8 b
 have hl:=okL (ho.1 _ (.head _))
 refine⟨annL [(178,4,⟨Nat,[],fun σ k => σ.t 5 (vI fun _=>(k:Int)),fun _ k _=>k≤a.length∧a.length=b.length∧same .wlk a b k,fun _ k _=>a.length-k⟩)],noAnn,20,?_⟩
 cbv
 repeat' first|((with_reducible refine fun(k:Nat) => ?_);cbv)|((with_reducible intro _);cbv)|(with_reducible refine And.intro ?_ ?_)
 all_goals try((first|(with_reducible refine LoopIn.mk ((0:Nat)) ?_ ?_)|(with_reducible refine LoopBack.mk ((k+1:Nat)) ?_ ?_ ?_)) )
 all_goals try((with_reducible show l8 _ _);cbv;(try simp only[and_true,true_and]))
 all_goals try(repeat' with_reducible refine And.intro ?_ ?_)
 all_goals first|(refine retK h ?_;clear h;simp only[fin0])|(with_reducible refine Ob.mk ?_;clear h)|(clear h)
 all_goals(try simp only[eta0,RT.bytes]at *)
 all_goals grind[j4,I7,I8,N0,a5q]
theorem b6X:b6 Tryz.prog 42 sIsI:=j3 b9 (ss := []) trivial rfl rfl<|by
 intro(bs:Th (List Int)) (p:Th Int) ⟨(a:Th (List Int)),(b:Th (List Int)),u⟩ K _ _ ho h
 obtain⟨a,rfl⟩:=a8 a;obtain⟨b,rfl⟩:=a8 b
 have hl:=okL (ho.1 _ (.head _))
 refine⟨annL [(42,4,⟨Nat,[],fun σ k => σ.t 5 (vI fun _=>(k:Int)),fun _ k _=>k≤a.length∧a.length=b.length∧same .int a b k,fun _ k _=>a.length-k⟩)],noAnn,20,?_⟩
 cbv
 repeat' first|((with_reducible refine fun(k:Nat) => ?_);cbv)|((with_reducible intro _);cbv)|(with_reducible refine And.intro ?_ ?_)
 all_goals try((first|(with_reducible refine LoopIn.mk ((0:Nat)) ?_ ?_)|(with_reducible refine LoopBack.mk ((k+1:Nat)) ?_ ?_ ?_)) )
 all_goals try((with_reducible show l8 _ _);cbv;(try simp only[and_true,true_and]))
 all_goals try(repeat' with_reducible refine And.intro ?_ ?_)
 all_goals first|(refine retK h ?_;clear h;simp only[fin0])|(with_reducible refine Ob.mk ?_;clear h)|(clear h)
 all_goals(try simp only[eta0,RT.bytes]at *)
 all_goals grind[j4,I7,I8,N0]
theorem b6W:b6 Tryz.prog 179 sIsP:=j3 b9 (ss := []) trivial rfl rfl<|by
 intro(bs:Th (List Int)) (p:Th Int) ⟨(a:Th (List Pcl)),(b:Th (List Pcl)),u⟩ K _ _ ho h
 obtain⟨a,rfl⟩:=a8 a;obtain⟨b,rfl⟩:=a8 b
 have hl:=okL (ho.1 _ (.head _))
 refine⟨annL [(179,4,⟨Nat,[],fun σ k => σ.t 5 (vI fun _=>(k:Int)),fun _ k _=>k≤a.length∧a.length=b.length∧same .pcl a b k,fun _ k _=>a.length-k⟩)],noAnn,20,?_⟩
 cbv
 repeat' first|((with_reducible refine fun(k:Nat) => ?_);cbv)|((with_reducible intro _);cbv)|(with_reducible refine And.intro ?_ ?_)
 all_goals try((first|(with_reducible refine LoopIn.mk ((0:Nat)) ?_ ?_)|(with_reducible refine LoopBack.mk ((k+1:Nat)) ?_ ?_ ?_)) )
 all_goals try((with_reducible show l8 _ _);cbv;(try simp only[and_true,true_and]))
 all_goals try(repeat' with_reducible refine And.intro ?_ ?_)
 all_goals first|(refine retK h ?_;clear h;simp only[fin0])|(with_reducible refine Ob.mk ?_;clear h)|(clear h)
 all_goals(try simp only[eta0,RT.bytes]at *)
 all_goals grind[j4,I7,I8,N0,a5q,b4g]
theorem b6Y:b6 Tryz.prog 135 sIsC:=j3 b9 (ss := [(178,sIsW),(42,sIsI),(179,sIsP)]) ⟨c7f,b6X,b6W,trivial⟩ rfl rfl<|by
 intro(bs:Th (List Int)) (p:Th Int) ⟨(a:Th Cll),(b:Th Cll),u⟩ K _ _ ho h
 obtain⟨a,rfl⟩:=a8 a;obtain⟨b,rfl⟩:=a8 b
 have hl:=(a8e ho.1).o
 refine⟨annL [(135,4,⟨Nat,[],fun σ k => σ.t 5 (vI fun _=>(k:Int)),fun _ k _=>k≤a.outs.length∧a.outs.length=b.outs.length∧same .pcls a.outs b.outs k∧a.cell=b.cell∧a.ground=b.ground∧a.wlks=b.wlks∧a.next=b.next∧a.ins=b.ins,fun _ k _=>a.outs.length-k⟩)],noAnn,20,?_⟩
 cbv
 repeat' first|((with_reducible refine fun(k:Nat) => ?_);cbv)|((with_reducible intro _);cbv)|(with_reducible refine And.intro ?_ ?_)
 all_goals try((first|(with_reducible refine LoopIn.mk ((0:Nat)) ?_ ?_)|(with_reducible refine LoopBack.mk ((k+1:Nat)) ?_ ?_ ?_)) )
 all_goals try((with_reducible show l8 _ _);cbv;(try simp only[and_true,true_and]))
 all_goals try(repeat' with_reducible refine And.intro ?_ ?_)
 all_goals first|(refine retK h ?_;clear h;simp only[fin0])|(with_reducible refine Ob.mk ?_;clear h)|(clear h)
 all_goals(try simp only[eta0,RT.bytes]at *)
 all_goals grind[j4,I7,I8,N0,d1n]
end Go.Proofs.YtiioognflecdgaaGreat
namespace Go.Mo
open Go.Sx
theorem c9I {a b:Sto}:a=b↔a.age=b.age∧a.base=b.base∧a.recs=b.recs:=by
 cases a;cases b;simp
theorem d0T {a b:Hld}:a=b↔a.age=b.age∧a.count=b.count∧a.state=b.state:=by
 cases a;cases b;simp
end Go.Mo
namespace Go.Proofs.YtiioognflecdgaaGreat
open Go.Sx Go.Proofs Go.Mo
noncomputable def sIsS:Sx.Spec:=⟨false,true,[.row .sto,.row .sto],[],fun _ _ ⟨a,b,_⟩ => .ret (vB fun _=>decide (a ()=b ()),fun _=>0)⟩
noncomputable def sIsH:Sx.Spec:=⟨false,true,[.row .hld,.row .hld],[],fun _ _ ⟨a,b,_⟩ => .ret (vB fun _=>decide (a ()=b ()),fun _=>0)⟩
theorem c7e:b6 Tryz.prog 136 sIsR:=j3 b9 (ss := []) trivial rfl rfl<|by
 intro(bs:Th (List Int)) (p:Th Int) ⟨(a:Th (List Sx.Rec)),(b:Th (List Sx.Rec)),u⟩ K _ _ ho h
 obtain⟨a,rfl⟩:=a8 a;obtain⟨b,rfl⟩:=a8 b
 have hl:=okL (ho.1 _ (.head _))
 refine⟨annL [(136,4,⟨Nat,[],fun σ k => σ.t 5 (vI fun _=>(k:Int)),fun _ k _=>k≤a.length∧a.length=b.length∧same .rcd a b k,fun _ k _=>a.length-k⟩)],noAnn,20,?_⟩
 cbv
 repeat' first|((with_reducible refine fun(k:Nat) => ?_);cbv)|((with_reducible intro _);cbv)|(with_reducible refine And.intro ?_ ?_)
 all_goals try((first|(with_reducible refine LoopIn.mk ((0:Nat)) ?_ ?_)|(with_reducible refine LoopBack.mk ((k+1:Nat)) ?_ ?_ ?_)) )
 all_goals try((with_reducible show l8 _ _);cbv;(try simp only[and_true,true_and]))
 all_goals try(repeat' with_reducible refine And.intro ?_ ?_)
 all_goals first|(refine retK h ?_;clear h;simp only[fin0])|(with_reducible refine Ob.mk ?_;clear h)|(clear h)
 all_goals(try simp only[eta0,RT.bytes]at *)
 all_goals grind[j4,I7,I8,N0,a5q,b4g,a6c,c9U]
theorem c3Z:b6 Tryz.prog 92 sIsS:=j3 b9 (ss := [(135,sIsC),(136,sIsR)]) ⟨b6Y,c7e,trivial⟩ rfl rfl<|by
 intro(bs:Th (List Int)) (p:Th Int) ⟨(a:Th Sto),(b:Th Sto),u⟩ K _ _ ho h
 obtain⟨a,rfl⟩:=a8 a;obtain⟨b,rfl⟩:=a8 b
 refine⟨noAnn,noAnn,20,?_⟩
 cbv
 repeat' first|((with_reducible intro _);cbv)|(with_reducible refine And.intro ?_ ?_)
 all_goals first|(refine retK h ?_;clear h;simp only[fin0])|(with_reducible refine Ob.mk ?_;clear h)|(clear h)
 all_goals(try simp only[eta0,RT.bytes]at *)
 all_goals grind[c9I]
end Go.Proofs.YtiioognflecdgaaGreat
namespace Go.Proofs.YtiioognflecdgaaGreat
open Go.Sx Go.Proofs Go.RowKit
end Go.Proofs.YtiioognflecdgaaGreat
namespace Go.Proofs.YtiioognflecdgaaGreat
open Go.Sx Go.Proofs Go.Mo
theorem c7g:b6 Tryz.prog 134 sIsH:=j3 b9 (ss := [(135,sIsC)]) ⟨b6Y,trivial⟩ rfl rfl<|by
 intro(bs:Th (List Int)) (p:Th Int) ⟨(a:Th Hld),(b:Th Hld),u⟩ K _ _ ho h
 obtain⟨a,rfl⟩:=a8 a;obtain⟨b,rfl⟩:=a8 b
 refine⟨noAnn,noAnn,20,?_⟩
 cbv
 repeat' first|((with_reducible intro _);cbv)|(with_reducible refine And.intro ?_ ?_)
 all_goals first|(refine retK h ?_;clear h;simp only[fin0])|(with_reducible refine Ob.mk ?_;clear h)|(clear h)
 all_goals(try simp only[eta0,RT.bytes]at *)
 all_goals grind[d0T]
end Go.Proofs.YtiioognflecdgaaGreat
namespace Go.Proofs.YtiioognflecdgaaGreat
open Go.Sx Go.Proofs Go.RowKit
end Go.Proofs.YtiioognflecdgaaGreat
namespace Go.Proofs.YtiioognflecdgaaGreat
open Go.Sx Go.Proofs Go.Mo
end Go.Proofs.YtiioognflecdgaaGreat
namespace Go.Sx
end Go.Sx
namespace Go.Proofs.YtiioognflecdgaaGreat
open Go.Sx Go.Proofs Go.Mo
noncomputable def sIsB:Sx.Spec:=⟨false,true,[.book,.book],[],fun _ _ ⟨a,b,_⟩ => .ret (vB fun _=>decide (a ()=b ()),fun _=>0)⟩
theorem c6Z:b6 Tryz.prog 43 sIsB:=j3 b9 (ss := []) trivial rfl rfl<|by
 intro(bs:Th (List Int)) (p:Th Int) ⟨(a:Th (List Row)),(b:Th (List Row)),u⟩ K _ _ ho h
 obtain⟨a,rfl⟩:=a8 a;obtain⟨b,rfl⟩:=a8 b
 have hl:=okL (ho.1 _ (.head _))
 refine⟨annL [(43,4,⟨Nat,[],fun σ k => σ.t 5 (vI fun _=>(k:Int)),fun _ k _=>k≤a.length∧a.length=b.length∧same .row a b k,fun _ k _=>a.length-k⟩)],noAnn,20,?_⟩
 cbv
 repeat' first|((with_reducible refine fun(k:Nat) => ?_);cbv)|((with_reducible intro _);cbv)|(with_reducible refine And.intro ?_ ?_)
 all_goals try((first|(with_reducible refine LoopIn.mk ((0:Nat)) ?_ ?_)|(with_reducible refine LoopBack.mk ((k+1:Nat)) ?_ ?_ ?_)) )
 all_goals try((with_reducible show l8 _ _);cbv;(try simp only[and_true,true_and]))
 all_goals try(repeat' with_reducible refine And.intro ?_ ?_)
 all_goals first|(refine retK h ?_;clear h;simp only[fin0])|(with_reducible refine Ob.mk ?_;clear h)|(clear h)
 all_goals(try simp only[eta0,RT.bytes]at *)
 all_goals grind[j4,I7,I8,N0,c9N,a6c]
end Go.Proofs.YtiioognflecdgaaGreat
namespace Go.Proofs.YtiioognflecdgaaGreat
open Go.Sx Go.Proofs Go.RowKit
end Go.Proofs.YtiioognflecdgaaGreat
namespace Go.Proofs.YtiioognflecdgaaGreat
open Go.Sx Go.Proofs Go.Mo
noncomputable def sMap:Sx.Spec:=⟨true,false,[],[],fun _ p _ => .asrt (fun _=>0≤p ()∧p ()≤1000000000900) (.all Int fun x0 => .all Int fun x1 => .all Int fun q => .asm (fun _=>p ()≤q∧q≤p ()+10) (.ret (.agg [cI x0,cI x1],fun _=>q)))⟩
noncomputable def a5F:Sx.Spec:=⟨true,false,[.map],[],fun _ p ⟨m,_⟩ => .asrt (fun _=>0≤p ()∧p ()≤1000000000900) (.all Int fun x0 => .all Int fun x1 => .all Int fun x2 => .all Int fun x3 => .all Int fun x4 => .all Int fun q => .asm (fun _=>p ()≤q∧q≤p ()+10) (.ret (.agg [cI x0,cI x1,cI x2,cI x3,cI x4],fun _=>q)))⟩
noncomputable def a0K:Sx.Spec:=⟨true,false,[.row .wlk],[],fun _ p ⟨m,_⟩ => .asrt (fun _=>0≤p ()∧p ()≤1000000000900) (.all Int fun x0 => .all Int fun x1 => .all Int fun x2 => .all Int fun x3 => .all Int fun x4 => .all Int fun q => .asm (fun _=>p ()≤q∧q≤p ()+10) (.ret (.agg [cI x0,cI x1,cI x2,cI x3,cI x4],fun _=>q)))⟩
noncomputable def a7h:Sx.Spec:=⟨true,false,[.int .i64],[],fun _ p ⟨n,_⟩ => .asrt (fun _=>0≤p ()∧p ()≤1000000000800) (.all Int fun x0 => .all Int fun x1 => .all Int fun x2 => .all Int fun x3 => .all Int fun x4 => .all Int fun q => .asm (fun _=>p ()≤q∧q≤p ()+30) (.ret (.agg [cI x0,cI x1,cI x2,cI x3,cI x4],fun _=>q)))⟩
noncomputable def a5H:Sx.Spec:=⟨true,false,[.map],[],fun _ p ⟨m,_⟩ => .asrt (fun _=>0≤p ()∧p ()≤1000000000800) (.all Int fun x0 => .all Int fun x1 => .all Int fun x2 => .all Int fun x3 => .all Int fun x4 => .all Int fun x5 => .all Int fun x6 => .all Int fun x7 => .all Int fun q => .asm (fun _=>p ()≤q∧q≤p ()+20) (.ret (.agg [cI x0,cI x1,cI x2,cI x3,cI x4,cI x5,cI x6,cI x7],fun _=>q)))⟩
noncomputable def a9s:Sx.Spec:=⟨true,false,[.map,.int .i64],[],fun _ p ⟨m,_⟩ => .asrt (fun _=>0≤p ()∧p ()≤1000000000700) (.all Int fun x0 => .all Int fun x1 => .all Int fun x2 => .all Int fun x3 => .all Int fun x4 => .all Int fun x5 => .all Int fun x6 => .all Int fun x7 => .all Int fun q => .asm (fun _=>p ()≤q∧q≤p ()+40) (.ret (.agg [cI x0,cI x1,cI x2,cI x3,cI x4,cI x5,cI x6,cI x7],fun _=>q)))⟩
noncomputable def c6g:Sx.Spec:=⟨true,false,[.map,.int .i64],[[some .wlk]],fun _ p ⟨m,_⟩ => .asrt (fun _=>0≤p ()∧p ()≤1000000000700) (.all (List Wlk) fun x => .all Int fun q => .asm (fun _=>p ()≤q∧q≤p ()+90∧x.length≤10) (.ret (vL .wlk fun _=>x,fun _=>q)))⟩
theorem d1K:b6 Tryz.prog 127 sMap:=j3 b9 (ss := [(21,G0)]) ⟨C1,trivial⟩ rfl rfl<|by
 intro(bs:Th (List Int)) (p:Th Int) u K hb hp0 ho h
 obtain⟨bs,rfl⟩:=a8 bs;obtain⟨p,rfl⟩:=a8 p
 obtain⟨hpre,h⟩:=h
 have hpre:0≤p∧p≤1000000000900:=hpre.out
 refine⟨noAnn,noAnn,20,?_⟩
 cbv
 repeat' first|((with_reducible intro _);cbv)|(with_reducible refine And.intro ?_ ?_)
 all_goals first|(refine retK (h _ _ _ ?_) rfl;clear h)|(with_reducible refine Ob.mk ?_;clear h)|(clear h)
 all_goals(try simp only[eta0,RT.bytes]at *)
 all_goals first|omega|grind[b8,tm]
theorem a6f:b6 Tryz.prog 205 a5F:=j3 b9 (ss := [(21,G0),(48,A9)]) ⟨C1,C9,trivial⟩ rfl rfl<|by
 intro(bs:Th (List Int)) (p:Th Int) ⟨(m:Th PMap),u⟩ K hb hp0 ho h
 obtain⟨m,rfl⟩:=a8 m;obtain⟨bs,rfl⟩:=a8 bs;obtain⟨p,rfl⟩:=a8 p
 obtain⟨hpre,h⟩:=h
 have hpre:0≤p∧p≤1000000000900:=hpre.out
 refine⟨noAnn,noAnn,20,?_⟩
 cbv
 repeat' first|((with_reducible intro _);cbv)|(with_reducible refine And.intro ?_ ?_)
 all_goals first|(refine retK (h _ _ _ _ _ _ ?_) rfl;clear h)|(with_reducible refine Ob.mk ?_;clear h)|(clear h)
 all_goals(try simp only[eta0,RT.bytes]at *)
 all_goals first|omega|grind[b8,tm]
theorem a1l:b6 Tryz.prog 206 a0K:=j3 b9 (ss := [(21,G0)]) ⟨C1,trivial⟩ rfl rfl<|by
 intro(bs:Th (List Int)) (p:Th Int) ⟨(w:Th Wlk),u⟩ K hb hp0 ho h
 obtain⟨w,rfl⟩:=a8 w;obtain⟨bs,rfl⟩:=a8 bs;obtain⟨p,rfl⟩:=a8 p
 obtain⟨hpre,h⟩:=h
 have hpre:0≤p∧p≤1000000000900:=hpre.out
 refine⟨noAnn,noAnn,20,?_⟩
 cbv
 repeat' first|((with_reducible intro _);cbv)|(with_reducible refine And.intro ?_ ?_)
 all_goals first|(refine retK (h _ _ _ _ _ _ ?_) rfl;clear h)|(with_reducible refine Ob.mk ?_;clear h)|(clear h)
 all_goals(try simp only[eta0,RT.bytes]at *)
 all_goals first|omega|grind[b8,tm]
theorem b0j:b6 Tryz.prog 175 a7h:=j3 b9 (ss := [(21,G0),(129,a7a)]) ⟨C1,a6j,trivial⟩ rfl rfl<|by
 intro(bs:Th (List Int)) (p:Th Int) ⟨(n:Th Int),u⟩ K hb hp0 ho h
 obtain⟨n,rfl⟩:=a8 n;obtain⟨bs,rfl⟩:=a8 bs;obtain⟨p,rfl⟩:=a8 p
 obtain⟨hpre,h⟩:=h
 have hpre:0≤p∧p≤1000000000800:=hpre.out
 refine⟨noAnn,noAnn,20,?_⟩
 cbv
 repeat' first|((with_reducible intro _);cbv)|(with_reducible refine And.intro ?_ ?_)
 all_goals first|(refine retK (h _ _ _ _ _ _ ?_) rfl;clear h)|(with_reducible refine Ob.mk ?_;clear h)|(clear h)
 all_goals(try simp only[eta0,RT.bytes]at *)
 all_goals first|omega|grind[b8,tm]
theorem a6i:b6 Tryz.prog 177 a5H:=j3 b9 (ss := [(21,G0),(205,a5F)]) ⟨C1,a6f,trivial⟩ rfl rfl<|by
 intro(bs:Th (List Int)) (p:Th Int) ⟨(m:Th PMap),u⟩ K hb hp0 ho h
 obtain⟨m,rfl⟩:=a8 m;obtain⟨bs,rfl⟩:=a8 bs;obtain⟨p,rfl⟩:=a8 p
 obtain⟨hpre,h⟩:=h
 have hpre:0≤p∧p≤1000000000800:=hpre.out
 refine⟨noAnn,noAnn,20,?_⟩
 cbv
 repeat' first|((with_reducible intro _);cbv)|(with_reducible refine And.intro ?_ ?_)
 all_goals first|(refine retK (h _ _ _ _ _ _ _ _ _ ?_) rfl;clear h)|(with_reducible refine Ob.mk ?_;clear h)|(clear h)
 all_goals(try simp only[eta0,RT.bytes]at *)
 all_goals first|omega|grind[b8,tm]
theorem b7f:b6 Tryz.prog 176 a9s:=j3 b9 (ss := [(21,G0),(177,a5H),(206,a0K)]) ⟨C1,a6i,a1l,trivial⟩ rfl rfl<|by
 intro(bs:Th (List Int)) (p:Th Int) ⟨(m:Th PMap),(n:Th Int),u⟩ K hb hp0 ho h
 obtain⟨m,rfl⟩:=a8 m;obtain⟨n,rfl⟩:=a8 n;obtain⟨bs,rfl⟩:=a8 bs;obtain⟨p,rfl⟩:=a8 p
 obtain⟨hpre,h⟩:=h
 have hpre:0≤p∧p≤1000000000700:=hpre.out
 refine⟨noAnn,noAnn,20,?_⟩
 cbv
 repeat' first|((with_reducible intro _);cbv)|(with_reducible refine And.intro ?_ ?_)
 all_goals first|(refine retK (h _ _ _ _ _ _ _ _ _ ?_) rfl;clear h)|(with_reducible refine Ob.mk ?_;clear h)|(clear h)
 all_goals(try simp only[eta0,RT.bytes]at *)
 all_goals first|omega|grind[b8,tm]
noncomputable def sRec:Sx.Spec:=⟨true,false,[.map,.row .cll],[],fun _ p ⟨m,c,_⟩ => .asrt (fun _=>p9 (m ()) (c ())=true∧0≤p ()∧p ()≤1000000000700) (.all Int fun x0 => .all Int fun x1 => .all Int fun x2 => .all Int fun x3 => .all Int fun x4 => .all Int fun x5 => .all Int fun x6 => .all Int fun x7 => .all Int fun x8 => .all Int fun x9 => .all Int fun x10 => .all Int fun x11 => .all Int fun x12 => .all Int fun x13 => .all Int fun x14 => .all Int fun x15 => .all Int fun q => .asm (fun _=>p ()≤q∧q≤p ()+60) (.ret (.agg [cI x0,cI x1,cI x2,cI x3,cI x4,cI x5,cI x6,cI x7,cI x8,cI x9,cI x10,cI x11,cI x12,cI x13,cI x14,cI x15],fun _=>q)))⟩
theorem d0m:b6 Tryz.prog 248 c6g:=j3 b9 (ss := [(21,G0),(205,a5F),(206,a0K),(56,Y9)]) ⟨C1,a6f,a1l,a1U,trivial⟩ rfl rfl<|by
 intro(bs:Th (List Int)) (p:Th Int) ⟨(m:Th PMap),(n:Th Int),u⟩ K hb hp0 ho h
 obtain⟨m,rfl⟩:=a8 m;obtain⟨n,rfl⟩:=a8 n;obtain⟨bs,rfl⟩:=a8 bs;obtain⟨p,rfl⟩:=a8 p
 obtain⟨hpre,h⟩:=h
 have hpre:0≤p∧p≤1000000000700:=hpre.out
 refine⟨annL [(248,3,⟨List Wlk×Int×Int,[⟨.tmp 7 0,some 11,.wlk⟩],fun σ g=>((((σ.fgs [11]).t 8 (vI fun _=>g.2.1)).t 7 (vO 11 1)).row 11 1 .wlk (fun _=>g.1)).v5 0 1 (.att (.int .i64 fun _=>g.2.2)),
  fun _ g _=>0≤g.2.1∧g.2.1≤5∧(g.1.length:Int)≤5-g.2.1∧p≤g.2.2∧g.2.2≤p+1+10 * (5-g.2.1),fun _ g _=>g.2.1.toNat⟩)],noAnn,20,?_⟩
 cbv
 repeat' first|((with_reducible refine fun(k:Nat) => ?_);cbv)|((with_reducible refine fun(g:List Wlk×Int×Int) => ?_);obtain⟨gl,gk,gq⟩:=g;cbv)|((with_reducible intro _);cbv)|(with_reducible refine And.intro ?_ ?_)
 all_goals try(first|(rename_i w1 w2 w3 w4 w5 q1 hq;obtain⟨L,hL⟩ : ∃L,L=O0 gl ⟨w1,w2,w3,w4,w5⟩:=⟨_,rfl⟩;obtain⟨g1,hg1⟩ : ∃g1,g1=gk-1:=⟨_,rfl⟩;with_reducible refine LoopBack.mk ((L,g1,q1):List Wlk×Int×Int) ?_ ?_ ?_)|(rename_i x1 q1 hq;with_reducible refine LoopIn.mk (([],x1,q1):List Wlk×Int×Int) ?_ ?_))
 all_goals try((first|(with_reducible refine LoopIn.mk ((0:Nat)) ?_ ?_)|(with_reducible refine LoopBack.mk ((0:Nat)) ?_ ?_ ?_)) )
 all_goals try((with_reducible show l8 _ _);cbv;(try simp only[and_true,true_and]))
 all_goals try(repeat' with_reducible refine And.intro ?_ ?_)
 all_goals first|(refine retK (h _ _ ?_) rfl;clear h)|(with_reducible refine Ob.mk ?_;clear h)|(clear h)
 all_goals(try simp only[eta0,RT.bytes]at *)
 all_goals(try simp only[B4,List.length_set]at *)
 all_goals first|omega|grind[b8,a4L]
theorem d3t:b6 Tryz.prog 251 sRec:=j3 b9 (ss := [(21,G0),(177,a5H),(129,a7a),(48,A9)]) ⟨C1,a6i,a6j,C9,trivial⟩ rfl rfl<|by
 intro(bs:Th (List Int)) (p:Th Int) ⟨(m:Th PMap),(c:Th Cll),u⟩ K hb hp0 ho h
 obtain⟨m,rfl⟩:=a8 m;obtain⟨c,rfl⟩:=a8 c;obtain⟨bs,rfl⟩:=a8 bs;obtain⟨p,rfl⟩:=a8 p
 obtain⟨hpre,h⟩:=h
 have hpre:p9 m c=true∧0≤p∧p≤1000000000700:=hpre.out
 have hf:=o7 hpre.1
 have hlen:=Q6 hpre.1
 refine⟨noAnn,noAnn,20,?_⟩
 cbv
 repeat' first|((with_reducible intro _);cbv)|(with_reducible refine And.intro ?_ ?_)
 all_goals first|(refine retK (h _ _ _ _ _ _ _ _ _ _ _ _ _ _ _ _ _ ?_) rfl;clear h)|(with_reducible refine Ob.mk ?_;clear h)|(clear h)
 all_goals(try simp only[eta0,RT.bytes]at *)
 all_goals first|omega|grind[b8,tm]
def St.rcll (σ : St) (k:Nat) (c:Th Cll):St:=(((((σ.v5 k 0 (.att (.int .i64 fun _=>(c ()).cell))).v5 k 1 (.att (.list .wlk fun _=>(c ()).wlks))).v5 k 2 (.att (.int .i64 fun _=>(c ()).ground))).v5 k 3 (.att (.list .pcls fun _=>(c ()).outs))).v5 k 4 (.att (.list .int fun _=>(c ()).next))).v5 k 5 (.att (.list .int fun _=>(c ()).ins))
def rC (a:Int) (b:List Wlk) (c:Int) (d:List (List Pcl)) (e f:List Int):V := .agg [cI a,.att (.list .wlk fun _=>b),cI c,.att (.list .pcls fun _=>d),.att (.list .int fun _=>e),.att (.list .int fun _=>f)]
noncomputable def b6f:Sx.Spec:=⟨false,false,[.map,.int .i64,.list .wlk],[nCll],fun _ _ ⟨m,c,l,_⟩ => .all Int fun a => .all (List Wlk) fun b => .all Int fun c => .all (List (List Pcl)) fun d => .all (List Int) fun e => .all (List Int) fun f => .asm (fun _=>(l ()).length≤10→small b d) (.ret (rC a b c d e f,fun _=>0))⟩
noncomputable def b6h:Sx.Spec:=⟨true,false,[.map,.row .cll],[nCll],fun _ p ⟨m,c0,_⟩ => .asrt (fun _=>small (c0 ()).wlks (c0 ()).outs∧0≤p ()∧p ()≤999999990000) (.all Int fun a => .all (List Wlk) fun b => .all Int fun c => .all (List (List Pcl)) fun d => .all (List Int) fun e => .all (List Int) fun f => .all Int fun q => .asm (fun _=>p ()≤q∧q≤p ()+100) (.ret (rC a b c d e f,fun _=>q)))⟩
theorem b9l:b6 Tryz.prog 157 b6f:=j3 b9 (ss := [(48,A9),(97,sIn),(103,U3),(156,C8)]) ⟨C9,G7,V8,I0,trivial⟩ rfl rfl<|by
 intro(bs:Th (List Int)) (p:Th Int) ⟨(m:Th PMap),(c:Th Int),(l:Th (List Wlk)),u⟩ K hb hp0 ho h
 obtain⟨m,rfl⟩:=a8 m;obtain⟨c,rfl⟩:=a8 c;obtain⟨l,rfl⟩:=a8 l
 have hl:=okB (ho.2.2.1 _ (.head _))
 refine⟨annL [(157,5,⟨List Wlk×Nat,[⟨.cell 8 1,some 500,.wlk⟩],fun σ g=>(((σ.fgs [29,30,500]).t 8 (vI fun _=>(g.2:Int))).v5 8 1 (.own 500 1)).row 500 1 .wlk (fun _=>g.1),fun _ g _=>g.1.length≤g.2∧g.2≤l.length,fun _ g _=>l.length-g.2⟩)],noAnn,20,?_⟩
 cbv
 repeat' first|((with_reducible refine fun(k:Nat) => ?_);cbv)|((with_reducible refine fun(g:List Wlk×Nat) => ?_);obtain⟨gl,gk⟩:=g;cbv)|((with_reducible intro _);cbv)|(with_reducible refine And.intro ?_ ?_)
 all_goals try(first|(with_reducible refine LoopIn.mk (([],0):List Wlk×Nat) ?_ ?_) |
  (rename_i hc;have hc:decide (m5 m (nth .wlk l gk).pos=c)=true:=(by first|exact hc|exact decide_eq_true hc);obtain⟨L,hL⟩ : ∃L,L=gl ++ [nth .wlk l gk]:=⟨_,rfl⟩;with_reducible refine LoopBack.mk ((L,gk+1):List Wlk×Nat) ?_ ?_ ?_) |
  (with_reducible refine LoopBack.mk ((gl,gk+1):List Wlk×Nat) ?_ ?_ ?_))
 all_goals try((first|(with_reducible refine LoopIn.mk ((0:Nat)) ?_ ?_)|(with_reducible refine LoopBack.mk ((0:Nat)) ?_ ?_ ?_)) )
 all_goals try((with_reducible show l8 _ _);cbv;(try simp only[and_true,true_and]))
 all_goals try(repeat' with_reducible refine And.intro ?_ ?_)
 all_goals first|(refine retK (h _ _ _ _ _ _ ?_) rfl;clear h)|(refine retK (h _ _ _ _ _ _ ?_) rfl)|(with_reducible refine Ob.mk ?_;clear h)|(clear h)
 all_goals(try simp only[eta0,RT.bytes]at *)
 all_goals grind[j4,a3Z,c3i]
theorem c4i:b6 Tryz.prog 204 b6h:=j3 b9 (ss := [(21,G0),(167,N7),(205,a5F),(177,a5H),(206,a0K)]) ⟨C1,Z9,a6f,a6i,a1l,trivial⟩ rfl rfl<|by
 intro(bs:Th (List Int)) (p:Th Int) ⟨(m:Th PMap),(c:Th Cll),u⟩ K hb hp0 ho h
 obtain⟨m,rfl⟩:=a8 m;obtain⟨c,rfl⟩:=a8 c;obtain⟨bs,rfl⟩:=a8 bs;obtain⟨p,rfl⟩:=a8 p
 obtain⟨hpre,h⟩:=h
 have hpre:small c.wlks c.outs∧0≤p∧p≤999999990000:=hpre.out
 have hsm:=hpre.1.2
 have hsw:=hpre.1.1
 obtain⟨hw,hou,hoi,hn,hi,_,_⟩:=a8e ho.2.1
 refine⟨noAnn,noAnn,20,?_⟩
 cbv
 repeat' first|((with_reducible intro _);cbv)|(with_reducible refine And.intro ?_ ?_)
 all_goals first|(refine retK (h _ _ _ _ _ _ _ ?_) rfl;clear h)|(with_reducible refine Ob.mk ?_;clear h)|(clear h)
 all_goals(try simp only[eta0,RT.bytes]at *)
 all_goals(try simp only[B4,List.length_set]at *)
 all_goals first|omega|grind[b8]
section
variable {w:Wld} {e:Evt} (h:j6 w=true)
include h
end
end Go.Proofs.YtiioognflecdgaaGreat
namespace Go.Mo
open Go.Sx
theorem c7v {a b:Note}:a=b↔a.who=b.who∧a.seq=b.seq∧a.code=b.code:=by
 cases a;cases b;simp
theorem d0F {a b:PMap}:a=b↔a.cells=b.cells∧a.width=b.width:=by
 cases a;cases b;simp
theorem d1u {a b:Arb}:a=b↔a.servers=b.servers∧a.ages=b.ages:=by
 cases a;cases b;simp
theorem c9w {a b:Wld}:a=b↔a.map=b.map∧a.servers=b.servers∧a.stores=b.stores∧a.table=b.table∧a.rows=b.rows∧a.net=b.net∧a.notes=b.notes:=by
 cases a;cases b;simp
end Go.Mo
namespace Go.Proofs.YtiioognflecdgaaGreat
open Go.Sx Go.Proofs Go.Mo
noncomputable def b2h:Sx.Spec:=⟨false,true,[.list .gst,.list .gst],[],fun _ _ ⟨a,b,_⟩ => .ret (vB fun _=>decide (a ()=b ()),fun _=>0)⟩
noncomputable def c6m:Sx.Spec:=⟨false,true,[.list .msg,.list .msg],[],fun _ _ ⟨a,b,_⟩ => .ret (vB fun _=>decide (a ()=b ()),fun _=>0)⟩
noncomputable def b6b:Sx.Spec:=⟨false,true,[.list .note,.list .note],[],fun _ _ ⟨a,b,_⟩ => .ret (vB fun _=>decide (a ()=b ()),fun _=>0)⟩
noncomputable def b2g:Sx.Spec:=⟨false,true,[.list .sto,.list .sto],[],fun _ _ ⟨a,b,_⟩ => .ret (vB fun _=>decide (a ()=b ()),fun _=>0)⟩
noncomputable def a9p:Sx.Spec:=⟨false,true,[.list .srv,.list .srv],[],fun _ _ ⟨a,b,_⟩ => .ret (vB fun _=>decide (a ()=b ()),fun _=>0)⟩
noncomputable def sIsV:Sx.Spec:=⟨false,true,[.row .srv,.row .srv],[],fun _ _ ⟨a,b,_⟩ => .ret (vB fun _=>decide (a ()=b ()),fun _=>0)⟩
noncomputable def c6l:Sx.Spec:=⟨false,true,[.row .wld,.row .wld],[],fun _ _ ⟨a,b,_⟩ => .ret (vB fun _=>decide (a ()=b ()),fun _=>0)⟩
theorem b9p:b6 Tryz.prog 133 b2h:=j3 b9 (ss := []) trivial rfl rfl<|by
 intro(bs:Th (List Int)) (p:Th Int) ⟨(a:Th (List Gst)),(b:Th (List Gst)),u⟩ K _ _ ho h
 obtain⟨a,rfl⟩:=a8 a;obtain⟨b,rfl⟩:=a8 b
 have hl:=okL (ho.1 _ (.head _))
 refine⟨annL [(133,4,⟨Nat,[],fun σ k => σ.t 5 (vI fun _=>(k:Int)),fun _ k _=>k≤a.length∧a.length=b.length∧same .gst a b k,fun _ k _=>a.length-k⟩)],noAnn,20,?_⟩
 cbv
 repeat' first|((with_reducible refine fun(k:Nat) => ?_);cbv)|((with_reducible intro _);cbv)|(with_reducible refine And.intro ?_ ?_)
 all_goals try((first|(with_reducible refine LoopIn.mk ((0:Nat)) ?_ ?_)|(with_reducible refine LoopBack.mk ((k+1:Nat)) ?_ ?_ ?_)) )
 all_goals try((with_reducible show l8 _ _);cbv;(try simp only[and_true,true_and]))
 all_goals try(repeat' with_reducible refine And.intro ?_ ?_)
 all_goals first|(refine retK h ?_;clear h;simp only[fin0])|(with_reducible refine Ob.mk ?_;clear h)|(clear h)
 all_goals(try simp only[eta0,RT.bytes]at *)
 all_goals grind[j4,I7,I8,N0,c1Y,a5q]
theorem d0t:b6 Tryz.prog 44 c6m:=j3 b9 (ss := []) trivial rfl rfl<|by
 intro(bs:Th (List Int)) (p:Th Int) ⟨(a:Th (List Msg)),(b:Th (List Msg)),u⟩ K _ _ ho h
 obtain⟨a,rfl⟩:=a8 a;obtain⟨b,rfl⟩:=a8 b
 have hl:=okL (ho.1 _ (.head _))
 refine⟨annL [(44,4,⟨Nat,[],fun σ k => σ.t 5 (vI fun _=>(k:Int)),fun _ k _=>k≤a.length∧a.length=b.length∧same .msg a b k,fun _ k _=>a.length-k⟩)],noAnn,20,?_⟩
 cbv
 repeat' first|((with_reducible refine fun(k:Nat) => ?_);cbv)|((with_reducible intro _);cbv)|(with_reducible refine And.intro ?_ ?_)
 all_goals try((first|(with_reducible refine LoopIn.mk ((0:Nat)) ?_ ?_)|(with_reducible refine LoopBack.mk ((k+1:Nat)) ?_ ?_ ?_)) )
 all_goals try((with_reducible show l8 _ _);cbv;(try simp only[and_true,true_and]))
 all_goals try(repeat' with_reducible refine And.intro ?_ ?_)
 all_goals first|(refine retK h ?_;clear h;simp only[fin0])|(with_reducible refine Ob.mk ?_;clear h)|(clear h)
 all_goals(try simp only[eta0,RT.bytes]at *)
 all_goals grind[j4,I7,I8,N0,d0D,a6c,b4g,c1Y,a5q]
theorem c4a:b6 Tryz.prog 45 b6b:=j3 b9 (ss := []) trivial rfl rfl<|by
 intro(bs:Th (List Int)) (p:Th Int) ⟨(a:Th (List Note)),(b:Th (List Note)),u⟩ K _ _ ho h
 obtain⟨a,rfl⟩:=a8 a;obtain⟨b,rfl⟩:=a8 b
 have hl:=okL (ho.1 _ (.head _))
 refine⟨annL [(45,4,⟨Nat,[],fun σ k => σ.t 5 (vI fun _=>(k:Int)),fun _ k _=>k≤a.length∧a.length=b.length∧same .note a b k,fun _ k _=>a.length-k⟩)],noAnn,20,?_⟩
 cbv
 repeat' first|((with_reducible refine fun(k:Nat) => ?_);cbv)|((with_reducible intro _);cbv)|(with_reducible refine And.intro ?_ ?_)
 all_goals try((first|(with_reducible refine LoopIn.mk ((0:Nat)) ?_ ?_)|(with_reducible refine LoopBack.mk ((k+1:Nat)) ?_ ?_ ?_)) )
 all_goals try((with_reducible show l8 _ _);cbv;(try simp only[and_true,true_and]))
 all_goals try(repeat' with_reducible refine And.intro ?_ ?_)
 all_goals first|(refine retK h ?_;clear h;simp only[fin0])|(with_reducible refine Ob.mk ?_;clear h)|(clear h)
 all_goals(try simp only[eta0,RT.bytes]at *)
 all_goals grind[j4,I7,I8,N0,c7v]
theorem b9n:b6 Tryz.prog 41 b2g:=j3 b9 (ss := [(92,sIsS)]) ⟨c3Z,trivial⟩ rfl rfl<|by
 intro(bs:Th (List Int)) (p:Th Int) ⟨(a:Th (List Sto)),(b:Th (List Sto)),u⟩ K _ _ ho h
 obtain⟨a,rfl⟩:=a8 a;obtain⟨b,rfl⟩:=a8 b
 have hl:=okL (ho.1 _ (.head _))
 refine⟨annL [(41,4,⟨Nat,[],fun σ k => σ.t 5 (vI fun _=>(k:Int)),fun _ k _=>k≤a.length∧a.length=b.length∧same .sto a b k,fun _ k _=>a.length-k⟩)],noAnn,20,?_⟩
 cbv
 repeat' first|((with_reducible refine fun(k:Nat) => ?_);cbv)|((with_reducible intro _);cbv)|(with_reducible refine And.intro ?_ ?_)
 all_goals try((first|(with_reducible refine LoopIn.mk ((0:Nat)) ?_ ?_)|(with_reducible refine LoopBack.mk ((k+1:Nat)) ?_ ?_ ?_)) )
 all_goals try((with_reducible show l8 _ _);cbv;(try simp only[and_true,true_and]))
 all_goals try(repeat' with_reducible refine And.intro ?_ ?_)
 all_goals first|(refine retK h ?_;clear h;simp only[fin0])|(with_reducible refine Ob.mk ?_;clear h)|(clear h)
 all_goals(try simp only[eta0,RT.bytes]at *)
 all_goals grind[j4,I7,I8,N0]
theorem b9o:b6 Tryz.prog 91 sIsV:=j3 b9 (ss := [(133,b2h),(134,sIsH)]) ⟨b9p,c7g,trivial⟩ rfl rfl<|by
 intro(bs:Th (List Int)) (p:Th Int) ⟨(a:Th Srv),(b:Th Srv),u⟩ K _ _ ho h
 obtain⟨a,rfl⟩:=a8 a;obtain⟨b,rfl⟩:=a8 b
 have hl:=okL (ho.1 _ (.tail _ (.head _)))
 refine⟨annL [(91,4,⟨Nat,[],fun σ k => σ.t 5 (vI fun _=>(k:Int)),fun _ k _=>k≤a.holds.length∧a.holds.length=b.holds.length∧a.up=b.up∧a.n6=b.n6∧same .hld a.holds b.holds k,fun _ k _=>a.holds.length-k⟩)],noAnn,20,?_⟩
 cbv
 repeat' first|((with_reducible refine fun(k:Nat) => ?_);cbv)|((with_reducible intro _);cbv)|(with_reducible refine And.intro ?_ ?_)
 all_goals try((first|(with_reducible refine LoopIn.mk ((0:Nat)) ?_ ?_)|(with_reducible refine LoopBack.mk ((k+1:Nat)) ?_ ?_ ?_)) )
 all_goals try((with_reducible show l8 _ _);cbv;(try simp only[and_true,true_and]))
 all_goals try(repeat' with_reducible refine And.intro ?_ ?_)
 all_goals first|(refine retK h ?_;clear h;simp only[fin0])|(with_reducible refine Ob.mk ?_;clear h)|(clear h)
 all_goals(try simp only[eta0,RT.bytes]at *)
 all_goals grind[j4,I7,I8,N0,c0K]
theorem b6V:b6 Tryz.prog 40 a9p:=j3 b9 (ss := [(91,sIsV)]) ⟨b9o,trivial⟩ rfl rfl<|by
 intro(bs:Th (List Int)) (p:Th Int) ⟨(a:Th (List Srv)),(b:Th (List Srv)),u⟩ K _ _ ho h
 obtain⟨a,rfl⟩:=a8 a;obtain⟨b,rfl⟩:=a8 b
 have hl:=okL (ho.1 _ (.head _))
 refine⟨annL [(40,4,⟨Nat,[],fun σ k => σ.t 5 (vI fun _=>(k:Int)),fun _ k _=>k≤a.length∧a.length=b.length∧same .srv a b k,fun _ k _=>a.length-k⟩)],noAnn,20,?_⟩
 cbv
 repeat' first|((with_reducible refine fun(k:Nat) => ?_);cbv)|((with_reducible intro _);cbv)|(with_reducible refine And.intro ?_ ?_)
 all_goals try((first|(with_reducible refine LoopIn.mk ((0:Nat)) ?_ ?_)|(with_reducible refine LoopBack.mk ((k+1:Nat)) ?_ ?_ ?_)) )
 all_goals try((with_reducible show l8 _ _);cbv;(try simp only[and_true,true_and]))
 all_goals try(repeat' with_reducible refine And.intro ?_ ?_)
 all_goals first|(refine retK h ?_;clear h;simp only[fin0])|(with_reducible refine Ob.mk ?_;clear h)|(clear h)
 all_goals(try simp only[eta0,RT.bytes]at *)
 all_goals grind[j4,I7,I8,N0]
theorem c3Y:b6 Tryz.prog 14 c6l:=j3 b9 (ss := [(40,a9p),(41,b2g),(42,sIsI),(43,sIsB),(44,c6m),(45,b6b)]) ⟨b6V,b9n,b6X,c6Z,d0t,c4a,trivial⟩ rfl rfl<|by
 intro(bs:Th (List Int)) (p:Th Int) ⟨(a:Th Wld),(b:Th Wld),u⟩ K _ _ ho h
 obtain⟨a,rfl⟩:=a8 a;obtain⟨b,rfl⟩:=a8 b
 refine⟨noAnn,noAnn,20,?_⟩
 cbv
 repeat' first|((with_reducible intro _);cbv)|(with_reducible refine And.intro ?_ ?_)
 all_goals first|(refine retK h ?_;clear h;simp only[fin0])|(with_reducible refine Ob.mk ?_;clear h)|(clear h)
 all_goals(try simp only[eta0,RT.bytes]at *)
 all_goals grind(splits:=30) [c9w,d1u,d0F]
end Go.Proofs.YtiioognflecdgaaGreat
namespace Go.Sx
end Go.Sx
namespace Go.Proofs.YtiioognflecdgaaGreat
open Go.Sx Go.Proofs Go.Mo
noncomputable def c5B (p:Th Int) (B n:Int):Rn (V×Th Int) := .asrt (fun _=>0≤p ()∧p ()≤B) (.all Int fun a => .all Int fun b => .all (List Srv) fun c => .all (List Sto) fun d => .all (List Int) fun e => .all (List Int) fun f => .all (List Row) fun g => .all (List Msg) fun h => .all (List Note) fun i => .all Int fun q => .asm (fun _=>p ()≤q∧q≤p ()+n∧j6 ⟨⟨a,b⟩,c,d,⟨e,f⟩,g,h,i⟩=true) (.ret (rWld a b c d e f g h i,fun _=>q)))
noncomputable def c6s:Sx.Spec:=⟨true,false,[],[nWld],fun _ p _=>c5B p 980000000000 100⟩
noncomputable def b3M:Sx.Spec:=⟨true,false,[],[nWld],fun _ p _=>c5B p 970000000000 200000⟩
theorem d0y:b6 Tryz.prog 19 c6s:=j3 b9 (ss := [(21,G0),(56,Y9),(57,b3N),(47,a0A)]) ⟨C1,a1U,b2B,a0M,trivial⟩ rfl rfl<|by
 intro(bs:Th (List Int)) (p:Th Int) u K hb hp0 ho h
 obtain⟨bs,rfl⟩:=a8 bs;obtain⟨p,rfl⟩:=a8 p
 obtain⟨hpre,h⟩:=h
 have hpre:0≤p∧p≤980000000000:=hpre.out
 refine⟨annL [(19,4,⟨Th (List Wlk)×Th Int×Th Int,[⟨.tmp 4 0,some 16,.wlk⟩],fun σ g=>((((σ.fgs [16]).t 5 (.one (.att (.int .i64 g.2.1)))).t 4 (vO 16 1)).h 16 (1,.row true 0 .wlk g.1)).v5 0 1 (.att (.int .i64 g.2.2)),
   fun σ g _=>Ob (begC (asI (σ.ce 4 0)) (asI (σ.ce 4 1)) g.1 g.2.1 g.2.2 p),fun _ g _=>(g.2.1 ()).toNat⟩),
  (19,9,⟨Th Wld×Th Int×Th Int,[⟨.cell 7 2,none,.srv⟩,⟨.cell 7 3,none,.sto⟩,⟨.cell 7 4,none,.int⟩,⟨.cell 7 5,none,.int⟩,⟨.cell 7 6,none,.row⟩,⟨.cell 7 7,none,.msg⟩,⟨.cell 7 8,none,.note⟩],fun σ g=>((((St.kill σ [23810,23811,23812,23813,23814,23815,23816]).only [0,2,3,6]).t 7 (.one (.att (.int .i64 g.2.1)))).a3Q 7 0 (W7 g.1)).v5 0 1 (.att (.int .i64 g.2.2)),
   fun _ g _=>Ob fun _=>j6 (g.1 ())=true∧0≤g.2.1 ()∧g.2.1 ()≤4∧p≤g.2.2 ()∧g.2.2 ()≤p+20+2 * g.2.1 (),fun _ g _=>(4-g.2.1 ()).toNat⟩)],noAnn,20,?_⟩
 cbv
 repeat' first|((with_reducible refine fun(g:Th (List Wlk)×Th Int×Th Int) => ?_);obtain⟨l,k,q⟩:=g;obtain⟨l,rfl⟩:=a8 l;obtain⟨k,rfl⟩:=a8 k;obtain⟨q,rfl⟩:=a8 q;(with_reducible refine ImpB.out ?_);cbv;(with_reducible refine ImpB.mk ?_);intro hq;obtain⟨hq⟩:=hq)|((with_reducible refine fun(g:Th Wld×Th Int×Th Int) => ?_);obtain⟨w,c,q⟩:=g;obtain⟨w,rfl⟩:=a8 w;obtain⟨c,rfl⟩:=a8 c;obtain⟨q,rfl⟩:=a8 q;(with_reducible refine ImpB.out ?_);cbv;(with_reducible refine ImpB.mk ?_);intro hq;obtain⟨hq⟩:=hq)|((with_reducible intro _);cbv)|(with_reducible refine And.intro ?_ ?_)
 all_goals try((first|(with_reducible refine LoopIn.wf (fun σ => (σ.rowL .wlk 16,σ.tmI 5,asI (σ.ce 0 1))) ?_ ?_)|(with_reducible refine LoopBack.wf (fun σ => (σ.rowL .wlk 16,σ.tmI 5,asI (σ.ce 0 1))) ?_ ?_ ?_)|(with_reducible refine LoopIn.wf (fun σ => (a2U σ 7,σ.tmI 7,asI (σ.ce 0 1))) ?_ ?_)|(with_reducible refine LoopBack.wf (fun σ => (a2U σ 7,σ.tmI 7,asI (σ.ce 0 1))) ?_ ?_ ?_))<;>cbv)
 all_goals try(with_reducible show _∧_;(try simp only[and_true,true_and]))
 all_goals try(repeat' with_reducible refine And.intro ?_ ?_)
 all_goals try(with_reducible refine MeasB.mk ?_)
 all_goals first|(refine retK (h _ _ _ _ _ _ _ _ _ _ ?_) rfl;clear h)|(with_reducible refine Ob.mk ?_;clear h)|(clear h)
 all_goals(try simp only[eta0,RT.bytes]at *)
 all_goals(try simp only[begC]at *)
 all_goals(try dsimp only[RT.ty]at *)
 all_goals(try simp only[M1]at *)
 all_goals(try(have hfew:=b3t hq.2.1))
 all_goals(try(first|omega|rfl|exact⟨by omega,by omega,hq.1⟩))
 ·rename_i x5 x4 ha x3 x2 hb1 x1 x0 hc
  have hw:IntKind.i64.wrap (1+x1)=1+x1:=b8 (by omega) (by omega)
  rw[hw]
  exact⟨c2D ⟨ha.1,ha.2.1⟩ ⟨hb1.1,hb1.2.1⟩,by simp[z6,l9],by omega,by omega,by omega,by omega⟩
 ·rename_i x3 x2 ha x1 x0 hb1 hk
  have hw:IntKind.i64.wrap (k-1)=k-1:=b8 (by omega) (by omega)
  rw[hw]
  exact⟨hq.1,c2C hq.1 hq.2.1 hk (by omega) ⟨ha.1,ha.2.1⟩ ⟨hb1.1,hb1.2.1⟩,by omega,by omega,by omega,by omega⟩
 ·have hw:IntKind.i64.wrap (k-1)=k-1:=b8 (by omega) (by omega)
  rw[hw]
  omega
 ·rename_i x1 x0 hc hk
  have hw:IntKind.i64.wrap (1+x1)=1+x1:=b8 (by omega) (by omega)
  exact⟨@b1M ⟨_,_⟩ l (IntKind.i64.wrap (1+x1)) hq.1 hq.2.1 (by rw[hw];omega) (by rw[hw];omega),by omega,by omega,by omega,by omega⟩
 ·refine⟨a6W _ (a6W _ hq.1),?_⟩
  grind[b8]
 ·grind[b8]
theorem b4o:b6 Tryz.prog 89 b3M:=j3 b9 (ss := [(19,c6s),(21,G0),(20,b3Q)]) ⟨d0y,C1,b6R,trivial⟩ rfl rfl<|by
 intro(bs:Th (List Int)) (p:Th Int) u K hb hp0 ho h
 obtain⟨bs,rfl⟩:=a8 bs;obtain⟨p,rfl⟩:=a8 p
 obtain⟨hpre,h⟩:=h
 have hpre:0≤p∧p≤970000000000:=hpre.out
 refine⟨noAnn,noAnn,20,?_⟩
 cbv
 repeat' first|((with_reducible intro _);cbv)|(with_reducible refine And.intro ?_ ?_)
 all_goals first|(refine retK (h _ _ _ _ _ _ _ _ _ _ ?_) rfl;clear h)|(with_reducible refine Ob.mk ?_;clear h)|(clear h)
 all_goals(try simp only[eta0,RT.bytes]at *)
 all_goals(try dsimp only[RT.ty]at *)
 all_goals(try simp only[M1]at *)
 all_goals(first|rfl|omega|grind[b8,a1C,wP]|(rename_i xa xb xc xd xe xf xg xh xi xq hw y3 y2 hy y1 y0 hz;have hfew:=a1C hw.2.2;have hm := @d0G y1 y3 hz.1 (hz.2.1 (by omega)) hy.1 (hy.2.1 (by omega));dsimp only at hfew;exact⟨by omega,by omega,Int.le_trans hm (by decide),by omega,by omega⟩))
noncomputable def c6r:Sx.Spec:=⟨true,false,[.int .i64],[nWld,[some .row]],fun _ p ⟨n,_⟩ => .asrt (fun _=>0≤p ()∧p ()≤960000000000) (.all Int fun a => .all Int fun b => .all (List Srv) fun c => .all (List Sto) fun d => .all (List Int) fun e => .all (List Int) fun f => .all (List Row) fun g => .all (List Msg) fun h => .all (List Note) fun i => .all (List Row) fun r => .all Int fun q => .asm (fun _=>p ()≤q∧q≤p ()+300000∧j6 ⟨⟨a,b⟩,c,d,⟨e,f⟩,g,h,i⟩=true∧r.length≤10) (.ret (.tup [rWld a b c d e f g h i,.agg [.att (.list .row fun _=>r)]],fun _=>q)))⟩
theorem d0x:b6 Tryz.prog 130 c6r:=j3 b9 (ss := [(89,b3M),(94,a2A),(21,G0),(175,a7h)]) ⟨b4o,a4j,C1,b0j,trivial⟩ rfl rfl<|by
 intro(bs:Th (List Int)) (p:Th Int) ⟨(n:Th Int),u⟩ K hb hp0 ho h
 obtain⟨n,rfl⟩:=a8 n;obtain⟨bs,rfl⟩:=a8 bs;obtain⟨p,rfl⟩:=a8 p
 obtain⟨hpre,h⟩:=h
 have hpre:0≤p∧p≤960000000000:=hpre.out
 have hk : ∀(a b:Int) (c:List Srv) (d:List Sto) (e f:List Int) (g:List Row) (h:List Msg) (i:List Note),j6 ⟨⟨a,b⟩,c,d,⟨e,f⟩,g,h,i⟩=true→g.length≤9:=fun a b c d e f g h i w=>(a1C w).1
 refine⟨noAnn,noAnn,20,?_⟩
 cbv
 repeat' first|((with_reducible intro _);cbv)|(with_reducible refine And.intro ?_ ?_)
 all_goals first|(refine retK (h _ _ _ _ _ _ _ _ _ _ _ ?_) rfl;clear h)|(with_reducible refine Ob.mk ?_;clear h)|(clear h)
 all_goals(try simp only[eta0,RT.bytes]at *)
 all_goals(try dsimp only[RT.ty]at *)
 all_goals(try simp only[M1]at *)
 all_goals(first|rfl|omega|grind[List.length_set])
end Go.Proofs.YtiioognflecdgaaGreat
