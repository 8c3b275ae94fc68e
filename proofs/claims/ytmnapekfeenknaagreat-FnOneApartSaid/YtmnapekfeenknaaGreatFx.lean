/- What some ends alone need. -/
import Derived.Test.YtmnapekfeenknaaGreatInsW
import Derived.Test.YtmnapekfeenknaaGreatFnI
import Derived.Test.YtmnapekfeenknaaGreatFnJ
import Derived.Test.YtmnapekfeenknaaGreatFnM
import Derived.Test.YtmnapekfeenknaaGreatGnE
import Derived.Test.YtmnapekfeenknaaGreatGnC
import Derived.Test.YtmnapekfeenknaaGreatGvC
import Derived.Test.YtmnapekfeenknaaGreatFnQ
import Derived.Test.YtmnapekfeenknaaGreatGvI
import Derived.Test.YtmnapekfeenknaaGreatGnVe
import Derived.Test.YtmnapekfeenknaaGreatGnO
import Derived.Test.YtmnapekfeenknaaGreatGnT
import Derived.Test.YtmnapekfeenknaaGreatGvQ
import Derived.Test.YtmnapekfeenknaaGreatGnX
import Derived.Test.YtmnapekfeenknaaGreatGvD
import Derived.Test.YtmnapekfeenknaaGreatGvDo
import Derived.Test.YtmnapekfeenknaaGreatMx
set_option linter.unusedVariables false
set_option linter.unusedSimpArgs false
set_option maxRecDepth 100000
set_option maxHeartbeats 16000000
namespace Go.Proofs.YtmnapekfeenknaaGreat
open Go.Sx Go.Proofs Go.Mo
end Go.Proofs.YtmnapekfeenknaaGreat
namespace Go.Mo
open Go.Sx
theorem b7d {a b:Pcl}:a=b↔a.n=b.n∧a.kind=b.kind∧a.wlk=b.wlk∧a.j8=b.j8:=by
 cases a;cases b;simp
theorem d5g {a b:Rec}:a=b↔a.kind=b.kind∧a.ord=b.ord∧a.side=b.side∧a.pcl=b.pcl∧a.n=b.n:=by
 cases a;cases b;simp
theorem d6E {a b:Cll}:a=b↔a.cell=b.cell∧a.wlks=b.wlks∧a.ground=b.ground∧a.outs=b.outs∧a.next=b.next∧a.ins=b.ins:=by
 cases a;cases b;simp
end Go.Mo
namespace Go.Proofs.YtmnapekfeenknaaGreat
open Go.Sx Go.Proofs Go.Mo
noncomputable def sIsW:Sx.Spec:=⟨false,true,[.list .wlk,.list .wlk],[],fun _ _ ⟨a,b,_⟩ => .ret (vB fun _=>decide (a ()=b ()),fun _=>0)⟩
noncomputable def sIsP:Sx.Spec:=⟨false,true,[.list .pcl,.list .pcl],[],fun _ _ ⟨a,b,_⟩ => .ret (vB fun _=>decide (a ()=b ()),fun _=>0)⟩
noncomputable def sIsR:Sx.Spec:=⟨false,true,[.list .rcd,.list .rcd],[],fun _ _ ⟨a,b,_⟩ => .ret (vB fun _=>decide (a ()=b ()),fun _=>0)⟩
noncomputable def sIsC:Sx.Spec:=⟨false,true,[.row .cll,.row .cll],[],fun _ _ ⟨a,b,_⟩ => .ret (vB fun _=>decide (a ()=b ()),fun _=>0)⟩
theorem d1W:b9 Tryz.prog 204 sIsW:=j5 j3 (ss := []) trivial rfl rfl<|by
 intro(bs:Th (List Int)) (p:Th Int) ⟨(a:Th (List Wlk)),(b:Th (List Wlk)),u⟩ K _ _ ho h
 obtain⟨a,rfl⟩:=b6 a;obtain⟨b,rfl⟩:=b6 b
 have hl:=okL (ho.1 _ (.head _))
 refine⟨annL [(204,4,⟨Nat,[],fun σ k => σ.t 5 (vI fun _=>(k:Int)),fun _ k _=>k≤a.length∧a.length=b.length∧same .wlk a b k,fun _ k _=>a.length-k⟩)],noAnn,20,?_⟩
 cbv
 repeat' first|((with_reducible refine fun(k:Nat) => ?_);cbv)|((with_reducible intro _);cbv)|(with_reducible refine And.intro ?_ ?_)
 all_goals try((first|(with_reducible refine LoopIn.mk ((0:Nat)) ?_ ?_)|(with_reducible refine LoopBack.mk ((k+1:Nat)) ?_ ?_ ?_)) )
 all_goals try((with_reducible show l9 _ _);cbv;(try simp only[and_true,true_and]))
 all_goals try(repeat' with_reducible refine And.intro ?_ ?_)
 all_goals first|(refine retK h ?_;clear h;simp only[fin0])|(with_reducible refine Ob.mk ?_;clear h)|(clear h)
 all_goals(try simp only[eta0,RT.bytes]at *)
 all_goals grind[j4,K6,K7,O4,a5N]
theorem c0o:b9 Tryz.prog 205 sIsP:=j5 j3 (ss := []) trivial rfl rfl<|by
 intro(bs:Th (List Int)) (p:Th Int) ⟨(a:Th (List Pcl)),(b:Th (List Pcl)),u⟩ K _ _ ho h
 obtain⟨a,rfl⟩:=b6 a;obtain⟨b,rfl⟩:=b6 b
 have hl:=okL (ho.1 _ (.head _))
 refine⟨annL [(205,4,⟨Nat,[],fun σ k => σ.t 5 (vI fun _=>(k:Int)),fun _ k _=>k≤a.length∧a.length=b.length∧same .pcl a b k,fun _ k _=>a.length-k⟩)],noAnn,20,?_⟩
 cbv
 repeat' first|((with_reducible refine fun(k:Nat) => ?_);cbv)|((with_reducible intro _);cbv)|(with_reducible refine And.intro ?_ ?_)
 all_goals try((first|(with_reducible refine LoopIn.mk ((0:Nat)) ?_ ?_)|(with_reducible refine LoopBack.mk ((k+1:Nat)) ?_ ?_ ?_)) )
 all_goals try((with_reducible show l9 _ _);cbv;(try simp only[and_true,true_and]))
 all_goals try(repeat' with_reducible refine And.intro ?_ ?_)
 all_goals first|(refine retK h ?_;clear h;simp only[fin0])|(with_reducible refine Ob.mk ?_;clear h)|(clear h)
 all_goals(try simp only[eta0,RT.bytes]at *)
 all_goals grind[j4,K6,K7,O4,a5N,b7d]
theorem c0p:b9 Tryz.prog 176 sIsC:=j5 j3 (ss := [(204,sIsW),(19,sIsI),(205,sIsP)]) ⟨d1W,a8t,c0o,trivial⟩ rfl rfl<|by
 intro(bs:Th (List Int)) (p:Th Int) ⟨(a:Th Cll),(b:Th Cll),u⟩ K _ _ ho h
 obtain⟨a,rfl⟩:=b6 a;obtain⟨b,rfl⟩:=b6 b
 have hl:=(b2A ho.1).o
 refine⟨annL [(176,4,⟨Nat,[],fun σ k => σ.t 5 (vI fun _=>(k:Int)),fun _ k _=>k≤a.outs.length∧a.outs.length=b.outs.length∧same .pcls a.outs b.outs k∧a.cell=b.cell∧a.ground=b.ground∧a.wlks=b.wlks∧a.next=b.next∧a.ins=b.ins,fun _ k _=>a.outs.length-k⟩)],noAnn,20,?_⟩
 cbv
 repeat' first|((with_reducible refine fun(k:Nat) => ?_);cbv)|((with_reducible intro _);cbv)|(with_reducible refine And.intro ?_ ?_)
 all_goals try((first|(with_reducible refine LoopIn.mk ((0:Nat)) ?_ ?_)|(with_reducible refine LoopBack.mk ((k+1:Nat)) ?_ ?_ ?_)) )
 all_goals try((with_reducible show l9 _ _);cbv;(try simp only[and_true,true_and]))
 all_goals try(repeat' with_reducible refine And.intro ?_ ?_)
 all_goals first|(refine retK h ?_;clear h;simp only[fin0])|(with_reducible refine Ob.mk ?_;clear h)|(clear h)
 all_goals(try simp only[eta0,RT.bytes]at *)
 all_goals grind[j4,K6,K7,O4,d6E]
end Go.Proofs.YtmnapekfeenknaaGreat
namespace Go.Mo
open Go.Sx
theorem d4X {a b:Sto}:a=b↔a.age=b.age∧a.base=b.base∧a.recs=b.recs:=by
 cases a;cases b;simp
theorem d6i {a b:Hld}:a=b↔a.age=b.age∧a.count=b.count∧a.state=b.state:=by
 cases a;cases b;simp
end Go.Mo
namespace Go.Proofs.YtmnapekfeenknaaGreat
open Go.Sx Go.Proofs Go.Mo
noncomputable def sIsS:Sx.Spec:=⟨false,true,[.row .sto,.row .sto],[],fun _ _ ⟨a,b,_⟩ => .ret (vB fun _=>decide (a ()=b ()),fun _=>0)⟩
noncomputable def sIsH:Sx.Spec:=⟨false,true,[.row .hld,.row .hld],[],fun _ _ ⟨a,b,_⟩ => .ret (vB fun _=>decide (a ()=b ()),fun _=>0)⟩
theorem d1V:b9 Tryz.prog 177 sIsR:=j5 j3 (ss := []) trivial rfl rfl<|by
 intro(bs:Th (List Int)) (p:Th Int) ⟨(a:Th (List Sx.Rec)),(b:Th (List Sx.Rec)),u⟩ K _ _ ho h
 obtain⟨a,rfl⟩:=b6 a;obtain⟨b,rfl⟩:=b6 b
 have hl:=okL (ho.1 _ (.head _))
 refine⟨annL [(177,4,⟨Nat,[],fun σ k => σ.t 5 (vI fun _=>(k:Int)),fun _ k _=>k≤a.length∧a.length=b.length∧same .rcd a b k,fun _ k _=>a.length-k⟩)],noAnn,20,?_⟩
 cbv
 repeat' first|((with_reducible refine fun(k:Nat) => ?_);cbv)|((with_reducible intro _);cbv)|(with_reducible refine And.intro ?_ ?_)
 all_goals try((first|(with_reducible refine LoopIn.mk ((0:Nat)) ?_ ?_)|(with_reducible refine LoopBack.mk ((k+1:Nat)) ?_ ?_ ?_)) )
 all_goals try((with_reducible show l9 _ _);cbv;(try simp only[and_true,true_and]))
 all_goals try(repeat' with_reducible refine And.intro ?_ ?_)
 all_goals first|(refine retK h ?_;clear h;simp only[fin0])|(with_reducible refine Ob.mk ?_;clear h)|(clear h)
 all_goals(try simp only[eta0,RT.bytes]at *)
 all_goals grind[j4,K6,K7,O4,a5N,b7d,a8g,d5g]
theorem c8s:b9 Tryz.prog 116 sIsS:=j5 j3 (ss := [(176,sIsC),(177,sIsR)]) ⟨c0p,d1V,trivial⟩ rfl rfl<|by
 intro(bs:Th (List Int)) (p:Th Int) ⟨(a:Th Sto),(b:Th Sto),u⟩ K _ _ ho h
 obtain⟨a,rfl⟩:=b6 a;obtain⟨b,rfl⟩:=b6 b
 refine⟨noAnn,noAnn,20,?_⟩
 cbv
 repeat' first|((with_reducible intro _);cbv)|(with_reducible refine And.intro ?_ ?_)
 all_goals first|(refine retK h ?_;clear h;simp only[fin0])|(with_reducible refine Ob.mk ?_;clear h)|(clear h)
 all_goals(try simp only[eta0,RT.bytes]at *)
 all_goals grind[d4X]
end Go.Proofs.YtmnapekfeenknaaGreat
namespace Go.Proofs.YtmnapekfeenknaaGreat
open Go.Sx Go.Proofs Go.RowKit
end Go.Proofs.YtmnapekfeenknaaGreat
namespace Go.Proofs.YtmnapekfeenknaaGreat
open Go.Sx Go.Proofs Go.Mo
end Go.Proofs.YtmnapekfeenknaaGreat
namespace Go.Sx
end Go.Sx
namespace Go.Proofs.YtmnapekfeenknaaGreat
open Go.Sx Go.Proofs Go.Mo
noncomputable def sIsB:Sx.Spec:=⟨false,true,[.book,.book],[],fun _ _ ⟨a,b,_⟩ => .ret (vB fun _=>decide (a ()=b ()),fun _=>0)⟩
theorem d1Q:b9 Tryz.prog 57 sIsB:=j5 j3 (ss := []) trivial rfl rfl<|by
 intro(bs:Th (List Int)) (p:Th Int) ⟨(a:Th (List Row)),(b:Th (List Row)),u⟩ K _ _ ho h
 obtain⟨a,rfl⟩:=b6 a;obtain⟨b,rfl⟩:=b6 b
 have hl:=okL (ho.1 _ (.head _))
 refine⟨annL [(57,4,⟨Nat,[],fun σ k => σ.t 5 (vI fun _=>(k:Int)),fun _ k _=>k≤a.length∧a.length=b.length∧same .row a b k,fun _ k _=>a.length-k⟩)],noAnn,20,?_⟩
 cbv
 repeat' first|((with_reducible refine fun(k:Nat) => ?_);cbv)|((with_reducible intro _);cbv)|(with_reducible refine And.intro ?_ ?_)
 all_goals try((first|(with_reducible refine LoopIn.mk ((0:Nat)) ?_ ?_)|(with_reducible refine LoopBack.mk ((k+1:Nat)) ?_ ?_ ?_)) )
 all_goals try((with_reducible show l9 _ _);cbv;(try simp only[and_true,true_and]))
 all_goals try(repeat' with_reducible refine And.intro ?_ ?_)
 all_goals first|(refine retK h ?_;clear h;simp only[fin0])|(with_reducible refine Ob.mk ?_;clear h)|(clear h)
 all_goals(try simp only[eta0,RT.bytes]at *)
 all_goals grind[j4,K6,K7,O4,d5e,a8g]
theorem d1X:b9 Tryz.prog 175 sIsH:=j5 j3 (ss := [(176,sIsC)]) ⟨c0p,trivial⟩ rfl rfl<|by
 intro(bs:Th (List Int)) (p:Th Int) ⟨(a:Th Hld),(b:Th Hld),u⟩ K _ _ ho h
 obtain⟨a,rfl⟩:=b6 a;obtain⟨b,rfl⟩:=b6 b
 refine⟨noAnn,noAnn,20,?_⟩
 cbv
 repeat' first|((with_reducible intro _);cbv)|(with_reducible refine And.intro ?_ ?_)
 all_goals first|(refine retK h ?_;clear h;simp only[fin0])|(with_reducible refine Ob.mk ?_;clear h)|(clear h)
 all_goals(try simp only[eta0,RT.bytes]at *)
 all_goals grind[d6i]
end Go.Proofs.YtmnapekfeenknaaGreat
namespace Go.Mo
open Go.Sx
theorem d2s {a b:Note}:a=b↔a.who=b.who∧a.seq=b.seq∧a.code=b.code:=by
 cases a;cases b;simp
theorem d6K {a b:Arb}:a=b↔a.servers=b.servers∧a.ages=b.ages:=by
 cases a;cases b;simp
theorem d4L {a b:Wld}:a=b↔a.map=b.map∧a.servers=b.servers∧a.stores=b.stores∧a.table=b.table∧a.rows=b.rows∧a.net=b.net∧a.notes=b.notes:=by
 cases a;cases b;simp
end Go.Mo
namespace Go.Proofs.YtmnapekfeenknaaGreat
open Go.Sx Go.Proofs Go.Mo
noncomputable def b4U:Sx.Spec:=⟨false,true,[.list .gst,.list .gst],[],fun _ _ ⟨a,b,_⟩ => .ret (vB fun _=>decide (a ()=b ()),fun _=>0)⟩
noncomputable def d0W:Sx.Spec:=⟨false,true,[.list .msg,.list .msg],[],fun _ _ ⟨a,b,_⟩ => .ret (vB fun _=>decide (a ()=b ()),fun _=>0)⟩
noncomputable def b9g:Sx.Spec:=⟨false,true,[.list .note,.list .note],[],fun _ _ ⟨a,b,_⟩ => .ret (vB fun _=>decide (a ()=b ()),fun _=>0)⟩
noncomputable def b4T:Sx.Spec:=⟨false,true,[.list .sto,.list .sto],[],fun _ _ ⟨a,b,_⟩ => .ret (vB fun _=>decide (a ()=b ()),fun _=>0)⟩
noncomputable def b1O:Sx.Spec:=⟨false,true,[.list .srv,.list .srv],[],fun _ _ ⟨a,b,_⟩ => .ret (vB fun _=>decide (a ()=b ()),fun _=>0)⟩
noncomputable def sIsV:Sx.Spec:=⟨false,true,[.row .srv,.row .srv],[],fun _ _ ⟨a,b,_⟩ => .ret (vB fun _=>decide (a ()=b ()),fun _=>0)⟩
noncomputable def d0V:Sx.Spec:=⟨false,true,[.row .wld,.row .wld],[],fun _ _ ⟨a,b,_⟩ => .ret (vB fun _=>decide (a ()=b ()),fun _=>0)⟩
theorem c2X:b9 Tryz.prog 174 b4U:=j5 j3 (ss := []) trivial rfl rfl<|by
 intro(bs:Th (List Int)) (p:Th Int) ⟨(a:Th (List Gst)),(b:Th (List Gst)),u⟩ K _ _ ho h
 obtain⟨a,rfl⟩:=b6 a;obtain⟨b,rfl⟩:=b6 b
 have hl:=okL (ho.1 _ (.head _))
 refine⟨annL [(174,4,⟨Nat,[],fun σ k => σ.t 5 (vI fun _=>(k:Int)),fun _ k _=>k≤a.length∧a.length=b.length∧same .gst a b k,fun _ k _=>a.length-k⟩)],noAnn,20,?_⟩
 cbv
 repeat' first|((with_reducible refine fun(k:Nat) => ?_);cbv)|((with_reducible intro _);cbv)|(with_reducible refine And.intro ?_ ?_)
 all_goals try((first|(with_reducible refine LoopIn.mk ((0:Nat)) ?_ ?_)|(with_reducible refine LoopBack.mk ((k+1:Nat)) ?_ ?_ ?_)) )
 all_goals try((with_reducible show l9 _ _);cbv;(try simp only[and_true,true_and]))
 all_goals try(repeat' with_reducible refine And.intro ?_ ?_)
 all_goals first|(refine retK h ?_;clear h;simp only[fin0])|(with_reducible refine Ob.mk ?_;clear h)|(clear h)
 all_goals(try simp only[eta0,RT.bytes]at *)
 all_goals grind[j4,K6,K7,O4,c5X,a5N]
theorem d5H:b9 Tryz.prog 58 d0W:=j5 j3 (ss := []) trivial rfl rfl<|by
 intro(bs:Th (List Int)) (p:Th Int) ⟨(a:Th (List Msg)),(b:Th (List Msg)),u⟩ K _ _ ho h
 obtain⟨a,rfl⟩:=b6 a;obtain⟨b,rfl⟩:=b6 b
 have hl:=okL (ho.1 _ (.head _))
 refine⟨annL [(58,4,⟨Nat,[],fun σ k => σ.t 5 (vI fun _=>(k:Int)),fun _ k _=>k≤a.length∧a.length=b.length∧same .msg a b k,fun _ k _=>a.length-k⟩)],noAnn,20,?_⟩
 cbv
 repeat' first|((with_reducible refine fun(k:Nat) => ?_);cbv)|((with_reducible intro _);cbv)|(with_reducible refine And.intro ?_ ?_)
 all_goals try((first|(with_reducible refine LoopIn.mk ((0:Nat)) ?_ ?_)|(with_reducible refine LoopBack.mk ((k+1:Nat)) ?_ ?_ ?_)) )
 all_goals try((with_reducible show l9 _ _);cbv;(try simp only[and_true,true_and]))
 all_goals try(repeat' with_reducible refine And.intro ?_ ?_)
 all_goals first|(refine retK h ?_;clear h;simp only[fin0])|(with_reducible refine Ob.mk ?_;clear h)|(clear h)
 all_goals(try simp only[eta0,RT.bytes]at *)
 all_goals grind[j4,K6,K7,O4,d5V,a8g,b7d,c5X,a5N]
theorem c8t:b9 Tryz.prog 59 b9g:=j5 j3 (ss := []) trivial rfl rfl<|by
 intro(bs:Th (List Int)) (p:Th Int) ⟨(a:Th (List Note)),(b:Th (List Note)),u⟩ K _ _ ho h
 obtain⟨a,rfl⟩:=b6 a;obtain⟨b,rfl⟩:=b6 b
 have hl:=okL (ho.1 _ (.head _))
 refine⟨annL [(59,4,⟨Nat,[],fun σ k => σ.t 5 (vI fun _=>(k:Int)),fun _ k _=>k≤a.length∧a.length=b.length∧same .note a b k,fun _ k _=>a.length-k⟩)],noAnn,20,?_⟩
 cbv
 repeat' first|((with_reducible refine fun(k:Nat) => ?_);cbv)|((with_reducible intro _);cbv)|(with_reducible refine And.intro ?_ ?_)
 all_goals try((first|(with_reducible refine LoopIn.mk ((0:Nat)) ?_ ?_)|(with_reducible refine LoopBack.mk ((k+1:Nat)) ?_ ?_ ?_)) )
 all_goals try((with_reducible show l9 _ _);cbv;(try simp only[and_true,true_and]))
 all_goals try(repeat' with_reducible refine And.intro ?_ ?_)
 all_goals first|(refine retK h ?_;clear h;simp only[fin0])|(with_reducible refine Ob.mk ?_;clear h)|(clear h)
 all_goals(try simp only[eta0,RT.bytes]at *)
 all_goals grind[j4,K6,K7,O4,d2s]
theorem c2V:b9 Tryz.prog 56 b4T:=j5 j3 (ss := [(116,sIsS)]) ⟨c8s,trivial⟩ rfl rfl<|by
 intro(bs:Th (List Int)) (p:Th Int) ⟨(a:Th (List Sto)),(b:Th (List Sto)),u⟩ K _ _ ho h
 obtain⟨a,rfl⟩:=b6 a;obtain⟨b,rfl⟩:=b6 b
 have hl:=okL (ho.1 _ (.head _))
 refine⟨annL [(56,4,⟨Nat,[],fun σ k => σ.t 5 (vI fun _=>(k:Int)),fun _ k _=>k≤a.length∧a.length=b.length∧same .sto a b k,fun _ k _=>a.length-k⟩)],noAnn,20,?_⟩
 cbv
 repeat' first|((with_reducible refine fun(k:Nat) => ?_);cbv)|((with_reducible intro _);cbv)|(with_reducible refine And.intro ?_ ?_)
 all_goals try((first|(with_reducible refine LoopIn.mk ((0:Nat)) ?_ ?_)|(with_reducible refine LoopBack.mk ((k+1:Nat)) ?_ ?_ ?_)) )
 all_goals try((with_reducible show l9 _ _);cbv;(try simp only[and_true,true_and]))
 all_goals try(repeat' with_reducible refine And.intro ?_ ?_)
 all_goals first|(refine retK h ?_;clear h;simp only[fin0])|(with_reducible refine Ob.mk ?_;clear h)|(clear h)
 all_goals(try simp only[eta0,RT.bytes]at *)
 all_goals grind[j4,K6,K7,O4]
theorem c2W:b9 Tryz.prog 115 sIsV:=j5 j3 (ss := [(174,b4U),(175,sIsH)]) ⟨c2X,d1X,trivial⟩ rfl rfl<|by
 intro(bs:Th (List Int)) (p:Th Int) ⟨(a:Th Srv),(b:Th Srv),u⟩ K _ _ ho h
 obtain⟨a,rfl⟩:=b6 a;obtain⟨b,rfl⟩:=b6 b
 have hl:=okL (ho.1 _ (.tail _ (.head _)))
 refine⟨annL [(115,4,⟨Nat,[],fun σ k => σ.t 5 (vI fun _=>(k:Int)),fun _ k _=>k≤a.holds.length∧a.holds.length=b.holds.length∧a.up=b.up∧a.o8=b.o8∧same .hld a.holds b.holds k,fun _ k _=>a.holds.length-k⟩)],noAnn,20,?_⟩
 cbv
 repeat' first|((with_reducible refine fun(k:Nat) => ?_);cbv)|((with_reducible intro _);cbv)|(with_reducible refine And.intro ?_ ?_)
 all_goals try((first|(with_reducible refine LoopIn.mk ((0:Nat)) ?_ ?_)|(with_reducible refine LoopBack.mk ((k+1:Nat)) ?_ ?_ ?_)) )
 all_goals try((with_reducible show l9 _ _);cbv;(try simp only[and_true,true_and]))
 all_goals try(repeat' with_reducible refine And.intro ?_ ?_)
 all_goals first|(refine retK h ?_;clear h;simp only[fin0])|(with_reducible refine Ob.mk ?_;clear h)|(clear h)
 all_goals(try simp only[eta0,RT.bytes]at *)
 all_goals grind[j4,K6,K7,O4,c4w]
theorem c0n:b9 Tryz.prog 55 b1O:=j5 j3 (ss := [(115,sIsV)]) ⟨c2W,trivial⟩ rfl rfl<|by
 intro(bs:Th (List Int)) (p:Th Int) ⟨(a:Th (List Srv)),(b:Th (List Srv)),u⟩ K _ _ ho h
 obtain⟨a,rfl⟩:=b6 a;obtain⟨b,rfl⟩:=b6 b
 have hl:=okL (ho.1 _ (.head _))
 refine⟨annL [(55,4,⟨Nat,[],fun σ k => σ.t 5 (vI fun _=>(k:Int)),fun _ k _=>k≤a.length∧a.length=b.length∧same .srv a b k,fun _ k _=>a.length-k⟩)],noAnn,20,?_⟩
 cbv
 repeat' first|((with_reducible refine fun(k:Nat) => ?_);cbv)|((with_reducible intro _);cbv)|(with_reducible refine And.intro ?_ ?_)
 all_goals try((first|(with_reducible refine LoopIn.mk ((0:Nat)) ?_ ?_)|(with_reducible refine LoopBack.mk ((k+1:Nat)) ?_ ?_ ?_)) )
 all_goals try((with_reducible show l9 _ _);cbv;(try simp only[and_true,true_and]))
 all_goals try(repeat' with_reducible refine And.intro ?_ ?_)
 all_goals first|(refine retK h ?_;clear h;simp only[fin0])|(with_reducible refine Ob.mk ?_;clear h)|(clear h)
 all_goals(try simp only[eta0,RT.bytes]at *)
 all_goals grind[j4,K6,K7,O4]
theorem c8r:b9 Tryz.prog 12 d0V:=j5 j3 (ss := [(55,b1O),(56,b4T),(19,sIsI),(57,sIsB),(58,d0W),(59,b9g)]) ⟨c0n,c2V,a8t,d1Q,d5H,c8t,trivial⟩ rfl rfl<|by
 intro(bs:Th (List Int)) (p:Th Int) ⟨(a:Th Wld),(b:Th Wld),u⟩ K _ _ ho h
 obtain⟨a,rfl⟩:=b6 a;obtain⟨b,rfl⟩:=b6 b
 refine⟨noAnn,noAnn,20,?_⟩
 cbv
 repeat' first|((with_reducible intro _);cbv)|(with_reducible refine And.intro ?_ ?_)
 all_goals first|(refine retK h ?_;clear h;simp only[fin0])|(with_reducible refine Ob.mk ?_;clear h)|(clear h)
 all_goals(try simp only[eta0,RT.bytes]at *)
 all_goals grind(splits:=30) [d4L,d6K,c5M]
theorem c8a:b9 Tryz.prog 130 a4U:=j5 j3 (ss := [(185,a4d),(186,a4f)]) ⟨b2x,c0s,trivial⟩ rfl rfl<|by
 intro(bs:Th (List Int)) (p:Th Int) ⟨(s:Th Srv),(c:Th Int),u⟩ K _ _ ho h
 obtain⟨s,rfl⟩:=b6 s;obtain⟨c,rfl⟩:=b6 c
 have hp:=a2M s.holds c
 refine⟨noAnn,noAnn,20,?_⟩
 cbv
 repeat' first|((with_reducible intro _);cbv)|(with_reducible refine And.intro ?_ ?_)
 all_goals first|(refine retK h ?_;clear h;simp only[fin0])|(with_reducible refine Ob.mk ?_;clear h)|(clear h)
 all_goals(try simp only[eta0,RT.bytes]at *)
 all_goals grind(splits:=40) [j6,z7,a3k,O1]
noncomputable def c4K:Sx.Spec:=⟨false,true,[.one],[],fun _ _ ⟨o,_⟩ => .asrt (fun _=>o9 (o ()).map=true) (.ret (vB fun _=>a2E (o ())&&a1u (o ()),fun _=>0))⟩
noncomputable def d0R:Sx.Spec:=⟨false,true,[.one,.int .i64],[],fun _ _ ⟨o,i,_⟩ => .ret (vI fun _=>J9 (o ()).wlks (i ()),fun _=>0)⟩
noncomputable def a1M:Sx.Spec:=⟨false,true,[.one],[],fun _ _ ⟨o,_⟩ => .ret (vI fun _=>D5 (o ()),fun _=>0)⟩
theorem d8l (n:Nat):(NatCast.natCast n:Int)=(n:Int):=rfl
theorem c7G {o:One} {k:Nat} (h:k<o.ground.length) (hw:inR (nth .int o.ground k) 0 900=false):a1u o=false:=a1P h (by
 simp only[inR,decide_eq_false_iff_not]at hw
 simp only[U8,decide_eq_false_iff_not]
 exact fun q=>hw ⟨q.1,q.2.1⟩)
theorem c7F {o:One} {k:Nat} (h:k<o.ground.length) (hw : ¬((nth .ints o.air k).length:Int)=2):a1u o=false:=a1P h (by
 simp only[U8,decide_eq_false_iff_not]
 exact fun q=>hw (by rw[q.2.2.1];rfl))
theorem c7E {o:One} {k:Nat} (h:k<o.ground.length) (hw:inR (nth .int (nth .ints o.air k) 0) 0 100000=false):a1u o=false:=a1P h (by
 simp only[inR,decide_eq_false_iff_not]at hw
 simp only[U8,decide_eq_false_iff_not]
 exact fun q=>hw ⟨q.2.2.2.1,q.2.2.2.2.1⟩)
theorem c7D {o:One} {k:Nat} (h:k<o.ground.length) (hw:inR (nth .int (nth .ints o.air k) 1) 0 100000=false):a1u o=false:=a1P h (by
 simp only[inR,decide_eq_false_iff_not]at hw
 simp only[U8,decide_eq_false_iff_not]
 exact fun q=>hw ⟨q.2.2.2.2.2.1,q.2.2.2.2.2.2⟩)
theorem c8e:b9 Tryz.prog 87 c4K:=j5 j3 (ss := [(60,sIn)]) ⟨J5,trivial⟩ rfl rfl<|by
 intro(bs:Th (List Int)) (p:Th Int) ⟨(o:Th One),u⟩ K _ _ ho h
 obtain⟨o,rfl⟩:=b6 o
 obtain⟨ha,h⟩:=h
 have ha:=ha.out
 have hi := @N0 o
 have hp:=n6.1 ha
 refine⟨annL [(87,4,⟨Nat,[],fun σ k => σ.t 3 (vI fun _=>(k:Int)),fun _ k _=>k≤o.ground.length∧a2E o=true∧m9 k (U8 o)=true,fun _ k _=>o.ground.length-k⟩)],noAnn,20,?_⟩
 cbv
 repeat' first|((with_reducible refine fun(k:Nat) => ?_);cbv)|((with_reducible intro _);cbv)|(with_reducible refine And.intro ?_ ?_)
 all_goals try((first|(with_reducible refine LoopIn.mk ((0:Nat)) ?_ ?_)|(with_reducible refine LoopBack.mk ((k+1:Nat)) ?_ ?_ ?_)) )
 all_goals try((with_reducible show l9 _ _);cbv;(try simp only[and_true,true_and]))
 all_goals try(repeat' with_reducible refine And.intro ?_ ?_)
 all_goals first|(refine retK h ?_;clear h;simp only[fin0])|(with_reducible refine Ob.mk ?_;clear h)|(clear h)
 all_goals(try simp only[eta0,RT.bytes]at *)
 all_goals(try dsimp only[RT.ty]at *)
 all_goals(try simp only[d8l]at *)
 all_goals(first|(rw[c7G (k:=k) (by omega) (by assumption),Bool.and_false])|(rw[c7F (k:=k) (by omega) (by assumption),Bool.and_false])|(rw[c7E (k:=k) (by omega) (by assumption),Bool.and_false])|(rw[c7D (k:=k) (by omega) (by assumption),Bool.and_false])|skip)
 all_goals grind(splits:=30) [j4,a1P,b5i,U8,n8,n5,inR]
theorem a0o:b9 Tryz.prog 25 U5:=j5 j3 (ss := [(14,A5),(87,c4K),(65,a4b)]) ⟨F7,c8e,a8m,trivial⟩ rfl rfl<|by
 intro(bs:Th (List Int)) (p:Th Int) ⟨(o:Th One),u⟩ K _ _ ho h
 obtain⟨o,rfl⟩:=b6 o
 have hl:=okL (ho.1 _ (.tail _ (.tail _ (.head _))))
 have hi := @N0 o
 have hk := @S8 o
 refine⟨annL [(25,4,⟨Nat,[],fun σ k => σ.t 3 (vI fun _=>(k:Int)),fun _ k _=>k≤o.wlks.length∧a2E o=true∧a1u o=true∧m9 k (owAt o.map o.wlks)=true,fun _ k _=>o.wlks.length-k⟩)],noAnn,20,?_⟩
 cbv
 repeat' first|((with_reducible refine fun(k:Nat) => ?_);cbv)|((with_reducible intro _);cbv)|(with_reducible refine And.intro ?_ ?_)
 all_goals try((first|(with_reducible refine LoopIn.mk ((0:Nat)) ?_ ?_)|(with_reducible refine LoopBack.mk ((k+1:Nat)) ?_ ?_ ?_)) )
 all_goals try((with_reducible show l9 _ _);cbv;(try simp only[and_true,true_and]))
 all_goals try(repeat' with_reducible refine And.intro ?_ ?_)
 all_goals first|(refine retK h ?_;clear h;simp only[fin0])|(with_reducible refine Ob.mk ?_;clear h)|(clear h)
 all_goals(try simp only[eta0,RT.bytes]at *)
 all_goals grind(splits:=30) [j4,e9,Z1,d5q,d5p,owAt,a1V,n8,n5]
theorem a9E:b9 Tryz.prog 86 a2A:=j5 j3 (ss := []) trivial rfl rfl<|by
 intro(bs:Th (List Int)) (p:Th Int) ⟨(o:Th One),u⟩ K _ _ ho h
 obtain⟨o,rfl⟩:=b6 o
 have hl:=okB (ho.1 _ (.tail _ (.tail _ (.head _))))
 have hl2:=okB (ho.1 _ (.tail _ (.tail _ (.tail _ (.head _)))))
 have hl3:=okB (ho.1 _ (.tail _ (.tail _ (.tail _ (.tail _ (.head _))))))
 have hz:=a0Z o.air
 have hs:=fun k => @J7 .ints o.air k
 have hin:=d1Y (ho.1 _ (.tail _ (.tail _ (.tail _ (.tail _ (.head _))))))
 refine⟨annL [(86,3,⟨Nat,[⟨.cell 4 4,some 34,.ints⟩],fun σ k=>((((σ.fg 8).fg 12).t 4 (vI fun _=>(k:Int))).u9 4 4 (.own 34 1)).row 34 1 .ints (fun _=>pre o.air k),fun _ k _=>k≤o.air.length,fun _ k _=>o.air.length-k⟩)],noAnn,20,?_⟩
 cbv
 repeat' first|((with_reducible refine fun(k:Nat) => ?_);cbv)|((with_reducible intro _);cbv)|(with_reducible refine And.intro ?_ ?_)
 all_goals try((first|(with_reducible refine LoopIn.mk ((0:Nat)) ?_ ?_)|(with_reducible refine LoopBack.mk ((k+1:Nat)) ?_ ?_ ?_)) )
 all_goals try((with_reducible show l9 _ _);cbv;(try simp only[and_true,true_and]))
 all_goals try(repeat' with_reducible refine And.intro ?_ ?_)
 all_goals first|(refine retK h ?_;clear h;simp only[fin0])|(with_reducible refine Ob.mk ?_;clear h)|(clear h)
 all_goals(try simp only[eta0,RT.bytes]at *)
 all_goals grind[X4,a1a,j4]
theorem d1K:b9 Tryz.prog 94 d0R:=j5 j3 (ss := []) trivial rfl rfl<|by
 intro(bs:Th (List Int)) (p:Th Int) ⟨(o:Th One),(i:Th Int),u⟩ K _ _ ho h
 obtain⟨o,rfl⟩:=b6 o;obtain⟨i,rfl⟩:=b6 i
 have hl:=okL (ho.1 _ (.tail _ (.tail _ (.head _))))
 refine⟨annL [(94,2,⟨Nat,[],fun σ k => σ.t 5 (vI fun _=>(k:Int)),fun _ k _=>k≤o.wlks.length∧m9 k (nOwH o.wlks i)=true,fun _ k _=>o.wlks.length-k⟩)],noAnn,20,?_⟩
 cbv
 repeat' first|((with_reducible refine fun(k:Nat) => ?_);cbv)|((with_reducible intro _);cbv)|(with_reducible refine And.intro ?_ ?_)
 all_goals try((first|(with_reducible refine LoopIn.mk ((0:Nat)) ?_ ?_)|(with_reducible refine LoopBack.mk ((k+1:Nat)) ?_ ?_ ?_)) )
 all_goals try((with_reducible show l9 _ _);cbv;(try simp only[and_true,true_and]))
 all_goals try(repeat' with_reducible refine And.intro ?_ ?_)
 all_goals first|(refine retK h ?_;clear h;simp only[fin0])|(with_reducible refine Ob.mk ?_;clear h)|(clear h)
 all_goals(try simp only[eta0,RT.bytes]at *)
 all_goals grind(splits:=20) [n8,n5,nOwH,b2R,d7M,d1l,j4]
noncomputable def sMap:Sx.Spec:=⟨true,false,[],[],fun _ p _ => .asrt (fun _=>0≤p ()∧p ()≤1000000000900) (.all Int fun x0 => .all Int fun x1 => .all Int fun q => .asm (fun _=>p ()≤q∧q≤p ()+10) (.ret (.agg [cI x0,cI x1],fun _=>q)))⟩
noncomputable def b6K:Sx.Spec:=⟨true,false,[.map],[],fun _ p ⟨m,_⟩ => .asrt (fun _=>0≤p ()∧p ()≤1000000000900) (.all Int fun x0 => .all Int fun x1 => .all Int fun x2 => .all Int fun x3 => .all Int fun x4 => .all Int fun q => .asm (fun _=>p ()≤q∧q≤p ()+10) (.ret (.agg [cI x0,cI x1,cI x2,cI x3,cI x4],fun _=>q)))⟩
noncomputable def a6R:Sx.Spec:=⟨true,false,[.row .wlk],[],fun _ p ⟨m,_⟩ => .asrt (fun _=>0≤p ()∧p ()≤1000000000900) (.all Int fun x0 => .all Int fun x1 => .all Int fun x2 => .all Int fun x3 => .all Int fun x4 => .all Int fun q => .asm (fun _=>p ()≤q∧q≤p ()+10) (.ret (.agg [cI x0,cI x1,cI x2,cI x3,cI x4],fun _=>q)))⟩
noncomputable def b5a:Sx.Spec:=⟨true,false,[.int .i64],[],fun _ p ⟨n,_⟩ => .asrt (fun _=>0≤p ()∧p ()≤1000000000800) (.all Int fun x0 => .all Int fun x1 => .all Int fun x2 => .all Int fun x3 => .all Int fun x4 => .all Int fun q => .asm (fun _=>p ()≤q∧q≤p ()+30) (.ret (.agg [cI x0,cI x1,cI x2,cI x3,cI x4],fun _=>q)))⟩
noncomputable def d0O:Sx.Spec:=⟨true,false,[.map,.int .i64],[[some .wlk]],fun _ p ⟨m,_⟩ => .asrt (fun _=>0≤p ()∧p ()≤1000000000700) (.all (List Wlk) fun x => .all Int fun q => .asm (fun _=>p ()≤q∧q≤p ()+90∧x.length≤10) (.ret (vL .wlk fun _=>x,fun _=>q)))⟩
theorem d7g:b9 Tryz.prog 46 sMap:=j5 j3 (ss := [(48,U4)]) ⟨M4,trivial⟩ rfl rfl<|by
 intro(bs:Th (List Int)) (p:Th Int) u K hb hp0 ho h
 obtain⟨bs,rfl⟩:=b6 bs;obtain⟨p,rfl⟩:=b6 p
 obtain⟨hpre,h⟩:=h
 have hpre:0≤p∧p≤1000000000900:=hpre.out
 refine⟨noAnn,noAnn,20,?_⟩
 cbv
 repeat' first|((with_reducible intro _);cbv)|(with_reducible refine And.intro ?_ ?_)
 all_goals first|(refine retK (h _ _ _ ?_) rfl;clear h)|(with_reducible refine Ob.mk ?_;clear h)|(clear h)
 all_goals(try simp only[eta0,RT.bytes]at *)
 all_goals first|omega|grind[e9,tm]
theorem b9W:b9 Tryz.prog 111 b6K:=j5 j3 (ss := [(48,U4),(14,A5)]) ⟨M4,F7,trivial⟩ rfl rfl<|by
 intro(bs:Th (List Int)) (p:Th Int) ⟨(m:Th PMap),u⟩ K hb hp0 ho h
 obtain⟨m,rfl⟩:=b6 m;obtain⟨bs,rfl⟩:=b6 bs;obtain⟨p,rfl⟩:=b6 p
 obtain⟨hpre,h⟩:=h
 have hpre:0≤p∧p≤1000000000900:=hpre.out
 refine⟨noAnn,noAnn,20,?_⟩
 cbv
 repeat' first|((with_reducible intro _);cbv)|(with_reducible refine And.intro ?_ ?_)
 all_goals first|(refine retK (h _ _ _ _ _ _ ?_) rfl;clear h)|(with_reducible refine Ob.mk ?_;clear h)|(clear h)
 all_goals(try simp only[eta0,RT.bytes]at *)
 all_goals first|omega|grind[e9,tm]
theorem b0A:b9 Tryz.prog 112 a6R:=j5 j3 (ss := [(48,U4)]) ⟨M4,trivial⟩ rfl rfl<|by
 intro(bs:Th (List Int)) (p:Th Int) ⟨(w:Th Wlk),u⟩ K hb hp0 ho h
 obtain⟨w,rfl⟩:=b6 w;obtain⟨bs,rfl⟩:=b6 bs;obtain⟨p,rfl⟩:=b6 p
 obtain⟨hpre,h⟩:=h
 have hpre:0≤p∧p≤1000000000900:=hpre.out
 refine⟨noAnn,noAnn,20,?_⟩
 cbv
 repeat' first|((with_reducible intro _);cbv)|(with_reducible refine And.intro ?_ ?_)
 all_goals first|(refine retK (h _ _ _ _ _ _ ?_) rfl;clear h)|(with_reducible refine Ob.mk ?_;clear h)|(clear h)
 all_goals(try simp only[eta0,RT.bytes]at *)
 all_goals first|omega|grind[e9,tm]
theorem c3e:b9 Tryz.prog 91 b5a:=j5 j3 (ss := [(48,U4),(135,c2q)]) ⟨M4,c5x,trivial⟩ rfl rfl<|by
 intro(bs:Th (List Int)) (p:Th Int) ⟨(n:Th Int),u⟩ K hb hp0 ho h
 obtain⟨n,rfl⟩:=b6 n;obtain⟨bs,rfl⟩:=b6 bs;obtain⟨p,rfl⟩:=b6 p
 obtain⟨hpre,h⟩:=h
 have hpre:0≤p∧p≤1000000000800:=hpre.out
 refine⟨noAnn,noAnn,20,?_⟩
 cbv
 repeat' first|((with_reducible intro _);cbv)|(with_reducible refine And.intro ?_ ?_)
 all_goals first|(refine retK (h _ _ _ _ _ _ ?_) rfl;clear h)|(with_reducible refine Ob.mk ?_;clear h)|(clear h)
 all_goals(try simp only[eta0,RT.bytes]at *)
 all_goals first|omega|grind[e9,tm]
theorem a6Z:b9 Tryz.prog 26 a1M:=j5 j3 (ss := [(31,U5)]) ⟨a6b,trivial⟩ rfl rfl<|by
 intro(bs:Th (List Int)) (p:Th Int) ⟨(o:Th One),u⟩ K _ _ ho h
 obtain⟨o,rfl⟩:=b6 o
 have hn := @b9S o
 refine⟨annL [(26,5,⟨Nat,[],fun σ k=>((σ.only [1,2,12,13]).t 14 (vI fun _=>(k:Int))).t 3 (vI fun _=>L8 o.wlks k),fun _ k _=>k≤o.wlks.length∧r6 o=true,fun _ k _=>o.wlks.length-k⟩),
  (26,10,⟨Nat,[],fun σ k=>((σ.only [1,2,25,26]).t 27 (vI fun _=>(k:Int))).t 3 (vI fun _=>L8 o.wlks o.wlks.length+Q4 o k),fun _ k _=>k≤o.ground.length∧r6 o=true,fun _ k _=>o.ground.length-k⟩)],noAnn,20,?_⟩
 cbv
 repeat' first|((with_reducible refine fun(k:Nat) => ?_);cbv)|((with_reducible intro _);cbv)|(with_reducible refine And.intro ?_ ?_)
 all_goals try((first|(with_reducible refine LoopIn.mk ((0:Nat)) ?_ ?_)|(with_reducible refine LoopBack.mk ((k+1:Nat)) ?_ ?_ ?_)) )
 all_goals try((with_reducible show l9 _ _);cbv;(try simp only[and_true,true_and]))
 all_goals try(repeat' with_reducible refine And.intro ?_ ?_)
 all_goals first|(refine retK h ?_;clear h;simp only[fin0])|(with_reducible refine Ob.mk ?_;clear h)|(clear h)
 all_goals(try simp only[eta0,RT.bytes]at *)
 all_goals grind[c6F,d5k,b6b,c1x,b5h,j4,a6V,a7m]
theorem c0c:b9 Tryz.prog 30 a1M:=j5 j3 (ss := [(25,U5)]) ⟨a0o,trivial⟩ rfl rfl<|by
 intro(bs:Th (List Int)) (p:Th Int) ⟨(o:Th One),u⟩ K _ _ ho h
 obtain⟨o,rfl⟩:=b6 o
 have hn := @b9S o
 refine⟨annL [(30,5,⟨Nat,[],fun σ k=>((σ.only [1,2]).t 4 (vI fun _=>(k:Int))).t 3 (vI fun _=>L8 o.wlks k),fun _ k _=>k≤o.wlks.length∧r6 o=true,fun _ k _=>o.wlks.length-k⟩),
  (30,9,⟨Nat,[],fun σ k=>((σ.only [1,2]).t 5 (vI fun _=>(k:Int))).t 3 (vI fun _=>L8 o.wlks o.wlks.length+Q4 o k),fun _ k _=>k≤o.ground.length∧r6 o=true,fun _ k _=>o.ground.length-k⟩)],noAnn,20,?_⟩
 cbv
 repeat' first|((with_reducible refine fun(k:Nat) => ?_);cbv)|((with_reducible intro _);cbv)|(with_reducible refine And.intro ?_ ?_)
 all_goals try((first|(with_reducible refine LoopIn.mk ((0:Nat)) ?_ ?_)|(with_reducible refine LoopBack.mk ((k+1:Nat)) ?_ ?_ ?_)) )
 all_goals try((with_reducible show l9 _ _);cbv;(try simp only[and_true,true_and]))
 all_goals try(repeat' with_reducible refine And.intro ?_ ?_)
 all_goals first|(refine retK h ?_;clear h;simp only[fin0])|(with_reducible refine Ob.mk ?_;clear h)|(clear h)
 all_goals(try simp only[eta0,RT.bytes]at *)
 all_goals grind[c6F,d5l,b6b,c1x,b5h,j4,a6V,a7m]
end Go.Proofs.YtmnapekfeenknaaGreat
namespace Go.Sx
end Go.Sx
namespace Go.Proofs.YtmnapekfeenknaaGreat
open Go.Sx Go.Proofs Go.Mo
theorem d5z:b9 Tryz.prog 47 d0O:=j5 j3 (ss := [(48,U4),(111,b6K),(112,a6R),(110,a0X)]) ⟨M4,b9W,b0A,a3E,trivial⟩ rfl rfl<|by
 intro(bs:Th (List Int)) (p:Th Int) ⟨(m:Th PMap),(n:Th Int),u⟩ K hb hp0 ho h
 obtain⟨m,rfl⟩:=b6 m;obtain⟨n,rfl⟩:=b6 n;obtain⟨bs,rfl⟩:=b6 bs;obtain⟨p,rfl⟩:=b6 p
 obtain⟨hpre,h⟩:=h
 have hpre:0≤p∧p≤1000000000700:=hpre.out
 refine⟨annL [(47,3,⟨List Wlk×Int×Int,[⟨.tmp 7 0,some 11,.wlk⟩],fun σ g=>((((σ.fgs [11]).t 8 (vI fun _=>g.2.1)).t 7 (vO 11 1)).row 11 1 .wlk (fun _=>g.1)).u9 0 1 (.att (.int .i64 fun _=>g.2.2)),
  fun _ g _=>0≤g.2.1∧g.2.1≤5∧(g.1.length:Int)≤5-g.2.1∧p≤g.2.2∧g.2.2≤p+1+10 * (5-g.2.1),fun _ g _=>g.2.1.toNat⟩)],noAnn,20,?_⟩
 cbv
 repeat' first|((with_reducible refine fun(k:Nat) => ?_);cbv)|((with_reducible refine fun(g:List Wlk×Int×Int) => ?_);obtain⟨gl,gk,gq⟩:=g;cbv)|((with_reducible intro _);cbv)|(with_reducible refine And.intro ?_ ?_)
 all_goals try(first|(rename_i w1 w2 w3 w4 w5 q1 hq;obtain⟨L,hL⟩ : ∃L,L=N3 gl ⟨w1,w2,w3,w4,w5⟩:=⟨_,rfl⟩;obtain⟨g1,hg1⟩ : ∃g1,g1=gk-1:=⟨_,rfl⟩;with_reducible refine LoopBack.mk ((L,g1,q1):List Wlk×Int×Int) ?_ ?_ ?_)|(rename_i x1 q1 hq;with_reducible refine LoopIn.mk (([],x1,q1):List Wlk×Int×Int) ?_ ?_))
 all_goals try((first|(with_reducible refine LoopIn.mk ((0:Nat)) ?_ ?_)|(with_reducible refine LoopBack.mk ((0:Nat)) ?_ ?_ ?_)) )
 all_goals try((with_reducible show l9 _ _);cbv;(try simp only[and_true,true_and]))
 all_goals try(repeat' with_reducible refine And.intro ?_ ?_)
 all_goals first|(refine retK (h _ _ ?_) rfl;clear h)|(with_reducible refine Ob.mk ?_;clear h)|(clear h)
 all_goals(try simp only[eta0,RT.bytes]at *)
 all_goals(try simp only[z8,List.length_set]at *)
 all_goals first|omega|grind[e9,a6H]
noncomputable def c4F:Sx.Spec:=⟨false,true,[.map,.int .i64,.list .wlk],[nSto],fun _ _ ⟨m,c,l,_⟩ => .ret (oSto fun _=>L3 (m ()) (c ()) (l ()),fun _=>0)⟩
theorem d2m:b9 Tryz.prog 51 b1f:=j5 j3 (ss := [(66,A5)]) ⟨K4,trivial⟩ rfl rfl<|by
 intro(bs:Th (List Int)) (p:Th Int) ⟨(m:Th PMap),u⟩ K _ _ ho h
 obtain⟨m,rfl⟩:=b6 m
 have hm := @n6 m
 refine⟨annL [(51,5,⟨Nat,[⟨.cell 4 0,some 500,.int⟩,⟨.cell 4 1,some 501,.int⟩],fun σ k=>((((((σ.fgs [500,501]).t 10 (vI fun _=>(k:Int))).u9 4 0 (.own 500 1)).u9 4 1 (.own 501 1)).row 500 1 .int (fun _=>List.replicate k (-1:Int))).row 501 1 .int (fun _=>List.replicate k (0:Int))),fun _ k _=>(k:Int)≤m.cells∧o9 m=true,fun _ k _=>m.cells.toNat-k⟩)],noAnn,20,?_⟩
 cbv
 repeat' first|((with_reducible refine fun(k:Nat) => ?_);cbv)|((with_reducible intro _);cbv)|(with_reducible refine And.intro ?_ ?_)
 all_goals try((first|(with_reducible refine LoopIn.mk ((0:Nat)) ?_ ?_)|(with_reducible refine LoopBack.mk ((k+1:Nat)) ?_ ?_ ?_)) )
 all_goals try((with_reducible show l9 _ _);cbv;(try simp only[and_true,true_and]))
 all_goals try(repeat' with_reducible refine And.intro ?_ ?_)
 all_goals first|(refine retK h ?_;clear h;simp only[fin0])|(with_reducible refine Ob.mk ?_;clear h)|(clear h)
 all_goals(try simp only[eta0,RT.bytes]at *)
 all_goals grind[j4,a7S,a0G]
theorem d2a:b9 Tryz.prog 52 b1d:=j5 j3 (ss := [(49,Z3),(36,B6)]) ⟨a1k,M7,trivial⟩ rfl rfl<|by
 intro(bs:Th (List Int)) (p:Th Int) ⟨(m:Th PMap),(l:Th (List Wlk)),u⟩ K _ _ ho h
 obtain⟨m,rfl⟩:=b6 m;obtain⟨l,rfl⟩:=b6 l
 have hl:=okB (ho.2.1 _ (.head _))
 have hf := @b0Y m l
 refine⟨annL [(52,5,⟨Nat,[⟨.cell 6 0,some 500,.row⟩],fun σ k=>(((σ.fgs [500]).t 15 (vI fun _=>(k:Int))).u9 6 0 (.own 500 1)).row 500 1 .row (fun _=>(l.take k).map (a0i m)),fun _ k _=>k≤l.length,fun _ k _=>l.length-k⟩)],noAnn,20,?_⟩
 cbv
 repeat' first|((with_reducible refine fun(k:Nat) => ?_);cbv)|((with_reducible intro _);cbv)|(with_reducible refine And.intro ?_ ?_)
 all_goals try((first|(with_reducible refine LoopIn.mk ((0:Nat)) ?_ ?_)|(with_reducible refine LoopBack.mk ((k+1:Nat)) ?_ ?_ ?_)) )
 all_goals try((with_reducible show l9 _ _);cbv;(try simp only[and_true,true_and]))
 all_goals try(repeat' with_reducible refine And.intro ?_ ?_)
 all_goals first|(refine retK h ?_;clear h;simp only[fin0])|(with_reducible refine Ob.mk ?_;clear h)|(clear h)
 all_goals(try simp only[eta0,RT.bytes]at *)
 all_goals grind[j4,b9q,a7j,a0i,List.length_map,List.length_take]
theorem d2j:b9 Tryz.prog 114 b1e:=j5 j3 (ss := [(49,Z3),(88,a3v),(36,B6)]) ⟨a1k,a3F,M7,trivial⟩ rfl rfl<|by
 intro(bs:Th (List Int)) (p:Th Int) ⟨(m:Th PMap),(c:Th Int),(l:Th (List Wlk)),u⟩ K _ _ ho h
 obtain⟨m,rfl⟩:=b6 m;obtain⟨c,rfl⟩:=b6 c;obtain⟨l,rfl⟩:=b6 l
 have hl:=okB (ho.2.2.1 _ (.head _))
 have hn:=b2U m c l
 have hm := @n6 m
 refine⟨annL [(114,5,⟨Nat,[⟨.cell 8 1,some 500,.wlk⟩],fun σ k=>(((σ.fgs [500]).t 28 (vI fun _=>(k:Int))).u9 8 1 (.own 500 1)).row 500 1 .wlk (fun _=>L9 m c l k),fun _ k _=>k≤l.length,fun _ k _=>l.length-k⟩)],noAnn,20,?_⟩
 cbv
 repeat' first|((with_reducible refine fun(k:Nat) => ?_);cbv)|((with_reducible intro _);cbv)|(with_reducible refine And.intro ?_ ?_)
 all_goals try((first|(with_reducible refine LoopIn.mk ((0:Nat)) ?_ ?_)|(with_reducible refine LoopBack.mk ((k+1:Nat)) ?_ ?_ ?_)) )
 all_goals try((with_reducible show l9 _ _);cbv;(try simp only[and_true,true_and]))
 all_goals try(repeat' with_reducible refine And.intro ?_ ?_)
 all_goals first|(refine retK h ?_;clear h;simp only[fin0])|(with_reducible refine Ob.mk ?_;clear h)|(clear h)
 all_goals(try simp only[eta0,RT.bytes]at *)
 all_goals(try dsimp only[RT.ty]at *)
 all_goals grind(splits:=20) [j4,e9,b2T,b5E,b0J,W8,O1,inR,Z1]
theorem d1H:b9 Tryz.prog 54 c4F:=j5 j3 (ss := [(114,b1e)]) ⟨d2j,trivial⟩ rfl rfl<|by
 intro(bs:Th (List Int)) (p:Th Int) ⟨(m:Th PMap),(c:Th Int),(l:Th (List Wlk)),u⟩ K _ _ ho h
 obtain⟨m,rfl⟩:=b6 m;obtain⟨c,rfl⟩:=b6 c;obtain⟨l,rfl⟩:=b6 l
 refine⟨noAnn,noAnn,20,?_⟩
 cbv
 repeat' first|((with_reducible intro _);cbv)|(with_reducible refine And.intro ?_ ?_)
 all_goals first|(refine retK h ?_;clear h;simp only[fin0])|(with_reducible refine Ob.mk ?_;clear h)|(clear h)
 all_goals(try simp only[eta0,RT.bytes]at *)
 all_goals grind[L3]
theorem d1E:b9 Tryz.prog 11 a5P:=j5 j3 (ss := [(49,Z3),(50,sIn),(51,b1f),(52,b1d),(53,a7K),(54,c4F)]) ⟨a1k,okIn,d2m,d2a,b9X,d1H,trivial⟩ rfl rfl<|by
 intro(bs:Th (List Int)) (p:Th Int) ⟨(m:Th PMap),(l:Th (List Wlk)),(v:Th Int),u⟩ K _ _ ho h
 obtain⟨m,rfl⟩:=b6 m;obtain⟨l,rfl⟩:=b6 l;obtain⟨v,rfl⟩:=b6 v
 have hm := @n6 m
 refine⟨annL [(11,5,⟨Nat×Unit,[⟨.cell 8 2,some 500,.srv⟩],fun σ q=>(((σ.fgs [500]).t 27 (vI fun _=>(q.1:Int))).u9 8 2 (.own 500 1)).row 500 1 .srv (fun _=>List.replicate q.1 ⟨true,[],[]⟩),fun _ q _=>(q.1:Int)≤v∧o9 m=true∧x7 m l=true∧1≤v∧v≤3,fun _ q _=>v.toNat-q.1⟩),
  (11,9,⟨Nat,[⟨.cell 8 3,some 501,.sto⟩],fun σ k=>(((σ.fgs [501]).t 38 (vI fun _=>(k:Int))).u9 8 3 (.own 501 1)).row 501 1 .sto (fun _=>(List.range k).map fun(i:Nat)=>L3 m (i:Int) l),fun _ k _=>(k:Int)≤m.cells∧o9 m=true∧x7 m l=true∧1≤v∧v≤3,fun _ k _=>m.cells.toNat-k⟩)],noAnn,20,?_⟩
 cbv
 repeat' first|((with_reducible refine fun(k:Nat) => ?_);cbv)|((with_reducible refine fun(q:Nat×Unit) => ?_);obtain⟨s,_⟩:=q;cbv)|((with_reducible intro _);cbv)|(with_reducible refine And.intro ?_ ?_)
 all_goals try((first|(with_reducible refine LoopIn.mk (((0,()):Nat×Unit)) ?_ ?_)|(with_reducible refine LoopIn.mk ((0:Nat)) ?_ ?_)|(with_reducible refine LoopBack.mk ((k+1:Nat)) ?_ ?_ ?_)|(with_reducible refine LoopBack.mk (((s+1,()):Nat×Unit)) ?_ ?_ ?_)) )
 all_goals try((with_reducible show l9 _ _);cbv;(try simp only[and_true,true_and]))
 all_goals try(repeat' with_reducible refine And.intro ?_ ?_)
 all_goals first|(refine retK h ?_;clear h;simp only[fin0])|(with_reducible refine Ob.mk ?_;clear h)|(clear h)
 all_goals(try simp only[eta0,RT.bytes]at *)
 all_goals(try dsimp only[RT.ty]at *)
 all_goals(try grind(splits:=20) [j4,e9,inR,a7S,b9s,z5,M8,R4])
section
variable {w:Wld} {e:Evt} (h:m8 w=true)
include h
end
end Go.Proofs.YtmnapekfeenknaaGreat
namespace Go.Proofs.YtmnapekfeenknaaGreat
open Go.Sx Go.Proofs Go.Mo
end Go.Proofs.YtmnapekfeenknaaGreat
namespace Go.Sx
end Go.Sx
namespace Go.Proofs.YtmnapekfeenknaaGreat
open Go.Sx Go.Proofs Go.Mo
noncomputable def d0g (p:Th Int) (B n:Int):Rn (V×Th Int) := .asrt (fun _=>0≤p ()∧p ()≤B) (.all Int fun a => .all Int fun b => .all (List Srv) fun c => .all (List Sto) fun d => .all (List Int) fun e => .all (List Int) fun f => .all (List Row) fun g => .all (List Msg) fun h => .all (List Note) fun i => .all Int fun q => .asm (fun _=>p ()≤q∧q≤p ()+n∧m8 ⟨⟨a,b⟩,c,d,⟨e,f⟩,g,h,i⟩=true) (.ret (rWld a b c d e f g h i,fun _=>q)))
noncomputable def d1a:Sx.Spec:=⟨true,false,[],[nWld],fun _ p _=>d0g p 980000000000 100⟩
noncomputable def d0N:Sx.Spec:=⟨true,false,[],[nWld],fun _ p _=>d0g p 970000000000 200000⟩
theorem d5M:b9 Tryz.prog 98 d1a:=j5 j3 (ss := [(48,U4),(110,a0X),(13,a5P),(139,a5R)]) ⟨M4,a3E,a9C,a6Y,trivial⟩ rfl rfl<|by
 intro(bs:Th (List Int)) (p:Th Int) u K hb hp0 ho h
 obtain⟨bs,rfl⟩:=b6 bs;obtain⟨p,rfl⟩:=b6 p
 obtain⟨hpre,h⟩:=h
 have hpre:0≤p∧p≤980000000000:=hpre.out
 refine⟨annL [(98,4,⟨Th (List Wlk)×Th Int×Th Int,[⟨.tmp 4 0,some 16,.wlk⟩],fun σ g=>((((σ.fgs [16]).t 5 (.one (.att (.int .i64 g.2.1)))).t 4 (vO 16 1)).h 16 (1,.row true 0 .wlk g.1)).u9 0 1 (.att (.int .i64 g.2.2)),
   fun σ g _=>Ob (begC (asI (σ.ce 4 0)) (asI (σ.ce 4 1)) g.1 g.2.1 g.2.2 p),fun _ g _=>(g.2.1 ()).toNat⟩),
  (98,9,⟨Th Wld×Th Int×Th Int,[⟨.cell 7 2,none,.srv⟩,⟨.cell 7 3,none,.sto⟩,⟨.cell 7 4,none,.int⟩,⟨.cell 7 5,none,.int⟩,⟨.cell 7 6,none,.row⟩,⟨.cell 7 7,none,.msg⟩,⟨.cell 7 8,none,.note⟩],fun σ g=>((((St.kill σ [23810,23811,23812,23813,23814,23815,23816]).only [0,2,3,6]).t 7 (.one (.att (.int .i64 g.2.1)))).a4D 7 0 (a3e g.1)).u9 0 1 (.att (.int .i64 g.2.2)),
   fun _ g _=>Ob fun _=>m8 (g.1 ())=true∧0≤g.2.1 ()∧g.2.1 ()≤4∧p≤g.2.2 ()∧g.2.2 ()≤p+20+2 * g.2.1 (),fun _ g _=>(4-g.2.1 ()).toNat⟩)],noAnn,20,?_⟩
 cbv
 repeat' first|((with_reducible refine fun(g:Th (List Wlk)×Th Int×Th Int) => ?_);obtain⟨l,k,q⟩:=g;obtain⟨l,rfl⟩:=b6 l;obtain⟨k,rfl⟩:=b6 k;obtain⟨q,rfl⟩:=b6 q;(with_reducible refine ImpB.out ?_);cbv;(with_reducible refine ImpB.mk ?_);intro hq;obtain⟨hq⟩:=hq)|((with_reducible refine fun(g:Th Wld×Th Int×Th Int) => ?_);obtain⟨w,c,q⟩:=g;obtain⟨w,rfl⟩:=b6 w;obtain⟨c,rfl⟩:=b6 c;obtain⟨q,rfl⟩:=b6 q;(with_reducible refine ImpB.out ?_);cbv;(with_reducible refine ImpB.mk ?_);intro hq;obtain⟨hq⟩:=hq)|((with_reducible intro _);cbv)|(with_reducible refine And.intro ?_ ?_)
 all_goals try((first|(with_reducible refine LoopIn.wf (fun σ => (σ.rowL .wlk 16,σ.tmI 5,asI (σ.ce 0 1))) ?_ ?_)|(with_reducible refine LoopBack.wf (fun σ => (σ.rowL .wlk 16,σ.tmI 5,asI (σ.ce 0 1))) ?_ ?_ ?_)|(with_reducible refine LoopIn.wf (fun σ => (b0r σ 7,σ.tmI 7,asI (σ.ce 0 1))) ?_ ?_)|(with_reducible refine LoopBack.wf (fun σ => (b0r σ 7,σ.tmI 7,asI (σ.ce 0 1))) ?_ ?_ ?_))<;>cbv)
 all_goals try(with_reducible show _∧_;(try simp only[and_true,true_and]))
 all_goals try(repeat' with_reducible refine And.intro ?_ ?_)
 all_goals try(with_reducible refine MeasB.mk ?_)
 all_goals first|(refine retK (h _ _ _ _ _ _ _ _ _ _ ?_) rfl;clear h)|(with_reducible refine Ob.mk ?_;clear h)|(clear h)
 all_goals(try simp only[eta0,RT.bytes]at *)
 all_goals(try simp only[begC]at *)
 all_goals(try dsimp only[RT.ty]at *)
 all_goals(try simp only[M0]at *)
 all_goals(try(have hfew:=b0Y hq.2.1))
 all_goals(try(first|omega|rfl|exact⟨by omega,by omega,hq.1⟩))
 ·rename_i x5 x4 ha x3 x2 hb1 x1 x0 hc
  have hw:IntKind.i64.wrap (1+x1)=1+x1:=e9 (by omega) (by omega)
  rw[hw]
  exact⟨c6J ⟨ha.1,ha.2.1⟩ ⟨hb1.1,hb1.2.1⟩,by simp[x7,m9],by omega,by omega,by omega,by omega⟩
 ·rename_i x3 x2 ha x1 x0 hb1 hk
  have hw:IntKind.i64.wrap (k-1)=k-1:=e9 (by omega) (by omega)
  rw[hw]
  exact⟨hq.1,c6I hq.1 hq.2.1 hk (by omega) ⟨ha.1,ha.2.1⟩ ⟨hb1.1,hb1.2.1⟩,by omega,by omega,by omega,by omega⟩
 ·have hw:IntKind.i64.wrap (k-1)=k-1:=e9 (by omega) (by omega)
  rw[hw]
  omega
 ·rename_i x1 x0 hc hk
  have hw:IntKind.i64.wrap (1+x1)=1+x1:=e9 (by omega) (by omega)
  exact⟨@a9f ⟨_,_⟩ l (IntKind.i64.wrap (1+x1)) hq.1 hq.2.1 (by rw[hw];omega) (by rw[hw];omega),by omega,by omega,by omega,by omega⟩
 ·refine⟨b1C _ (b1C _ hq.1),?_⟩
  grind[e9]
 ·grind[e9]
theorem d5y:b9 Tryz.prog 131 d0N:=j5 j3 (ss := [(98,d1a),(48,U4),(99,b6N)]) ⟨d5M,M4,c0h,trivial⟩ rfl rfl<|by
 intro(bs:Th (List Int)) (p:Th Int) u K hb hp0 ho h
 obtain⟨bs,rfl⟩:=b6 bs;obtain⟨p,rfl⟩:=b6 p
 obtain⟨hpre,h⟩:=h
 have hpre:0≤p∧p≤970000000000:=hpre.out
 refine⟨noAnn,noAnn,20,?_⟩
 cbv
 repeat' first|((with_reducible intro _);cbv)|(with_reducible refine And.intro ?_ ?_)
 all_goals first|(refine retK (h _ _ _ _ _ _ _ _ _ _ ?_) rfl;clear h)|(with_reducible refine Ob.mk ?_;clear h)|(clear h)
 all_goals(try simp only[eta0,RT.bytes]at *)
 all_goals(try dsimp only[RT.ty]at *)
 all_goals(try simp only[M0]at *)
 all_goals(first|rfl|omega|grind[e9,b2l,wP]|(rename_i xa xb xc xd xe xf xg xh xi xq hw y3 y2 hy y1 y0 hz;have hfew:=b2l hw.2.2;have hm := @d5W y1 y3 hz.1 (hz.2.1 (by omega)) hy.1 (hy.2.1 (by omega));dsimp only at hfew;exact⟨by omega,by omega,Int.le_trans hm (by decide),by omega,by omega⟩))
end Go.Proofs.YtmnapekfeenknaaGreat
