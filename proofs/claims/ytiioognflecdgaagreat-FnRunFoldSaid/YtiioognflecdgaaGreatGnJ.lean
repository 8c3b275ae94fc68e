/-
  Contracts: a walker put among others.
-/
import Derived.Test.YtiioognflecdgaaGreatInsW
import Derived.Test.YtiioognflecdgaaGreatM1
import Derived.Test.YtiioognflecdgaaGreatFnFb
import Derived.Test.YtiioognflecdgaaGreatM2
import Derived.Test.YtiioognflecdgaaGreatGnC
set_option linter.unusedVariables false
set_option linter.unusedSimpArgs false
set_option maxRecDepth 100000
set_option maxHeartbeats 8000000
namespace Go.Proofs.YtiioognflecdgaaGreat
open Go.Sx Go.Proofs Go.Mo
noncomputable def Y9:Sx.Spec:=⟨false,true,[.list .wlk,.row .wlk],[[some .wlk]],fun _ _ ⟨l,w,_⟩ => .asrt (fun _=>((l ()).length+1) * 40≤140737488355328) (.ret (vW .wlk fun _=>O0 (l ()) (w ()),fun _=>0))⟩
theorem a1U:b6 Tryz.prog 56 Y9:=j3 b9 (ss := [(102,a1e)]) ⟨b2A,trivial⟩ rfl rfl<|by
 intro(bs:Th (List Int)) (p:Th Int) ⟨(l:Th (List Wlk)),(w:Th Wlk),u⟩ K _ _ ho h
 obtain⟨l,rfl⟩:=a8 l;obtain⟨w,rfl⟩:=a8 w
 obtain⟨hp,h⟩:=h
 have hp:=hp.out
 have hl:=a2p l w.id
 have hz:=c3t (F6 l w.id) w
 refine⟨annL [(56,5,⟨Nat,[⟨.tmp 6 0,some 14,.wlk⟩],fun σ k=>((((σ.fg 14).t 8 (vI fun _=>(k:Int))).t 6 (vO 14 1)).t 7 (vB fun _=>y6 (F6 l w.id) w k)).row 14 1 .wlk (fun _=>M0 (F6 l w.id) w k),fun _ k _=>k≤(F6 l w.id).length,fun _ k _=>(F6 l w.id).length-k⟩)],noAnn,20,?_⟩
 cbv
 repeat' first|((with_reducible refine fun(k:Nat) => ?_);cbv)|((with_reducible intro _);cbv)|(with_reducible refine And.intro ?_ ?_)
 all_goals try((first|(with_reducible refine LoopIn.mk ((0:Nat)) ?_ ?_)|(with_reducible refine LoopBack.mk ((k+1:Nat)) ?_ ?_ ?_)) )
 all_goals try((with_reducible show l8 _ _);cbv;(try simp only[and_true,true_and]))
 all_goals try(repeat' with_reducible refine And.intro ?_ ?_)
 all_goals first|(refine retK h ?_;clear h;simp only[fin0])|(with_reducible refine Ob.mk ?_;clear h)|(clear h)
 all_goals(try simp only[eta0,RT.bytes]at *)
 all_goals grind[b8N,b4d,a7V,a7U,a7T,b1y,b1x,b1w,b8R,b8Q,b8O,j4,b1K]
theorem a9W:b6 Tryz.prog 230 Y9:=j3 b9 (ss := [(228,a1e),(189,a5L),(247,.raw (insM .wlk))]) ⟨a6e,b7a,c7h,trivial⟩ rfl rfl<|by
 intro(bs:Th (List Int)) (p:Th Int) ⟨(l:Th (List Wlk)),(w:Th Wlk),u⟩ K _ _ ho h
 obtain⟨l,rfl⟩:=a8 l;obtain⟨w,rfl⟩:=a8 w
 obtain⟨hp,h⟩:=h
 have hp:=hp.out
 have hl:=a2p l w.id
 have hlt:=b8k (F6 l w.id) w.id
 refine⟨annL [(244,2,⟨Nat,[],fun σ k => σ.t 8 (vI fun _=>(k:Int)),fun _ k _=>k≤(F6 l w.id).length∧l9 k (nab (F6 l w.id) w.id)=true,fun _ k _=>(F6 l w.id).length-k⟩)],noAnn,20,?_⟩
 cbv
 repeat' first|((with_reducible refine fun(k:Nat) => ?_);cbv)|((with_reducible intro _);cbv)|(with_reducible refine And.intro ?_ ?_)
 all_goals try((first|(with_reducible refine LoopIn.mk ((0:Nat)) ?_ ?_)|(with_reducible refine LoopBack.mk ((k+1:Nat)) ?_ ?_ ?_)) )
 all_goals try((with_reducible show l8 _ _);cbv;(try simp only[and_true,true_and]))
 all_goals try(repeat' with_reducible refine And.intro ?_ ?_)
 all_goals first|(refine retK h ?_;clear h;simp only[fin0])|(with_reducible refine Ob.mk ?_;clear h)|(clear h)
 all_goals(try simp only[eta0,RT.bytes]at *)
 all_goals grind[n8,n3,nab,S5,b8l,c0y,b1K,C5,b0z,j4]
theorem a0N:b6 Tryz.prog 146 a0J:=j3 b9 (ss := [(48,A9),(97,sIn),(103,U3),(156,C8),(185,c0X)]) ⟨C9,G7,V8,I0,c7a,trivial⟩ rfl rfl<|by
 intro(bs:Th (List Int)) (p:Th Int) ⟨(m:Th PMap),(c:Th Cll),u⟩ K _ _ ho h
 obtain⟨m,rfl⟩:=a8 m;obtain⟨c,rfl⟩:=a8 c
 obtain⟨hw,hou,hoi,hn,hi,_,_⟩:=a8e ho.2.1
 have hi:=s0 (m:=m)
 refine⟨annL [(146,4,⟨Nat,[],fun σ k=>(σ.t 5 (vI fun _=>(k:Int))),fun _ k _=>k≤c.wlks.length∧Z3 m c=true∧l9 k (a2R m c)=true,fun _ k _=>c.wlks.length-k⟩)],noAnn,20,?_⟩
 cbv
 repeat' first|((with_reducible refine fun(k:Nat) => ?_);cbv)|((with_reducible intro _);cbv)|(with_reducible refine And.intro ?_ ?_)
 all_goals try((first|(with_reducible refine LoopIn.mk ((0:Nat)) ?_ ?_)|(with_reducible refine LoopBack.mk ((k+1:Nat)) ?_ ?_ ?_)) )
 all_goals try((with_reducible show l8 _ _);cbv;(try simp only[and_true,true_and]))
 all_goals try(repeat' with_reducible refine And.intro ?_ ?_)
 all_goals first|(refine retK h ?_;clear h;simp only[fin0])|(with_reducible refine Ob.mk ?_;clear h)|(clear h)
 all_goals(try simp only[eta0,RT.bytes]at *)
 all_goals grind[inR,n8,n3,a2R,Z3,p9,b1f,b1e,j4,b8]
noncomputable def b6d:Sx.Spec:=⟨false,true,[.map,.list .gst,.row .gst],[[some .gst]],fun _ _ ⟨m,l,g,_⟩ => .ret (vW .gst fun _=>a6A (m ()) (l ()) (g ()),fun _=>0)⟩
theorem c3R:b6 Tryz.prog 209 b6d:=j3 b9 (ss := [(149,a9r),(154,a4S),(187,a1R)]) ⟨b2D,b0d,b6U,trivial⟩ rfl rfl<|by
 intro(bs:Th (List Int)) (p:Th Int) ⟨(m:Th PMap),(l:Th (List Gst)),(g:Th Gst),u⟩ K _ _ ho h
 obtain⟨m,rfl⟩:=a8 m;obtain⟨l,rfl⟩:=a8 l;obtain⟨g,rfl⟩:=a8 g
 have hl:=okB (ho.2.1 _ (.head _))
 have hz:=c8k l g
 have hlong:20<l.length→D2 m l=false:=fun h=>a7E h
 refine⟨annL [(209,6,⟨Nat,[⟨.tmp 7 0,some 23,.gst⟩],fun σ k=>((((σ.fg 23).t 9 (vI fun _=>(k:Int))).t 7 (vO 23 1)).t 8 (vB fun _=>(gpTo l g k).d)).row 23 1 .gst (fun _=>(gpTo l g k).l),fun _ k _=>k≤l.length∧l.length≤20∧D2 m l=true∧a0o m g=true,fun _ k _=>l.length-k⟩)],noAnn,20,?_⟩
 cbv
 repeat' first|((with_reducible refine fun(k:Nat) => ?_);cbv)|((with_reducible intro _);cbv)|(with_reducible refine And.intro ?_ ?_)
 all_goals try((first|(with_reducible refine LoopIn.mk ((0:Nat)) ?_ ?_)|(with_reducible refine LoopBack.mk ((k+1:Nat)) ?_ ?_ ?_)) )
 all_goals try((with_reducible show l8 _ _);cbv;(try simp only[and_true,true_and]))
 all_goals try(repeat' with_reducible refine And.intro ?_ ?_)
 all_goals first|(refine retK h ?_;clear h;simp only[fin0])|(with_reducible refine Ob.mk ?_;clear h)|(clear h)
 all_goals(try simp only[eta0,RT.bytes]at *)
 all_goals grind(splits:=30) [j4,b8,c4N,a7F,P5,c1Z,a6A]
def gotS (m:PMap) (t:Arb) (cell side n:Int):List Msg :=
 if j9 t (b7 m cell side) = -1∨n=0 then[]else[⟨6,j9 t (b7 m cell side),b7 m cell side,IntKind.i64.wrap (1-side),n,u6,A8,G5⟩]
noncomputable def sGot:Sx.Spec:=⟨false,true,[.map,.arb,.int .i64,.int .i64,.int .i64],[[some .msg]],fun _ _ ⟨m,t,c,s,n,_⟩ => .ret (vW .msg fun _=>gotS (m ()) (t ()) (c ()) (s ()) (n ()),fun _=>0)⟩
theorem c7d:b6 Tryz.prog 237 sGot:=j3 b9 (ss := [(151,F9),(77,E6)]) ⟨Y0,Q3,trivial⟩ rfl rfl<|by
 intro(bs:Th (List Int)) (p:Th Int) ⟨(m:Th PMap),(t:Th Arb),(c:Th Int),(s:Th Int),(n:Th Int),u⟩ K _ _ ho h
 obtain⟨m,rfl⟩:=a8 m;obtain⟨t,rfl⟩:=a8 t;obtain⟨c,rfl⟩:=a8 c;obtain⟨s,rfl⟩:=a8 s;obtain⟨n,rfl⟩:=a8 n
 refine⟨noAnn,noAnn,20,?_⟩
 cbv
 repeat' first|((with_reducible intro _);cbv)|(with_reducible refine And.intro ?_ ?_)
 all_goals first|(refine retK h ?_;clear h;simp only[fin0])|(with_reducible refine Ob.mk ?_;clear h)|(clear h)
 all_goals(try simp only[eta0,RT.bytes]at *)
 all_goals grind[gotS,u6,A8,G5]
end Go.Proofs.YtiioognflecdgaaGreat
