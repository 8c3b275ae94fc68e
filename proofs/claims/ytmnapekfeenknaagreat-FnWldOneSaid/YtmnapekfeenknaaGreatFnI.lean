/-
  Contracts: messages, the book.
-/
import Derived.Test.YtmnapekfeenknaaGreatInsW
import Derived.Test.YtmnapekfeenknaaGreatS4f
import Derived.Test.YtmnapekfeenknaaGreatM1
set_option linter.unusedVariables false
set_option linter.unusedSimpArgs false
set_option maxRecDepth 100000
set_option maxHeartbeats 8000000
namespace Go.Proofs.YtmnapekfeenknaaGreat
open Go.Sx Go.Proofs Go.Mo
noncomputable def d0Q:Sx.Spec:=⟨false,true,[.map,.row .row],[],fun _ _ ⟨m,r,_⟩ => .asrt (fun _=>o9 (m ())=true) (.ret (vB fun _=>a0h (m ()) (r ()),fun _=>0))⟩
noncomputable def a6P:Sx.Spec:=⟨false,true,[.map,.book],[],fun _ _ ⟨m,l,_⟩ => .ret (vB fun _=>C4 (m ()) (l ()),fun _=>0)⟩
noncomputable def Z4:Sx.Spec:=⟨false,true,[.book,.int .i64],[],fun _ _ ⟨l,w,_⟩ => .ret (vI fun _=>m7 (l ()) (w ()),fun _=>0)⟩
noncomputable def a5S:Sx.Spec:=⟨false,true,[.book],[[some .row]],fun _ _ ⟨l,_⟩ => .ret (oAs [.list .row l],fun _=>0)⟩
noncomputable def c4O:Sx.Spec:=⟨false,true,[.map,.book,.int .i64,.int .i64,.int .i64,.int .i64],[[some .row],[none]],fun _ _ ⟨m,l,w,k,d,n,_⟩ => .ret (.tup [oAs [.list .row fun _=>(a8J (m ()) (l ()) (w ()) (k ()) (d ()) (n ())).b],vB fun _=>(a8J (m ()) (l ()) (w ()) (k ()) (d ()) (n ())).ok],fun _=>0)⟩
theorem d1T:b9 Tryz.prog 191 d0Q:=j5 j3 (ss := [(60,sIn),(35,Y5)]) ⟨J5,a2h,trivial⟩ rfl rfl<|by
 intro(bs:Th (List Int)) (p:Th Int) ⟨(m:Th PMap),(r:Th Row),u⟩ K _ _ ho h
 obtain⟨m,rfl⟩:=b6 m;obtain⟨r,rfl⟩:=b6 r
 obtain⟨ha,h⟩:=h
 have ha:=ha.out
 refine⟨noAnn,noAnn,20,?_⟩
 cbv
 repeat' first|((with_reducible intro _);cbv)|(with_reducible refine And.intro ?_ ?_)
 all_goals first|(refine retK h ?_;clear h;simp only[fin0])|(with_reducible refine Ob.mk ?_;clear h)|(clear h)
 all_goals(try simp only[eta0,RT.bytes]at *)
 all_goals grind(splits:=20) [a0h,inR,a2v,e9,o9]
theorem d5K:b9 Tryz.prog 74 a6P:=j5 j3 (ss := [(81,a3u),(50,sIn),(92,Y5),(66,A5)]) ⟨a4p,okIn,a6a,K4,trivial⟩ rfl rfl<|by
 intro(bs:Th (List Int)) (p:Th Int) ⟨(m:Th PMap),(l:Th (List Row)),u⟩ K _ _ ho h
 obtain⟨m,rfl⟩:=b6 m;obtain⟨l,rfl⟩:=b6 l
 have hl:=okL (ho.2.1 _ (.head _))
 refine⟨annL [(74,2,⟨Nat,[],fun σ k => σ.t 10 (vI fun _=>(k:Int)),fun _ k _=>k≤l.length∧(o9 m=true→m9 k (N1 m l)=true),fun _ k _=>l.length-k⟩)],noAnn,20,?_⟩
 cbv
 repeat' first|((with_reducible refine fun(k:Nat) => ?_);cbv)|((with_reducible intro _);cbv)|(with_reducible refine And.intro ?_ ?_)
 all_goals try((first|(with_reducible refine LoopIn.mk ((0:Nat)) ?_ ?_)|(with_reducible refine LoopBack.mk ((k+1:Nat)) ?_ ?_ ?_)) )
 all_goals try((with_reducible show l9 _ _);cbv;(try simp only[and_true,true_and]))
 all_goals try(repeat' with_reducible refine And.intro ?_ ?_)
 all_goals first|(refine retK h ?_;clear h;simp only[fin0])|(with_reducible refine Ob.mk ?_;clear h)|(clear h)
 all_goals(try simp only[eta0,RT.bytes]at *)
 all_goals(try have hwp:IntKind.i64.wrap ((k:Int)-1)=((k-1:Nat):Int):=Z1 (by omega) (by omega))
 all_goals(try simp only[hwp,Int.toNat_natCast]at *)
 all_goals(by_cases hpo:o9 m=true)
 all_goals grind(splits:=20) [o9,j4,e9,c0Q,c0P,c5W,C4,N1,a0h,a2v,n8,n5,inR]
theorem a8n:b9 Tryz.prog 146 a6P:=j5 j3 (ss := [(14,A5),(191,d0Q)]) ⟨F7,d1T,trivial⟩ rfl rfl<|by
 intro(bs:Th (List Int)) (p:Th Int) ⟨(m:Th PMap),(l:Th (List Row)),u⟩ K _ _ ho h
 obtain⟨m,rfl⟩:=b6 m;obtain⟨l,rfl⟩:=b6 l
 have hl:=okL (ho.2.1 _ (.head _))
 refine⟨annL [(146,4,⟨Nat,[],fun σ k => σ.t 5 (vI fun _=>(k:Int)),fun _ k _=>k≤l.length∧o9 m=true∧m9 k (N1 m l)=true,fun _ k _=>l.length-k⟩)],noAnn,20,?_⟩
 cbv
 repeat' first|((with_reducible refine fun(k:Nat) => ?_);cbv)|((with_reducible intro _);cbv)|(with_reducible refine And.intro ?_ ?_)
 all_goals try((first|(with_reducible refine LoopIn.mk ((0:Nat)) ?_ ?_)|(with_reducible refine LoopBack.mk ((k+1:Nat)) ?_ ?_ ?_)) )
 all_goals try((with_reducible show l9 _ _);cbv;(try simp only[and_true,true_and]))
 all_goals try(repeat' with_reducible refine And.intro ?_ ?_)
 all_goals first|(refine retK h ?_;clear h;simp only[fin0])|(with_reducible refine Ob.mk ?_;clear h)|(clear h)
 all_goals(try simp only[eta0,RT.bytes]at *)
 all_goals grind[j4,e9,c0Q,c0P,c5W,C4,N1,n8,n5]
theorem b7u:b9 Tryz.prog 246 Z4:=j5 j3 (ss := []) trivial rfl rfl<|by
 intro(bs:Th (List Int)) (p:Th Int) ⟨(l:Th (List Row)),(w:Th Int),u⟩ K _ _ ho h
 obtain⟨l,rfl⟩:=b6 l;obtain⟨w,rfl⟩:=b6 w
 have hl:=okL (ho.1 _ (.head _))
 refine⟨annL [(246,2,⟨Nat,[],fun σ k => σ.t 5 (vI fun _=>(k:Int)),fun _ k _=>k≤l.length∧m9 k (nwho l w)=true,fun _ k _=>l.length-k⟩)],noAnn,20,?_⟩
 cbv
 repeat' first|((with_reducible refine fun(k:Nat) => ?_);cbv)|((with_reducible intro _);cbv)|(with_reducible refine And.intro ?_ ?_)
 all_goals try((first|(with_reducible refine LoopIn.mk ((0:Nat)) ?_ ?_)|(with_reducible refine LoopBack.mk ((k+1:Nat)) ?_ ?_ ?_)) )
 all_goals try((with_reducible show l9 _ _);cbv;(try simp only[and_true,true_and]))
 all_goals try(repeat' with_reducible refine And.intro ?_ ?_)
 all_goals first|(refine retK h ?_;clear h;simp only[fin0])|(with_reducible refine Ob.mk ?_;clear h)|(clear h)
 all_goals(try simp only[eta0,RT.bytes]at *)
 all_goals grind[n8,n5,nwho,a8F,c2v,b9r,j4]
theorem a9F:b9 Tryz.prog 222 a5S:=j5 j3 (ss := []) trivial rfl rfl<|by
 intro(bs:Th (List Int)) (p:Th Int) ⟨(l:Th (List Row)),u⟩ K _ _ ho h
 obtain⟨l,rfl⟩:=b6 l
 have hl:=okB (ho.1 _ (.head _))
 refine⟨noAnn,noAnn,20,?_⟩
 cbv
 repeat' first|((with_reducible intro _);cbv)|(with_reducible refine And.intro ?_ ?_)
 all_goals first|(refine retK h ?_;clear h;simp only[fin0])|(with_reducible refine Ob.mk ?_;clear h)|(clear h)
 all_goals(try simp only[eta0,RT.bytes]at *)
 all_goals grind
end Go.Proofs.YtmnapekfeenknaaGreat
namespace Go.Sx
theorem a6N {t:RT} (l:Th (List t.ty)) (i:Th Int) (f:Th t.ty):C5 t l i f=fun _=>(l ()).set (i ()).toNat (f ()):=rfl
abbrev ioX (s:Io):SpecX := .raw (b8d s)
end Go.Sx
namespace Go.Proofs.YtmnapekfeenknaaGreat
open Go.Sx Go.Proofs Go.Mo
theorem c8h:b9 Tryz.prog 214 c4O:=j5 j3 (ss := [(146,a6P),(222,a5S),(246,Z4),(35,Y5)]) ⟨a8n,a9F,b7u,a2h,trivial⟩ rfl rfl<|by
 intro(bs:Th (List Int)) (p:Th Int) ⟨(m:Th PMap),(l:Th (List Row)),(w:Th Int),(k:Th Int),(d:Th Int),(n:Th Int),u⟩ K _ _ ho h
 obtain⟨m,rfl⟩:=b6 m;obtain⟨l,rfl⟩:=b6 l;obtain⟨w,rfl⟩:=b6 w;obtain⟨k,rfl⟩:=b6 k;obtain⟨d,rfl⟩:=b6 d;obtain⟨n,rfl⟩:=b6 n
 have hs := @b3a m l
 have hp:=a2W l w
 have hlt0 : ¬m7 l w = -1→(m7 l w).toNat<l.length:=fun h=>by omega
 have hq:=fun(h:C4 m l=true)=>b3a h (m7 l w).toNat
 refine⟨noAnn,noAnn,20,?_⟩
 cbv
 repeat' first|((with_reducible intro _);cbv)|(with_reducible refine And.intro ?_ ?_)
 all_goals first|(refine retK h ?_;clear h;simp only[fin0])|(with_reducible refine Ob.mk ?_;clear h)|(clear h)
 all_goals(try simp only[eta0,RT.bytes]at *)
 all_goals(try have hlt:=hlt0 (by assumption))
 all_goals(try simp only[j9 .row hlt,List.set_set,List.length_set]at *)
 all_goals(try simp only[a6N,j9 .row hlt,List.set_set,List.length_set,b8v,b1x])
 all_goals grind[a8J,T7,b8g,e9]
noncomputable def a0X:Sx.Spec:=⟨false,true,[.list .wlk,.row .wlk],[[some .wlk]],fun _ _ ⟨l,w,_⟩ => .asrt (fun _=>((l ()).length+1) * 40≤140737488355328) (.ret (vW .wlk fun _=>N3 (l ()) (w ()),fun _=>0))⟩
theorem a3E:b9 Tryz.prog 110 a0X:=j5 j3 (ss := [(172,a1C)]) ⟨b5p,trivial⟩ rfl rfl<|by
 intro(bs:Th (List Int)) (p:Th Int) ⟨(l:Th (List Wlk)),(w:Th Wlk),u⟩ K _ _ ho h
 obtain⟨l,rfl⟩:=b6 l;obtain⟨w,rfl⟩:=b6 w
 obtain⟨hp,h⟩:=h
 have hp:=hp.out
 have hl:=a3U l w.id
 have hz:=c7B (F4 l w.id) w
 refine⟨annL [(110,5,⟨Nat,[⟨.tmp 6 0,some 14,.wlk⟩],fun σ k=>((((σ.fg 14).t 8 (vI fun _=>(k:Int))).t 6 (vO 14 1)).t 7 (vB fun _=>A9 (F4 l w.id) w k)).row 14 1 .wlk (fun _=>Q7 (F4 l w.id) w k),fun _ k _=>k≤(F4 l w.id).length,fun _ k _=>(F4 l w.id).length-k⟩)],noAnn,20,?_⟩
 cbv
 repeat' first|((with_reducible refine fun(k:Nat) => ?_);cbv)|((with_reducible intro _);cbv)|(with_reducible refine And.intro ?_ ?_)
 all_goals try((first|(with_reducible refine LoopIn.mk ((0:Nat)) ?_ ?_)|(with_reducible refine LoopBack.mk ((k+1:Nat)) ?_ ?_ ?_)) )
 all_goals try((with_reducible show l9 _ _);cbv;(try simp only[and_true,true_and]))
 all_goals try(repeat' with_reducible refine And.intro ?_ ?_)
 all_goals first|(refine retK h ?_;clear h;simp only[fin0])|(with_reducible refine Ob.mk ?_;clear h)|(clear h)
 all_goals(try simp only[eta0,RT.bytes]at *)
 all_goals grind[c2y,b6Y,b0u,b0t,b0s,b4k,b4j,b4i,c2C,c2B,c2z,j4,b4z]
theorem b2m:b9 Tryz.prog 243 a0X:=j5 j3 (ss := [(166,a1C),(162,a7P),(262,.raw (insM .wlk))]) ⟨a5l,c0q,d1Z,trivial⟩ rfl rfl<|by
 intro(bs:Th (List Int)) (p:Th Int) ⟨(l:Th (List Wlk)),(w:Th Wlk),u⟩ K _ _ ho h
 obtain⟨l,rfl⟩:=b6 l;obtain⟨w,rfl⟩:=b6 w
 obtain⟨hp,h⟩:=h
 have hp:=hp.out
 have hl:=a3U l w.id
 have hlt:=c1P (F4 l w.id) w.id
 refine⟨annL [(200,2,⟨Nat,[],fun σ k => σ.t 8 (vI fun _=>(k:Int)),fun _ k _=>k≤(F4 l w.id).length∧m9 k (nab (F4 l w.id) w.id)=true,fun _ k _=>(F4 l w.id).length-k⟩)],noAnn,20,?_⟩
 cbv
 repeat' first|((with_reducible refine fun(k:Nat) => ?_);cbv)|((with_reducible intro _);cbv)|(with_reducible refine And.intro ?_ ?_)
 all_goals try((first|(with_reducible refine LoopIn.mk ((0:Nat)) ?_ ?_)|(with_reducible refine LoopBack.mk ((k+1:Nat)) ?_ ?_ ?_)) )
 all_goals try((with_reducible show l9 _ _);cbv;(try simp only[and_true,true_and]))
 all_goals try(repeat' with_reducible refine And.intro ?_ ?_)
 all_goals first|(refine retK h ?_;clear h;simp only[fin0])|(with_reducible refine Ob.mk ?_;clear h)|(clear h)
 all_goals(try simp only[eta0,RT.bytes]at *)
 all_goals grind[n8,n5,nab,X8,c1Q,c4h,b4z,D4,b2S,j4]
theorem a5m:b9 Tryz.prog 119 a2V:=j5 j3 (ss := [(14,A5),(60,sIn),(15,Z2),(117,B6),(178,c4M)]) ⟨F7,J5,a0n,N7,d1R,trivial⟩ rfl rfl<|by
 intro(bs:Th (List Int)) (p:Th Int) ⟨(m:Th PMap),(c:Th Cll),u⟩ K _ _ ho h
 obtain⟨m,rfl⟩:=b6 m;obtain⟨c,rfl⟩:=b6 c
 obtain⟨hw,hou,hoi,hn,hi,_,_⟩:=b2A ho.2.1
 have hi:=n6 (m:=m)
 refine⟨annL [(119,4,⟨Nat,[],fun σ k=>(σ.t 5 (vI fun _=>(k:Int))),fun _ k _=>k≤c.wlks.length∧a1d m c=true∧m9 k (a4G m c)=true,fun _ k _=>c.wlks.length-k⟩)],noAnn,20,?_⟩
 cbv
 repeat' first|((with_reducible refine fun(k:Nat) => ?_);cbv)|((with_reducible intro _);cbv)|(with_reducible refine And.intro ?_ ?_)
 all_goals try((first|(with_reducible refine LoopIn.mk ((0:Nat)) ?_ ?_)|(with_reducible refine LoopBack.mk ((k+1:Nat)) ?_ ?_ ?_)) )
 all_goals try((with_reducible show l9 _ _);cbv;(try simp only[and_true,true_and]))
 all_goals try(repeat' with_reducible refine And.intro ?_ ?_)
 all_goals first|(refine retK h ?_;clear h;simp only[fin0])|(with_reducible refine Ob.mk ?_;clear h)|(clear h)
 all_goals(try simp only[eta0,RT.bytes]at *)
 all_goals grind[inR,n8,n5,a4G,a1d,s5,b3F,b3E,j4,e9]
noncomputable def c4S:Sx.Spec:=⟨false,true,[.row .rcd],[],fun _ _ ⟨r,_⟩ => .ret (vB fun _=>a5T (r ()),fun _=>0)⟩
noncomputable def a9s:Sx.Spec:=⟨false,true,[.map,.row .rcd],[],fun _ _ ⟨m,r,_⟩ => .ret (vB fun _=>I4 (m ()) (r ()),fun _=>0)⟩
noncomputable def a9u:Sx.Spec:=⟨false,true,[.row .cll,.ord],[],fun _ _ ⟨c,o,_⟩ => .ret (vB fun _=>Q5 (c ()) (o ()),fun _=>0)⟩
theorem d2e:b9 Tryz.prog 207 c4S:=j5 j3 (ss := [(92,Y5),(89,a7M),(50,sIn)]) ⟨a6a,a8s,okIn,trivial⟩ rfl rfl<|by
 intro(bs:Th (List Int)) (p:Th Int) ⟨(r:Th Sx.Rec),u⟩ K _ _ ho h
 obtain⟨r,rfl⟩:=b6 r
 refine⟨noAnn,noAnn,20,?_⟩
 cbv
 repeat' first|((with_reducible intro _);cbv)|(with_reducible refine And.intro ?_ ?_)
 all_goals first|(refine retK h ?_;clear h;simp only[fin0])|(with_reducible refine Ob.mk ?_;clear h)|(clear h)
 all_goals(try simp only[eta0,RT.bytes]at *)
 all_goals have hrf := @S7 r
 all_goals grind[inR]
theorem c5z:b9 Tryz.prog 179 a9s:=j5 j3 (ss := [(66,A5),(207,c4S),(126,a4V)]) ⟨K4,d2e,b7q,trivial⟩ rfl rfl<|by
 intro(bs:Th (List Int)) (p:Th Int) ⟨(m:Th PMap),(r:Th Sx.Rec),u⟩ K _ _ ho h
 obtain⟨m,rfl⟩:=b6 m;obtain⟨r,rfl⟩:=b6 r
 refine⟨noAnn,noAnn,20,?_⟩
 cbv
 repeat' first|((with_reducible intro _);cbv)|(with_reducible refine And.intro ?_ ?_)
 all_goals first|(refine retK h ?_;clear h;simp only[fin0])|(with_reducible refine Ob.mk ?_;clear h)|(clear h)
 all_goals(try simp only[eta0,RT.bytes]at *)
 all_goals grind[I4]
theorem c0d:b9 Tryz.prog 237 a9s:=j5 j3 (ss := [(14,A5),(35,Y5),(60,sIn),(227,a4V)]) ⟨F7,a2h,J5,b2q,trivial⟩ rfl rfl<|by
 intro(bs:Th (List Int)) (p:Th Int) ⟨(m:Th PMap),(r:Th Sx.Rec),u⟩ K _ _ ho h
 obtain⟨m,rfl⟩:=b6 m;obtain⟨r,rfl⟩:=b6 r
 have hpp := @c7I m r.pcl
 refine⟨noAnn,noAnn,20,?_⟩
 cbv
 repeat' first|((with_reducible intro _);cbv)|(with_reducible refine And.intro ?_ ?_)
 all_goals first|(refine retK h ?_;clear h;simp only[fin0])|(with_reducible refine Ob.mk ?_;clear h)|(clear h)
 all_goals(try simp only[eta0,RT.bytes]at *)
 all_goals have hrf := @S7 r
 all_goals grind[inR,I4]
theorem b7w:b9 Tryz.prog 208 a9u:=j5 j3 (ss := [(242,a1h)]) ⟨b5o,trivial⟩ rfl rfl<|by
 intro(bs:Th (List Int)) (p:Th Int) ⟨(c:Th Cll),(o:Th Sx.Ord),u⟩ K _ _ ho h
 obtain⟨c,rfl⟩:=b6 c;obtain⟨o,rfl⟩:=b6 o
 refine⟨noAnn,noAnn,20,?_⟩
 cbv
 repeat' first|((with_reducible intro _);cbv)|(with_reducible refine And.intro ?_ ?_)
 all_goals first|(refine retK h ?_;clear h;simp only[fin0])|(with_reducible refine Ob.mk ?_;clear h)|(clear h)
 all_goals(try simp only[eta0,RT.bytes]at *)
 all_goals grind[Q5]
theorem c8o:b9 Tryz.prog 238 a9u:=j5 j3 (ss := [(259,a1h)]) ⟨a4m,trivial⟩ rfl rfl<|by
 intro(bs:Th (List Int)) (p:Th Int) ⟨(c:Th Cll),(o:Th Sx.Ord),u⟩ K _ _ ho h
 obtain⟨c,rfl⟩:=b6 c;obtain⟨o,rfl⟩:=b6 o
 refine⟨noAnn,noAnn,20,?_⟩
 cbv
 repeat' first|((with_reducible intro _);cbv)|(with_reducible refine And.intro ?_ ?_)
 all_goals first|(refine retK h ?_;clear h;simp only[fin0])|(with_reducible refine Ob.mk ?_;clear h)|(clear h)
 all_goals(try simp only[eta0,RT.bytes]at *)
 all_goals grind[Q5]
end Go.Proofs.YtmnapekfeenknaaGreat
