/-
  Contracts: messages, the book.
-/
import Derived.Test.YtihaeoicjglieaaGreatInsW
import Derived.Test.YtihaeoicjglieaaGreatM1
import Derived.Test.YtihaeoicjglieaaGreatS4f
import Derived.Test.YtihaeoicjglieaaGreatM2
set_option linter.unusedVariables false
set_option linter.unusedSimpArgs false
set_option maxRecDepth 100000
set_option maxHeartbeats 8000000
namespace Go.Proofs.YtihaeoicjglieaaGreat
open Go.Sx Go.Proofs Go.Mo
noncomputable def c9G:Sx.Spec:=⟨false,true,[.map,.row .row],[],fun _ _ ⟨m,r,_⟩ => .asrt (fun _=>s0 (m ())=true) (.ret (vB fun _=>Y4 (m ()) (r ()),fun _=>0))⟩
noncomputable def a6g:Sx.Spec:=⟨false,true,[.map,.book],[],fun _ _ ⟨m,l,_⟩ => .ret (vB fun _=>B9 (m ()) (l ()),fun _=>0)⟩
noncomputable def X2:Sx.Spec:=⟨false,true,[.book,.int .i64],[],fun _ _ ⟨l,w,_⟩ => .ret (vI fun _=>m5 (l ()) (w ()),fun _=>0)⟩
noncomputable def a3z:Sx.Spec:=⟨false,true,[.book],[[some .row]],fun _ _ ⟨l,_⟩ => .ret (oAs [.list .row l],fun _=>0)⟩
noncomputable def c3P:Sx.Spec:=⟨false,true,[.map,.book,.int .i64,.int .i64,.int .i64,.int .i64],[[some .row],[none]],fun _ _ ⟨m,l,w,k,d,n,_⟩ => .ret (.tup [oAs [.list .row fun _=>(a7U (m ()) (l ()) (w ()) (k ()) (d ()) (n ())).b],vB fun _=>(a7U (m ()) (l ()) (w ()) (k ()) (d ()) (n ())).ok],fun _=>0)⟩
theorem d0G:b8 Tryz.prog 155 c9G:=j4 e9 (ss := [(148,sIn),(198,a2B)]) ⟨I5,a7x,trivial⟩ rfl rfl<|by
 intro(bs:Th (List Int)) (p:Th Int) ⟨(m:Th PMap),(r:Th Row),u⟩ K _ _ ho h
 obtain⟨m,rfl⟩:=b6 m;obtain⟨r,rfl⟩:=b6 r
 obtain⟨ha,h⟩:=h
 have ha:=ha.out
 refine⟨noAnn,noAnn,20,?_⟩
 cbv
 repeat' first|((with_reducible intro _);cbv)|(with_reducible refine And.intro ?_ ?_)
 all_goals first|(refine retK h ?_;clear h;simp only[fin0])|(with_reducible refine Ob.mk ?_;clear h)|(clear h)
 all_goals(try simp only[eta0,RT.bytes]at *)
 all_goals grind(splits:=20) [Y4,inR,a1X,e8,s0]
theorem d4n:b8 Tryz.prog 63 a6g:=j4 e9 (ss := [(70,a2T),(57,sIn),(74,a2B),(54,z7)]) ⟨a3F,okIn,b0m,K9,trivial⟩ rfl rfl<|by
 intro(bs:Th (List Int)) (p:Th Int) ⟨(m:Th PMap),(l:Th (List Row)),u⟩ K _ _ ho h
 obtain⟨m,rfl⟩:=b6 m;obtain⟨l,rfl⟩:=b6 l
 have hl:=okL (ho.2.1 _ (.head _))
 refine⟨annL [(63,2,⟨Nat,[],fun σ k => σ.t 10 (vI fun _=>(k:Int)),fun _ k _=>k≤l.length∧(s0 m=true→m8 k (M1 m l)=true),fun _ k _=>l.length-k⟩)],noAnn,20,?_⟩
 cbv
 repeat' first|((with_reducible refine fun(k:Nat) => ?_);cbv)|((with_reducible intro _);cbv)|(with_reducible refine And.intro ?_ ?_)
 all_goals try((first|(with_reducible refine LoopIn.mk ((0:Nat)) ?_ ?_)|(with_reducible refine LoopBack.mk ((k+1:Nat)) ?_ ?_ ?_)) )
 all_goals try((with_reducible show m0 _ _);cbv;(try simp only[and_true,true_and]))
 all_goals try(repeat' with_reducible refine And.intro ?_ ?_)
 all_goals first|(refine retK h ?_;clear h;simp only[fin0])|(with_reducible refine Ob.mk ?_;clear h)|(clear h)
 all_goals(try simp only[eta0,RT.bytes]at *)
 all_goals(try have hwp:IntKind.i64.wrap ((k:Int)-1)=((k-1:Nat):Int):=a0g (by omega) (by omega))
 all_goals(try simp only[hwp,Int.toNat_natCast]at *)
 all_goals(by_cases hpo:s0 m=true)
 all_goals grind(splits:=20) [s0,j3,e8,b9V,b9U,c4Y,B9,M1,Y4,a1X,n7,n4,inR]
theorem a7y:b8 Tryz.prog 88 a6g:=j4 e9 (ss := [(85,z7),(155,c9G)]) ⟨C7,d0G,trivial⟩ rfl rfl<|by
 intro(bs:Th (List Int)) (p:Th Int) ⟨(m:Th PMap),(l:Th (List Row)),u⟩ K _ _ ho h
 obtain⟨m,rfl⟩:=b6 m;obtain⟨l,rfl⟩:=b6 l
 have hl:=okL (ho.2.1 _ (.head _))
 refine⟨annL [(88,4,⟨Nat,[],fun σ k => σ.t 5 (vI fun _=>(k:Int)),fun _ k _=>k≤l.length∧s0 m=true∧m8 k (M1 m l)=true,fun _ k _=>l.length-k⟩)],noAnn,20,?_⟩
 cbv
 repeat' first|((with_reducible refine fun(k:Nat) => ?_);cbv)|((with_reducible intro _);cbv)|(with_reducible refine And.intro ?_ ?_)
 all_goals try((first|(with_reducible refine LoopIn.mk ((0:Nat)) ?_ ?_)|(with_reducible refine LoopBack.mk ((k+1:Nat)) ?_ ?_ ?_)) )
 all_goals try((with_reducible show m0 _ _);cbv;(try simp only[and_true,true_and]))
 all_goals try(repeat' with_reducible refine And.intro ?_ ?_)
 all_goals first|(refine retK h ?_;clear h;simp only[fin0])|(with_reducible refine Ob.mk ?_;clear h)|(clear h)
 all_goals(try simp only[eta0,RT.bytes]at *)
 all_goals grind[j3,e8,b9V,b9U,c4Y,B9,M1,n7,n4]
theorem d0A:b8 Tryz.prog 173 X2:=j4 e9 (ss := []) trivial rfl rfl<|by
 intro(bs:Th (List Int)) (p:Th Int) ⟨(l:Th (List Row)),(w:Th Int),u⟩ K _ _ ho h
 obtain⟨l,rfl⟩:=b6 l;obtain⟨w,rfl⟩:=b6 w
 have hl:=okL (ho.1 _ (.head _))
 refine⟨annL [(218,2,⟨Nat,[],fun σ k => σ.t 8 (vI fun _=>(k:Int)),fun _ k _=>k≤l.length∧m8 k (nwho l w)=true,fun _ k _=>l.length-k⟩)],noAnn,20,?_⟩
 cbv
 repeat' first|((with_reducible refine fun(k:Nat) => ?_);cbv)|((with_reducible intro _);cbv)|(with_reducible refine And.intro ?_ ?_)
 all_goals try((first|(with_reducible refine LoopIn.mk ((0:Nat)) ?_ ?_)|(with_reducible refine LoopBack.mk ((k+1:Nat)) ?_ ?_ ?_)) )
 all_goals try((with_reducible show m0 _ _);cbv;(try simp only[and_true,true_and]))
 all_goals try(repeat' with_reducible refine And.intro ?_ ?_)
 all_goals first|(refine retK h ?_;clear h;simp only[fin0])|(with_reducible refine Ob.mk ?_;clear h)|(clear h)
 all_goals(try simp only[eta0,RT.bytes]at *)
 all_goals grind[n7,n4,nwho,a7P,c1x,b8x,j3]
theorem b6A:b8 Tryz.prog 197 X2:=j4 e9 (ss := []) trivial rfl rfl<|by
 intro(bs:Th (List Int)) (p:Th Int) ⟨(l:Th (List Row)),(w:Th Int),u⟩ K _ _ ho h
 obtain⟨l,rfl⟩:=b6 l;obtain⟨w,rfl⟩:=b6 w
 have hl:=okL (ho.1 _ (.head _))
 refine⟨annL [(197,2,⟨Nat,[],fun σ k => σ.t 5 (vI fun _=>(k:Int)),fun _ k _=>k≤l.length∧m8 k (nwho l w)=true,fun _ k _=>l.length-k⟩)],noAnn,20,?_⟩
 cbv
 repeat' first|((with_reducible refine fun(k:Nat) => ?_);cbv)|((with_reducible intro _);cbv)|(with_reducible refine And.intro ?_ ?_)
 all_goals try((first|(with_reducible refine LoopIn.mk ((0:Nat)) ?_ ?_)|(with_reducible refine LoopBack.mk ((k+1:Nat)) ?_ ?_ ?_)) )
 all_goals try((with_reducible show m0 _ _);cbv;(try simp only[and_true,true_and]))
 all_goals try(repeat' with_reducible refine And.intro ?_ ?_)
 all_goals first|(refine retK h ?_;clear h;simp only[fin0])|(with_reducible refine Ob.mk ?_;clear h)|(clear h)
 all_goals(try simp only[eta0,RT.bytes]at *)
 all_goals grind[n7,n4,nwho,a7P,c1x,b8x,j3]
theorem d0S:b8 Tryz.prog 107 a3z:=j4 e9 (ss := []) trivial rfl rfl<|by
 intro(bs:Th (List Int)) (p:Th Int) ⟨(l:Th (List Row)),u⟩ K _ _ ho h
 obtain⟨l,rfl⟩:=b6 l
 have hl:=okB (ho.1 _ (.head _))
 refine⟨noAnn,noAnn,20,?_⟩
 cbv
 repeat' first|((with_reducible intro _);cbv)|(with_reducible refine And.intro ?_ ?_)
 all_goals first|(refine retK h ?_;clear h;simp only[fin0])|(with_reducible refine Ob.mk ?_;clear h)|(clear h)
 all_goals(try simp only[eta0,RT.bytes]at *)
 all_goals grind
theorem a5t:b8 Tryz.prog 153 a3z:=j4 e9 (ss := []) trivial rfl rfl<|by
 intro(bs:Th (List Int)) (p:Th Int) ⟨(l:Th (List Row)),u⟩ K _ _ ho h
 obtain⟨l,rfl⟩:=b6 l
 have hl:=okB (ho.1 _ (.head _))
 refine⟨noAnn,noAnn,20,?_⟩
 cbv
 repeat' first|((with_reducible intro _);cbv)|(with_reducible refine And.intro ?_ ?_)
 all_goals first|(refine retK h ?_;clear h;simp only[fin0])|(with_reducible refine Ob.mk ?_;clear h)|(clear h)
 all_goals(try simp only[eta0,RT.bytes]at *)
 all_goals grind
noncomputable def a0D:Sx.Spec:=⟨false,true,[.list .wlk,.row .wlk],[[some .wlk]],fun _ _ ⟨l,w,_⟩ => .asrt (fun _=>((l ()).length+1) * 40≤140737488355328) (.ret (vW .wlk fun _=>M4 (l ()) (w ()),fun _=>0))⟩
theorem a3a:b8 Tryz.prog 95 a0D:=j4 e9 (ss := [(159,a2c)]) ⟨b4q,trivial⟩ rfl rfl<|by
 intro(bs:Th (List Int)) (p:Th Int) ⟨(l:Th (List Wlk)),(w:Th Wlk),u⟩ K _ _ ho h
 obtain⟨l,rfl⟩:=b6 l;obtain⟨w,rfl⟩:=b6 w
 obtain⟨hp,h⟩:=h
 have hp:=hp.out
 have hl:=a3s l w.id
 have hz:=c6z (E2 l w.id) w
 refine⟨annL [(95,5,⟨Nat,[⟨.tmp 6 0,some 14,.wlk⟩],fun σ k=>((((σ.fg 14).t 8 (vI fun _=>(k:Int))).t 6 (vO 14 1)).t 7 (vB fun _=>A7 (E2 l w.id) w k)).row 14 1 .wlk (fun _=>O8 (E2 l w.id) w k),fun _ k _=>k≤(E2 l w.id).length,fun _ k _=>(E2 l w.id).length-k⟩)],noAnn,20,?_⟩
 cbv
 repeat' first|((with_reducible refine fun(k:Nat) => ?_);cbv)|((with_reducible intro _);cbv)|(with_reducible refine And.intro ?_ ?_)
 all_goals try((first|(with_reducible refine LoopIn.mk ((0:Nat)) ?_ ?_)|(with_reducible refine LoopBack.mk ((k+1:Nat)) ?_ ?_ ?_)) )
 all_goals try((with_reducible show m0 _ _);cbv;(try simp only[and_true,true_and]))
 all_goals try(repeat' with_reducible refine And.intro ?_ ?_)
 all_goals first|(refine retK h ?_;clear h;simp only[fin0])|(with_reducible refine Ob.mk ?_;clear h)|(clear h)
 all_goals(try simp only[eta0,RT.bytes]at *)
 all_goals grind[c1A,b5Z,a9B,a9A,a9z,b3m,b3l,b3k,c1E,c1D,c1B,j3,b3B]
theorem b1u:b8 Tryz.prog 248 a0D:=j4 e9 (ss := [(134,a2c),(130,a7a),(268,.raw (insM .wlk))]) ⟨a7u,b9t,d0K,trivial⟩ rfl rfl<|by
 intro(bs:Th (List Int)) (p:Th Int) ⟨(l:Th (List Wlk)),(w:Th Wlk),u⟩ K _ _ ho h
 obtain⟨l,rfl⟩:=b6 l;obtain⟨w,rfl⟩:=b6 w
 obtain⟨hp,h⟩:=h
 have hp:=hp.out
 have hl:=a3s l w.id
 have hlt:=c0T (E2 l w.id) w.id
 refine⟨annL [(187,2,⟨Nat,[],fun σ k => σ.t 8 (vI fun _=>(k:Int)),fun _ k _=>k≤(E2 l w.id).length∧m8 k (nab (E2 l w.id) w.id)=true,fun _ k _=>(E2 l w.id).length-k⟩)],noAnn,20,?_⟩
 cbv
 repeat' first|((with_reducible refine fun(k:Nat) => ?_);cbv)|((with_reducible intro _);cbv)|(with_reducible refine And.intro ?_ ?_)
 all_goals try((first|(with_reducible refine LoopIn.mk ((0:Nat)) ?_ ?_)|(with_reducible refine LoopBack.mk ((k+1:Nat)) ?_ ?_ ?_)) )
 all_goals try((with_reducible show m0 _ _);cbv;(try simp only[and_true,true_and]))
 all_goals try(repeat' with_reducible refine And.intro ?_ ?_)
 all_goals first|(refine retK h ?_;clear h;simp only[fin0])|(with_reducible refine Ob.mk ?_;clear h)|(clear h)
 all_goals(try simp only[eta0,RT.bytes]at *)
 all_goals grind[n7,n4,nab,V5,c0U,c3i,b3B,C6,b1Y,j3]
theorem a1J:b8 Tryz.prog 180 a1D:=j4 e9 (ss := [(85,z7),(148,sIn),(160,X1),(189,D6),(226,c3M)]) ⟨C7,I5,Y8,K8,d0E,trivial⟩ rfl rfl<|by
 intro(bs:Th (List Int)) (p:Th Int) ⟨(m:Th PMap),(c:Th Cll),u⟩ K _ _ ho h
 obtain⟨m,rfl⟩:=b6 m;obtain⟨c,rfl⟩:=b6 c
 obtain⟨hw,hou,hoi,hn,hi,_,_⟩:=a9J ho.2.1
 have hi:=o8 (m:=m)
 refine⟨annL [(180,4,⟨Nat,[],fun σ k=>(σ.t 5 (vI fun _=>(k:Int))),fun _ k _=>k≤c.wlks.length∧a0H m c=true∧m8 k (a3Y m c)=true,fun _ k _=>c.wlks.length-k⟩)],noAnn,20,?_⟩
 cbv
 repeat' first|((with_reducible refine fun(k:Nat) => ?_);cbv)|((with_reducible intro _);cbv)|(with_reducible refine And.intro ?_ ?_)
 all_goals try((first|(with_reducible refine LoopIn.mk ((0:Nat)) ?_ ?_)|(with_reducible refine LoopBack.mk ((k+1:Nat)) ?_ ?_ ?_)) )
 all_goals try((with_reducible show m0 _ _);cbv;(try simp only[and_true,true_and]))
 all_goals try(repeat' with_reducible refine And.intro ?_ ?_)
 all_goals first|(refine retK h ?_;clear h;simp only[fin0])|(with_reducible refine Ob.mk ?_;clear h)|(clear h)
 all_goals(try simp only[eta0,RT.bytes]at *)
 all_goals grind[inR,n7,n4,a3Y,a0H,s6,b2J,b2I,j3,e8]
end Go.Proofs.YtihaeoicjglieaaGreat
namespace Go.Sx
theorem a6e {t:RT} (l:Th (List t.ty)) (i:Th Int) (f:Th t.ty):C1 t l i f=fun _=>(l ()).set (i ()).toNat (f ()):=rfl
theorem ioK {α : Type} {K:V×Th α → Prop} {u v:V} {x y : α} (h:K (u,fun _=>x)) (e1:v=u) (e2:y=x):K (v,fun _=>y):=by
 rw[e1,e2]
 exact h
abbrev ioX (s:Io):SpecX := .raw (b7j s)
end Go.Sx
namespace Go.Proofs.YtihaeoicjglieaaGreat
open Go.Sx Go.Proofs Go.Mo
noncomputable def d5A:Sx.Io:=⟨.book,true,[.int .i64,.int .i64,.int .i64,.int .i64],[],fun l ⟨w,k,d,n,_⟩ => .asrt (fun _=>seqB (l ())) (.ret (vB fun _=>(Q7 (l ()) (w ()) (k ()) (d ()) (n ())).ok,fun _=>(Q7 (l ()) (w ()) (k ()) (d ()) (n ())).b))⟩
noncomputable def sIsB:Sx.Spec:=⟨false,true,[.book,.book],[],fun _ _ ⟨a,b,_⟩ => .ret (vB fun _=>decide (a ()=b ()),fun _=>0)⟩
theorem d6z:b8 Tryz.prog 111 (ioX d5A):=io1 e9 (ss := [(173,X2),(74,a2B)]) ⟨d0A,b0m,trivial⟩ rfl rfl<|by
 intro(l:Th (List Row)) ⟨(w:Th Int),(k:Th Int),(d:Th Int),(n:Th Int),u⟩ K _ ho h
 obtain⟨l,rfl⟩:=b6 l;obtain⟨w,rfl⟩:=b6 w;obtain⟨k,rfl⟩:=b6 k;obtain⟨d,rfl⟩:=b6 d;obtain⟨n,rfl⟩:=b6 n
 obtain⟨ha,h⟩:=h
 have ha:=ha.out
 have hp:=a2C l w
 have hq:=ha (m5 l w).toNat
 refine⟨noAnn,noAnn,20,?_⟩
 cbv
 repeat' first|((with_reducible intro _);cbv)|(with_reducible refine And.intro ?_ ?_)
 all_goals first|refine ioK h ?_ ?_|(with_reducible refine Ob.mk ?_;clear h)|(clear h)
 all_goals(try clear h)
 all_goals(try clear K)
 all_goals(try simp only[fin0])
 all_goals(try simp only[eta0,RT.bytes]at *)
 all_goals(try have hlt:(m5 l w).toNat<l.length:=(by clear ho;grind))
 all_goals(try simp only[B3,l9 .row hlt,List.set_set,List.length_set]at *)
 all_goals grind[Q7,b7m,e8]
theorem c6Z:b8 Tryz.prog 144 c3P:=j4 e9 (ss := [(88,a6g),(153,a3z),(197,X2),(198,a2B)]) ⟨a7y,a5t,b6A,a7x,trivial⟩ rfl rfl<|by
 intro(bs:Th (List Int)) (p:Th Int) ⟨(m:Th PMap),(l:Th (List Row)),(w:Th Int),(k:Th Int),(d:Th Int),(n:Th Int),u⟩ K _ _ ho h
 obtain⟨m,rfl⟩:=b6 m;obtain⟨l,rfl⟩:=b6 l;obtain⟨w,rfl⟩:=b6 w;obtain⟨k,rfl⟩:=b6 k;obtain⟨d,rfl⟩:=b6 d;obtain⟨n,rfl⟩:=b6 n
 have hs := @b2g m l
 have hp:=a2C l w
 have hlt0 : ¬m5 l w = -1→(m5 l w).toNat<l.length:=fun h=>by omega
 have hq:=fun(h:B9 m l=true)=>b2g h (m5 l w).toNat
 refine⟨noAnn,noAnn,20,?_⟩
 cbv
 repeat' first|((with_reducible intro _);cbv)|(with_reducible refine And.intro ?_ ?_)
 all_goals first|(refine retK h ?_;clear h;simp only[fin0])|(with_reducible refine Ob.mk ?_;clear h)|(clear h)
 all_goals(try simp only[eta0,RT.bytes]at *)
 all_goals(try have hlt:=hlt0 (by assumption))
 all_goals(try simp only[l9 .row hlt,List.set_set,List.length_set]at *)
 all_goals(try simp only[a6e,l9 .row hlt,List.set_set,List.length_set,b7z,b0C])
 all_goals grind[a7U,Q7,b7m,e8]
theorem a3c:b8 Tryz.prog 36 sIsB:=j4 e9 (ss := []) trivial rfl rfl<|by
 intro(bs:Th (List Int)) (p:Th Int) ⟨(a:Th (List Row)),(b:Th (List Row)),u⟩ K _ _ ho h
 obtain⟨a,rfl⟩:=b6 a;obtain⟨b,rfl⟩:=b6 b
 have hl:=okL (ho.1 _ (.head _))
 refine⟨annL [(36,4,⟨Nat,[],fun σ k => σ.t 5 (vI fun _=>(k:Int)),fun _ k _=>k≤a.length∧a.length=b.length∧same .row a b k,fun _ k _=>a.length-k⟩)],noAnn,20,?_⟩
 cbv
 repeat' first|((with_reducible refine fun(k:Nat) => ?_);cbv)|((with_reducible intro _);cbv)|(with_reducible refine And.intro ?_ ?_)
 all_goals try((first|(with_reducible refine LoopIn.mk ((0:Nat)) ?_ ?_)|(with_reducible refine LoopBack.mk ((k+1:Nat)) ?_ ?_ ?_)) )
 all_goals try((with_reducible show m0 _ _);cbv;(try simp only[and_true,true_and]))
 all_goals try(repeat' with_reducible refine And.intro ?_ ?_)
 all_goals first|(refine retK h ?_;clear h;simp only[fin0])|(with_reducible refine Ob.mk ?_;clear h)|(clear h)
 all_goals(try simp only[eta0,RT.bytes]at *)
 all_goals grind[j3,J7,J8,N6,d3H,a7r]
noncomputable def c9L:Sx.Io:=⟨.book,true,[.map,.row .msg],[],fun l ⟨m,x,_⟩ => .asrt (fun _=>B9 (m ()) (l ())=true) (.ret (vB fun _=>(B2 (m ()) (l ()) (x ())).ok,fun _=>(B2 (m ()) (l ()) (x ())).b))⟩
noncomputable def c3N:Sx.Spec:=⟨false,true,[.map,.book,.arb,.int .i64,.int .i64],[[none,none,none,none,none,none,none,none,none,none,none,none,none,none,none,none,none,none,none,none,none,none,none,none,none],[none]],fun _ _ ⟨m,l,t,s,w,_⟩ => .ret (.tup [oMsg fun _=>(a5y (m ()) (l ()) (t ()) (s ()) (w ())).x,vB fun _=>(a5y (m ()) (l ()) (t ()) (s ()) (w ())).ok],fun _=>0)⟩
noncomputable def b3Z:Sx.Spec:=⟨false,true,[.map,.arb,.int .i64,.int .i64,.int .i64],[[some .int,some .int],[none]],fun _ _ ⟨m,t,s,c,v,_⟩ => .ret (.tup [oArb fun _=>(Q4 (m ()) (t ()) (s ()) (c ()) (v ())).t,vB fun _=>(Q4 (m ()) (t ()) (s ()) (c ()) (v ())).ok],fun _=>0)⟩
theorem b4G {m:PMap} {l:List Row} (h:B9 m l=true):2≤m.cells∧m.cells≤4 ∧ ∀k,k<l.length→0≤(nth .row l k).cell∧(nth .row l k).cell<m.cells:=by
 have hp:s0 m=true:=by
  unfold B9 at h
  rw[Bool.and_eq_true]at h
  exact h.1
 obtain⟨h1,h2,_,_⟩:=o8.1 hp
 refine⟨h1,h2,fun k hk => ?_⟩
 have:=(a8Z h hk).1
 simp only[Y4,decide_eq_true_eq]at this
 exact⟨this.2.2.1,this.2.2.2.1⟩
theorem c0D {c n:Int} (h0:0≤c) (h1:c<n) (h2:n≤4):0≤(c+1).tmod n∧(c+1).tmod n≤4:=by
 constructor
 ·exact Int.tmod_nonneg _ (by omega)
 ·have:=Int.tmod_lt_of_pos (c+1) (show 0<n by omega)
  omega
theorem d4m:b8 Tryz.prog 176 (ioX c9L):=io1 e9 (ss := [(173,X2)]) ⟨d0A,trivial⟩ rfl rfl<|by
 intro(l:Th (List Row)) ⟨(m:Th PMap),(x:Th Msg),u⟩ K _ ho h
 obtain⟨l,rfl⟩:=b6 l;obtain⟨m,rfl⟩:=b6 m;obtain⟨x,rfl⟩:=b6 x
 obtain⟨ha,h⟩:=h
 have ha:=ha.out
 have hp:=a2C l x.ord.who
 obtain⟨hm1,hm2,hc⟩:=b4G ha
 have hq:=hc (m5 l x.ord.who).toNat
 have hr := @c0D (nth .row l (m5 l x.ord.who).toNat).cell m.cells
 refine⟨noAnn,noAnn,20,?_⟩
 cbv
 repeat' first|((with_reducible intro _);cbv)|(with_reducible refine And.intro ?_ ?_)
 all_goals first|refine ioK h ?_ ?_|(with_reducible refine Ob.mk ?_;clear h)|(clear h)
 all_goals(try clear h)
 all_goals(try clear K)
 all_goals(try simp only[fin0])
 all_goals(try simp only[eta0,RT.bytes]at *)
 all_goals(try have hlt:(m5 l x.ord.who).toNat<l.length:=(by clear ho;grind))
 all_goals(try simp only[B3,l9 .row hlt,List.set_set,List.length_set]at *)
 all_goals(try have hw:=e8 (n:=(nth .row l (m5 l x.ord.who).toNat).cell+1) (by have:=hq hlt;omega) (by have:=hq hlt;omega))
 all_goals(try simp only[hw]at *)
 all_goals(try simp only[B2,Mo.rowAt]at *)
 all_goals(try generalize ((nth RT.row l (m5 l x.ord.who).toNat).cell+1).tmod m.cells=q at *)
 all_goals grind[B2,Mo.rowAt,e8,u5,a7r]
theorem c6X:b8 Tryz.prog 145 c3N:=j4 e9 (ss := [(88,a6g),(86,a4r),(197,X2),(165,M7)]) ⟨a7y,a4E,b6A,Y9,trivial⟩ rfl rfl<|by
 intro(bs:Th (List Int)) (p:Th Int) ⟨(m:Th PMap),(l:Th (List Row)),(t:Th Arb),(s:Th Int),(w:Th Int),u⟩ K _ _ ho h
 obtain⟨m,rfl⟩:=b6 m;obtain⟨l,rfl⟩:=b6 l;obtain⟨t,rfl⟩:=b6 t;obtain⟨s,rfl⟩:=b6 s;obtain⟨w,rfl⟩:=b6 w
 have hp:=a2C l w
 refine⟨noAnn,noAnn,20,?_⟩
 cbv
 repeat' first|((with_reducible intro _);cbv)|(with_reducible refine And.intro ?_ ?_)
 all_goals first|(refine retK h ?_;clear h;simp only[fin0])|(with_reducible refine Ob.mk ?_;clear h)|(clear h)
 all_goals(try simp only[eta0,RT.bytes]at *)
 all_goals grind(splits:=60) [a5y,W8,Mo.rowAt,b5n,u5,y8,F8]
theorem b9h:b8 Tryz.prog 196 b3Z:=j4 e9 (ss := [(86,a4r),(148,sIn)]) ⟨a4E,I5,trivial⟩ rfl rfl<|by
 intro(bs:Th (List Int)) (p:Th Int) ⟨(m:Th PMap),(t:Th Arb),(s:Th Int),(c:Th Int),(v:Th Int),u⟩ K _ _ ho h
 obtain⟨m,rfl⟩:=b6 m;obtain⟨t,rfl⟩:=b6 t;obtain⟨s,rfl⟩:=b6 s;obtain⟨c,rfl⟩:=b6 c;obtain⟨v,rfl⟩:=b6 v
 have hl:=okB (ho.2.1 _ (.head _))
 have hl2:=okB (ho.2.1 _ (.tail _ (.head _)))
 have hc0:=fun(k:Nat) => @b2S m t s k
 have hcc:=hc0 c.toNat
 clear hc0
 refine⟨noAnn,noAnn,20,?_⟩
 cbv
 repeat' first|((with_reducible intro _);cbv)|(with_reducible refine And.intro ?_ ?_)
 all_goals first|(refine retK h ?_;clear h;simp only[fin0])|(with_reducible refine Ob.mk ?_;clear h)|(clear h)
 all_goals(try simp only[eta0,RT.bytes]at *)
 all_goals(try simp only[a6e,List.nil_append,List.set_set,List.length_set,b7z,b0C]at *)
 all_goals grind(splits:=40) [Q4,p9,C2,a0b,a4c,inR,e8]
end Go.Proofs.YtihaeoicjglieaaGreat
