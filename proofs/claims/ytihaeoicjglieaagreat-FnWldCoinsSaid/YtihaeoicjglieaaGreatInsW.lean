/-
  Contracts: a2D, walkers.
-/
import Derived.Test.YtihaeoicjglieaaGreatTok
import Derived.Test.YtihaeoicjglieaaGreatM1
import Derived.Test.YtihaeoicjglieaaGreatM2
import Derived.Test.YtihaeoicjglieaaGreatS5
set_option linter.unusedVariables false
set_option linter.unusedSimpArgs false
set_option maxRecDepth 100000
set_option maxHeartbeats 8000000
namespace Go.Proofs.YtihaeoicjglieaaGreat
open Go.Sx Go.Proofs Go.Mo
noncomputable def sIn:Sx.Spec:=⟨false,true,[.int .i64,.int .i64,.int .i64],[],fun _ _ ⟨n,a,b,_⟩ => .ret (vB fun _=>inR (n ()) (a ()) (b ()),fun _=>0)⟩
noncomputable def z7:Sx.Spec:=⟨false,true,[.map],[],fun _ _ ⟨m,_⟩ => .ret (vB fun _=>s0 (m ()),fun _=>0)⟩
noncomputable def D6:Sx.Spec:=⟨false,true,[.map,.int .i64],[],fun _ _ ⟨m,a,_⟩ => .ret (vI fun _=>l8 (m ()) (a ()),fun _=>0)⟩
noncomputable def G5:Sx.Spec:=⟨false,true,[.map,.int .i64,.int .i64],[],fun _ _ ⟨m,a,s,_⟩ => .ret (vI fun _=>b7 (m ()) (a ()) (s ()),fun _=>0)⟩
noncomputable def V0:Sx.Spec:=⟨false,true,[.map,.int .i64,.int .i64],[],fun _ _ ⟨m,a,s,_⟩ => .ret (vB fun _=>J2 (m ()) (a ()) (s ()),fun _=>0)⟩
noncomputable def a6Z:Sx.Spec:=⟨false,true,[.map,.int .i64],[],fun _ _ ⟨m,a,_⟩ => .asrt (fun _ => -9223372036854775808<(m ()).cells) (.ret (vB fun _=>decide (0≤a ()∧a ()<(m ()).cells),fun _=>0))⟩
noncomputable def b0h:Sx.Spec:=⟨false,true,[.int .i64],[],fun _ _ ⟨a,_⟩ => .ret (vB fun _=>decide (a ()=0∨a ()=1),fun _=>0)⟩
noncomputable def a5e:Sx.Spec:=⟨false,true,[.int .i64],[],fun _ _ ⟨a,_⟩ => .asrt (fun _=>a ()=0∨a ()=1) (.ret (vI fun _=>2 * a ()-1,fun _=>0))⟩
noncomputable def a2T:Sx.Spec:=⟨false,true,[.int .i64],[],fun _ _ ⟨a,_⟩ => .ret (vB fun _=>decide (1≤a ()∧a ()≤9),fun _=>0)⟩
noncomputable def a3x:Sx.Spec:=⟨false,true,[.map,.row .wlk],[],fun _ _ ⟨m,w,_⟩ => .ret (vB fun _=>P9 (m ()) (w ()),fun _=>0)⟩
noncomputable def c3J:Sx.Spec:=⟨false,true,[.row .wlk],[],fun _ _ ⟨w,_⟩ => .ret (vB fun _=>a8o (w ()),fun _=>0)⟩
noncomputable def a4m:Sx.Spec:=⟨false,true,[.map,.list .wlk],[],fun _ _ ⟨m,l,_⟩ => .ret (vB fun _=>A5 (m ()) (l ())&&s0 (m ()),fun _=>0)⟩
noncomputable def X1:Sx.Spec:=⟨false,true,[.map,.list .wlk],[],fun _ _ ⟨m,l,_⟩ => .ret (vB fun _=>A5 (m ()) (l ()),fun _=>0)⟩
theorem okIn:b8 Tryz.prog 57 sIn:=j4 e9 (ss := []) trivial rfl rfl<|by
 intro(bs:Th (List Int)) (p:Th Int) ⟨(n:Th Int),(a:Th Int),(b:Th Int),u⟩ K _ _ _ h
 obtain⟨n,rfl⟩:=b6 n;obtain⟨a,rfl⟩:=b6 a;obtain⟨b,rfl⟩:=b6 b
 refine⟨noAnn,noAnn,20,?_⟩
 cbv
 repeat' first|((with_reducible intro _);cbv)|(with_reducible refine And.intro ?_ ?_)
 all_goals first|(refine retK h ?_;clear h;simp only[fin0])|(with_reducible refine Ob.mk ?_;clear h)|(clear h)
 all_goals(try simp only[eta0,RT.bytes]at *)
 all_goals grind[inR]
theorem I5:b8 Tryz.prog 148 sIn:=j4 e9 (ss := []) trivial rfl rfl<|by
 intro(bs:Th (List Int)) (p:Th Int) ⟨(n:Th Int),(a:Th Int),(b:Th Int),u⟩ K _ _ _ h
 obtain⟨n,rfl⟩:=b6 n;obtain⟨a,rfl⟩:=b6 a;obtain⟨b,rfl⟩:=b6 b
 refine⟨noAnn,noAnn,20,?_⟩
 cbv
 repeat' first|((with_reducible intro _);cbv)|(with_reducible refine And.intro ?_ ?_)
 all_goals first|(refine retK h ?_;clear h;simp only[fin0])|(with_reducible refine Ob.mk ?_;clear h)|(clear h)
 all_goals(try simp only[eta0,RT.bytes]at *)
 all_goals grind[inR]
theorem K9:b8 Tryz.prog 54 z7:=j4 e9 (ss := [(57,sIn)]) ⟨okIn,trivial⟩ rfl rfl<|by
 intro(bs:Th (List Int)) (p:Th Int) ⟨(m:Th PMap),u⟩ K _ _ _ h
 obtain⟨m,rfl⟩:=b6 m
 refine⟨noAnn,noAnn,20,?_⟩
 cbv
 repeat' first|((with_reducible intro _);cbv)|(with_reducible refine And.intro ?_ ?_)
 all_goals first|(refine retK h ?_;clear h;simp only[fin0])|(with_reducible refine Ob.mk ?_;clear h)|(clear h)
 all_goals(try simp only[eta0,RT.bytes]at *)
 all_goals grind[inR,s0]
theorem C7:b8 Tryz.prog 85 z7:=j4 e9 (ss := [(148,sIn)]) ⟨I5,trivial⟩ rfl rfl<|by
 intro(bs:Th (List Int)) (p:Th Int) ⟨(m:Th PMap),u⟩ K _ _ _ h
 obtain⟨m,rfl⟩:=b6 m
 refine⟨noAnn,noAnn,20,?_⟩
 cbv
 repeat' first|((with_reducible intro _);cbv)|(with_reducible refine And.intro ?_ ?_)
 all_goals first|(refine retK h ?_;clear h;simp only[fin0])|(with_reducible refine Ob.mk ?_;clear h)|(clear h)
 all_goals(try simp only[eta0,RT.bytes]at *)
 all_goals grind[inR,s0]
theorem a0n:b8 Tryz.prog 128 D6:=j4 e9 (ss := [(57,sIn),(54,z7)]) ⟨okIn,K9,trivial⟩ rfl rfl<|by
 intro(bs:Th (List Int)) (p:Th Int) ⟨(m:Th PMap),(a:Th Int),u⟩ K _ _ _ h
 obtain⟨m,rfl⟩:=b6 m;obtain⟨a,rfl⟩:=b6 a
 have hm:=a5l (m:=m)
 have hi:=o8 (m:=m)
 refine⟨noAnn,noAnn,20,?_⟩
 cbv
 repeat' first|((with_reducible intro _);cbv)|(with_reducible refine And.intro ?_ ?_)
 all_goals first|(refine retK h ?_;clear h;simp only[fin0])|(with_reducible refine Ob.mk ?_;clear h)|(clear h)
 all_goals(try simp only[eta0,RT.bytes]at *)
 all_goals grind[l8,inR,e8,c9W]
theorem K8:b8 Tryz.prog 189 D6:=j4 e9 (ss := [(148,sIn),(85,z7)]) ⟨I5,C7,trivial⟩ rfl rfl<|by
 intro(bs:Th (List Int)) (p:Th Int) ⟨(m:Th PMap),(a:Th Int),u⟩ K _ _ _ h
 obtain⟨m,rfl⟩:=b6 m;obtain⟨a,rfl⟩:=b6 a
 have hm:=a5l (m:=m)
 have hi:=o8 (m:=m)
 refine⟨noAnn,noAnn,20,?_⟩
 cbv
 repeat' first|((with_reducible intro _);cbv)|(with_reducible refine And.intro ?_ ?_)
 all_goals first|(refine retK h ?_;clear h;simp only[fin0])|(with_reducible refine Ob.mk ?_;clear h)|(clear h)
 all_goals(try simp only[eta0,RT.bytes]at *)
 all_goals grind[l8,inR,e8,c9W]
theorem a8Q:b8 Tryz.prog 101 a6Z:=j4 e9 (ss := [(57,sIn)]) ⟨okIn,trivial⟩ rfl rfl<|by
 intro(bs:Th (List Int)) (p:Th Int) ⟨(m:Th PMap),(a:Th Int),u⟩ K _ _ ho h
 obtain⟨m,rfl⟩:=b6 m;obtain⟨a,rfl⟩:=b6 a
 obtain⟨hp,h⟩:=h
 have hp:=hp.out
 have ho:=okI (ho.1 _ (.head _))
 refine⟨noAnn,noAnn,20,?_⟩
 cbv
 repeat' first|((with_reducible intro _);cbv)|(with_reducible refine And.intro ?_ ?_)
 all_goals first|(refine retK h ?_;clear h;simp only[fin0])|(with_reducible refine Ob.mk ?_;clear h)|(clear h)
 all_goals(try simp only[eta0,RT.bytes]at *)
 all_goals grind[inR,e8]
theorem b1E:b8 Tryz.prog 102 b0h:=j4 e9 (ss := []) trivial rfl rfl<|by
 intro(bs:Th (List Int)) (p:Th Int) ⟨(a:Th Int),u⟩ K _ _ _ h
 obtain⟨a,rfl⟩:=b6 a
 refine⟨noAnn,noAnn,20,?_⟩
 cbv
 repeat' first|((with_reducible intro _);cbv)|(with_reducible refine And.intro ?_ ?_)
 all_goals first|(refine retK h ?_;clear h;simp only[fin0])|(with_reducible refine Ob.mk ?_;clear h)|(clear h)
 all_goals(try simp only[eta0,RT.bytes]at *)
 all_goals grind
theorem a4D:b8 Tryz.prog 103 a5e:=j4 e9 (ss := []) trivial rfl rfl<|by
 intro(bs:Th (List Int)) (p:Th Int) ⟨(a:Th Int),u⟩ K _ _ _ h
 obtain⟨a,rfl⟩:=b6 a
 obtain⟨hp,h⟩:=h
 have hp:=hp.out
 refine⟨noAnn,noAnn,20,?_⟩
 cbv
 repeat' first|((with_reducible intro _);cbv)|(with_reducible refine And.intro ?_ ?_)
 all_goals first|(refine retK h ?_;clear h;simp only[fin0])|(with_reducible refine Ob.mk ?_;clear h)|(clear h)
 all_goals(try simp only[eta0,RT.bytes]at *)
 all_goals grind[e8]
theorem a3F:b8 Tryz.prog 70 a2T:=j4 e9 (ss := [(57,sIn)]) ⟨okIn,trivial⟩ rfl rfl<|by
 intro(bs:Th (List Int)) (p:Th Int) ⟨(a:Th Int),u⟩ K _ _ _ h
 obtain⟨a,rfl⟩:=b6 a
 refine⟨noAnn,noAnn,20,?_⟩
 cbv
 repeat' first|((with_reducible intro _);cbv)|(with_reducible refine And.intro ?_ ?_)
 all_goals first|(refine retK h ?_;clear h;simp only[fin0])|(with_reducible refine Ob.mk ?_;clear h)|(clear h)
 all_goals(try simp only[eta0,RT.bytes]at *)
 all_goals grind[inR]
theorem U1:b8 Tryz.prog 48 G5:=j4 e9 (ss := [(54,z7),(101,a6Z),(102,b0h),(103,a5e)]) ⟨K9,a8Q,b1E,a4D,trivial⟩ rfl rfl<|by
 intro(bs:Th (List Int)) (p:Th Int) ⟨(m:Th PMap),(a:Th Int),(s:Th Int),u⟩ K _ _ _ h
 obtain⟨m,rfl⟩:=b6 m;obtain⟨a,rfl⟩:=b6 a;obtain⟨s,rfl⟩:=b6 s
 have hi:=o8 (m:=m)
 refine⟨noAnn,noAnn,20,?_⟩
 cbv
 repeat' first|((with_reducible intro _);cbv)|(with_reducible refine And.intro ?_ ?_)
 all_goals first|(refine retK h ?_;clear h;simp only[fin0])|(with_reducible refine Ob.mk ?_;clear h)|(clear h)
 all_goals(try simp only[eta0,RT.bytes]at *)
 all_goals grind[b7,e8]
theorem W5:b8 Tryz.prog 119 G5:=j4 e9 (ss := [(85,z7),(148,sIn)]) ⟨C7,I5,trivial⟩ rfl rfl<|by
 intro(bs:Th (List Int)) (p:Th Int) ⟨(m:Th PMap),(a:Th Int),(s:Th Int),u⟩ K _ _ _ h
 obtain⟨m,rfl⟩:=b6 m;obtain⟨a,rfl⟩:=b6 a;obtain⟨s,rfl⟩:=b6 s
 have hi:=o8 (m:=m)
 refine⟨noAnn,noAnn,20,?_⟩
 cbv
 repeat' first|((with_reducible intro _);cbv)|(with_reducible refine And.intro ?_ ?_)
 all_goals first|(refine retK h ?_;clear h;simp only[fin0])|(with_reducible refine Ob.mk ?_;clear h)|(clear h)
 all_goals(try simp only[eta0,RT.bytes]at *)
 all_goals grind[b7,e8,inR]
theorem a3b:b8 Tryz.prog 136 V0:=j4 e9 (ss := [(128,D6),(48,G5),(103,a5e)]) ⟨a0n,U1,a4D,trivial⟩ rfl rfl<|by
 intro(bs:Th (List Int)) (p:Th Int) ⟨(m:Th PMap),(a:Th Int),(s:Th Int),u⟩ K _ _ ho h
 obtain⟨m,rfl⟩:=b6 m;obtain⟨a,rfl⟩:=b6 a;obtain⟨s,rfl⟩:=b6 s
 have hb:=okI (ho.2.1 _ (.head _))
 refine⟨noAnn,noAnn,20,?_⟩
 have hs := @K5 m (l8 m a) s
 have hc := @M8 m a
 have he := @d4Y m a s
 have hi:=o8 (m:=m)
 have hm:=a5l (m:=m)
 cbv
 repeat' first|((with_reducible intro _);cbv)|(with_reducible refine And.intro ?_ ?_)
 all_goals first|(refine retK h ?_;clear h;simp only[fin0])|(with_reducible refine Ob.mk ?_;clear h)|(clear h)
 all_goals(try simp only[eta0,RT.bytes]at *)
 ·grind
 ·rename_i h1 h2
  have h1:b7 m (l8 m a) s ≠ -1:=by simpa using h2
  have hw:IntKind.i64.wrap (a+(2 * s-1))=a+(2 * s-1):=by grind[e8]
  rw[hw]
  simp only[J2,h1,ne_eq,not_false_eq_true,true_and,decide_eq_decide]
  exact he h1
 ·grind[J2]
 ·grind[J2]
theorem a6o:b8 Tryz.prog 246 V0:=j4 e9 (ss := [(189,D6),(119,G5)]) ⟨K8,W5,trivial⟩ rfl rfl<|by
 intro(bs:Th (List Int)) (p:Th Int) ⟨(m:Th PMap),(a:Th Int),(s:Th Int),u⟩ K _ _ _ h
 obtain⟨m,rfl⟩:=b6 m;obtain⟨a,rfl⟩:=b6 a;obtain⟨s,rfl⟩:=b6 s
 refine⟨noAnn,noAnn,20,?_⟩
 have hs := @K5 m (l8 m a) s
 have hc := @M8 m a
 have hi:=o8 (m:=m)
 have hm:=a5l (m:=m)
 have hd := @b8K m a
 cbv
 repeat' first|((with_reducible intro _);cbv)|(with_reducible refine And.intro ?_ ?_)
 all_goals first|(refine retK h ?_;clear h;simp only[fin0])|(with_reducible refine Ob.mk ?_;clear h)|(clear h)
 all_goals(try simp only[eta0,RT.bytes]at *)
 all_goals grind[J2,e8]
theorem d0C:b8 Tryz.prog 179 c3J:=j4 e9 (ss := [(57,sIn),(70,a2T)]) ⟨okIn,a3F,trivial⟩ rfl rfl<|by
 intro(bs:Th (List Int)) (p:Th Int) ⟨(w:Th Wlk),u⟩ K _ _ _ h
 obtain⟨w,rfl⟩:=b6 w
 refine⟨noAnn,noAnn,20,?_⟩
 cbv
 repeat' first|((with_reducible intro _);cbv)|(with_reducible refine And.intro ?_ ?_)
 all_goals first|(refine retK h ?_;clear h;simp only[fin0])|(with_reducible refine Ob.mk ?_;clear h)|(clear h)
 all_goals(try simp only[eta0,RT.bytes]at *)
 all_goals grind[inR,a8o]
theorem b6s:b8 Tryz.prog 116 a3x:=j4 e9 (ss := [(128,D6),(179,c3J)]) ⟨a0n,d0C,trivial⟩ rfl rfl<|by
 intro(bs:Th (List Int)) (p:Th Int) ⟨(m:Th PMap),(w:Th Wlk),u⟩ K _ _ _ h
 obtain⟨m,rfl⟩:=b6 m;obtain⟨w,rfl⟩:=b6 w
 refine⟨noAnn,noAnn,20,?_⟩
 cbv
 repeat' first|((with_reducible intro _);cbv)|(with_reducible refine And.intro ?_ ?_)
 all_goals first|(refine retK h ?_;clear h;simp only[fin0])|(with_reducible refine Ob.mk ?_;clear h)|(clear h)
 all_goals(try simp only[eta0,RT.bytes]at *)
 all_goals grind[P9,a8o]
theorem a7w:b8 Tryz.prog 139 a3x:=j4 e9 (ss := [(189,D6),(148,sIn)]) ⟨K8,I5,trivial⟩ rfl rfl<|by
 intro(bs:Th (List Int)) (p:Th Int) ⟨(m:Th PMap),(w:Th Wlk),u⟩ K _ _ _ h
 obtain⟨m,rfl⟩:=b6 m;obtain⟨w,rfl⟩:=b6 w
 refine⟨noAnn,noAnn,20,?_⟩
 cbv
 repeat' first|((with_reducible intro _);cbv)|(with_reducible refine And.intro ?_ ?_)
 all_goals first|(refine retK h ?_;clear h;simp only[fin0])|(with_reducible refine Ob.mk ?_;clear h)|(clear h)
 all_goals(try simp only[eta0,RT.bytes]at *)
 all_goals grind[P9,inR]
theorem a9G:b8 Tryz.prog 55 a4m:=j4 e9 (ss := [(116,a3x),(54,z7)]) ⟨b6s,K9,trivial⟩ rfl rfl<|by
 intro(bs:Th (List Int)) (p:Th Int) ⟨(m:Th PMap),(l:Th (List Wlk)),u⟩ K _ _ ho h
 obtain⟨m,rfl⟩:=b6 m;obtain⟨l,rfl⟩:=b6 l
 have hl:=okL (ho.2.1 _ (.head _))
 refine⟨annL [(55,2,⟨Nat,[],fun σ k => σ.t 9 (vI fun _=>(k:Int)),fun _ k _=>k≤l.length∧m8 k (a3Z m l)=true,fun _ k _=>l.length-k⟩)],noAnn,20,?_⟩
 cbv
 repeat' first|((with_reducible refine fun(k:Nat) => ?_);cbv)|((with_reducible intro _);cbv)|(with_reducible refine And.intro ?_ ?_)
 all_goals try((first|(with_reducible refine LoopIn.mk ((0:Nat)) ?_ ?_)|(with_reducible refine LoopBack.mk ((k+1:Nat)) ?_ ?_ ?_)) )
 all_goals try((with_reducible show m0 _ _);cbv;(try simp only[and_true,true_and]))
 all_goals try(repeat' with_reducible refine And.intro ?_ ?_)
 all_goals first|(refine retK h ?_;clear h;simp only[fin0])|(with_reducible refine Ob.mk ?_;clear h)|(clear h)
 all_goals(try simp only[eta0,RT.bytes]at *)
 all_goals grind[n7,n4,a3Z,A5,a0g,j3,b0y,a9t]
theorem Y8:b8 Tryz.prog 160 X1:=j4 e9 (ss := [(139,a3x)]) ⟨a7w,trivial⟩ rfl rfl<|by
 intro(bs:Th (List Int)) (p:Th Int) ⟨(m:Th PMap),(l:Th (List Wlk)),u⟩ K _ _ ho h
 obtain⟨m,rfl⟩:=b6 m;obtain⟨l,rfl⟩:=b6 l
 have hl:=okL (ho.2.1 _ (.head _))
 refine⟨annL [(160,2,⟨Nat,[],fun σ k => σ.t 5 (vI fun _=>(k:Int)),fun _ k _=>k≤l.length∧m8 k (a3Z m l)=true,fun _ k _=>l.length-k⟩)],noAnn,20,?_⟩
 cbv
 repeat' first|((with_reducible refine fun(k:Nat) => ?_);cbv)|((with_reducible intro _);cbv)|(with_reducible refine And.intro ?_ ?_)
 all_goals try((first|(with_reducible refine LoopIn.mk ((0:Nat)) ?_ ?_)|(with_reducible refine LoopBack.mk ((k+1:Nat)) ?_ ?_ ?_)) )
 all_goals try((with_reducible show m0 _ _);cbv;(try simp only[and_true,true_and]))
 all_goals try(repeat' with_reducible refine And.intro ?_ ?_)
 all_goals first|(refine retK h ?_;clear h;simp only[fin0])|(with_reducible refine Ob.mk ?_;clear h)|(clear h)
 all_goals(try simp only[eta0,RT.bytes]at *)
 all_goals grind[n7,n4,a3Z,A5,a0g,j3,b0y,a9t]
noncomputable def a2c:Sx.Spec:=⟨false,true,[.list .wlk,.int .i64],[[some .wlk]],fun _ _ ⟨l,i,_⟩ => .ret (vW .wlk fun _=>E2 (l ()) (i ()),fun _=>0)⟩
noncomputable def a7a:Sx.Spec:=⟨false,true,[.list .wlk],[[some .wlk]],fun _ _ ⟨l,_⟩ => .ret (vW .wlk fun _=>l (),fun _=>0)⟩
noncomputable def b0S:Sx.Spec:=⟨false,true,[.list .wlk,.int .i64],[],fun _ _ ⟨l,i,_⟩ => .ret (vI fun _=>k8 (l ()) (i ()),fun _=>0)⟩
noncomputable def a0M:Sx.Spec:=⟨false,true,[.list .wlk,.int .i64],[],fun _ _ ⟨l,i,_⟩ => .ret (.tup [oWlk fun _=>E3 (l ()) (i ()),vB fun _=>u3 (l ()) (i ())],fun _=>0)⟩
theorem a7u:b8 Tryz.prog 134 a2c:=j4 e9 (ss := []) trivial rfl rfl<|by
 intro(bs:Th (List Int)) (p:Th Int) ⟨(l:Th (List Wlk)),(i:Th Int),u⟩ K _ _ ho h
 obtain⟨l,rfl⟩:=b6 l;obtain⟨i,rfl⟩:=b6 i
 have hl:=okB (ho.1 _ (.head _))
 have hz:=a6I l i
 refine⟨annL [(134,3,⟨Nat,[⟨.tmp 5 0,some 22,.wlk⟩],fun σ k=>((σ.t 10 (vI fun _=>(k:Int))).t 5 (vO 22 1)).row 22 1 .wlk (fun _=>R6 l i k),fun _ k _=>k≤l.length,fun _ k _=>l.length-k⟩)],noAnn,20,?_⟩
 cbv
 repeat' first|((with_reducible refine fun(k:Nat) => ?_);cbv)|((with_reducible intro _);cbv)|(with_reducible refine And.intro ?_ ?_)
 all_goals try((first|(with_reducible refine LoopIn.mk ((0:Nat)) ?_ ?_)|(with_reducible refine LoopBack.mk ((k+1:Nat)) ?_ ?_ ?_)) )
 all_goals try((with_reducible show m0 _ _);cbv;(try simp only[and_true,true_and]))
 all_goals try(repeat' with_reducible refine And.intro ?_ ?_)
 all_goals first|(refine retK h ?_;clear h;simp only[fin0])|(with_reducible refine Ob.mk ?_;clear h)|(clear h)
 all_goals(try simp only[eta0,RT.bytes]at *)
 all_goals grind[a5G,a6J,a6H,a9s,j3]
theorem b4q:b8 Tryz.prog 159 a2c:=j4 e9 (ss := []) trivial rfl rfl<|by
 intro(bs:Th (List Int)) (p:Th Int) ⟨(l:Th (List Wlk)),(i:Th Int),u⟩ K _ _ ho h
 obtain⟨l,rfl⟩:=b6 l;obtain⟨i,rfl⟩:=b6 i
 have hl:=okB (ho.1 _ (.head _))
 have hz:=a6I l i
 refine⟨annL [(159,3,⟨Nat,[⟨.tmp 5 0,some 8,.wlk⟩],fun σ k=>(((σ.fg 8).t 6 (vI fun _=>(k:Int))).t 5 (vO 8 1)).row 8 1 .wlk (fun _=>R6 l i k),fun _ k _=>k≤l.length,fun _ k _=>l.length-k⟩)],noAnn,20,?_⟩
 cbv
 repeat' first|((with_reducible refine fun(k:Nat) => ?_);cbv)|((with_reducible intro _);cbv)|(with_reducible refine And.intro ?_ ?_)
 all_goals try((first|(with_reducible refine LoopIn.mk ((0:Nat)) ?_ ?_)|(with_reducible refine LoopBack.mk ((k+1:Nat)) ?_ ?_ ?_)) )
 all_goals try((with_reducible show m0 _ _);cbv;(try simp only[and_true,true_and]))
 all_goals try(repeat' with_reducible refine And.intro ?_ ?_)
 all_goals first|(refine retK h ?_;clear h;simp only[fin0])|(with_reducible refine Ob.mk ?_;clear h)|(clear h)
 all_goals(try simp only[eta0,RT.bytes]at *)
 all_goals grind[a5G,a6J,a6H,a9s,j3]
theorem b9t:b8 Tryz.prog 130 a7a:=j4 e9 (ss := []) trivial rfl rfl<|by
 intro(bs:Th (List Int)) (p:Th Int) ⟨(l:Th (List Wlk)),u⟩ K _ _ ho h
 obtain⟨l,rfl⟩:=b6 l
 have hl:=okB (ho.1 _ (.head _))
 refine⟨noAnn,noAnn,20,?_⟩
 cbv
 repeat' first|((with_reducible intro _);cbv)|(with_reducible refine And.intro ?_ ?_)
 all_goals first|(refine retK h ?_;clear h;simp only[fin0])|(with_reducible refine Ob.mk ?_;clear h)|(clear h)
 all_goals(try simp only[eta0,RT.bytes]at *)
 all_goals grind
theorem d0F:b8 Tryz.prog 227 a7a:=j4 e9 (ss := []) trivial rfl rfl<|by
 intro(bs:Th (List Int)) (p:Th Int) ⟨(l:Th (List Wlk)),u⟩ K _ _ ho h
 obtain⟨l,rfl⟩:=b6 l
 have hl:=okB (ho.1 _ (.head _))
 refine⟨noAnn,noAnn,20,?_⟩
 cbv
 repeat' first|((with_reducible intro _);cbv)|(with_reducible refine And.intro ?_ ?_)
 all_goals first|(refine retK h ?_;clear h;simp only[fin0])|(with_reducible refine Ob.mk ?_;clear h)|(clear h)
 all_goals(try simp only[eta0,RT.bytes]at *)
 all_goals grind
theorem b0l:b8 Tryz.prog 132 b0S:=j4 e9 (ss := []) trivial rfl rfl<|by
 intro(bs:Th (List Int)) (p:Th Int) ⟨(l:Th (List Wlk)),(i:Th Int),u⟩ K _ _ ho h
 obtain⟨l,rfl⟩:=b6 l;obtain⟨i,rfl⟩:=b6 i
 have hl:=okL (ho.1 _ (.head _))
 refine⟨annL [(187,2,⟨Nat,[],fun σ k => σ.t 8 (vI fun _=>(k:Int)),fun _ k _=>k≤l.length∧m8 k (nid l i)=true,fun _ k _=>l.length-k⟩)],noAnn,20,?_⟩
 cbv
 repeat' first|((with_reducible refine fun(k:Nat) => ?_);cbv)|((with_reducible intro _);cbv)|(with_reducible refine And.intro ?_ ?_)
 all_goals try((first|(with_reducible refine LoopIn.mk ((0:Nat)) ?_ ?_)|(with_reducible refine LoopBack.mk ((k+1:Nat)) ?_ ?_ ?_)) )
 all_goals try((with_reducible show m0 _ _);cbv;(try simp only[and_true,true_and]))
 all_goals try(repeat' with_reducible refine And.intro ?_ ?_)
 all_goals first|(refine retK h ?_;clear h;simp only[fin0])|(with_reducible refine Ob.mk ?_;clear h)|(clear h)
 all_goals(try simp only[eta0,RT.bytes]at *)
 all_goals grind[n7,n4,nid,isId,b8O,b1l,j3]
theorem b4p:b8 Tryz.prog 247 a0M:=j4 e9 (ss := [(132,b0S)]) ⟨b0l,trivial⟩ rfl rfl<|by
 intro(bs:Th (List Int)) (p:Th Int) ⟨(l:Th (List Wlk)),(i:Th Int),u⟩ K _ _ ho h
 obtain⟨l,rfl⟩:=b6 l;obtain⟨i,rfl⟩:=b6 i
 have hp:=S4 l i
 refine⟨noAnn,noAnn,20,?_⟩
 cbv
 repeat' first|((with_reducible intro _);cbv)|(with_reducible refine And.intro ?_ ?_)
 all_goals first|(refine retK h ?_;clear h;simp only[fin0])|(with_reducible refine Ob.mk ?_;clear h)|(clear h)
 all_goals(try simp only[eta0,RT.bytes]at *)
 all_goals grind[E3,u3]
theorem a3D:b8 Tryz.prog 256 a0M:=j4 e9 (ss := []) trivial rfl rfl<|by
 intro(bs:Th (List Int)) (p:Th Int) ⟨(l:Th (List Wlk)),(i:Th Int),u⟩ K _ _ ho h
 obtain⟨l,rfl⟩:=b6 l;obtain⟨i,rfl⟩:=b6 i
 have hl:=okL (ho.1 _ (.head _))
 refine⟨annL [(256,2,⟨Nat,[],fun σ k => σ.t 6 (vI fun _=>(k:Int)),fun _ k _=>k≤l.length∧m8 k (nid l i)=true,fun _ k _=>l.length-k⟩)],noAnn,20,?_⟩
 cbv
 repeat' first|((with_reducible refine fun(k:Nat) => ?_);cbv)|((with_reducible intro _);cbv)|(with_reducible refine And.intro ?_ ?_)
 all_goals try((first|(with_reducible refine LoopIn.mk ((0:Nat)) ?_ ?_)|(with_reducible refine LoopBack.mk ((k+1:Nat)) ?_ ?_ ?_)) )
 all_goals try((with_reducible show m0 _ _);cbv;(try simp only[and_true,true_and]))
 all_goals try(repeat' with_reducible refine And.intro ?_ ?_)
 all_goals first|(refine retK h ?_;clear h;simp only[fin0])|(with_reducible refine Ob.mk ?_;clear h)|(clear h)
 all_goals(try simp only[eta0,RT.bytes]at *)
 all_goals grind[n7,n4,nid,isId,b8O,b1l,j3,E3,u3]
noncomputable def a2B:Sx.Spec:=⟨false,true,[.ord],[],fun _ _ ⟨o,_⟩ => .ret (vB fun _=>O2 (o ()),fun _=>0)⟩
noncomputable def b0T:Sx.Spec:=⟨false,true,[.row .pcl],[],fun _ _ ⟨o,_⟩ => .ret (vB fun _=>a8M (o ()),fun _=>0)⟩
noncomputable def a4n:Sx.Spec:=⟨false,true,[.map,.row .pcl],[],fun _ _ ⟨m,o,_⟩ => .ret (vB fun _=>I8 (m ()) (o ()),fun _=>0)⟩
noncomputable def a3y:Sx.Spec:=⟨false,true,[.map,.list .pcl,.int .i64],[],fun _ _ ⟨m,l,n,_⟩ => .ret (vB fun _=>u6 (m ()) (l ()) (n ()),fun _=>0)⟩
noncomputable def a0N:Sx.Spec:=⟨false,true,[.list .pcl,.int .i64],[[some .pcl]],fun _ _ ⟨l,n,_⟩ => .ret (vW .pcl fun _=>A1 (l ()) (n ()),fun _=>0)⟩
noncomputable def c3V:Sx.Spec:=⟨false,true,[.list .pcl],[[some .pcl]],fun _ _ ⟨l,_⟩ => .ret (vW .pcl fun _=>l (),fun _=>0)⟩
theorem b0m:b8 Tryz.prog 74 a2B:=j4 e9 (ss := [(57,sIn),(70,a2T),(102,b0h)]) ⟨okIn,a3F,b1E,trivial⟩ rfl rfl<|by
 intro(bs:Th (List Int)) (p:Th Int) ⟨(o:Th Sx.Ord),u⟩ K _ _ ho h
 obtain⟨o,rfl⟩:=b6 o
 refine⟨noAnn,noAnn,20,?_⟩
 cbv
 repeat' first|((with_reducible intro _);cbv)|(with_reducible refine And.intro ?_ ?_)
 all_goals first|(refine retK h ?_;clear h;simp only[fin0])|(with_reducible refine Ob.mk ?_;clear h)|(clear h)
 all_goals(try simp only[eta0,RT.bytes]at *)
 all_goals grind[inR,O2]
theorem a7x:b8 Tryz.prog 198 a2B:=j4 e9 (ss := [(148,sIn)]) ⟨I5,trivial⟩ rfl rfl<|by
 intro(bs:Th (List Int)) (p:Th Int) ⟨(o:Th Sx.Ord),u⟩ K _ _ ho h
 obtain⟨o,rfl⟩:=b6 o
 refine⟨noAnn,noAnn,20,?_⟩
 cbv
 repeat' first|((with_reducible intro _);cbv)|(with_reducible refine And.intro ?_ ?_)
 all_goals first|(refine retK h ?_;clear h;simp only[fin0])|(with_reducible refine Ob.mk ?_;clear h)|(clear h)
 all_goals(try simp only[eta0,RT.bytes]at *)
 all_goals grind[inR,O2]
theorem b9l:b8 Tryz.prog 184 b0T:=j4 e9 (ss := [(57,sIn)]) ⟨okIn,trivial⟩ rfl rfl<|by
 intro(bs:Th (List Int)) (p:Th Int) ⟨(o:Th Pcl),u⟩ K _ _ ho h
 obtain⟨o,rfl⟩:=b6 o
 refine⟨noAnn,noAnn,20,?_⟩
 cbv
 repeat' first|((with_reducible intro _);cbv)|(with_reducible refine And.intro ?_ ?_)
 all_goals first|(refine retK h ?_;clear h;simp only[fin0])|(with_reducible refine Ob.mk ?_;clear h)|(clear h)
 all_goals(try simp only[eta0,RT.bytes]at *)
 all_goals grind[inR,a8M,a4e]
theorem b6v:b8 Tryz.prog 124 a4n:=j4 e9 (ss := [(54,z7),(184,b0T),(116,a3x)]) ⟨K9,b9l,b6s,trivial⟩ rfl rfl<|by
 intro(bs:Th (List Int)) (p:Th Int) ⟨(m:Th PMap),(o:Th Pcl),u⟩ K _ _ ho h
 obtain⟨m,rfl⟩:=b6 m;obtain⟨o,rfl⟩:=b6 o
 refine⟨noAnn,noAnn,20,?_⟩
 cbv
 repeat' first|((with_reducible intro _);cbv)|(with_reducible refine And.intro ?_ ?_)
 all_goals first|(refine retK h ?_;clear h;simp only[fin0])|(with_reducible refine Ob.mk ?_;clear h)|(clear h)
 all_goals(try simp only[eta0,RT.bytes]at *)
 all_goals grind[a8M,I8]
theorem b1x:b8 Tryz.prog 208 a4n:=j4 e9 (ss := [(85,z7),(148,sIn),(139,a3x)]) ⟨C7,I5,a7w,trivial⟩ rfl rfl<|by
 intro(bs:Th (List Int)) (p:Th Int) ⟨(m:Th PMap),(o:Th Pcl),u⟩ K _ _ ho h
 obtain⟨m,rfl⟩:=b6 m;obtain⟨o,rfl⟩:=b6 o
 refine⟨noAnn,noAnn,20,?_⟩
 cbv
 repeat' first|((with_reducible intro _);cbv)|(with_reducible refine And.intro ?_ ?_)
 all_goals first|(refine retK h ?_;clear h;simp only[fin0])|(with_reducible refine Ob.mk ?_;clear h)|(clear h)
 all_goals(try simp only[eta0,RT.bytes]at *)
 all_goals grind[inR,I8,a4e]
theorem b9k:b8 Tryz.prog 129 a3y:=j4 e9 (ss := [(54,z7),(57,sIn),(124,a4n)]) ⟨K9,okIn,b6v,trivial⟩ rfl rfl<|by
 intro(bs:Th (List Int)) (p:Th Int) ⟨(m:Th PMap),(l:Th (List Pcl)),(n:Th Int),u⟩ K _ _ ho h
 obtain⟨m,rfl⟩:=b6 m;obtain⟨l,rfl⟩:=b6 l;obtain⟨n,rfl⟩:=b6 n
 have hl:=okL (ho.2.1 _ (.head _))
 refine⟨annL [(129,4,⟨Nat,[],fun σ k => σ.t 25 (vI fun _=>(k:Int)),fun _ k _=>k≤l.length∧m8 k (a2X m l n)=true,fun _ k _=>l.length-k⟩)],noAnn,20,?_⟩
 cbv
 repeat' first|((with_reducible refine fun(k:Nat) => ?_);cbv)|((with_reducible intro _);cbv)|(with_reducible refine And.intro ?_ ?_)
 all_goals try((first|(with_reducible refine LoopIn.mk ((0:Nat)) ?_ ?_)|(with_reducible refine LoopBack.mk ((k+1:Nat)) ?_ ?_ ?_)) )
 all_goals try((with_reducible show m0 _ _);cbv;(try simp only[and_true,true_and]))
 all_goals try(repeat' with_reducible refine And.intro ?_ ?_)
 all_goals first|(refine retK h ?_;clear h;simp only[fin0])|(with_reducible refine Ob.mk ?_;clear h)|(clear h)
 all_goals(try simp only[eta0,RT.bytes]at *)
 all_goals grind[inR,n7,n4,a2X,u6,a5K,a4x,j3,e8]
theorem b6u:b8 Tryz.prog 255 a3y:=j4 e9 (ss := [(85,z7),(148,sIn),(208,a4n)]) ⟨C7,I5,b1x,trivial⟩ rfl rfl<|by
 intro(bs:Th (List Int)) (p:Th Int) ⟨(m:Th PMap),(l:Th (List Pcl)),(n:Th Int),u⟩ K _ _ ho h
 obtain⟨m,rfl⟩:=b6 m;obtain⟨l,rfl⟩:=b6 l;obtain⟨n,rfl⟩:=b6 n
 have hl:=okL (ho.2.1 _ (.head _))
 refine⟨annL [(255,4,⟨Nat,[],fun σ k => σ.t 7 (vI fun _=>(k:Int)),fun _ k _=>k≤l.length∧m8 k (a2X m l n)=true,fun _ k _=>l.length-k⟩)],noAnn,20,?_⟩
 cbv
 repeat' first|((with_reducible refine fun(k:Nat) => ?_);cbv)|((with_reducible intro _);cbv)|(with_reducible refine And.intro ?_ ?_)
 all_goals try((first|(with_reducible refine LoopIn.mk ((0:Nat)) ?_ ?_)|(with_reducible refine LoopBack.mk ((k+1:Nat)) ?_ ?_ ?_)) )
 all_goals try((with_reducible show m0 _ _);cbv;(try simp only[and_true,true_and]))
 all_goals try(repeat' with_reducible refine And.intro ?_ ?_)
 all_goals first|(refine retK h ?_;clear h;simp only[fin0])|(with_reducible refine Ob.mk ?_;clear h)|(clear h)
 all_goals(try simp only[eta0,RT.bytes]at *)
 all_goals grind[inR,n7,n4,a2X,u6,a5K,a4x,j3,e8]
theorem a5s:b8 Tryz.prog 49 a0N:=j4 e9 (ss := []) trivial rfl rfl<|by
 intro(bs:Th (List Int)) (p:Th Int) ⟨(l:Th (List Pcl)),(i:Th Int),u⟩ K _ _ ho h
 obtain⟨l,rfl⟩:=b6 l;obtain⟨i,rfl⟩:=b6 i
 have hl:=okB (ho.1 _ (.head _))
 have hz:=a5M l i
 refine⟨annL [(49,3,⟨Nat,[⟨.tmp 5 0,some 22,.pcl⟩],fun σ k=>((σ.t 10 (vI fun _=>(k:Int))).t 5 (vO 22 1)).row 22 1 .pcl (fun _=>O1 l i k),fun _ k _=>k≤l.length,fun _ k _=>l.length-k⟩)],noAnn,20,?_⟩
 cbv
 repeat' first|((with_reducible refine fun(k:Nat) => ?_);cbv)|((with_reducible intro _);cbv)|(with_reducible refine And.intro ?_ ?_)
 all_goals try((first|(with_reducible refine LoopIn.mk ((0:Nat)) ?_ ?_)|(with_reducible refine LoopBack.mk ((k+1:Nat)) ?_ ?_ ?_)) )
 all_goals try((with_reducible show m0 _ _);cbv;(try simp only[and_true,true_and]))
 all_goals try(repeat' with_reducible refine And.intro ?_ ?_)
 all_goals first|(refine retK h ?_;clear h;simp only[fin0])|(with_reducible refine Ob.mk ?_;clear h)|(clear h)
 all_goals(try simp only[eta0,RT.bytes]at *)
 all_goals grind[a4y,a5N,a5L,a7m,j3]
theorem b1y:b8 Tryz.prog 120 a0N:=j4 e9 (ss := []) trivial rfl rfl<|by
 intro(bs:Th (List Int)) (p:Th Int) ⟨(l:Th (List Pcl)),(i:Th Int),u⟩ K _ _ ho h
 obtain⟨l,rfl⟩:=b6 l;obtain⟨i,rfl⟩:=b6 i
 have hl:=okB (ho.1 _ (.head _))
 have hz:=a5M l i
 refine⟨annL [(120,3,⟨Nat,[⟨.tmp 5 0,some 8,.pcl⟩],fun σ k=>(((σ.fg 8).t 6 (vI fun _=>(k:Int))).t 5 (vO 8 1)).row 8 1 .pcl (fun _=>O1 l i k),fun _ k _=>k≤l.length,fun _ k _=>l.length-k⟩)],noAnn,20,?_⟩
 cbv
 repeat' first|((with_reducible refine fun(k:Nat) => ?_);cbv)|((with_reducible intro _);cbv)|(with_reducible refine And.intro ?_ ?_)
 all_goals try((first|(with_reducible refine LoopIn.mk ((0:Nat)) ?_ ?_)|(with_reducible refine LoopBack.mk ((k+1:Nat)) ?_ ?_ ?_)) )
 all_goals try((with_reducible show m0 _ _);cbv;(try simp only[and_true,true_and]))
 all_goals try(repeat' with_reducible refine And.intro ?_ ?_)
 all_goals first|(refine retK h ?_;clear h;simp only[fin0])|(with_reducible refine Ob.mk ?_;clear h)|(clear h)
 all_goals(try simp only[eta0,RT.bytes]at *)
 all_goals grind[a4y,a5N,a5L,a7m,j3]
theorem d0Q:b8 Tryz.prog 131 c3V:=j4 e9 (ss := []) trivial rfl rfl<|by
 intro(bs:Th (List Int)) (p:Th Int) ⟨(l:Th (List Pcl)),u⟩ K _ _ ho h
 obtain⟨l,rfl⟩:=b6 l
 have hl:=okB (ho.1 _ (.head _))
 refine⟨noAnn,noAnn,20,?_⟩
 cbv
 repeat' first|((with_reducible intro _);cbv)|(with_reducible refine And.intro ?_ ?_)
 all_goals first|(refine retK h ?_;clear h;simp only[fin0])|(with_reducible refine Ob.mk ?_;clear h)|(clear h)
 all_goals(try simp only[eta0,RT.bytes]at *)
 all_goals grind
noncomputable def a6h:Sx.Spec:=⟨false,true,[.map,.row .gst],[],fun _ _ ⟨m,g,_⟩ => .ret (vB fun _=>a1d (m ()) (g ()),fun _=>0)⟩
noncomputable def a2U:Sx.Spec:=⟨false,true,[.row .gst,.row .gst],[],fun _ _ ⟨a,b,_⟩ => .ret (vB fun _=>G0 (a ()) (b ()),fun _=>0)⟩
noncomputable def c3Q:Sx.Spec:=⟨false,true,[.map,.list .gst],[],fun _ _ ⟨m,l,_⟩ => .ret (vB fun _=>W9 (m ()) (l ()),fun _=>0)⟩
noncomputable def b0W:Sx.Spec:=⟨false,true,[.map,.list .gst],[],fun _ _ ⟨m,l,_⟩ => .ret (vB fun _=>D9 (m ()) (l ()),fun _=>0)⟩
noncomputable def a4r:Sx.Spec:=⟨false,true,[.map,.arb,.int .i64],[],fun _ _ ⟨m,t,s,_⟩ => .ret (vB fun _=>C2 (m ()) (t ()) (s ()),fun _=>0)⟩
noncomputable def M7:Sx.Spec:=⟨false,true,[.arb,.int .i64],[],fun _ _ ⟨t,c,_⟩ => .ret (vI fun _=>o9 (t ()) (c ()),fun _=>0)⟩
theorem c4C:b8 Tryz.prog 125 a6h:=j4 e9 (ss := [(57,sIn),(116,a3x),(128,D6),(136,V0)]) ⟨okIn,b6s,a0n,a3b,trivial⟩ rfl rfl<|by
 intro(bs:Th (List Int)) (p:Th Int) ⟨(m:Th PMap),(g:Th Gst),u⟩ K _ _ ho h
 obtain⟨m,rfl⟩:=b6 m;obtain⟨g,rfl⟩:=b6 g
 refine⟨noAnn,noAnn,20,?_⟩
 cbv
 repeat' first|((with_reducible intro _);cbv)|(with_reducible refine And.intro ?_ ?_)
 all_goals first|(refine retK h ?_;clear h;simp only[fin0])|(with_reducible refine Ob.mk ?_;clear h)|(clear h)
 all_goals(try simp only[eta0,RT.bytes]at *)
 all_goals grind[a1d,inR]
theorem b1C:b8 Tryz.prog 209 a6h:=j4 e9 (ss := [(148,sIn),(139,a3x),(189,D6),(246,V0)]) ⟨I5,a7w,K8,a6o,trivial⟩ rfl rfl<|by
 intro(bs:Th (List Int)) (p:Th Int) ⟨(m:Th PMap),(g:Th Gst),u⟩ K _ _ ho h
 obtain⟨m,rfl⟩:=b6 m;obtain⟨g,rfl⟩:=b6 g
 refine⟨noAnn,noAnn,20,?_⟩
 cbv
 repeat' first|((with_reducible intro _);cbv)|(with_reducible refine And.intro ?_ ?_)
 all_goals first|(refine retK h ?_;clear h;simp only[fin0])|(with_reducible refine Ob.mk ?_;clear h)|(clear h)
 all_goals(try simp only[eta0,RT.bytes]at *)
 all_goals grind[a1d,inR]
theorem c4E:b8 Tryz.prog 183 a2U:=j4 e9 (ss := []) trivial rfl rfl<|by
 intro(bs:Th (List Int)) (p:Th Int) ⟨(a:Th Gst),(b:Th Gst),u⟩ K _ _ ho h
 obtain⟨a,rfl⟩:=b6 a;obtain⟨b,rfl⟩:=b6 b
 refine⟨noAnn,noAnn,20,?_⟩
 cbv
 repeat' first|((with_reducible intro _);cbv)|(with_reducible refine And.intro ?_ ?_)
 all_goals first|(refine retK h ?_;clear h;simp only[fin0])|(with_reducible refine Ob.mk ?_;clear h)|(clear h)
 all_goals(try simp only[eta0,RT.bytes]at *)
 all_goals grind[G0]
theorem b9n:b8 Tryz.prog 245 a2U:=j4 e9 (ss := []) trivial rfl rfl<|by
 intro(bs:Th (List Int)) (p:Th Int) ⟨(a:Th Gst),(b:Th Gst),u⟩ K _ _ ho h
 obtain⟨a,rfl⟩:=b6 a;obtain⟨b,rfl⟩:=b6 b
 refine⟨noAnn,noAnn,20,?_⟩
 cbv
 repeat' first|((with_reducible intro _);cbv)|(with_reducible refine And.intro ?_ ?_)
 all_goals first|(refine retK h ?_;clear h;simp only[fin0])|(with_reducible refine Ob.mk ?_;clear h)|(clear h)
 all_goals(try simp only[eta0,RT.bytes]at *)
 all_goals grind[G0]
theorem d0L:b8 Tryz.prog 122 c3Q:=j4 e9 (ss := [(125,a6h),(183,a2U),(54,z7)]) ⟨c4C,c4E,K9,trivial⟩ rfl rfl<|by
 intro(bs:Th (List Int)) (p:Th Int) ⟨(m:Th PMap),(l:Th (List Gst)),u⟩ K _ _ ho h
 obtain⟨m,rfl⟩:=b6 m;obtain⟨l,rfl⟩:=b6 l
 have hl:=okL (ho.2.1 _ (.head _))
 refine⟨annL [(122,2,⟨Nat,[],fun σ k => σ.t 9 (vI fun _=>(k:Int)),fun _ k _=>k≤l.length∧m8 k (a3i m l)=true,fun _ k _=>l.length-k⟩)],noAnn,20,?_⟩
 cbv
 repeat' first|((with_reducible refine fun(k:Nat) => ?_);cbv)|((with_reducible intro _);cbv)|(with_reducible refine And.intro ?_ ?_)
 all_goals try((first|(with_reducible refine LoopIn.mk ((0:Nat)) ?_ ?_)|(with_reducible refine LoopBack.mk ((k+1:Nat)) ?_ ?_ ?_)) )
 all_goals try((with_reducible show m0 _ _);cbv;(try simp only[and_true,true_and]))
 all_goals try(repeat' with_reducible refine And.intro ?_ ?_)
 all_goals first|(refine retK h ?_;clear h;simp only[fin0])|(with_reducible refine Ob.mk ?_;clear h)|(clear h)
 all_goals(try simp only[eta0,RT.bytes]at *)
 all_goals grind[j3,e8,b4I,b4H,a9b,b9X,W9,a3i,n7,n4]
theorem b4t:b8 Tryz.prog 205 b0W:=j4 e9 (ss := [(209,a6h),(245,a2U)]) ⟨b1C,b9n,trivial⟩ rfl rfl<|by
 intro(bs:Th (List Int)) (p:Th Int) ⟨(m:Th PMap),(l:Th (List Gst)),u⟩ K _ _ ho h
 obtain⟨m,rfl⟩:=b6 m;obtain⟨l,rfl⟩:=b6 l
 have hl:=okL (ho.2.1 _ (.head _))
 refine⟨annL [(205,4,⟨Nat,[],fun σ k => σ.t 5 (vI fun _=>(k:Int)),fun _ k _=>k≤l.length∧m8 k (a3i m l)=true,fun _ k _=>l.length-k⟩)],noAnn,20,?_⟩
 cbv
 repeat' first|((with_reducible refine fun(k:Nat) => ?_);cbv)|((with_reducible intro _);cbv)|(with_reducible refine And.intro ?_ ?_)
 all_goals try((first|(with_reducible refine LoopIn.mk ((0:Nat)) ?_ ?_)|(with_reducible refine LoopBack.mk ((k+1:Nat)) ?_ ?_ ?_)) )
 all_goals try((with_reducible show m0 _ _);cbv;(try simp only[and_true,true_and]))
 all_goals try(repeat' with_reducible refine And.intro ?_ ?_)
 all_goals first|(refine retK h ?_;clear h;simp only[fin0])|(with_reducible refine Ob.mk ?_;clear h)|(clear h)
 all_goals(try simp only[eta0,RT.bytes]at *)
 all_goals grind[j3,e8,b4I,b4H,a9b,b9X,a3i,n7,n4]
theorem d4q:b8 Tryz.prog 61 a4r:=j4 e9 (ss := [(54,z7),(57,sIn)]) ⟨K9,okIn,trivial⟩ rfl rfl<|by
 intro(bs:Th (List Int)) (p:Th Int) ⟨(m:Th PMap),(t:Th Arb),(s:Th Int),u⟩ K _ _ ho h
 obtain⟨m,rfl⟩:=b6 m;obtain⟨t,rfl⟩:=b6 t;obtain⟨s,rfl⟩:=b6 s
 have hA:=fun(hh:C2 m t s=true) (k:Nat) => @b2S m t s k hh
 have hl:=okL (ho.2.1 _ (.head _))
 refine⟨annL [(61,4,⟨Nat,[],fun σ k => σ.t 36 (vI fun _=>(k:Int)),fun _ k _=>k≤t.servers.length∧a0b m t s=true∧m8 k (a4c t s)=true,fun _ k _=>t.servers.length-k⟩)],noAnn,20,?_⟩
 cbv
 repeat' first|((with_reducible refine fun(k:Nat) => ?_);cbv)|((with_reducible intro _);cbv)|(with_reducible refine And.intro ?_ ?_)
 all_goals try((first|(with_reducible refine LoopIn.mk ((0:Nat)) ?_ ?_)|(with_reducible refine LoopBack.mk ((k+1:Nat)) ?_ ?_ ?_)) )
 all_goals try((with_reducible show m0 _ _);cbv;(try simp only[and_true,true_and]))
 all_goals try(repeat' with_reducible refine And.intro ?_ ?_)
 all_goals first|(refine retK h ?_;clear h;simp only[fin0])|(with_reducible refine Ob.mk ?_;clear h)|(clear h)
 all_goals(try simp only[eta0,RT.bytes]at *)
 all_goals grind[j3,e8,c5L,c5M,C2,a0b,a4c,n7,n4,inR]
theorem a4E:b8 Tryz.prog 86 a4r:=j4 e9 (ss := [(85,z7),(148,sIn)]) ⟨C7,I5,trivial⟩ rfl rfl<|by
 intro(bs:Th (List Int)) (p:Th Int) ⟨(m:Th PMap),(t:Th Arb),(s:Th Int),u⟩ K _ _ ho h
 obtain⟨m,rfl⟩:=b6 m;obtain⟨t,rfl⟩:=b6 t;obtain⟨s,rfl⟩:=b6 s
 have hA:=fun(hh:C2 m t s=true) (k:Nat) => @b2S m t s k hh
 have hl:=okL (ho.2.1 _ (.head _))
 refine⟨annL [(86,4,⟨Nat,[],fun σ k => σ.t 7 (vI fun _=>(k:Int)),fun _ k _=>k≤t.servers.length∧a0b m t s=true∧m8 k (a4c t s)=true,fun _ k _=>t.servers.length-k⟩)],noAnn,20,?_⟩
 cbv
 repeat' first|((with_reducible refine fun(k:Nat) => ?_);cbv)|((with_reducible intro _);cbv)|(with_reducible refine And.intro ?_ ?_)
 all_goals try((first|(with_reducible refine LoopIn.mk ((0:Nat)) ?_ ?_)|(with_reducible refine LoopBack.mk ((k+1:Nat)) ?_ ?_ ?_)) )
 all_goals try((with_reducible show m0 _ _);cbv;(try simp only[and_true,true_and]))
 all_goals try(repeat' with_reducible refine And.intro ?_ ?_)
 all_goals first|(refine retK h ?_;clear h;simp only[fin0])|(with_reducible refine Ob.mk ?_;clear h)|(clear h)
 all_goals(try simp only[eta0,RT.bytes]at *)
 all_goals grind(splits:=30) [j3,e8,c5L,a6D,c5M,C2,a0b,a4c,n7,n4,inR]
theorem a4F:b8 Tryz.prog 174 M7:=j4 e9 (ss := [(57,sIn)]) ⟨okIn,trivial⟩ rfl rfl<|by
 intro(bs:Th (List Int)) (p:Th Int) ⟨(t:Th Arb),(c:Th Int),u⟩ K _ _ ho h
 obtain⟨t,rfl⟩:=b6 t;obtain⟨c,rfl⟩:=b6 c
 have hl:=okL (ho.1 _ (.head _))
 refine⟨noAnn,noAnn,20,?_⟩
 cbv
 repeat' first|((with_reducible intro _);cbv)|(with_reducible refine And.intro ?_ ?_)
 all_goals first|(refine retK h ?_;clear h;simp only[fin0])|(with_reducible refine Ob.mk ?_;clear h)|(clear h)
 all_goals(try simp only[eta0,RT.bytes]at *)
 all_goals grind[o9,inR,e8]
theorem Y9:b8 Tryz.prog 165 M7:=j4 e9 (ss := []) trivial rfl rfl<|by
 intro(bs:Th (List Int)) (p:Th Int) ⟨(t:Th Arb),(c:Th Int),u⟩ K _ _ ho h
 obtain⟨t,rfl⟩:=b6 t;obtain⟨c,rfl⟩:=b6 c
 have hl:=okL (ho.1 _ (.head _))
 refine⟨noAnn,noAnn,20,?_⟩
 cbv
 repeat' first|((with_reducible intro _);cbv)|(with_reducible refine And.intro ?_ ?_)
 all_goals first|(refine retK h ?_;clear h;simp only[fin0])|(with_reducible refine Ob.mk ?_;clear h)|(clear h)
 all_goals(try simp only[eta0,RT.bytes]at *)
 all_goals grind[o9,inR,e8]
noncomputable def R0:Sx.Spec:=⟨false,true,[.row .cll],[nCll],fun _ _ ⟨c,_⟩ => .ret (oCll c,fun _=>0)⟩
noncomputable def a1D:Sx.Spec:=⟨false,true,[.map,.row .cll],[],fun _ _ ⟨m,c,_⟩ => .ret (vB fun _=>s6 (m ()) (c ()),fun _=>0)⟩
noncomputable def c3M:Sx.Spec:=⟨false,true,[.map,.row .cll,.int .i64],[],fun _ _ ⟨m,c,s,_⟩ => .asrt (fun _=>0≤s ()∧s ()<(c ()).outs.length∧s ()<(c ()).next.length∧s ()<(c ()).ins.length) (.ret (vB fun _=>N4 (m ()) (c ()) (s ()).toNat,fun _=>0))⟩
theorem a7E:b8 Tryz.prog 75 R0:=j4 e9 (ss := [(130,a7a),(131,c3V)]) ⟨b9t,d0Q,trivial⟩ rfl rfl<|by
 intro(bs:Th (List Int)) (p:Th Int) ⟨(c:Th Cll),u⟩ K _ _ ho h
 obtain⟨c,rfl⟩:=b6 c
 obtain⟨hw,hou,hoi,hn,hi,_,_⟩:=a9J ho.1
 have hz:=a2f c.outs
 have hs:=fun k => @M0 .pcls c.outs k
 refine⟨annL [(75,3,⟨Nat,[⟨.cell 4 3,some 33,.pcls⟩],fun σ k=>((σ.t 23 (vI fun _=>(k:Int))).u7 4 3 (.own 33 1)).row 33 1 .pcls (fun _=>pre c.outs k),fun _ k _=>k≤c.outs.length,fun _ k _=>c.outs.length-k⟩)],noAnn,20,?_⟩
 cbv
 repeat' first|((with_reducible refine fun(k:Nat) => ?_);cbv)|((with_reducible intro _);cbv)|(with_reducible refine And.intro ?_ ?_)
 all_goals try((first|(with_reducible refine LoopIn.mk ((0:Nat)) ?_ ?_)|(with_reducible refine LoopBack.mk ((k+1:Nat)) ?_ ?_ ?_)) )
 all_goals try((with_reducible show m0 _ _);cbv;(try simp only[and_true,true_and]))
 all_goals try(repeat' with_reducible refine And.intro ?_ ?_)
 all_goals first|(refine retK h ?_;clear h;simp only[fin0])|(with_reducible refine Ob.mk ?_;clear h)|(clear h)
 all_goals(try simp only[eta0,RT.bytes]at *)
 all_goals grind[a0Q,a2g,j3]
theorem a0R:b8 Tryz.prog 181 R0:=j4 e9 (ss := [(227,a7a)]) ⟨d0F,trivial⟩ rfl rfl<|by
 intro(bs:Th (List Int)) (p:Th Int) ⟨(c:Th Cll),u⟩ K _ _ ho h
 obtain⟨c,rfl⟩:=b6 c
 obtain⟨hw,hou,hoi,hn,hi,_,_⟩:=a9J ho.1
 have hz:=a2f c.outs
 have hs:=fun k => @M0 .pcls c.outs k
 refine⟨annL [(181,4,⟨Nat,[⟨.tmp 3 0,some 10,.pcls⟩],fun σ k=>(((σ.fg 10).t 4 (vI fun _=>(k:Int))).t 3 (vO 10 1)).row 10 1 .pcls (fun _=>pre c.outs k),fun _ k _=>k≤c.outs.length,fun _ k _=>c.outs.length-k⟩)],noAnn,20,?_⟩
 cbv
 repeat' first|((with_reducible refine fun(k:Nat) => ?_);cbv)|((with_reducible intro _);cbv)|(with_reducible refine And.intro ?_ ?_)
 all_goals try((first|(with_reducible refine LoopIn.mk ((0:Nat)) ?_ ?_)|(with_reducible refine LoopBack.mk ((k+1:Nat)) ?_ ?_ ?_)) )
 all_goals try((with_reducible show m0 _ _);cbv;(try simp only[and_true,true_and]))
 all_goals try(repeat' with_reducible refine And.intro ?_ ?_)
 all_goals first|(refine retK h ?_;clear h;simp only[fin0])|(with_reducible refine Ob.mk ?_;clear h)|(clear h)
 all_goals(try simp only[eta0,RT.bytes]at *)
 all_goals grind[a0Q,a2g,j3]
theorem d0E:b8 Tryz.prog 226 c3M:=j4 e9 (ss := [(119,G5),(255,a3y),(148,sIn),(189,D6)]) ⟨W5,b6u,I5,K8,trivial⟩ rfl rfl<|by
 intro(bs:Th (List Int)) (p:Th Int) ⟨(m:Th PMap),(c:Th Cll),(i:Th Int),u⟩ K _ _ ho h
 obtain⟨m,rfl⟩:=b6 m;obtain⟨c,rfl⟩:=b6 c;obtain⟨i,rfl⟩:=b6 i
 obtain⟨hw,hou,hoi,hn,hi,_,_⟩:=a9J ho.2.1
 obtain⟨hpre,h⟩:=h
 have hpre:=hpre.out
 simp only at hpre
 obtain⟨s,rfl⟩ : ∃s:Nat,i=(s:Int):=⟨i.toNat,(Int.toNat_of_nonneg hpre.1).symm⟩
 simp only[Int.ofNat_lt]at hpre
 refine⟨annL [(226,7,⟨Nat,[],fun σ k=>(σ.t 8 (vI fun _=>(k:Int))),fun _ k _=>k≤(nth .pcls c.outs s).length∧Y3 m c s=true∧m8 k (a2i m (b7 m c.cell s) (nth .pcls c.outs s))=true,fun _ k _=>(nth .pcls c.outs s).length-k⟩)],noAnn,20,?_⟩
 cbv
 repeat' first|((with_reducible refine fun(k:Nat) => ?_);cbv)|((with_reducible intro _);cbv)|(with_reducible refine And.intro ?_ ?_)
 all_goals try((first|(with_reducible refine LoopIn.mk ((0:Nat)) ?_ ?_)|(with_reducible refine LoopBack.mk ((k+1:Nat)) ?_ ?_ ?_)) )
 all_goals try((with_reducible show m0 _ _);cbv;(try simp only[and_true,true_and]))
 all_goals try(repeat' with_reducible refine And.intro ?_ ?_)
 all_goals first|(refine retK h ?_;clear h;simp only[fin0])|(with_reducible refine Ob.mk ?_;clear h)|(clear h)
 all_goals(try simp only[eta0,RT.bytes]at *)
 all_goals grind[inR,n7,n4,Y3,N4,a2i,a9X,b3x,j3]
end Go.Proofs.YtihaeoicjglieaaGreat
namespace Go.Mo
open Go.Sx
def same (t:RT) (a b:List t.ty) (k:Nat):Prop := ∀i,i<k→nth t a i=nth t b i
theorem J7 (t:RT) (a b:List t.ty):same t a b 0:=fun i hi=>by omega
theorem J8 {t:RT} {a b:List t.ty} {k:Nat} (h:same t a b k) (hk:nth t a k=nth t b k):same t a b (k+1):=fun i hi=>by
 rcases Nat.lt_or_ge i k with h1|h1
 ·exact h i h1
 ·have:i=k:=by omega
  subst this
  exact hk
theorem N6 {t:RT} {a b:List t.ty} {k:Nat} (h:same t a b k) (hl:a.length=b.length) (hk:k=a.length):a=b:=by
 refine List.ext_getElem hl fun i h1 h2 => ?_
 rw[←l6 t a i h1,←l6 t b i h2]
 exact h i (by omega)
theorem a5a {a b:Wlk}:a=b↔a.id=b.id∧a.pos=b.pos∧a.j9=b.j9∧a.seq=b.seq∧a.last=b.last:=by
 cases a;cases b;simp
theorem a7r {a b:Ord}:a=b↔a.who=b.who∧a.seq=b.seq∧a.kind=b.kind∧a.dest=b.dest∧a.n=b.n:=by
 cases a;cases b;simp
theorem b6f {a b:Pcl}:a=b↔a.n=b.n∧a.kind=b.kind∧a.wlk=b.wlk∧a.j9=b.j9:=by
 cases a;cases b;simp
theorem d3J {a b:Rec}:a=b↔a.kind=b.kind∧a.ord=b.ord∧a.side=b.side∧a.pcl=b.pcl∧a.n=b.n:=by
 cases a;cases b;simp
theorem d5d {a b:Cll}:a=b↔a.cell=b.cell∧a.wlks=b.wlks∧a.ground=b.ground∧a.outs=b.outs∧a.next=b.next∧a.ins=b.ins:=by
 cases a;cases b;simp
end Go.Mo
namespace Go.Proofs.YtihaeoicjglieaaGreat
open Go.Sx Go.Proofs Go.Mo
noncomputable def sIsW:Sx.Spec:=⟨false,true,[.list .wlk,.list .wlk],[],fun _ _ ⟨a,b,_⟩ => .ret (vB fun _=>decide (a ()=b ()),fun _=>0)⟩
noncomputable def sIsI:Sx.Spec:=⟨false,true,[.list .int,.list .int],[],fun _ _ ⟨a,b,_⟩ => .ret (vB fun _=>decide (a ()=b ()),fun _=>0)⟩
noncomputable def sIsP:Sx.Spec:=⟨false,true,[.list .pcl,.list .pcl],[],fun _ _ ⟨a,b,_⟩ => .ret (vB fun _=>decide (a ()=b ()),fun _=>0)⟩
noncomputable def sIsR:Sx.Spec:=⟨false,true,[.list .rcd,.list .rcd],[],fun _ _ ⟨a,b,_⟩ => .ret (vB fun _=>decide (a ()=b ()),fun _=>0)⟩
noncomputable def sIsC:Sx.Spec:=⟨false,true,[.row .cll,.row .cll],[],fun _ _ ⟨a,b,_⟩ => .ret (vB fun _=>decide (a ()=b ()),fun _=>0)⟩
theorem d0I:b8 Tryz.prog 210 sIsW:=j4 e9 (ss := []) trivial rfl rfl<|by
 intro(bs:Th (List Int)) (p:Th Int) ⟨(a:Th (List Wlk)),(b:Th (List Wlk)),u⟩ K _ _ ho h
 obtain⟨a,rfl⟩:=b6 a;obtain⟨b,rfl⟩:=b6 b
 have hl:=okL (ho.1 _ (.head _))
 refine⟨annL [(210,4,⟨Nat,[],fun σ k => σ.t 5 (vI fun _=>(k:Int)),fun _ k _=>k≤a.length∧a.length=b.length∧same .wlk a b k,fun _ k _=>a.length-k⟩)],noAnn,20,?_⟩
 cbv
 repeat' first|((with_reducible refine fun(k:Nat) => ?_);cbv)|((with_reducible intro _);cbv)|(with_reducible refine And.intro ?_ ?_)
 all_goals try((first|(with_reducible refine LoopIn.mk ((0:Nat)) ?_ ?_)|(with_reducible refine LoopBack.mk ((k+1:Nat)) ?_ ?_ ?_)) )
 all_goals try((with_reducible show m0 _ _);cbv;(try simp only[and_true,true_and]))
 all_goals try(repeat' with_reducible refine And.intro ?_ ?_)
 all_goals first|(refine retK h ?_;clear h;simp only[fin0])|(with_reducible refine Ob.mk ?_;clear h)|(clear h)
 all_goals(try simp only[eta0,RT.bytes]at *)
 all_goals grind[j3,J7,J8,N6,a5a]
theorem a1K:b8 Tryz.prog 18 sIsI:=j4 e9 (ss := []) trivial rfl rfl<|by
 intro(bs:Th (List Int)) (p:Th Int) ⟨(a:Th (List Int)),(b:Th (List Int)),u⟩ K _ _ ho h
 obtain⟨a,rfl⟩:=b6 a;obtain⟨b,rfl⟩:=b6 b
 have hl:=okL (ho.1 _ (.head _))
 refine⟨annL [(18,4,⟨Nat,[],fun σ k => σ.t 5 (vI fun _=>(k:Int)),fun _ k _=>k≤a.length∧a.length=b.length∧same .int a b k,fun _ k _=>a.length-k⟩)],noAnn,20,?_⟩
 cbv
 repeat' first|((with_reducible refine fun(k:Nat) => ?_);cbv)|((with_reducible intro _);cbv)|(with_reducible refine And.intro ?_ ?_)
 all_goals try((first|(with_reducible refine LoopIn.mk ((0:Nat)) ?_ ?_)|(with_reducible refine LoopBack.mk ((k+1:Nat)) ?_ ?_ ?_)) )
 all_goals try((with_reducible show m0 _ _);cbv;(try simp only[and_true,true_and]))
 all_goals try(repeat' with_reducible refine And.intro ?_ ?_)
 all_goals first|(refine retK h ?_;clear h;simp only[fin0])|(with_reducible refine Ob.mk ?_;clear h)|(clear h)
 all_goals(try simp only[eta0,RT.bytes]at *)
 all_goals grind[j3,J7,J8,N6]
theorem b9p:b8 Tryz.prog 211 sIsP:=j4 e9 (ss := []) trivial rfl rfl<|by
 intro(bs:Th (List Int)) (p:Th Int) ⟨(a:Th (List Pcl)),(b:Th (List Pcl)),u⟩ K _ _ ho h
 obtain⟨a,rfl⟩:=b6 a;obtain⟨b,rfl⟩:=b6 b
 have hl:=okL (ho.1 _ (.head _))
 refine⟨annL [(211,4,⟨Nat,[],fun σ k => σ.t 5 (vI fun _=>(k:Int)),fun _ k _=>k≤a.length∧a.length=b.length∧same .pcl a b k,fun _ k _=>a.length-k⟩)],noAnn,20,?_⟩
 cbv
 repeat' first|((with_reducible refine fun(k:Nat) => ?_);cbv)|((with_reducible intro _);cbv)|(with_reducible refine And.intro ?_ ?_)
 all_goals try((first|(with_reducible refine LoopIn.mk ((0:Nat)) ?_ ?_)|(with_reducible refine LoopBack.mk ((k+1:Nat)) ?_ ?_ ?_)) )
 all_goals try((with_reducible show m0 _ _);cbv;(try simp only[and_true,true_and]))
 all_goals try(repeat' with_reducible refine And.intro ?_ ?_)
 all_goals first|(refine retK h ?_;clear h;simp only[fin0])|(with_reducible refine Ob.mk ?_;clear h)|(clear h)
 all_goals(try simp only[eta0,RT.bytes]at *)
 all_goals grind[j3,J7,J8,N6,a5a,b6f]
theorem b9q:b8 Tryz.prog 158 sIsC:=j4 e9 (ss := [(210,sIsW),(18,sIsI),(211,sIsP)]) ⟨d0I,a1K,b9p,trivial⟩ rfl rfl<|by
 intro(bs:Th (List Int)) (p:Th Int) ⟨(a:Th Cll),(b:Th Cll),u⟩ K _ _ ho h
 obtain⟨a,rfl⟩:=b6 a;obtain⟨b,rfl⟩:=b6 b
 have hl:=(a9J ho.1).o
 refine⟨annL [(158,4,⟨Nat,[],fun σ k => σ.t 5 (vI fun _=>(k:Int)),fun _ k _=>k≤a.outs.length∧a.outs.length=b.outs.length∧same .pcls a.outs b.outs k∧a.cell=b.cell∧a.ground=b.ground∧a.wlks=b.wlks∧a.next=b.next∧a.ins=b.ins,fun _ k _=>a.outs.length-k⟩)],noAnn,20,?_⟩
 cbv
 repeat' first|((with_reducible refine fun(k:Nat) => ?_);cbv)|((with_reducible intro _);cbv)|(with_reducible refine And.intro ?_ ?_)
 all_goals try((first|(with_reducible refine LoopIn.mk ((0:Nat)) ?_ ?_)|(with_reducible refine LoopBack.mk ((k+1:Nat)) ?_ ?_ ?_)) )
 all_goals try((with_reducible show m0 _ _);cbv;(try simp only[and_true,true_and]))
 all_goals try(repeat' with_reducible refine And.intro ?_ ?_)
 all_goals first|(refine retK h ?_;clear h;simp only[fin0])|(with_reducible refine Ob.mk ?_;clear h)|(clear h)
 all_goals(try simp only[eta0,RT.bytes]at *)
 all_goals grind[j3,J7,J8,N6,d5d]
end Go.Proofs.YtihaeoicjglieaaGreat
namespace Go.Mo
open Go.Sx
theorem d3y {a b:Sto}:a=b↔a.age=b.age∧a.base=b.base∧a.recs=b.recs:=by
 cases a;cases b;simp
theorem d4H {a b:Hld}:a=b↔a.age=b.age∧a.count=b.count∧a.state=b.state:=by
 cases a;cases b;simp
end Go.Mo
namespace Go.Proofs.YtihaeoicjglieaaGreat
open Go.Sx Go.Proofs Go.Mo
noncomputable def sIsS:Sx.Spec:=⟨false,true,[.row .sto,.row .sto],[],fun _ _ ⟨a,b,_⟩ => .ret (vB fun _=>decide (a ()=b ()),fun _=>0)⟩
noncomputable def sIsH:Sx.Spec:=⟨false,true,[.row .hld,.row .hld],[],fun _ _ ⟨a,b,_⟩ => .ret (vB fun _=>decide (a ()=b ()),fun _=>0)⟩
theorem b9o:b8 Tryz.prog 42 sIsR:=j4 e9 (ss := []) trivial rfl rfl<|by
 intro(bs:Th (List Int)) (p:Th Int) ⟨(a:Th (List Sx.Rec)),(b:Th (List Sx.Rec)),u⟩ K _ _ ho h
 obtain⟨a,rfl⟩:=b6 a;obtain⟨b,rfl⟩:=b6 b
 have hl:=okL (ho.1 _ (.head _))
 refine⟨annL [(42,4,⟨Nat,[],fun σ k => σ.t 5 (vI fun _=>(k:Int)),fun _ k _=>k≤a.length∧a.length=b.length∧same .rcd a b k,fun _ k _=>a.length-k⟩)],noAnn,20,?_⟩
 cbv
 repeat' first|((with_reducible refine fun(k:Nat) => ?_);cbv)|((with_reducible intro _);cbv)|(with_reducible refine And.intro ?_ ?_)
 all_goals try((first|(with_reducible refine LoopIn.mk ((0:Nat)) ?_ ?_)|(with_reducible refine LoopBack.mk ((k+1:Nat)) ?_ ?_ ?_)) )
 all_goals try((with_reducible show m0 _ _);cbv;(try simp only[and_true,true_and]))
 all_goals try(repeat' with_reducible refine And.intro ?_ ?_)
 all_goals first|(refine retK h ?_;clear h;simp only[fin0])|(with_reducible refine Ob.mk ?_;clear h)|(clear h)
 all_goals(try simp only[eta0,RT.bytes]at *)
 all_goals grind[j3,J7,J8,N6,a5a,b6f,a7r,d3J]
theorem c7i:b8 Tryz.prog 92 sIsS:=j4 e9 (ss := [(158,sIsC),(42,sIsR)]) ⟨b9q,b9o,trivial⟩ rfl rfl<|by
 intro(bs:Th (List Int)) (p:Th Int) ⟨(a:Th Sto),(b:Th Sto),u⟩ K _ _ ho h
 obtain⟨a,rfl⟩:=b6 a;obtain⟨b,rfl⟩:=b6 b
 refine⟨noAnn,noAnn,20,?_⟩
 cbv
 repeat' first|((with_reducible intro _);cbv)|(with_reducible refine And.intro ?_ ?_)
 all_goals first|(refine retK h ?_;clear h;simp only[fin0])|(with_reducible refine Ob.mk ?_;clear h)|(clear h)
 all_goals(try simp only[eta0,RT.bytes]at *)
 all_goals grind[d3y]
theorem c4D:b8 Tryz.prog 73 a1D:=j4 e9 (ss := [(55,a4m),(101,a6Z),(57,sIn),(128,D6),(48,G5),(129,a3y)]) ⟨a9G,a8Q,okIn,a0n,U1,b9k,trivial⟩ rfl rfl<|by
 intro(bs:Th (List Int)) (p:Th Int) ⟨(m:Th PMap),(c:Th Cll),u⟩ K _ _ ho h
 obtain⟨m,rfl⟩:=b6 m;obtain⟨c,rfl⟩:=b6 c
 obtain⟨hw,hou,hoi,hn,hi,_,_⟩:=a9J ho.2.1
 have hi:=o8 (m:=m)
 refine⟨annL [(73,4,⟨Nat,[],fun σ k=>(σ.t 50 (vI fun _=>(k:Int))),fun _ k _=>k≤c.wlks.length∧a0H m c=true∧m8 k (a3Y m c)=true,fun _ k _=>c.wlks.length-k⟩),
  (73,10,⟨Nat×Unit,[],fun σ q=>(σ.t 62 (vI fun _=>(q.1:Int))),fun _ q _=>q.1≤2∧a0H m c=true∧m8 c.wlks.length (a3Y m c)=true∧m8 q.1 (N4 m c)=true,fun _ q _=>2-q.1⟩),
  (73,16,⟨Nat,[],fun σ k => σ.t 118 (vI fun _=>(k:Int)),fun σ k _=>c3x m c (σ.nat 62) k,fun σ k _=>(nth .pcls c.outs (σ.nat 62)).length-k⟩)],noAnn,20,?_⟩
 cbv
 repeat' first|((with_reducible refine fun(k:Nat) => ?_);cbv)|((with_reducible refine fun(q:Nat×Unit) => ?_);obtain⟨s,_⟩:=q;cbv)|((with_reducible intro _);cbv)|(with_reducible refine And.intro ?_ ?_)
 all_goals try((first|(with_reducible refine LoopIn.mk ((0:Nat)) ?_ ?_)|(with_reducible refine LoopIn.mk (((0,()):Nat×Unit)) ?_ ?_)|(with_reducible refine LoopBack.mk ((k+1:Nat)) ?_ ?_ ?_)|(with_reducible refine LoopBack.mk (((s+1,()):Nat×Unit)) ?_ ?_ ?_)) )
 all_goals try((with_reducible show m0 _ _);cbv;(try simp only[and_true,true_and]))
 all_goals(try simp only[St.nat,St.int,Tr.get,Nat.reduceMod,Nat.reduceDiv,Nat.one_ne_zero,if_false,if_true,↓reduceIte]at *)
 all_goals try(repeat' with_reducible refine And.intro ?_ ?_)
 all_goals first|(refine retK h ?_;clear h;simp only[fin0])|(with_reducible refine Ob.mk ?_;clear h)|(clear h)
 all_goals(try simp only[eta0,RT.bytes]at *)
 all_goals grind[c3x,inR,n7,n4,a3Y,Y3,a2i,N4,a0H,s6,b2J,b2I,a9X,j3,e8]
end Go.Proofs.YtihaeoicjglieaaGreat
namespace Go.Proofs.YtihaeoicjglieaaGreat
open Go.Sx Go.Proofs Go.RowKit
theorem d1w:(Tryz.prog.info? 58).map (fun i=>(i.zero,i.size,i.bytes))=some (some (.agg #[.int .i64 0,.int .i64 0,.int .i64 0,.int .i64 0,.int .i64 0]),5,40):=by kernel_rfl
theorem b6Q : ∃inf z,Tryz.prog.info? 58=some inf∧inf.size=5∧inf.bytes=40∧inf.zero=some z∧z.cells.size=5:=by
 obtain⟨i0,h1,h2,h3,h4⟩:=info_parts d1w
 exact⟨i0,_,h1,h3,h4,h2,rfl⟩
theorem d1v (w:World) (b n c i vb voff vc T tV:Nat) (cs vcs:Array Value) (us:List Value) (hi:i<n) (hroom:n+1≤c) (hc:c≤maxLen) (hh:w.heap[b]? = some (.cells cs T (0,0))) (hs:cs.size=c * 5) (hu:us.length=5)
  (hvh:w.heap[vb]? = some (.cells vcs tV (0,0))) (hvb:vb≠b) (hvs : ∀j v,us[j]? = some v→w.cell? ⟨vb,voff+j,none⟩=some v) (h1 : ∀u∈us,one u) (h1c : ∀u∈cs.toList.take (n * 5),one u) :
  Calls Tryz.prog 268 #[.slice (some ⟨b,0,none⟩) n c,.int .i64 i,.slice (some ⟨vb,voff,none⟩) 1 vc] w fun e w' =>
   ∃v,e = .returned v∧InsE w w' 5 (.slice (some ⟨b,0,none⟩) n c) v n i 1 b c cs us:=by
 obtain⟨inf,z,hinf,hsz,hby,hz,hzc⟩:=b6Q
 have u25:=run_underlying Tryz.underlying63
 have z38 : ∀w,(sizeOf 58).run Tryz.prog w = .ok 5 w:=fun w=>by simp[sizeOf,typeInfo,hinf,hsz]
 have hc63:c≤9223372036854775807:=hc
 have hcb:n+1≤9223372036854775807:=by omega
 have hkB:cs.size≠0:=by rw[hs];omega
 have hov : ∀lb cb,(callFunc 284 #[.slice (some ⟨vb,voff,none⟩) 1 vc,.slice (some ⟨b,(i+1) * 5,none⟩) lb cb]).run Tryz.prog w = .ok (.value (.bool false)) w:=fun lb cb=>by
  rw[run_callFunc_extern Tryz.func284 (by kernel_rfl) (by kernel_rfl) (by kernel_rfl) (e:=Extern.SlicesOverlaps.overlaps #[63,63] #[4]) (by kernel_rfl),
   Lib.run_overlaps_apart w 63 4 58 Tryz.underlying63 5 z38 ⟨vb,voff,none⟩ ⟨b,(i+1) * 5,none⟩ 1 vc lb cb hvb tV T vcs.size cs.size (by simp[World.shape?,hvh]) (by simp[World.shape?,hh]) hkB (frozen_of_row _ _ _ _ _ hvh) (frozen_of_row _ _ _ _ _ hvh)]
  rfl
 have hw1:IntKind.i64.wrap ((n:Int)+1)=((n+1:Nat):Int):=by rw[IntKind.wrap_i64];omega
 have hw2:IntKind.i64.wrap ((i:Int)+1)=((i+1:Nat):Int):=by rw[IntKind.wrap_i64];omega
 have hne : ¬((i:Int)=(n:Int)):=by omega
 have mixed:=e9.mix
 have hb1:(0:Int)≤(i:Int)+1:=by omega
 have hin:i≤n:=by omega
 have hb2 : ¬(c=i+1):=by omega
 have hb3:(i:Int)≤(n:Int)+1:=by omega
 have hb4 : ¬(c=i):=by omega
 have htn:((i:Int)+1).toNat=i+1:=by omega
 go_enter Tryz.func268,Tryz.ntmps268
 go_wp2_with (simp only[hov])
 clear hov
 have htl:=X8 (i:=i) hs (show n≤c by omega)
 have hn5:(n+1) * 5≤c * 5:=Nat.mul_le_mul_right _ hroom
 have hsrc : ∀j v,((cs.toList.take (n * 5)).drop (i * 5))[j]? = some v→w.cell? ⟨b,i * 5+j,none⟩=some v:=fun j v hj=>by
  rw[List.getElem?_drop,List.getElem?_take]at hj
  rw[s9 hh]
  split at hj
  ·simpa using hj
  ·cases hj
 have hcp1 : ∀ty dc sc,(Builtin.copy_ #[63,63] ty #[.slice (some ⟨b,(i+1) * 5,none⟩) (n-i) dc,.slice (some ⟨b,i * 5,none⟩) (n+1-i) sc]).run Tryz.prog w.drew = .ok (goInt (n-i:Nat)) (wrote w.drew b ((i+1) * 5) cs ((cs.toList.take (n * 5)).drop (i * 5))):=fun ty dc sc =>
  C9 (k:=n-i) (us:=(cs.toList.take (n * 5)).drop (i * 5)) Tryz.underlying63 hinf (by simp only[Nat.min_def];split<;>omega) (by rw[hsz];exact htl) (fun j v hj=>by
   rw[A2]
   exact hsrc j v hj) hh (by rw[htl,hs];omega) (fun u hu=>h1c u (List.mem_of_mem_drop hu))
 go_region_law_o (refine step_copy_runI rfl _ _ 63 63 rfl _ _ (by simp[Act.eval,Act.put]) (by simp[Act.eval,Act.put]) (hcp1 _ _ _) ?_)
 have htl2:((cs.toList.take (n * 5)).drop (i * 5)).length=(n-i) * 5:=htl
 obtain⟨cs1,hcs1⟩ : ∃cs1,cs1=(putAt cs.toList ((i+1) * 5) ((cs.toList.take (n * 5)).drop (i * 5))).toArray:=⟨_,rfl⟩
 obtain⟨W1,hW1⟩ : ∃W1,W1=wrote w.drew b ((i+1) * 5) cs ((cs.toList.take (n * 5)).drop (i * 5)):=⟨_,rfl⟩
 have hh1:W1.heap[b]? = some (.cells cs1 T (0,0)):=by rw[hW1,hcs1];exact A4 hh
 have hv1:W1.heap[vb]? = some (.cells vcs tV (0,0)):=by rw[hW1,u9 hvb];exact hvh
 have hsz1:cs1.size=c * 5:=by rw[hcs1,List.size_toArray,s8 _ _ _ (by rw[htl2,Array.length_toList,hs];omega),Array.length_toList,hs]
 have hcp2 : ∀(W:World),W.heap=W1.heap → ∀ty dc,(Builtin.copy_ #[63,63] ty #[.slice (some ⟨b,i * 5,none⟩) (n+1-i) dc,.slice (some ⟨vb,voff,none⟩) 1 vc]).run Tryz.prog W = .ok (goInt (1:Nat)) (wrote W b (i * 5) cs1 us):=fun W hW ty dc =>
  C9 (k:=1) (us:=us) (T:=T) Tryz.underlying63 hinf (by simp only[Nat.min_def];split<;>omega) (by rw[hsz,hu]) (fun j v hj=>by
   rw[A2,s9 (cs:=vcs) (T:=tV) (by rw[hW];exact hv1)]
   have:=hvs j v hj
   rw[s9 hvh]at this
   exact this) (by rw[hW];exact hh1) (by rw[hu,hsz1];omega) h1
 rw[←hW1]
 go_wp2_with (at_builtin;refine wpList_copy_runI _ rfl _ _ 63 63 rfl _ _ rfl rfl (hcp2 _ rfl _ _) ?_)
 have hend:InsM w (wrote W1 b (i * 5) cs1 us) 5 (.slice (some ⟨b,0,none⟩) n c) (.slice (some ⟨b,0,none⟩) (n+1) c) n i 1 b c cs us b c (N3 cs 5 n i us).toArray T:=by
  refine InsM.room hh hs hroom hc hi hu ?_ (fun x hx => ?_) ?_ ?_ ?_ ?_
  ·rw[A4 hh1,N3,hcs1]
  ·rw[u9 hx,hW1,u9 hx];rfl
  ·rw[hW1];rfl
  ·rw[hW1];rfl
  ·rw[hW1];rfl
  ·rw[hW1];simp[wrote,World.setRow]
 subst hcs1
 subst hW1
 go_ret
 exact⟨.slice (some ⟨b,0,none⟩) (n+1) c,rfl,_,_,_,_,hend⟩
theorem d1x (w:World) (b n c i vb voff vc T tV:Nat) (cs vcs:Array Value) (us:List Value) (hi:i<n) (hnc:n≤c) (hroom:c<n+1) (hc:c≤maxLen) (hh:w.heap[b]? = some (.cells cs T (0,0))) (hs:cs.size=c * 5) (hu:us.length=5)
  (hvh:w.heap[vb]? = some (.cells vcs tV (0,0))) (hvs : ∀j v,us[j]? = some v→w.cell? ⟨vb,voff+j,none⟩=some v) (h1 : ∀u∈us,one u) (h1c : ∀u∈cs.toList.take (n * 5),one u) (hbig:(n+1) * 40≤140737488355328) :
  Calls Tryz.prog 268 #[.slice (some ⟨b,0,none⟩) n c,.int .i64 i,.slice (some ⟨vb,voff,none⟩) 1 vc] w fun e w' =>
   ∃v,e = .returned v∧InsE w w' 5 (.slice (some ⟨b,0,none⟩) n c) v n i 1 b c cs us:=by
 obtain⟨inf,z,hinf,hsz,hby,hz,hzc⟩:=b6Q
 have u25:=run_underlying Tryz.underlying63
 have z38 : ∀w,(sizeOf 58).run Tryz.prog w = .ok 5 w:=fun w=>by simp[sizeOf,typeInfo,hinf,hsz]
 have mixed:=e9.mix
 have hc63:c≤9223372036854775807:=hc
 have hsrc : ∀j v,((cs.toList.take (n * 5)).drop (i * 5))[j]? = some v→w.cell? ⟨b,i * 5+j,none⟩=some v:=fun j v hj=>by
  rw[List.getElem?_drop,List.getElem?_take]at hj
  rw[s9 hh]
  split at hj
  ·simpa using hj
  ·cases hj
 have hi5:(i+1) * 5≤c * 5:=Nat.mul_le_mul_right _ (by omega)
 have hold:(Builtin.firstCells inf.size i (.slice (some ⟨b,0,none⟩) i c)).run Tryz.prog w.drew = .ok (cs.toList.take (i * 5)).toArray w.drew:=by
  rw[hsz]
  exact run_firstCells_some w.drew 5 i ⟨b,0,none⟩ i c (cs.toList.take (i * 5)) (by rw[List.length_take,Array.length_toList,hs];omega) (fun j v hj=>by
   rw[A2,Nat.zero_add,show w.drew.cell? ⟨b,j,none⟩=w.cell? ⟨b,j,none⟩from rfl,s9 hh]
   rw[List.getElem?_take]at hj
   split at hj
   ·simpa using hj
   ·cases hj)
 have hik:i+(n+1-i)=n+1:=by omega
 have hkk:(n:Int)+1-(i:Int)=((n+1-i:Nat):Int):=by omega
 have hrz : ∀ty,(Builtin.append_ #[63,3] ty #[.slice (some ⟨b,0,none⟩) i c,.int .i64 ((n:Int)+1-(i:Int))]).run Tryz.prog w =
   .ok (.slice (some ⟨w.heap.size,0,none⟩) (n+1) (grownCap w (n+1) c 58)) (w.drew.alloc (.cells ((cs.toList.take (i * 5)).toArray++Builtin.zeroCells z.cells (n+1-i)++Builtin.zeroCells z.cells (grownCap w (n+1) c 58-(n+1))) 58)):=fun ty=>by
  have h:=Lib.run_append_grow_zeros w 63 3 ty 58 inf z .i64 .i64 Tryz.underlying63 Tryz.underlying3 hinf hz (some ⟨b,0,none⟩) i c (cs.toList.take (i * 5)) hold (n+1-i) (by omega) (by omega) (by omega) (by omega) (by rw[hby];omega) (by rw[hby,hik];exact growslice_fits hroom hbig)
  rw[hik]at h
  rw[hkk]
  exact h
 obtain⟨G,hG⟩ : ∃G,G=grownCap w (n+1) c 58:=⟨_,rfl⟩
 have hGn:n+1≤G:=by rw[hG];exact grownCap_ge w _ _ _
 have hGm:G≤maxLen:=by rw[hG];exact grownCap_le_maxLen w (n+1) c _ (by unfold maxLen;omega)
 have hG63:G≤9223372036854775807:=hGm
 obtain⟨ROW,hROW⟩ : ∃ROW:Array Value,ROW=(cs.toList.take (i * 5)).toArray++Builtin.zeroCells z.cells (n+1-i)++Builtin.zeroCells z.cells (G-(n+1)):=⟨_,rfl⟩
 rw[←hG]at hrz
 rw[←hROW]at hrz
 have hRl:ROW.toList.length=G * 5:=by
  rw[hROW,Array.length_toList]
  simp only[Array.size_append,List.size_toArray,size_zeroCells,hzc,List.length_take,Array.length_toList,hs]
  omega
 have hR0 : ∀o,o<i * 5→ROW.toList[o]? = cs[o]? := fun o ho=>by
  have hl:(cs.toList.take (i * 5)).length=i * 5:=by rw[List.length_take,Array.length_toList,hs];omega
  rw[hROW]
  simp only[Array.toList_append]
  rw[List.append_assoc,List.getElem?_append_left (by rw[List.toList_toArray,hl];exact ho),List.toList_toArray,List.getElem?_take,if_pos ho]
  simp
 have htl:=X8 (i:=i) hs hnc
 have hbw:b<w.heap.size:=by
  rcases Nat.lt_or_ge b w.heap.size with h|h
  ·exact h
  ·rw[Array.getElem?_eq_none h]at hh;cases hh
 have hvw:vb<w.heap.size:=by
  rcases Nat.lt_or_ge vb w.heap.size with h|h
  ·exact h
  ·rw[Array.getElem?_eq_none h]at hvh;cases hvh
 obtain⟨W1,hW1⟩ : ∃W1,W1=w.drew.alloc (.cells ROW 58):=⟨_,rfl⟩
 rw[←hW1]at hrz
 have hN1:W1.heap[w.heap.size]? = some (.cells ROW 58 (0,0)):=by rw[hW1];exact a6F w _
 have hO1 : ∀x,x<w.heap.size→W1.heap[x]? = w.heap[x]? := fun x hx=>by rw[hW1];exact a6E w _ x hx
 obtain⟨R2,hR2⟩ : ∃R2,R2=(putAt ROW.toList (i * 5) us).toArray:=⟨_,rfl⟩
 have hG5:(n+1) * 5≤G * 5:=Nat.mul_le_mul_right _ hGn
 have hR2l:R2.size=G * 5:=by rw[hR2,List.size_toArray,s8 _ _ _ (by rw[hu,hRl];omega),hRl]
 have hcpA : ∀(W:World),W.heap=W1.heap → ∀ty dc,(Builtin.copy_ #[63,63] ty #[.slice (some ⟨w.heap.size,i * 5,none⟩) (n+1-i) dc,.slice (some ⟨vb,voff,none⟩) 1 vc]).run Tryz.prog W = .ok (goInt (1:Nat)) (wrote W w.heap.size (i * 5) ROW us):=fun W hW ty dc =>
  C9 (k:=1) (us:=us) (T:=58) Tryz.underlying63 hinf (by simp only[Nat.min_def];split<;>omega) (by rw[hsz,hu]) (fun j v hj=>by
   rw[A2,s9 (cs:=vcs) (T:=tV) (by rw[hW,hO1 _ hvw];exact hvh)]
   have:=hvs j v hj
   rw[s9 hvh]at this
   exact this) (by rw[hW];exact hN1) (by rw[hu,←Array.length_toList,hRl];omega) h1
 obtain⟨W2,hW2⟩ : ∃W2,W2=wrote W1 w.heap.size (i * 5) ROW us:=⟨_,rfl⟩
 have hcpB : ∀(W:World),W.heap=W2.heap → ∀ty dc sc,(Builtin.copy_ #[63,63] ty #[.slice (some ⟨w.heap.size,(i+1) * 5,none⟩) (n-i) dc,.slice (some ⟨b,i * 5,none⟩) (n-i) sc]).run Tryz.prog W = .ok (goInt (n-i:Nat)) (wrote W w.heap.size ((i+1) * 5) R2 ((cs.toList.take (n * 5)).drop (i * 5))):=fun W hW ty dc sc =>
  C9 (k:=n-i) (us:=(cs.toList.take (n * 5)).drop (i * 5)) (T:=58) Tryz.underlying63 hinf (by simp only[Nat.min_def];split<;>omega) (by rw[hsz,htl]) (fun j v hj=>by
   rw[A2,s9 (cs:=cs) (T:=T) (by rw[hW,hW2,u9 (by omega),hO1 _ hbw];exact hh)]
   have:=hsrc j v hj
   rw[s9 hh]at this
   exact this) (by rw[hW,hW2,hR2];exact A4 hN1) (by rw[htl,hR2l];omega) (fun u hu=>h1c u (List.mem_of_mem_drop hu))
 have hGi : ¬(G=i):=by omega
 have hGim : ¬(G=i+1):=by omega
 have hci : ¬(c=i):=by omega
 have hw1:IntKind.i64.wrap ((n:Int)+1)=((n+1:Nat):Int):=by rw[IntKind.wrap_i64];omega
 have hw2:IntKind.i64.wrap ((i:Int)+1)=((i+1:Nat):Int):=by rw[IntKind.wrap_i64];omega
 have hb1:(0:Int)≤(i:Int)+1:=by omega
 have hin:i≤n:=by omega
 have htn:((i:Int)+1).toNat=i+1:=by omega
 have hb3:(i:Int)≤(n:Int):=by omega
 have hne : ¬((i:Int)=(n:Int)):=by omega
 have hend : ∀W:World,W.heap=(wrote W2 w.heap.size ((i+1) * 5) R2 ((cs.toList.take (n * 5)).drop (i * 5))).heap→W.os=w.os→W.tape=w.tape→W.output=w.output→InsE w W 5 (.slice (some ⟨b,0,none⟩) n c) (.slice (some ⟨w.heap.size,0,none⟩) (n+1) G) n i 1 b c cs us:=fun W hW g1 g2 g3=>by
  refine⟨_,_,_,58,InsM.grow (row:=ROW.toList) hRl hs hnc hGn hGm hi hu hR0 ?_ rfl ?_ (fun x hx => ?_) g1 g2 g3⟩
  ·rw[hW,A4 (T:=58) (by rw[hW2,hR2];exact A4 hN1),a0s,hR2]
  ·rw[hW,hW2,hW1];simp[wrote,World.setRow,World.alloc]
  ·rw[hW,u9 (by omega),hW2,u9 (by omega)];exact hO1 x hx
 clear hkk hik hold hROW hG hRl hR0
 go_enter Tryz.func268,Tryz.ntmps268
 go_wp2_with (first
  |(at_builtin;refine Lib.wpList_append_run _ rfl _ _ _ _ rfl _ _ rfl rfl _ _ (hrz _) ?_)
  |(at_builtin;refine wpList_copy_runI _ rfl _ _ 63 63 rfl _ _ rfl rfl (hcpA _ rfl _ _) ?_))
 go_region_law_o (refine step_copy_runI rfl _ _ 63 63 rfl (.slice (some ⟨w.heap.size,(i+1) * 5,none⟩) (n-i) (G-(i+1))) (.slice (some ⟨b,i * 5,none⟩) (n-i) (c-i)) (by simp[Act.eval,Act.put]) (by simp[Act.eval,Act.put]) (hcpB _ (by rw[hW2,hW1];rfl) _ _ _) ?_)
 go_wp2
 go_ret
 exact⟨.slice (some ⟨w.heap.size,0,none⟩) (n+1) G,rfl,hend _ (by rw[hW2,hW1,hR2];rfl) rfl rfl rfl⟩
theorem d4C (w:World) (b n c vb voff vc T:Nat) (cs:Array Value) (us:List Value) (hn:n≤c) (hc:c≤maxLen) (hh:w.heap[b]? = some (.cells cs T (0,0))) (hs:cs.size=c * 5) (hu:us.length=5)
  (hvs : ∀j v,us[j]? = some v→w.cell? ⟨vb,voff+j,none⟩=some v) (h1 : ∀u∈us,one u) (hb:(n+1) * 40≤140737488355328) :
  Calls Tryz.prog 268 #[.slice (some ⟨b,0,none⟩) n c,.int .i64 n,.slice (some ⟨vb,voff,none⟩) 1 vc] w fun e w' =>
   ∃v,e = .returned v∧InsE w w' 5 (.slice (some ⟨b,0,none⟩) n c) v n n 1 b c cs us:=by
 obtain⟨inf,z,hinf,hsz,hby,hz,hzc⟩:=b6Q
 have u25:=run_underlying Tryz.underlying63
 have z38 : ∀w,(sizeOf 58).run Tryz.prog w = .ok 5 w:=fun w=>by simp[sizeOf,typeInfo,hinf,hsz]
 have hc63:c≤9223372036854775807:=hc
 have mixed:=e9.mix
 rcases K4 (P:=Tryz.prog) (ty:=63) (w:=w) Tryz.underlying63 hinf hz hsz hby hzc (Old.row n b c cs T hh hn hc hs) (m:=1) (us:=us) ⟨by rw[hu],.inr (.inr ⟨vb,voff,vc,rfl,hvs⟩)⟩ h1 (by omega) (by simpa using hb)with ⟨_,h,_⟩|⟨v,w',b',cap',cs',T',hr,A⟩
 ·cases h
 ·have hend:InsE w w' 5 _ v _ _ 1 b _ cs us:=⟨_,_,_,_,A.ins⟩
  by_cases hcn:n=c
  ·subst hcn
   go_enter Tryz.func268,Tryz.ntmps268
   go_wp2_with (at_builtin;refine Lib.wpList_append_run _ rfl _ _ _ _ rfl _ _ rfl rfl _ _ hr ?_)
   go_ret
   exact⟨v,rfl,hend⟩
  ·have hcn2 : ¬(c=n):=fun h=>hcn h.symm
   go_enter Tryz.func268,Tryz.ntmps268
   go_wp2_with (at_builtin;refine Lib.wpList_append_run _ rfl _ _ _ _ rfl _ _ rfl rfl _ _ hr ?_)
   go_ret
   exact⟨v,rfl,hend⟩
theorem d4B (w:World) (b vb voff vc T:Nat) (cs:Array Value) (us:List Value) (hcs:cs = #[]) (hu:us.length=5)
  (hvs : ∀j v,us[j]? = some v→w.cell? ⟨vb,voff+j,none⟩=some v) (h1 : ∀u∈us,one u) :
  Calls Tryz.prog 268 #[.slice none 0 0,.int .i64 0,.slice (some ⟨vb,voff,none⟩) 1 vc] w fun e w' =>
   ∃v,e = .returned v∧InsE w w' 5 (.slice none 0 0) v 0 0 1 b 0 cs us:=by
 obtain⟨inf,z,hinf,hsz,hby,hz,hzc⟩:=b6Q
 have u25:=run_underlying Tryz.underlying63
 have z38 : ∀w,(sizeOf 58).run Tryz.prog w = .ok 5 w:=fun w=>by simp[sizeOf,typeInfo,hinf,hsz]
 have mixed:=e9.mix
 rcases K4 (P:=Tryz.prog) (ty:=63) (w:=w) Tryz.underlying63 hinf hz hsz hby hzc (Old.nil b 0 cs T hcs rfl) (m:=1) (us:=us) ⟨by rw[hu],.inr (.inr ⟨vb,voff,vc,rfl,hvs⟩)⟩ h1 (by omega) (by omega)with ⟨_,_,_,h⟩|⟨v,w',b',cap',cs',T',hr,A⟩
 ·cases h
 ·go_enter Tryz.func268,Tryz.ntmps268
  have hend:InsE w w' 5 _ v _ _ 1 b _ cs us:=⟨_,_,_,_,A.ins⟩
  go_wp2_with (at_builtin;refine Lib.wpList_append_run _ rfl _ _ _ _ rfl _ _ rfl rfl _ _ hr ?_)
  all_goals go_ret
  all_goals first|exact⟨v,rfl,hend⟩|(have hcn:c=n:=by(first|assumption|(symm;assumption)|omega);subst hcn;exact⟨v,rfl,hend⟩)
theorem d7o:c0W Tryz.prog 268 .wlk:=by
 intro w s n b cap cs T i vb vcap vT vcs us hO hi hvb hvh hu hvs h1 h1c hL
 have hs5:RT.size .wlk=5:=rfl
 have hb5:RT.bytes .wlk=40:=rfl
 rw[hs5]at *
 rw[hb5]at hL
 cases hO with
 |nil _ _ _ _ hcs hcap =>
  have:i=0:=by omega
  subst this
  subst hcap
  exact d4B w b vb 0 vcap T cs us hcs hu hvs h1
 |row _ _ _ _ _ hh hnc hcm hcs =>
  rcases Nat.lt_or_ge i n with hlt|hge
  ·rcases Nat.lt_or_ge cap (n+1)with hr|hr
   ·exact d1x w b n cap i vb 0 vcap T vT cs vcs us hlt hnc hr hcm hh hcs hu hvh hvs h1 h1c hL
   ·exact d1v w b n cap i vb 0 vcap T vT cs vcs us hlt hr hcm hh hcs hu hvh (hvb ⟨_,rfl⟩) hvs h1 h1c
  ·have:i=n:=by omega
   subst this
   exact d4C w b i cap vb 0 vcap T cs us hnc hcm hh hcs hu hvs h1 hL
theorem d0K:b8 Tryz.prog 268 (.raw (insM .wlk)) :=
 c2n ⟨_,_,Tryz.func268,by kernel_rfl,rfl⟩ d7o
end Go.Proofs.YtihaeoicjglieaaGreat
