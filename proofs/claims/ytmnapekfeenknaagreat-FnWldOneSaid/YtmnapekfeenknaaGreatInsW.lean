/-
  Contracts: a2X, walkers.
-/
import Derived.Test.YtmnapekfeenknaaGreatTok
import Derived.Test.YtmnapekfeenknaaGreatM1
import Derived.Test.YtmnapekfeenknaaGreatM2
import Derived.Test.YtmnapekfeenknaaGreatS5
set_option linter.unusedVariables false
set_option linter.unusedSimpArgs false
set_option maxRecDepth 100000
set_option maxHeartbeats 8000000
namespace Go.Proofs.YtmnapekfeenknaaGreat
open Go.Sx Go.Proofs Go.Mo
noncomputable def sIn:Sx.Spec:=⟨false,true,[.int .i64,.int .i64,.int .i64],[],fun _ _ ⟨n,a,b,_⟩ => .ret (vB fun _=>inR (n ()) (a ()) (b ()),fun _=>0)⟩
noncomputable def A5:Sx.Spec:=⟨false,true,[.map],[],fun _ _ ⟨m,_⟩ => .ret (vB fun _=>o9 (m ()),fun _=>0)⟩
noncomputable def B6:Sx.Spec:=⟨false,true,[.map,.int .i64],[],fun _ _ ⟨m,a,_⟩ => .ret (vI fun _=>e8 (m ()) (a ()),fun _=>0)⟩
noncomputable def E6:Sx.Spec:=⟨false,true,[.map,.int .i64,.int .i64],[],fun _ _ ⟨m,a,s,_⟩ => .ret (vI fun _=>b7 (m ()) (a ()) (s ()),fun _=>0)⟩
noncomputable def O5:Sx.Spec:=⟨false,true,[.map,.int .i64,.int .i64],[],fun _ _ ⟨m,a,s,_⟩ => .ret (vB fun _=>B4 (m ()) (a ()) (s ()),fun _=>0)⟩
noncomputable def a3v:Sx.Spec:=⟨false,true,[.map,.int .i64],[],fun _ _ ⟨m,a,_⟩ => .asrt (fun _ => -9223372036854775808<(m ()).cells) (.ret (vB fun _=>decide (0≤a ()∧a ()<(m ()).cells),fun _=>0))⟩
noncomputable def a7M:Sx.Spec:=⟨false,true,[.int .i64],[],fun _ _ ⟨a,_⟩ => .ret (vB fun _=>decide (a ()=0∨a ()=1),fun _=>0)⟩
noncomputable def a2y:Sx.Spec:=⟨false,true,[.int .i64],[],fun _ _ ⟨a,_⟩ => .asrt (fun _=>a ()=0∨a ()=1) (.ret (vI fun _=>2 * a ()-1,fun _=>0))⟩
noncomputable def a3u:Sx.Spec:=⟨false,true,[.int .i64],[],fun _ _ ⟨a,_⟩ => .ret (vB fun _=>decide (1≤a ()∧a ()≤9),fun _=>0)⟩
noncomputable def a4b:Sx.Spec:=⟨false,true,[.map,.row .wlk],[],fun _ _ ⟨m,w,_⟩ => .ret (vB fun _=>S3 (m ()) (w ()),fun _=>0)⟩
noncomputable def c4J:Sx.Spec:=⟨false,true,[.row .wlk],[],fun _ _ ⟨w,_⟩ => .ret (vB fun _=>a9e (w ()),fun _=>0)⟩
noncomputable def Z3:Sx.Spec:=⟨false,true,[.map,.list .wlk],[],fun _ _ ⟨m,l,_⟩ => .ret (vB fun _=>x7 (m ()) (l ())&&o9 (m ()),fun _=>0)⟩
noncomputable def Z2:Sx.Spec:=⟨false,true,[.map,.list .wlk],[],fun _ _ ⟨m,l,_⟩ => .ret (vB fun _=>x7 (m ()) (l ()),fun _=>0)⟩
theorem okIn:b9 Tryz.prog 50 sIn:=j5 j3 (ss := []) trivial rfl rfl<|by
 intro(bs:Th (List Int)) (p:Th Int) ⟨(n:Th Int),(a:Th Int),(b:Th Int),u⟩ K _ _ _ h
 obtain⟨n,rfl⟩:=b6 n;obtain⟨a,rfl⟩:=b6 a;obtain⟨b,rfl⟩:=b6 b
 refine⟨noAnn,noAnn,20,?_⟩
 cbv
 repeat' first|((with_reducible intro _);cbv)|(with_reducible refine And.intro ?_ ?_)
 all_goals first|(refine retK h ?_;clear h;simp only[fin0])|(with_reducible refine Ob.mk ?_;clear h)|(clear h)
 all_goals(try simp only[eta0,RT.bytes]at *)
 all_goals grind[inR]
theorem J5:b9 Tryz.prog 60 sIn:=j5 j3 (ss := []) trivial rfl rfl<|by
 intro(bs:Th (List Int)) (p:Th Int) ⟨(n:Th Int),(a:Th Int),(b:Th Int),u⟩ K _ _ _ h
 obtain⟨n,rfl⟩:=b6 n;obtain⟨a,rfl⟩:=b6 a;obtain⟨b,rfl⟩:=b6 b
 refine⟨noAnn,noAnn,20,?_⟩
 cbv
 repeat' first|((with_reducible intro _);cbv)|(with_reducible refine And.intro ?_ ?_)
 all_goals first|(refine retK h ?_;clear h;simp only[fin0])|(with_reducible refine Ob.mk ?_;clear h)|(clear h)
 all_goals(try simp only[eta0,RT.bytes]at *)
 all_goals grind[inR]
theorem K4:b9 Tryz.prog 66 A5:=j5 j3 (ss := [(50,sIn)]) ⟨okIn,trivial⟩ rfl rfl<|by
 intro(bs:Th (List Int)) (p:Th Int) ⟨(m:Th PMap),u⟩ K _ _ _ h
 obtain⟨m,rfl⟩:=b6 m
 refine⟨noAnn,noAnn,20,?_⟩
 cbv
 repeat' first|((with_reducible intro _);cbv)|(with_reducible refine And.intro ?_ ?_)
 all_goals first|(refine retK h ?_;clear h;simp only[fin0])|(with_reducible refine Ob.mk ?_;clear h)|(clear h)
 all_goals(try simp only[eta0,RT.bytes]at *)
 all_goals grind[inR,o9]
theorem F7:b9 Tryz.prog 14 A5:=j5 j3 (ss := [(60,sIn)]) ⟨J5,trivial⟩ rfl rfl<|by
 intro(bs:Th (List Int)) (p:Th Int) ⟨(m:Th PMap),u⟩ K _ _ _ h
 obtain⟨m,rfl⟩:=b6 m
 refine⟨noAnn,noAnn,20,?_⟩
 cbv
 repeat' first|((with_reducible intro _);cbv)|(with_reducible refine And.intro ?_ ?_)
 all_goals first|(refine retK h ?_;clear h;simp only[fin0])|(with_reducible refine Ob.mk ?_;clear h)|(clear h)
 all_goals(try simp only[eta0,RT.bytes]at *)
 all_goals grind[inR,o9]
theorem M7:b9 Tryz.prog 36 B6:=j5 j3 (ss := [(50,sIn),(66,A5)]) ⟨okIn,K4,trivial⟩ rfl rfl<|by
 intro(bs:Th (List Int)) (p:Th Int) ⟨(m:Th PMap),(a:Th Int),u⟩ K _ _ _ h
 obtain⟨m,rfl⟩:=b6 m;obtain⟨a,rfl⟩:=b6 a
 have hm:=a4g (m:=m)
 have hi:=n6 (m:=m)
 refine⟨noAnn,noAnn,20,?_⟩
 cbv
 repeat' first|((with_reducible intro _);cbv)|(with_reducible refine And.intro ?_ ?_)
 all_goals first|(refine retK h ?_;clear h;simp only[fin0])|(with_reducible refine Ob.mk ?_;clear h)|(clear h)
 all_goals(try simp only[eta0,RT.bytes]at *)
 all_goals grind[e8,inR,e9,d1g]
theorem N7:b9 Tryz.prog 117 B6:=j5 j3 (ss := [(60,sIn),(14,A5)]) ⟨J5,F7,trivial⟩ rfl rfl<|by
 intro(bs:Th (List Int)) (p:Th Int) ⟨(m:Th PMap),(a:Th Int),u⟩ K _ _ _ h
 obtain⟨m,rfl⟩:=b6 m;obtain⟨a,rfl⟩:=b6 a
 have hm:=a4g (m:=m)
 have hi:=n6 (m:=m)
 refine⟨noAnn,noAnn,20,?_⟩
 cbv
 repeat' first|((with_reducible intro _);cbv)|(with_reducible refine And.intro ?_ ?_)
 all_goals first|(refine retK h ?_;clear h;simp only[fin0])|(with_reducible refine Ob.mk ?_;clear h)|(clear h)
 all_goals(try simp only[eta0,RT.bytes]at *)
 all_goals grind[e8,inR,e9,d1g]
theorem a3F:b9 Tryz.prog 88 a3v:=j5 j3 (ss := [(50,sIn)]) ⟨okIn,trivial⟩ rfl rfl<|by
 intro(bs:Th (List Int)) (p:Th Int) ⟨(m:Th PMap),(a:Th Int),u⟩ K _ _ ho h
 obtain⟨m,rfl⟩:=b6 m;obtain⟨a,rfl⟩:=b6 a
 obtain⟨hp,h⟩:=h
 have hp:=hp.out
 have ho:=okI (ho.1 _ (.head _))
 refine⟨noAnn,noAnn,20,?_⟩
 cbv
 repeat' first|((with_reducible intro _);cbv)|(with_reducible refine And.intro ?_ ?_)
 all_goals first|(refine retK h ?_;clear h;simp only[fin0])|(with_reducible refine Ob.mk ?_;clear h)|(clear h)
 all_goals(try simp only[eta0,RT.bytes]at *)
 all_goals grind[inR,e9]
theorem a8s:b9 Tryz.prog 89 a7M:=j5 j3 (ss := []) trivial rfl rfl<|by
 intro(bs:Th (List Int)) (p:Th Int) ⟨(a:Th Int),u⟩ K _ _ _ h
 obtain⟨a,rfl⟩:=b6 a
 refine⟨noAnn,noAnn,20,?_⟩
 cbv
 repeat' first|((with_reducible intro _);cbv)|(with_reducible refine And.intro ?_ ?_)
 all_goals first|(refine retK h ?_;clear h;simp only[fin0])|(with_reducible refine Ob.mk ?_;clear h)|(clear h)
 all_goals(try simp only[eta0,RT.bytes]at *)
 all_goals grind
theorem a2f:b9 Tryz.prog 121 a2y:=j5 j3 (ss := []) trivial rfl rfl<|by
 intro(bs:Th (List Int)) (p:Th Int) ⟨(a:Th Int),u⟩ K _ _ _ h
 obtain⟨a,rfl⟩:=b6 a
 obtain⟨hp,h⟩:=h
 have hp:=hp.out
 refine⟨noAnn,noAnn,20,?_⟩
 cbv
 repeat' first|((with_reducible intro _);cbv)|(with_reducible refine And.intro ?_ ?_)
 all_goals first|(refine retK h ?_;clear h;simp only[fin0])|(with_reducible refine Ob.mk ?_;clear h)|(clear h)
 all_goals(try simp only[eta0,RT.bytes]at *)
 all_goals grind[e9]
theorem a4p:b9 Tryz.prog 81 a3u:=j5 j3 (ss := [(50,sIn)]) ⟨okIn,trivial⟩ rfl rfl<|by
 intro(bs:Th (List Int)) (p:Th Int) ⟨(a:Th Int),u⟩ K _ _ _ h
 obtain⟨a,rfl⟩:=b6 a
 refine⟨noAnn,noAnn,20,?_⟩
 cbv
 repeat' first|((with_reducible intro _);cbv)|(with_reducible refine And.intro ?_ ?_)
 all_goals first|(refine retK h ?_;clear h;simp only[fin0])|(with_reducible refine Ob.mk ?_;clear h)|(clear h)
 all_goals(try simp only[eta0,RT.bytes]at *)
 all_goals grind[inR]
theorem S9:b9 Tryz.prog 68 E6:=j5 j3 (ss := [(66,A5),(88,a3v),(89,a7M),(121,a2y)]) ⟨K4,a3F,a8s,a2f,trivial⟩ rfl rfl<|by
 intro(bs:Th (List Int)) (p:Th Int) ⟨(m:Th PMap),(a:Th Int),(s:Th Int),u⟩ K _ _ _ h
 obtain⟨m,rfl⟩:=b6 m;obtain⟨a,rfl⟩:=b6 a;obtain⟨s,rfl⟩:=b6 s
 have hi:=n6 (m:=m)
 refine⟨noAnn,noAnn,20,?_⟩
 cbv
 repeat' first|((with_reducible intro _);cbv)|(with_reducible refine And.intro ?_ ?_)
 all_goals first|(refine retK h ?_;clear h;simp only[fin0])|(with_reducible refine Ob.mk ?_;clear h)|(clear h)
 all_goals(try simp only[eta0,RT.bytes]at *)
 all_goals grind[b7,e9]
theorem V3:b9 Tryz.prog 138 E6:=j5 j3 (ss := [(14,A5),(60,sIn)]) ⟨F7,J5,trivial⟩ rfl rfl<|by
 intro(bs:Th (List Int)) (p:Th Int) ⟨(m:Th PMap),(a:Th Int),(s:Th Int),u⟩ K _ _ _ h
 obtain⟨m,rfl⟩:=b6 m;obtain⟨a,rfl⟩:=b6 a;obtain⟨s,rfl⟩:=b6 s
 have hi:=n6 (m:=m)
 refine⟨noAnn,noAnn,20,?_⟩
 cbv
 repeat' first|((with_reducible intro _);cbv)|(with_reducible refine And.intro ?_ ?_)
 all_goals first|(refine retK h ?_;clear h;simp only[fin0])|(with_reducible refine Ob.mk ?_;clear h)|(clear h)
 all_goals(try simp only[eta0,RT.bytes]at *)
 all_goals grind[b7,e9,inR]
theorem a0Q:b9 Tryz.prog 168 O5:=j5 j3 (ss := [(36,B6),(68,E6),(121,a2y)]) ⟨M7,S9,a2f,trivial⟩ rfl rfl<|by
 intro(bs:Th (List Int)) (p:Th Int) ⟨(m:Th PMap),(a:Th Int),(s:Th Int),u⟩ K _ _ ho h
 obtain⟨m,rfl⟩:=b6 m;obtain⟨a,rfl⟩:=b6 a;obtain⟨s,rfl⟩:=b6 s
 have hb:=okI (ho.2.1 _ (.head _))
 refine⟨noAnn,noAnn,20,?_⟩
 have hs := @L7 m (e8 m a) s
 have hc := @C9 m a
 have he := @d6z m a s
 have hi:=n6 (m:=m)
 have hm:=a4g (m:=m)
 cbv
 repeat' first|((with_reducible intro _);cbv)|(with_reducible refine And.intro ?_ ?_)
 all_goals first|(refine retK h ?_;clear h;simp only[fin0])|(with_reducible refine Ob.mk ?_;clear h)|(clear h)
 all_goals(try simp only[eta0,RT.bytes]at *)
 ·grind
 ·rename_i h1 h2
  have h1:b7 m (e8 m a) s ≠ -1:=by simpa using h2
  have hw:IntKind.i64.wrap (a+(2 * s-1))=a+(2 * s-1):=by grind[e9]
  rw[hw]
  simp only[B4,h1,ne_eq,not_false_eq_true,true_and,decide_eq_decide]
  exact he h1
 ·grind[B4]
 ·grind[B4]
theorem a4n:b9 Tryz.prog 137 O5:=j5 j3 (ss := [(117,B6),(138,E6)]) ⟨N7,V3,trivial⟩ rfl rfl<|by
 intro(bs:Th (List Int)) (p:Th Int) ⟨(m:Th PMap),(a:Th Int),(s:Th Int),u⟩ K _ _ _ h
 obtain⟨m,rfl⟩:=b6 m;obtain⟨a,rfl⟩:=b6 a;obtain⟨s,rfl⟩:=b6 s
 refine⟨noAnn,noAnn,20,?_⟩
 have hs := @L7 m (e8 m a) s
 have hc := @C9 m a
 have hi:=n6 (m:=m)
 have hm:=a4g (m:=m)
 have hd := @b9E m a
 cbv
 repeat' first|((with_reducible intro _);cbv)|(with_reducible refine And.intro ?_ ?_)
 all_goals first|(refine retK h ?_;clear h;simp only[fin0])|(with_reducible refine Ob.mk ?_;clear h)|(clear h)
 all_goals(try simp only[eta0,RT.bytes]at *)
 all_goals grind[B4,e9]
theorem d1O:b9 Tryz.prog 173 c4J:=j5 j3 (ss := [(50,sIn),(81,a3u)]) ⟨okIn,a4p,trivial⟩ rfl rfl<|by
 intro(bs:Th (List Int)) (p:Th Int) ⟨(w:Th Wlk),u⟩ K _ _ _ h
 obtain⟨w,rfl⟩:=b6 w
 refine⟨noAnn,noAnn,20,?_⟩
 cbv
 repeat' first|((with_reducible intro _);cbv)|(with_reducible refine And.intro ?_ ?_)
 all_goals first|(refine retK h ?_;clear h;simp only[fin0])|(with_reducible refine Ob.mk ?_;clear h)|(clear h)
 all_goals(try simp only[eta0,RT.bytes]at *)
 all_goals grind[inR,a9e]
theorem b7m:b9 Tryz.prog 113 a4b:=j5 j3 (ss := [(36,B6),(173,c4J)]) ⟨M7,d1O,trivial⟩ rfl rfl<|by
 intro(bs:Th (List Int)) (p:Th Int) ⟨(m:Th PMap),(w:Th Wlk),u⟩ K _ _ _ h
 obtain⟨m,rfl⟩:=b6 m;obtain⟨w,rfl⟩:=b6 w
 refine⟨noAnn,noAnn,20,?_⟩
 cbv
 repeat' first|((with_reducible intro _);cbv)|(with_reducible refine And.intro ?_ ?_)
 all_goals first|(refine retK h ?_;clear h;simp only[fin0])|(with_reducible refine Ob.mk ?_;clear h)|(clear h)
 all_goals(try simp only[eta0,RT.bytes]at *)
 all_goals grind[S3,a9e]
theorem a8m:b9 Tryz.prog 65 a4b:=j5 j3 (ss := [(117,B6),(60,sIn)]) ⟨N7,J5,trivial⟩ rfl rfl<|by
 intro(bs:Th (List Int)) (p:Th Int) ⟨(m:Th PMap),(w:Th Wlk),u⟩ K _ _ _ h
 obtain⟨m,rfl⟩:=b6 m;obtain⟨w,rfl⟩:=b6 w
 refine⟨noAnn,noAnn,20,?_⟩
 cbv
 repeat' first|((with_reducible intro _);cbv)|(with_reducible refine And.intro ?_ ?_)
 all_goals first|(refine retK h ?_;clear h;simp only[fin0])|(with_reducible refine Ob.mk ?_;clear h)|(clear h)
 all_goals(try simp only[eta0,RT.bytes]at *)
 all_goals grind[S3,inR]
theorem a1k:b9 Tryz.prog 49 Z3:=j5 j3 (ss := [(113,a4b),(66,A5)]) ⟨b7m,K4,trivial⟩ rfl rfl<|by
 intro(bs:Th (List Int)) (p:Th Int) ⟨(m:Th PMap),(l:Th (List Wlk)),u⟩ K _ _ ho h
 obtain⟨m,rfl⟩:=b6 m;obtain⟨l,rfl⟩:=b6 l
 have hl:=okL (ho.2.1 _ (.head _))
 refine⟨annL [(49,2,⟨Nat,[],fun σ k => σ.t 9 (vI fun _=>(k:Int)),fun _ k _=>k≤l.length∧m9 k (a4H m l)=true,fun _ k _=>l.length-k⟩)],noAnn,20,?_⟩
 cbv
 repeat' first|((with_reducible refine fun(k:Nat) => ?_);cbv)|((with_reducible intro _);cbv)|(with_reducible refine And.intro ?_ ?_)
 all_goals try((first|(with_reducible refine LoopIn.mk ((0:Nat)) ?_ ?_)|(with_reducible refine LoopBack.mk ((k+1:Nat)) ?_ ?_ ?_)) )
 all_goals try((with_reducible show l9 _ _);cbv;(try simp only[and_true,true_and]))
 all_goals try(repeat' with_reducible refine And.intro ?_ ?_)
 all_goals first|(refine retK h ?_;clear h;simp only[fin0])|(with_reducible refine Ob.mk ?_;clear h)|(clear h)
 all_goals(try simp only[eta0,RT.bytes]at *)
 all_goals grind[n8,n5,a4H,x7,Z1,j4,b1t,b0k]
theorem a0n:b9 Tryz.prog 15 Z2:=j5 j3 (ss := [(65,a4b)]) ⟨a8m,trivial⟩ rfl rfl<|by
 intro(bs:Th (List Int)) (p:Th Int) ⟨(m:Th PMap),(l:Th (List Wlk)),u⟩ K _ _ ho h
 obtain⟨m,rfl⟩:=b6 m;obtain⟨l,rfl⟩:=b6 l
 have hl:=okL (ho.2.1 _ (.head _))
 refine⟨annL [(15,2,⟨Nat,[],fun σ k => σ.t 5 (vI fun _=>(k:Int)),fun _ k _=>k≤l.length∧m9 k (a4H m l)=true,fun _ k _=>l.length-k⟩)],noAnn,20,?_⟩
 cbv
 repeat' first|((with_reducible refine fun(k:Nat) => ?_);cbv)|((with_reducible intro _);cbv)|(with_reducible refine And.intro ?_ ?_)
 all_goals try((first|(with_reducible refine LoopIn.mk ((0:Nat)) ?_ ?_)|(with_reducible refine LoopBack.mk ((k+1:Nat)) ?_ ?_ ?_)) )
 all_goals try((with_reducible show l9 _ _);cbv;(try simp only[and_true,true_and]))
 all_goals try(repeat' with_reducible refine And.intro ?_ ?_)
 all_goals first|(refine retK h ?_;clear h;simp only[fin0])|(with_reducible refine Ob.mk ?_;clear h)|(clear h)
 all_goals(try simp only[eta0,RT.bytes]at *)
 all_goals grind[n8,n5,a4H,x7,Z1,j4,b1t,b0k]
noncomputable def a1C:Sx.Spec:=⟨false,true,[.list .wlk,.int .i64],[[some .wlk]],fun _ _ ⟨l,i,_⟩ => .ret (vW .wlk fun _=>F4 (l ()) (i ()),fun _=>0)⟩
noncomputable def a7P:Sx.Spec:=⟨false,true,[.list .wlk],[[some .wlk]],fun _ _ ⟨l,_⟩ => .ret (vW .wlk fun _=>l (),fun _=>0)⟩
noncomputable def a9q:Sx.Spec:=⟨false,true,[.list .wlk,.int .i64],[],fun _ _ ⟨l,i,_⟩ => .ret (vI fun _=>l6 (l ()) (i ()),fun _=>0)⟩
noncomputable def a1h:Sx.Spec:=⟨false,true,[.list .wlk,.int .i64],[],fun _ _ ⟨l,i,_⟩ => .ret (.tup [oWlk fun _=>F5 (l ()) (i ()),vB fun _=>u4 (l ()) (i ())],fun _=>0)⟩
theorem a5l:b9 Tryz.prog 166 a1C:=j5 j3 (ss := []) trivial rfl rfl<|by
 intro(bs:Th (List Int)) (p:Th Int) ⟨(l:Th (List Wlk)),(i:Th Int),u⟩ K _ _ ho h
 obtain⟨l,rfl⟩:=b6 l;obtain⟨i,rfl⟩:=b6 i
 have hl:=okB (ho.1 _ (.head _))
 have hz:=a7y l i
 refine⟨annL [(166,3,⟨Nat,[⟨.tmp 5 0,some 22,.wlk⟩],fun σ k=>((σ.t 10 (vI fun _=>(k:Int))).t 5 (vO 22 1)).row 22 1 .wlk (fun _=>U2 l i k),fun _ k _=>k≤l.length,fun _ k _=>l.length-k⟩)],noAnn,20,?_⟩
 cbv
 repeat' first|((with_reducible refine fun(k:Nat) => ?_);cbv)|((with_reducible intro _);cbv)|(with_reducible refine And.intro ?_ ?_)
 all_goals try((first|(with_reducible refine LoopIn.mk ((0:Nat)) ?_ ?_)|(with_reducible refine LoopBack.mk ((k+1:Nat)) ?_ ?_ ?_)) )
 all_goals try((with_reducible show l9 _ _);cbv;(try simp only[and_true,true_and]))
 all_goals try(repeat' with_reducible refine And.intro ?_ ?_)
 all_goals first|(refine retK h ?_;clear h;simp only[fin0])|(with_reducible refine Ob.mk ?_;clear h)|(clear h)
 all_goals(try simp only[eta0,RT.bytes]at *)
 all_goals grind[a6r,a7z,a7x,b0j,j4]
theorem b5p:b9 Tryz.prog 172 a1C:=j5 j3 (ss := []) trivial rfl rfl<|by
 intro(bs:Th (List Int)) (p:Th Int) ⟨(l:Th (List Wlk)),(i:Th Int),u⟩ K _ _ ho h
 obtain⟨l,rfl⟩:=b6 l;obtain⟨i,rfl⟩:=b6 i
 have hl:=okB (ho.1 _ (.head _))
 have hz:=a7y l i
 refine⟨annL [(172,3,⟨Nat,[⟨.tmp 5 0,some 8,.wlk⟩],fun σ k=>(((σ.fg 8).t 6 (vI fun _=>(k:Int))).t 5 (vO 8 1)).row 8 1 .wlk (fun _=>U2 l i k),fun _ k _=>k≤l.length,fun _ k _=>l.length-k⟩)],noAnn,20,?_⟩
 cbv
 repeat' first|((with_reducible refine fun(k:Nat) => ?_);cbv)|((with_reducible intro _);cbv)|(with_reducible refine And.intro ?_ ?_)
 all_goals try((first|(with_reducible refine LoopIn.mk ((0:Nat)) ?_ ?_)|(with_reducible refine LoopBack.mk ((k+1:Nat)) ?_ ?_ ?_)) )
 all_goals try((with_reducible show l9 _ _);cbv;(try simp only[and_true,true_and]))
 all_goals try(repeat' with_reducible refine And.intro ?_ ?_)
 all_goals first|(refine retK h ?_;clear h;simp only[fin0])|(with_reducible refine Ob.mk ?_;clear h)|(clear h)
 all_goals(try simp only[eta0,RT.bytes]at *)
 all_goals grind[a6r,a7z,a7x,b0j,j4]
theorem c0q:b9 Tryz.prog 162 a7P:=j5 j3 (ss := []) trivial rfl rfl<|by
 intro(bs:Th (List Int)) (p:Th Int) ⟨(l:Th (List Wlk)),u⟩ K _ _ ho h
 obtain⟨l,rfl⟩:=b6 l
 have hl:=okB (ho.1 _ (.head _))
 refine⟨noAnn,noAnn,20,?_⟩
 cbv
 repeat' first|((with_reducible intro _);cbv)|(with_reducible refine And.intro ?_ ?_)
 all_goals first|(refine retK h ?_;clear h;simp only[fin0])|(with_reducible refine Ob.mk ?_;clear h)|(clear h)
 all_goals(try simp only[eta0,RT.bytes]at *)
 all_goals grind
theorem d1S:b9 Tryz.prog 236 a7P:=j5 j3 (ss := []) trivial rfl rfl<|by
 intro(bs:Th (List Int)) (p:Th Int) ⟨(l:Th (List Wlk)),u⟩ K _ _ ho h
 obtain⟨l,rfl⟩:=b6 l
 have hl:=okB (ho.1 _ (.head _))
 refine⟨noAnn,noAnn,20,?_⟩
 cbv
 repeat' first|((with_reducible intro _);cbv)|(with_reducible refine And.intro ?_ ?_)
 all_goals first|(refine retK h ?_;clear h;simp only[fin0])|(with_reducible refine Ob.mk ?_;clear h)|(clear h)
 all_goals(try simp only[eta0,RT.bytes]at *)
 all_goals grind
theorem a8o:b9 Tryz.prog 164 a9q:=j5 j3 (ss := []) trivial rfl rfl<|by
 intro(bs:Th (List Int)) (p:Th Int) ⟨(l:Th (List Wlk)),(i:Th Int),u⟩ K _ _ ho h
 obtain⟨l,rfl⟩:=b6 l;obtain⟨i,rfl⟩:=b6 i
 have hl:=okL (ho.1 _ (.head _))
 refine⟨annL [(200,2,⟨Nat,[],fun σ k => σ.t 8 (vI fun _=>(k:Int)),fun _ k _=>k≤l.length∧m9 k (nid l i)=true,fun _ k _=>l.length-k⟩)],noAnn,20,?_⟩
 cbv
 repeat' first|((with_reducible refine fun(k:Nat) => ?_);cbv)|((with_reducible intro _);cbv)|(with_reducible refine And.intro ?_ ?_)
 all_goals try((first|(with_reducible refine LoopIn.mk ((0:Nat)) ?_ ?_)|(with_reducible refine LoopBack.mk ((k+1:Nat)) ?_ ?_ ?_)) )
 all_goals try((with_reducible show l9 _ _);cbv;(try simp only[and_true,true_and]))
 all_goals try(repeat' with_reducible refine And.intro ?_ ?_)
 all_goals first|(refine retK h ?_;clear h;simp only[fin0])|(with_reducible refine Ob.mk ?_;clear h)|(clear h)
 all_goals(try simp only[eta0,RT.bytes]at *)
 all_goals grind[n8,n5,nid,isId,b9H,b2d,j4]
theorem b5o:b9 Tryz.prog 242 a1h:=j5 j3 (ss := [(164,a9q)]) ⟨a8o,trivial⟩ rfl rfl<|by
 intro(bs:Th (List Int)) (p:Th Int) ⟨(l:Th (List Wlk)),(i:Th Int),u⟩ K _ _ ho h
 obtain⟨l,rfl⟩:=b6 l;obtain⟨i,rfl⟩:=b6 i
 have hp:=Q0 l i
 refine⟨noAnn,noAnn,20,?_⟩
 cbv
 repeat' first|((with_reducible intro _);cbv)|(with_reducible refine And.intro ?_ ?_)
 all_goals first|(refine retK h ?_;clear h;simp only[fin0])|(with_reducible refine Ob.mk ?_;clear h)|(clear h)
 all_goals(try simp only[eta0,RT.bytes]at *)
 all_goals grind[F5,u4]
theorem a4m:b9 Tryz.prog 259 a1h:=j5 j3 (ss := []) trivial rfl rfl<|by
 intro(bs:Th (List Int)) (p:Th Int) ⟨(l:Th (List Wlk)),(i:Th Int),u⟩ K _ _ ho h
 obtain⟨l,rfl⟩:=b6 l;obtain⟨i,rfl⟩:=b6 i
 have hl:=okL (ho.1 _ (.head _))
 refine⟨annL [(259,2,⟨Nat,[],fun σ k => σ.t 6 (vI fun _=>(k:Int)),fun _ k _=>k≤l.length∧m9 k (nid l i)=true,fun _ k _=>l.length-k⟩)],noAnn,20,?_⟩
 cbv
 repeat' first|((with_reducible refine fun(k:Nat) => ?_);cbv)|((with_reducible intro _);cbv)|(with_reducible refine And.intro ?_ ?_)
 all_goals try((first|(with_reducible refine LoopIn.mk ((0:Nat)) ?_ ?_)|(with_reducible refine LoopBack.mk ((k+1:Nat)) ?_ ?_ ?_)) )
 all_goals try((with_reducible show l9 _ _);cbv;(try simp only[and_true,true_and]))
 all_goals try(repeat' with_reducible refine And.intro ?_ ?_)
 all_goals first|(refine retK h ?_;clear h;simp only[fin0])|(with_reducible refine Ob.mk ?_;clear h)|(clear h)
 all_goals(try simp only[eta0,RT.bytes]at *)
 all_goals grind[n8,n5,nid,isId,b9H,b2d,j4,F5,u4]
noncomputable def Y5:Sx.Spec:=⟨false,true,[.ord],[],fun _ _ ⟨o,_⟩ => .ret (vB fun _=>y9 (o ()),fun _=>0)⟩
noncomputable def b1M:Sx.Spec:=⟨false,true,[.row .pcl],[],fun _ _ ⟨o,_⟩ => .ret (vB fun _=>a9z (o ()),fun _=>0)⟩
noncomputable def a4V:Sx.Spec:=⟨false,true,[.map,.row .pcl],[],fun _ _ ⟨m,o,_⟩ => .ret (vB fun _=>J8 (m ()) (o ()),fun _=>0)⟩
noncomputable def a4c:Sx.Spec:=⟨false,true,[.map,.list .pcl,.int .i64],[],fun _ _ ⟨m,l,n,_⟩ => .ret (vB fun _=>u6 (m ()) (l ()) (n ()),fun _=>0)⟩
noncomputable def a1i:Sx.Spec:=⟨false,true,[.list .pcl,.int .i64],[[some .pcl]],fun _ _ ⟨l,n,_⟩ => .ret (vW .pcl fun _=>A3 (l ()) (n ()),fun _=>0)⟩
noncomputable def c4V:Sx.Spec:=⟨false,true,[.list .pcl],[[some .pcl]],fun _ _ ⟨l,_⟩ => .ret (vW .pcl fun _=>l (),fun _=>0)⟩
theorem a6a:b9 Tryz.prog 92 Y5:=j5 j3 (ss := [(50,sIn),(81,a3u),(89,a7M)]) ⟨okIn,a4p,a8s,trivial⟩ rfl rfl<|by
 intro(bs:Th (List Int)) (p:Th Int) ⟨(o:Th Sx.Ord),u⟩ K _ _ ho h
 obtain⟨o,rfl⟩:=b6 o
 refine⟨noAnn,noAnn,20,?_⟩
 cbv
 repeat' first|((with_reducible intro _);cbv)|(with_reducible refine And.intro ?_ ?_)
 all_goals first|(refine retK h ?_;clear h;simp only[fin0])|(with_reducible refine Ob.mk ?_;clear h)|(clear h)
 all_goals(try simp only[eta0,RT.bytes]at *)
 all_goals grind[inR,y9]
theorem a2h:b9 Tryz.prog 35 Y5:=j5 j3 (ss := [(60,sIn)]) ⟨J5,trivial⟩ rfl rfl<|by
 intro(bs:Th (List Int)) (p:Th Int) ⟨(o:Th Sx.Ord),u⟩ K _ _ ho h
 obtain⟨o,rfl⟩:=b6 o
 refine⟨noAnn,noAnn,20,?_⟩
 cbv
 repeat' first|((with_reducible intro _);cbv)|(with_reducible refine And.intro ?_ ?_)
 all_goals first|(refine retK h ?_;clear h;simp only[fin0])|(with_reducible refine Ob.mk ?_;clear h)|(clear h)
 all_goals(try simp only[eta0,RT.bytes]at *)
 all_goals grind[inR,y9]
theorem c0j:b9 Tryz.prog 184 b1M:=j5 j3 (ss := [(50,sIn)]) ⟨okIn,trivial⟩ rfl rfl<|by
 intro(bs:Th (List Int)) (p:Th Int) ⟨(o:Th Pcl),u⟩ K _ _ ho h
 obtain⟨o,rfl⟩:=b6 o
 refine⟨noAnn,noAnn,20,?_⟩
 cbv
 repeat' first|((with_reducible intro _);cbv)|(with_reducible refine And.intro ?_ ?_)
 all_goals first|(refine retK h ?_;clear h;simp only[fin0])|(with_reducible refine Ob.mk ?_;clear h)|(clear h)
 all_goals(try simp only[eta0,RT.bytes]at *)
 all_goals grind[inR,a9z,a4M]
theorem b7q:b9 Tryz.prog 126 a4V:=j5 j3 (ss := [(66,A5),(184,b1M),(113,a4b)]) ⟨K4,c0j,b7m,trivial⟩ rfl rfl<|by
 intro(bs:Th (List Int)) (p:Th Int) ⟨(m:Th PMap),(o:Th Pcl),u⟩ K _ _ ho h
 obtain⟨m,rfl⟩:=b6 m;obtain⟨o,rfl⟩:=b6 o
 refine⟨noAnn,noAnn,20,?_⟩
 cbv
 repeat' first|((with_reducible intro _);cbv)|(with_reducible refine And.intro ?_ ?_)
 all_goals first|(refine retK h ?_;clear h;simp only[fin0])|(with_reducible refine Ob.mk ?_;clear h)|(clear h)
 all_goals(try simp only[eta0,RT.bytes]at *)
 all_goals grind[a9z,J8]
theorem b2q:b9 Tryz.prog 227 a4V:=j5 j3 (ss := [(14,A5),(60,sIn),(65,a4b)]) ⟨F7,J5,a8m,trivial⟩ rfl rfl<|by
 intro(bs:Th (List Int)) (p:Th Int) ⟨(m:Th PMap),(o:Th Pcl),u⟩ K _ _ ho h
 obtain⟨m,rfl⟩:=b6 m;obtain⟨o,rfl⟩:=b6 o
 refine⟨noAnn,noAnn,20,?_⟩
 cbv
 repeat' first|((with_reducible intro _);cbv)|(with_reducible refine And.intro ?_ ?_)
 all_goals first|(refine retK h ?_;clear h;simp only[fin0])|(with_reducible refine Ob.mk ?_;clear h)|(clear h)
 all_goals(try simp only[eta0,RT.bytes]at *)
 all_goals grind[inR,J8,a4M]
theorem c0i:b9 Tryz.prog 161 a4c:=j5 j3 (ss := [(66,A5),(50,sIn),(126,a4V)]) ⟨K4,okIn,b7q,trivial⟩ rfl rfl<|by
 intro(bs:Th (List Int)) (p:Th Int) ⟨(m:Th PMap),(l:Th (List Pcl)),(n:Th Int),u⟩ K _ _ ho h
 obtain⟨m,rfl⟩:=b6 m;obtain⟨l,rfl⟩:=b6 l;obtain⟨n,rfl⟩:=b6 n
 have hl:=okL (ho.2.1 _ (.head _))
 refine⟨annL [(161,4,⟨Nat,[],fun σ k => σ.t 25 (vI fun _=>(k:Int)),fun _ k _=>k≤l.length∧m9 k (a3B m l n)=true,fun _ k _=>l.length-k⟩)],noAnn,20,?_⟩
 cbv
 repeat' first|((with_reducible refine fun(k:Nat) => ?_);cbv)|((with_reducible intro _);cbv)|(with_reducible refine And.intro ?_ ?_)
 all_goals try((first|(with_reducible refine LoopIn.mk ((0:Nat)) ?_ ?_)|(with_reducible refine LoopBack.mk ((k+1:Nat)) ?_ ?_ ?_)) )
 all_goals try((with_reducible show l9 _ _);cbv;(try simp only[and_true,true_and]))
 all_goals try(repeat' with_reducible refine And.intro ?_ ?_)
 all_goals first|(refine retK h ?_;clear h;simp only[fin0])|(with_reducible refine Ob.mk ?_;clear h)|(clear h)
 all_goals(try simp only[eta0,RT.bytes]at *)
 all_goals grind[inR,n8,n5,a3B,u6,a6v,a5f,j4,e9]
theorem b7p:b9 Tryz.prog 206 a4c:=j5 j3 (ss := [(14,A5),(60,sIn),(227,a4V)]) ⟨F7,J5,b2q,trivial⟩ rfl rfl<|by
 intro(bs:Th (List Int)) (p:Th Int) ⟨(m:Th PMap),(l:Th (List Pcl)),(n:Th Int),u⟩ K _ _ ho h
 obtain⟨m,rfl⟩:=b6 m;obtain⟨l,rfl⟩:=b6 l;obtain⟨n,rfl⟩:=b6 n
 have hl:=okL (ho.2.1 _ (.head _))
 refine⟨annL [(206,4,⟨Nat,[],fun σ k => σ.t 7 (vI fun _=>(k:Int)),fun _ k _=>k≤l.length∧m9 k (a3B m l n)=true,fun _ k _=>l.length-k⟩)],noAnn,20,?_⟩
 cbv
 repeat' first|((with_reducible refine fun(k:Nat) => ?_);cbv)|((with_reducible intro _);cbv)|(with_reducible refine And.intro ?_ ?_)
 all_goals try((first|(with_reducible refine LoopIn.mk ((0:Nat)) ?_ ?_)|(with_reducible refine LoopBack.mk ((k+1:Nat)) ?_ ?_ ?_)) )
 all_goals try((with_reducible show l9 _ _);cbv;(try simp only[and_true,true_and]))
 all_goals try(repeat' with_reducible refine And.intro ?_ ?_)
 all_goals first|(refine retK h ?_;clear h;simp only[fin0])|(with_reducible refine Ob.mk ?_;clear h)|(clear h)
 all_goals(try simp only[eta0,RT.bytes]at *)
 all_goals grind[inR,n8,n5,a3B,u6,a6v,a5f,j4,e9]
theorem a5Z:b9 Tryz.prog 69 a1i:=j5 j3 (ss := []) trivial rfl rfl<|by
 intro(bs:Th (List Int)) (p:Th Int) ⟨(l:Th (List Pcl)),(i:Th Int),u⟩ K _ _ ho h
 obtain⟨l,rfl⟩:=b6 l;obtain⟨i,rfl⟩:=b6 i
 have hl:=okB (ho.1 _ (.head _))
 have hz:=a6x l i
 refine⟨annL [(69,3,⟨Nat,[⟨.tmp 5 0,some 22,.pcl⟩],fun σ k=>((σ.t 10 (vI fun _=>(k:Int))).t 5 (vO 22 1)).row 22 1 .pcl (fun _=>Q1 l i k),fun _ k _=>k≤l.length,fun _ k _=>l.length-k⟩)],noAnn,20,?_⟩
 cbv
 repeat' first|((with_reducible refine fun(k:Nat) => ?_);cbv)|((with_reducible intro _);cbv)|(with_reducible refine And.intro ?_ ?_)
 all_goals try((first|(with_reducible refine LoopIn.mk ((0:Nat)) ?_ ?_)|(with_reducible refine LoopBack.mk ((k+1:Nat)) ?_ ?_ ?_)) )
 all_goals try((with_reducible show l9 _ _);cbv;(try simp only[and_true,true_and]))
 all_goals try(repeat' with_reducible refine And.intro ?_ ?_)
 all_goals first|(refine retK h ?_;clear h;simp only[fin0])|(with_reducible refine Ob.mk ?_;clear h)|(clear h)
 all_goals(try simp only[eta0,RT.bytes]at *)
 all_goals grind[a5g,a6y,a6w,a8c,j4]
theorem b2r:b9 Tryz.prog 171 a1i:=j5 j3 (ss := []) trivial rfl rfl<|by
 intro(bs:Th (List Int)) (p:Th Int) ⟨(l:Th (List Pcl)),(i:Th Int),u⟩ K _ _ ho h
 obtain⟨l,rfl⟩:=b6 l;obtain⟨i,rfl⟩:=b6 i
 have hl:=okB (ho.1 _ (.head _))
 have hz:=a6x l i
 refine⟨annL [(171,3,⟨Nat,[⟨.tmp 5 0,some 8,.pcl⟩],fun σ k=>(((σ.fg 8).t 6 (vI fun _=>(k:Int))).t 5 (vO 8 1)).row 8 1 .pcl (fun _=>Q1 l i k),fun _ k _=>k≤l.length,fun _ k _=>l.length-k⟩)],noAnn,20,?_⟩
 cbv
 repeat' first|((with_reducible refine fun(k:Nat) => ?_);cbv)|((with_reducible intro _);cbv)|(with_reducible refine And.intro ?_ ?_)
 all_goals try((first|(with_reducible refine LoopIn.mk ((0:Nat)) ?_ ?_)|(with_reducible refine LoopBack.mk ((k+1:Nat)) ?_ ?_ ?_)) )
 all_goals try((with_reducible show l9 _ _);cbv;(try simp only[and_true,true_and]))
 all_goals try(repeat' with_reducible refine And.intro ?_ ?_)
 all_goals first|(refine retK h ?_;clear h;simp only[fin0])|(with_reducible refine Ob.mk ?_;clear h)|(clear h)
 all_goals(try simp only[eta0,RT.bytes]at *)
 all_goals grind[a5g,a6y,a6w,a8c,j4]
theorem d2h:b9 Tryz.prog 163 c4V:=j5 j3 (ss := []) trivial rfl rfl<|by
 intro(bs:Th (List Int)) (p:Th Int) ⟨(l:Th (List Pcl)),u⟩ K _ _ ho h
 obtain⟨l,rfl⟩:=b6 l
 have hl:=okB (ho.1 _ (.head _))
 refine⟨noAnn,noAnn,20,?_⟩
 cbv
 repeat' first|((with_reducible intro _);cbv)|(with_reducible refine And.intro ?_ ?_)
 all_goals first|(refine retK h ?_;clear h;simp only[fin0])|(with_reducible refine Ob.mk ?_;clear h)|(clear h)
 all_goals(try simp only[eta0,RT.bytes]at *)
 all_goals grind
noncomputable def a6Q:Sx.Spec:=⟨false,true,[.map,.row .gst],[],fun _ _ ⟨m,g,_⟩ => .ret (vB fun _=>a1x (m ()) (g ()),fun _=>0)⟩
noncomputable def a3w:Sx.Spec:=⟨false,true,[.row .gst,.row .gst],[],fun _ _ ⟨a,b,_⟩ => .ret (vB fun _=>H4 (a ()) (b ()),fun _=>0)⟩
noncomputable def c4P:Sx.Spec:=⟨false,true,[.map,.list .gst],[],fun _ _ ⟨m,l,_⟩ => .ret (vB fun _=>Z0 (m ()) (l ()),fun _=>0)⟩
noncomputable def b1P:Sx.Spec:=⟨false,true,[.map,.list .gst],[],fun _ _ ⟨m,l,_⟩ => .ret (vB fun _=>E8 (m ()) (l ()),fun _=>0)⟩
noncomputable def a5a:Sx.Spec:=⟨false,true,[.map,.arb,.int .i64],[],fun _ _ ⟨m,t,s,_⟩ => .ret (vB fun _=>D0 (m ()) (t ()) (s ()),fun _=>0)⟩
noncomputable def L5:Sx.Spec:=⟨false,true,[.arb,.int .i64],[],fun _ _ ⟨t,c,_⟩ => .ret (vI fun _=>n7 (t ()) (c ()),fun _=>0)⟩
theorem c5A:b9 Tryz.prog 127 a6Q:=j5 j3 (ss := [(50,sIn),(113,a4b),(36,B6),(168,O5)]) ⟨okIn,b7m,M7,a0Q,trivial⟩ rfl rfl<|by
 intro(bs:Th (List Int)) (p:Th Int) ⟨(m:Th PMap),(g:Th Gst),u⟩ K _ _ ho h
 obtain⟨m,rfl⟩:=b6 m;obtain⟨g,rfl⟩:=b6 g
 refine⟨noAnn,noAnn,20,?_⟩
 cbv
 repeat' first|((with_reducible intro _);cbv)|(with_reducible refine And.intro ?_ ?_)
 all_goals first|(refine retK h ?_;clear h;simp only[fin0])|(with_reducible refine Ob.mk ?_;clear h)|(clear h)
 all_goals(try simp only[eta0,RT.bytes]at *)
 all_goals grind[a1x,inR]
theorem b2v:b9 Tryz.prog 228 a6Q:=j5 j3 (ss := [(60,sIn),(65,a4b),(117,B6),(137,O5)]) ⟨J5,a8m,N7,a4n,trivial⟩ rfl rfl<|by
 intro(bs:Th (List Int)) (p:Th Int) ⟨(m:Th PMap),(g:Th Gst),u⟩ K _ _ ho h
 obtain⟨m,rfl⟩:=b6 m;obtain⟨g,rfl⟩:=b6 g
 refine⟨noAnn,noAnn,20,?_⟩
 cbv
 repeat' first|((with_reducible intro _);cbv)|(with_reducible refine And.intro ?_ ?_)
 all_goals first|(refine retK h ?_;clear h;simp only[fin0])|(with_reducible refine Ob.mk ?_;clear h)|(clear h)
 all_goals(try simp only[eta0,RT.bytes]at *)
 all_goals grind[a1x,inR]
theorem c5B:b9 Tryz.prog 183 a3w:=j5 j3 (ss := []) trivial rfl rfl<|by
 intro(bs:Th (List Int)) (p:Th Int) ⟨(a:Th Gst),(b:Th Gst),u⟩ K _ _ ho h
 obtain⟨a,rfl⟩:=b6 a;obtain⟨b,rfl⟩:=b6 b
 refine⟨noAnn,noAnn,20,?_⟩
 cbv
 repeat' first|((with_reducible intro _);cbv)|(with_reducible refine And.intro ?_ ?_)
 all_goals first|(refine retK h ?_;clear h;simp only[fin0])|(with_reducible refine Ob.mk ?_;clear h)|(clear h)
 all_goals(try simp only[eta0,RT.bytes]at *)
 all_goals grind[H4]
theorem c0m:b9 Tryz.prog 253 a3w:=j5 j3 (ss := []) trivial rfl rfl<|by
 intro(bs:Th (List Int)) (p:Th Int) ⟨(a:Th Gst),(b:Th Gst),u⟩ K _ _ ho h
 obtain⟨a,rfl⟩:=b6 a;obtain⟨b,rfl⟩:=b6 b
 refine⟨noAnn,noAnn,20,?_⟩
 cbv
 repeat' first|((with_reducible intro _);cbv)|(with_reducible refine And.intro ?_ ?_)
 all_goals first|(refine retK h ?_;clear h;simp only[fin0])|(with_reducible refine Ob.mk ?_;clear h)|(clear h)
 all_goals(try simp only[eta0,RT.bytes]at *)
 all_goals grind[H4]
theorem d2b:b9 Tryz.prog 124 c4P:=j5 j3 (ss := [(127,a6Q),(183,a3w),(66,A5)]) ⟨c5A,c5B,K4,trivial⟩ rfl rfl<|by
 intro(bs:Th (List Int)) (p:Th Int) ⟨(m:Th PMap),(l:Th (List Gst)),u⟩ K _ _ ho h
 obtain⟨m,rfl⟩:=b6 m;obtain⟨l,rfl⟩:=b6 l
 have hl:=okL (ho.2.1 _ (.head _))
 refine⟨annL [(124,2,⟨Nat,[],fun σ k => σ.t 9 (vI fun _=>(k:Int)),fun _ k _=>k≤l.length∧m9 k (a3N m l)=true,fun _ k _=>l.length-k⟩)],noAnn,20,?_⟩
 cbv
 repeat' first|((with_reducible refine fun(k:Nat) => ?_);cbv)|((with_reducible intro _);cbv)|(with_reducible refine And.intro ?_ ?_)
 all_goals try((first|(with_reducible refine LoopIn.mk ((0:Nat)) ?_ ?_)|(with_reducible refine LoopBack.mk ((k+1:Nat)) ?_ ?_ ?_)) )
 all_goals try((with_reducible show l9 _ _);cbv;(try simp only[and_true,true_and]))
 all_goals try(repeat' with_reducible refine And.intro ?_ ?_)
 all_goals first|(refine retK h ?_;clear h;simp only[fin0])|(with_reducible refine Ob.mk ?_;clear h)|(clear h)
 all_goals(try simp only[eta0,RT.bytes]at *)
 all_goals grind[j4,e9,b5M,b5L,a9Q,c0S,Z0,a3N,n8,n5]
theorem b5r:b9 Tryz.prog 224 b1P:=j5 j3 (ss := [(228,a6Q),(253,a3w)]) ⟨b2v,c0m,trivial⟩ rfl rfl<|by
 intro(bs:Th (List Int)) (p:Th Int) ⟨(m:Th PMap),(l:Th (List Gst)),u⟩ K _ _ ho h
 obtain⟨m,rfl⟩:=b6 m;obtain⟨l,rfl⟩:=b6 l
 have hl:=okL (ho.2.1 _ (.head _))
 refine⟨annL [(224,4,⟨Nat,[],fun σ k => σ.t 5 (vI fun _=>(k:Int)),fun _ k _=>k≤l.length∧m9 k (a3N m l)=true,fun _ k _=>l.length-k⟩)],noAnn,20,?_⟩
 cbv
 repeat' first|((with_reducible refine fun(k:Nat) => ?_);cbv)|((with_reducible intro _);cbv)|(with_reducible refine And.intro ?_ ?_)
 all_goals try((first|(with_reducible refine LoopIn.mk ((0:Nat)) ?_ ?_)|(with_reducible refine LoopBack.mk ((k+1:Nat)) ?_ ?_ ?_)) )
 all_goals try((with_reducible show l9 _ _);cbv;(try simp only[and_true,true_and]))
 all_goals try(repeat' with_reducible refine And.intro ?_ ?_)
 all_goals first|(refine retK h ?_;clear h;simp only[fin0])|(with_reducible refine Ob.mk ?_;clear h)|(clear h)
 all_goals(try simp only[eta0,RT.bytes]at *)
 all_goals grind[j4,e9,b5M,b5L,a9Q,c0S,a3N,n8,n5]
theorem d5N:b9 Tryz.prog 72 a5a:=j5 j3 (ss := [(66,A5),(50,sIn)]) ⟨K4,okIn,trivial⟩ rfl rfl<|by
 intro(bs:Th (List Int)) (p:Th Int) ⟨(m:Th PMap),(t:Th Arb),(s:Th Int),u⟩ K _ _ ho h
 obtain⟨m,rfl⟩:=b6 m;obtain⟨t,rfl⟩:=b6 t;obtain⟨s,rfl⟩:=b6 s
 have hA:=fun(hh:D0 m t s=true) (k:Nat) => @b3O m t s k hh
 have hl:=okL (ho.2.1 _ (.head _))
 refine⟨annL [(72,4,⟨Nat,[],fun σ k => σ.t 36 (vI fun _=>(k:Int)),fun _ k _=>k≤t.servers.length∧a0H m t s=true∧m9 k (a4K t s)=true,fun _ k _=>t.servers.length-k⟩)],noAnn,20,?_⟩
 cbv
 repeat' first|((with_reducible refine fun(k:Nat) => ?_);cbv)|((with_reducible intro _);cbv)|(with_reducible refine And.intro ?_ ?_)
 all_goals try((first|(with_reducible refine LoopIn.mk ((0:Nat)) ?_ ?_)|(with_reducible refine LoopBack.mk ((k+1:Nat)) ?_ ?_ ?_)) )
 all_goals try((with_reducible show l9 _ _);cbv;(try simp only[and_true,true_and]))
 all_goals try(repeat' with_reducible refine And.intro ?_ ?_)
 all_goals first|(refine retK h ?_;clear h;simp only[fin0])|(with_reducible refine Ob.mk ?_;clear h)|(clear h)
 all_goals(try simp only[eta0,RT.bytes]at *)
 all_goals grind[j4,e9,c6N,c6O,D0,a0H,a4K,n8,n5,inR]
theorem a5n:b9 Tryz.prog 144 a5a:=j5 j3 (ss := [(14,A5),(60,sIn)]) ⟨F7,J5,trivial⟩ rfl rfl<|by
 intro(bs:Th (List Int)) (p:Th Int) ⟨(m:Th PMap),(t:Th Arb),(s:Th Int),u⟩ K _ _ ho h
 obtain⟨m,rfl⟩:=b6 m;obtain⟨t,rfl⟩:=b6 t;obtain⟨s,rfl⟩:=b6 s
 have hA:=fun(hh:D0 m t s=true) (k:Nat) => @b3O m t s k hh
 have hl:=okL (ho.2.1 _ (.head _))
 refine⟨annL [(144,4,⟨Nat,[],fun σ k => σ.t 7 (vI fun _=>(k:Int)),fun _ k _=>k≤t.servers.length∧a0H m t s=true∧m9 k (a4K t s)=true,fun _ k _=>t.servers.length-k⟩)],noAnn,20,?_⟩
 cbv
 repeat' first|((with_reducible refine fun(k:Nat) => ?_);cbv)|((with_reducible intro _);cbv)|(with_reducible refine And.intro ?_ ?_)
 all_goals try((first|(with_reducible refine LoopIn.mk ((0:Nat)) ?_ ?_)|(with_reducible refine LoopBack.mk ((k+1:Nat)) ?_ ?_ ?_)) )
 all_goals try((with_reducible show l9 _ _);cbv;(try simp only[and_true,true_and]))
 all_goals try(repeat' with_reducible refine And.intro ?_ ?_)
 all_goals first|(refine retK h ?_;clear h;simp only[fin0])|(with_reducible refine Ob.mk ?_;clear h)|(clear h)
 all_goals(try simp only[eta0,RT.bytes]at *)
 all_goals grind(splits:=30) [j4,e9,c6N,a7t,c6O,D0,a0H,a4K,n8,n5,inR]
theorem a2F:b9 Tryz.prog 129 L5:=j5 j3 (ss := [(50,sIn)]) ⟨okIn,trivial⟩ rfl rfl<|by
 intro(bs:Th (List Int)) (p:Th Int) ⟨(t:Th Arb),(c:Th Int),u⟩ K _ _ ho h
 obtain⟨t,rfl⟩:=b6 t;obtain⟨c,rfl⟩:=b6 c
 have hl:=okL (ho.1 _ (.head _))
 refine⟨noAnn,noAnn,20,?_⟩
 cbv
 repeat' first|((with_reducible intro _);cbv)|(with_reducible refine And.intro ?_ ?_)
 all_goals first|(refine retK h ?_;clear h;simp only[fin0])|(with_reducible refine Ob.mk ?_;clear h)|(clear h)
 all_goals(try simp only[eta0,RT.bytes]at *)
 all_goals grind[n7,inR,e9]
theorem a0p:b9 Tryz.prog 190 L5:=j5 j3 (ss := []) trivial rfl rfl<|by
 intro(bs:Th (List Int)) (p:Th Int) ⟨(t:Th Arb),(c:Th Int),u⟩ K _ _ ho h
 obtain⟨t,rfl⟩:=b6 t;obtain⟨c,rfl⟩:=b6 c
 have hl:=okL (ho.1 _ (.head _))
 refine⟨noAnn,noAnn,20,?_⟩
 cbv
 repeat' first|((with_reducible intro _);cbv)|(with_reducible refine And.intro ?_ ?_)
 all_goals first|(refine retK h ?_;clear h;simp only[fin0])|(with_reducible refine Ob.mk ?_;clear h)|(clear h)
 all_goals(try simp only[eta0,RT.bytes]at *)
 all_goals grind[n7,inR,e9]
noncomputable def R6:Sx.Spec:=⟨false,true,[.row .cll],[nCll],fun _ _ ⟨c,_⟩ => .ret (oCll c,fun _=>0)⟩
noncomputable def a2V:Sx.Spec:=⟨false,true,[.map,.row .cll],[],fun _ _ ⟨m,c,_⟩ => .ret (vB fun _=>s5 (m ()) (c ()),fun _=>0)⟩
noncomputable def c4M:Sx.Spec:=⟨false,true,[.map,.row .cll,.int .i64],[],fun _ _ ⟨m,c,s,_⟩ => .asrt (fun _=>0≤s ()∧s ()<(c ()).outs.length∧s ()<(c ()).next.length∧s ()<(c ()).ins.length) (.ret (vB fun _=>O0 (m ()) (c ()) (s ()).toNat,fun _=>0))⟩
theorem a3G:b9 Tryz.prog 104 R6:=j5 j3 (ss := [(162,a7P),(163,c4V)]) ⟨c0q,d2h,trivial⟩ rfl rfl<|by
 intro(bs:Th (List Int)) (p:Th Int) ⟨(c:Th Cll),u⟩ K _ _ ho h
 obtain⟨c,rfl⟩:=b6 c
 obtain⟨hw,hou,hoi,hn,hi,_,_⟩:=b2A ho.1
 have hz:=a0Z c.outs
 have hs:=fun k => @J7 .pcls c.outs k
 refine⟨annL [(104,3,⟨Nat,[⟨.cell 4 3,some 33,.pcls⟩],fun σ k=>((σ.t 23 (vI fun _=>(k:Int))).u9 4 3 (.own 33 1)).row 33 1 .pcls (fun _=>pre c.outs k),fun _ k _=>k≤c.outs.length,fun _ k _=>c.outs.length-k⟩)],noAnn,20,?_⟩
 cbv
 repeat' first|((with_reducible refine fun(k:Nat) => ?_);cbv)|((with_reducible intro _);cbv)|(with_reducible refine And.intro ?_ ?_)
 all_goals try((first|(with_reducible refine LoopIn.mk ((0:Nat)) ?_ ?_)|(with_reducible refine LoopBack.mk ((k+1:Nat)) ?_ ?_ ?_)) )
 all_goals try((with_reducible show l9 _ _);cbv;(try simp only[and_true,true_and]))
 all_goals try(repeat' with_reducible refine And.intro ?_ ?_)
 all_goals first|(refine retK h ?_;clear h;simp only[fin0])|(with_reducible refine Ob.mk ?_;clear h)|(clear h)
 all_goals(try simp only[eta0,RT.bytes]at *)
 all_goals grind[X4,a1a,j4]
theorem a2i:b9 Tryz.prog 202 R6:=j5 j3 (ss := [(236,a7P)]) ⟨d1S,trivial⟩ rfl rfl<|by
 intro(bs:Th (List Int)) (p:Th Int) ⟨(c:Th Cll),u⟩ K _ _ ho h
 obtain⟨c,rfl⟩:=b6 c
 obtain⟨hw,hou,hoi,hn,hi,_,_⟩:=b2A ho.1
 have hz:=a0Z c.outs
 have hs:=fun k => @J7 .pcls c.outs k
 refine⟨annL [(202,4,⟨Nat,[⟨.tmp 3 0,some 10,.pcls⟩],fun σ k=>(((σ.fg 10).t 4 (vI fun _=>(k:Int))).t 3 (vO 10 1)).row 10 1 .pcls (fun _=>pre c.outs k),fun _ k _=>k≤c.outs.length,fun _ k _=>c.outs.length-k⟩)],noAnn,20,?_⟩
 cbv
 repeat' first|((with_reducible refine fun(k:Nat) => ?_);cbv)|((with_reducible intro _);cbv)|(with_reducible refine And.intro ?_ ?_)
 all_goals try((first|(with_reducible refine LoopIn.mk ((0:Nat)) ?_ ?_)|(with_reducible refine LoopBack.mk ((k+1:Nat)) ?_ ?_ ?_)) )
 all_goals try((with_reducible show l9 _ _);cbv;(try simp only[and_true,true_and]))
 all_goals try(repeat' with_reducible refine And.intro ?_ ?_)
 all_goals first|(refine retK h ?_;clear h;simp only[fin0])|(with_reducible refine Ob.mk ?_;clear h)|(clear h)
 all_goals(try simp only[eta0,RT.bytes]at *)
 all_goals grind[X4,a1a,j4]
theorem d1R:b9 Tryz.prog 178 c4M:=j5 j3 (ss := [(138,E6),(206,a4c),(60,sIn),(117,B6)]) ⟨V3,b7p,J5,N7,trivial⟩ rfl rfl<|by
 intro(bs:Th (List Int)) (p:Th Int) ⟨(m:Th PMap),(c:Th Cll),(i:Th Int),u⟩ K _ _ ho h
 obtain⟨m,rfl⟩:=b6 m;obtain⟨c,rfl⟩:=b6 c;obtain⟨i,rfl⟩:=b6 i
 obtain⟨hw,hou,hoi,hn,hi,_,_⟩:=b2A ho.2.1
 obtain⟨hpre,h⟩:=h
 have hpre:=hpre.out
 simp only at hpre
 obtain⟨s,rfl⟩ : ∃s:Nat,i=(s:Int):=⟨i.toNat,(Int.toNat_of_nonneg hpre.1).symm⟩
 simp only[Int.ofNat_lt]at hpre
 refine⟨annL [(178,7,⟨Nat,[],fun σ k=>(σ.t 8 (vI fun _=>(k:Int))),fun _ k _=>k≤(nth .pcls c.outs s).length∧a0g m c s=true∧m9 k (a2C m (b7 m c.cell s) (nth .pcls c.outs s))=true,fun _ k _=>(nth .pcls c.outs s).length-k⟩)],noAnn,20,?_⟩
 cbv
 repeat' first|((with_reducible refine fun(k:Nat) => ?_);cbv)|((with_reducible intro _);cbv)|(with_reducible refine And.intro ?_ ?_)
 all_goals try((first|(with_reducible refine LoopIn.mk ((0:Nat)) ?_ ?_)|(with_reducible refine LoopBack.mk ((k+1:Nat)) ?_ ?_ ?_)) )
 all_goals try((with_reducible show l9 _ _);cbv;(try simp only[and_true,true_and]))
 all_goals try(repeat' with_reducible refine And.intro ?_ ?_)
 all_goals first|(refine retK h ?_;clear h;simp only[fin0])|(with_reducible refine Ob.mk ?_;clear h)|(clear h)
 all_goals(try simp only[eta0,RT.bytes]at *)
 all_goals grind[inR,n8,n5,a0g,O0,a2C,b0R,b4v,j4]
end Go.Proofs.YtmnapekfeenknaaGreat
namespace Go.Mo
open Go.Sx
def same (t:RT) (a b:List t.ty) (k:Nat):Prop := ∀i,i<k→nth t a i=nth t b i
theorem K6 (t:RT) (a b:List t.ty):same t a b 0:=fun i hi=>by omega
theorem K7 {t:RT} {a b:List t.ty} {k:Nat} (h:same t a b k) (hk:nth t a k=nth t b k):same t a b (k+1):=fun i hi=>by
 rcases Nat.lt_or_ge i k with h1|h1
 ·exact h i h1
 ·have:i=k:=by omega
  subst this
  exact hk
theorem O4 {t:RT} {a b:List t.ty} {k:Nat} (h:same t a b k) (hl:a.length=b.length) (hk:k=a.length):a=b:=by
 refine List.ext_getElem hl fun i h1 h2 => ?_
 rw[←k9 t a i h1,←k9 t b i h2]
 exact h i (by omega)
theorem a5N {a b:Wlk}:a=b↔a.id=b.id∧a.pos=b.pos∧a.j8=b.j8∧a.seq=b.seq∧a.last=b.last:=by
 cases a;cases b;simp
theorem a8g {a b:Ord}:a=b↔a.who=b.who∧a.seq=b.seq∧a.kind=b.kind∧a.dest=b.dest∧a.n=b.n:=by
 cases a;cases b;simp
end Go.Mo
namespace Go.Proofs.YtmnapekfeenknaaGreat
open Go.Sx Go.Proofs Go.Mo
noncomputable def sIsI:Sx.Spec:=⟨false,true,[.list .int,.list .int],[],fun _ _ ⟨a,b,_⟩ => .ret (vB fun _=>decide (a ()=b ()),fun _=>0)⟩
theorem a8t:b9 Tryz.prog 19 sIsI:=j5 j3 (ss := []) trivial rfl rfl<|by
 intro(bs:Th (List Int)) (p:Th Int) ⟨(a:Th (List Int)),(b:Th (List Int)),u⟩ K _ _ ho h
 obtain⟨a,rfl⟩:=b6 a;obtain⟨b,rfl⟩:=b6 b
 have hl:=okL (ho.1 _ (.head _))
 refine⟨annL [(19,4,⟨Nat,[],fun σ k => σ.t 5 (vI fun _=>(k:Int)),fun _ k _=>k≤a.length∧a.length=b.length∧same .int a b k,fun _ k _=>a.length-k⟩)],noAnn,20,?_⟩
 cbv
 repeat' first|((with_reducible refine fun(k:Nat) => ?_);cbv)|((with_reducible intro _);cbv)|(with_reducible refine And.intro ?_ ?_)
 all_goals try((first|(with_reducible refine LoopIn.mk ((0:Nat)) ?_ ?_)|(with_reducible refine LoopBack.mk ((k+1:Nat)) ?_ ?_ ?_)) )
 all_goals try((with_reducible show l9 _ _);cbv;(try simp only[and_true,true_and]))
 all_goals try(repeat' with_reducible refine And.intro ?_ ?_)
 all_goals first|(refine retK h ?_;clear h;simp only[fin0])|(with_reducible refine Ob.mk ?_;clear h)|(clear h)
 all_goals(try simp only[eta0,RT.bytes]at *)
 all_goals grind[j4,K6,K7,O4]
end Go.Proofs.YtmnapekfeenknaaGreat
namespace Go.Mo
open Go.Sx
end Go.Mo
namespace Go.Proofs.YtmnapekfeenknaaGreat
open Go.Sx Go.Proofs Go.Mo
theorem b7y:b9 Tryz.prog 103 a2V:=j5 j3 (ss := [(49,Z3),(88,a3v),(50,sIn),(36,B6),(68,E6),(161,a4c)]) ⟨a1k,a3F,okIn,M7,S9,c0i,trivial⟩ rfl rfl<|by
 intro(bs:Th (List Int)) (p:Th Int) ⟨(m:Th PMap),(c:Th Cll),u⟩ K _ _ ho h
 obtain⟨m,rfl⟩:=b6 m;obtain⟨c,rfl⟩:=b6 c
 obtain⟨hw,hou,hoi,hn,hi,_,_⟩:=b2A ho.2.1
 have hi:=n6 (m:=m)
 refine⟨annL [(103,4,⟨Nat,[],fun σ k=>(σ.t 50 (vI fun _=>(k:Int))),fun _ k _=>k≤c.wlks.length∧a1d m c=true∧m9 k (a4G m c)=true,fun _ k _=>c.wlks.length-k⟩),
  (103,10,⟨Nat×Unit,[],fun σ q=>(σ.t 62 (vI fun _=>(q.1:Int))),fun _ q _=>q.1≤2∧a1d m c=true∧m9 c.wlks.length (a4G m c)=true∧m9 q.1 (O0 m c)=true,fun _ q _=>2-q.1⟩),
  (103,16,⟨Nat,[],fun σ k => σ.t 118 (vI fun _=>(k:Int)),fun σ k _=>c4z m c (σ.nat 62) k,fun σ k _=>(nth .pcls c.outs (σ.nat 62)).length-k⟩)],noAnn,20,?_⟩
 cbv
 repeat' first|((with_reducible refine fun(k:Nat) => ?_);cbv)|((with_reducible refine fun(q:Nat×Unit) => ?_);obtain⟨s,_⟩:=q;cbv)|((with_reducible intro _);cbv)|(with_reducible refine And.intro ?_ ?_)
 all_goals try((first|(with_reducible refine LoopIn.mk ((0:Nat)) ?_ ?_)|(with_reducible refine LoopIn.mk (((0,()):Nat×Unit)) ?_ ?_)|(with_reducible refine LoopBack.mk ((k+1:Nat)) ?_ ?_ ?_)|(with_reducible refine LoopBack.mk (((s+1,()):Nat×Unit)) ?_ ?_ ?_)) )
 all_goals try((with_reducible show l9 _ _);cbv;(try simp only[and_true,true_and]))
 all_goals(try simp only[St.nat,St.int,Tr.get,Nat.reduceMod,Nat.reduceDiv,Nat.one_ne_zero,if_false,if_true,↓reduceIte]at *)
 all_goals try(repeat' with_reducible refine And.intro ?_ ?_)
 all_goals first|(refine retK h ?_;clear h;simp only[fin0])|(with_reducible refine Ob.mk ?_;clear h)|(clear h)
 all_goals(try simp only[eta0,RT.bytes]at *)
 all_goals grind[c4z,inR,n8,n5,a4G,a0g,a2C,O0,a1d,s5,b3F,b3E,b0R,j4,e9]
end Go.Proofs.YtmnapekfeenknaaGreat
namespace Go.Proofs.YtmnapekfeenknaaGreat
open Go.Sx Go.Proofs Go.RowKit
theorem d2S:(Tryz.prog.info? 52).map (fun i=>(i.zero,i.size,i.bytes))=some (some (.agg #[.int .i64 0,.int .i64 0,.int .i64 0,.int .i64 0,.int .i64 0]),5,40):=by kernel_rfl
theorem b7J : ∃inf z,Tryz.prog.info? 52=some inf∧inf.size=5∧inf.bytes=40∧inf.zero=some z∧z.cells.size=5:=by
 obtain⟨i0,h1,h2,h3,h4⟩:=info_parts d2S
 exact⟨i0,_,h1,h3,h4,h2,rfl⟩
theorem d2R (w:World) (b n c i vb voff vc T tV:Nat) (cs vcs:Array Value) (us:List Value) (hi:i<n) (hroom:n+1≤c) (hc:c≤maxLen) (hh:w.heap[b]? = some (.cells cs T (0,0))) (hs:cs.size=c * 5) (hu:us.length=5)
  (hvh:w.heap[vb]? = some (.cells vcs tV (0,0))) (hvb:vb≠b) (hvs : ∀j v,us[j]? = some v→w.cell? ⟨vb,voff+j,none⟩=some v) (h1 : ∀u∈us,one u) (h1c : ∀u∈cs.toList.take (n * 5),one u) :
  Calls Tryz.prog 262 #[.slice (some ⟨b,0,none⟩) n c,.int .i64 i,.slice (some ⟨vb,voff,none⟩) 1 vc] w fun e w' =>
   ∃v,e = .returned v∧InsE w w' 5 (.slice (some ⟨b,0,none⟩) n c) v n i 1 b c cs us:=by
 obtain⟨inf,z,hinf,hsz,hby,hz,hzc⟩:=b7J
 have u25:=run_underlying Tryz.underlying25
 have z38 : ∀w,(sizeOf 52).run Tryz.prog w = .ok 5 w:=fun w=>by simp[sizeOf,typeInfo,hinf,hsz]
 have hc63:c≤9223372036854775807:=hc
 have hcb:n+1≤9223372036854775807:=by omega
 have hkB:cs.size≠0:=by rw[hs];omega
 have hov : ∀lb cb,(callFunc 280 #[.slice (some ⟨vb,voff,none⟩) 1 vc,.slice (some ⟨b,(i+1) * 5,none⟩) lb cb]).run Tryz.prog w = .ok (.value (.bool false)) w:=fun lb cb=>by
  rw[run_callFunc_extern Tryz.func280 (by kernel_rfl) (by kernel_rfl) (by kernel_rfl) (e:=Extern.SlicesOverlaps.overlaps #[25,25] #[4]) (by kernel_rfl),
   Lib.run_overlaps_apart w 25 4 52 Tryz.underlying25 5 z38 ⟨vb,voff,none⟩ ⟨b,(i+1) * 5,none⟩ 1 vc lb cb hvb tV T vcs.size cs.size (by simp[World.shape?,hvh]) (by simp[World.shape?,hh]) hkB (frozen_of_row _ _ _ _ _ hvh) (frozen_of_row _ _ _ _ _ hvh)]
  rfl
 have hw1:IntKind.i64.wrap ((n:Int)+1)=((n+1:Nat):Int):=by rw[IntKind.wrap_i64];omega
 have hw2:IntKind.i64.wrap ((i:Int)+1)=((i+1:Nat):Int):=by rw[IntKind.wrap_i64];omega
 have hne : ¬((i:Int)=(n:Int)):=by omega
 have mixed:=j3.mix
 have hb1:(0:Int)≤(i:Int)+1:=by omega
 have hin:i≤n:=by omega
 have hb2 : ¬(c=i+1):=by omega
 have hb3:(i:Int)≤(n:Int)+1:=by omega
 have hb4 : ¬(c=i):=by omega
 have htn:((i:Int)+1).toNat=i+1:=by omega
 go_enter Tryz.func262,Tryz.ntmps262
 go_wp2_with (simp only[hov])
 clear hov
 have htl:=a0b (i:=i) hs (show n≤c by omega)
 have hn5:(n+1) * 5≤c * 5:=Nat.mul_le_mul_right _ hroom
 have hsrc : ∀j v,((cs.toList.take (n * 5)).drop (i * 5))[j]? = some v→w.cell? ⟨b,i * 5+j,none⟩=some v:=fun j v hj=>by
  rw[List.getElem?_drop,List.getElem?_take]at hj
  rw[u0 hh]
  split at hj
  ·simpa using hj
  ·cases hj
 have hcp1 : ∀ty dc sc,(Builtin.copy_ #[25,25] ty #[.slice (some ⟨b,(i+1) * 5,none⟩) (n-i) dc,.slice (some ⟨b,i * 5,none⟩) (n+1-i) sc]).run Tryz.prog w.drew = .ok (goInt (n-i:Nat)) (wrote w.drew b ((i+1) * 5) cs ((cs.toList.take (n * 5)).drop (i * 5))):=fun ty dc sc =>
  D8 (k:=n-i) (us:=(cs.toList.take (n * 5)).drop (i * 5)) Tryz.underlying25 hinf (by simp only[Nat.min_def];split<;>omega) (by rw[hsz];exact htl) (fun j v hj=>by
   rw[A6]
   exact hsrc j v hj) hh (by rw[htl,hs];omega) (fun u hu=>h1c u (List.mem_of_mem_drop hu))
 go_region_law_o (refine step_copy_runI rfl _ _ 25 25 rfl _ _ (by simp[Act.eval,Act.put]) (by simp[Act.eval,Act.put]) (hcp1 _ _ _) ?_)
 have htl2:((cs.toList.take (n * 5)).drop (i * 5)).length=(n-i) * 5:=htl
 obtain⟨cs1,hcs1⟩ : ∃cs1,cs1=(putAt cs.toList ((i+1) * 5) ((cs.toList.take (n * 5)).drop (i * 5))).toArray:=⟨_,rfl⟩
 obtain⟨W1,hW1⟩ : ∃W1,W1=wrote w.drew b ((i+1) * 5) cs ((cs.toList.take (n * 5)).drop (i * 5)):=⟨_,rfl⟩
 have hh1:W1.heap[b]? = some (.cells cs1 T (0,0)):=by rw[hW1,hcs1];exact A8 hh
 have hv1:W1.heap[vb]? = some (.cells vcs tV (0,0)):=by rw[hW1,u7 hvb];exact hvh
 have hsz1:cs1.size=c * 5:=by rw[hcs1,List.size_toArray,s9 _ _ _ (by rw[htl2,Array.length_toList,hs];omega),Array.length_toList,hs]
 have hcp2 : ∀(W:World),W.heap=W1.heap → ∀ty dc,(Builtin.copy_ #[25,25] ty #[.slice (some ⟨b,i * 5,none⟩) (n+1-i) dc,.slice (some ⟨vb,voff,none⟩) 1 vc]).run Tryz.prog W = .ok (goInt (1:Nat)) (wrote W b (i * 5) cs1 us):=fun W hW ty dc =>
  D8 (k:=1) (us:=us) (T:=T) Tryz.underlying25 hinf (by simp only[Nat.min_def];split<;>omega) (by rw[hsz,hu]) (fun j v hj=>by
   rw[A6,u0 (cs:=vcs) (T:=tV) (by rw[hW];exact hv1)]
   have:=hvs j v hj
   rw[u0 hvh]at this
   exact this) (by rw[hW];exact hh1) (by rw[hu,hsz1];omega) h1
 rw[←hW1]
 go_wp2_with (at_builtin;refine wpList_copy_runI _ rfl _ _ 25 25 rfl _ _ rfl rfl (hcp2 _ rfl _ _) ?_)
 have hend:InsM w (wrote W1 b (i * 5) cs1 us) 5 (.slice (some ⟨b,0,none⟩) n c) (.slice (some ⟨b,0,none⟩) (n+1) c) n i 1 b c cs us b c (N9 cs 5 n i us).toArray T:=by
  refine InsM.room hh hs hroom hc hi hu ?_ (fun x hx => ?_) ?_ ?_ ?_ ?_
  ·rw[A8 hh1,N9,hcs1]
  ·rw[u7 hx,hW1,u7 hx];rfl
  ·rw[hW1];rfl
  ·rw[hW1];rfl
  ·rw[hW1];rfl
  ·rw[hW1];simp[wrote,World.setRow]
 subst hcs1
 subst hW1
 go_ret
 exact⟨.slice (some ⟨b,0,none⟩) (n+1) c,rfl,_,_,_,_,hend⟩
theorem d2T (w:World) (b n c i vb voff vc T tV:Nat) (cs vcs:Array Value) (us:List Value) (hi:i<n) (hnc:n≤c) (hroom:c<n+1) (hc:c≤maxLen) (hh:w.heap[b]? = some (.cells cs T (0,0))) (hs:cs.size=c * 5) (hu:us.length=5)
  (hvh:w.heap[vb]? = some (.cells vcs tV (0,0))) (hvs : ∀j v,us[j]? = some v→w.cell? ⟨vb,voff+j,none⟩=some v) (h1 : ∀u∈us,one u) (h1c : ∀u∈cs.toList.take (n * 5),one u) (hbig:(n+1) * 40≤140737488355328) :
  Calls Tryz.prog 262 #[.slice (some ⟨b,0,none⟩) n c,.int .i64 i,.slice (some ⟨vb,voff,none⟩) 1 vc] w fun e w' =>
   ∃v,e = .returned v∧InsE w w' 5 (.slice (some ⟨b,0,none⟩) n c) v n i 1 b c cs us:=by
 obtain⟨inf,z,hinf,hsz,hby,hz,hzc⟩:=b7J
 have u25:=run_underlying Tryz.underlying25
 have z38 : ∀w,(sizeOf 52).run Tryz.prog w = .ok 5 w:=fun w=>by simp[sizeOf,typeInfo,hinf,hsz]
 have mixed:=j3.mix
 have hc63:c≤9223372036854775807:=hc
 have hsrc : ∀j v,((cs.toList.take (n * 5)).drop (i * 5))[j]? = some v→w.cell? ⟨b,i * 5+j,none⟩=some v:=fun j v hj=>by
  rw[List.getElem?_drop,List.getElem?_take]at hj
  rw[u0 hh]
  split at hj
  ·simpa using hj
  ·cases hj
 have hi5:(i+1) * 5≤c * 5:=Nat.mul_le_mul_right _ (by omega)
 have hold:(Builtin.firstCells inf.size i (.slice (some ⟨b,0,none⟩) i c)).run Tryz.prog w.drew = .ok (cs.toList.take (i * 5)).toArray w.drew:=by
  rw[hsz]
  exact run_firstCells_some w.drew 5 i ⟨b,0,none⟩ i c (cs.toList.take (i * 5)) (by rw[List.length_take,Array.length_toList,hs];omega) (fun j v hj=>by
   rw[A6,Nat.zero_add,show w.drew.cell? ⟨b,j,none⟩=w.cell? ⟨b,j,none⟩from rfl,u0 hh]
   rw[List.getElem?_take]at hj
   split at hj
   ·simpa using hj
   ·cases hj)
 have hik:i+(n+1-i)=n+1:=by omega
 have hkk:(n:Int)+1-(i:Int)=((n+1-i:Nat):Int):=by omega
 have hrz : ∀ty,(Builtin.append_ #[25,3] ty #[.slice (some ⟨b,0,none⟩) i c,.int .i64 ((n:Int)+1-(i:Int))]).run Tryz.prog w =
   .ok (.slice (some ⟨w.heap.size,0,none⟩) (n+1) (grownCap w (n+1) c 52)) (w.drew.alloc (.cells ((cs.toList.take (i * 5)).toArray++Builtin.zeroCells z.cells (n+1-i)++Builtin.zeroCells z.cells (grownCap w (n+1) c 52-(n+1))) 52)):=fun ty=>by
  have h:=Lib.run_append_grow_zeros w 25 3 ty 52 inf z .i64 .i64 Tryz.underlying25 Tryz.underlying3 hinf hz (some ⟨b,0,none⟩) i c (cs.toList.take (i * 5)) hold (n+1-i) (by omega) (by omega) (by omega) (by omega) (by rw[hby];omega) (by rw[hby,hik];exact growslice_fits hroom hbig)
  rw[hik]at h
  rw[hkk]
  exact h
 obtain⟨G,hG⟩ : ∃G,G=grownCap w (n+1) c 52:=⟨_,rfl⟩
 have hGn:n+1≤G:=by rw[hG];exact grownCap_ge w _ _ _
 have hGm:G≤maxLen:=by rw[hG];exact grownCap_le_maxLen w (n+1) c _ (by unfold maxLen;omega)
 have hG63:G≤9223372036854775807:=hGm
 obtain⟨ROW,hROW⟩ : ∃ROW:Array Value,ROW=(cs.toList.take (i * 5)).toArray++Builtin.zeroCells z.cells (n+1-i)++Builtin.zeroCells z.cells (G-(n+1)):=⟨_,rfl⟩
 rw[←hG]at hrz
 rw[←hROW]at hrz
 have hRl:ROW.toList.length=G * 5:=by
  rw[hROW,Array.length_toList]
  simp only[Array.size_append,List.size_toArray,size_zeroCells,hzc,List.length_take,Array.length_toList,hs]
  omega
 have hR0 : ∀o,o<i * 5→ROW.toList[o]? = cs[o]? := fun o ho=>by
  have hl:(cs.toList.take (i * 5)).length=i * 5:=by rw[List.length_take,Array.length_toList,hs];omega
  rw[hROW]
  simp only[Array.toList_append]
  rw[List.append_assoc,List.getElem?_append_left (by rw[List.toList_toArray,hl];exact ho),List.toList_toArray,List.getElem?_take,if_pos ho]
  simp
 have htl:=a0b (i:=i) hs hnc
 have hbw:b<w.heap.size:=by
  rcases Nat.lt_or_ge b w.heap.size with h|h
  ·exact h
  ·rw[Array.getElem?_eq_none h]at hh;cases hh
 have hvw:vb<w.heap.size:=by
  rcases Nat.lt_or_ge vb w.heap.size with h|h
  ·exact h
  ·rw[Array.getElem?_eq_none h]at hvh;cases hvh
 obtain⟨W1,hW1⟩ : ∃W1,W1=w.drew.alloc (.cells ROW 52):=⟨_,rfl⟩
 rw[←hW1]at hrz
 have hN1:W1.heap[w.heap.size]? = some (.cells ROW 52 (0,0)):=by rw[hW1];exact a7v w _
 have hO1 : ∀x,x<w.heap.size→W1.heap[x]? = w.heap[x]? := fun x hx=>by rw[hW1];exact a7u w _ x hx
 obtain⟨R2,hR2⟩ : ∃R2,R2=(putAt ROW.toList (i * 5) us).toArray:=⟨_,rfl⟩
 have hG5:(n+1) * 5≤G * 5:=Nat.mul_le_mul_right _ hGn
 have hR2l:R2.size=G * 5:=by rw[hR2,List.size_toArray,s9 _ _ _ (by rw[hu,hRl];omega),hRl]
 have hcpA : ∀(W:World),W.heap=W1.heap → ∀ty dc,(Builtin.copy_ #[25,25] ty #[.slice (some ⟨w.heap.size,i * 5,none⟩) (n+1-i) dc,.slice (some ⟨vb,voff,none⟩) 1 vc]).run Tryz.prog W = .ok (goInt (1:Nat)) (wrote W w.heap.size (i * 5) ROW us):=fun W hW ty dc =>
  D8 (k:=1) (us:=us) (T:=52) Tryz.underlying25 hinf (by simp only[Nat.min_def];split<;>omega) (by rw[hsz,hu]) (fun j v hj=>by
   rw[A6,u0 (cs:=vcs) (T:=tV) (by rw[hW,hO1 _ hvw];exact hvh)]
   have:=hvs j v hj
   rw[u0 hvh]at this
   exact this) (by rw[hW];exact hN1) (by rw[hu,←Array.length_toList,hRl];omega) h1
 obtain⟨W2,hW2⟩ : ∃W2,W2=wrote W1 w.heap.size (i * 5) ROW us:=⟨_,rfl⟩
 have hcpB : ∀(W:World),W.heap=W2.heap → ∀ty dc sc,(Builtin.copy_ #[25,25] ty #[.slice (some ⟨w.heap.size,(i+1) * 5,none⟩) (n-i) dc,.slice (some ⟨b,i * 5,none⟩) (n-i) sc]).run Tryz.prog W = .ok (goInt (n-i:Nat)) (wrote W w.heap.size ((i+1) * 5) R2 ((cs.toList.take (n * 5)).drop (i * 5))):=fun W hW ty dc sc =>
  D8 (k:=n-i) (us:=(cs.toList.take (n * 5)).drop (i * 5)) (T:=52) Tryz.underlying25 hinf (by simp only[Nat.min_def];split<;>omega) (by rw[hsz,htl]) (fun j v hj=>by
   rw[A6,u0 (cs:=cs) (T:=T) (by rw[hW,hW2,u7 (by omega),hO1 _ hbw];exact hh)]
   have:=hsrc j v hj
   rw[u0 hh]at this
   exact this) (by rw[hW,hW2,hR2];exact A8 hN1) (by rw[htl,hR2l];omega) (fun u hu=>h1c u (List.mem_of_mem_drop hu))
 have hGi : ¬(G=i):=by omega
 have hGim : ¬(G=i+1):=by omega
 have hci : ¬(c=i):=by omega
 have hw1:IntKind.i64.wrap ((n:Int)+1)=((n+1:Nat):Int):=by rw[IntKind.wrap_i64];omega
 have hw2:IntKind.i64.wrap ((i:Int)+1)=((i+1:Nat):Int):=by rw[IntKind.wrap_i64];omega
 have hb1:(0:Int)≤(i:Int)+1:=by omega
 have hin:i≤n:=by omega
 have htn:((i:Int)+1).toNat=i+1:=by omega
 have hb3:(i:Int)≤(n:Int):=by omega
 have hne : ¬((i:Int)=(n:Int)):=by omega
 have hend : ∀W:World,W.heap=(wrote W2 w.heap.size ((i+1) * 5) R2 ((cs.toList.take (n * 5)).drop (i * 5))).heap→W.os=w.os→W.tape=w.tape→W.output=w.output→InsE w W 5 (.slice (some ⟨b,0,none⟩) n c) (.slice (some ⟨w.heap.size,0,none⟩) (n+1) G) n i 1 b c cs us:=fun W hW g1 g2 g3=>by
  refine⟨_,_,_,52,InsM.grow (row:=ROW.toList) hRl hs hnc hGn hGm hi hu hR0 ?_ rfl ?_ (fun x hx => ?_) g1 g2 g3⟩
  ·rw[hW,A8 (T:=52) (by rw[hW2,hR2];exact A8 hN1),a0S,hR2]
  ·rw[hW,hW2,hW1];simp[wrote,World.setRow,World.alloc]
  ·rw[hW,u7 (by omega),hW2,u7 (by omega)];exact hO1 x hx
 clear hkk hik hold hROW hG hRl hR0
 go_enter Tryz.func262,Tryz.ntmps262
 go_wp2_with (first
  |(at_builtin;refine Lib.wpList_append_run _ rfl _ _ _ _ rfl _ _ rfl rfl _ _ (hrz _) ?_)
  |(at_builtin;refine wpList_copy_runI _ rfl _ _ 25 25 rfl _ _ rfl rfl (hcpA _ rfl _ _) ?_))
 go_region_law_o (refine step_copy_runI rfl _ _ 25 25 rfl (.slice (some ⟨w.heap.size,(i+1) * 5,none⟩) (n-i) (G-(i+1))) (.slice (some ⟨b,i * 5,none⟩) (n-i) (c-i)) (by simp[Act.eval,Act.put]) (by simp[Act.eval,Act.put]) (hcpB _ (by rw[hW2,hW1];rfl) _ _ _) ?_)
 go_wp2
 go_ret
 exact⟨.slice (some ⟨w.heap.size,0,none⟩) (n+1) G,rfl,hend _ (by rw[hW2,hW1,hR2];rfl) rfl rfl rfl⟩
theorem d6d (w:World) (b n c vb voff vc T:Nat) (cs:Array Value) (us:List Value) (hn:n≤c) (hc:c≤maxLen) (hh:w.heap[b]? = some (.cells cs T (0,0))) (hs:cs.size=c * 5) (hu:us.length=5)
  (hvs : ∀j v,us[j]? = some v→w.cell? ⟨vb,voff+j,none⟩=some v) (h1 : ∀u∈us,one u) (hb:(n+1) * 40≤140737488355328) :
  Calls Tryz.prog 262 #[.slice (some ⟨b,0,none⟩) n c,.int .i64 n,.slice (some ⟨vb,voff,none⟩) 1 vc] w fun e w' =>
   ∃v,e = .returned v∧InsE w w' 5 (.slice (some ⟨b,0,none⟩) n c) v n n 1 b c cs us:=by
 obtain⟨inf,z,hinf,hsz,hby,hz,hzc⟩:=b7J
 have u25:=run_underlying Tryz.underlying25
 have z38 : ∀w,(sizeOf 52).run Tryz.prog w = .ok 5 w:=fun w=>by simp[sizeOf,typeInfo,hinf,hsz]
 have hc63:c≤9223372036854775807:=hc
 have mixed:=j3.mix
 rcases L6 (P:=Tryz.prog) (ty:=25) (w:=w) Tryz.underlying25 hinf hz hsz hby hzc (Old.row n b c cs T hh hn hc hs) (m:=1) (us:=us) ⟨by rw[hu],.inr (.inr ⟨vb,voff,vc,rfl,hvs⟩)⟩ h1 (by omega) (by simpa using hb)with ⟨_,h,_⟩|⟨v,w',b',cap',cs',T',hr,A⟩
 ·cases h
 ·have hend:InsE w w' 5 _ v _ _ 1 b _ cs us:=⟨_,_,_,_,A.ins⟩
  by_cases hcn:n=c
  ·subst hcn
   go_enter Tryz.func262,Tryz.ntmps262
   go_wp2_with (at_builtin;refine Lib.wpList_append_run _ rfl _ _ _ _ rfl _ _ rfl rfl _ _ hr ?_)
   go_ret
   exact⟨v,rfl,hend⟩
  ·have hcn2 : ¬(c=n):=fun h=>hcn h.symm
   go_enter Tryz.func262,Tryz.ntmps262
   go_wp2_with (at_builtin;refine Lib.wpList_append_run _ rfl _ _ _ _ rfl _ _ rfl rfl _ _ hr ?_)
   go_ret
   exact⟨v,rfl,hend⟩
theorem d6c (w:World) (b vb voff vc T:Nat) (cs:Array Value) (us:List Value) (hcs:cs = #[]) (hu:us.length=5)
  (hvs : ∀j v,us[j]? = some v→w.cell? ⟨vb,voff+j,none⟩=some v) (h1 : ∀u∈us,one u) :
  Calls Tryz.prog 262 #[.slice none 0 0,.int .i64 0,.slice (some ⟨vb,voff,none⟩) 1 vc] w fun e w' =>
   ∃v,e = .returned v∧InsE w w' 5 (.slice none 0 0) v 0 0 1 b 0 cs us:=by
 obtain⟨inf,z,hinf,hsz,hby,hz,hzc⟩:=b7J
 have u25:=run_underlying Tryz.underlying25
 have z38 : ∀w,(sizeOf 52).run Tryz.prog w = .ok 5 w:=fun w=>by simp[sizeOf,typeInfo,hinf,hsz]
 have mixed:=j3.mix
 rcases L6 (P:=Tryz.prog) (ty:=25) (w:=w) Tryz.underlying25 hinf hz hsz hby hzc (Old.nil b 0 cs T hcs rfl) (m:=1) (us:=us) ⟨by rw[hu],.inr (.inr ⟨vb,voff,vc,rfl,hvs⟩)⟩ h1 (by omega) (by omega)with ⟨_,_,_,h⟩|⟨v,w',b',cap',cs',T',hr,A⟩
 ·cases h
 ·go_enter Tryz.func262,Tryz.ntmps262
  have hend:InsE w w' 5 _ v _ _ 1 b _ cs us:=⟨_,_,_,_,A.ins⟩
  go_wp2_with (at_builtin;refine Lib.wpList_append_run _ rfl _ _ _ _ rfl _ _ rfl rfl _ _ hr ?_)
  all_goals go_ret
  all_goals first|exact⟨v,rfl,hend⟩|(have hcn:c=n:=by(first|assumption|(symm;assumption)|omega);subst hcn;exact⟨v,rfl,hend⟩)
theorem d9a:c1S Tryz.prog 262 .wlk:=by
 intro w s n b cap cs T i vb vcap vT vcs us hO hi hvb hvh hu hvs h1 h1c hL
 have hs5:RT.size .wlk=5:=rfl
 have hb5:RT.bytes .wlk=40:=rfl
 rw[hs5]at *
 rw[hb5]at hL
 cases hO with
 |nil _ _ _ _ hcs hcap =>
  have:i=0:=by omega
  subst this
  subst hcap
  exact d6c w b vb 0 vcap T cs us hcs hu hvs h1
 |row _ _ _ _ _ hh hnc hcm hcs =>
  rcases Nat.lt_or_ge i n with hlt|hge
  ·rcases Nat.lt_or_ge cap (n+1)with hr|hr
   ·exact d2T w b n cap i vb 0 vcap T vT cs vcs us hlt hnc hr hcm hh hcs hu hvh hvs h1 h1c hL
   ·exact d2R w b n cap i vb 0 vcap T vT cs vcs us hlt hr hcm hh hcs hu hvh (hvb ⟨_,rfl⟩) hvs h1 h1c
  ·have:i=n:=by omega
   subst this
   exact d6d w b i cap vb 0 vcap T cs us hnc hcm hh hcs hu hvs h1 hL
theorem d1Z:b9 Tryz.prog 262 (.raw (insM .wlk)) :=
 c3q ⟨_,_,Tryz.func262,by kernel_rfl,rfl⟩ d9a
end Go.Proofs.YtmnapekfeenknaaGreat
