/-
  Contracts: a1B, walkers.
-/
import Derived.Test.YtiioognflecdgaaGreatTok
import Derived.Test.YtiioognflecdgaaGreatM1
import Derived.Test.YtiioognflecdgaaGreatM2
import Derived.Test.YtiioognflecdgaaGreatS5
set_option linter.unusedVariables false
set_option linter.unusedSimpArgs false
set_option maxRecDepth 100000
set_option maxHeartbeats 8000000
namespace Go.Proofs.YtiioognflecdgaaGreat
open Go.Sx Go.Proofs Go.Mo
noncomputable def sIn:Sx.Spec:=⟨false,true,[.int .i64,.int .i64,.int .i64],[],fun _ _ ⟨n,a,b,_⟩ => .ret (vB fun _=>inR (n ()) (a ()) (b ()),fun _=>0)⟩
noncomputable def A9:Sx.Spec:=⟨false,true,[.map],[],fun _ _ ⟨m,_⟩ => .ret (vB fun _=>p7 (m ()),fun _=>0)⟩
noncomputable def C8:Sx.Spec:=⟨false,true,[.map,.int .i64],[],fun _ _ ⟨m,a,_⟩ => .ret (vI fun _=>m5 (m ()) (a ()),fun _=>0)⟩
noncomputable def F9:Sx.Spec:=⟨false,true,[.map,.int .i64,.int .i64],[],fun _ _ ⟨m,a,s,_⟩ => .ret (vI fun _=>b7 (m ()) (a ()) (s ()),fun _=>0)⟩
noncomputable def R8:Sx.Spec:=⟨false,true,[.map,.int .i64,.int .i64],[],fun _ _ ⟨m,a,s,_⟩ => .ret (vB fun _=>N8 (m ()) (a ()) (s ()),fun _=>0)⟩
noncomputable def a5K:Sx.Spec:=⟨false,true,[.map,.int .i64],[],fun _ _ ⟨m,a,_⟩ => .asrt (fun _ => -9223372036854775808<(m ()).cells) (.ret (vB fun _=>decide (0≤a ()∧a ()<(m ()).cells),fun _=>0))⟩
noncomputable def a8E:Sx.Spec:=⟨false,true,[.int .i64],[],fun _ _ ⟨a,_⟩ => .ret (vB fun _=>decide (a ()=0∨a ()=1),fun _=>0)⟩
noncomputable def a4a:Sx.Spec:=⟨false,true,[.int .i64],[],fun _ _ ⟨a,_⟩ => .asrt (fun _=>a ()=0∨a ()=1) (.ret (vI fun _=>2 * a ()-1,fun _=>0))⟩
noncomputable def a1Q:Sx.Spec:=⟨false,true,[.int .i64],[],fun _ _ ⟨a,_⟩ => .ret (vB fun _=>decide (1≤a ()∧a ()≤9),fun _=>0)⟩
noncomputable def a3n:Sx.Spec:=⟨false,true,[.map,.row .wlk],[],fun _ _ ⟨m,w,_⟩ => .ret (vB fun _=>Q8 (m ()) (w ()),fun _=>0)⟩
noncomputable def c0V:Sx.Spec:=⟨false,true,[.row .wlk],[],fun _ _ ⟨w,_⟩ => .ret (vB fun _=>a6Q (w ()),fun _=>0)⟩
noncomputable def a7S:Sx.Spec:=⟨false,true,[.map,.list .wlk],[],fun _ _ ⟨m,l,_⟩ => .ret (vB fun _=>z6 (m ()) (l ())&&p7 (m ()),fun _=>0)⟩
noncomputable def U3:Sx.Spec:=⟨false,true,[.map,.list .wlk],[],fun _ _ ⟨m,l,_⟩ => .ret (vB fun _=>z6 (m ()) (l ()),fun _=>0)⟩
theorem okIn:b6 Tryz.prog 38 sIn:=j3 b9 (ss := []) trivial rfl rfl<|by
 intro(bs:Th (List Int)) (p:Th Int) ⟨(n:Th Int),(a:Th Int),(b:Th Int),u⟩ K _ _ _ h
 obtain⟨n,rfl⟩:=a8 n;obtain⟨a,rfl⟩:=a8 a;obtain⟨b,rfl⟩:=a8 b
 refine⟨noAnn,noAnn,20,?_⟩
 cbv
 repeat' first|((with_reducible intro _);cbv)|(with_reducible refine And.intro ?_ ?_)
 all_goals first|(refine retK h ?_;clear h;simp only[fin0])|(with_reducible refine Ob.mk ?_;clear h)|(clear h)
 all_goals(try simp only[eta0,RT.bytes]at *)
 all_goals grind[inR]
theorem G7:b6 Tryz.prog 97 sIn:=j3 b9 (ss := []) trivial rfl rfl<|by
 intro(bs:Th (List Int)) (p:Th Int) ⟨(n:Th Int),(a:Th Int),(b:Th Int),u⟩ K _ _ _ h
 obtain⟨n,rfl⟩:=a8 n;obtain⟨a,rfl⟩:=a8 a;obtain⟨b,rfl⟩:=a8 b
 refine⟨noAnn,noAnn,20,?_⟩
 cbv
 repeat' first|((with_reducible intro _);cbv)|(with_reducible refine And.intro ?_ ?_)
 all_goals first|(refine retK h ?_;clear h;simp only[fin0])|(with_reducible refine Ob.mk ?_;clear h)|(clear h)
 all_goals(try simp only[eta0,RT.bytes]at *)
 all_goals grind[inR]
theorem S6:b6 Tryz.prog 55 A9:=j3 b9 (ss := [(38,sIn)]) ⟨okIn,trivial⟩ rfl rfl<|by
 intro(bs:Th (List Int)) (p:Th Int) ⟨(m:Th PMap),u⟩ K _ _ _ h
 obtain⟨m,rfl⟩:=a8 m
 refine⟨noAnn,noAnn,20,?_⟩
 cbv
 repeat' first|((with_reducible intro _);cbv)|(with_reducible refine And.intro ?_ ?_)
 all_goals first|(refine retK h ?_;clear h;simp only[fin0])|(with_reducible refine Ob.mk ?_;clear h)|(clear h)
 all_goals(try simp only[eta0,RT.bytes]at *)
 all_goals grind[inR,p7]
theorem C9:b6 Tryz.prog 48 A9:=j3 b9 (ss := [(97,sIn)]) ⟨G7,trivial⟩ rfl rfl<|by
 intro(bs:Th (List Int)) (p:Th Int) ⟨(m:Th PMap),u⟩ K _ _ _ h
 obtain⟨m,rfl⟩:=a8 m
 refine⟨noAnn,noAnn,20,?_⟩
 cbv
 repeat' first|((with_reducible intro _);cbv)|(with_reducible refine And.intro ?_ ?_)
 all_goals first|(refine retK h ?_;clear h;simp only[fin0])|(with_reducible refine Ob.mk ?_;clear h)|(clear h)
 all_goals(try simp only[eta0,RT.bytes]at *)
 all_goals grind[inR,p7]
theorem Y1:b6 Tryz.prog 125 C8:=j3 b9 (ss := [(38,sIn),(55,A9)]) ⟨okIn,S6,trivial⟩ rfl rfl<|by
 intro(bs:Th (List Int)) (p:Th Int) ⟨(m:Th PMap),(a:Th Int),u⟩ K _ _ _ h
 obtain⟨m,rfl⟩:=a8 m;obtain⟨a,rfl⟩:=a8 a
 have hm:=a4f (m:=m)
 have hi:=s0 (m:=m)
 refine⟨noAnn,noAnn,20,?_⟩
 cbv
 repeat' first|((with_reducible intro _);cbv)|(with_reducible refine And.intro ?_ ?_)
 all_goals first|(refine retK h ?_;clear h;simp only[fin0])|(with_reducible refine Ob.mk ?_;clear h)|(clear h)
 all_goals(try simp only[eta0,RT.bytes]at *)
 all_goals grind[m5,inR,b8,c6A]
theorem I0:b6 Tryz.prog 156 C8:=j3 b9 (ss := [(97,sIn),(48,A9)]) ⟨G7,C9,trivial⟩ rfl rfl<|by
 intro(bs:Th (List Int)) (p:Th Int) ⟨(m:Th PMap),(a:Th Int),u⟩ K _ _ _ h
 obtain⟨m,rfl⟩:=a8 m;obtain⟨a,rfl⟩:=a8 a
 have hm:=a4f (m:=m)
 have hi:=s0 (m:=m)
 refine⟨noAnn,noAnn,20,?_⟩
 cbv
 repeat' first|((with_reducible intro _);cbv)|(with_reducible refine And.intro ?_ ?_)
 all_goals first|(refine retK h ?_;clear h;simp only[fin0])|(with_reducible refine Ob.mk ?_;clear h)|(clear h)
 all_goals(try simp only[eta0,RT.bytes]at *)
 all_goals grind[m5,inR,b8,c6A]
theorem a7s:b6 Tryz.prog 80 a5K:=j3 b9 (ss := [(38,sIn)]) ⟨okIn,trivial⟩ rfl rfl<|by
 intro(bs:Th (List Int)) (p:Th Int) ⟨(m:Th PMap),(a:Th Int),u⟩ K _ _ ho h
 obtain⟨m,rfl⟩:=a8 m;obtain⟨a,rfl⟩:=a8 a
 obtain⟨hp,h⟩:=h
 have hp:=hp.out
 have ho:=okI (ho.1 _ (.head _))
 refine⟨noAnn,noAnn,20,?_⟩
 cbv
 repeat' first|((with_reducible intro _);cbv)|(with_reducible refine And.intro ?_ ?_)
 all_goals first|(refine retK h ?_;clear h;simp only[fin0])|(with_reducible refine Ob.mk ?_;clear h)|(clear h)
 all_goals(try simp only[eta0,RT.bytes]at *)
 all_goals grind[inR,b8]
theorem b0f:b6 Tryz.prog 120 a8E:=j3 b9 (ss := []) trivial rfl rfl<|by
 intro(bs:Th (List Int)) (p:Th Int) ⟨(a:Th Int),u⟩ K _ _ _ h
 obtain⟨a,rfl⟩:=a8 a
 refine⟨noAnn,noAnn,20,?_⟩
 cbv
 repeat' first|((with_reducible intro _);cbv)|(with_reducible refine And.intro ?_ ?_)
 all_goals first|(refine retK h ?_;clear h;simp only[fin0])|(with_reducible refine Ob.mk ?_;clear h)|(clear h)
 all_goals(try simp only[eta0,RT.bytes]at *)
 all_goals grind
theorem a3C:b6 Tryz.prog 122 a4a:=j3 b9 (ss := []) trivial rfl rfl<|by
 intro(bs:Th (List Int)) (p:Th Int) ⟨(a:Th Int),u⟩ K _ _ _ h
 obtain⟨a,rfl⟩:=a8 a
 obtain⟨hp,h⟩:=h
 have hp:=hp.out
 refine⟨noAnn,noAnn,20,?_⟩
 cbv
 repeat' first|((with_reducible intro _);cbv)|(with_reducible refine And.intro ?_ ?_)
 all_goals first|(refine retK h ?_;clear h;simp only[fin0])|(with_reducible refine Ob.mk ?_;clear h)|(clear h)
 all_goals(try simp only[eta0,RT.bytes]at *)
 all_goals grind[b8]
theorem a2E:b6 Tryz.prog 37 a1Q:=j3 b9 (ss := [(38,sIn)]) ⟨okIn,trivial⟩ rfl rfl<|by
 intro(bs:Th (List Int)) (p:Th Int) ⟨(a:Th Int),u⟩ K _ _ _ h
 obtain⟨a,rfl⟩:=a8 a
 refine⟨noAnn,noAnn,20,?_⟩
 cbv
 repeat' first|((with_reducible intro _);cbv)|(with_reducible refine And.intro ?_ ?_)
 all_goals first|(refine retK h ?_;clear h;simp only[fin0])|(with_reducible refine Ob.mk ?_;clear h)|(clear h)
 all_goals(try simp only[eta0,RT.bytes]at *)
 all_goals grind[inR]
theorem U5:b6 Tryz.prog 85 F9:=j3 b9 (ss := [(55,A9),(80,a5K),(120,a8E),(122,a4a)]) ⟨S6,a7s,b0f,a3C,trivial⟩ rfl rfl<|by
 intro(bs:Th (List Int)) (p:Th Int) ⟨(m:Th PMap),(a:Th Int),(s:Th Int),u⟩ K _ _ _ h
 obtain⟨m,rfl⟩:=a8 m;obtain⟨a,rfl⟩:=a8 a;obtain⟨s,rfl⟩:=a8 s
 have hi:=s0 (m:=m)
 refine⟨noAnn,noAnn,20,?_⟩
 cbv
 repeat' first|((with_reducible intro _);cbv)|(with_reducible refine And.intro ?_ ?_)
 all_goals first|(refine retK h ?_;clear h;simp only[fin0])|(with_reducible refine Ob.mk ?_;clear h)|(clear h)
 all_goals(try simp only[eta0,RT.bytes]at *)
 all_goals grind[b7,b8]
theorem Y0:b6 Tryz.prog 151 F9:=j3 b9 (ss := [(48,A9),(97,sIn)]) ⟨C9,G7,trivial⟩ rfl rfl<|by
 intro(bs:Th (List Int)) (p:Th Int) ⟨(m:Th PMap),(a:Th Int),(s:Th Int),u⟩ K _ _ _ h
 obtain⟨m,rfl⟩:=a8 m;obtain⟨a,rfl⟩:=a8 a;obtain⟨s,rfl⟩:=a8 s
 have hi:=s0 (m:=m)
 refine⟨noAnn,noAnn,20,?_⟩
 cbv
 repeat' first|((with_reducible intro _);cbv)|(with_reducible refine And.intro ?_ ?_)
 all_goals first|(refine retK h ?_;clear h;simp only[fin0])|(with_reducible refine Ob.mk ?_;clear h)|(clear h)
 all_goals(try simp only[eta0,RT.bytes]at *)
 all_goals grind[b7,b8,inR]
theorem a1W:b6 Tryz.prog 126 R8:=j3 b9 (ss := [(125,C8),(85,F9),(122,a4a)]) ⟨Y1,U5,a3C,trivial⟩ rfl rfl<|by
 intro(bs:Th (List Int)) (p:Th Int) ⟨(m:Th PMap),(a:Th Int),(s:Th Int),u⟩ K _ _ ho h
 obtain⟨m,rfl⟩:=a8 m;obtain⟨a,rfl⟩:=a8 a;obtain⟨s,rfl⟩:=a8 s
 have hb:=okI (ho.2.1 _ (.head _))
 refine⟨noAnn,noAnn,20,?_⟩
 have hs := @H9 m (m5 m a) s
 have hc := @O5 m a
 have he := @d1i m a s
 have hi:=s0 (m:=m)
 have hm:=a4f (m:=m)
 cbv
 repeat' first|((with_reducible intro _);cbv)|(with_reducible refine And.intro ?_ ?_)
 all_goals first|(refine retK h ?_;clear h;simp only[fin0])|(with_reducible refine Ob.mk ?_;clear h)|(clear h)
 all_goals(try simp only[eta0,RT.bytes]at *)
 ·grind
 ·rename_i h1 h2
  have h1:b7 m (m5 m a) s ≠ -1:=by simpa using h2
  have hw:IntKind.i64.wrap (a+(2 * s-1))=a+(2 * s-1):=by grind[b8]
  rw[hw]
  simp only[N8,h1,ne_eq,not_false_eq_true,true_and,decide_eq_decide]
  exact he h1
 ·grind[N8]
 ·grind[N8]
theorem a4W:b6 Tryz.prog 188 R8:=j3 b9 (ss := [(156,C8),(151,F9)]) ⟨I0,Y0,trivial⟩ rfl rfl<|by
 intro(bs:Th (List Int)) (p:Th Int) ⟨(m:Th PMap),(a:Th Int),(s:Th Int),u⟩ K _ _ _ h
 obtain⟨m,rfl⟩:=a8 m;obtain⟨a,rfl⟩:=a8 a;obtain⟨s,rfl⟩:=a8 s
 refine⟨noAnn,noAnn,20,?_⟩
 have hs := @H9 m (m5 m a) s
 have hc := @O5 m a
 have hi:=s0 (m:=m)
 have hm:=a4f (m:=m)
 have hd := @b6A m a
 cbv
 repeat' first|((with_reducible intro _);cbv)|(with_reducible refine And.intro ?_ ?_)
 all_goals first|(refine retK h ?_;clear h;simp only[fin0])|(with_reducible refine Ob.mk ?_;clear h)|(clear h)
 all_goals(try simp only[eta0,RT.bytes]at *)
 all_goals grind[N8,b8]
theorem c6Y:b6 Tryz.prog 172 c0V:=j3 b9 (ss := [(38,sIn),(37,a1Q)]) ⟨okIn,a2E,trivial⟩ rfl rfl<|by
 intro(bs:Th (List Int)) (p:Th Int) ⟨(w:Th Wlk),u⟩ K _ _ _ h
 obtain⟨w,rfl⟩:=a8 w
 refine⟨noAnn,noAnn,20,?_⟩
 cbv
 repeat' first|((with_reducible intro _);cbv)|(with_reducible refine And.intro ?_ ?_)
 all_goals first|(refine retK h ?_;clear h;simp only[fin0])|(with_reducible refine Ob.mk ?_;clear h)|(clear h)
 all_goals(try simp only[eta0,RT.bytes]at *)
 all_goals grind[inR,a6Q]
theorem b4p:b6 Tryz.prog 124 a3n:=j3 b9 (ss := [(125,C8),(172,c0V)]) ⟨Y1,c6Y,trivial⟩ rfl rfl<|by
 intro(bs:Th (List Int)) (p:Th Int) ⟨(m:Th PMap),(w:Th Wlk),u⟩ K _ _ _ h
 obtain⟨m,rfl⟩:=a8 m;obtain⟨w,rfl⟩:=a8 w
 refine⟨noAnn,noAnn,20,?_⟩
 cbv
 repeat' first|((with_reducible intro _);cbv)|(with_reducible refine And.intro ?_ ?_)
 all_goals first|(refine retK h ?_;clear h;simp only[fin0])|(with_reducible refine Ob.mk ?_;clear h)|(clear h)
 all_goals(try simp only[eta0,RT.bytes]at *)
 all_goals grind[Q8,a6Q]
theorem a9X:b6 Tryz.prog 155 a3n:=j3 b9 (ss := [(156,C8),(97,sIn)]) ⟨I0,G7,trivial⟩ rfl rfl<|by
 intro(bs:Th (List Int)) (p:Th Int) ⟨(m:Th PMap),(w:Th Wlk),u⟩ K _ _ _ h
 obtain⟨m,rfl⟩:=a8 m;obtain⟨w,rfl⟩:=a8 w
 refine⟨noAnn,noAnn,20,?_⟩
 cbv
 repeat' first|((with_reducible intro _);cbv)|(with_reducible refine And.intro ?_ ?_)
 all_goals first|(refine retK h ?_;clear h;simp only[fin0])|(with_reducible refine Ob.mk ?_;clear h)|(clear h)
 all_goals(try simp only[eta0,RT.bytes]at *)
 all_goals grind[Q8,inR]
theorem b6I:b6 Tryz.prog 168 a7S:=j3 b9 (ss := [(124,a3n),(55,A9)]) ⟨b4p,S6,trivial⟩ rfl rfl<|by
 intro(bs:Th (List Int)) (p:Th Int) ⟨(m:Th PMap),(l:Th (List Wlk)),u⟩ K _ _ ho h
 obtain⟨m,rfl⟩:=a8 m;obtain⟨l,rfl⟩:=a8 l
 have hl:=okL (ho.2.1 _ (.head _))
 refine⟨annL [(168,2,⟨Nat,[],fun σ k => σ.t 9 (vI fun _=>(k:Int)),fun _ k _=>k≤l.length∧l9 k (a2S m l)=true,fun _ k _=>l.length-k⟩)],noAnn,20,?_⟩
 cbv
 repeat' first|((with_reducible refine fun(k:Nat) => ?_);cbv)|((with_reducible intro _);cbv)|(with_reducible refine And.intro ?_ ?_)
 all_goals try((first|(with_reducible refine LoopIn.mk ((0:Nat)) ?_ ?_)|(with_reducible refine LoopBack.mk ((k+1:Nat)) ?_ ?_ ?_)) )
 all_goals try((with_reducible show l8 _ _);cbv;(try simp only[and_true,true_and]))
 all_goals try(repeat' with_reducible refine And.intro ?_ ?_)
 all_goals first|(refine retK h ?_;clear h;simp only[fin0])|(with_reducible refine Ob.mk ?_;clear h)|(clear h)
 all_goals(try simp only[eta0,RT.bytes]at *)
 all_goals grind[n8,n3,a2S,z6,a0x,j4,a8T,a7O]
theorem V8:b6 Tryz.prog 103 U3:=j3 b9 (ss := [(155,a3n)]) ⟨a9X,trivial⟩ rfl rfl<|by
 intro(bs:Th (List Int)) (p:Th Int) ⟨(m:Th PMap),(l:Th (List Wlk)),u⟩ K _ _ ho h
 obtain⟨m,rfl⟩:=a8 m;obtain⟨l,rfl⟩:=a8 l
 have hl:=okL (ho.2.1 _ (.head _))
 refine⟨annL [(103,2,⟨Nat,[],fun σ k => σ.t 5 (vI fun _=>(k:Int)),fun _ k _=>k≤l.length∧l9 k (a2S m l)=true,fun _ k _=>l.length-k⟩)],noAnn,20,?_⟩
 cbv
 repeat' first|((with_reducible refine fun(k:Nat) => ?_);cbv)|((with_reducible intro _);cbv)|(with_reducible refine And.intro ?_ ?_)
 all_goals try((first|(with_reducible refine LoopIn.mk ((0:Nat)) ?_ ?_)|(with_reducible refine LoopBack.mk ((k+1:Nat)) ?_ ?_ ?_)) )
 all_goals try((with_reducible show l8 _ _);cbv;(try simp only[and_true,true_and]))
 all_goals try(repeat' with_reducible refine And.intro ?_ ?_)
 all_goals first|(refine retK h ?_;clear h;simp only[fin0])|(with_reducible refine Ob.mk ?_;clear h)|(clear h)
 all_goals(try simp only[eta0,RT.bytes]at *)
 all_goals grind[n8,n3,a2S,z6,a0x,j4,a8T,a7O]
noncomputable def a1e:Sx.Spec:=⟨false,true,[.list .wlk,.int .i64],[[some .wlk]],fun _ _ ⟨l,i,_⟩ => .ret (vW .wlk fun _=>F6 (l ()) (i ()),fun _=>0)⟩
noncomputable def a5L:Sx.Spec:=⟨false,true,[.list .wlk],[[some .wlk]],fun _ _ ⟨l,_⟩ => .ret (vW .wlk fun _=>l (),fun _=>0)⟩
noncomputable def a9m:Sx.Spec:=⟨false,true,[.list .wlk,.int .i64],[],fun _ _ ⟨l,i,_⟩ => .ret (vI fun _=>k8 (l ()) (i ()),fun _=>0)⟩
noncomputable def Z6:Sx.Spec:=⟨false,true,[.list .wlk,.int .i64],[],fun _ _ ⟨l,i,_⟩ => .ret (.tup [oWlk fun _=>P9 (l ()) (i ()),vB fun _=>s8 (l ()) (i ())],fun _=>0)⟩
theorem a6e:b6 Tryz.prog 228 a1e:=j3 b9 (ss := []) trivial rfl rfl<|by
 intro(bs:Th (List Int)) (p:Th Int) ⟨(l:Th (List Wlk)),(i:Th Int),u⟩ K _ _ ho h
 obtain⟨l,rfl⟩:=a8 l;obtain⟨i,rfl⟩:=a8 i
 have hl:=okB (ho.1 _ (.head _))
 have hz:=a5s l i
 refine⟨annL [(228,3,⟨Nat,[⟨.tmp 5 0,some 22,.wlk⟩],fun σ k=>((σ.t 10 (vI fun _=>(k:Int))).t 5 (vO 22 1)).row 22 1 .wlk (fun _=>O1 l i k),fun _ k _=>k≤l.length,fun _ k _=>l.length-k⟩)],noAnn,20,?_⟩
 cbv
 repeat' first|((with_reducible refine fun(k:Nat) => ?_);cbv)|((with_reducible intro _);cbv)|(with_reducible refine And.intro ?_ ?_)
 all_goals try((first|(with_reducible refine LoopIn.mk ((0:Nat)) ?_ ?_)|(with_reducible refine LoopBack.mk ((k+1:Nat)) ?_ ?_ ?_)) )
 all_goals try((with_reducible show l8 _ _);cbv;(try simp only[and_true,true_and]))
 all_goals try(repeat' with_reducible refine And.intro ?_ ?_)
 all_goals first|(refine retK h ?_;clear h;simp only[fin0])|(with_reducible refine Ob.mk ?_;clear h)|(clear h)
 all_goals(try simp only[eta0,RT.bytes]at *)
 all_goals grind[a4w,a5t,a5r,a7N,j4]
theorem b2A:b6 Tryz.prog 102 a1e:=j3 b9 (ss := []) trivial rfl rfl<|by
 intro(bs:Th (List Int)) (p:Th Int) ⟨(l:Th (List Wlk)),(i:Th Int),u⟩ K _ _ ho h
 obtain⟨l,rfl⟩:=a8 l;obtain⟨i,rfl⟩:=a8 i
 have hl:=okB (ho.1 _ (.head _))
 have hz:=a5s l i
 refine⟨annL [(102,3,⟨Nat,[⟨.tmp 5 0,some 8,.wlk⟩],fun σ k=>(((σ.fg 8).t 6 (vI fun _=>(k:Int))).t 5 (vO 8 1)).row 8 1 .wlk (fun _=>O1 l i k),fun _ k _=>k≤l.length,fun _ k _=>l.length-k⟩)],noAnn,20,?_⟩
 cbv
 repeat' first|((with_reducible refine fun(k:Nat) => ?_);cbv)|((with_reducible intro _);cbv)|(with_reducible refine And.intro ?_ ?_)
 all_goals try((first|(with_reducible refine LoopIn.mk ((0:Nat)) ?_ ?_)|(with_reducible refine LoopBack.mk ((k+1:Nat)) ?_ ?_ ?_)) )
 all_goals try((with_reducible show l8 _ _);cbv;(try simp only[and_true,true_and]))
 all_goals try(repeat' with_reducible refine And.intro ?_ ?_)
 all_goals first|(refine retK h ?_;clear h;simp only[fin0])|(with_reducible refine Ob.mk ?_;clear h)|(clear h)
 all_goals(try simp only[eta0,RT.bytes]at *)
 all_goals grind[a4w,a5t,a5r,a7N,j4]
theorem b7a:b6 Tryz.prog 189 a5L:=j3 b9 (ss := []) trivial rfl rfl<|by
 intro(bs:Th (List Int)) (p:Th Int) ⟨(l:Th (List Wlk)),u⟩ K _ _ ho h
 obtain⟨l,rfl⟩:=a8 l
 have hl:=okB (ho.1 _ (.head _))
 refine⟨noAnn,noAnn,20,?_⟩
 cbv
 repeat' first|((with_reducible intro _);cbv)|(with_reducible refine And.intro ?_ ?_)
 all_goals first|(refine retK h ?_;clear h;simp only[fin0])|(with_reducible refine Ob.mk ?_;clear h)|(clear h)
 all_goals(try simp only[eta0,RT.bytes]at *)
 all_goals grind
theorem c7b:b6 Tryz.prog 197 a5L:=j3 b9 (ss := []) trivial rfl rfl<|by
 intro(bs:Th (List Int)) (p:Th Int) ⟨(l:Th (List Wlk)),u⟩ K _ _ ho h
 obtain⟨l,rfl⟩:=a8 l
 have hl:=okB (ho.1 _ (.head _))
 refine⟨noAnn,noAnn,20,?_⟩
 cbv
 repeat' first|((with_reducible intro _);cbv)|(with_reducible refine And.intro ?_ ?_)
 all_goals first|(refine retK h ?_;clear h;simp only[fin0])|(with_reducible refine Ob.mk ?_;clear h)|(clear h)
 all_goals(try simp only[eta0,RT.bytes]at *)
 all_goals grind
theorem a8I:b6 Tryz.prog 225 a9m:=j3 b9 (ss := []) trivial rfl rfl<|by
 intro(bs:Th (List Int)) (p:Th Int) ⟨(l:Th (List Wlk)),(i:Th Int),u⟩ K _ _ ho h
 obtain⟨l,rfl⟩:=a8 l;obtain⟨i,rfl⟩:=a8 i
 have hl:=okL (ho.1 _ (.head _))
 refine⟨annL [(244,2,⟨Nat,[],fun σ k => σ.t 8 (vI fun _=>(k:Int)),fun _ k _=>k≤l.length∧l9 k (nid l i)=true,fun _ k _=>l.length-k⟩)],noAnn,20,?_⟩
 cbv
 repeat' first|((with_reducible refine fun(k:Nat) => ?_);cbv)|((with_reducible intro _);cbv)|(with_reducible refine And.intro ?_ ?_)
 all_goals try((first|(with_reducible refine LoopIn.mk ((0:Nat)) ?_ ?_)|(with_reducible refine LoopBack.mk ((k+1:Nat)) ?_ ?_ ?_)) )
 all_goals try((with_reducible show l8 _ _);cbv;(try simp only[and_true,true_and]))
 all_goals try(repeat' with_reducible refine And.intro ?_ ?_)
 all_goals first|(refine retK h ?_;clear h;simp only[fin0])|(with_reducible refine Ob.mk ?_;clear h)|(clear h)
 all_goals(try simp only[eta0,RT.bytes]at *)
 all_goals grind[n8,n3,nid,isId,b6C,a9O,j4]
theorem b2y:b6 Tryz.prog 194 Z6:=j3 b9 (ss := [(225,a9m)]) ⟨a8I,trivial⟩ rfl rfl<|by
 intro(bs:Th (List Int)) (p:Th Int) ⟨(l:Th (List Wlk)),(i:Th Int),u⟩ K _ _ ho h
 obtain⟨l,rfl⟩:=a8 l;obtain⟨i,rfl⟩:=a8 i
 have hp:=O6 l i
 refine⟨noAnn,noAnn,20,?_⟩
 cbv
 repeat' first|((with_reducible intro _);cbv)|(with_reducible refine And.intro ?_ ?_)
 all_goals first|(refine retK h ?_;clear h;simp only[fin0])|(with_reducible refine Ob.mk ?_;clear h)|(clear h)
 all_goals(try simp only[eta0,RT.bytes]at *)
 all_goals grind[P9,s8]
theorem a2D:b6 Tryz.prog 236 Z6:=j3 b9 (ss := []) trivial rfl rfl<|by
 intro(bs:Th (List Int)) (p:Th Int) ⟨(l:Th (List Wlk)),(i:Th Int),u⟩ K _ _ ho h
 obtain⟨l,rfl⟩:=a8 l;obtain⟨i,rfl⟩:=a8 i
 have hl:=okL (ho.1 _ (.head _))
 refine⟨annL [(236,2,⟨Nat,[],fun σ k => σ.t 6 (vI fun _=>(k:Int)),fun _ k _=>k≤l.length∧l9 k (nid l i)=true,fun _ k _=>l.length-k⟩)],noAnn,20,?_⟩
 cbv
 repeat' first|((with_reducible refine fun(k:Nat) => ?_);cbv)|((with_reducible intro _);cbv)|(with_reducible refine And.intro ?_ ?_)
 all_goals try((first|(with_reducible refine LoopIn.mk ((0:Nat)) ?_ ?_)|(with_reducible refine LoopBack.mk ((k+1:Nat)) ?_ ?_ ?_)) )
 all_goals try((with_reducible show l8 _ _);cbv;(try simp only[and_true,true_and]))
 all_goals try(repeat' with_reducible refine And.intro ?_ ?_)
 all_goals first|(refine retK h ?_;clear h;simp only[fin0])|(with_reducible refine Ob.mk ?_;clear h)|(clear h)
 all_goals(try simp only[eta0,RT.bytes]at *)
 all_goals grind[n8,n3,nid,isId,b6C,a9O,j4,P9,s8]
noncomputable def a1z:Sx.Spec:=⟨false,true,[.ord],[],fun _ _ ⟨o,_⟩ => .ret (vB fun _=>S1 (o ()),fun _=>0)⟩
noncomputable def a9n:Sx.Spec:=⟨false,true,[.row .pcl],[],fun _ _ ⟨o,_⟩ => .ret (vB fun _=>a7l (o ()),fun _=>0)⟩
noncomputable def a3p:Sx.Spec:=⟨false,true,[.map,.row .pcl],[],fun _ _ ⟨m,o,_⟩ => .ret (vB fun _=>K0 (m ()) (o ()),fun _=>0)⟩
noncomputable def a2x:Sx.Spec:=⟨false,true,[.map,.list .pcl,.int .i64],[],fun _ _ ⟨m,l,n,_⟩ => .ret (vB fun _=>u0 (m ()) (l ()) (n ()),fun _=>0)⟩
noncomputable def a1P:Sx.Spec:=⟨false,true,[.list .pcl,.int .i64],[[some .pcl]],fun _ _ ⟨l,n,_⟩ => .ret (vW .pcl fun _=>Z1 (l ()) (n ()),fun _=>0)⟩
noncomputable def c1f:Sx.Spec:=⟨false,true,[.list .pcl],[[some .pcl]],fun _ _ ⟨l,_⟩ => .ret (vW .pcl fun _=>l (),fun _=>0)⟩
theorem a8J:b6 Tryz.prog 81 a1z:=j3 b9 (ss := [(38,sIn),(37,a1Q),(120,a8E)]) ⟨okIn,a2E,b0f,trivial⟩ rfl rfl<|by
 intro(bs:Th (List Int)) (p:Th Int) ⟨(o:Th Sx.Ord),u⟩ K _ _ ho h
 obtain⟨o,rfl⟩:=a8 o
 refine⟨noAnn,noAnn,20,?_⟩
 cbv
 repeat' first|((with_reducible intro _);cbv)|(with_reducible refine And.intro ?_ ?_)
 all_goals first|(refine retK h ?_;clear h;simp only[fin0])|(with_reducible refine Ob.mk ?_;clear h)|(clear h)
 all_goals(try simp only[eta0,RT.bytes]at *)
 all_goals grind[inR,S1]
theorem a6g:b6 Tryz.prog 148 a1z:=j3 b9 (ss := [(97,sIn)]) ⟨G7,trivial⟩ rfl rfl<|by
 intro(bs:Th (List Int)) (p:Th Int) ⟨(o:Th Sx.Ord),u⟩ K _ _ ho h
 obtain⟨o,rfl⟩:=a8 o
 refine⟨noAnn,noAnn,20,?_⟩
 cbv
 repeat' first|((with_reducible intro _);cbv)|(with_reducible refine And.intro ?_ ?_)
 all_goals first|(refine retK h ?_;clear h;simp only[fin0])|(with_reducible refine Ob.mk ?_;clear h)|(clear h)
 all_goals(try simp only[eta0,RT.bytes]at *)
 all_goals grind[inR,S1]
theorem b6T:b6 Tryz.prog 123 a9n:=j3 b9 (ss := [(38,sIn)]) ⟨okIn,trivial⟩ rfl rfl<|by
 intro(bs:Th (List Int)) (p:Th Int) ⟨(o:Th Pcl),u⟩ K _ _ ho h
 obtain⟨o,rfl⟩:=a8 o
 refine⟨noAnn,noAnn,20,?_⟩
 cbv
 repeat' first|((with_reducible intro _);cbv)|(with_reducible refine And.intro ?_ ?_)
 all_goals first|(refine retK h ?_;clear h;simp only[fin0])|(with_reducible refine Ob.mk ?_;clear h)|(clear h)
 all_goals(try simp only[eta0,RT.bytes]at *)
 all_goals grind[inR,a7l,a3c]
theorem b4s:b6 Tryz.prog 86 a3p:=j3 b9 (ss := [(55,A9),(123,a9n),(124,a3n)]) ⟨S6,b6T,b4p,trivial⟩ rfl rfl<|by
 intro(bs:Th (List Int)) (p:Th Int) ⟨(m:Th PMap),(o:Th Pcl),u⟩ K _ _ ho h
 obtain⟨m,rfl⟩:=a8 m;obtain⟨o,rfl⟩:=a8 o
 refine⟨noAnn,noAnn,20,?_⟩
 cbv
 repeat' first|((with_reducible intro _);cbv)|(with_reducible refine And.intro ?_ ?_)
 all_goals first|(refine retK h ?_;clear h;simp only[fin0])|(with_reducible refine Ob.mk ?_;clear h)|(clear h)
 all_goals(try simp only[eta0,RT.bytes]at *)
 all_goals grind[a7l,K0]
theorem a9Z:b6 Tryz.prog 153 a3p:=j3 b9 (ss := [(48,A9),(97,sIn),(155,a3n)]) ⟨C9,G7,a9X,trivial⟩ rfl rfl<|by
 intro(bs:Th (List Int)) (p:Th Int) ⟨(m:Th PMap),(o:Th Pcl),u⟩ K _ _ ho h
 obtain⟨m,rfl⟩:=a8 m;obtain⟨o,rfl⟩:=a8 o
 refine⟨noAnn,noAnn,20,?_⟩
 cbv
 repeat' first|((with_reducible intro _);cbv)|(with_reducible refine And.intro ?_ ?_)
 all_goals first|(refine retK h ?_;clear h;simp only[fin0])|(with_reducible refine Ob.mk ?_;clear h)|(clear h)
 all_goals(try simp only[eta0,RT.bytes]at *)
 all_goals grind[inR,K0,a3c]
theorem b6S:b6 Tryz.prog 169 a2x:=j3 b9 (ss := [(55,A9),(38,sIn),(86,a3p)]) ⟨S6,okIn,b4s,trivial⟩ rfl rfl<|by
 intro(bs:Th (List Int)) (p:Th Int) ⟨(m:Th PMap),(l:Th (List Pcl)),(n:Th Int),u⟩ K _ _ ho h
 obtain⟨m,rfl⟩:=a8 m;obtain⟨l,rfl⟩:=a8 l;obtain⟨n,rfl⟩:=a8 n
 have hl:=okL (ho.2.1 _ (.head _))
 refine⟨annL [(169,4,⟨Nat,[],fun σ k => σ.t 25 (vI fun _=>(k:Int)),fun _ k _=>k≤l.length∧l9 k (a2V m l n)=true,fun _ k _=>l.length-k⟩)],noAnn,20,?_⟩
 cbv
 repeat' first|((with_reducible refine fun(k:Nat) => ?_);cbv)|((with_reducible intro _);cbv)|(with_reducible refine And.intro ?_ ?_)
 all_goals try((first|(with_reducible refine LoopIn.mk ((0:Nat)) ?_ ?_)|(with_reducible refine LoopBack.mk ((k+1:Nat)) ?_ ?_ ?_)) )
 all_goals try((with_reducible show l8 _ _);cbv;(try simp only[and_true,true_and]))
 all_goals try(repeat' with_reducible refine And.intro ?_ ?_)
 all_goals first|(refine retK h ?_;clear h;simp only[fin0])|(with_reducible refine Ob.mk ?_;clear h)|(clear h)
 all_goals(try simp only[eta0,RT.bytes]at *)
 all_goals grind[inR,n8,n3,a2V,u0,a4A,a3w,j4,b8]
theorem b4r:b6 Tryz.prog 214 a2x:=j3 b9 (ss := [(48,A9),(97,sIn),(153,a3p)]) ⟨C9,G7,a9Z,trivial⟩ rfl rfl<|by
 intro(bs:Th (List Int)) (p:Th Int) ⟨(m:Th PMap),(l:Th (List Pcl)),(n:Th Int),u⟩ K _ _ ho h
 obtain⟨m,rfl⟩:=a8 m;obtain⟨l,rfl⟩:=a8 l;obtain⟨n,rfl⟩:=a8 n
 have hl:=okL (ho.2.1 _ (.head _))
 refine⟨annL [(214,4,⟨Nat,[],fun σ k => σ.t 7 (vI fun _=>(k:Int)),fun _ k _=>k≤l.length∧l9 k (a2V m l n)=true,fun _ k _=>l.length-k⟩)],noAnn,20,?_⟩
 cbv
 repeat' first|((with_reducible refine fun(k:Nat) => ?_);cbv)|((with_reducible intro _);cbv)|(with_reducible refine And.intro ?_ ?_)
 all_goals try((first|(with_reducible refine LoopIn.mk ((0:Nat)) ?_ ?_)|(with_reducible refine LoopBack.mk ((k+1:Nat)) ?_ ?_ ?_)) )
 all_goals try((with_reducible show l8 _ _);cbv;(try simp only[and_true,true_and]))
 all_goals try(repeat' with_reducible refine And.intro ?_ ?_)
 all_goals first|(refine retK h ?_;clear h;simp only[fin0])|(with_reducible refine Ob.mk ?_;clear h)|(clear h)
 all_goals(try simp only[eta0,RT.bytes]at *)
 all_goals grind[inR,n8,n3,a2V,u0,a4A,a3w,j4,b8]
theorem a7o:b6 Tryz.prog 231 a1P:=j3 b9 (ss := []) trivial rfl rfl<|by
 intro(bs:Th (List Int)) (p:Th Int) ⟨(l:Th (List Pcl)),(i:Th Int),u⟩ K _ _ ho h
 obtain⟨l,rfl⟩:=a8 l;obtain⟨i,rfl⟩:=a8 i
 have hl:=okB (ho.1 _ (.head _))
 have hz:=a4C l i
 refine⟨annL [(231,3,⟨Nat,[⟨.tmp 5 0,some 22,.pcl⟩],fun σ k=>((σ.t 10 (vI fun _=>(k:Int))).t 5 (vO 22 1)).row 22 1 .pcl (fun _=>L3 l i k),fun _ k _=>k≤l.length,fun _ k _=>l.length-k⟩)],noAnn,20,?_⟩
 cbv
 repeat' first|((with_reducible refine fun(k:Nat) => ?_);cbv)|((with_reducible intro _);cbv)|(with_reducible refine And.intro ?_ ?_)
 all_goals try((first|(with_reducible refine LoopIn.mk ((0:Nat)) ?_ ?_)|(with_reducible refine LoopBack.mk ((k+1:Nat)) ?_ ?_ ?_)) )
 all_goals try((with_reducible show l8 _ _);cbv;(try simp only[and_true,true_and]))
 all_goals try(repeat' with_reducible refine And.intro ?_ ?_)
 all_goals first|(refine retK h ?_;clear h;simp only[fin0])|(with_reducible refine Ob.mk ?_;clear h)|(clear h)
 all_goals(try simp only[eta0,RT.bytes]at *)
 all_goals grind[a3x,a4D,a4B,a5X,j4]
theorem b9j:b6 Tryz.prog 241 a1P:=j3 b9 (ss := []) trivial rfl rfl<|by
 intro(bs:Th (List Int)) (p:Th Int) ⟨(l:Th (List Pcl)),(i:Th Int),u⟩ K _ _ ho h
 obtain⟨l,rfl⟩:=a8 l;obtain⟨i,rfl⟩:=a8 i
 have hl:=okB (ho.1 _ (.head _))
 have hz:=a4C l i
 refine⟨annL [(241,3,⟨Nat,[⟨.tmp 5 0,some 8,.pcl⟩],fun σ k=>(((σ.fg 8).t 6 (vI fun _=>(k:Int))).t 5 (vO 8 1)).row 8 1 .pcl (fun _=>L3 l i k),fun _ k _=>k≤l.length,fun _ k _=>l.length-k⟩)],noAnn,20,?_⟩
 cbv
 repeat' first|((with_reducible refine fun(k:Nat) => ?_);cbv)|((with_reducible intro _);cbv)|(with_reducible refine And.intro ?_ ?_)
 all_goals try((first|(with_reducible refine LoopIn.mk ((0:Nat)) ?_ ?_)|(with_reducible refine LoopBack.mk ((k+1:Nat)) ?_ ?_ ?_)) )
 all_goals try((with_reducible show l8 _ _);cbv;(try simp only[and_true,true_and]))
 all_goals try(repeat' with_reducible refine And.intro ?_ ?_)
 all_goals first|(refine retK h ?_;clear h;simp only[fin0])|(with_reducible refine Ob.mk ?_;clear h)|(clear h)
 all_goals(try simp only[eta0,RT.bytes]at *)
 all_goals grind[a3x,a4D,a4B,a5X,j4]
theorem c7o:b6 Tryz.prog 190 c1f:=j3 b9 (ss := []) trivial rfl rfl<|by
 intro(bs:Th (List Int)) (p:Th Int) ⟨(l:Th (List Pcl)),u⟩ K _ _ ho h
 obtain⟨l,rfl⟩:=a8 l
 have hl:=okB (ho.1 _ (.head _))
 refine⟨noAnn,noAnn,20,?_⟩
 cbv
 repeat' first|((with_reducible intro _);cbv)|(with_reducible refine And.intro ?_ ?_)
 all_goals first|(refine retK h ?_;clear h;simp only[fin0])|(with_reducible refine Ob.mk ?_;clear h)|(clear h)
 all_goals(try simp only[eta0,RT.bytes]at *)
 all_goals grind
noncomputable def N7:Sx.Spec:=⟨false,true,[.row .cll],[nCll],fun _ _ ⟨c,_⟩ => .ret (oCll c,fun _=>0)⟩
noncomputable def a0J:Sx.Spec:=⟨false,true,[.map,.row .cll],[],fun _ _ ⟨m,c,_⟩ => .ret (vB fun _=>p9 (m ()) (c ()),fun _=>0)⟩
noncomputable def c0X:Sx.Spec:=⟨false,true,[.map,.row .cll,.int .i64],[],fun _ _ ⟨m,c,s,_⟩ => .asrt (fun _=>0≤s ()∧s ()<(c ()).outs.length∧s ()<(c ()).next.length∧s ()<(c ()).ins.length) (.ret (vB fun _=>K7 (m ()) (c ()) (s ()).toNat,fun _=>0))⟩
theorem a6m:b6 Tryz.prog 158 N7:=j3 b9 (ss := [(189,a5L),(190,c1f)]) ⟨b7a,c7o,trivial⟩ rfl rfl<|by
 intro(bs:Th (List Int)) (p:Th Int) ⟨(c:Th Cll),u⟩ K _ _ ho h
 obtain⟨c,rfl⟩:=a8 c
 obtain⟨hw,hou,hoi,hn,hi,_,_⟩:=a8e ho.1
 have hz:=a1h c.outs
 have hs:=fun k => @J1 .pcls c.outs k
 refine⟨annL [(158,3,⟨Nat,[⟨.cell 4 3,some 33,.pcls⟩],fun σ k=>((σ.t 23 (vI fun _=>(k:Int))).v5 4 3 (.own 33 1)).row 33 1 .pcls (fun _=>pre c.outs k),fun _ k _=>k≤c.outs.length,fun _ k _=>c.outs.length-k⟩)],noAnn,20,?_⟩
 cbv
 repeat' first|((with_reducible refine fun(k:Nat) => ?_);cbv)|((with_reducible intro _);cbv)|(with_reducible refine And.intro ?_ ?_)
 all_goals try((first|(with_reducible refine LoopIn.mk ((0:Nat)) ?_ ?_)|(with_reducible refine LoopBack.mk ((k+1:Nat)) ?_ ?_ ?_)) )
 all_goals try((with_reducible show l8 _ _);cbv;(try simp only[and_true,true_and]))
 all_goals try(repeat' with_reducible refine And.intro ?_ ?_)
 all_goals first|(refine retK h ?_;clear h;simp only[fin0])|(with_reducible refine Ob.mk ?_;clear h)|(clear h)
 all_goals(try simp only[eta0,RT.bytes]at *)
 all_goals grind[Z8,a1i,j4]
theorem Z9:b6 Tryz.prog 167 N7:=j3 b9 (ss := [(197,a5L)]) ⟨c7b,trivial⟩ rfl rfl<|by
 intro(bs:Th (List Int)) (p:Th Int) ⟨(c:Th Cll),u⟩ K _ _ ho h
 obtain⟨c,rfl⟩:=a8 c
 obtain⟨hw,hou,hoi,hn,hi,_,_⟩:=a8e ho.1
 have hz:=a1h c.outs
 have hs:=fun k => @J1 .pcls c.outs k
 refine⟨annL [(167,4,⟨Nat,[⟨.tmp 3 0,some 10,.pcls⟩],fun σ k=>(((σ.fg 10).t 4 (vI fun _=>(k:Int))).t 3 (vO 10 1)).row 10 1 .pcls (fun _=>pre c.outs k),fun _ k _=>k≤c.outs.length,fun _ k _=>c.outs.length-k⟩)],noAnn,20,?_⟩
 cbv
 repeat' first|((with_reducible refine fun(k:Nat) => ?_);cbv)|((with_reducible intro _);cbv)|(with_reducible refine And.intro ?_ ?_)
 all_goals try((first|(with_reducible refine LoopIn.mk ((0:Nat)) ?_ ?_)|(with_reducible refine LoopBack.mk ((k+1:Nat)) ?_ ?_ ?_)) )
 all_goals try((with_reducible show l8 _ _);cbv;(try simp only[and_true,true_and]))
 all_goals try(repeat' with_reducible refine And.intro ?_ ?_)
 all_goals first|(refine retK h ?_;clear h;simp only[fin0])|(with_reducible refine Ob.mk ?_;clear h)|(clear h)
 all_goals(try simp only[eta0,RT.bytes]at *)
 all_goals grind[Z8,a1i,j4]
theorem c7a:b6 Tryz.prog 185 c0X:=j3 b9 (ss := [(151,F9),(214,a2x),(97,sIn),(156,C8)]) ⟨Y0,b4r,G7,I0,trivial⟩ rfl rfl<|by
 intro(bs:Th (List Int)) (p:Th Int) ⟨(m:Th PMap),(c:Th Cll),(i:Th Int),u⟩ K _ _ ho h
 obtain⟨m,rfl⟩:=a8 m;obtain⟨c,rfl⟩:=a8 c;obtain⟨i,rfl⟩:=a8 i
 obtain⟨hw,hou,hoi,hn,hi,_,_⟩:=a8e ho.2.1
 obtain⟨hpre,h⟩:=h
 have hpre:=hpre.out
 simp only at hpre
 obtain⟨s,rfl⟩ : ∃s:Nat,i=(s:Int):=⟨i.toNat,(Int.toNat_of_nonneg hpre.1).symm⟩
 simp only[Int.ofNat_lt]at hpre
 refine⟨annL [(185,7,⟨Nat,[],fun σ k=>(σ.t 8 (vI fun _=>(k:Int))),fun _ k _=>k≤(nth .pcls c.outs s).length∧V3 m c s=true∧l9 k (a1j m (b7 m c.cell s) (nth .pcls c.outs s))=true,fun _ k _=>(nth .pcls c.outs s).length-k⟩)],noAnn,20,?_⟩
 cbv
 repeat' first|((with_reducible refine fun(k:Nat) => ?_);cbv)|((with_reducible intro _);cbv)|(with_reducible refine And.intro ?_ ?_)
 all_goals try((first|(with_reducible refine LoopIn.mk ((0:Nat)) ?_ ?_)|(with_reducible refine LoopBack.mk ((k+1:Nat)) ?_ ?_ ?_)) )
 all_goals try((with_reducible show l8 _ _);cbv;(try simp only[and_true,true_and]))
 all_goals try(repeat' with_reducible refine And.intro ?_ ?_)
 all_goals first|(refine retK h ?_;clear h;simp only[fin0])|(with_reducible refine Ob.mk ?_;clear h)|(clear h)
 all_goals(try simp only[eta0,RT.bytes]at *)
 all_goals grind[inR,n8,n3,V3,K7,a1j,a8t,b1F,j4]
end Go.Proofs.YtiioognflecdgaaGreat
namespace Go.Mo
open Go.Sx
def same (t:RT) (a b:List t.ty) (k:Nat):Prop := ∀i,i<k→nth t a i=nth t b i
theorem a6c {a b:Ord}:a=b↔a.who=b.who∧a.seq=b.seq∧a.kind=b.kind∧a.dest=b.dest∧a.n=b.n:=by
 cases a;cases b;simp
end Go.Mo
namespace Go.Proofs.YtiioognflecdgaaGreat
open Go.Sx Go.Proofs Go.Mo
end Go.Proofs.YtiioognflecdgaaGreat
namespace Go.Mo
open Go.Sx
end Go.Mo
namespace Go.Proofs.YtiioognflecdgaaGreat
open Go.Sx Go.Proofs Go.Mo
end Go.Proofs.YtiioognflecdgaaGreat
namespace Go.Proofs.YtiioognflecdgaaGreat
open Go.Sx Go.Proofs Go.RowKit
theorem c7L:(Tryz.prog.info? 81).map (fun i=>(i.zero,i.size,i.bytes))=some (some (.agg #[.int .i64 0,.int .i64 0,.int .i64 0,.int .i64 0,.int .i64 0]),5,40):=by kernel_rfl
theorem b4K : ∃inf z,Tryz.prog.info? 81=some inf∧inf.size=5∧inf.bytes=40∧inf.zero=some z∧z.cells.size=5:=by
 obtain⟨i0,h1,h2,h3,h4⟩:=info_parts c7L
 exact⟨i0,_,h1,h3,h4,h2,rfl⟩
theorem c7K (w:World) (b n c i vb voff vc T tV:Nat) (cs vcs:Array Value) (us:List Value) (hi:i<n) (hroom:n+1≤c) (hc:c≤maxLen) (hh:w.heap[b]? = some (.cells cs T (0,0))) (hs:cs.size=c * 5) (hu:us.length=5)
  (hvh:w.heap[vb]? = some (.cells vcs tV (0,0))) (hvb:vb≠b) (hvs : ∀j v,us[j]? = some v→w.cell? ⟨vb,voff+j,none⟩=some v) (h1 : ∀u∈us,one u) (h1c : ∀u∈cs.toList.take (n * 5),one u) :
  Calls Tryz.prog 247 #[.slice (some ⟨b,0,none⟩) n c,.int .i64 i,.slice (some ⟨vb,voff,none⟩) 1 vc] w fun e w' =>
   ∃v,e = .returned v∧InsE w w' 5 (.slice (some ⟨b,0,none⟩) n c) v n i 1 b c cs us:=by
 obtain⟨inf,z,hinf,hsz,hby,hz,hzc⟩:=b4K
 have u25:=run_underlying Tryz.underlying62
 have z38 : ∀w,(sizeOf 81).run Tryz.prog w = .ok 5 w:=fun w=>by simp[sizeOf,typeInfo,hinf,hsz]
 have hc63:c≤9223372036854775807:=hc
 have hcb:n+1≤9223372036854775807:=by omega
 have hkB:cs.size≠0:=by rw[hs];omega
 have hov : ∀lb cb,(callFunc 261 #[.slice (some ⟨vb,voff,none⟩) 1 vc,.slice (some ⟨b,(i+1) * 5,none⟩) lb cb]).run Tryz.prog w = .ok (.value (.bool false)) w:=fun lb cb=>by
  rw[run_callFunc_extern Tryz.func261 (by kernel_rfl) (by kernel_rfl) (by kernel_rfl) (e:=Extern.SlicesOverlaps.overlaps #[62,62] #[4]) (by kernel_rfl),
   Lib.run_overlaps_apart w 62 4 81 Tryz.underlying62 5 z38 ⟨vb,voff,none⟩ ⟨b,(i+1) * 5,none⟩ 1 vc lb cb hvb tV T vcs.size cs.size (by simp[World.shape?,hvh]) (by simp[World.shape?,hh]) hkB (frozen_of_row _ _ _ _ _ hvh) (frozen_of_row _ _ _ _ _ hvh)]
  rfl
 have hw1:IntKind.i64.wrap ((n:Int)+1)=((n+1:Nat):Int):=by rw[IntKind.wrap_i64];omega
 have hw2:IntKind.i64.wrap ((i:Int)+1)=((i+1:Nat):Int):=by rw[IntKind.wrap_i64];omega
 have hne : ¬((i:Int)=(n:Int)):=by omega
 have mixed:=b9.mix
 have hb1:(0:Int)≤(i:Int)+1:=by omega
 have hin:i≤n:=by omega
 have hb2 : ¬(c=i+1):=by omega
 have hb3:(i:Int)≤(n:Int)+1:=by omega
 have hb4 : ¬(c=i):=by omega
 have htn:((i:Int)+1).toNat=i+1:=by omega
 go_enter Tryz.func247,Tryz.ntmps247
 go_wp2_with (simp only[hov])
 clear hov
 have htl:=U9 (i:=i) hs (show n≤c by omega)
 have hn5:(n+1) * 5≤c * 5:=Nat.mul_le_mul_right _ hroom
 have hsrc : ∀j v,((cs.toList.take (n * 5)).drop (i * 5))[j]? = some v→w.cell? ⟨b,i * 5+j,none⟩=some v:=fun j v hj=>by
  rw[List.getElem?_drop,List.getElem?_take]at hj
  rw[o9 hh]
  split at hj
  ·simpa using hj
  ·cases hj
 have hcp1 : ∀ty dc sc,(Builtin.copy_ #[62,62] ty #[.slice (some ⟨b,(i+1) * 5,none⟩) (n-i) dc,.slice (some ⟨b,i * 5,none⟩) (n+1-i) sc]).run Tryz.prog w.drew = .ok (goInt (n-i:Nat)) (wrote w.drew b ((i+1) * 5) cs ((cs.toList.take (n * 5)).drop (i * 5))):=fun ty dc sc =>
  C3 (k:=n-i) (us:=(cs.toList.take (n * 5)).drop (i * 5)) Tryz.underlying62 hinf (by simp only[Nat.min_def];split<;>omega) (by rw[hsz];exact htl) (fun j v hj=>by
   rw[v7]
   exact hsrc j v hj) hh (by rw[htl,hs];omega) (fun u hu=>h1c u (List.mem_of_mem_drop hu))
 go_region_law_o (refine step_copy_runI rfl _ _ 62 62 rfl _ _ (by simp[Act.eval,Act.put]) (by simp[Act.eval,Act.put]) (hcp1 _ _ _) ?_)
 have htl2:((cs.toList.take (n * 5)).drop (i * 5)).length=(n-i) * 5:=htl
 obtain⟨cs1,hcs1⟩ : ∃cs1,cs1=(putAt cs.toList ((i+1) * 5) ((cs.toList.take (n * 5)).drop (i * 5))).toArray:=⟨_,rfl⟩
 obtain⟨W1,hW1⟩ : ∃W1,W1=wrote w.drew b ((i+1) * 5) cs ((cs.toList.take (n * 5)).drop (i * 5)):=⟨_,rfl⟩
 have hh1:W1.heap[b]? = some (.cells cs1 T (0,0)):=by rw[hW1,hcs1];exact y5 hh
 have hv1:W1.heap[vb]? = some (.cells vcs tV (0,0)):=by rw[hW1,s4 hvb];exact hvh
 have hsz1:cs1.size=c * 5:=by rw[hcs1,List.size_toArray,o8 _ _ _ (by rw[htl2,Array.length_toList,hs];omega),Array.length_toList,hs]
 have hcp2 : ∀(W:World),W.heap=W1.heap → ∀ty dc,(Builtin.copy_ #[62,62] ty #[.slice (some ⟨b,i * 5,none⟩) (n+1-i) dc,.slice (some ⟨vb,voff,none⟩) 1 vc]).run Tryz.prog W = .ok (goInt (1:Nat)) (wrote W b (i * 5) cs1 us):=fun W hW ty dc =>
  C3 (k:=1) (us:=us) (T:=T) Tryz.underlying62 hinf (by simp only[Nat.min_def];split<;>omega) (by rw[hsz,hu]) (fun j v hj=>by
   rw[v7,o9 (cs:=vcs) (T:=tV) (by rw[hW];exact hv1)]
   have:=hvs j v hj
   rw[o9 hvh]at this
   exact this) (by rw[hW];exact hh1) (by rw[hu,hsz1];omega) h1
 rw[←hW1]
 go_wp2_with (at_builtin;refine wpList_copy_runI _ rfl _ _ 62 62 rfl _ _ rfl rfl (hcp2 _ rfl _ _) ?_)
 have hend:InsM w (wrote W1 b (i * 5) cs1 us) 5 (.slice (some ⟨b,0,none⟩) n c) (.slice (some ⟨b,0,none⟩) (n+1) c) n i 1 b c cs us b c (K6 cs 5 n i us).toArray T:=by
  refine InsM.room hh hs hroom hc hi hu ?_ (fun x hx => ?_) ?_ ?_ ?_ ?_
  ·rw[y5 hh1,K6,hcs1]
  ·rw[s4 hx,hW1,s4 hx];rfl
  ·rw[hW1];rfl
  ·rw[hW1];rfl
  ·rw[hW1];rfl
  ·rw[hW1];simp[wrote,World.setRow]
 subst hcs1
 subst hW1
 go_ret
 exact⟨.slice (some ⟨b,0,none⟩) (n+1) c,rfl,_,_,_,_,hend⟩
theorem c7M (w:World) (b n c i vb voff vc T tV:Nat) (cs vcs:Array Value) (us:List Value) (hi:i<n) (hnc:n≤c) (hroom:c<n+1) (hc:c≤maxLen) (hh:w.heap[b]? = some (.cells cs T (0,0))) (hs:cs.size=c * 5) (hu:us.length=5)
  (hvh:w.heap[vb]? = some (.cells vcs tV (0,0))) (hvs : ∀j v,us[j]? = some v→w.cell? ⟨vb,voff+j,none⟩=some v) (h1 : ∀u∈us,one u) (h1c : ∀u∈cs.toList.take (n * 5),one u) (hbig:(n+1) * 40≤140737488355328) :
  Calls Tryz.prog 247 #[.slice (some ⟨b,0,none⟩) n c,.int .i64 i,.slice (some ⟨vb,voff,none⟩) 1 vc] w fun e w' =>
   ∃v,e = .returned v∧InsE w w' 5 (.slice (some ⟨b,0,none⟩) n c) v n i 1 b c cs us:=by
 obtain⟨inf,z,hinf,hsz,hby,hz,hzc⟩:=b4K
 have u25:=run_underlying Tryz.underlying62
 have z38 : ∀w,(sizeOf 81).run Tryz.prog w = .ok 5 w:=fun w=>by simp[sizeOf,typeInfo,hinf,hsz]
 have mixed:=b9.mix
 have hc63:c≤9223372036854775807:=hc
 have hsrc : ∀j v,((cs.toList.take (n * 5)).drop (i * 5))[j]? = some v→w.cell? ⟨b,i * 5+j,none⟩=some v:=fun j v hj=>by
  rw[List.getElem?_drop,List.getElem?_take]at hj
  rw[o9 hh]
  split at hj
  ·simpa using hj
  ·cases hj
 have hi5:(i+1) * 5≤c * 5:=Nat.mul_le_mul_right _ (by omega)
 have hold:(Builtin.firstCells inf.size i (.slice (some ⟨b,0,none⟩) i c)).run Tryz.prog w.drew = .ok (cs.toList.take (i * 5)).toArray w.drew:=by
  rw[hsz]
  exact run_firstCells_some w.drew 5 i ⟨b,0,none⟩ i c (cs.toList.take (i * 5)) (by rw[List.length_take,Array.length_toList,hs];omega) (fun j v hj=>by
   rw[v7,Nat.zero_add,show w.drew.cell? ⟨b,j,none⟩=w.cell? ⟨b,j,none⟩from rfl,o9 hh]
   rw[List.getElem?_take]at hj
   split at hj
   ·simpa using hj
   ·cases hj)
 have hik:i+(n+1-i)=n+1:=by omega
 have hkk:(n:Int)+1-(i:Int)=((n+1-i:Nat):Int):=by omega
 have hrz : ∀ty,(Builtin.append_ #[62,3] ty #[.slice (some ⟨b,0,none⟩) i c,.int .i64 ((n:Int)+1-(i:Int))]).run Tryz.prog w =
   .ok (.slice (some ⟨w.heap.size,0,none⟩) (n+1) (grownCap w (n+1) c 81)) (w.drew.alloc (.cells ((cs.toList.take (i * 5)).toArray++Builtin.zeroCells z.cells (n+1-i)++Builtin.zeroCells z.cells (grownCap w (n+1) c 81-(n+1))) 81)):=fun ty=>by
  have h:=Lib.run_append_grow_zeros w 62 3 ty 81 inf z .i64 .i64 Tryz.underlying62 Tryz.underlying3 hinf hz (some ⟨b,0,none⟩) i c (cs.toList.take (i * 5)) hold (n+1-i) (by omega) (by omega) (by omega) (by omega) (by rw[hby];omega) (by rw[hby,hik];exact growslice_fits hroom hbig)
  rw[hik]at h
  rw[hkk]
  exact h
 obtain⟨G,hG⟩ : ∃G,G=grownCap w (n+1) c 81:=⟨_,rfl⟩
 have hGn:n+1≤G:=by rw[hG];exact grownCap_ge w _ _ _
 have hGm:G≤maxLen:=by rw[hG];exact grownCap_le_maxLen w (n+1) c _ (by unfold maxLen;omega)
 have hG63:G≤9223372036854775807:=hGm
 obtain⟨ROW,hROW⟩ : ∃ROW:Array Value,ROW=(cs.toList.take (i * 5)).toArray++Builtin.zeroCells z.cells (n+1-i)++Builtin.zeroCells z.cells (G-(n+1)):=⟨_,rfl⟩
 rw[←hG]at hrz
 rw[←hROW]at hrz
 have hRl:ROW.toList.length=G * 5:=by
  rw[hROW,Array.length_toList]
  simp only[Array.size_append,List.size_toArray,size_zeroCells,hzc,List.length_take,Array.length_toList,hs]
  omega
 have hR0 : ∀o,o<i * 5→ROW.toList[o]? = cs[o]? := fun o ho=>by
  have hl:(cs.toList.take (i * 5)).length=i * 5:=by rw[List.length_take,Array.length_toList,hs];omega
  rw[hROW]
  simp only[Array.toList_append]
  rw[List.append_assoc,List.getElem?_append_left (by rw[List.toList_toArray,hl];exact ho),List.toList_toArray,List.getElem?_take,if_pos ho]
  simp
 have htl:=U9 (i:=i) hs hnc
 have hbw:b<w.heap.size:=by
  rcases Nat.lt_or_ge b w.heap.size with h|h
  ·exact h
  ·rw[Array.getElem?_eq_none h]at hh;cases hh
 have hvw:vb<w.heap.size:=by
  rcases Nat.lt_or_ge vb w.heap.size with h|h
  ·exact h
  ·rw[Array.getElem?_eq_none h]at hvh;cases hvh
 obtain⟨W1,hW1⟩ : ∃W1,W1=w.drew.alloc (.cells ROW 81):=⟨_,rfl⟩
 rw[←hW1]at hrz
 have hN1:W1.heap[w.heap.size]? = some (.cells ROW 81 (0,0)):=by rw[hW1];exact a5o w _
 have hO1 : ∀x,x<w.heap.size→W1.heap[x]? = w.heap[x]? := fun x hx=>by rw[hW1];exact a5n w _ x hx
 obtain⟨R2,hR2⟩ : ∃R2,R2=(putAt ROW.toList (i * 5) us).toArray:=⟨_,rfl⟩
 have hG5:(n+1) * 5≤G * 5:=Nat.mul_le_mul_right _ hGn
 have hR2l:R2.size=G * 5:=by rw[hR2,List.size_toArray,o8 _ _ _ (by rw[hu,hRl];omega),hRl]
 have hcpA : ∀(W:World),W.heap=W1.heap → ∀ty dc,(Builtin.copy_ #[62,62] ty #[.slice (some ⟨w.heap.size,i * 5,none⟩) (n+1-i) dc,.slice (some ⟨vb,voff,none⟩) 1 vc]).run Tryz.prog W = .ok (goInt (1:Nat)) (wrote W w.heap.size (i * 5) ROW us):=fun W hW ty dc =>
  C3 (k:=1) (us:=us) (T:=81) Tryz.underlying62 hinf (by simp only[Nat.min_def];split<;>omega) (by rw[hsz,hu]) (fun j v hj=>by
   rw[v7,o9 (cs:=vcs) (T:=tV) (by rw[hW,hO1 _ hvw];exact hvh)]
   have:=hvs j v hj
   rw[o9 hvh]at this
   exact this) (by rw[hW];exact hN1) (by rw[hu,←Array.length_toList,hRl];omega) h1
 obtain⟨W2,hW2⟩ : ∃W2,W2=wrote W1 w.heap.size (i * 5) ROW us:=⟨_,rfl⟩
 have hcpB : ∀(W:World),W.heap=W2.heap → ∀ty dc sc,(Builtin.copy_ #[62,62] ty #[.slice (some ⟨w.heap.size,(i+1) * 5,none⟩) (n-i) dc,.slice (some ⟨b,i * 5,none⟩) (n-i) sc]).run Tryz.prog W = .ok (goInt (n-i:Nat)) (wrote W w.heap.size ((i+1) * 5) R2 ((cs.toList.take (n * 5)).drop (i * 5))):=fun W hW ty dc sc =>
  C3 (k:=n-i) (us:=(cs.toList.take (n * 5)).drop (i * 5)) (T:=81) Tryz.underlying62 hinf (by simp only[Nat.min_def];split<;>omega) (by rw[hsz,htl]) (fun j v hj=>by
   rw[v7,o9 (cs:=cs) (T:=T) (by rw[hW,hW2,s4 (by omega),hO1 _ hbw];exact hh)]
   have:=hsrc j v hj
   rw[o9 hh]at this
   exact this) (by rw[hW,hW2,hR2];exact y5 hN1) (by rw[htl,hR2l];omega) (fun u hu=>h1c u (List.mem_of_mem_drop hu))
 have hGi : ¬(G=i):=by omega
 have hGim : ¬(G=i+1):=by omega
 have hci : ¬(c=i):=by omega
 have hw1:IntKind.i64.wrap ((n:Int)+1)=((n+1:Nat):Int):=by rw[IntKind.wrap_i64];omega
 have hw2:IntKind.i64.wrap ((i:Int)+1)=((i+1:Nat):Int):=by rw[IntKind.wrap_i64];omega
 have hb1:(0:Int)≤(i:Int)+1:=by omega
 have hin:i≤n:=by omega
 have htn:((i:Int)+1).toNat=i+1:=by omega
 have hb3:(i:Int)≤(n:Int):=by omega
 have hne : ¬((i:Int)=(n:Int)):=by omega
 have hend : ∀W:World,W.heap=(wrote W2 w.heap.size ((i+1) * 5) R2 ((cs.toList.take (n * 5)).drop (i * 5))).heap→W.os=w.os→W.tape=w.tape→W.output=w.output→InsE w W 5 (.slice (some ⟨b,0,none⟩) n c) (.slice (some ⟨w.heap.size,0,none⟩) (n+1) G) n i 1 b c cs us:=fun W hW g1 g2 g3=>by
  refine⟨_,_,_,81,InsM.grow (row:=ROW.toList) hRl hs hnc hGn hGm hi hu hR0 ?_ rfl ?_ (fun x hx => ?_) g1 g2 g3⟩
  ·rw[hW,y5 (T:=81) (by rw[hW2,hR2];exact y5 hN1),Y4,hR2]
  ·rw[hW,hW2,hW1];simp[wrote,World.setRow,World.alloc]
  ·rw[hW,s4 (by omega),hW2,s4 (by omega)];exact hO1 x hx
 clear hkk hik hold hROW hG hRl hR0
 go_enter Tryz.func247,Tryz.ntmps247
 go_wp2_with (first
  |(at_builtin;refine Lib.wpList_append_run _ rfl _ _ _ _ rfl _ _ rfl rfl _ _ (hrz _) ?_)
  |(at_builtin;refine wpList_copy_runI _ rfl _ _ 62 62 rfl _ _ rfl rfl (hcpA _ rfl _ _) ?_))
 go_region_law_o (refine step_copy_runI rfl _ _ 62 62 rfl (.slice (some ⟨w.heap.size,(i+1) * 5,none⟩) (n-i) (G-(i+1))) (.slice (some ⟨b,i * 5,none⟩) (n-i) (c-i)) (by simp[Act.eval,Act.put]) (by simp[Act.eval,Act.put]) (hcpB _ (by rw[hW2,hW1];rfl) _ _ _) ?_)
 go_wp2
 go_ret
 exact⟨.slice (some ⟨w.heap.size,0,none⟩) (n+1) G,rfl,hend _ (by rw[hW2,hW1,hR2];rfl) rfl rfl rfl⟩
theorem d0N (w:World) (b n c vb voff vc T:Nat) (cs:Array Value) (us:List Value) (hn:n≤c) (hc:c≤maxLen) (hh:w.heap[b]? = some (.cells cs T (0,0))) (hs:cs.size=c * 5) (hu:us.length=5)
  (hvs : ∀j v,us[j]? = some v→w.cell? ⟨vb,voff+j,none⟩=some v) (h1 : ∀u∈us,one u) (hb:(n+1) * 40≤140737488355328) :
  Calls Tryz.prog 247 #[.slice (some ⟨b,0,none⟩) n c,.int .i64 n,.slice (some ⟨vb,voff,none⟩) 1 vc] w fun e w' =>
   ∃v,e = .returned v∧InsE w w' 5 (.slice (some ⟨b,0,none⟩) n c) v n n 1 b c cs us:=by
 obtain⟨inf,z,hinf,hsz,hby,hz,hzc⟩:=b4K
 have u25:=run_underlying Tryz.underlying62
 have z38 : ∀w,(sizeOf 81).run Tryz.prog w = .ok 5 w:=fun w=>by simp[sizeOf,typeInfo,hinf,hsz]
 have hc63:c≤9223372036854775807:=hc
 have mixed:=b9.mix
 rcases H8 (P:=Tryz.prog) (ty:=62) (w:=w) Tryz.underlying62 hinf hz hsz hby hzc (Old.row n b c cs T hh hn hc hs) (m:=1) (us:=us) ⟨by rw[hu],.inr (.inr ⟨vb,voff,vc,rfl,hvs⟩)⟩ h1 (by omega) (by simpa using hb)with ⟨_,h,_⟩|⟨v,w',b',cap',cs',T',hr,A⟩
 ·cases h
 ·have hend:InsE w w' 5 _ v _ _ 1 b _ cs us:=⟨_,_,_,_,A.ins⟩
  by_cases hcn:n=c
  ·subst hcn
   go_enter Tryz.func247,Tryz.ntmps247
   go_wp2_with (at_builtin;refine Lib.wpList_append_run _ rfl _ _ _ _ rfl _ _ rfl rfl _ _ hr ?_)
   go_ret
   exact⟨v,rfl,hend⟩
  ·have hcn2 : ¬(c=n):=fun h=>hcn h.symm
   go_enter Tryz.func247,Tryz.ntmps247
   go_wp2_with (at_builtin;refine Lib.wpList_append_run _ rfl _ _ _ _ rfl _ _ rfl rfl _ _ hr ?_)
   go_ret
   exact⟨v,rfl,hend⟩
theorem d0M (w:World) (b vb voff vc T:Nat) (cs:Array Value) (us:List Value) (hcs:cs = #[]) (hu:us.length=5)
  (hvs : ∀j v,us[j]? = some v→w.cell? ⟨vb,voff+j,none⟩=some v) (h1 : ∀u∈us,one u) :
  Calls Tryz.prog 247 #[.slice none 0 0,.int .i64 0,.slice (some ⟨vb,voff,none⟩) 1 vc] w fun e w' =>
   ∃v,e = .returned v∧InsE w w' 5 (.slice none 0 0) v 0 0 1 b 0 cs us:=by
 obtain⟨inf,z,hinf,hsz,hby,hz,hzc⟩:=b4K
 have u25:=run_underlying Tryz.underlying62
 have z38 : ∀w,(sizeOf 81).run Tryz.prog w = .ok 5 w:=fun w=>by simp[sizeOf,typeInfo,hinf,hsz]
 have mixed:=b9.mix
 rcases H8 (P:=Tryz.prog) (ty:=62) (w:=w) Tryz.underlying62 hinf hz hsz hby hzc (Old.nil b 0 cs T hcs rfl) (m:=1) (us:=us) ⟨by rw[hu],.inr (.inr ⟨vb,voff,vc,rfl,hvs⟩)⟩ h1 (by omega) (by omega)with ⟨_,_,_,h⟩|⟨v,w',b',cap',cs',T',hr,A⟩
 ·cases h
 ·go_enter Tryz.func247,Tryz.ntmps247
  have hend:InsE w w' 5 _ v _ _ 1 b _ cs us:=⟨_,_,_,_,A.ins⟩
  go_wp2_with (at_builtin;refine Lib.wpList_append_run _ rfl _ _ _ _ rfl _ _ rfl rfl _ _ hr ?_)
  all_goals go_ret
  all_goals first|exact⟨v,rfl,hend⟩|(have hcn:c=n:=by(first|assumption|(symm;assumption)|omega);subst hcn;exact⟨v,rfl,hend⟩)
theorem d3B:b8n Tryz.prog 247 .wlk:=by
 intro w s n b cap cs T i vb vcap vT vcs us hO hi hvb hvh hu hvs h1 h1c hL
 have hs5:RT.size .wlk=5:=rfl
 have hb5:RT.bytes .wlk=40:=rfl
 rw[hs5]at *
 rw[hb5]at hL
 cases hO with
 |nil _ _ _ _ hcs hcap =>
  have:i=0:=by omega
  subst this
  subst hcap
  exact d0M w b vb 0 vcap T cs us hcs hu hvs h1
 |row _ _ _ _ _ hh hnc hcm hcs =>
  rcases Nat.lt_or_ge i n with hlt|hge
  ·rcases Nat.lt_or_ge cap (n+1)with hr|hr
   ·exact c7M w b n cap i vb 0 vcap T vT cs vcs us hlt hnc hr hcm hh hcs hu hvh hvs h1 h1c hL
   ·exact c7K w b n cap i vb 0 vcap T vT cs vcs us hlt hr hcm hh hcs hu hvh (hvb ⟨_,rfl⟩) hvs h1 h1c
  ·have:i=n:=by omega
   subst this
   exact d0N w b i cap vb 0 vcap T cs us hnc hcm hh hcs hu hvs h1 hL
theorem c7h:b6 Tryz.prog 247 (.raw (insM .wlk)) :=
 b9H ⟨_,_,Tryz.func247,by kernel_rfl,rfl⟩ d3B
end Go.Proofs.YtiioognflecdgaaGreat
