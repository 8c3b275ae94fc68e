/-
  Contracts: n6, the table.
-/
import Derived.Test.YtiioognflecdgaaGreatInsW
import Derived.Test.YtiioognflecdgaaGreatM2
import Derived.Test.YtiioognflecdgaaGreatM1
set_option linter.unusedVariables false
set_option linter.unusedSimpArgs false
set_option maxRecDepth 100000
set_option maxHeartbeats 8000000
namespace Go.Proofs.YtiioognflecdgaaGreat
open Go.Sx Go.Proofs Go.Mo
noncomputable def a4S:Sx.Spec:=⟨false,true,[.map,.row .gst],[],fun _ _ ⟨m,g,_⟩ => .ret (vB fun _=>a0o (m ()) (g ()),fun _=>0)⟩
noncomputable def a1R:Sx.Spec:=⟨false,true,[.row .gst,.row .gst],[],fun _ _ ⟨a,b,_⟩ => .ret (vB fun _=>E3 (a ()) (b ()),fun _=>0)⟩
noncomputable def c1b:Sx.Spec:=⟨false,true,[.map,.list .gst],[],fun _ _ ⟨m,l,_⟩ => .ret (vB fun _=>U1 (m ()) (l ()),fun _=>0)⟩
noncomputable def a9r:Sx.Spec:=⟨false,true,[.map,.list .gst],[],fun _ _ ⟨m,l,_⟩ => .ret (vB fun _=>D2 (m ()) (l ()),fun _=>0)⟩
noncomputable def a3r:Sx.Spec:=⟨false,true,[.map,.arb,.int .i64],[],fun _ _ ⟨m,t,s,_⟩ => .ret (vB fun _=>B8 (m ()) (t ()) (s ()),fun _=>0)⟩
noncomputable def E6:Sx.Spec:=⟨false,true,[.arb,.int .i64],[],fun _ _ ⟨t,c,_⟩ => .ret (vI fun _=>j9 (t ()) (c ()),fun _=>0)⟩
theorem c1G:b6 Tryz.prog 87 a4S:=j3 b9 (ss := [(38,sIn),(124,a3n),(125,C8),(126,R8)]) ⟨okIn,b4p,Y1,a1W,trivial⟩ rfl rfl<|by
 intro(bs:Th (List Int)) (p:Th Int) ⟨(m:Th PMap),(g:Th Gst),u⟩ K _ _ ho h
 obtain⟨m,rfl⟩:=a8 m;obtain⟨g,rfl⟩:=a8 g
 refine⟨noAnn,noAnn,20,?_⟩
 cbv
 repeat' first|((with_reducible intro _);cbv)|(with_reducible refine And.intro ?_ ?_)
 all_goals first|(refine retK h ?_;clear h;simp only[fin0])|(with_reducible refine Ob.mk ?_;clear h)|(clear h)
 all_goals(try simp only[eta0,RT.bytes]at *)
 all_goals grind[a0o,inR]
theorem b0d:b6 Tryz.prog 154 a4S:=j3 b9 (ss := [(97,sIn),(155,a3n),(156,C8),(188,R8)]) ⟨G7,a9X,I0,a4W,trivial⟩ rfl rfl<|by
 intro(bs:Th (List Int)) (p:Th Int) ⟨(m:Th PMap),(g:Th Gst),u⟩ K _ _ ho h
 obtain⟨m,rfl⟩:=a8 m;obtain⟨g,rfl⟩:=a8 g
 refine⟨noAnn,noAnn,20,?_⟩
 cbv
 repeat' first|((with_reducible intro _);cbv)|(with_reducible refine And.intro ?_ ?_)
 all_goals first|(refine retK h ?_;clear h;simp only[fin0])|(with_reducible refine Ob.mk ?_;clear h)|(clear h)
 all_goals(try simp only[eta0,RT.bytes]at *)
 all_goals grind[a0o,inR]
theorem c1I:b6 Tryz.prog 121 a1R:=j3 b9 (ss := []) trivial rfl rfl<|by
 intro(bs:Th (List Int)) (p:Th Int) ⟨(a:Th Gst),(b:Th Gst),u⟩ K _ _ ho h
 obtain⟨a,rfl⟩:=a8 a;obtain⟨b,rfl⟩:=a8 b
 refine⟨noAnn,noAnn,20,?_⟩
 cbv
 repeat' first|((with_reducible intro _);cbv)|(with_reducible refine And.intro ?_ ?_)
 all_goals first|(refine retK h ?_;clear h;simp only[fin0])|(with_reducible refine Ob.mk ?_;clear h)|(clear h)
 all_goals(try simp only[eta0,RT.bytes]at *)
 all_goals grind[E3]
theorem b6U:b6 Tryz.prog 187 a1R:=j3 b9 (ss := []) trivial rfl rfl<|by
 intro(bs:Th (List Int)) (p:Th Int) ⟨(a:Th Gst),(b:Th Gst),u⟩ K _ _ ho h
 obtain⟨a,rfl⟩:=a8 a;obtain⟨b,rfl⟩:=a8 b
 refine⟨noAnn,noAnn,20,?_⟩
 cbv
 repeat' first|((with_reducible intro _);cbv)|(with_reducible refine And.intro ?_ ?_)
 all_goals first|(refine retK h ?_;clear h;simp only[fin0])|(with_reducible refine Ob.mk ?_;clear h)|(clear h)
 all_goals(try simp only[eta0,RT.bytes]at *)
 all_goals grind[E3]
theorem c7i:b6 Tryz.prog 83 c1b:=j3 b9 (ss := [(87,a4S),(121,a1R),(55,A9)]) ⟨c1G,c1I,S6,trivial⟩ rfl rfl<|by
 intro(bs:Th (List Int)) (p:Th Int) ⟨(m:Th PMap),(l:Th (List Gst)),u⟩ K _ _ ho h
 obtain⟨m,rfl⟩:=a8 m;obtain⟨l,rfl⟩:=a8 l
 have hl:=okL (ho.2.1 _ (.head _))
 refine⟨annL [(83,2,⟨Nat,[],fun σ k => σ.t 9 (vI fun _=>(k:Int)),fun _ k _=>k≤l.length∧l9 k (a2e m l)=true,fun _ k _=>l.length-k⟩)],noAnn,20,?_⟩
 cbv
 repeat' first|((with_reducible refine fun(k:Nat) => ?_);cbv)|((with_reducible intro _);cbv)|(with_reducible refine And.intro ?_ ?_)
 all_goals try((first|(with_reducible refine LoopIn.mk ((0:Nat)) ?_ ?_)|(with_reducible refine LoopBack.mk ((k+1:Nat)) ?_ ?_ ?_)) )
 all_goals try((with_reducible show l8 _ _);cbv;(try simp only[and_true,true_and]))
 all_goals try(repeat' with_reducible refine And.intro ?_ ?_)
 all_goals first|(refine retK h ?_;clear h;simp only[fin0])|(with_reducible refine Ob.mk ?_;clear h)|(clear h)
 all_goals(try simp only[eta0,RT.bytes]at *)
 all_goals grind[j4,b8,b2S,b2R,a7E,b7H,U1,a2e,n8,n3]
theorem b2D:b6 Tryz.prog 149 a9r:=j3 b9 (ss := [(154,a4S),(187,a1R)]) ⟨b0d,b6U,trivial⟩ rfl rfl<|by
 intro(bs:Th (List Int)) (p:Th Int) ⟨(m:Th PMap),(l:Th (List Gst)),u⟩ K _ _ ho h
 obtain⟨m,rfl⟩:=a8 m;obtain⟨l,rfl⟩:=a8 l
 have hl:=okL (ho.2.1 _ (.head _))
 refine⟨annL [(149,4,⟨Nat,[],fun σ k => σ.t 5 (vI fun _=>(k:Int)),fun _ k _=>k≤l.length∧l9 k (a2e m l)=true,fun _ k _=>l.length-k⟩)],noAnn,20,?_⟩
 cbv
 repeat' first|((with_reducible refine fun(k:Nat) => ?_);cbv)|((with_reducible intro _);cbv)|(with_reducible refine And.intro ?_ ?_)
 all_goals try((first|(with_reducible refine LoopIn.mk ((0:Nat)) ?_ ?_)|(with_reducible refine LoopBack.mk ((k+1:Nat)) ?_ ?_ ?_)) )
 all_goals try((with_reducible show l8 _ _);cbv;(try simp only[and_true,true_and]))
 all_goals try(repeat' with_reducible refine And.intro ?_ ?_)
 all_goals first|(refine retK h ?_;clear h;simp only[fin0])|(with_reducible refine Ob.mk ?_;clear h)|(clear h)
 all_goals(try simp only[eta0,RT.bytes]at *)
 all_goals grind[j4,b8,b2S,b2R,a7E,b7H,a2e,n8,n3]
theorem d0z:b6 Tryz.prog 28 a3r:=j3 b9 (ss := [(55,A9),(38,sIn)]) ⟨S6,okIn,trivial⟩ rfl rfl<|by
 intro(bs:Th (List Int)) (p:Th Int) ⟨(m:Th PMap),(t:Th Arb),(s:Th Int),u⟩ K _ _ ho h
 obtain⟨m,rfl⟩:=a8 m;obtain⟨t,rfl⟩:=a8 t;obtain⟨s,rfl⟩:=a8 s
 have hA:=fun(hh:B8 m t s=true) (k:Nat) => @b1o m t s k hh
 have hl:=okL (ho.2.1 _ (.head _))
 refine⟨annL [(28,4,⟨Nat,[],fun σ k => σ.t 36 (vI fun _=>(k:Int)),fun _ k _=>k≤t.servers.length∧X3 m t s=true∧l9 k (a2Z t s)=true,fun _ k _=>t.servers.length-k⟩)],noAnn,20,?_⟩
 cbv
 repeat' first|((with_reducible refine fun(k:Nat) => ?_);cbv)|((with_reducible intro _);cbv)|(with_reducible refine And.intro ?_ ?_)
 all_goals try((first|(with_reducible refine LoopIn.mk ((0:Nat)) ?_ ?_)|(with_reducible refine LoopBack.mk ((k+1:Nat)) ?_ ?_ ?_)) )
 all_goals try((with_reducible show l8 _ _);cbv;(try simp only[and_true,true_and]))
 all_goals try(repeat' with_reducible refine And.intro ?_ ?_)
 all_goals first|(refine retK h ?_;clear h;simp only[fin0])|(with_reducible refine Ob.mk ?_;clear h)|(clear h)
 all_goals(try simp only[eta0,RT.bytes]at *)
 all_goals grind[j4,b8,c2E,c2F,B8,X3,a2Z,n8,n3,inR]
theorem a3E:b6 Tryz.prog 49 a3r:=j3 b9 (ss := [(48,A9),(97,sIn)]) ⟨C9,G7,trivial⟩ rfl rfl<|by
 intro(bs:Th (List Int)) (p:Th Int) ⟨(m:Th PMap),(t:Th Arb),(s:Th Int),u⟩ K _ _ ho h
 obtain⟨m,rfl⟩:=a8 m;obtain⟨t,rfl⟩:=a8 t;obtain⟨s,rfl⟩:=a8 s
 have hA:=fun(hh:B8 m t s=true) (k:Nat) => @b1o m t s k hh
 have hl:=okL (ho.2.1 _ (.head _))
 refine⟨annL [(49,4,⟨Nat,[],fun σ k => σ.t 7 (vI fun _=>(k:Int)),fun _ k _=>k≤t.servers.length∧X3 m t s=true∧l9 k (a2Z t s)=true,fun _ k _=>t.servers.length-k⟩)],noAnn,20,?_⟩
 cbv
 repeat' first|((with_reducible refine fun(k:Nat) => ?_);cbv)|((with_reducible intro _);cbv)|(with_reducible refine And.intro ?_ ?_)
 all_goals try((first|(with_reducible refine LoopIn.mk ((0:Nat)) ?_ ?_)|(with_reducible refine LoopBack.mk ((k+1:Nat)) ?_ ?_ ?_)) )
 all_goals try((with_reducible show l8 _ _);cbv;(try simp only[and_true,true_and]))
 all_goals try(repeat' with_reducible refine And.intro ?_ ?_)
 all_goals first|(refine retK h ?_;clear h;simp only[fin0])|(with_reducible refine Ob.mk ?_;clear h)|(clear h)
 all_goals(try simp only[eta0,RT.bytes]at *)
 all_goals grind(splits:=30) [j4,b8,c2E,a5m,c2F,B8,X3,a2Z,n8,n3,inR]
theorem a0a:b6 Tryz.prog 75 E6:=j3 b9 (ss := [(38,sIn)]) ⟨okIn,trivial⟩ rfl rfl<|by
 intro(bs:Th (List Int)) (p:Th Int) ⟨(t:Th Arb),(c:Th Int),u⟩ K _ _ ho h
 obtain⟨t,rfl⟩:=a8 t;obtain⟨c,rfl⟩:=a8 c
 have hl:=okL (ho.1 _ (.head _))
 refine⟨noAnn,noAnn,20,?_⟩
 cbv
 repeat' first|((with_reducible intro _);cbv)|(with_reducible refine And.intro ?_ ?_)
 all_goals first|(refine retK h ?_;clear h;simp only[fin0])|(with_reducible refine Ob.mk ?_;clear h)|(clear h)
 all_goals(try simp only[eta0,RT.bytes]at *)
 all_goals grind[j9,inR,b8]
theorem Q3:b6 Tryz.prog 77 E6:=j3 b9 (ss := []) trivial rfl rfl<|by
 intro(bs:Th (List Int)) (p:Th Int) ⟨(t:Th Arb),(c:Th Int),u⟩ K _ _ ho h
 obtain⟨t,rfl⟩:=a8 t;obtain⟨c,rfl⟩:=a8 c
 have hl:=okL (ho.1 _ (.head _))
 refine⟨noAnn,noAnn,20,?_⟩
 cbv
 repeat' first|((with_reducible intro _);cbv)|(with_reducible refine And.intro ?_ ?_)
 all_goals first|(refine retK h ?_;clear h;simp only[fin0])|(with_reducible refine Ob.mk ?_;clear h)|(clear h)
 all_goals(try simp only[eta0,RT.bytes]at *)
 all_goals grind[j9,inR,b8]
noncomputable def c6i:Sx.Spec:=⟨false,true,[.map,.row .row],[],fun _ _ ⟨m,r,_⟩ => .asrt (fun _=>p7 (m ())=true) (.ret (vB fun _=>V4 (m ()) (r ()),fun _=>0))⟩
noncomputable def a4R:Sx.Spec:=⟨false,true,[.map,.book],[],fun _ _ ⟨m,l,_⟩ => .ret (vB fun _=>A7 (m ()) (l ()),fun _=>0)⟩
noncomputable def U4:Sx.Spec:=⟨false,true,[.book,.int .i64],[],fun _ _ ⟨l,w,_⟩ => .ret (vI fun _=>k9 (l ()) (w ()),fun _=>0)⟩
noncomputable def a2A:Sx.Spec:=⟨false,true,[.book],[[some .row]],fun _ _ ⟨l,_⟩ => .ret (oAs [.list .row l],fun _=>0)⟩
noncomputable def c1a:Sx.Spec:=⟨false,true,[.map,.book,.int .i64,.int .i64,.int .i64,.int .i64],[[some .row],[none]],fun _ _ ⟨m,l,w,k,d,n,_⟩ => .ret (.tup [oAs [.list .row fun _=>(a6z (m ()) (l ()) (w ()) (k ()) (d ()) (n ())).b],vB fun _=>(a6z (m ()) (l ()) (w ()) (k ()) (d ()) (n ())).ok],fun _=>0)⟩
theorem c7c:b6 Tryz.prog 99 c6i:=j3 b9 (ss := [(97,sIn),(148,a1z)]) ⟨G7,a6g,trivial⟩ rfl rfl<|by
 intro(bs:Th (List Int)) (p:Th Int) ⟨(m:Th PMap),(r:Th Row),u⟩ K _ _ ho h
 obtain⟨m,rfl⟩:=a8 m;obtain⟨r,rfl⟩:=a8 r
 obtain⟨ha,h⟩:=h
 have ha:=ha.out
 refine⟨noAnn,noAnn,20,?_⟩
 cbv
 repeat' first|((with_reducible intro _);cbv)|(with_reducible refine And.intro ?_ ?_)
 all_goals first|(refine retK h ?_;clear h;simp only[fin0])|(with_reducible refine Ob.mk ?_;clear h)|(clear h)
 all_goals(try simp only[eta0,RT.bytes]at *)
 all_goals grind(splits:=20) [V4,inR,a1b,b8,p7]
theorem d0w:b6 Tryz.prog 30 a4R:=j3 b9 (ss := [(37,a1Q),(38,sIn),(81,a1z),(55,A9)]) ⟨a2E,okIn,a8J,S6,trivial⟩ rfl rfl<|by
 intro(bs:Th (List Int)) (p:Th Int) ⟨(m:Th PMap),(l:Th (List Row)),u⟩ K _ _ ho h
 obtain⟨m,rfl⟩:=a8 m;obtain⟨l,rfl⟩:=a8 l
 have hl:=okL (ho.2.1 _ (.head _))
 refine⟨annL [(30,2,⟨Nat,[],fun σ k => σ.t 10 (vI fun _=>(k:Int)),fun _ k _=>k≤l.length∧(p7 m=true→l9 k (J5 m l)=true),fun _ k _=>l.length-k⟩)],noAnn,20,?_⟩
 cbv
 repeat' first|((with_reducible refine fun(k:Nat) => ?_);cbv)|((with_reducible intro _);cbv)|(with_reducible refine And.intro ?_ ?_)
 all_goals try((first|(with_reducible refine LoopIn.mk ((0:Nat)) ?_ ?_)|(with_reducible refine LoopBack.mk ((k+1:Nat)) ?_ ?_ ?_)) )
 all_goals try((with_reducible show l8 _ _);cbv;(try simp only[and_true,true_and]))
 all_goals try(repeat' with_reducible refine And.intro ?_ ?_)
 all_goals first|(refine retK h ?_;clear h;simp only[fin0])|(with_reducible refine Ob.mk ?_;clear h)|(clear h)
 all_goals(try simp only[eta0,RT.bytes]at *)
 all_goals(try have hwp:IntKind.i64.wrap ((k:Int)-1)=((k-1:Nat):Int):=a0x (by omega) (by omega))
 all_goals(try simp only[hwp,Int.toNat_natCast]at *)
 all_goals(by_cases hpo:p7 m=true)
 all_goals grind(splits:=20) [p7,j4,b8,b7E,b7D,c1X,A7,J5,V4,a1b,n8,n3,inR]
theorem a6h:b6 Tryz.prog 51 a4R:=j3 b9 (ss := [(48,A9),(99,c6i)]) ⟨C9,c7c,trivial⟩ rfl rfl<|by
 intro(bs:Th (List Int)) (p:Th Int) ⟨(m:Th PMap),(l:Th (List Row)),u⟩ K _ _ ho h
 obtain⟨m,rfl⟩:=a8 m;obtain⟨l,rfl⟩:=a8 l
 have hl:=okL (ho.2.1 _ (.head _))
 refine⟨annL [(51,4,⟨Nat,[],fun σ k => σ.t 5 (vI fun _=>(k:Int)),fun _ k _=>k≤l.length∧p7 m=true∧l9 k (J5 m l)=true,fun _ k _=>l.length-k⟩)],noAnn,20,?_⟩
 cbv
 repeat' first|((with_reducible refine fun(k:Nat) => ?_);cbv)|((with_reducible intro _);cbv)|(with_reducible refine And.intro ?_ ?_)
 all_goals try((first|(with_reducible refine LoopIn.mk ((0:Nat)) ?_ ?_)|(with_reducible refine LoopBack.mk ((k+1:Nat)) ?_ ?_ ?_)) )
 all_goals try((with_reducible show l8 _ _);cbv;(try simp only[and_true,true_and]))
 all_goals try(repeat' with_reducible refine And.intro ?_ ?_)
 all_goals first|(refine retK h ?_;clear h;simp only[fin0])|(with_reducible refine Ob.mk ?_;clear h)|(clear h)
 all_goals(try simp only[eta0,RT.bytes]at *)
 all_goals grind[j4,b8,b7E,b7D,c1X,A7,J5,n8,n3]
theorem c6V:b6 Tryz.prog 112 U4:=j3 b9 (ss := []) trivial rfl rfl<|by
 intro(bs:Th (List Int)) (p:Th Int) ⟨(l:Th (List Row)),(w:Th Int),u⟩ K _ _ ho h
 obtain⟨l,rfl⟩:=a8 l;obtain⟨w,rfl⟩:=a8 w
 have hl:=okL (ho.1 _ (.head _))
 refine⟨annL [(159,2,⟨Nat,[],fun σ k => σ.t 8 (vI fun _=>(k:Int)),fun _ k _=>k≤l.length∧l9 k (nwho l w)=true,fun _ k _=>l.length-k⟩)],noAnn,20,?_⟩
 cbv
 repeat' first|((with_reducible refine fun(k:Nat) => ?_);cbv)|((with_reducible intro _);cbv)|(with_reducible refine And.intro ?_ ?_)
 all_goals try((first|(with_reducible refine LoopIn.mk ((0:Nat)) ?_ ?_)|(with_reducible refine LoopBack.mk ((k+1:Nat)) ?_ ?_ ?_)) )
 all_goals try((with_reducible show l8 _ _);cbv;(try simp only[and_true,true_and]))
 all_goals try(repeat' with_reducible refine And.intro ?_ ?_)
 all_goals first|(refine retK h ?_;clear h;simp only[fin0])|(with_reducible refine Ob.mk ?_;clear h)|(clear h)
 all_goals(try simp only[eta0,RT.bytes]at *)
 all_goals grind[n8,n3,nwho,a6v,b8J,b6q,j4]
theorem b4u:b6 Tryz.prog 181 U4:=j3 b9 (ss := []) trivial rfl rfl<|by
 intro(bs:Th (List Int)) (p:Th Int) ⟨(l:Th (List Row)),(w:Th Int),u⟩ K _ _ ho h
 obtain⟨l,rfl⟩:=a8 l;obtain⟨w,rfl⟩:=a8 w
 have hl:=okL (ho.1 _ (.head _))
 refine⟨annL [(181,2,⟨Nat,[],fun σ k => σ.t 5 (vI fun _=>(k:Int)),fun _ k _=>k≤l.length∧l9 k (nwho l w)=true,fun _ k _=>l.length-k⟩)],noAnn,20,?_⟩
 cbv
 repeat' first|((with_reducible refine fun(k:Nat) => ?_);cbv)|((with_reducible intro _);cbv)|(with_reducible refine And.intro ?_ ?_)
 all_goals try((first|(with_reducible refine LoopIn.mk ((0:Nat)) ?_ ?_)|(with_reducible refine LoopBack.mk ((k+1:Nat)) ?_ ?_ ?_)) )
 all_goals try((with_reducible show l8 _ _);cbv;(try simp only[and_true,true_and]))
 all_goals try(repeat' with_reducible refine And.intro ?_ ?_)
 all_goals first|(refine retK h ?_;clear h;simp only[fin0])|(with_reducible refine Ob.mk ?_;clear h)|(clear h)
 all_goals(try simp only[eta0,RT.bytes]at *)
 all_goals grind[n8,n3,nwho,a6v,b8J,b6q,j4]
theorem c7p:b6 Tryz.prog 64 a2A:=j3 b9 (ss := []) trivial rfl rfl<|by
 intro(bs:Th (List Int)) (p:Th Int) ⟨(l:Th (List Row)),u⟩ K _ _ ho h
 obtain⟨l,rfl⟩:=a8 l
 have hl:=okB (ho.1 _ (.head _))
 refine⟨noAnn,noAnn,20,?_⟩
 cbv
 repeat' first|((with_reducible intro _);cbv)|(with_reducible refine And.intro ?_ ?_)
 all_goals first|(refine retK h ?_;clear h;simp only[fin0])|(with_reducible refine Ob.mk ?_;clear h)|(clear h)
 all_goals(try simp only[eta0,RT.bytes]at *)
 all_goals grind
theorem a4j:b6 Tryz.prog 94 a2A:=j3 b9 (ss := []) trivial rfl rfl<|by
 intro(bs:Th (List Int)) (p:Th Int) ⟨(l:Th (List Row)),u⟩ K _ _ ho h
 obtain⟨l,rfl⟩:=a8 l
 have hl:=okB (ho.1 _ (.head _))
 refine⟨noAnn,noAnn,20,?_⟩
 cbv
 repeat' first|((with_reducible intro _);cbv)|(with_reducible refine And.intro ?_ ?_)
 all_goals first|(refine retK h ?_;clear h;simp only[fin0])|(with_reducible refine Ob.mk ?_;clear h)|(clear h)
 all_goals(try simp only[eta0,RT.bytes]at *)
 all_goals grind
theorem c1H:b6 Tryz.prog 118 a0J:=j3 b9 (ss := [(168,a7S),(80,a5K),(38,sIn),(125,C8),(85,F9),(169,a2x)]) ⟨b6I,a7s,okIn,Y1,U5,b6S,trivial⟩ rfl rfl<|by
 intro(bs:Th (List Int)) (p:Th Int) ⟨(m:Th PMap),(c:Th Cll),u⟩ K _ _ ho h
 obtain⟨m,rfl⟩:=a8 m;obtain⟨c,rfl⟩:=a8 c
 obtain⟨hw,hou,hoi,hn,hi,_,_⟩:=a8e ho.2.1
 have hi:=s0 (m:=m)
 refine⟨annL [(118,4,⟨Nat,[],fun σ k=>(σ.t 50 (vI fun _=>(k:Int))),fun _ k _=>k≤c.wlks.length∧Z3 m c=true∧l9 k (a2R m c)=true,fun _ k _=>c.wlks.length-k⟩),
  (118,10,⟨Nat×Unit,[],fun σ q=>(σ.t 62 (vI fun _=>(q.1:Int))),fun _ q _=>q.1≤2∧Z3 m c=true∧l9 c.wlks.length (a2R m c)=true∧l9 q.1 (K7 m c)=true,fun _ q _=>2-q.1⟩),
  (118,16,⟨Nat,[],fun σ k => σ.t 118 (vI fun _=>(k:Int)),fun σ k _=>c0O m c (σ.nat 62) k,fun σ k _=>(nth .pcls c.outs (σ.nat 62)).length-k⟩)],noAnn,20,?_⟩
 cbv
 repeat' first|((with_reducible refine fun(k:Nat) => ?_);cbv)|((with_reducible refine fun(q:Nat×Unit) => ?_);obtain⟨s,_⟩:=q;cbv)|((with_reducible intro _);cbv)|(with_reducible refine And.intro ?_ ?_)
 all_goals try((first|(with_reducible refine LoopIn.mk ((0:Nat)) ?_ ?_)|(with_reducible refine LoopIn.mk (((0,()):Nat×Unit)) ?_ ?_)|(with_reducible refine LoopBack.mk ((k+1:Nat)) ?_ ?_ ?_)|(with_reducible refine LoopBack.mk (((s+1,()):Nat×Unit)) ?_ ?_ ?_)) )
 all_goals try((with_reducible show l8 _ _);cbv;(try simp only[and_true,true_and]))
 all_goals(try simp only[St.nat,St.int,Tr.get,Nat.reduceMod,Nat.reduceDiv,Nat.one_ne_zero,if_false,if_true,↓reduceIte]at *)
 all_goals try(repeat' with_reducible refine And.intro ?_ ?_)
 all_goals first|(refine retK h ?_;clear h;simp only[fin0])|(with_reducible refine Ob.mk ?_;clear h)|(clear h)
 all_goals(try simp only[eta0,RT.bytes]at *)
 all_goals grind[c0O,inR,n8,n3,a2R,V3,a1j,K7,Z3,p9,b1f,b1e,a8t,j4,b8]
end Go.Proofs.YtiioognflecdgaaGreat
