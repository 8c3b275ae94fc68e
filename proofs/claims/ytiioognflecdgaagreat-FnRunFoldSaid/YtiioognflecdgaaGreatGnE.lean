/-
  Contracts: logs folded by the document, into new memory.
-/
import Derived.Test.YtiioognflecdgaaGreatFnYs
import Derived.Test.YtiioognflecdgaaGreatFnM
import Derived.Test.YtiioognflecdgaaGreatInsW
import Derived.Test.YtiioognflecdgaaGreatFnFb
import Derived.Test.YtiioognflecdgaaGreatM2
set_option linter.unusedVariables false
set_option linter.unusedSimpArgs false
set_option maxRecDepth 100000
set_option maxHeartbeats 8000000
namespace Go.Proofs.YtiioognflecdgaaGreat
open Go.Sx Go.Proofs Go.Mo
theorem a4X:b6 Tryz.prog 147 a5I:=j3 b9 (ss := [(146,a0J),(167,N7),(186,a5J)]) ⟨a0N,Z9,a7p,trivial⟩ rfl rfl<|by
 intro(bs:Th (List Int)) (p:Th Int) ⟨(m:Th PMap),(c:Th Cll),(l:Th (List Sx.Rec)),u⟩ K _ _ ho h
 obtain⟨m,rfl⟩:=a8 m;obtain⟨c,rfl⟩:=a8 c;obtain⟨l,rfl⟩:=a8 l
 refine⟨annL [(147,5,⟨Nat,[⟨.cell 9 1,some 13569,.wlk⟩,⟨.cell 9 3,some 13571,.pcls⟩,⟨.cell 9 4,some 13572,.int⟩,⟨.cell 9 5,some 13573,.int⟩],
  fun σ k=>(((((((((((((σ.fgs [13569,13571,13572,13573]).t 24 (.one .unk)).t 9 (vI fun _=>(k:Int))).v5 9 0 (.att (.int .i64 fun _=>(s9 m c l k).cell))).v5 9 1 (.own 13569 1)).v5 9 2 (.att (.int .i64 fun _=>(s9 m c l k).ground))).v5 9 3 (.own 13571 1)).v5 9 4 (.own 13572 1)).v5 9 5 (.own 13573 1)).row 13569 1 .wlk (fun _=>(s9 m c l k).wlks)).row 13571 1 .pcls (fun _=>(s9 m c l k).outs)).row 13572 1 .int (fun _=>(s9 m c l k).next)).row 13573 1 .int (fun _=>(s9 m c l k).ins)),
  fun _ k _=>k≤l.length∧l.length≤250∧p9 m c=true∧l9 k (M4 m c l)=true,fun _ k _=>l.length-k⟩)],noAnn,20,?_⟩
 cbv
 repeat' first|((with_reducible refine fun(k:Nat) => ?_);cbv)|((with_reducible intro _);cbv)|(with_reducible refine And.intro ?_ ?_)
 all_goals try((first|(with_reducible refine LoopIn.mk ((0:Nat)) ?_ ?_)|(with_reducible refine LoopBack.mk ((k+1:Nat)) ?_ ?_ ?_)) )
 all_goals try((with_reducible show l8 _ _);cbv;(try simp only[and_true,true_and]))
 all_goals try(repeat' with_reducible refine And.intro ?_ ?_)
 all_goals first|(refine retK h ?_;clear h;simp only[fin0])|(with_reducible refine Ob.mk ?_;clear h)|(clear h)
 all_goals(try simp only[eta0,RT.bytes]at *)
 all_goals grind[Q7,c0u,b8j,a6B,n8,n3,j4,b9C,b7k,b7j,a8q]
def nSto:List (Option RT) := [none,none,some .wlk,none,some .pcls,some .int,some .int,some .rcd]
noncomputable def a1f:Sx.Spec:=⟨false,true,[.row .sto],[nSto],fun _ _ ⟨s,_⟩ => .ret (oSto s,fun _=>0)⟩
noncomputable def a2w:Sx.Spec:=⟨false,true,[.map,.row .sto],[],fun _ _ ⟨m,s,_⟩ => .ret (vB fun _=>A3 (m ()) (s ()),fun _=>0)⟩
noncomputable def b8F:Sx.Spec:=⟨false,true,[.row .sto,.map],[nCll],fun _ _ ⟨s,m,_⟩ => .asrt (fun _=>A3 (m ()) (s ())=true) (.ret (oCll fun _=>o6 (m ()) (s ()),fun _=>0))⟩
noncomputable def b2c:Sx.Spec:=⟨false,true,[.map,.row .sto],[nCll],fun _ _ ⟨m,s,_⟩ => .ret (oCll fun _=>X7 (m ()) (s ()),fun _=>0)⟩
noncomputable def b2d:Sx.Spec:=⟨false,true,[.map,.row .sto,.int .i64],[nSto,[none]],fun _ _ ⟨m,s,a,_⟩ => .ret (.tup [oSto fun _=>(R7 (m ()) (s ()) (a ())).s,vB fun _=>(R7 (m ()) (s ()) (a ())).ok],fun _=>0)⟩
noncomputable def a9j:Sx.Spec:=⟨false,true,[.map,.row .sto,.int .i64,.int .i64,.row .rcd],[nSto,[none]],fun _ _ ⟨m,s,a,b,r,_⟩ => .ret (.tup [oSto fun _=>(y4 (m ()) (s ()) (a ()) (b ()) (r ())).s,vI fun _=>(y4 (m ()) (s ()) (a ()) (b ()) (r ())).n],fun _=>0)⟩
theorem c6R {s:Sto} (h : ∀a∈(PT.row .sto).encA (fun _=>s),OkA a):s.recs.length * 128≤140737488355328:=okB (h _ (.tail _ (.tail _ (.tail _ (.tail _ (.tail _ (.tail _ (.tail _ (.head _)))))))))
theorem b7b:b6 Tryz.prog 109 a1f:=j3 b9 (ss := [(158,N7)]) ⟨a6m,trivial⟩ rfl rfl<|by
 intro(bs:Th (List Int)) (p:Th Int) ⟨(s:Th Sto),u⟩ K _ _ ho h
 obtain⟨s,rfl⟩:=a8 s
 have hrl:=c6R ho.1
 refine⟨noAnn,noAnn,20,?_⟩
 cbv
 repeat' first|((with_reducible intro _);cbv)|(with_reducible refine And.intro ?_ ?_)
 all_goals first|(refine retK h ?_;clear h;simp only[fin0])|(with_reducible refine Ob.mk ?_;clear h)|(clear h)
 all_goals(try simp only[eta0,RT.bytes]at *)
 all_goals grind
theorem a6k:b6 Tryz.prog 137 a1f:=j3 b9 (ss := [(167,N7)]) ⟨Z9,trivial⟩ rfl rfl<|by
 intro(bs:Th (List Int)) (p:Th Int) ⟨(s:Th Sto),u⟩ K _ _ ho h
 obtain⟨s,rfl⟩:=a8 s
 have hrl:=c6R ho.1
 refine⟨noAnn,noAnn,20,?_⟩
 cbv
 repeat' first|((with_reducible intro _);cbv)|(with_reducible refine And.intro ?_ ?_)
 all_goals first|(refine retK h ?_;clear h;simp only[fin0])|(with_reducible refine Ob.mk ?_;clear h)|(clear h)
 all_goals(try simp only[eta0,RT.bytes]at *)
 all_goals grind
theorem d0o:b6 Tryz.prog 79 a2w:=j3 b9 (ss := [(38,sIn),(118,a0J),(119,c6p)]) ⟨okIn,c1H,c7m,trivial⟩ rfl rfl<|by
 intro(bs:Th (List Int)) (p:Th Int) ⟨(m:Th PMap),(s:Th Sto),u⟩ K _ _ ho h
 obtain⟨m,rfl⟩:=a8 m;obtain⟨s,rfl⟩:=a8 s
 have hso := @v8 m s
 refine⟨noAnn,noAnn,20,?_⟩
 cbv
 repeat' first|((with_reducible intro _);cbv)|(with_reducible refine And.intro ?_ ?_)
 all_goals first|(refine retK h ?_;clear h;simp only[fin0])|(with_reducible refine Ob.mk ?_;clear h)|(clear h)
 all_goals(try simp only[eta0,RT.bytes]at *)
 all_goals grind[inR]
theorem a1V:b6 Tryz.prog 98 a2w:=j3 b9 (ss := [(97,sIn),(146,a0J),(147,a5I)]) ⟨G7,a0N,a4X,trivial⟩ rfl rfl<|by
 intro(bs:Th (List Int)) (p:Th Int) ⟨(m:Th PMap),(s:Th Sto),u⟩ K _ _ ho h
 obtain⟨m,rfl⟩:=a8 m;obtain⟨s,rfl⟩:=a8 s
 have hso := @v8 m s
 refine⟨noAnn,noAnn,20,?_⟩
 cbv
 repeat' first|((with_reducible intro _);cbv)|(with_reducible refine And.intro ?_ ?_)
 all_goals first|(refine retK h ?_;clear h;simp only[fin0])|(with_reducible refine Ob.mk ?_;clear h)|(clear h)
 all_goals(try simp only[eta0,RT.bytes]at *)
 all_goals grind[inR,V9]
theorem c1C:b6 Tryz.prog 220 b8F:=j3 b9 (ss := [(119,c6p)]) ⟨c7m,trivial⟩ rfl rfl<|by
 intro(bs:Th (List Int)) (p:Th Int) ⟨(s:Th Sto),(m:Th PMap),u⟩ K _ _ ho h
 obtain⟨s,rfl⟩:=a8 s;obtain⟨m,rfl⟩:=a8 m
 obtain⟨hpre,h⟩:=h
 have hpre:=v8.1 hpre.out
 refine⟨noAnn,noAnn,20,?_⟩
 cbv
 repeat' first|((with_reducible intro _);cbv)|(with_reducible refine And.intro ?_ ?_)
 all_goals first|(refine retK h ?_;clear h;simp only[fin0])|(with_reducible refine Ob.mk ?_;clear h)|(clear h)
 all_goals(try simp only[eta0,RT.bytes]at *)
 all_goals grind[o6]
theorem b6L:b6 Tryz.prog 250 b2c:=j3 b9 (ss := [(98,a2w),(147,a5I)]) ⟨a1V,a4X,trivial⟩ rfl rfl<|by
 intro(bs:Th (List Int)) (p:Th Int) ⟨(m:Th PMap),(s:Th Sto),u⟩ K _ _ ho h
 obtain⟨m,rfl⟩:=a8 m;obtain⟨s,rfl⟩:=a8 s
 have hso := @v8 m s
 refine⟨noAnn,noAnn,20,?_⟩
 cbv
 repeat' first|((with_reducible intro _);cbv)|(with_reducible refine And.intro ?_ ?_)
 all_goals first|(refine retK h ?_;clear h;simp only[fin0])|(with_reducible refine Ob.mk ?_;clear h)|(clear h)
 all_goals(try simp only[eta0,RT.bytes]at *)
 all_goals grind[X7,o6,Q7,V9]
theorem b6M:b6 Tryz.prog 249 b2d:=j3 b9 (ss := [(98,a2w),(97,sIn),(137,a1f)]) ⟨a1V,G7,a6k,trivial⟩ rfl rfl<|by
 intro(bs:Th (List Int)) (p:Th Int) ⟨(m:Th PMap),(s:Th Sto),(a:Th Int),u⟩ K _ _ ho h
 obtain⟨m,rfl⟩:=a8 m;obtain⟨s,rfl⟩:=a8 s;obtain⟨a,rfl⟩:=a8 a
 refine⟨noAnn,noAnn,20,?_⟩
 cbv
 repeat' first|((with_reducible intro _);cbv)|(with_reducible refine And.intro ?_ ?_)
 all_goals first|(refine retK h ?_;clear h;simp only[fin0])|(with_reducible refine Ob.mk ?_;clear h)|(clear h)
 all_goals(try simp only[eta0,RT.bytes]at *)
 all_goals grind[R7,Z5,Q7,inR]
theorem b4q:b6 Tryz.prog 253 a9j:=j3 b9 (ss := [(98,a2w),(137,a1f),(147,a5I),(186,a5J)]) ⟨a1V,a6k,a4X,a7p,trivial⟩ rfl rfl<|by
 intro(bs:Th (List Int)) (p:Th Int) ⟨(m:Th PMap),(s:Th Sto),(a:Th Int),(b:Th Int),(r:Th Sx.Rec),u⟩ K _ _ ho h
 obtain⟨m,rfl⟩:=a8 m;obtain⟨s,rfl⟩:=a8 s;obtain⟨a,rfl⟩:=a8 a;obtain⟨b,rfl⟩:=a8 b;obtain⟨r,rfl⟩:=a8 r
 have hso := @v8 m s
 have hst := @a1M m s
 refine⟨noAnn,noAnn,20,?_⟩
 cbv
 repeat' first|((with_reducible intro _);cbv)|(with_reducible refine And.intro ?_ ?_)
 all_goals first|(refine retK h ?_;clear h;simp only[fin0])|(with_reducible refine Ob.mk ?_;clear h)|(clear h)
 all_goals(try simp only[eta0,RT.bytes]at *)
 all_goals grind[y4,I3,o6,Z5,Q7,V9,L9]
def nHld:List (Option RT) := [none,none,none,some .wlk,none,some .pcls,some .int,some .int]
noncomputable def a2z:Sx.Spec:=⟨false,true,[.row .hld],[nHld],fun _ _ ⟨h,_⟩ => .ret (oHld h,fun _=>0)⟩
noncomputable def a7e:Sx.Spec:=⟨false,true,[.map,.row .hld],[],fun _ _ ⟨m,h,_⟩ => .ret (vB fun _=>P1 (m ()) (h ()),fun _=>0)⟩
noncomputable def a9q:Sx.Spec:=⟨false,true,[.map,.row .sto,.int .i64],[nHld,nSto,[none]],fun _ _ ⟨m,s,a,_⟩ => .ret (.tup [oHld fun _=>(G9 (m ()) (s ()) (a ())).h,oSto fun _=>(G9 (m ()) (s ()) (a ())).s,vB fun _=>(G9 (m ()) (s ()) (a ())).ok],fun _=>0)⟩
noncomputable def b2j:Sx.Spec:=⟨false,true,[.map,.row .hld,.row .sto,.row .rcd],[nHld,nSto,[none],[none]],fun _ _ ⟨m,h,s,r,_⟩ => .ret (.tup [oHld fun _=>(u3 (m ()) (h ()) (s ()) (r ())).h,oSto fun _=>(u3 (m ()) (h ()) (s ()) (r ())).s,vI fun _=>(u3 (m ()) (h ()) (s ()) (r ())).n,vI fun _=>(u3 (m ()) (h ()) (s ()) (r ())).k],fun _=>0)⟩
theorem b7c:b6 Tryz.prog 111 a2z:=j3 b9 (ss := [(158,N7)]) ⟨a6m,trivial⟩ rfl rfl<|by
 intro(bs:Th (List Int)) (p:Th Int) ⟨(g:Th Hld),u⟩ K _ _ ho h
 obtain⟨g,rfl⟩:=a8 g
 refine⟨noAnn,noAnn,20,?_⟩
 cbv
 repeat' first|((with_reducible intro _);cbv)|(with_reducible refine And.intro ?_ ?_)
 all_goals first|(refine retK h ?_;clear h;simp only[fin0])|(with_reducible refine Ob.mk ?_;clear h)|(clear h)
 all_goals(try simp only[eta0,RT.bytes]at *)
 all_goals grind
theorem d0u:b6 Tryz.prog 82 a7e:=j3 b9 (ss := [(38,sIn),(118,a0J)]) ⟨okIn,c1H,trivial⟩ rfl rfl<|by
 intro(bs:Th (List Int)) (p:Th Int) ⟨(m:Th PMap),(g:Th Hld),u⟩ K _ _ ho h
 obtain⟨m,rfl⟩:=a8 m;obtain⟨g,rfl⟩:=a8 g
 have hso := @A6 m g
 refine⟨noAnn,noAnn,20,?_⟩
 cbv
 repeat' first|((with_reducible intro _);cbv)|(with_reducible refine And.intro ?_ ?_)
 all_goals first|(refine retK h ?_;clear h;simp only[fin0])|(with_reducible refine Ob.mk ?_;clear h)|(clear h)
 all_goals(try simp only[eta0,RT.bytes]at *)
 all_goals grind[inR]
theorem b9c {m:PMap} {s:Sto} {a:Int} (h:A3 m s=true) (h1:1≤a) (h2:a≤900):((R7 m s a).ok=false→G9 m s a=⟨a1J,(R7 m s a).s,false⟩) ∧
  ((R7 m s a).ok=true→G9 m s a=⟨⟨a,(R7 m s a).s.recs.length,X7 m (R7 m s a).s⟩,(R7 m s a).s,true⟩):=by
 have hc:A3 m s=true∧0≤a∧a≤900:=⟨h,by omega,h2⟩
 have ha:=c9o h (a:=a) (by omega) h2
 unfold R7 G9
 have hd:A3 m s=true∧1≤a∧a≤900:=⟨h,h1,h2⟩
 rw[if_pos hc,if_pos hd]
 by_cases hl:a<s.age
 ·rw[if_pos hl]
  exact⟨fun _=>(by first|rw[if_pos hl]|rfl),fun hh=>by cases hh⟩
 ·rw[if_neg hl]
  refine⟨fun hh=>(by cases hh),fun _ => ?_⟩
  first
   |rw[if_neg hl,ha.2,b3G h]
   |rw[ha.2,b3G h]
theorem c2M {m:PMap} {g:Hld} {s:Sto} {r:Sx.Rec} (hg:P1 m g=true) (hs:A3 m s=true) :
  (¬(y4 m s g.age g.count r).n=1→u3 m g s r=⟨g,s,(y4 m s g.age g.count r).n,0⟩∧(y4 m s g.age g.count r).s=s) ∧
  ((y4 m s g.age g.count r).n=1→(D9 m g.state r).ok=false→u3 m g s r=⟨g,s,4,0⟩) ∧
  ((y4 m s g.age g.count r).n=1→(D9 m g.state r).ok=true→u3 m g s r=⟨⟨g.age,g.count+1,(D9 m g.state r).c⟩,(y4 m s g.age g.count r).s,1,(D9 m g.state r).code⟩)∧(-10≤g.count∧g.count≤250):=by
 have hg2:=A6.1 hg
 have hno := @c0v m s g.age g.count r hs
 have hc:P1 m g=true∧A3 m s=true:=⟨hg,hs⟩
 refine⟨fun hn=>⟨?_,hno hn⟩,fun hn ho => ?_,fun hn ho => ?_,by omega⟩
 ·rw[a0X hs]at hn ⊢
  rw[u3,if_pos hc,if_pos hn]
 ·rw[a0X hs]at hn
  have hl:E9 m r=true:=by
   rcases a2l m s g.age g.count r with ⟨_,h2⟩|⟨_,_,_,_,_,h6,_⟩
   ·omega
   ·exact h6
  rw[apX hg2.2.2 hl]at ho
  rw[u3,if_pos hc,if_neg (fun hh=>hh hn),if_pos ho]
 ·rw[a0X hs]at hn ⊢
  have hl:E9 m r=true:=by
   rcases a2l m s g.age g.count r with ⟨_,h2⟩|⟨_,_,_,_,_,h6,_⟩
   ·omega
   ·exact h6
  rw[apX hg2.2.2 hl]at ho ⊢
  rw[u3,if_pos hc,if_neg (fun hh=>hh hn),if_neg (by rw[ho];decide)]
theorem b8q {m:PMap} {g:Hld} {s:Sto} {r:Sx.Rec} (h:P1 m g=false∨A3 m s=false):u3 m g s r=⟨a1J,Z5,0,0⟩:=by
 rw[u3,if_neg]
 rintro⟨h1,h2⟩
 rcases h with h|h<;>simp_all
theorem b0c:b6 Tryz.prog 150 a7e:=j3 b9 (ss := [(97,sIn),(146,a0J)]) ⟨G7,a0N,trivial⟩ rfl rfl<|by
 intro(bs:Th (List Int)) (p:Th Int) ⟨(m:Th PMap),(g:Th Hld),u⟩ K _ _ ho h
 obtain⟨m,rfl⟩:=a8 m;obtain⟨g,rfl⟩:=a8 g
 have hso := @A6 m g
 refine⟨noAnn,noAnn,20,?_⟩
 cbv
 repeat' first|((with_reducible intro _);cbv)|(with_reducible refine And.intro ?_ ?_)
 all_goals first|(refine retK h ?_;clear h;simp only[fin0])|(with_reducible refine Ob.mk ?_;clear h)|(clear h)
 all_goals(try simp only[eta0,RT.bytes]at *)
 all_goals grind[inR]
theorem b0e:b6 Tryz.prog 117 a2z:=j3 b9 (ss := [(167,N7)]) ⟨Z9,trivial⟩ rfl rfl<|by
 intro(bs:Th (List Int)) (p:Th Int) ⟨(g:Th Hld),u⟩ K _ _ ho h
 obtain⟨g,rfl⟩:=a8 g
 refine⟨noAnn,noAnn,20,?_⟩
 cbv
 repeat' first|((with_reducible intro _);cbv)|(with_reducible refine And.intro ?_ ?_)
 all_goals first|(refine retK h ?_;clear h;simp only[fin0])|(with_reducible refine Ob.mk ?_;clear h)|(clear h)
 all_goals(try simp only[eta0,RT.bytes]at *)
 all_goals grind
theorem b0b:b6 Tryz.prog 233 a9q:=j3 b9 (ss := [(98,a2w),(97,sIn),(249,b2d),(250,b2c)]) ⟨a1V,G7,b6M,b6L,trivial⟩ rfl rfl<|by
 intro(bs:Th (List Int)) (p:Th Int) ⟨(m:Th PMap),(s:Th Sto),(a:Th Int),u⟩ K _ _ ho h
 obtain⟨m,rfl⟩:=a8 m;obtain⟨s,rfl⟩:=a8 s;obtain⟨a,rfl⟩:=a8 a
 have hop := @b9c m s a
 have hb1:A3 m s=false→G9 m s a=⟨a1J,Z5,false⟩:=fun hh=>by
  rw[G9,if_neg (fun h3=>by simp_all)]
 have hb2:inR a 1 900=false→G9 m s a=⟨a1J,Z5,false⟩:=fun hh=>by
  simp only[inR,decide_eq_false_iff_not]at hh
  rw[G9,if_neg (fun h3=>hh h3.2)]
 have hb3:inR a 1 900=true→1≤a∧a≤900:=fun hh=>by simpa [inR]using hh
 refine⟨noAnn,noAnn,20,?_⟩
 cbv
 repeat' first|((with_reducible intro _);cbv)|(with_reducible refine And.intro ?_ ?_)
 all_goals first|(refine retK h ?_;clear h;simp only[fin0])|(with_reducible refine Ob.mk ?_;clear h)|(clear h)
 all_goals(try simp only[eta0,RT.bytes]at *)
 all_goals grind[Z5,Q7,a1J]
theorem b6O:b6 Tryz.prog 238 b2j:=j3 b9 (ss := [(150,a7e),(98,a2w),(253,a9j),(117,a2z),(252,a7d),(137,a1f)]) ⟨b0c,a1V,b4q,b0e,a8c,a6k,trivial⟩ rfl rfl<|by
 intro(bs:Th (List Int)) (p:Th Int) ⟨(m:Th PMap),(g:Th Hld),(s:Th Sto),(r:Th Sx.Rec),u⟩ K _ _ ho h
 obtain⟨m,rfl⟩:=a8 m;obtain⟨g,rfl⟩:=a8 g;obtain⟨s,rfl⟩:=a8 s;obtain⟨r,rfl⟩:=a8 r
 have hw := @c2M m g s r
 have hz := @b8q m g s r
 refine⟨noAnn,noAnn,20,?_⟩
 cbv
 repeat' first|((with_reducible intro _);cbv)|(with_reducible refine And.intro ?_ ?_)
 all_goals first|(refine retK h ?_;clear h;simp only[fin0])|(with_reducible refine Ob.mk ?_;clear h)|(clear h)
 all_goals(try simp only[eta0,RT.bytes]at *)
 all_goals grind[Z5,Q7,a1J,b8]
noncomputable def a6Z:Sx.Spec:=⟨false,true,[.map,.row .srv],[],fun _ _ ⟨m,s,_⟩ => .ret (vB fun _=>A4 (m ()) (s ()),fun _=>0)⟩
noncomputable def a2y:Sx.Spec:=⟨false,true,[.row .srv,.int .i64],[],fun _ _ ⟨s,c,_⟩ => .ret (vI fun _=>j5 (s ()).holds (c ()),fun _=>0)⟩
noncomputable def a0I:Sx.Spec:=⟨false,true,[.row .srv,.int .i64],[nHld,[none]],fun _ _ ⟨s,c,_⟩ => .ret (.tup [oHld fun _=>e9 (s ()) (c ()),vB fun _=>u5 (s ()) (c ())],fun _=>0)⟩
noncomputable def a4b:Sx.Spec:=⟨false,true,[.row .srv],[[none,some .hld,some .gst]],fun _ _ ⟨s,_⟩ => .ret (oSrv s,fun _=>0)⟩
noncomputable def b3T:Sx.Spec:=⟨false,true,[.list .gst],[[some .gst]],fun _ _ ⟨l,_⟩ => .ret (vW .gst l,fun _=>0)⟩
noncomputable def a3q:Sx.Spec:=⟨false,true,[.list .sto],[[some .sto]],fun _ _ ⟨l,_⟩ => .ret (vW .sto l,fun _=>0)⟩
noncomputable def a5G:Sx.Spec:=⟨false,true,[.map,.list .sto],[],fun _ _ ⟨m,l,_⟩ => .ret (vB fun _=>z7 (m ()) (l ()),fun _=>0)⟩
noncomputable def c1d:Sx.Spec:=⟨false,true,[.row .hld,.map,.int .i64],[[some .gst]],fun _ _ ⟨h,m,s,_⟩ => .asrt (fun _=>(h ()).state.wlks.length≤9) (.ret (vW .gst fun _=>n6 (m ()) (h ()) (s ()),fun _=>0))⟩
noncomputable def c6o:Sx.Spec:=⟨false,true,[.map,.row .hld,.int .i64],[[some .gst]],fun _ _ ⟨m,h,s,_⟩ => .ret (vW .gst fun _=>if P1 (m ()) (h ())=true then n6 (m ()) (h ()) (s ())else[],fun _=>0)⟩
theorem d0p:b6 Tryz.prog 31 a6Z:=j3 b9 (ss := [(82,a7e),(83,c1b)]) ⟨d0u,c7i,trivial⟩ rfl rfl<|by
 intro(bs:Th (List Int)) (p:Th Int) ⟨(m:Th PMap),(s:Th Srv),u⟩ K _ _ ho h
 obtain⟨m,rfl⟩:=a8 m;obtain⟨s,rfl⟩:=a8 s
 have hl:=okL (ho.2.1 _ (.tail _ (.head _)))
 have hl2:=okL (ho.2.1 _ (.tail _ (.tail _ (.head _))))
 refine⟨annL [(31,2,⟨Nat,[],fun σ k => σ.t 10 (vI fun _=>(k:Int)),fun _ k _=>k≤s.holds.length∧l9 k (a2d m s.holds)=true,fun _ k _=>s.holds.length-k⟩)],noAnn,20,?_⟩
 cbv
 repeat' first|((with_reducible refine fun(k:Nat) => ?_);cbv)|((with_reducible intro _);cbv)|(with_reducible refine And.intro ?_ ?_)
 all_goals try((first|(with_reducible refine LoopIn.mk ((0:Nat)) ?_ ?_)|(with_reducible refine LoopBack.mk ((k+1:Nat)) ?_ ?_ ?_)) )
 all_goals try((with_reducible show l8 _ _);cbv;(try simp only[and_true,true_and]))
 all_goals try(repeat' with_reducible refine And.intro ?_ ?_)
 all_goals first|(refine retK h ?_;clear h;simp only[fin0])|(with_reducible refine Ob.mk ?_;clear h)|(clear h)
 all_goals(try simp only[eta0,RT.bytes]at *)
 all_goals grind[j4,b8,a0x,b5I,b5H,c0L,a4x,a2d,n8,n3]
theorem a9Y:b6 Tryz.prog 100 a6Z:=j3 b9 (ss := [(48,A9),(149,a9r),(150,a7e)]) ⟨C9,b2D,b0c,trivial⟩ rfl rfl<|by
 intro(bs:Th (List Int)) (p:Th Int) ⟨(m:Th PMap),(s:Th Srv),u⟩ K _ _ ho h
 obtain⟨m,rfl⟩:=a8 m;obtain⟨s,rfl⟩:=a8 s
 have hl:=okL (ho.2.1 _ (.tail _ (.head _)))
 have hl2:=okL (ho.2.1 _ (.tail _ (.tail _ (.head _))))
 have hb:p7 m=false∨D2 m s.n6=false∨a4x s=false→A4 m s=false:=by
  intro hh
  rcases hh with hh|hh|hh<;>simp[A4,U1,hh]
 have hb2:p7 m=true→D2 m s.n6=true→U1 m s.n6=true:=fun h1 h2=>by simp[U1,h1,h2]
 refine⟨annL [(100,4,⟨Nat,[],fun σ k => σ.t 5 (vI fun _=>(k:Int)),fun _ k _=>k≤s.holds.length∧U1 m s.n6=true∧a4x s=true∧l9 k (a2d m s.holds)=true,fun _ k _=>s.holds.length-k⟩)],noAnn,20,?_⟩
 cbv
 repeat' first|((with_reducible refine fun(k:Nat) => ?_);cbv)|((with_reducible intro _);cbv)|(with_reducible refine And.intro ?_ ?_)
 all_goals try((first|(with_reducible refine LoopIn.mk ((0:Nat)) ?_ ?_)|(with_reducible refine LoopBack.mk ((k+1:Nat)) ?_ ?_ ?_)) )
 all_goals try((with_reducible show l8 _ _);cbv;(try simp only[and_true,true_and]))
 all_goals try(repeat' with_reducible refine And.intro ?_ ?_)
 all_goals first|(refine retK h ?_;clear h;simp only[fin0])|(with_reducible refine Ob.mk ?_;clear h)|(clear h)
 all_goals(try simp only[eta0,RT.bytes]at *)
 all_goals grind[j4,b8,a0x,b5I,b5H,c0L,a4x,a2d,n8,n3]
theorem b0g:b6 Tryz.prog 115 a2y:=j3 b9 (ss := []) trivial rfl rfl<|by
 intro(bs:Th (List Int)) (p:Th Int) ⟨(s:Th Srv),(c:Th Int),u⟩ K _ _ ho h
 obtain⟨s,rfl⟩:=a8 s;obtain⟨c,rfl⟩:=a8 c
 have hl:=okL (ho.1 _ (.tail _ (.head _)))
 refine⟨annL [(84,2,⟨Nat,[],fun σ k => σ.t 8 (vI fun _=>(k:Int)),fun _ k _=>k≤s.holds.length∧l9 k (a8g s.holds c)=true,fun _ k _=>s.holds.length-k⟩)],noAnn,20,?_⟩
 cbv
 repeat' first|((with_reducible refine fun(k:Nat) => ?_);cbv)|((with_reducible intro _);cbv)|(with_reducible refine And.intro ?_ ?_)
 all_goals try((first|(with_reducible refine LoopIn.mk ((0:Nat)) ?_ ?_)|(with_reducible refine LoopBack.mk ((k+1:Nat)) ?_ ?_ ?_)) )
 all_goals try((with_reducible show l8 _ _);cbv;(try simp only[and_true,true_and]))
 all_goals try(repeat' with_reducible refine And.intro ?_ ?_)
 all_goals first|(refine retK h ?_;clear h;simp only[fin0])|(with_reducible refine Ob.mk ?_;clear h)|(clear h)
 all_goals(try simp only[eta0,RT.bytes]at *)
 all_goals grind[n8,n3,a8g,O9,c1W,b2N,j4]
theorem a4V:b6 Tryz.prog 78 a0I:=j3 b9 (ss := [(117,a2z)]) ⟨b0e,trivial⟩ rfl rfl<|by
 intro(bs:Th (List Int)) (p:Th Int) ⟨(s:Th Srv),(c:Th Int),u⟩ K _ _ ho h
 obtain⟨s,rfl⟩:=a8 s;obtain⟨c,rfl⟩:=a8 c
 have hl:=okL (ho.1 _ (.tail _ (.head _)))
 refine⟨annL [(78,2,⟨Nat,[],fun σ k => σ.t 6 (vI fun _=>(k:Int)),fun _ k _=>k≤s.holds.length∧l9 k (a8g s.holds c)=true,fun _ k _=>s.holds.length-k⟩)],noAnn,20,?_⟩
 cbv
 repeat' first|((with_reducible refine fun(k:Nat) => ?_);cbv)|((with_reducible intro _);cbv)|(with_reducible refine And.intro ?_ ?_)
 all_goals try((first|(with_reducible refine LoopIn.mk ((0:Nat)) ?_ ?_)|(with_reducible refine LoopBack.mk ((k+1:Nat)) ?_ ?_ ?_)) )
 all_goals try((with_reducible show l8 _ _);cbv;(try simp only[and_true,true_and]))
 all_goals try(repeat' with_reducible refine And.intro ?_ ?_)
 all_goals first|(refine retK h ?_;clear h;simp only[fin0])|(with_reducible refine Ob.mk ?_;clear h)|(clear h)
 all_goals(try simp only[eta0,RT.bytes]at *)
 all_goals grind(splits:=40) [n8,n3,a8g,O9,c1W,b2N,j4,e9,u5,a1J,Q7]
theorem b7d:b6 Tryz.prog 110 b3T:=j3 b9 (ss := []) trivial rfl rfl<|by
 intro(bs:Th (List Int)) (p:Th Int) ⟨(l:Th (List Gst)),u⟩ K _ _ ho h
 obtain⟨l,rfl⟩:=a8 l
 have hl:=okB (ho.1 _ (.head _))
 refine⟨noAnn,noAnn,20,?_⟩
 cbv
 repeat' first|((with_reducible intro _);cbv)|(with_reducible refine And.intro ?_ ?_)
 all_goals first|(refine retK h ?_;clear h;simp only[fin0])|(with_reducible refine Ob.mk ?_;clear h)|(clear h)
 all_goals(try simp only[eta0,RT.bytes]at *)
 all_goals grind
theorem c7n:b6 Tryz.prog 65 a4b:=j3 b9 (ss := [(110,b3T),(111,a2z)]) ⟨b7d,b7c,trivial⟩ rfl rfl<|by
 intro(bs:Th (List Int)) (p:Th Int) ⟨(s:Th Srv),u⟩ K _ _ ho h
 obtain⟨s,rfl⟩:=a8 s
 have hl:=okB (ho.1 _ (.tail _ (.head _)))
 have hl2:=okB (ho.1 _ (.tail _ (.tail _ (.head _))))
 have hz:=a1h s.holds
 have hs:=fun k => @J1 .hld s.holds k
 refine⟨annL [(65,3,⟨Nat,[⟨.cell 4 1,some 25,.hld⟩],fun σ k=>((σ.t 15 (vI fun _=>(k:Int))).v5 4 1 (.own 25 1)).row 25 1 .hld (fun _=>pre s.holds k),fun _ k _=>k≤s.holds.length,fun _ k _=>s.holds.length-k⟩)],noAnn,20,?_⟩
 cbv
 repeat' first|((with_reducible refine fun(k:Nat) => ?_);cbv)|((with_reducible intro _);cbv)|(with_reducible refine And.intro ?_ ?_)
 all_goals try((first|(with_reducible refine LoopIn.mk ((0:Nat)) ?_ ?_)|(with_reducible refine LoopBack.mk ((k+1:Nat)) ?_ ?_ ?_)) )
 all_goals try((with_reducible show l8 _ _);cbv;(try simp only[and_true,true_and]))
 all_goals try(repeat' with_reducible refine And.intro ?_ ?_)
 all_goals first|(refine retK h ?_;clear h;simp only[fin0])|(with_reducible refine Ob.mk ?_;clear h)|(clear h)
 all_goals(try simp only[eta0,RT.bytes]at *)
 all_goals grind[Z8,a1i,j4]
theorem a7r:b6 Tryz.prog 95 a4b:=j3 b9 (ss := [(117,a2z)]) ⟨b0e,trivial⟩ rfl rfl<|by
 intro(bs:Th (List Int)) (p:Th Int) ⟨(s:Th Srv),u⟩ K _ _ ho h
 obtain⟨s,rfl⟩:=a8 s
 have hl:=okB (ho.1 _ (.tail _ (.head _)))
 have hl2:=okB (ho.1 _ (.tail _ (.tail _ (.head _))))
 have hz:=a1h s.holds
 have hs:=fun k => @J1 .hld s.holds k
 refine⟨annL [(95,3,⟨Nat,[⟨.cell 4 1,some 29,.hld⟩],fun σ k=>(((σ.fg 8).t 4 (vI fun _=>(k:Int))).v5 4 1 (.own 29 1)).row 29 1 .hld (fun _=>pre s.holds k),fun _ k _=>k≤s.holds.length,fun _ k _=>s.holds.length-k⟩)],noAnn,20,?_⟩
 cbv
 repeat' first|((with_reducible refine fun(k:Nat) => ?_);cbv)|((with_reducible intro _);cbv)|(with_reducible refine And.intro ?_ ?_)
 all_goals try((first|(with_reducible refine LoopIn.mk ((0:Nat)) ?_ ?_)|(with_reducible refine LoopBack.mk ((k+1:Nat)) ?_ ?_ ?_)) )
 all_goals try((with_reducible show l8 _ _);cbv;(try simp only[and_true,true_and]))
 all_goals try(repeat' with_reducible refine And.intro ?_ ?_)
 all_goals first|(refine retK h ?_;clear h;simp only[fin0])|(with_reducible refine Ob.mk ?_;clear h)|(clear h)
 all_goals(try simp only[eta0,RT.bytes]at *)
 all_goals grind[Z8,a1i,j4]
theorem c4g:b6 Tryz.prog 62 a3q:=j3 b9 (ss := [(109,a1f)]) ⟨b7b,trivial⟩ rfl rfl<|by
 intro(bs:Th (List Int)) (p:Th Int) ⟨(l:Th (List Sto)),u⟩ K _ _ ho h
 obtain⟨l,rfl⟩:=a8 l
 have hl:=okB (ho.1 _ (.head _))
 have hz:=a1h l
 have hs:=fun k => @J1 .sto l k
 refine⟨annL [(62,3,⟨Nat,[⟨.tmp 3 0,some 17,.sto⟩],fun σ k=>((σ.t 8 (vI fun _=>(k:Int))).t 3 (vO 17 1)).row 17 1 .sto (fun _=>pre l k),fun _ k _=>k≤l.length,fun _ k _=>l.length-k⟩)],noAnn,20,?_⟩
 cbv
 repeat' first|((with_reducible refine fun(k:Nat) => ?_);cbv)|((with_reducible intro _);cbv)|(with_reducible refine And.intro ?_ ?_)
 all_goals try((first|(with_reducible refine LoopIn.mk ((0:Nat)) ?_ ?_)|(with_reducible refine LoopBack.mk ((k+1:Nat)) ?_ ?_ ?_)) )
 all_goals try((with_reducible show l8 _ _);cbv;(try simp only[and_true,true_and]))
 all_goals try(repeat' with_reducible refine And.intro ?_ ?_)
 all_goals first|(refine retK h ?_;clear h;simp only[fin0])|(with_reducible refine Ob.mk ?_;clear h)|(clear h)
 all_goals(try simp only[eta0,RT.bytes]at *)
 all_goals grind[Z8,a1i,j4]
theorem a8d:b6 Tryz.prog 93 a3q:=j3 b9 (ss := [(137,a1f)]) ⟨a6k,trivial⟩ rfl rfl<|by
 intro(bs:Th (List Int)) (p:Th Int) ⟨(l:Th (List Sto)),u⟩ K _ _ ho h
 obtain⟨l,rfl⟩:=a8 l
 have hl:=okB (ho.1 _ (.head _))
 have hz:=a1h l
 have hs:=fun k => @J1 .sto l k
 refine⟨annL [(93,3,⟨Nat,[⟨.tmp 3 0,some 6,.sto⟩],fun σ k=>(((σ.fg 6).t 4 (vI fun _=>(k:Int))).t 3 (vO 6 1)).row 6 1 .sto (fun _=>pre l k),fun _ k _=>k≤l.length,fun _ k _=>l.length-k⟩)],noAnn,20,?_⟩
 cbv
 repeat' first|((with_reducible refine fun(k:Nat) => ?_);cbv)|((with_reducible intro _);cbv)|(with_reducible refine And.intro ?_ ?_)
 all_goals try((first|(with_reducible refine LoopIn.mk ((0:Nat)) ?_ ?_)|(with_reducible refine LoopBack.mk ((k+1:Nat)) ?_ ?_ ?_)) )
 all_goals try((with_reducible show l8 _ _);cbv;(try simp only[and_true,true_and]))
 all_goals try(repeat' with_reducible refine And.intro ?_ ?_)
 all_goals first|(refine retK h ?_;clear h;simp only[fin0])|(with_reducible refine Ob.mk ?_;clear h)|(clear h)
 all_goals(try simp only[eta0,RT.bytes]at *)
 all_goals grind[Z8,a1i,j4]
theorem c6Q:b6 Tryz.prog 29 a5G:=j3 b9 (ss := [(79,a2w),(55,A9)]) ⟨d0o,S6,trivial⟩ rfl rfl<|by
 intro(bs:Th (List Int)) (p:Th Int) ⟨(m:Th PMap),(l:Th (List Sto)),u⟩ K _ _ ho h
 obtain⟨m,rfl⟩:=a8 m;obtain⟨l,rfl⟩:=a8 l
 have hl:=okL (ho.2.1 _ (.head _))
 refine⟨annL [(29,2,⟨Nat,[],fun σ k => σ.t 9 (vI fun _=>(k:Int)),fun _ k _=>k≤l.length∧l9 k (a1K m l)=true,fun _ k _=>l.length-k⟩)],noAnn,20,?_⟩
 cbv
 repeat' first|((with_reducible refine fun(k:Nat) => ?_);cbv)|((with_reducible intro _);cbv)|(with_reducible refine And.intro ?_ ?_)
 all_goals try((first|(with_reducible refine LoopIn.mk ((0:Nat)) ?_ ?_)|(with_reducible refine LoopBack.mk ((k+1:Nat)) ?_ ?_ ?_)) )
 all_goals try((with_reducible show l8 _ _);cbv;(try simp only[and_true,true_and]))
 all_goals try(repeat' with_reducible refine And.intro ?_ ?_)
 all_goals first|(refine retK h ?_;clear h;simp only[fin0])|(with_reducible refine Ob.mk ?_;clear h)|(clear h)
 all_goals(try simp only[eta0,RT.bytes]at *)
 all_goals grind[j4,b1T,b1S,b5z,a1K,n8,n3]
theorem b2C:b6 Tryz.prog 50 a5G:=j3 b9 (ss := [(48,A9),(98,a2w)]) ⟨C9,a1V,trivial⟩ rfl rfl<|by
 intro(bs:Th (List Int)) (p:Th Int) ⟨(m:Th PMap),(l:Th (List Sto)),u⟩ K _ _ ho h
 obtain⟨m,rfl⟩:=a8 m;obtain⟨l,rfl⟩:=a8 l
 have hl:=okL (ho.2.1 _ (.head _))
 have hb:p7 m=false ∨ ¬(l.length:Int)=m.cells→z7 m l=false:=by
  intro hh
  rcases hh with hh|hh<;>simp[z7,hh]
 refine⟨annL [(50,4,⟨Nat,[],fun σ k => σ.t 5 (vI fun _=>(k:Int)),fun _ k _=>k≤l.length∧p7 m=true∧(l.length:Int)=m.cells∧l9 k (a1K m l)=true,fun _ k _=>l.length-k⟩)],noAnn,20,?_⟩
 cbv
 repeat' first|((with_reducible refine fun(k:Nat) => ?_);cbv)|((with_reducible intro _);cbv)|(with_reducible refine And.intro ?_ ?_)
 all_goals try((first|(with_reducible refine LoopIn.mk ((0:Nat)) ?_ ?_)|(with_reducible refine LoopBack.mk ((k+1:Nat)) ?_ ?_ ?_)) )
 all_goals try((with_reducible show l8 _ _);cbv;(try simp only[and_true,true_and]))
 all_goals try(repeat' with_reducible refine And.intro ?_ ?_)
 all_goals first|(refine retK h ?_;clear h;simp only[fin0])|(with_reducible refine Ob.mk ?_;clear h)|(clear h)
 all_goals(try simp only[eta0,RT.bytes]at *)
 all_goals grind[j4,b1T,b1S,b5z,a1K,n8,n3]
theorem c7k:b6 Tryz.prog 116 c1d:=j3 b9 (ss := [(126,R8)]) ⟨a1W,trivial⟩ rfl rfl<|by
 intro(bs:Th (List Int)) (p:Th Int) ⟨(h0:Th Hld),(m:Th PMap),(s:Th Int),u⟩ K _ _ ho h
 obtain⟨h0,rfl⟩:=a8 h0;obtain⟨m,rfl⟩:=a8 m;obtain⟨s,rfl⟩:=a8 s
 obtain⟨ha,h⟩:=h
 have ha:=ha.out
 have hl:=okB (ho.1 _ (.tail _ (.tail _ (.tail _ (.head _)))))
 have hz:=b7P m h0 s
 refine⟨annL [(116,3,⟨Nat,[⟨.tmp 7 0,some 33,.gst⟩],fun σ k=>((σ.t 14 (vI fun _=>(k:Int))).t 7 (vO 33 1)).row 33 1 .gst (fun _=>ghTo m h0 s k),fun _ k _=>k≤h0.state.wlks.length,fun _ k _=>h0.state.wlks.length-k⟩)],noAnn,20,?_⟩
 cbv
 repeat' first|((with_reducible refine fun(k:Nat) => ?_);cbv)|((with_reducible intro _);cbv)|(with_reducible refine And.intro ?_ ?_)
 all_goals try((first|(with_reducible refine LoopIn.mk ((0:Nat)) ?_ ?_)|(with_reducible refine LoopBack.mk ((k+1:Nat)) ?_ ?_ ?_)) )
 all_goals try((with_reducible show l8 _ _);cbv;(try simp only[and_true,true_and]))
 all_goals try(repeat' with_reducible refine And.intro ?_ ?_)
 all_goals first|(refine retK h ?_;clear h;simp only[fin0])|(with_reducible refine Ob.mk ?_;clear h)|(clear h)
 all_goals(try simp only[eta0,RT.bytes]at *)
 all_goals grind[b2V,b7O,c2b,n6,j4]
theorem c6U:b6 Tryz.prog 213 c6o:=j3 b9 (ss := [(150,a7e),(188,R8)]) ⟨b0c,a4W,trivial⟩ rfl rfl<|by
 intro(bs:Th (List Int)) (p:Th Int) ⟨(m:Th PMap),(h0:Th Hld),(s:Th Int),u⟩ K _ _ ho h
 obtain⟨m,rfl⟩:=a8 m;obtain⟨h0,rfl⟩:=a8 h0;obtain⟨s,rfl⟩:=a8 s
 have hn:P1 m h0=true→h0.state.wlks.length≤9:=fun h=>Q6 (A6.1 h).2.2
 have hl:=okB (ho.2.1 _ (.tail _ (.tail _ (.tail _ (.head _)))))
 have hz:=b7P m h0 s
 refine⟨annL [(213,5,⟨Nat,[⟨.tmp 7 0,some 11,.gst⟩],fun σ k=>(((σ.fg 11).t 8 (vI fun _=>(k:Int))).t 7 (vO 11 1)).row 11 1 .gst (fun _=>ghTo m h0 s k),fun _ k _=>k≤h0.state.wlks.length∧P1 m h0=true,fun _ k _=>h0.state.wlks.length-k⟩)],noAnn,20,?_⟩
 cbv
 repeat' first|((with_reducible refine fun(k:Nat) => ?_);cbv)|((with_reducible intro _);cbv)|(with_reducible refine And.intro ?_ ?_)
 all_goals try((first|(with_reducible refine LoopIn.mk ((0:Nat)) ?_ ?_)|(with_reducible refine LoopBack.mk ((k+1:Nat)) ?_ ?_ ?_)) )
 all_goals try((with_reducible show l8 _ _);cbv;(try simp only[and_true,true_and]))
 all_goals try(repeat' with_reducible refine And.intro ?_ ?_)
 all_goals first|(refine retK h ?_;clear h;simp only[fin0])|(with_reducible refine Ob.mk ?_;clear h)|(clear h)
 all_goals(try simp only[eta0,RT.bytes]at *)
 all_goals grind[b2V,b7O,c2b,n6,j4]
end Go.Proofs.YtiioognflecdgaaGreat
