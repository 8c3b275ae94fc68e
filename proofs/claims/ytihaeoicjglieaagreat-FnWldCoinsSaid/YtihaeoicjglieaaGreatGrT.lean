/-
  Contracts: logs folded by the document, into new memory.
-/
import Derived.Test.YtihaeoicjglieaaGreatFnYs
import Derived.Test.YtihaeoicjglieaaGreatFnM
import Derived.Test.YtihaeoicjglieaaGreatInsW
import Derived.Test.YtihaeoicjglieaaGreatGnF
import Derived.Test.YtihaeoicjglieaaGreatM2
import Derived.Test.YtihaeoicjglieaaGreatGnC
import Derived.Test.YtihaeoicjglieaaGreatM7
import Derived.Test.YtihaeoicjglieaaGreatM3
set_option linter.unusedVariables false
set_option linter.unusedSimpArgs false
set_option maxRecDepth 100000
set_option maxHeartbeats 8000000
namespace Go.Proofs.YtihaeoicjglieaaGreat
open Go.Sx Go.Proofs Go.Mo
theorem a3E:b8 Tryz.prog 118 a4o:=j4 e9 (ss := [(180,a1D),(181,R0),(182,a6Y)]) ⟨a1J,a0R,a8O,trivial⟩ rfl rfl<|by
 intro(bs:Th (List Int)) (p:Th Int) ⟨(m:Th PMap),(c:Th Cll),(l:Th (List Sx.Rec)),u⟩ K _ _ ho h
 obtain⟨m,rfl⟩:=b6 m;obtain⟨c,rfl⟩:=b6 c;obtain⟨l,rfl⟩:=b6 l
 refine⟨annL [(118,5,⟨Nat,[⟨.cell 9 1,some 13569,.wlk⟩,⟨.cell 9 3,some 13571,.pcls⟩,⟨.cell 9 4,some 13572,.int⟩,⟨.cell 9 5,some 13573,.int⟩],
  fun σ k=>(((((((((((((σ.fgs [13569,13571,13572,13573]).t 24 (.one .unk)).t 9 (vI fun _=>(k:Int))).u7 9 0 (.att (.int .i64 fun _=>(v8 m c l k).cell))).u7 9 1 (.own 13569 1)).u7 9 2 (.att (.int .i64 fun _=>(v8 m c l k).ground))).u7 9 3 (.own 13571 1)).u7 9 4 (.own 13572 1)).u7 9 5 (.own 13573 1)).row 13569 1 .wlk (fun _=>(v8 m c l k).wlks)).row 13571 1 .pcls (fun _=>(v8 m c l k).outs)).row 13572 1 .int (fun _=>(v8 m c l k).next)).row 13573 1 .int (fun _=>(v8 m c l k).ins)),
  fun _ k _=>k≤l.length∧l.length≤250∧s6 m c=true∧m8 k (P2 m c l)=true,fun _ k _=>l.length-k⟩)],noAnn,20,?_⟩
 cbv
 repeat' first|((with_reducible refine fun(k:Nat) => ?_);cbv)|((with_reducible intro _);cbv)|(with_reducible refine And.intro ?_ ?_)
 all_goals try((first|(with_reducible refine LoopIn.mk ((0:Nat)) ?_ ?_)|(with_reducible refine LoopBack.mk ((k+1:Nat)) ?_ ?_ ?_)) )
 all_goals try((with_reducible show m0 _ _);cbv;(try simp only[and_true,true_and]))
 all_goals try(repeat' with_reducible refine And.intro ?_ ?_)
 all_goals first|(refine retK h ?_;clear h;simp only[fin0])|(with_reducible refine Ob.mk ?_;clear h)|(clear h)
 all_goals(try simp only[eta0,RT.bytes]at *)
 all_goals grind[U4,c3a,c0F,a7X,n7,n4,j3,c2k,b9D,b9C,a9T]
def nSto:List (Option RT) := [none,none,some .wlk,none,some .pcls,some .int,some .int,some .rcd]
noncomputable def a2d:Sx.Spec:=⟨false,true,[.row .sto],[nSto],fun _ _ ⟨s,_⟩ => .ret (oSto s,fun _=>0)⟩
noncomputable def a2A:Sx.Spec:=⟨false,true,[.map,.row .sto],[],fun _ _ ⟨m,s,_⟩ => .ret (vB fun _=>B1 (m ()) (s ()),fun _=>0)⟩
noncomputable def c1s:Sx.Spec:=⟨false,true,[.row .sto,.map],[nCll],fun _ _ ⟨s,m,_⟩ => .asrt (fun _=>B1 (m ()) (s ())=true) (.ret (oCll fun _=>q9 (m ()) (s ()),fun _=>0))⟩
noncomputable def b3Q:Sx.Spec:=⟨false,true,[.map,.row .sto],[nCll],fun _ _ ⟨m,s,_⟩ => .ret (oCll fun _=>L6 (m ()) (s ()),fun _=>0)⟩
noncomputable def b3R:Sx.Spec:=⟨false,true,[.map,.row .sto,.int .i64],[nSto,[none]],fun _ _ ⟨m,s,a,_⟩ => .ret (.tup [oSto fun _=>(U9 (m ()) (s ()) (a ())).s,vB fun _=>(U9 (m ()) (s ()) (a ())).ok],fun _=>0)⟩
noncomputable def b0P:Sx.Spec:=⟨false,true,[.map,.row .sto,.int .i64,.int .i64,.row .rcd],[nSto,[none]],fun _ _ ⟨m,s,a,b,r,_⟩ => .ret (.tup [oSto fun _=>(A3 (m ()) (s ()) (a ()) (b ()) (r ())).s,vI fun _=>(A3 (m ()) (s ()) (a ()) (b ()) (r ())).n],fun _=>0)⟩
theorem d0v {s:Sto} (h : ∀a∈(PT.row .sto).encA (fun _=>s),OkA a):s.recs.length * 128≤140737488355328:=okB (h _ (.tail _ (.tail _ (.tail _ (.tail _ (.tail _ (.tail _ (.tail _ (.head _)))))))))
theorem b9u:b8 Tryz.prog 170 a2d:=j4 e9 (ss := [(75,R0)]) ⟨a7E,trivial⟩ rfl rfl<|by
 intro(bs:Th (List Int)) (p:Th Int) ⟨(s:Th Sto),u⟩ K _ _ ho h
 obtain⟨s,rfl⟩:=b6 s
 have hrl:=d0v ho.1
 refine⟨noAnn,noAnn,20,?_⟩
 cbv
 repeat' first|((with_reducible intro _);cbv)|(with_reducible refine And.intro ?_ ?_)
 all_goals first|(refine retK h ?_;clear h;simp only[fin0])|(with_reducible refine Ob.mk ?_;clear h)|(clear h)
 all_goals(try simp only[eta0,RT.bytes]at *)
 all_goals grind
theorem a7B:b8 Tryz.prog 203 a2d:=j4 e9 (ss := [(181,R0)]) ⟨a0R,trivial⟩ rfl rfl<|by
 intro(bs:Th (List Int)) (p:Th Int) ⟨(s:Th Sto),u⟩ K _ _ ho h
 obtain⟨s,rfl⟩:=b6 s
 have hrl:=d0v ho.1
 refine⟨noAnn,noAnn,20,?_⟩
 cbv
 repeat' first|((with_reducible intro _);cbv)|(with_reducible refine And.intro ?_ ?_)
 all_goals first|(refine retK h ?_;clear h;simp only[fin0])|(with_reducible refine Ob.mk ?_;clear h)|(clear h)
 all_goals(try simp only[eta0,RT.bytes]at *)
 all_goals grind
theorem d4b:b8 Tryz.prog 77 a2A:=j4 e9 (ss := [(57,sIn),(73,a1D),(100,c3U)]) ⟨okIn,c4D,c2a,trivial⟩ rfl rfl<|by
 intro(bs:Th (List Int)) (p:Th Int) ⟨(m:Th PMap),(s:Th Sto),u⟩ K _ _ ho h
 obtain⟨m,rfl⟩:=b6 m;obtain⟨s,rfl⟩:=b6 s
 have hso := @y7 m s
 refine⟨noAnn,noAnn,20,?_⟩
 cbv
 repeat' first|((with_reducible intro _);cbv)|(with_reducible refine And.intro ?_ ?_)
 all_goals first|(refine retK h ?_;clear h;simp only[fin0])|(with_reducible refine Ob.mk ?_;clear h)|(clear h)
 all_goals(try simp only[eta0,RT.bytes]at *)
 all_goals grind[inR]
theorem a1I:b8 Tryz.prog 117 a2A:=j4 e9 (ss := [(148,sIn),(180,a1D),(118,a4o)]) ⟨I5,a1J,a3E,trivial⟩ rfl rfl<|by
 intro(bs:Th (List Int)) (p:Th Int) ⟨(m:Th PMap),(s:Th Sto),u⟩ K _ _ ho h
 obtain⟨m,rfl⟩:=b6 m;obtain⟨s,rfl⟩:=b6 s
 have hso := @y7 m s
 refine⟨noAnn,noAnn,20,?_⟩
 cbv
 repeat' first|((with_reducible intro _);cbv)|(with_reducible refine And.intro ?_ ?_)
 all_goals first|(refine retK h ?_;clear h;simp only[fin0])|(with_reducible refine Ob.mk ?_;clear h)|(clear h)
 all_goals(try simp only[eta0,RT.bytes]at *)
 all_goals grind[inR,V6]
theorem c4x:b8 Tryz.prog 47 c1s:=j4 e9 (ss := [(100,c3U)]) ⟨c2a,trivial⟩ rfl rfl<|by
 intro(bs:Th (List Int)) (p:Th Int) ⟨(s:Th Sto),(m:Th PMap),u⟩ K _ _ ho h
 obtain⟨s,rfl⟩:=b6 s;obtain⟨m,rfl⟩:=b6 m
 obtain⟨hpre,h⟩:=h
 have hpre:=y7.1 hpre.out
 refine⟨noAnn,noAnn,20,?_⟩
 cbv
 repeat' first|((with_reducible intro _);cbv)|(with_reducible refine And.intro ?_ ?_)
 all_goals first|(refine retK h ?_;clear h;simp only[fin0])|(with_reducible refine Ob.mk ?_;clear h)|(clear h)
 all_goals(try simp only[eta0,RT.bytes]at *)
 all_goals grind[q9]
theorem b9b:b8 Tryz.prog 58 b3Q:=j4 e9 (ss := [(117,a2A),(118,a4o)]) ⟨a1I,a3E,trivial⟩ rfl rfl<|by
 intro(bs:Th (List Int)) (p:Th Int) ⟨(m:Th PMap),(s:Th Sto),u⟩ K _ _ ho h
 obtain⟨m,rfl⟩:=b6 m;obtain⟨s,rfl⟩:=b6 s
 have hso := @y7 m s
 refine⟨noAnn,noAnn,20,?_⟩
 cbv
 repeat' first|((with_reducible intro _);cbv)|(with_reducible refine And.intro ?_ ?_)
 all_goals first|(refine retK h ?_;clear h;simp only[fin0])|(with_reducible refine Ob.mk ?_;clear h)|(clear h)
 all_goals(try simp only[eta0,RT.bytes]at *)
 all_goals grind[L6,q9,U4,V6]
theorem b9c:b8 Tryz.prog 281 b3R:=j4 e9 (ss := [(117,a2A),(148,sIn),(203,a2d)]) ⟨a1I,I5,a7B,trivial⟩ rfl rfl<|by
 intro(bs:Th (List Int)) (p:Th Int) ⟨(m:Th PMap),(s:Th Sto),(a:Th Int),u⟩ K _ _ ho h
 obtain⟨m,rfl⟩:=b6 m;obtain⟨s,rfl⟩:=b6 s;obtain⟨a,rfl⟩:=b6 a
 refine⟨noAnn,noAnn,20,?_⟩
 cbv
 repeat' first|((with_reducible intro _);cbv)|(with_reducible refine And.intro ?_ ?_)
 all_goals first|(refine retK h ?_;clear h;simp only[fin0])|(with_reducible refine Ob.mk ?_;clear h)|(clear h)
 all_goals(try simp only[eta0,RT.bytes]at *)
 all_goals grind[U9,a0K,U4,inR]
theorem b6t:b8 Tryz.prog 282 b0P:=j4 e9 (ss := [(117,a2A),(203,a2d),(118,a4o),(182,a6Y)]) ⟨a1I,a7B,a3E,a8O,trivial⟩ rfl rfl<|by
 intro(bs:Th (List Int)) (p:Th Int) ⟨(m:Th PMap),(s:Th Sto),(a:Th Int),(b:Th Int),(r:Th Sx.Rec),u⟩ K _ _ ho h
 obtain⟨m,rfl⟩:=b6 m;obtain⟨s,rfl⟩:=b6 s;obtain⟨a,rfl⟩:=b6 a;obtain⟨b,rfl⟩:=b6 b;obtain⟨r,rfl⟩:=b6 r
 have hso := @y7 m s
 have hst := @a1C m s
 refine⟨noAnn,noAnn,20,?_⟩
 cbv
 repeat' first|((with_reducible intro _);cbv)|(with_reducible refine And.intro ?_ ?_)
 all_goals first|(refine retK h ?_;clear h;simp only[fin0])|(with_reducible refine Ob.mk ?_;clear h)|(clear h)
 all_goals(try simp only[eta0,RT.bytes]at *)
 all_goals grind[A3,L4,q9,a0K,U4,V6,O7]
def nHld:List (Option RT) := [none,none,none,some .wlk,none,some .pcls,some .int,some .int]
noncomputable def a5h:Sx.Spec:=⟨false,true,[.row .hld],[nHld],fun _ _ ⟨h,_⟩ => .ret (oHld h,fun _=>0)⟩
noncomputable def a8F:Sx.Spec:=⟨false,true,[.map,.row .hld],[],fun _ _ ⟨m,h,_⟩ => .ret (vB fun _=>S8 (m ()) (h ()),fun _=>0)⟩
noncomputable def b0V:Sx.Spec:=⟨false,true,[.map,.row .sto,.int .i64],[nHld,nSto,[none]],fun _ _ ⟨m,s,a,_⟩ => .ret (.tup [oHld fun _=>(J3 (m ()) (s ()) (a ())).h,oSto fun _=>(J3 (m ()) (s ()) (a ())).s,vB fun _=>(J3 (m ()) (s ()) (a ())).ok],fun _=>0)⟩
noncomputable def b3W:Sx.Spec:=⟨false,true,[.map,.row .hld,.row .sto,.row .rcd],[nHld,nSto,[none],[none]],fun _ _ ⟨m,h,s,r,_⟩ => .ret (.tup [oHld fun _=>(y4 (m ()) (h ()) (s ()) (r ())).h,oSto fun _=>(y4 (m ()) (h ()) (s ()) (r ())).s,vI fun _=>(y4 (m ()) (h ()) (s ()) (r ())).n,vI fun _=>(y4 (m ()) (h ()) (s ()) (r ())).k],fun _=>0)⟩
theorem d0R:b8 Tryz.prog 172 a5h:=j4 e9 (ss := [(75,R0)]) ⟨a7E,trivial⟩ rfl rfl<|by
 intro(bs:Th (List Int)) (p:Th Int) ⟨(g:Th Hld),u⟩ K _ _ ho h
 obtain⟨g,rfl⟩:=b6 g
 refine⟨noAnn,noAnn,20,?_⟩
 cbv
 repeat' first|((with_reducible intro _);cbv)|(with_reducible refine And.intro ?_ ?_)
 all_goals first|(refine retK h ?_;clear h;simp only[fin0])|(with_reducible refine Ob.mk ?_;clear h)|(clear h)
 all_goals(try simp only[eta0,RT.bytes]at *)
 all_goals grind
theorem d4l:b8 Tryz.prog 121 a8F:=j4 e9 (ss := [(57,sIn),(73,a1D)]) ⟨okIn,c4D,trivial⟩ rfl rfl<|by
 intro(bs:Th (List Int)) (p:Th Int) ⟨(m:Th PMap),(g:Th Hld),u⟩ K _ _ ho h
 obtain⟨m,rfl⟩:=b6 m;obtain⟨g,rfl⟩:=b6 g
 have hso := @B7 m g
 refine⟨noAnn,noAnn,20,?_⟩
 cbv
 repeat' first|((with_reducible intro _);cbv)|(with_reducible refine And.intro ?_ ?_)
 all_goals first|(refine retK h ?_;clear h;simp only[fin0])|(with_reducible refine Ob.mk ?_;clear h)|(clear h)
 all_goals(try simp only[eta0,RT.bytes]at *)
 all_goals grind[inR]
theorem c1P {m:PMap} {s:Sto} {a:Int} (h:B1 m s=true) (h1:1≤a) (h2:a≤900):((U9 m s a).ok=false→J3 m s a=⟨a3X,(U9 m s a).s,false⟩) ∧
  ((U9 m s a).ok=true→J3 m s a=⟨⟨a,(U9 m s a).s.recs.length,L6 m (U9 m s a).s⟩,(U9 m s a).s,true⟩):=by
 have hc:B1 m s=true∧0≤a∧a≤900:=⟨h,by omega,h2⟩
 have ha:=d3f h (a:=a) (by omega) h2
 unfold U9 J3
 have hd:B1 m s=true∧1≤a∧a≤900:=⟨h,h1,h2⟩
 rw[if_pos hc,if_pos hd]
 by_cases hl:a<s.age
 ·rw[if_pos hl]
  exact⟨fun _=>(by first|rw[if_pos hl]|rfl),fun hh=>by cases hh⟩
 ·rw[if_neg hl]
  refine⟨fun hh=>(by cases hh),fun _ => ?_⟩
  first
   |rw[if_neg hl,ha.2,b5D h]
   |rw[ha.2,b5D h]
theorem c5T {m:PMap} {g:Hld} {s:Sto} {r:Sx.Rec} (hg:S8 m g=true) (hs:B1 m s=true) :
  (¬(A3 m s g.age g.count r).n=1→y4 m g s r=⟨g,s,(A3 m s g.age g.count r).n,0⟩∧(A3 m s g.age g.count r).s=s) ∧
  ((A3 m s g.age g.count r).n=1→(F5 m g.state r).ok=false→y4 m g s r=⟨g,s,4,0⟩) ∧
  ((A3 m s g.age g.count r).n=1→(F5 m g.state r).ok=true→y4 m g s r=⟨⟨g.age,g.count+1,(F5 m g.state r).c⟩,(A3 m s g.age g.count r).s,1,(F5 m g.state r).code⟩)∧(-10≤g.count∧g.count≤250):=by
 have hg2:=B7.1 hg
 have hno := @c3b m s g.age g.count r hs
 have hc:S8 m g=true∧B1 m s=true:=⟨hg,hs⟩
 refine⟨fun hn=>⟨?_,hno hn⟩,fun hn ho => ?_,fun hn ho => ?_,by omega⟩
 ·rw[a1S hs]at hn ⊢
  rw[y4,if_pos hc,if_pos hn]
 ·rw[a1S hs]at hn
  have hl:H4 m r=true:=by
   rcases a3n m s g.age g.count r with ⟨_,h2⟩|⟨_,_,_,_,_,h6,_⟩
   ·omega
   ·exact h6
  rw[apX hg2.2.2 hl]at ho
  rw[y4,if_pos hc,if_neg (fun hh=>hh hn),if_pos ho]
 ·rw[a1S hs]at hn ⊢
  have hl:H4 m r=true:=by
   rcases a3n m s g.age g.count r with ⟨_,h2⟩|⟨_,_,_,_,_,h6,_⟩
   ·omega
   ·exact h6
  rw[apX hg2.2.2 hl]at ho ⊢
  rw[y4,if_pos hc,if_neg (fun hh=>hh hn),if_neg (by rw[ho];decide)]
theorem c0Z {m:PMap} {g:Hld} {s:Sto} {r:Sx.Rec} (h:S8 m g=false∨B1 m s=false):y4 m g s r=⟨a3X,a0K,0,0⟩:=by
 rw[y4,if_neg]
 rintro⟨h1,h2⟩
 rcases h with h|h<;>simp_all
theorem d0J:b8 Tryz.prog 94 sIsH:=j4 e9 (ss := [(158,sIsC)]) ⟨b9q,trivial⟩ rfl rfl<|by
 intro(bs:Th (List Int)) (p:Th Int) ⟨(a:Th Hld),(b:Th Hld),u⟩ K _ _ ho h
 obtain⟨a,rfl⟩:=b6 a;obtain⟨b,rfl⟩:=b6 b
 refine⟨noAnn,noAnn,20,?_⟩
 cbv
 repeat' first|((with_reducible intro _);cbv)|(with_reducible refine And.intro ?_ ?_)
 all_goals first|(refine retK h ?_;clear h;simp only[fin0])|(with_reducible refine Ob.mk ?_;clear h)|(clear h)
 all_goals(try simp only[eta0,RT.bytes]at *)
 all_goals grind[d4H]
theorem b1B:b8 Tryz.prog 206 a8F:=j4 e9 (ss := [(148,sIn),(180,a1D)]) ⟨I5,a1J,trivial⟩ rfl rfl<|by
 intro(bs:Th (List Int)) (p:Th Int) ⟨(m:Th PMap),(g:Th Hld),u⟩ K _ _ ho h
 obtain⟨m,rfl⟩:=b6 m;obtain⟨g,rfl⟩:=b6 g
 have hso := @B7 m g
 refine⟨noAnn,noAnn,20,?_⟩
 cbv
 repeat' first|((with_reducible intro _);cbv)|(with_reducible refine And.intro ?_ ?_)
 all_goals first|(refine retK h ?_;clear h;simp only[fin0])|(with_reducible refine Ob.mk ?_;clear h)|(clear h)
 all_goals(try simp only[eta0,RT.bytes]at *)
 all_goals grind[inR]
theorem b1D:b8 Tryz.prog 204 a5h:=j4 e9 (ss := [(181,R0)]) ⟨a0R,trivial⟩ rfl rfl<|by
 intro(bs:Th (List Int)) (p:Th Int) ⟨(g:Th Hld),u⟩ K _ _ ho h
 obtain⟨g,rfl⟩:=b6 g
 refine⟨noAnn,noAnn,20,?_⟩
 cbv
 repeat' first|((with_reducible intro _);cbv)|(with_reducible refine And.intro ?_ ?_)
 all_goals first|(refine retK h ?_;clear h;simp only[fin0])|(with_reducible refine Ob.mk ?_;clear h)|(clear h)
 all_goals(try simp only[eta0,RT.bytes]at *)
 all_goals grind
theorem b1A:b8 Tryz.prog 262 b0V:=j4 e9 (ss := [(117,a2A),(148,sIn),(281,b3R),(58,b3Q)]) ⟨a1I,I5,b9c,b9b,trivial⟩ rfl rfl<|by
 intro(bs:Th (List Int)) (p:Th Int) ⟨(m:Th PMap),(s:Th Sto),(a:Th Int),u⟩ K _ _ ho h
 obtain⟨m,rfl⟩:=b6 m;obtain⟨s,rfl⟩:=b6 s;obtain⟨a,rfl⟩:=b6 a
 have hop := @c1P m s a
 have hb1:B1 m s=false→J3 m s a=⟨a3X,a0K,false⟩:=fun hh=>by
  rw[J3,if_neg (fun h3=>by simp_all)]
 have hb2:inR a 1 900=false→J3 m s a=⟨a3X,a0K,false⟩:=fun hh=>by
  simp only[inR,decide_eq_false_iff_not]at hh
  rw[J3,if_neg (fun h3=>hh h3.2)]
 have hb3:inR a 1 900=true→1≤a∧a≤900:=fun hh=>by simpa [inR]using hh
 refine⟨noAnn,noAnn,20,?_⟩
 cbv
 repeat' first|((with_reducible intro _);cbv)|(with_reducible refine And.intro ?_ ?_)
 all_goals first|(refine retK h ?_;clear h;simp only[fin0])|(with_reducible refine Ob.mk ?_;clear h)|(clear h)
 all_goals(try simp only[eta0,RT.bytes]at *)
 all_goals grind[a0K,U4,a3X]
theorem b9g:b8 Tryz.prog 265 b3W:=j4 e9 (ss := [(206,a8F),(117,a2A),(282,b0P),(204,a5h),(283,a8D),(203,a2d)]) ⟨b1B,a1I,b6t,b1D,a9H,a7B,trivial⟩ rfl rfl<|by
 intro(bs:Th (List Int)) (p:Th Int) ⟨(m:Th PMap),(g:Th Hld),(s:Th Sto),(r:Th Sx.Rec),u⟩ K _ _ ho h
 obtain⟨m,rfl⟩:=b6 m;obtain⟨g,rfl⟩:=b6 g;obtain⟨s,rfl⟩:=b6 s;obtain⟨r,rfl⟩:=b6 r
 have hw := @c5T m g s r
 have hz := @c0Z m g s r
 refine⟨noAnn,noAnn,20,?_⟩
 cbv
 repeat' first|((with_reducible intro _);cbv)|(with_reducible refine And.intro ?_ ?_)
 all_goals first|(refine retK h ?_;clear h;simp only[fin0])|(with_reducible refine Ob.mk ?_;clear h)|(clear h)
 all_goals(try simp only[eta0,RT.bytes]at *)
 all_goals grind[a0K,U4,a3X,e8]
noncomputable def a8z:Sx.Spec:=⟨false,true,[.map,.row .srv],[],fun _ _ ⟨m,s,_⟩ => .ret (vB fun _=>B5 (m ()) (s ()),fun _=>0)⟩
noncomputable def a6f:Sx.Spec:=⟨false,true,[.row .srv,.int .i64],[],fun _ _ ⟨s,c,_⟩ => .ret (vI fun _=>j7 (s ()).holds (c ()),fun _=>0)⟩
noncomputable def b0Q:Sx.Spec:=⟨false,true,[.row .srv,.int .i64],[nHld,[none]],fun _ _ ⟨s,c,_⟩ => .ret (.tup [oHld fun _=>j6 (s ()) (c ()),vB fun _=>A6 (s ()) (c ())],fun _=>0)⟩
noncomputable def a5g:Sx.Spec:=⟨false,true,[.row .srv],[[none,some .hld,some .gst]],fun _ _ ⟨s,_⟩ => .ret (oSrv s,fun _=>0)⟩
noncomputable def b5T:Sx.Spec:=⟨false,true,[.list .gst],[[some .gst]],fun _ _ ⟨l,_⟩ => .ret (vW .gst l,fun _=>0)⟩
noncomputable def a4q:Sx.Spec:=⟨false,true,[.list .sto],[[some .sto]],fun _ _ ⟨l,_⟩ => .ret (vW .sto l,fun _=>0)⟩
noncomputable def a6V:Sx.Spec:=⟨false,true,[.map,.list .sto],[],fun _ _ ⟨m,l,_⟩ => .ret (vB fun _=>A9 (m ()) (l ()),fun _=>0)⟩
noncomputable def c3S:Sx.Spec:=⟨false,true,[.row .hld,.map,.int .i64],[[some .gst]],fun _ _ ⟨h,m,s,_⟩ => .asrt (fun _=>(h ()).state.wlks.length≤9) (.ret (vW .gst fun _=>n9 (m ()) (h ()) (s ()),fun _=>0))⟩
noncomputable def c9M:Sx.Spec:=⟨false,true,[.map,.row .hld,.int .i64],[[some .gst]],fun _ _ ⟨m,h,s,_⟩ => .ret (vW .gst fun _=>if S8 (m ()) (h ())=true then n9 (m ()) (h ()) (s ())else[],fun _=>0)⟩
theorem d4d:b8 Tryz.prog 64 a8z:=j4 e9 (ss := [(121,a8F),(122,c3Q)]) ⟨d4l,d0L,trivial⟩ rfl rfl<|by
 intro(bs:Th (List Int)) (p:Th Int) ⟨(m:Th PMap),(s:Th Srv),u⟩ K _ _ ho h
 obtain⟨m,rfl⟩:=b6 m;obtain⟨s,rfl⟩:=b6 s
 have hl:=okL (ho.2.1 _ (.tail _ (.head _)))
 have hl2:=okL (ho.2.1 _ (.tail _ (.tail _ (.head _))))
 refine⟨annL [(64,2,⟨Nat,[],fun σ k => σ.t 10 (vI fun _=>(k:Int)),fun _ k _=>k≤s.holds.length∧m8 k (a3h m s.holds)=true,fun _ k _=>s.holds.length-k⟩)],noAnn,20,?_⟩
 cbv
 repeat' first|((with_reducible refine fun(k:Nat) => ?_);cbv)|((with_reducible intro _);cbv)|(with_reducible refine And.intro ?_ ?_)
 all_goals try((first|(with_reducible refine LoopIn.mk ((0:Nat)) ?_ ?_)|(with_reducible refine LoopBack.mk ((k+1:Nat)) ?_ ?_ ?_)) )
 all_goals try((with_reducible show m0 _ _);cbv;(try simp only[and_true,true_and]))
 all_goals try(repeat' with_reducible refine And.intro ?_ ?_)
 all_goals first|(refine retK h ?_;clear h;simp only[fin0])|(with_reducible refine Ob.mk ?_;clear h)|(clear h)
 all_goals(try simp only[eta0,RT.bytes]at *)
 all_goals grind[j3,e8,a0g,b7O,b7N,c3v,a5H,a3h,n7,n4]
theorem b1v:b8 Tryz.prog 156 a8z:=j4 e9 (ss := [(85,z7),(205,b0W),(206,a8F)]) ⟨C7,b4t,b1B,trivial⟩ rfl rfl<|by
 intro(bs:Th (List Int)) (p:Th Int) ⟨(m:Th PMap),(s:Th Srv),u⟩ K _ _ ho h
 obtain⟨m,rfl⟩:=b6 m;obtain⟨s,rfl⟩:=b6 s
 have hl:=okL (ho.2.1 _ (.tail _ (.head _)))
 have hl2:=okL (ho.2.1 _ (.tail _ (.tail _ (.head _))))
 have hb:s0 m=false∨D9 m s.n9=false∨a5H s=false→B5 m s=false:=by
  intro hh
  rcases hh with hh|hh|hh<;>simp[B5,W9,hh]
 have hb2:s0 m=true→D9 m s.n9=true→W9 m s.n9=true:=fun h1 h2=>by simp[W9,h1,h2]
 refine⟨annL [(156,4,⟨Nat,[],fun σ k => σ.t 5 (vI fun _=>(k:Int)),fun _ k _=>k≤s.holds.length∧W9 m s.n9=true∧a5H s=true∧m8 k (a3h m s.holds)=true,fun _ k _=>s.holds.length-k⟩)],noAnn,20,?_⟩
 cbv
 repeat' first|((with_reducible refine fun(k:Nat) => ?_);cbv)|((with_reducible intro _);cbv)|(with_reducible refine And.intro ?_ ?_)
 all_goals try((first|(with_reducible refine LoopIn.mk ((0:Nat)) ?_ ?_)|(with_reducible refine LoopBack.mk ((k+1:Nat)) ?_ ?_ ?_)) )
 all_goals try((with_reducible show m0 _ _);cbv;(try simp only[and_true,true_and]))
 all_goals try(repeat' with_reducible refine And.intro ?_ ?_)
 all_goals first|(refine retK h ?_;clear h;simp only[fin0])|(with_reducible refine Ob.mk ?_;clear h)|(clear h)
 all_goals(try simp only[eta0,RT.bytes]at *)
 all_goals grind[j3,e8,a0g,b7O,b7N,c3v,a5H,a3h,n7,n4]
theorem b9r:b8 Tryz.prog 177 a6f:=j4 e9 (ss := []) trivial rfl rfl<|by
 intro(bs:Th (List Int)) (p:Th Int) ⟨(s:Th Srv),(c:Th Int),u⟩ K _ _ ho h
 obtain⟨s,rfl⟩:=b6 s;obtain⟨c,rfl⟩:=b6 c
 have hl:=okL (ho.1 _ (.tail _ (.head _)))
 refine⟨annL [(123,2,⟨Nat,[],fun σ k => σ.t 8 (vI fun _=>(k:Int)),fun _ k _=>k≤s.holds.length∧m8 k (a9L s.holds c)=true,fun _ k _=>s.holds.length-k⟩)],noAnn,20,?_⟩
 cbv
 repeat' first|((with_reducible refine fun(k:Nat) => ?_);cbv)|((with_reducible intro _);cbv)|(with_reducible refine And.intro ?_ ?_)
 all_goals try((first|(with_reducible refine LoopIn.mk ((0:Nat)) ?_ ?_)|(with_reducible refine LoopBack.mk ((k+1:Nat)) ?_ ?_ ?_)) )
 all_goals try((with_reducible show m0 _ _);cbv;(try simp only[and_true,true_and]))
 all_goals try(repeat' with_reducible refine And.intro ?_ ?_)
 all_goals first|(refine retK h ?_;clear h;simp only[fin0])|(with_reducible refine Ob.mk ?_;clear h)|(clear h)
 all_goals(try simp only[eta0,RT.bytes]at *)
 all_goals grind[n7,n4,a9L,Z1,c4X,b4E,j3]
theorem b1w:b8 Tryz.prog 201 b0Q:=j4 e9 (ss := [(204,a5h)]) ⟨b1D,trivial⟩ rfl rfl<|by
 intro(bs:Th (List Int)) (p:Th Int) ⟨(s:Th Srv),(c:Th Int),u⟩ K _ _ ho h
 obtain⟨s,rfl⟩:=b6 s;obtain⟨c,rfl⟩:=b6 c
 have hl:=okL (ho.1 _ (.tail _ (.head _)))
 refine⟨annL [(201,2,⟨Nat,[],fun σ k => σ.t 6 (vI fun _=>(k:Int)),fun _ k _=>k≤s.holds.length∧m8 k (a9L s.holds c)=true,fun _ k _=>s.holds.length-k⟩)],noAnn,20,?_⟩
 cbv
 repeat' first|((with_reducible refine fun(k:Nat) => ?_);cbv)|((with_reducible intro _);cbv)|(with_reducible refine And.intro ?_ ?_)
 all_goals try((first|(with_reducible refine LoopIn.mk ((0:Nat)) ?_ ?_)|(with_reducible refine LoopBack.mk ((k+1:Nat)) ?_ ?_ ?_)) )
 all_goals try((with_reducible show m0 _ _);cbv;(try simp only[and_true,true_and]))
 all_goals try(repeat' with_reducible refine And.intro ?_ ?_)
 all_goals first|(refine retK h ?_;clear h;simp only[fin0])|(with_reducible refine Ob.mk ?_;clear h)|(clear h)
 all_goals(try simp only[eta0,RT.bytes]at *)
 all_goals grind(splits:=40) [n7,n4,a9L,Z1,c4X,b4E,j3,j6,A6,a3X,U4]
theorem b9v:b8 Tryz.prog 171 b5T:=j4 e9 (ss := []) trivial rfl rfl<|by
 intro(bs:Th (List Int)) (p:Th Int) ⟨(l:Th (List Gst)),u⟩ K _ _ ho h
 obtain⟨l,rfl⟩:=b6 l
 have hl:=okB (ho.1 _ (.head _))
 refine⟨noAnn,noAnn,20,?_⟩
 cbv
 repeat' first|((with_reducible intro _);cbv)|(with_reducible refine And.intro ?_ ?_)
 all_goals first|(refine retK h ?_;clear h;simp only[fin0])|(with_reducible refine Ob.mk ?_;clear h)|(clear h)
 all_goals(try simp only[eta0,RT.bytes]at *)
 all_goals grind
theorem d0P:b8 Tryz.prog 108 a5g:=j4 e9 (ss := [(171,b5T),(172,a5h)]) ⟨b9v,d0R,trivial⟩ rfl rfl<|by
 intro(bs:Th (List Int)) (p:Th Int) ⟨(s:Th Srv),u⟩ K _ _ ho h
 obtain⟨s,rfl⟩:=b6 s
 have hl:=okB (ho.1 _ (.tail _ (.head _)))
 have hl2:=okB (ho.1 _ (.tail _ (.tail _ (.head _))))
 have hz:=a2f s.holds
 have hs:=fun k => @M0 .hld s.holds k
 refine⟨annL [(108,3,⟨Nat,[⟨.cell 4 1,some 25,.hld⟩],fun σ k=>((σ.t 15 (vI fun _=>(k:Int))).u7 4 1 (.own 25 1)).row 25 1 .hld (fun _=>pre s.holds k),fun _ k _=>k≤s.holds.length,fun _ k _=>s.holds.length-k⟩)],noAnn,20,?_⟩
 cbv
 repeat' first|((with_reducible refine fun(k:Nat) => ?_);cbv)|((with_reducible intro _);cbv)|(with_reducible refine And.intro ?_ ?_)
 all_goals try((first|(with_reducible refine LoopIn.mk ((0:Nat)) ?_ ?_)|(with_reducible refine LoopBack.mk ((k+1:Nat)) ?_ ?_ ?_)) )
 all_goals try((with_reducible show m0 _ _);cbv;(try simp only[and_true,true_and]))
 all_goals try(repeat' with_reducible refine And.intro ?_ ?_)
 all_goals first|(refine retK h ?_;clear h;simp only[fin0])|(with_reducible refine Ob.mk ?_;clear h)|(clear h)
 all_goals(try simp only[eta0,RT.bytes]at *)
 all_goals grind[a0Q,a2g,j3]
theorem a8P:b8 Tryz.prog 154 a5g:=j4 e9 (ss := [(204,a5h)]) ⟨b1D,trivial⟩ rfl rfl<|by
 intro(bs:Th (List Int)) (p:Th Int) ⟨(s:Th Srv),u⟩ K _ _ ho h
 obtain⟨s,rfl⟩:=b6 s
 have hl:=okB (ho.1 _ (.tail _ (.head _)))
 have hl2:=okB (ho.1 _ (.tail _ (.tail _ (.head _))))
 have hz:=a2f s.holds
 have hs:=fun k => @M0 .hld s.holds k
 refine⟨annL [(154,3,⟨Nat,[⟨.cell 4 1,some 29,.hld⟩],fun σ k=>(((σ.fg 8).t 4 (vI fun _=>(k:Int))).u7 4 1 (.own 29 1)).row 29 1 .hld (fun _=>pre s.holds k),fun _ k _=>k≤s.holds.length,fun _ k _=>s.holds.length-k⟩)],noAnn,20,?_⟩
 cbv
 repeat' first|((with_reducible refine fun(k:Nat) => ?_);cbv)|((with_reducible intro _);cbv)|(with_reducible refine And.intro ?_ ?_)
 all_goals try((first|(with_reducible refine LoopIn.mk ((0:Nat)) ?_ ?_)|(with_reducible refine LoopBack.mk ((k+1:Nat)) ?_ ?_ ?_)) )
 all_goals try((with_reducible show m0 _ _);cbv;(try simp only[and_true,true_and]))
 all_goals try(repeat' with_reducible refine And.intro ?_ ?_)
 all_goals first|(refine retK h ?_;clear h;simp only[fin0])|(with_reducible refine Ob.mk ?_;clear h)|(clear h)
 all_goals(try simp only[eta0,RT.bytes]at *)
 all_goals grind[a0Q,a2g,j3]
theorem c7n:b8 Tryz.prog 105 a4q:=j4 e9 (ss := [(170,a2d)]) ⟨b9u,trivial⟩ rfl rfl<|by
 intro(bs:Th (List Int)) (p:Th Int) ⟨(l:Th (List Sto)),u⟩ K _ _ ho h
 obtain⟨l,rfl⟩:=b6 l
 have hl:=okB (ho.1 _ (.head _))
 have hz:=a2f l
 have hs:=fun k => @M0 .sto l k
 refine⟨annL [(105,3,⟨Nat,[⟨.tmp 3 0,some 17,.sto⟩],fun σ k=>((σ.t 8 (vI fun _=>(k:Int))).t 3 (vO 17 1)).row 17 1 .sto (fun _=>pre l k),fun _ k _=>k≤l.length,fun _ k _=>l.length-k⟩)],noAnn,20,?_⟩
 cbv
 repeat' first|((with_reducible refine fun(k:Nat) => ?_);cbv)|((with_reducible intro _);cbv)|(with_reducible refine And.intro ?_ ?_)
 all_goals try((first|(with_reducible refine LoopIn.mk ((0:Nat)) ?_ ?_)|(with_reducible refine LoopBack.mk ((k+1:Nat)) ?_ ?_ ?_)) )
 all_goals try((with_reducible show m0 _ _);cbv;(try simp only[and_true,true_and]))
 all_goals try(repeat' with_reducible refine And.intro ?_ ?_)
 all_goals first|(refine retK h ?_;clear h;simp only[fin0])|(with_reducible refine Ob.mk ?_;clear h)|(clear h)
 all_goals(try simp only[eta0,RT.bytes]at *)
 all_goals grind[a0Q,a2g,j3]
theorem a9I:b8 Tryz.prog 152 a4q:=j4 e9 (ss := [(203,a2d)]) ⟨a7B,trivial⟩ rfl rfl<|by
 intro(bs:Th (List Int)) (p:Th Int) ⟨(l:Th (List Sto)),u⟩ K _ _ ho h
 obtain⟨l,rfl⟩:=b6 l
 have hl:=okB (ho.1 _ (.head _))
 have hz:=a2f l
 have hs:=fun k => @M0 .sto l k
 refine⟨annL [(152,3,⟨Nat,[⟨.tmp 3 0,some 6,.sto⟩],fun σ k=>(((σ.fg 6).t 4 (vI fun _=>(k:Int))).t 3 (vO 6 1)).row 6 1 .sto (fun _=>pre l k),fun _ k _=>k≤l.length,fun _ k _=>l.length-k⟩)],noAnn,20,?_⟩
 cbv
 repeat' first|((with_reducible refine fun(k:Nat) => ?_);cbv)|((with_reducible intro _);cbv)|(with_reducible refine And.intro ?_ ?_)
 all_goals try((first|(with_reducible refine LoopIn.mk ((0:Nat)) ?_ ?_)|(with_reducible refine LoopBack.mk ((k+1:Nat)) ?_ ?_ ?_)) )
 all_goals try((with_reducible show m0 _ _);cbv;(try simp only[and_true,true_and]))
 all_goals try(repeat' with_reducible refine And.intro ?_ ?_)
 all_goals first|(refine retK h ?_;clear h;simp only[fin0])|(with_reducible refine Ob.mk ?_;clear h)|(clear h)
 all_goals(try simp only[eta0,RT.bytes]at *)
 all_goals grind[a0Q,a2g,j3]
theorem d0t:b8 Tryz.prog 62 a6V:=j4 e9 (ss := [(77,a2A),(54,z7)]) ⟨d4b,K9,trivial⟩ rfl rfl<|by
 intro(bs:Th (List Int)) (p:Th Int) ⟨(m:Th PMap),(l:Th (List Sto)),u⟩ K _ _ ho h
 obtain⟨m,rfl⟩:=b6 m;obtain⟨l,rfl⟩:=b6 l
 have hl:=okL (ho.2.1 _ (.head _))
 refine⟨annL [(62,2,⟨Nat,[],fun σ k => σ.t 9 (vI fun _=>(k:Int)),fun _ k _=>k≤l.length∧m8 k (a2O m l)=true,fun _ k _=>l.length-k⟩)],noAnn,20,?_⟩
 cbv
 repeat' first|((with_reducible refine fun(k:Nat) => ?_);cbv)|((with_reducible intro _);cbv)|(with_reducible refine And.intro ?_ ?_)
 all_goals try((first|(with_reducible refine LoopIn.mk ((0:Nat)) ?_ ?_)|(with_reducible refine LoopBack.mk ((k+1:Nat)) ?_ ?_ ?_)) )
 all_goals try((with_reducible show m0 _ _);cbv;(try simp only[and_true,true_and]))
 all_goals try(repeat' with_reducible refine And.intro ?_ ?_)
 all_goals first|(refine retK h ?_;clear h;simp only[fin0])|(with_reducible refine Ob.mk ?_;clear h)|(clear h)
 all_goals(try simp only[eta0,RT.bytes]at *)
 all_goals grind[j3,b3K,b3J,b7F,a2O,n7,n4]
theorem b4s:b8 Tryz.prog 87 a6V:=j4 e9 (ss := [(85,z7),(117,a2A)]) ⟨C7,a1I,trivial⟩ rfl rfl<|by
 intro(bs:Th (List Int)) (p:Th Int) ⟨(m:Th PMap),(l:Th (List Sto)),u⟩ K _ _ ho h
 obtain⟨m,rfl⟩:=b6 m;obtain⟨l,rfl⟩:=b6 l
 have hl:=okL (ho.2.1 _ (.head _))
 have hb:s0 m=false ∨ ¬(l.length:Int)=m.cells→A9 m l=false:=by
  intro hh
  rcases hh with hh|hh<;>simp[A9,hh]
 refine⟨annL [(87,4,⟨Nat,[],fun σ k => σ.t 5 (vI fun _=>(k:Int)),fun _ k _=>k≤l.length∧s0 m=true∧(l.length:Int)=m.cells∧m8 k (a2O m l)=true,fun _ k _=>l.length-k⟩)],noAnn,20,?_⟩
 cbv
 repeat' first|((with_reducible refine fun(k:Nat) => ?_);cbv)|((with_reducible intro _);cbv)|(with_reducible refine And.intro ?_ ?_)
 all_goals try((first|(with_reducible refine LoopIn.mk ((0:Nat)) ?_ ?_)|(with_reducible refine LoopBack.mk ((k+1:Nat)) ?_ ?_ ?_)) )
 all_goals try((with_reducible show m0 _ _);cbv;(try simp only[and_true,true_and]))
 all_goals try(repeat' with_reducible refine And.intro ?_ ?_)
 all_goals first|(refine retK h ?_;clear h;simp only[fin0])|(with_reducible refine Ob.mk ?_;clear h)|(clear h)
 all_goals(try simp only[eta0,RT.bytes]at *)
 all_goals grind[j3,b3K,b3J,b7F,a2O,n7,n4]
theorem d0N:b8 Tryz.prog 178 c3S:=j4 e9 (ss := [(136,V0)]) ⟨a3b,trivial⟩ rfl rfl<|by
 intro(bs:Th (List Int)) (p:Th Int) ⟨(h0:Th Hld),(m:Th PMap),(s:Th Int),u⟩ K _ _ ho h
 obtain⟨h0,rfl⟩:=b6 h0;obtain⟨m,rfl⟩:=b6 m;obtain⟨s,rfl⟩:=b6 s
 obtain⟨ha,h⟩:=h
 have ha:=ha.out
 have hl:=okB (ho.1 _ (.tail _ (.tail _ (.tail _ (.head _)))))
 have hz:=c0h m h0 s
 refine⟨annL [(178,3,⟨Nat,[⟨.tmp 7 0,some 33,.gst⟩],fun σ k=>((σ.t 14 (vI fun _=>(k:Int))).t 7 (vO 33 1)).row 33 1 .gst (fun _=>ghTo m h0 s k),fun _ k _=>k≤h0.state.wlks.length,fun _ k _=>h0.state.wlks.length-k⟩)],noAnn,20,?_⟩
 cbv
 repeat' first|((with_reducible refine fun(k:Nat) => ?_);cbv)|((with_reducible intro _);cbv)|(with_reducible refine And.intro ?_ ?_)
 all_goals try((first|(with_reducible refine LoopIn.mk ((0:Nat)) ?_ ?_)|(with_reducible refine LoopBack.mk ((k+1:Nat)) ?_ ?_ ?_)) )
 all_goals try((with_reducible show m0 _ _);cbv;(try simp only[and_true,true_and]))
 all_goals try(repeat' with_reducible refine And.intro ?_ ?_)
 all_goals first|(refine retK h ?_;clear h;simp only[fin0])|(with_reducible refine Ob.mk ?_;clear h)|(clear h)
 all_goals(try simp only[eta0,RT.bytes]at *)
 all_goals grind[b4N,c0g,c5c,n9,j3]
theorem d0z:b8 Tryz.prog 244 c9M:=j4 e9 (ss := [(206,a8F),(246,V0)]) ⟨b1B,a6o,trivial⟩ rfl rfl<|by
 intro(bs:Th (List Int)) (p:Th Int) ⟨(m:Th PMap),(h0:Th Hld),(s:Th Int),u⟩ K _ _ ho h
 obtain⟨m,rfl⟩:=b6 m;obtain⟨h0,rfl⟩:=b6 h0;obtain⟨s,rfl⟩:=b6 s
 have hn:S8 m h0=true→h0.state.wlks.length≤9:=fun h=>Q3 (B7.1 h).2.2
 have hl:=okB (ho.2.1 _ (.tail _ (.tail _ (.tail _ (.head _)))))
 have hz:=c0h m h0 s
 refine⟨annL [(244,5,⟨Nat,[⟨.tmp 7 0,some 11,.gst⟩],fun σ k=>(((σ.fg 11).t 8 (vI fun _=>(k:Int))).t 7 (vO 11 1)).row 11 1 .gst (fun _=>ghTo m h0 s k),fun _ k _=>k≤h0.state.wlks.length∧S8 m h0=true,fun _ k _=>h0.state.wlks.length-k⟩)],noAnn,20,?_⟩
 cbv
 repeat' first|((with_reducible refine fun(k:Nat) => ?_);cbv)|((with_reducible intro _);cbv)|(with_reducible refine And.intro ?_ ?_)
 all_goals try((first|(with_reducible refine LoopIn.mk ((0:Nat)) ?_ ?_)|(with_reducible refine LoopBack.mk ((k+1:Nat)) ?_ ?_ ?_)) )
 all_goals try((with_reducible show m0 _ _);cbv;(try simp only[and_true,true_and]))
 all_goals try(repeat' with_reducible refine And.intro ?_ ?_)
 all_goals first|(refine retK h ?_;clear h;simp only[fin0])|(with_reducible refine Ob.mk ?_;clear h)|(clear h)
 all_goals(try simp only[eta0,RT.bytes]at *)
 all_goals grind[b4N,c0g,c5c,n9,j3]
noncomputable def d5v:Sx.Spec:=⟨false,true,[.row .srv,.map,.arb,.int .i64],[[some .msg]],fun _ _ ⟨s,m,t,c,_⟩ => .asrt (fun _=>B5 (m ()) (s ())=true) (.ret (vW .msg fun _=>D7 (m ()) (s ()) (t ()) (c ()),fun _=>0))⟩
theorem d5W {α : Type} (l:List α):List.drop (Int.toNat 0) (List.take (if(l.length:Int)<4 then(l.length:Int)else 4).toNat l)=l.take 4:=by
 show List.drop 0 _=_
 rw[List.drop_zero]
 by_cases h:(l.length:Int)<4
 ·rw[if_pos h,Int.toNat_natCast,List.take_of_length_le (by omega),List.take_of_length_le (by omega)]
 ·rw[if_neg h];rfl
theorem a8S {t:RT} {l:List t.ty} {k:Nat} (h:k<4):nth t (l.take 4) k=nth t l k:=by
 unfold nth
 grind
theorem c6a {m:PMap} {s:Srv} {t:Arb} {c:Int} (ha:B5 m s=true) (hz : ¬(j7 s.holds c<0)):(nth .hld s.holds (j7 s.holds c).toNat).state.outs.length=2∧(nth .hld s.holds (j7 s.holds c).toNat).state.wlks.length≤9∧tkTo m t (nth .hld s.holds (j7 s.holds c).toNat) c 2=D7 m s t c:=by
 have hp:=a3K s.holds c
 have h1:A6 s c=true:=by simp[A6];omega
 have h2:j6 s c=nth .hld s.holds (j7 s.holds c).toNat:=by unfold j6;rw[if_pos (by omega)]
 have h3:=n5 (B7.1 (a6c ha (show(j7 s.holds c).toNat<s.holds.length by omega))).2.2
 refine⟨h3.2.2.2.2.2.2.1,Q3 (B7.1 (a6c ha (show(j7 s.holds c).toNat<s.holds.length by omega))).2.2,?_⟩
 ·rw[←h2];exact b7w h1
theorem c5Z {m:PMap} {s:Srv} {t:Arb} {c:Int} (hz:j7 s.holds c<0):D7 m s t c = []:=by
 have h1:A6 s c=false:=by simp[A6];omega
 unfold D7
 rw[h1];rfl
theorem d6E (n:Nat):(NatCast.natCast n:Int)=(n:Int):=rfl
theorem c8V {k:Nat} (h:k≤1000):(IntKind.i64.wrap ((k:Int)+1)).toNat=k+1:=by rw[j3 (by omega)];rfl
theorem d3n {m:PMap} {t:Arb} {h:Hld} {c:Int} {T:List Msg} {i j:Nat} (hj:j<(List.take 4 (nth .pcls h.state.outs i)).length):T++tkP m t h c (i:Int) j ++ [(⟨5,o9 t (b7 m c i),b7 m c i,1-(i:Int),0,⟨0,0,0,0,0⟩,nth .pcl (List.take 4 (nth .pcls h.state.outs i)) j,⟨0,0,⟨0,0,0,0,0⟩⟩⟩:Msg)]=T++tkP m t h c (i:Int) (j+1):=by
 have h2:j<4∧j<(nth .pcls h.state.outs i).length:=by rw[List.length_take]at hj;omega
 have h3:j<(nth .pcls h.state.outs (i:Int).toNat).length:=h2.2
 rw[b7x h3,List.append_assoc,a8S h2.1]
 rfl
theorem d3q {m:PMap} {t:Arb} {h:Hld} {c:Int} {T:List Msg} {i j:Nat} (hj:j<(List.take 4 (n9 m h (i:Int))).length):T++tkG m t h c (i:Int) j ++ [(⟨7,o9 t (b7 m c i),b7 m c i,1-(i:Int),0,⟨0,0,0,0,0⟩,⟨0,0,⟨0,0,0,0,0⟩,0⟩,nth .gst (List.take 4 (n9 m h (i:Int))) j⟩:Msg)]=T++tkG m t h c (i:Int) (j+1):=by
 have h2:j<4∧j<(n9 m h (i:Int)).length:=by rw[List.length_take]at hj;omega
 rw[b7y h2.2,List.append_assoc,a8S h2.1]
 rfl
theorem d6t:b8 Tryz.prog 115 d5v:=j4 e9 (ss := [(177,a6f),(48,G5),(174,M7),(178,c3S)]) ⟨b9r,U1,a4F,d0N,trivial⟩ rfl rfl<|by
 intro(bs:Th (List Int)) (p:Th Int) ⟨(s:Th Srv),(m:Th PMap),(t:Th Arb),(c:Th Int),u⟩ K _ _ ho h
 obtain⟨s,rfl⟩:=b6 s;obtain⟨m,rfl⟩:=b6 m;obtain⟨t,rfl⟩:=b6 t;obtain⟨c,rfl⟩:=b6 c
 obtain⟨ha,h⟩:=h
 have ha:B5 m s=true:=ha.out
 have hp:=a3K s.holds c
 have hz : ¬(j7 s.holds c<0)→(nth .hld s.holds (j7 s.holds c).toNat).state.outs.length=2∧(nth .hld s.holds (j7 s.holds c).toNat).state.wlks.length≤9∧tkTo m t (nth .hld s.holds (j7 s.holds c).toNat) c 2=D7 m s t c:=fun hz=>c6a ha hz
 have hz0:j7 s.holds c<0→D7 m s t c = []:=fun hz=>c5Z hz
 have hn : ∀k:Nat,(k:Int)<2→IntKind.i64.wrap (1-(k:Int))=1-(k:Int):=fun k hk=>e8 (by omega) (by omega)
 refine⟨annL [(115,7,⟨Th Int×Th Bool,[⟨.tmp 11 0,some 500,.msg⟩],fun σ g=>(fun(H:Th Hld)=>(((σ.only [3,4,5,6,8,10]).t 33 (.one (.att (.int .i64 g.1)))).t 11 (vO 500 1)).row 500 1 .msg (fun _=>tkTo m t (nth .hld s.holds (j7 s.holds c).toNat) c (g.1 ()).toNat)) (fun _=>a3X),fun _ g _=>Ob fun _=>0≤g.1 ()∧g.1 ()≤2∧0≤j7 s.holds c,fun _ g _=>2-(g.1 ()).toNat⟩),
  (115,14,⟨Th Bool×Th Int,[⟨.tmp 11 0,some 500,.msg⟩],fun σ g=>(fun(S:Th Int)=>(((σ.only [3,4,5,6,8,10,12,13,14,15,33,68,69]).t 70 (.one (.att (.int .i64 g.2)))).t 11 (vO 500 1)).row 500 1 .msg (fun _=>tkTo m t (nth .hld s.holds (j7 s.holds c).toNat) c (S ()).toNat++tkP m t (nth .hld s.holds (j7 s.holds c).toNat) c (S ()) (g.2 ()).toNat)) (σ.tmI 12),fun σ g _=>Ob ((fun(S:Th Int)=>fun _=>0≤g.2 ()∧g.2 ()≤4∧g.2 ()≤(nth .pcls (nth .hld s.holds (j7 s.holds c).toNat).state.outs (S ()).toNat).length) (σ.tmI 12)),fun _ g _=>5-(g.2 ()).toNat⟩),
  (115,22,⟨Th Int×Th Int,[⟨.tmp 11 0,some 500,.msg⟩],fun σ g=>(fun(S:Th Int)=>(((σ.only [3,4,5,6,8,10,12,13,14,15,33,91,92]).t 93 (.one (.att (.int .i64 g.1)))).t 11 (vO 500 1)).row 500 1 .msg (fun _=>tkTo m t (nth .hld s.holds (j7 s.holds c).toNat) c (S ()).toNat++tkP m t (nth .hld s.holds (j7 s.holds c).toNat) c (S ()) 4++tkG m t (nth .hld s.holds (j7 s.holds c).toNat) c (S ()) (g.1 ()).toNat)) (σ.tmI 12),fun σ g _=>Ob ((fun(S:Th Int)=>fun _=>0≤g.1 ()∧g.1 ()≤4∧g.1 ()≤(n9 m (nth .hld s.holds (j7 s.holds c).toNat) (S ())).length) (σ.tmI 12)),fun _ g _=>5-(g.1 ()).toNat⟩)],noAnn,20,?_⟩
 cbv
 repeat' first|((with_reducible refine fun(g:Th Int×Th Bool) => ?_);obtain⟨i,z⟩:=g;obtain⟨i,rfl⟩:=b6 i;obtain⟨z,rfl⟩:=b6 z;(with_reducible refine ImpB.out ?_);cbv;(with_reducible refine ImpB.mk ?_);intro hq;obtain⟨hq⟩:=hq;have hq0:=hq.1;obtain⟨i,rfl⟩:=Int.eq_ofNat_of_zero_le hq0;clear hq0)|((with_reducible refine fun(g:Th Bool×Th Int) => ?_);obtain⟨z,j⟩:=g;obtain⟨z,rfl⟩:=b6 z;obtain⟨j,rfl⟩:=b6 j;(with_reducible refine ImpB.out ?_);cbv;(with_reducible refine ImpB.mk ?_);intro hq;obtain⟨hq⟩:=hq;have hq0:=hq.1;obtain⟨j,rfl⟩:=Int.eq_ofNat_of_zero_le hq0;clear hq0)|((with_reducible refine fun(g:Th Int×Th Int) => ?_);obtain⟨k,z⟩:=g;obtain⟨k,rfl⟩:=b6 k;obtain⟨z,rfl⟩:=b6 z;(with_reducible refine ImpB.out ?_);cbv;(with_reducible refine ImpB.mk ?_);intro hq;obtain⟨hq⟩:=hq;have hq0:=hq.1;obtain⟨k,rfl⟩:=Int.eq_ofNat_of_zero_le hq0;clear hq0)|((with_reducible intro _);cbv)|(with_reducible refine And.intro ?_ ?_)
 all_goals try((first|(with_reducible refine LoopIn.wf (fun σ => (σ.tmI 33,s5)) ?_ ?_)|(with_reducible refine LoopBack.wf (fun σ => (σ.tmI 33,s5)) ?_ ?_ ?_)|(with_reducible refine LoopIn.wf (fun σ => (s5,σ.tmI 70)) ?_ ?_)|(with_reducible refine LoopBack.wf (fun σ => (s5,σ.tmI 70)) ?_ ?_ ?_)|(with_reducible refine LoopIn.wf (fun σ => (σ.tmI 93,L0)) ?_ ?_)|(with_reducible refine LoopBack.wf (fun σ => (σ.tmI 93,L0)) ?_ ?_ ?_))<;>cbv)
 all_goals try(with_reducible show _∧_;(try simp only[and_true,true_and]))
 all_goals try(repeat' with_reducible refine And.intro ?_ ?_)
 all_goals try(with_reducible refine MeasB.mk ?_)
 all_goals first|(refine retK h ?_;clear h;simp only[fin0])|(with_reducible refine Ob.mk ?_;clear h)|(clear h)
 all_goals(try simp only[eta0,RT.bytes]at *)
 all_goals(try dsimp only[RT.ty]at *)
 all_goals(try simp only[d5W,Int.toNat_natCast]at *)
 all_goals(try simp only[d6E]at *)
 all_goals(try simp(disch:=assumption) only[hn])
 all_goals(first|omega|(simp(disch:=omega) only[c8V];first|exact d3n ‹_› | exact d3q ‹_›)|grind[j3,c5X,c5Y,c9e,c9f,b7x,d3p,c9g,b7y,d3s,d3o,d3r,b0B,u5,y8,F8,a8S])
end Go.Proofs.YtihaeoicjglieaaGreat
