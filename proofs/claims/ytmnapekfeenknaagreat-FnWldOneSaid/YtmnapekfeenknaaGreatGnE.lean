/-
  Contracts: the document's cells: parcels in, parcels let go, records.
-/
import Derived.Test.YtmnapekfeenknaaGreatFnJ
import Derived.Test.YtmnapekfeenknaaGreatFnI
import Derived.Test.YtmnapekfeenknaaGreatInsW
import Derived.Test.YtmnapekfeenknaaGreatM2
import Derived.Test.YtmnapekfeenknaaGreatM1
import Derived.Test.YtmnapekfeenknaaGreatFnM
set_option linter.unusedVariables false
set_option linter.unusedSimpArgs false
set_option maxRecDepth 100000
set_option maxHeartbeats 16000000
namespace Go.Proofs.YtmnapekfeenknaaGreat
open Go.Sx Go.Proofs Go.Mo
noncomputable def d6Z:Sx.Spec:=⟨false,true,[.map,.row .cll,.int .i64,.row .pcl],[nCll,[none]],fun _ _ ⟨m,c,s,p,_⟩ => .asrt (fun _=>s5 (m ()) (c ())=true∧J8 (m ()) (p ())=true∧0≤s ()∧s ()<2) (.ret (.tup [oCll fun _=>(y4 (m ()) (c ()) (s ()).toNat (p ())).c,vB fun _=>(y4 (m ()) (c ()) (s ()).toNat (p ())).ok],fun _=>0))⟩
noncomputable def d0U:Sx.Spec:=⟨false,true,[.row .cll,.int .i64,.int .i64],[nCll,[none]],fun _ _ ⟨c,s,n,_⟩ => .asrt (fun _=>0≤s ()∧s ()<2∧(c ()).outs.length=2∧(c ()).next.length=2∧0≤nth .int (c ()).next (s ()).toNat∧nth .int (c ()).next (s ()).toNat≤5000) (.ret (.tup [oCll fun _=>(I0 (c ()) (s ()).toNat (n ())).c,vB fun _=>(I0 (c ()) (s ()).toNat (n ())).ok],fun _=>0))⟩
noncomputable def a7L:Sx.Spec:=⟨false,true,[.map,.row .cll,.row .rcd],[nCll,[none],[none]],fun _ _ ⟨m,c,r,_⟩ => .asrt (fun _=>s5 (m ()) (c ())=true) (.ret (.tup [oCll fun _=>(Q6 (m ()) (c ()) (r ())).c,vI fun _=>(Q6 (m ()) (c ()) (r ())).code,vB fun _=>(Q6 (m ()) (c ()) (r ())).ok],fun _=>0))⟩
noncomputable def b4S:Sx.Spec:=⟨false,true,[.map,.row .cll,.row .rcd],[nCll,[none],[none]],fun _ _ ⟨m,c,r,_⟩ => .ret (.tup [oCll fun _=>(T4 (m ()) (c ()) (r ())).c,vI fun _=>(T4 (m ()) (c ()) (r ())).code,vB fun _=>(T4 (m ()) (c ()) (r ())).ok],fun _=>0)⟩
theorem d8a:b9 Tryz.prog 240 d6Z:=j5 j3 (ss := [(202,R6),(259,a1h),(110,a0X),(117,B6)]) ⟨a2i,a4m,a3E,N7,trivial⟩ rfl rfl<|by
 intro(bs:Th (List Int)) (p:Th Int) ⟨(m:Th PMap),(c:Th Cll),(s:Th Int),(p:Th Pcl),u⟩ K _ _ ho h
 obtain⟨m,rfl⟩:=b6 m;obtain⟨c,rfl⟩:=b6 c;obtain⟨s,rfl⟩:=b6 s;obtain⟨p,rfl⟩:=b6 p
 obtain⟨hpre,h⟩:=h
 have hpre:s5 m c=true∧J8 m p=true∧0≤s∧s<2:=hpre.out
 refine⟨noAnn,noAnn,20,?_⟩
 have hf:=o7 hpre.1
 have hlen:=Z7 hpre.1
 have hsd:=E1 hpre.1 (s:=s.toNat) (by have:=hpre.2.2;omega)
 have hpc:0≤p.n∧p.n≤4999∧(p.kind=1∧p.j8=0∨p.kind=2∧1≤p.j8∧p.j8≤9):=by
  have:=hpre.2.1
  simp[J8]at this
  omega
 cbv
 repeat' first|((with_reducible intro _);cbv)|(with_reducible refine And.intro ?_ ?_)
 all_goals first|(refine retK h ?_;clear h;simp only[fin0])|(with_reducible refine Ob.mk ?_;clear h)|(clear h)
 all_goals(try simp only[eta0,RT.bytes]at *)
 all_goals grind[y4,G0,e9,b7P,z8]
theorem d5G:b9 Tryz.prog 241 d0U:=j5 j3 (ss := [(202,R6),(171,a1i)]) ⟨a2i,b2r,trivial⟩ rfl rfl<|by
 intro(bs:Th (List Int)) (p:Th Int) ⟨(c:Th Cll),(s:Th Int),(n:Th Int),u⟩ K _ _ ho h
 obtain⟨c,rfl⟩:=b6 c;obtain⟨s,rfl⟩:=b6 s;obtain⟨n,rfl⟩:=b6 n
 obtain⟨hpre,h⟩:=h
 have hpre:0≤s∧s<2∧c.outs.length=2∧c.next.length=2∧0≤nth .int c.next s.toNat∧nth .int c.next s.toNat≤5000:=hpre.out
 refine⟨noAnn,noAnn,20,?_⟩
 obtain⟨hw,hou,hoi,hn,hi,_,_⟩:=b2A ho.1
 have hoi:=hoi s.toNat (by omega)
 cbv
 repeat' first|((with_reducible intro _);cbv)|(with_reducible refine And.intro ?_ ?_)
 all_goals first|(refine retK h ?_;clear h;simp only[fin0])|(with_reducible refine Ob.mk ?_;clear h)|(clear h)
 all_goals(try simp only[eta0,RT.bytes]at *)
 all_goals grind[I0,T9,e9,z8]
theorem a9D:b9 Tryz.prog 203 a7L:=j5 j3 (ss := [(237,a9s),(138,E6),(202,R6),(238,a9u),(239,d7a),(240,d6Z),(241,d0U)]) ⟨c0d,V3,a2i,c8o,d8b,d8a,d5G,trivial⟩ rfl rfl<|by
 intro(bs:Th (List Int)) (p:Th Int) ⟨(m:Th PMap),(c:Th Cll),(r:Th Sx.Rec),u⟩ K _ _ ho h
 obtain⟨m,rfl⟩:=b6 m;obtain⟨c,rfl⟩:=b6 c;obtain⟨r,rfl⟩:=b6 r
 obtain⟨hpre,h⟩:=h
 have hpre:=hpre.out
 refine⟨noAnn,noAnn,20,?_⟩
 have hf:=o7 hpre
 have hps := @L7 m c.cell r.side
 have hrf := @S7 r
 have hsd := @E1 m c hpre
 cbv
 repeat' first|((with_reducible intro _);cbv)|(with_reducible refine And.intro ?_ ?_)
 all_goals first|(refine retK h ?_;clear h;simp only[fin0])|(with_reducible refine Ob.mk ?_;clear h)|(clear h)
 all_goals(try simp only[eta0,RT.bytes]at *)
 all_goals have hrn := @c5d m c r.side.toNat r.pcl
 all_goals have hln := @d1e c r.side.toNat r.n
 all_goals grind[Q6,m0,I4]
theorem c0e:b9 Tryz.prog 293 b4S:=j5 j3 (ss := [(119,a2V),(237,a9s),(203,a7L)]) ⟨a5m,c0d,a9D,trivial⟩ rfl rfl<|by
 intro(bs:Th (List Int)) (p:Th Int) ⟨(m:Th PMap),(c:Th Cll),(r:Th Sx.Rec),u⟩ K _ _ ho h
 obtain⟨m,rfl⟩:=b6 m;obtain⟨c,rfl⟩:=b6 c;obtain⟨r,rfl⟩:=b6 r
 refine⟨noAnn,noAnn,20,?_⟩
 cbv
 repeat' first|((with_reducible intro _);cbv)|(with_reducible refine And.intro ?_ ?_)
 all_goals first|(refine retK h ?_;clear h;simp only[fin0])|(with_reducible refine Ob.mk ?_;clear h)|(clear h)
 all_goals(try simp only[eta0,RT.bytes]at *)
 all_goals grind[T4,Q6,O1]
noncomputable def a4Y:Sx.Spec:=⟨false,true,[.map,.row .cll,.list .rcd],[nCll,[none]],fun _ _ ⟨m,c,l,_⟩ => .ret (.tup [oCll fun _=>(Y1 (m ()) (c ()) (l ())).c,vI fun _=>(Y1 (m ()) (c ()) (l ())).n],fun _=>0)⟩
theorem c3Z {m:PMap} {c:Cll} {l:List Sx.Rec} {k:Nat}:(Q6 m (v8 m c l k) (nth .rcd l k)).ok=R0 m c l k:=by
 unfold Q6 R0
 split<;>simp_all
theorem c1D {m:PMap} {c:Cll} {l:List Sx.Rec} {k:Nat} (h:(Q6 m (v8 m c l k) (nth .rcd l k)).ok=true):(Q6 m (v8 m c l k) (nth .rcd l k)).c=v8 m c l (k+1):=by
 unfold Q6 at *
 split
 ·rw[Q9]
 ·rename_i hh
  rw[if_neg hh]at h
  cases h
theorem c3k {m:PMap} {c:Cll} {l:List Sx.Rec} {k:Nat} (h:s5 m c=true) (hl:l.length≤250) (hk:k<l.length) (ha:m9 k (R0 m c l)=true) (hf:R0 m c l k=false):Y1 m c l=⟨v8 m c l k,k⟩:=by
 rw[Y1,if_pos ⟨h,hl⟩,a3P,c1i hk ha hf]
theorem c0y {m:PMap} {c:Cll} {l:List Sx.Rec} {k:Nat} (h:s5 m c=true) (hl:l.length≤250) (hk:k=l.length) (ha:m9 k (R0 m c l)=true):Y1 m c l=⟨v8 m c l k,k⟩:=by
 rw[Y1,if_pos ⟨h,hl⟩,a3P,a9T hk ha]
theorem c0x {m:PMap} {c:Cll} {l:List Sx.Rec} (h:s5 m c=false∨250<l.length):Y1 m c l=⟨O1,0⟩:=by
 rw[Y1,if_neg]
 rintro⟨h1,h2⟩
 rcases h with h|h
 ·rw[h]at h1
  cases h1
 ·omega
theorem a4o:b9 Tryz.prog 170 a4Y:=j5 j3 (ss := [(119,a2V),(202,R6),(203,a7L)]) ⟨a5m,a2i,a9D,trivial⟩ rfl rfl<|by
 intro(bs:Th (List Int)) (p:Th Int) ⟨(m:Th PMap),(c:Th Cll),(l:Th (List Sx.Rec)),u⟩ K _ _ ho h
 obtain⟨m,rfl⟩:=b6 m;obtain⟨c,rfl⟩:=b6 c;obtain⟨l,rfl⟩:=b6 l
 refine⟨annL [(170,5,⟨Nat,[⟨.cell 9 1,some 13569,.wlk⟩,⟨.cell 9 3,some 13571,.pcls⟩,⟨.cell 9 4,some 13572,.int⟩,⟨.cell 9 5,some 13573,.int⟩],
  fun σ k=>(((((((((((((σ.fgs [13569,13571,13572,13573]).t 24 (.one .unk)).t 9 (vI fun _=>(k:Int))).u9 9 0 (.att (.int .i64 fun _=>(v8 m c l k).cell))).u9 9 1 (.own 13569 1)).u9 9 2 (.att (.int .i64 fun _=>(v8 m c l k).ground))).u9 9 3 (.own 13571 1)).u9 9 4 (.own 13572 1)).u9 9 5 (.own 13573 1)).row 13569 1 .wlk (fun _=>(v8 m c l k).wlks)).row 13571 1 .pcls (fun _=>(v8 m c l k).outs)).row 13572 1 .int (fun _=>(v8 m c l k).next)).row 13573 1 .int (fun _=>(v8 m c l k).ins)),
  fun _ k _=>k≤l.length∧l.length≤250∧s5 m c=true∧m9 k (R0 m c l)=true,fun _ k _=>l.length-k⟩)],noAnn,20,?_⟩
 cbv
 repeat' first|((with_reducible refine fun(k:Nat) => ?_);cbv)|((with_reducible intro _);cbv)|(with_reducible refine And.intro ?_ ?_)
 all_goals try((first|(with_reducible refine LoopIn.mk ((0:Nat)) ?_ ?_)|(with_reducible refine LoopBack.mk ((k+1:Nat)) ?_ ?_ ?_)) )
 all_goals try((with_reducible show l9 _ _);cbv;(try simp only[and_true,true_and]))
 all_goals try(repeat' with_reducible refine And.intro ?_ ?_)
 all_goals first|(refine retK h ?_;clear h;simp only[fin0])|(with_reducible refine Ob.mk ?_;clear h)|(clear h)
 all_goals(try simp only[eta0,RT.bytes]at *)
 all_goals grind[O1,c3Z,c1D,a8N,n8,n5,j4,c3k,c0y,c0x,b0O]
def nSto:List (Option RT) := [none,none,some .wlk,none,some .pcls,some .int,some .int,some .rcd]
noncomputable def a2z:Sx.Spec:=⟨false,true,[.row .sto],[nSto],fun _ _ ⟨s,_⟩ => .ret (oSto s,fun _=>0)⟩
noncomputable def a2b:Sx.Spec:=⟨false,true,[.map,.row .sto],[],fun _ _ ⟨m,s,_⟩ => .ret (vB fun _=>B2 (m ()) (s ()),fun _=>0)⟩
noncomputable def a5Q:Sx.Spec:=⟨false,true,[.map,.row .sto],[nCll],fun _ _ ⟨m,s,_⟩ => .ret (oCll fun _=>E4 (m ()) (s ()),fun _=>0)⟩
noncomputable def b4Q:Sx.Spec:=⟨false,true,[.map,.row .sto,.int .i64],[nSto,[none]],fun _ _ ⟨m,s,a,_⟩ => .ret (.tup [oSto fun _=>(X1 (m ()) (s ()) (a ())).s,vB fun _=>(X1 (m ()) (s ()) (a ())).ok],fun _=>0)⟩
noncomputable def b1K:Sx.Spec:=⟨false,true,[.map,.row .sto,.int .i64,.int .i64,.row .rcd],[nSto,[none]],fun _ _ ⟨m,s,a,b,r,_⟩ => .ret (.tup [oSto fun _=>(A7 (m ()) (s ()) (a ()) (b ()) (r ())).s,vI fun _=>(A7 (m ()) (s ()) (a ()) (b ()) (r ())).n],fun _=>0)⟩
theorem d1I {s:Sto} (h : ∀a∈(PT.row .sto).encA (fun _=>s),OkA a):s.recs.length * 128≤140737488355328:=okB (h _ (.tail _ (.tail _ (.tail _ (.tail _ (.tail _ (.tail _ (.tail _ (.head _)))))))))
theorem a8q:b9 Tryz.prog 251 a2z:=j5 j3 (ss := [(202,R6)]) ⟨a2i,trivial⟩ rfl rfl<|by
 intro(bs:Th (List Int)) (p:Th Int) ⟨(s:Th Sto),u⟩ K _ _ ho h
 obtain⟨s,rfl⟩:=b6 s
 have hrl:=d1I ho.1
 refine⟨noAnn,noAnn,20,?_⟩
 cbv
 repeat' first|((with_reducible intro _);cbv)|(with_reducible refine And.intro ?_ ?_)
 all_goals first|(refine retK h ?_;clear h;simp only[fin0])|(with_reducible refine Ob.mk ?_;clear h)|(clear h)
 all_goals(try simp only[eta0,RT.bytes]at *)
 all_goals grind
theorem c5v:b9 Tryz.prog 106 a2b:=j5 j3 (ss := [(50,sIn),(103,a2V),(120,c4T)]) ⟨okIn,b7y,c2Z,trivial⟩ rfl rfl<|by
 intro(bs:Th (List Int)) (p:Th Int) ⟨(m:Th PMap),(s:Th Sto),u⟩ K _ _ ho h
 obtain⟨m,rfl⟩:=b6 m;obtain⟨s,rfl⟩:=b6 s
 have hso := @z6 m s
 refine⟨noAnn,noAnn,20,?_⟩
 cbv
 repeat' first|((with_reducible intro _);cbv)|(with_reducible refine And.intro ?_ ?_)
 all_goals first|(refine retK h ?_;clear h;simp only[fin0])|(with_reducible refine Ob.mk ?_;clear h)|(clear h)
 all_goals(try simp only[eta0,RT.bytes]at *)
 all_goals grind[inR]
theorem a2g:b9 Tryz.prog 169 a2b:=j5 j3 (ss := [(60,sIn),(119,a2V),(170,a4Y)]) ⟨J5,a5m,a4o,trivial⟩ rfl rfl<|by
 intro(bs:Th (List Int)) (p:Th Int) ⟨(m:Th PMap),(s:Th Sto),u⟩ K _ _ ho h
 obtain⟨m,rfl⟩:=b6 m;obtain⟨s,rfl⟩:=b6 s
 have hso := @z6 m s
 refine⟨noAnn,noAnn,20,?_⟩
 cbv
 repeat' first|((with_reducible intro _);cbv)|(with_reducible refine And.intro ?_ ?_)
 all_goals first|(refine retK h ?_;clear h;simp only[fin0])|(with_reducible refine Ob.mk ?_;clear h)|(clear h)
 all_goals(try simp only[eta0,RT.bytes]at *)
 all_goals grind[inR,Y1]
theorem b9Z:b9 Tryz.prog 107 a5Q:=j5 j3 (ss := [(169,a2b),(170,a4Y)]) ⟨a2g,a4o,trivial⟩ rfl rfl<|by
 intro(bs:Th (List Int)) (p:Th Int) ⟨(m:Th PMap),(s:Th Sto),u⟩ K _ _ ho h
 obtain⟨m,rfl⟩:=b6 m;obtain⟨s,rfl⟩:=b6 s
 have hso := @z6 m s
 refine⟨noAnn,noAnn,20,?_⟩
 cbv
 repeat' first|((with_reducible intro _);cbv)|(with_reducible refine And.intro ?_ ?_)
 all_goals first|(refine retK h ?_;clear h;simp only[fin0])|(with_reducible refine Ob.mk ?_;clear h)|(clear h)
 all_goals(try simp only[eta0,RT.bytes]at *)
 all_goals grind[E4,r9,O1,Y1]
theorem c0a:b9 Tryz.prog 291 b4Q:=j5 j3 (ss := [(169,a2b),(60,sIn),(251,a2z)]) ⟨a2g,J5,a8q,trivial⟩ rfl rfl<|by
 intro(bs:Th (List Int)) (p:Th Int) ⟨(m:Th PMap),(s:Th Sto),(a:Th Int),u⟩ K _ _ ho h
 obtain⟨m,rfl⟩:=b6 m;obtain⟨s,rfl⟩:=b6 s;obtain⟨a,rfl⟩:=b6 a
 refine⟨noAnn,noAnn,20,?_⟩
 cbv
 repeat' first|((with_reducible intro _);cbv)|(with_reducible refine And.intro ?_ ?_)
 all_goals first|(refine retK h ?_;clear h;simp only[fin0])|(with_reducible refine Ob.mk ?_;clear h)|(clear h)
 all_goals(try simp only[eta0,RT.bytes]at *)
 all_goals grind[X1,a1f,O1,inR]
theorem b7o:b9 Tryz.prog 292 b1K:=j5 j3 (ss := [(169,a2b),(251,a2z),(170,a4Y),(203,a7L)]) ⟨a2g,a8q,a4o,a9D,trivial⟩ rfl rfl<|by
 intro(bs:Th (List Int)) (p:Th Int) ⟨(m:Th PMap),(s:Th Sto),(a:Th Int),(b:Th Int),(r:Th Sx.Rec),u⟩ K _ _ ho h
 obtain⟨m,rfl⟩:=b6 m;obtain⟨s,rfl⟩:=b6 s;obtain⟨a,rfl⟩:=b6 a;obtain⟨b,rfl⟩:=b6 b;obtain⟨r,rfl⟩:=b6 r
 have hso := @z6 m s
 have hst := @a1Z m s
 refine⟨noAnn,noAnn,20,?_⟩
 cbv
 repeat' first|((with_reducible intro _);cbv)|(with_reducible refine And.intro ?_ ?_)
 all_goals first|(refine retK h ?_;clear h;simp only[fin0])|(with_reducible refine Ob.mk ?_;clear h)|(clear h)
 all_goals(try simp only[eta0,RT.bytes]at *)
 all_goals grind[A7,M3,r9,a1f,O1,Y1,Q6]
def nHld:List (Option RT) := [none,none,none,some .wlk,none,some .pcls,some .int,some .int]
noncomputable def a4f:Sx.Spec:=⟨false,true,[.row .hld],[nHld],fun _ _ ⟨h,_⟩ => .ret (oHld h,fun _=>0)⟩
noncomputable def a9t:Sx.Spec:=⟨false,true,[.map,.row .hld],[],fun _ _ ⟨m,h,_⟩ => .ret (vB fun _=>V5 (m ()) (h ()),fun _=>0)⟩
noncomputable def b9h:Sx.Spec:=⟨false,true,[.map,.row .sto,.int .i64],[nHld,nSto,[none]],fun _ _ ⟨m,s,a,_⟩ => .ret (.tup [oHld fun _=>(a0s (m ()) (s ()) (a ())).h,oSto fun _=>(a0s (m ()) (s ()) (a ())).s,vB fun _=>(a0s (m ()) (s ()) (a ())).ok],fun _=>0)⟩
noncomputable def b4W:Sx.Spec:=⟨false,true,[.map,.row .hld,.row .sto,.row .rcd],[nHld,nSto,[none],[none]],fun _ _ ⟨m,h,s,r,_⟩ => .ret (.tup [oHld fun _=>(x9 (m ()) (h ()) (s ()) (r ())).h,oSto fun _=>(x9 (m ()) (h ()) (s ()) (r ())).s,vI fun _=>(x9 (m ()) (h ()) (s ()) (r ())).n,vI fun _=>(x9 (m ()) (h ()) (s ()) (r ())).k],fun _=>0)⟩
theorem c0s:b9 Tryz.prog 186 a4f:=j5 j3 (ss := [(104,R6)]) ⟨a3G,trivial⟩ rfl rfl<|by
 intro(bs:Th (List Int)) (p:Th Int) ⟨(g:Th Hld),u⟩ K _ _ ho h
 obtain⟨g,rfl⟩:=b6 g
 refine⟨noAnn,noAnn,20,?_⟩
 cbv
 repeat' first|((with_reducible intro _);cbv)|(with_reducible refine And.intro ?_ ?_)
 all_goals first|(refine retK h ?_;clear h;simp only[fin0])|(with_reducible refine Ob.mk ?_;clear h)|(clear h)
 all_goals(try simp only[eta0,RT.bytes]at *)
 all_goals grind
theorem d5I:b9 Tryz.prog 123 a9t:=j5 j3 (ss := [(50,sIn),(103,a2V)]) ⟨okIn,b7y,trivial⟩ rfl rfl<|by
 intro(bs:Th (List Int)) (p:Th Int) ⟨(m:Th PMap),(g:Th Hld),u⟩ K _ _ ho h
 obtain⟨m,rfl⟩:=b6 m;obtain⟨g,rfl⟩:=b6 g
 have hso := @C2 m g
 refine⟨noAnn,noAnn,20,?_⟩
 cbv
 repeat' first|((with_reducible intro _);cbv)|(with_reducible refine And.intro ?_ ?_)
 all_goals first|(refine retK h ?_;clear h;simp only[fin0])|(with_reducible refine Ob.mk ?_;clear h)|(clear h)
 all_goals(try simp only[eta0,RT.bytes]at *)
 all_goals grind[inR]
theorem c2K {m:PMap} {s:Sto} {a:Int} (h:B2 m s=true) (h1:1≤a) (h2:a≤900):((X1 m s a).ok=false→a0s m s a=⟨a3k,(X1 m s a).s,false⟩) ∧
  ((X1 m s a).ok=true→a0s m s a=⟨⟨a,(X1 m s a).s.recs.length,E4 m (X1 m s a).s⟩,(X1 m s a).s,true⟩):=by
 have hc:B2 m s=true∧0≤a∧a≤900:=⟨h,by omega,h2⟩
 have ha:=d4F h (a:=a) (by omega) h2
 unfold X1 a0s
 have hd:B2 m s=true∧1≤a∧a≤900:=⟨h,h1,h2⟩
 rw[if_pos hc,if_pos hd]
 by_cases hl:a<s.age
 ·rw[if_pos hl]
  exact⟨fun _=>(by first|rw[if_pos hl]|rfl),fun hh=>by cases hh⟩
 ·rw[if_neg hl]
  refine⟨fun hh=>(by cases hh),fun _ => ?_⟩
  first
   |rw[if_neg hl,ha.2,b6E h]
   |rw[ha.2,b6E h]
theorem c6U {m:PMap} {g:Hld} {s:Sto} {r:Sx.Rec} (hg:V5 m g=true) (hs:B2 m s=true) :
  (¬(A7 m s g.age g.count r).n=1→x9 m g s r=⟨g,s,(A7 m s g.age g.count r).n,0⟩∧(A7 m s g.age g.count r).s=s) ∧
  ((A7 m s g.age g.count r).n=1→(T4 m g.state r).ok=false→x9 m g s r=⟨g,s,4,0⟩) ∧
  ((A7 m s g.age g.count r).n=1→(T4 m g.state r).ok=true→x9 m g s r=⟨⟨g.age,g.count+1,(T4 m g.state r).c⟩,(A7 m s g.age g.count r).s,1,(T4 m g.state r).code⟩)∧(-10≤g.count∧g.count≤250):=by
 have hg2:=C2.1 hg
 have hno := @c4a m s g.age g.count r hs
 have hc:V5 m g=true∧B2 m s=true:=⟨hg,hs⟩
 refine⟨fun hn=>⟨?_,hno hn⟩,fun hn ho => ?_,fun hn ho => ?_,by omega⟩
 ·rw[a2p hs]at hn ⊢
  rw[x9,if_pos hc,if_pos hn]
 ·rw[a2p hs]at hn
  have hl:I4 m r=true:=by
   rcases a3Q m s g.age g.count r with ⟨_,h2⟩|⟨_,_,_,_,_,h6,_⟩
   ·omega
   ·exact h6
  rw[apX hg2.2.2 hl]at ho
  rw[x9,if_pos hc,if_neg (fun hh=>hh hn),if_pos ho]
 ·rw[a2p hs]at hn ⊢
  have hl:I4 m r=true:=by
   rcases a3Q m s g.age g.count r with ⟨_,h2⟩|⟨_,_,_,_,_,h6,_⟩
   ·omega
   ·exact h6
  rw[apX hg2.2.2 hl]at ho ⊢
  rw[x9,if_pos hc,if_neg (fun hh=>hh hn),if_neg (by rw[ho];decide)]
theorem c1V {m:PMap} {g:Hld} {s:Sto} {r:Sx.Rec} (h:V5 m g=false∨B2 m s=false):x9 m g s r=⟨a3k,a1f,0,0⟩:=by
 rw[x9,if_neg]
 rintro⟨h1,h2⟩
 rcases h with h|h<;>simp_all
theorem b2u:b9 Tryz.prog 225 a9t:=j5 j3 (ss := [(60,sIn),(119,a2V)]) ⟨J5,a5m,trivial⟩ rfl rfl<|by
 intro(bs:Th (List Int)) (p:Th Int) ⟨(m:Th PMap),(g:Th Hld),u⟩ K _ _ ho h
 obtain⟨m,rfl⟩:=b6 m;obtain⟨g,rfl⟩:=b6 g
 have hso := @C2 m g
 refine⟨noAnn,noAnn,20,?_⟩
 cbv
 repeat' first|((with_reducible intro _);cbv)|(with_reducible refine And.intro ?_ ?_)
 all_goals first|(refine retK h ?_;clear h;simp only[fin0])|(with_reducible refine Ob.mk ?_;clear h)|(clear h)
 all_goals(try simp only[eta0,RT.bytes]at *)
 all_goals grind[inR]
theorem b2w:b9 Tryz.prog 252 a4f:=j5 j3 (ss := [(202,R6)]) ⟨a2i,trivial⟩ rfl rfl<|by
 intro(bs:Th (List Int)) (p:Th Int) ⟨(g:Th Hld),u⟩ K _ _ ho h
 obtain⟨g,rfl⟩:=b6 g
 refine⟨noAnn,noAnn,20,?_⟩
 cbv
 repeat' first|((with_reducible intro _);cbv)|(with_reducible refine And.intro ?_ ?_)
 all_goals first|(refine retK h ?_;clear h;simp only[fin0])|(with_reducible refine Ob.mk ?_;clear h)|(clear h)
 all_goals(try simp only[eta0,RT.bytes]at *)
 all_goals grind
theorem c2R:b9 Tryz.prog 282 b9h:=j5 j3 (ss := [(169,a2b),(60,sIn),(291,b4Q),(107,a5Q)]) ⟨a2g,J5,c0a,b9Z,trivial⟩ rfl rfl<|by
 intro(bs:Th (List Int)) (p:Th Int) ⟨(m:Th PMap),(s:Th Sto),(a:Th Int),u⟩ K _ _ ho h
 obtain⟨m,rfl⟩:=b6 m;obtain⟨s,rfl⟩:=b6 s;obtain⟨a,rfl⟩:=b6 a
 have hop := @c2K m s a
 have hb1:B2 m s=false→a0s m s a=⟨a3k,a1f,false⟩:=fun hh=>by
  rw[a0s,if_neg (fun h3=>by simp_all)]
 have hb2:inR a 1 900=false→a0s m s a=⟨a3k,a1f,false⟩:=fun hh=>by
  simp only[inR,decide_eq_false_iff_not]at hh
  rw[a0s,if_neg (fun h3=>hh h3.2)]
 have hb3:inR a 1 900=true→1≤a∧a≤900:=fun hh=>by simpa [inR]using hh
 refine⟨noAnn,noAnn,20,?_⟩
 cbv
 repeat' first|((with_reducible intro _);cbv)|(with_reducible refine And.intro ?_ ?_)
 all_goals first|(refine retK h ?_;clear h;simp only[fin0])|(with_reducible refine Ob.mk ?_;clear h)|(clear h)
 all_goals(try simp only[eta0,RT.bytes]at *)
 all_goals grind[a1f,O1,a3k]
theorem c0f:b9 Tryz.prog 285 b4W:=j5 j3 (ss := [(225,a9t),(169,a2b),(292,b1K),(252,a4f),(293,b4S),(251,a2z)]) ⟨b2u,a2g,b7o,b2w,c0e,a8q,trivial⟩ rfl rfl<|by
 intro(bs:Th (List Int)) (p:Th Int) ⟨(m:Th PMap),(g:Th Hld),(s:Th Sto),(r:Th Sx.Rec),u⟩ K _ _ ho h
 obtain⟨m,rfl⟩:=b6 m;obtain⟨g,rfl⟩:=b6 g;obtain⟨s,rfl⟩:=b6 s;obtain⟨r,rfl⟩:=b6 r
 have hw := @c6U m g s r
 have hz := @c1V m g s r
 refine⟨noAnn,noAnn,20,?_⟩
 cbv
 repeat' first|((with_reducible intro _);cbv)|(with_reducible refine And.intro ?_ ?_)
 all_goals first|(refine retK h ?_;clear h;simp only[fin0])|(with_reducible refine Ob.mk ?_;clear h)|(clear h)
 all_goals(try simp only[eta0,RT.bytes]at *)
 all_goals grind[a1f,O1,a3k,e9]
end Go.Proofs.YtmnapekfeenknaaGreat
namespace Go.Mo
open Go.Sx
theorem c4w {a b:Srv}:a=b↔a.up=b.up∧a.holds=b.holds∧a.o8=b.o8:=by
 cases a;cases b;simp
theorem d7O {a b:OW}:a=b↔a.wlk=b.wlk∧a.here=b.here:=by
 cases a;cases b;simp
theorem c5M {a b:PMap}:a=b↔a.cells=b.cells∧a.width=b.width:=by
 cases a;cases b;simp
theorem d5w {a b:One}:a=b↔a.map=b.map∧a.wlks=b.wlks∧a.ground=b.ground∧a.air=b.air:=by
 cases a;cases b;simp
end Go.Mo
namespace Go.Proofs.YtmnapekfeenknaaGreat
open Go.Sx Go.Proofs Go.Mo
noncomputable def a6O:Sx.Spec:=⟨false,true,[.one,.one],[],fun _ _ ⟨a,b,_⟩ => .ret (vB fun _=>decide (a ()=b ()),fun _=>0)⟩
theorem a6c:b9 Tryz.prog 23 a6O:=j5 j3 (ss := [(19,sIsI)]) ⟨a8t,trivial⟩ rfl rfl<|by
 intro(bs:Th (List Int)) (p:Th Int) ⟨(a:Th One),(b:Th One),u⟩ K _ _ ho h
 obtain⟨a,rfl⟩:=b6 a;obtain⟨b,rfl⟩:=b6 b
 have hl:=okL (ho.1 _ (.tail _ (.tail _ (.head _))))
 have hl2:=okL (ho.1 _ (.tail _ (.tail _ (.tail _ (.tail _ (.head _))))))
 refine⟨annL [(23,4,⟨Nat,[],fun σ k => σ.t 5 (vI fun _=>(k:Int)),fun _ k _=>k≤a.wlks.length∧a.wlks.length=b.wlks.length∧a.map=b.map∧a.ground=b.ground∧a.air.length=b.air.length∧same .ow a.wlks b.wlks k,fun _ k _=>a.wlks.length-k⟩),
  (23,9,⟨Nat,[],fun σ k => σ.t 6 (vI fun _=>(k:Int)),fun _ k _=>k≤a.air.length∧a.map=b.map∧a.wlks=b.wlks∧a.ground=b.ground∧a.air.length=b.air.length∧same .ints a.air b.air k,fun _ k _=>a.air.length-k⟩)],noAnn,20,?_⟩
 cbv
 repeat' first|((with_reducible refine fun(k:Nat) => ?_);cbv)|((with_reducible intro _);cbv)|(with_reducible refine And.intro ?_ ?_)
 all_goals try((first|(with_reducible refine LoopIn.mk ((0:Nat)) ?_ ?_)|(with_reducible refine LoopBack.mk ((k+1:Nat)) ?_ ?_ ?_)) )
 all_goals try((with_reducible show l9 _ _);cbv;(try simp only[and_true,true_and]))
 all_goals try(repeat' with_reducible refine And.intro ?_ ?_)
 all_goals first|(refine retK h ?_;clear h;simp only[fin0])|(with_reducible refine Ob.mk ?_;clear h)|(clear h)
 all_goals(try simp only[eta0,RT.bytes]at *)
 all_goals grind(splits:=30) [j4,K6,K7,O4,d7O,a5N,d5w,c5M]
noncomputable def a9p:Sx.Spec:=⟨false,true,[.map,.row .srv],[],fun _ _ ⟨m,s,_⟩ => .ret (vB fun _=>C0 (m ()) (s ()),fun _=>0)⟩
noncomputable def a4d:Sx.Spec:=⟨false,true,[.row .srv,.int .i64],[],fun _ _ ⟨s,c,_⟩ => .ret (vI fun _=>k8 (s ()).holds (c ()),fun _=>0)⟩
noncomputable def a4U:Sx.Spec:=⟨false,true,[.row .srv,.int .i64],[nHld,[none]],fun _ _ ⟨s,c,_⟩ => .ret (.tup [oHld fun _=>j6 (s ()) (c ()),vB fun _=>z7 (s ()) (c ())],fun _=>0)⟩
noncomputable def a7Q:Sx.Spec:=⟨false,true,[.row .srv],[[none,some .hld,some .gst]],fun _ _ ⟨s,_⟩ => .ret (oSrv s,fun _=>0)⟩
noncomputable def a4Z:Sx.Spec:=⟨false,true,[.list .sto],[[some .sto]],fun _ _ ⟨l,_⟩ => .ret (vW .sto l,fun _=>0)⟩
noncomputable def a7J:Sx.Spec:=⟨false,true,[.map,.list .sto],[],fun _ _ ⟨m,l,_⟩ => .ret (vB fun _=>B1 (m ()) (l ()),fun _=>0)⟩
noncomputable def d0Y:Sx.Spec:=⟨false,true,[.map,.row .hld,.int .i64],[[some .gst]],fun _ _ ⟨m,h,s,_⟩ => .ret (vW .gst fun _=>if V5 (m ()) (h ())=true then o8 (m ()) (h ()) (s ())else[],fun _=>0)⟩
theorem d5B:b9 Tryz.prog 75 a9p:=j5 j3 (ss := [(123,a9t),(124,c4P)]) ⟨d5I,d2b,trivial⟩ rfl rfl<|by
 intro(bs:Th (List Int)) (p:Th Int) ⟨(m:Th PMap),(s:Th Srv),u⟩ K _ _ ho h
 obtain⟨m,rfl⟩:=b6 m;obtain⟨s,rfl⟩:=b6 s
 have hl:=okL (ho.2.1 _ (.tail _ (.head _)))
 have hl2:=okL (ho.2.1 _ (.tail _ (.tail _ (.head _))))
 refine⟨annL [(75,2,⟨Nat,[],fun σ k => σ.t 10 (vI fun _=>(k:Int)),fun _ k _=>k≤s.holds.length∧m9 k (a3M m s.holds)=true,fun _ k _=>s.holds.length-k⟩)],noAnn,20,?_⟩
 cbv
 repeat' first|((with_reducible refine fun(k:Nat) => ?_);cbv)|((with_reducible intro _);cbv)|(with_reducible refine And.intro ?_ ?_)
 all_goals try((first|(with_reducible refine LoopIn.mk ((0:Nat)) ?_ ?_)|(with_reducible refine LoopBack.mk ((k+1:Nat)) ?_ ?_ ?_)) )
 all_goals try((with_reducible show l9 _ _);cbv;(try simp only[and_true,true_and]))
 all_goals try(repeat' with_reducible refine And.intro ?_ ?_)
 all_goals first|(refine retK h ?_;clear h;simp only[fin0])|(with_reducible refine Ob.mk ?_;clear h)|(clear h)
 all_goals(try simp only[eta0,RT.bytes]at *)
 all_goals grind[j4,e9,Z1,b8L,b8K,c4x,a6s,a3M,n8,n5]
theorem b2o:b9 Tryz.prog 192 a9p:=j5 j3 (ss := [(14,A5),(224,b1P),(225,a9t)]) ⟨F7,b5r,b2u,trivial⟩ rfl rfl<|by
 intro(bs:Th (List Int)) (p:Th Int) ⟨(m:Th PMap),(s:Th Srv),u⟩ K _ _ ho h
 obtain⟨m,rfl⟩:=b6 m;obtain⟨s,rfl⟩:=b6 s
 have hl:=okL (ho.2.1 _ (.tail _ (.head _)))
 have hl2:=okL (ho.2.1 _ (.tail _ (.tail _ (.head _))))
 have hb:o9 m=false∨E8 m s.o8=false∨a6s s=false→C0 m s=false:=by
  intro hh
  rcases hh with hh|hh|hh<;>simp[C0,Z0,hh]
 have hb2:o9 m=true→E8 m s.o8=true→Z0 m s.o8=true:=fun h1 h2=>by simp[Z0,h1,h2]
 refine⟨annL [(192,4,⟨Nat,[],fun σ k => σ.t 5 (vI fun _=>(k:Int)),fun _ k _=>k≤s.holds.length∧Z0 m s.o8=true∧a6s s=true∧m9 k (a3M m s.holds)=true,fun _ k _=>s.holds.length-k⟩)],noAnn,20,?_⟩
 cbv
 repeat' first|((with_reducible refine fun(k:Nat) => ?_);cbv)|((with_reducible intro _);cbv)|(with_reducible refine And.intro ?_ ?_)
 all_goals try((first|(with_reducible refine LoopIn.mk ((0:Nat)) ?_ ?_)|(with_reducible refine LoopBack.mk ((k+1:Nat)) ?_ ?_ ?_)) )
 all_goals try((with_reducible show l9 _ _);cbv;(try simp only[and_true,true_and]))
 all_goals try(repeat' with_reducible refine And.intro ?_ ?_)
 all_goals first|(refine retK h ?_;clear h;simp only[fin0])|(with_reducible refine Ob.mk ?_;clear h)|(clear h)
 all_goals(try simp only[eta0,RT.bytes]at *)
 all_goals grind[j4,e9,Z1,b8L,b8K,c4x,a6s,a3M,n8,n5]
theorem b2x:b9 Tryz.prog 185 a4d:=j5 j3 (ss := []) trivial rfl rfl<|by
 intro(bs:Th (List Int)) (p:Th Int) ⟨(s:Th Srv),(c:Th Int),u⟩ K _ _ ho h
 obtain⟨s,rfl⟩:=b6 s;obtain⟨c,rfl⟩:=b6 c
 have hl:=okL (ho.1 _ (.tail _ (.head _)))
 refine⟨annL [(125,2,⟨Nat,[],fun σ k => σ.t 8 (vI fun _=>(k:Int)),fun _ k _=>k≤s.holds.length∧m9 k (b0F s.holds c)=true,fun _ k _=>s.holds.length-k⟩)],noAnn,20,?_⟩
 cbv
 repeat' first|((with_reducible refine fun(k:Nat) => ?_);cbv)|((with_reducible intro _);cbv)|(with_reducible refine And.intro ?_ ?_)
 all_goals try((first|(with_reducible refine LoopIn.mk ((0:Nat)) ?_ ?_)|(with_reducible refine LoopBack.mk ((k+1:Nat)) ?_ ?_ ?_)) )
 all_goals try((with_reducible show l9 _ _);cbv;(try simp only[and_true,true_and]))
 all_goals try(repeat' with_reducible refine And.intro ?_ ?_)
 all_goals first|(refine retK h ?_;clear h;simp only[fin0])|(with_reducible refine Ob.mk ?_;clear h)|(clear h)
 all_goals(try simp only[eta0,RT.bytes]at *)
 all_goals grind[n8,n5,b0F,a0r,c5U,b5H,j4]
theorem b2p:b9 Tryz.prog 249 a4U:=j5 j3 (ss := [(252,a4f)]) ⟨b2w,trivial⟩ rfl rfl<|by
 intro(bs:Th (List Int)) (p:Th Int) ⟨(s:Th Srv),(c:Th Int),u⟩ K _ _ ho h
 obtain⟨s,rfl⟩:=b6 s;obtain⟨c,rfl⟩:=b6 c
 have hl:=okL (ho.1 _ (.tail _ (.head _)))
 refine⟨annL [(249,2,⟨Nat,[],fun σ k => σ.t 6 (vI fun _=>(k:Int)),fun _ k _=>k≤s.holds.length∧m9 k (b0F s.holds c)=true,fun _ k _=>s.holds.length-k⟩)],noAnn,20,?_⟩
 cbv
 repeat' first|((with_reducible refine fun(k:Nat) => ?_);cbv)|((with_reducible intro _);cbv)|(with_reducible refine And.intro ?_ ?_)
 all_goals try((first|(with_reducible refine LoopIn.mk ((0:Nat)) ?_ ?_)|(with_reducible refine LoopBack.mk ((k+1:Nat)) ?_ ?_ ?_)) )
 all_goals try((with_reducible show l9 _ _);cbv;(try simp only[and_true,true_and]))
 all_goals try(repeat' with_reducible refine And.intro ?_ ?_)
 all_goals first|(refine retK h ?_;clear h;simp only[fin0])|(with_reducible refine Ob.mk ?_;clear h)|(clear h)
 all_goals(try simp only[eta0,RT.bytes]at *)
 all_goals grind(splits:=40) [n8,n5,b0F,a0r,c5U,b5H,j4,j6,z7,a3k,O1]
theorem b5v:b9 Tryz.prog 223 a7Q:=j5 j3 (ss := [(252,a4f)]) ⟨b2w,trivial⟩ rfl rfl<|by
 intro(bs:Th (List Int)) (p:Th Int) ⟨(s:Th Srv),u⟩ K _ _ ho h
 obtain⟨s,rfl⟩:=b6 s
 have hl:=okB (ho.1 _ (.tail _ (.head _)))
 have hl2:=okB (ho.1 _ (.tail _ (.tail _ (.head _))))
 have hz:=a0Z s.holds
 have hs:=fun k => @J7 .hld s.holds k
 refine⟨annL [(223,3,⟨Nat,[⟨.cell 4 1,some 29,.hld⟩],fun σ k=>(((σ.fg 8).t 4 (vI fun _=>(k:Int))).u9 4 1 (.own 29 1)).row 29 1 .hld (fun _=>pre s.holds k),fun _ k _=>k≤s.holds.length,fun _ k _=>s.holds.length-k⟩)],noAnn,20,?_⟩
 cbv
 repeat' first|((with_reducible refine fun(k:Nat) => ?_);cbv)|((with_reducible intro _);cbv)|(with_reducible refine And.intro ?_ ?_)
 all_goals try((first|(with_reducible refine LoopIn.mk ((0:Nat)) ?_ ?_)|(with_reducible refine LoopBack.mk ((k+1:Nat)) ?_ ?_ ?_)) )
 all_goals try((with_reducible show l9 _ _);cbv;(try simp only[and_true,true_and]))
 all_goals try(repeat' with_reducible refine And.intro ?_ ?_)
 all_goals first|(refine retK h ?_;clear h;simp only[fin0])|(with_reducible refine Ob.mk ?_;clear h)|(clear h)
 all_goals(try simp only[eta0,RT.bytes]at *)
 all_goals grind[X4,a1a,j4]
theorem b0z:b9 Tryz.prog 221 a4Z:=j5 j3 (ss := [(251,a2z)]) ⟨a8q,trivial⟩ rfl rfl<|by
 intro(bs:Th (List Int)) (p:Th Int) ⟨(l:Th (List Sto)),u⟩ K _ _ ho h
 obtain⟨l,rfl⟩:=b6 l
 have hl:=okB (ho.1 _ (.head _))
 have hz:=a0Z l
 have hs:=fun k => @J7 .sto l k
 refine⟨annL [(221,3,⟨Nat,[⟨.tmp 3 0,some 6,.sto⟩],fun σ k=>(((σ.fg 6).t 4 (vI fun _=>(k:Int))).t 3 (vO 6 1)).row 6 1 .sto (fun _=>pre l k),fun _ k _=>k≤l.length,fun _ k _=>l.length-k⟩)],noAnn,20,?_⟩
 cbv
 repeat' first|((with_reducible refine fun(k:Nat) => ?_);cbv)|((with_reducible intro _);cbv)|(with_reducible refine And.intro ?_ ?_)
 all_goals try((first|(with_reducible refine LoopIn.mk ((0:Nat)) ?_ ?_)|(with_reducible refine LoopBack.mk ((k+1:Nat)) ?_ ?_ ?_)) )
 all_goals try((with_reducible show l9 _ _);cbv;(try simp only[and_true,true_and]))
 all_goals try(repeat' with_reducible refine And.intro ?_ ?_)
 all_goals first|(refine retK h ?_;clear h;simp only[fin0])|(with_reducible refine Ob.mk ?_;clear h)|(clear h)
 all_goals(try simp only[eta0,RT.bytes]at *)
 all_goals grind[X4,a1a,j4]
theorem d1F:b9 Tryz.prog 73 a7J:=j5 j3 (ss := [(106,a2b),(66,A5)]) ⟨c5v,K4,trivial⟩ rfl rfl<|by
 intro(bs:Th (List Int)) (p:Th Int) ⟨(m:Th PMap),(l:Th (List Sto)),u⟩ K _ _ ho h
 obtain⟨m,rfl⟩:=b6 m;obtain⟨l,rfl⟩:=b6 l
 have hl:=okL (ho.2.1 _ (.head _))
 refine⟨annL [(73,2,⟨Nat,[],fun σ k => σ.t 9 (vI fun _=>(k:Int)),fun _ k _=>k≤l.length∧m9 k (a3o m l)=true,fun _ k _=>l.length-k⟩)],noAnn,20,?_⟩
 cbv
 repeat' first|((with_reducible refine fun(k:Nat) => ?_);cbv)|((with_reducible intro _);cbv)|(with_reducible refine And.intro ?_ ?_)
 all_goals try((first|(with_reducible refine LoopIn.mk ((0:Nat)) ?_ ?_)|(with_reducible refine LoopBack.mk ((k+1:Nat)) ?_ ?_ ?_)) )
 all_goals try((with_reducible show l9 _ _);cbv;(try simp only[and_true,true_and]))
 all_goals try(repeat' with_reducible refine And.intro ?_ ?_)
 all_goals first|(refine retK h ?_;clear h;simp only[fin0])|(with_reducible refine Ob.mk ?_;clear h)|(clear h)
 all_goals(try simp only[eta0,RT.bytes]at *)
 all_goals grind[j4,b4H,b4G,b8B,a3o,n8,n5]
theorem b5q:b9 Tryz.prog 145 a7J:=j5 j3 (ss := [(14,A5),(169,a2b)]) ⟨F7,a2g,trivial⟩ rfl rfl<|by
 intro(bs:Th (List Int)) (p:Th Int) ⟨(m:Th PMap),(l:Th (List Sto)),u⟩ K _ _ ho h
 obtain⟨m,rfl⟩:=b6 m;obtain⟨l,rfl⟩:=b6 l
 have hl:=okL (ho.2.1 _ (.head _))
 have hb:o9 m=false ∨ ¬(l.length:Int)=m.cells→B1 m l=false:=by
  intro hh
  rcases hh with hh|hh<;>simp[B1,hh]
 refine⟨annL [(145,4,⟨Nat,[],fun σ k => σ.t 5 (vI fun _=>(k:Int)),fun _ k _=>k≤l.length∧o9 m=true∧(l.length:Int)=m.cells∧m9 k (a3o m l)=true,fun _ k _=>l.length-k⟩)],noAnn,20,?_⟩
 cbv
 repeat' first|((with_reducible refine fun(k:Nat) => ?_);cbv)|((with_reducible intro _);cbv)|(with_reducible refine And.intro ?_ ?_)
 all_goals try((first|(with_reducible refine LoopIn.mk ((0:Nat)) ?_ ?_)|(with_reducible refine LoopBack.mk ((k+1:Nat)) ?_ ?_ ?_)) )
 all_goals try((with_reducible show l9 _ _);cbv;(try simp only[and_true,true_and]))
 all_goals try(repeat' with_reducible refine And.intro ?_ ?_)
 all_goals first|(refine retK h ?_;clear h;simp only[fin0])|(with_reducible refine Ob.mk ?_;clear h)|(clear h)
 all_goals(try simp only[eta0,RT.bytes]at *)
 all_goals grind[j4,b4H,b4G,b8B,a3o,n8,n5]
theorem d1L:b9 Tryz.prog 269 d0Y:=j5 j3 (ss := [(225,a9t),(137,O5)]) ⟨b2u,a4n,trivial⟩ rfl rfl<|by
 intro(bs:Th (List Int)) (p:Th Int) ⟨(m:Th PMap),(h0:Th Hld),(s:Th Int),u⟩ K _ _ ho h
 obtain⟨m,rfl⟩:=b6 m;obtain⟨h0,rfl⟩:=b6 h0;obtain⟨s,rfl⟩:=b6 s
 have hn:V5 m h0=true→h0.state.wlks.length≤9:=fun h=>Z7 (C2.1 h).2.2
 have hl:=okB (ho.2.1 _ (.tail _ (.tail _ (.tail _ (.head _)))))
 have hz:=c1d m h0 s
 refine⟨annL [(269,5,⟨Nat,[⟨.tmp 7 0,some 11,.gst⟩],fun σ k=>(((σ.fg 11).t 8 (vI fun _=>(k:Int))).t 7 (vO 11 1)).row 11 1 .gst (fun _=>ghTo m h0 s k),fun _ k _=>k≤h0.state.wlks.length∧V5 m h0=true,fun _ k _=>h0.state.wlks.length-k⟩)],noAnn,20,?_⟩
 cbv
 repeat' first|((with_reducible refine fun(k:Nat) => ?_);cbv)|((with_reducible intro _);cbv)|(with_reducible refine And.intro ?_ ?_)
 all_goals try((first|(with_reducible refine LoopIn.mk ((0:Nat)) ?_ ?_)|(with_reducible refine LoopBack.mk ((k+1:Nat)) ?_ ?_ ?_)) )
 all_goals try((with_reducible show l9 _ _);cbv;(try simp only[and_true,true_and]))
 all_goals try(repeat' with_reducible refine And.intro ?_ ?_)
 all_goals first|(refine retK h ?_;clear h;simp only[fin0])|(with_reducible refine Ob.mk ?_;clear h)|(clear h)
 all_goals(try simp only[eta0,RT.bytes]at *)
 all_goals grind[b5Q,c1c,c6a,o8,j4]
end Go.Proofs.YtmnapekfeenknaaGreat
