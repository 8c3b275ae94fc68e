/-
  Contracts: records.
-/
import Derived.Test.YtihaeoicjglieaaGreatInsW
import Derived.Test.YtihaeoicjglieaaGreatM1
import Derived.Test.YtihaeoicjglieaaGreatFnJ
import Derived.Test.YtihaeoicjglieaaGreatGnF
import Derived.Test.YtihaeoicjglieaaGreatM2
set_option linter.unusedVariables false
set_option linter.unusedSimpArgs false
set_option maxRecDepth 100000
set_option maxHeartbeats 16000000
namespace Go.Proofs.YtihaeoicjglieaaGreat
open Go.Sx Go.Proofs Go.Mo
noncomputable def c3T:Sx.Spec:=⟨false,true,[.row .rcd],[],fun _ _ ⟨r,_⟩ => .ret (vB fun _=>a5i (r ()),fun _=>0)⟩
noncomputable def a8C:Sx.Spec:=⟨false,true,[.map,.row .rcd],[],fun _ _ ⟨m,r,_⟩ => .ret (vB fun _=>H4 (m ()) (r ()),fun _=>0)⟩
noncomputable def a8G:Sx.Spec:=⟨false,true,[.row .cll,.ord],[],fun _ _ ⟨c,o,_⟩ => .ret (vB fun _=>O6 (c ()) (o ()),fun _=>0)⟩
theorem d0O:b8 Tryz.prog 213 c3T:=j4 e9 (ss := [(74,a2B),(102,b0h),(57,sIn)]) ⟨b0m,b1E,okIn,trivial⟩ rfl rfl<|by
 intro(bs:Th (List Int)) (p:Th Int) ⟨(r:Th Sx.Rec),u⟩ K _ _ ho h
 obtain⟨r,rfl⟩:=b6 r
 refine⟨noAnn,noAnn,20,?_⟩
 cbv
 repeat' first|((with_reducible intro _);cbv)|(with_reducible refine And.intro ?_ ?_)
 all_goals first|(refine retK h ?_;clear h;simp only[fin0])|(with_reducible refine Ob.mk ?_;clear h)|(clear h)
 all_goals(try simp only[eta0,RT.bytes]at *)
 all_goals have hrf := @Q2 r
 all_goals grind[inR]
theorem c4B:b8 Tryz.prog 166 a8C:=j4 e9 (ss := [(54,z7),(213,c3T),(124,a4n)]) ⟨K9,d0O,b6v,trivial⟩ rfl rfl<|by
 intro(bs:Th (List Int)) (p:Th Int) ⟨(m:Th PMap),(r:Th Sx.Rec),u⟩ K _ _ ho h
 obtain⟨m,rfl⟩:=b6 m;obtain⟨r,rfl⟩:=b6 r
 refine⟨noAnn,noAnn,20,?_⟩
 cbv
 repeat' first|((with_reducible intro _);cbv)|(with_reducible refine And.intro ?_ ?_)
 all_goals first|(refine retK h ?_;clear h;simp only[fin0])|(with_reducible refine Ob.mk ?_;clear h)|(clear h)
 all_goals(try simp only[eta0,RT.bytes]at *)
 all_goals grind[H4]
theorem b9f:b8 Tryz.prog 228 a8C:=j4 e9 (ss := [(85,z7),(198,a2B),(148,sIn),(208,a4n)]) ⟨C7,a7x,I5,b1x,trivial⟩ rfl rfl<|by
 intro(bs:Th (List Int)) (p:Th Int) ⟨(m:Th PMap),(r:Th Sx.Rec),u⟩ K _ _ ho h
 obtain⟨m,rfl⟩:=b6 m;obtain⟨r,rfl⟩:=b6 r
 have hpp := @c6C m r.pcl
 refine⟨noAnn,noAnn,20,?_⟩
 cbv
 repeat' first|((with_reducible intro _);cbv)|(with_reducible refine And.intro ?_ ?_)
 all_goals first|(refine retK h ?_;clear h;simp only[fin0])|(with_reducible refine Ob.mk ?_;clear h)|(clear h)
 all_goals(try simp only[eta0,RT.bytes]at *)
 all_goals have hrf := @Q2 r
 all_goals grind[inR,H4]
theorem b6C:b8 Tryz.prog 214 a8G:=j4 e9 (ss := [(247,a0M)]) ⟨b4p,trivial⟩ rfl rfl<|by
 intro(bs:Th (List Int)) (p:Th Int) ⟨(c:Th Cll),(o:Th Sx.Ord),u⟩ K _ _ ho h
 obtain⟨c,rfl⟩:=b6 c;obtain⟨o,rfl⟩:=b6 o
 refine⟨noAnn,noAnn,20,?_⟩
 cbv
 repeat' first|((with_reducible intro _);cbv)|(with_reducible refine And.intro ?_ ?_)
 all_goals first|(refine retK h ?_;clear h;simp only[fin0])|(with_reducible refine Ob.mk ?_;clear h)|(clear h)
 all_goals(try simp only[eta0,RT.bytes]at *)
 all_goals grind[O6]
theorem c7g:b8 Tryz.prog 229 a8G:=j4 e9 (ss := [(256,a0M)]) ⟨a3D,trivial⟩ rfl rfl<|by
 intro(bs:Th (List Int)) (p:Th Int) ⟨(c:Th Cll),(o:Th Sx.Ord),u⟩ K _ _ ho h
 obtain⟨c,rfl⟩:=b6 c;obtain⟨o,rfl⟩:=b6 o
 refine⟨noAnn,noAnn,20,?_⟩
 cbv
 repeat' first|((with_reducible intro _);cbv)|(with_reducible refine And.intro ?_ ?_)
 all_goals first|(refine retK h ?_;clear h;simp only[fin0])|(with_reducible refine Ob.mk ?_;clear h)|(clear h)
 all_goals(try simp only[eta0,RT.bytes]at *)
 all_goals grind[O6]
noncomputable def d5x:Sx.Spec:=⟨false,true,[.map,.row .cll,.int .i64,.row .pcl],[nCll,[none]],fun _ _ ⟨m,c,s,p,_⟩ => .asrt (fun _=>s6 (m ()) (c ())=true∧I8 (m ()) (p ())=true∧0≤s ()∧s ()<2) (.ret (.tup [oCll fun _=>(y6 (m ()) (c ()) (s ()).toNat (p ())).c,vB fun _=>(y6 (m ()) (c ()) (s ()).toNat (p ())).ok],fun _=>0))⟩
noncomputable def c9J:Sx.Spec:=⟨false,true,[.row .cll,.int .i64,.int .i64],[nCll,[none]],fun _ _ ⟨c,s,n,_⟩ => .asrt (fun _=>0≤s ()∧s ()<2∧(c ()).outs.length=2∧(c ()).next.length=2∧0≤nth .int (c ()).next (s ()).toNat∧nth .int (c ()).next (s ()).toNat≤5000) (.ret (.tup [oCll fun _=>(G9 (c ()) (s ()).toNat (n ())).c,vB fun _=>(G9 (c ()) (s ()).toNat (n ())).ok],fun _=>0))⟩
noncomputable def a6Y:Sx.Spec:=⟨false,true,[.map,.row .cll,.row .rcd],[nCll,[none],[none]],fun _ _ ⟨m,c,r,_⟩ => .asrt (fun _=>s6 (m ()) (c ())=true) (.ret (.tup [oCll fun _=>(O7 (m ()) (c ()) (r ())).c,vI fun _=>(O7 (m ()) (c ()) (r ())).code,vB fun _=>(O7 (m ()) (c ()) (r ())).ok],fun _=>0))⟩
noncomputable def a8D:Sx.Spec:=⟨false,true,[.map,.row .cll,.row .rcd],[nCll,[none],[none]],fun _ _ ⟨m,c,r,_⟩ => .ret (.tup [oCll fun _=>(F5 (m ()) (c ()) (r ())).c,vI fun _=>(F5 (m ()) (c ()) (r ())).code,vB fun _=>(F5 (m ()) (c ()) (r ())).ok],fun _=>0)⟩
theorem d6v:b8 Tryz.prog 231 d5x:=j4 e9 (ss := [(181,R0),(256,a0M),(95,a0D),(189,D6)]) ⟨a0R,a3D,a3a,K8,trivial⟩ rfl rfl<|by
 intro(bs:Th (List Int)) (p:Th Int) ⟨(m:Th PMap),(c:Th Cll),(s:Th Int),(p:Th Pcl),u⟩ K _ _ ho h
 obtain⟨m,rfl⟩:=b6 m;obtain⟨c,rfl⟩:=b6 c;obtain⟨s,rfl⟩:=b6 s;obtain⟨p,rfl⟩:=b6 p
 obtain⟨hpre,h⟩:=h
 have hpre:s6 m c=true∧I8 m p=true∧0≤s∧s<2:=hpre.out
 refine⟨noAnn,noAnn,20,?_⟩
 have hf:=n5 hpre.1
 have hlen:=Q3 hpre.1
 have hsd:=D3 hpre.1 (s:=s.toNat) (by have:=hpre.2.2;omega)
 have hpc:0≤p.n∧p.n≤4999∧(p.kind=1∧p.j9=0∨p.kind=2∧1≤p.j9∧p.j9≤9):=by
  have:=hpre.2.1
  simp[I8]at this
  omega
 cbv
 repeat' first|((with_reducible intro _);cbv)|(with_reducible refine And.intro ?_ ?_)
 all_goals first|(refine retK h ?_;clear h;simp only[fin0])|(with_reducible refine Ob.mk ?_;clear h)|(clear h)
 all_goals(try simp only[eta0,RT.bytes]at *)
 all_goals grind[y6,E7,e8,b6W,B3]
theorem d4j:b8 Tryz.prog 232 c9J:=j4 e9 (ss := [(181,R0),(120,a0N)]) ⟨a0R,b1y,trivial⟩ rfl rfl<|by
 intro(bs:Th (List Int)) (p:Th Int) ⟨(c:Th Cll),(s:Th Int),(n:Th Int),u⟩ K _ _ ho h
 obtain⟨c,rfl⟩:=b6 c;obtain⟨s,rfl⟩:=b6 s;obtain⟨n,rfl⟩:=b6 n
 obtain⟨hpre,h⟩:=h
 have hpre:0≤s∧s<2∧c.outs.length=2∧c.next.length=2∧0≤nth .int c.next s.toNat∧nth .int c.next s.toNat≤5000:=hpre.out
 refine⟨noAnn,noAnn,20,?_⟩
 obtain⟨hw,hou,hoi,hn,hi,_,_⟩:=a9J ho.1
 have hoi:=hoi s.toNat (by omega)
 cbv
 repeat' first|((with_reducible intro _);cbv)|(with_reducible refine And.intro ?_ ?_)
 all_goals first|(refine retK h ?_;clear h;simp only[fin0])|(with_reducible refine Ob.mk ?_;clear h)|(clear h)
 all_goals(try simp only[eta0,RT.bytes]at *)
 all_goals grind[G9,R3,e8,B3]
theorem a8O:b8 Tryz.prog 182 a6Y:=j4 e9 (ss := [(228,a8C),(119,G5),(181,R0),(229,a8G),(230,d5y),(231,d5x),(232,c9J)]) ⟨b9f,W5,a0R,c7g,d6w,d6v,d4j,trivial⟩ rfl rfl<|by
 intro(bs:Th (List Int)) (p:Th Int) ⟨(m:Th PMap),(c:Th Cll),(r:Th Sx.Rec),u⟩ K _ _ ho h
 obtain⟨m,rfl⟩:=b6 m;obtain⟨c,rfl⟩:=b6 c;obtain⟨r,rfl⟩:=b6 r
 obtain⟨hpre,h⟩:=h
 have hpre:=hpre.out
 refine⟨noAnn,noAnn,20,?_⟩
 have hf:=n5 hpre
 have hps := @K5 m c.cell r.side
 have hrf := @Q2 r
 have hsd := @D3 m c hpre
 cbv
 repeat' first|((with_reducible intro _);cbv)|(with_reducible refine And.intro ?_ ?_)
 all_goals first|(refine retK h ?_;clear h;simp only[fin0])|(with_reducible refine Ob.mk ?_;clear h)|(clear h)
 all_goals(try simp only[eta0,RT.bytes]at *)
 all_goals have hrn := @c4f m c r.side.toNat r.pcl
 all_goals have hln := @c9U c r.side.toNat r.n
 all_goals grind[O7,l7,H4]
theorem a9H:b8 Tryz.prog 283 a8D:=j4 e9 (ss := [(180,a1D),(228,a8C),(182,a6Y)]) ⟨a1J,b9f,a8O,trivial⟩ rfl rfl<|by
 intro(bs:Th (List Int)) (p:Th Int) ⟨(m:Th PMap),(c:Th Cll),(r:Th Sx.Rec),u⟩ K _ _ ho h
 obtain⟨m,rfl⟩:=b6 m;obtain⟨c,rfl⟩:=b6 c;obtain⟨r,rfl⟩:=b6 r
 refine⟨noAnn,noAnn,20,?_⟩
 cbv
 repeat' first|((with_reducible intro _);cbv)|(with_reducible refine And.intro ?_ ?_)
 all_goals first|(refine retK h ?_;clear h;simp only[fin0])|(with_reducible refine Ob.mk ?_;clear h)|(clear h)
 all_goals(try simp only[eta0,RT.bytes]at *)
 all_goals grind[F5,O7,U4]
noncomputable def a4o:Sx.Spec:=⟨false,true,[.map,.row .cll,.list .rcd],[nCll,[none]],fun _ _ ⟨m,c,l,_⟩ => .ret (.tup [oCll fun _=>(V6 (m ()) (c ()) (l ())).c,vI fun _=>(V6 (m ()) (c ()) (l ())).n],fun _=>0)⟩
theorem c3a {m:PMap} {c:Cll} {l:List Sx.Rec} {k:Nat}:(O7 m (v8 m c l k) (nth .rcd l k)).ok=P2 m c l k:=by
 unfold O7 P2
 split<;>simp_all
theorem c0F {m:PMap} {c:Cll} {l:List Sx.Rec} {k:Nat} (h:(O7 m (v8 m c l k) (nth .rcd l k)).ok=true):(O7 m (v8 m c l k) (nth .rcd l k)).c=v8 m c l (k+1):=by
 unfold O7 at *
 split
 ·rw[P1]
 ·rename_i hh
  rw[if_neg hh]at h
  cases h
theorem c2k {m:PMap} {c:Cll} {l:List Sx.Rec} {k:Nat} (h:s6 m c=true) (hl:l.length≤250) (hk:k<l.length) (ha:m8 k (P2 m c l)=true) (hf:P2 m c l k=false):V6 m c l=⟨v8 m c l k,k⟩:=by
 rw[V6,if_pos ⟨h,hl⟩,a3k,c0m hk ha hf]
theorem b9D {m:PMap} {c:Cll} {l:List Sx.Rec} {k:Nat} (h:s6 m c=true) (hl:l.length≤250) (hk:k=l.length) (ha:m8 k (P2 m c l)=true):V6 m c l=⟨v8 m c l k,k⟩:=by
 rw[V6,if_pos ⟨h,hl⟩,a3k,a9f hk ha]
theorem b9C {m:PMap} {c:Cll} {l:List Sx.Rec} (h:s6 m c=false∨250<l.length):V6 m c l=⟨U4,0⟩:=by
 rw[V6,if_neg]
 rintro⟨h1,h2⟩
 rcases h with h|h
 ·rw[h]at h1
  cases h1
 ·omega
end Go.Proofs.YtihaeoicjglieaaGreat
