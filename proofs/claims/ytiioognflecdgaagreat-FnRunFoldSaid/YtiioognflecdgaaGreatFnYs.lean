/-
  Contracts: records.
-/
import Derived.Test.YtiioognflecdgaaGreatInsW
import Derived.Test.YtiioognflecdgaaGreatM1
import Derived.Test.YtiioognflecdgaaGreatFnJ
import Derived.Test.YtiioognflecdgaaGreatFnFb
import Derived.Test.YtiioognflecdgaaGreatGnJ
import Derived.Test.YtiioognflecdgaaGreatM2
set_option linter.unusedVariables false
set_option linter.unusedSimpArgs false
set_option maxRecDepth 100000
set_option maxHeartbeats 16000000
namespace Go.Proofs.YtiioognflecdgaaGreat
open Go.Sx Go.Proofs Go.Mo
noncomputable def c1e:Sx.Spec:=⟨false,true,[.row .rcd],[],fun _ _ ⟨r,_⟩ => .ret (vB fun _=>a4c (r ()),fun _=>0)⟩
noncomputable def a7c:Sx.Spec:=⟨false,true,[.map,.row .rcd],[],fun _ _ ⟨m,r,_⟩ => .ret (vB fun _=>E9 (m ()) (r ()),fun _=>0)⟩
noncomputable def a7f:Sx.Spec:=⟨false,true,[.row .cll,.ord],[],fun _ _ ⟨c,o,_⟩ => .ret (vB fun _=>L8 (c ()) (o ()),fun _=>0)⟩
theorem c7l:b6 Tryz.prog 198 c1e:=j3 b9 (ss := [(81,a1z),(120,a8E),(38,sIn)]) ⟨a8J,b0f,okIn,trivial⟩ rfl rfl<|by
 intro(bs:Th (List Int)) (p:Th Int) ⟨(r:Th Sx.Rec),u⟩ K _ _ ho h
 obtain⟨r,rfl⟩:=a8 r
 refine⟨noAnn,noAnn,20,?_⟩
 cbv
 repeat' first|((with_reducible intro _);cbv)|(with_reducible refine And.intro ?_ ?_)
 all_goals first|(refine retK h ?_;clear h;simp only[fin0])|(with_reducible refine Ob.mk ?_;clear h)|(clear h)
 all_goals(try simp only[eta0,RT.bytes]at *)
 all_goals have hrf := @N3 r
 all_goals grind[inR]
theorem c1E:b6 Tryz.prog 170 a7c:=j3 b9 (ss := [(55,A9),(198,c1e),(86,a3p)]) ⟨S6,c7l,b4s,trivial⟩ rfl rfl<|by
 intro(bs:Th (List Int)) (p:Th Int) ⟨(m:Th PMap),(r:Th Sx.Rec),u⟩ K _ _ ho h
 obtain⟨m,rfl⟩:=a8 m;obtain⟨r,rfl⟩:=a8 r
 refine⟨noAnn,noAnn,20,?_⟩
 cbv
 repeat' first|((with_reducible intro _);cbv)|(with_reducible refine And.intro ?_ ?_)
 all_goals first|(refine retK h ?_;clear h;simp only[fin0])|(with_reducible refine Ob.mk ?_;clear h)|(clear h)
 all_goals(try simp only[eta0,RT.bytes]at *)
 all_goals grind[E9]
theorem b6N:b6 Tryz.prog 215 a7c:=j3 b9 (ss := [(48,A9),(148,a1z),(97,sIn),(153,a3p)]) ⟨C9,a6g,G7,a9Z,trivial⟩ rfl rfl<|by
 intro(bs:Th (List Int)) (p:Th Int) ⟨(m:Th PMap),(r:Th Sx.Rec),u⟩ K _ _ ho h
 obtain⟨m,rfl⟩:=a8 m;obtain⟨r,rfl⟩:=a8 r
 have hpp := @c3x m r.pcl
 refine⟨noAnn,noAnn,20,?_⟩
 cbv
 repeat' first|((with_reducible intro _);cbv)|(with_reducible refine And.intro ?_ ?_)
 all_goals first|(refine retK h ?_;clear h;simp only[fin0])|(with_reducible refine Ob.mk ?_;clear h)|(clear h)
 all_goals(try simp only[eta0,RT.bytes]at *)
 all_goals have hrf := @N3 r
 all_goals grind[inR,E9]
theorem b4w:b6 Tryz.prog 199 a7f:=j3 b9 (ss := [(194,Z6)]) ⟨b2y,trivial⟩ rfl rfl<|by
 intro(bs:Th (List Int)) (p:Th Int) ⟨(c:Th Cll),(o:Th Sx.Ord),u⟩ K _ _ ho h
 obtain⟨c,rfl⟩:=a8 c;obtain⟨o,rfl⟩:=a8 o
 refine⟨noAnn,noAnn,20,?_⟩
 cbv
 repeat' first|((with_reducible intro _);cbv)|(with_reducible refine And.intro ?_ ?_)
 all_goals first|(refine retK h ?_;clear h;simp only[fin0])|(with_reducible refine Ob.mk ?_;clear h)|(clear h)
 all_goals(try simp only[eta0,RT.bytes]at *)
 all_goals grind[L8]
theorem c3W:b6 Tryz.prog 216 a7f:=j3 b9 (ss := [(236,Z6)]) ⟨a2D,trivial⟩ rfl rfl<|by
 intro(bs:Th (List Int)) (p:Th Int) ⟨(c:Th Cll),(o:Th Sx.Ord),u⟩ K _ _ ho h
 obtain⟨c,rfl⟩:=a8 c;obtain⟨o,rfl⟩:=a8 o
 refine⟨noAnn,noAnn,20,?_⟩
 cbv
 repeat' first|((with_reducible intro _);cbv)|(with_reducible refine And.intro ?_ ?_)
 all_goals first|(refine retK h ?_;clear h;simp only[fin0])|(with_reducible refine Ob.mk ?_;clear h)|(clear h)
 all_goals(try simp only[eta0,RT.bytes]at *)
 all_goals grind[L8]
noncomputable def d1D:Sx.Spec:=⟨false,true,[.map,.row .cll,.int .i64,.row .pcl],[nCll,[none]],fun _ _ ⟨m,c,s,p,_⟩ => .asrt (fun _=>p9 (m ()) (c ())=true∧K0 (m ()) (p ())=true∧0≤s ()∧s ()<2) (.ret (.tup [oCll fun _=>(y7 (m ()) (c ()) (s ()).toNat (p ())).c,vB fun _=>(y7 (m ()) (c ()) (s ()).toNat (p ())).ok],fun _=>0))⟩
noncomputable def c6k:Sx.Spec:=⟨false,true,[.row .cll,.int .i64,.int .i64],[nCll,[none]],fun _ _ ⟨c,s,n,_⟩ => .asrt (fun _=>0≤s ()∧s ()<2∧(c ()).outs.length=2∧(c ()).next.length=2∧0≤nth .int (c ()).next (s ()).toNat∧nth .int (c ()).next (s ()).toNat≤5000) (.ret (.tup [oCll fun _=>(H0 (c ()) (s ()).toNat (n ())).c,vB fun _=>(H0 (c ()) (s ()).toNat (n ())).ok],fun _=>0))⟩
noncomputable def a5J:Sx.Spec:=⟨false,true,[.map,.row .cll,.row .rcd],[nCll,[none],[none]],fun _ _ ⟨m,c,r,_⟩ => .asrt (fun _=>p9 (m ()) (c ())=true) (.ret (.tup [oCll fun _=>(L9 (m ()) (c ()) (r ())).c,vI fun _=>(L9 (m ()) (c ()) (r ())).code,vB fun _=>(L9 (m ()) (c ()) (r ())).ok],fun _=>0))⟩
noncomputable def a7d:Sx.Spec:=⟨false,true,[.map,.row .cll,.row .rcd],[nCll,[none],[none]],fun _ _ ⟨m,c,r,_⟩ => .ret (.tup [oCll fun _=>(D9 (m ()) (c ()) (r ())).c,vI fun _=>(D9 (m ()) (c ()) (r ())).code,vB fun _=>(D9 (m ()) (c ()) (r ())).ok],fun _=>0)⟩
theorem d2F:b6 Tryz.prog 218 d1D:=j3 b9 (ss := [(167,N7),(236,Z6),(56,Y9),(156,C8)]) ⟨Z9,a2D,a1U,I0,trivial⟩ rfl rfl<|by
 intro(bs:Th (List Int)) (p:Th Int) ⟨(m:Th PMap),(c:Th Cll),(s:Th Int),(p:Th Pcl),u⟩ K _ _ ho h
 obtain⟨m,rfl⟩:=a8 m;obtain⟨c,rfl⟩:=a8 c;obtain⟨s,rfl⟩:=a8 s;obtain⟨p,rfl⟩:=a8 p
 obtain⟨hpre,h⟩:=h
 have hpre:p9 m c=true∧K0 m p=true∧0≤s∧s<2:=hpre.out
 refine⟨noAnn,noAnn,20,?_⟩
 have hf:=o7 hpre.1
 have hlen:=Q6 hpre.1
 have hsd:=C6 hpre.1 (s:=s.toNat) (by have:=hpre.2.2;omega)
 have hpc:0≤p.n∧p.n≤4999∧(p.kind=1∧p.n0=0∨p.kind=2∧1≤p.n0∧p.n0≤9):=by
  have:=hpre.2.1
  simp[K0]at this
  omega
 cbv
 repeat' first|((with_reducible intro _);cbv)|(with_reducible refine And.intro ?_ ?_)
 all_goals first|(refine retK h ?_;clear h;simp only[fin0])|(with_reducible refine Ob.mk ?_;clear h)|(clear h)
 all_goals(try simp only[eta0,RT.bytes]at *)
 all_goals grind[y7,J4,b8,b4P,B4]
theorem d0s:b6 Tryz.prog 219 c6k:=j3 b9 (ss := [(167,N7),(241,a1P)]) ⟨Z9,b9j,trivial⟩ rfl rfl<|by
 intro(bs:Th (List Int)) (p:Th Int) ⟨(c:Th Cll),(s:Th Int),(n:Th Int),u⟩ K _ _ ho h
 obtain⟨c,rfl⟩:=a8 c;obtain⟨s,rfl⟩:=a8 s;obtain⟨n,rfl⟩:=a8 n
 obtain⟨hpre,h⟩:=h
 have hpre:0≤s∧s<2∧c.outs.length=2∧c.next.length=2∧0≤nth .int c.next s.toNat∧nth .int c.next s.toNat≤5000:=hpre.out
 refine⟨noAnn,noAnn,20,?_⟩
 obtain⟨hw,hou,hoi,hn,hi,_,_⟩:=a8e ho.1
 have hoi:=hoi s.toNat (by omega)
 cbv
 repeat' first|((with_reducible intro _);cbv)|(with_reducible refine And.intro ?_ ?_)
 all_goals first|(refine retK h ?_;clear h;simp only[fin0])|(with_reducible refine Ob.mk ?_;clear h)|(clear h)
 all_goals(try simp only[eta0,RT.bytes]at *)
 all_goals grind[H0,Q1,b8,B4]
theorem a7p:b6 Tryz.prog 186 a5J:=j3 b9 (ss := [(215,a7c),(151,F9),(167,N7),(216,a7f),(217,d1E),(218,d1D),(219,c6k)]) ⟨b6N,Y0,Z9,c3W,d2G,d2F,d0s,trivial⟩ rfl rfl<|by
 intro(bs:Th (List Int)) (p:Th Int) ⟨(m:Th PMap),(c:Th Cll),(r:Th Sx.Rec),u⟩ K _ _ ho h
 obtain⟨m,rfl⟩:=a8 m;obtain⟨c,rfl⟩:=a8 c;obtain⟨r,rfl⟩:=a8 r
 obtain⟨hpre,h⟩:=h
 have hpre:=hpre.out
 refine⟨noAnn,noAnn,20,?_⟩
 have hf:=o7 hpre
 have hps := @H9 m c.cell r.side
 have hrf := @N3 r
 have hsd := @C6 m c hpre
 cbv
 repeat' first|((with_reducible intro _);cbv)|(with_reducible refine And.intro ?_ ?_)
 all_goals first|(refine retK h ?_;clear h;simp only[fin0])|(with_reducible refine Ob.mk ?_;clear h)|(clear h)
 all_goals(try simp only[eta0,RT.bytes]at *)
 all_goals have hrn := @c1q m c r.side.toNat r.pcl
 all_goals have hln := @c6y c r.side.toNat r.n
 all_goals grind[L9,j8,E9]
theorem a8c:b6 Tryz.prog 252 a7d:=j3 b9 (ss := [(146,a0J),(215,a7c),(186,a5J)]) ⟨a0N,b6N,a7p,trivial⟩ rfl rfl<|by
 intro(bs:Th (List Int)) (p:Th Int) ⟨(m:Th PMap),(c:Th Cll),(r:Th Sx.Rec),u⟩ K _ _ ho h
 obtain⟨m,rfl⟩:=a8 m;obtain⟨c,rfl⟩:=a8 c;obtain⟨r,rfl⟩:=a8 r
 refine⟨noAnn,noAnn,20,?_⟩
 cbv
 repeat' first|((with_reducible intro _);cbv)|(with_reducible refine And.intro ?_ ?_)
 all_goals first|(refine retK h ?_;clear h;simp only[fin0])|(with_reducible refine Ob.mk ?_;clear h)|(clear h)
 all_goals(try simp only[eta0,RT.bytes]at *)
 all_goals grind[D9,L9,Q7]
noncomputable def a5I:Sx.Spec:=⟨false,true,[.map,.row .cll,.list .rcd],[nCll,[none]],fun _ _ ⟨m,c,l,_⟩ => .ret (.tup [oCll fun _=>(V9 (m ()) (c ()) (l ())).c,vI fun _=>(V9 (m ()) (c ()) (l ())).n],fun _=>0)⟩
theorem c0u {m:PMap} {c:Cll} {l:List Sx.Rec} {k:Nat}:(L9 m (s9 m c l k) (nth .rcd l k)).ok=M4 m c l k:=by
 unfold L9 M4
 split<;>simp_all
theorem b8j {m:PMap} {c:Cll} {l:List Sx.Rec} {k:Nat} (h:(L9 m (s9 m c l k) (nth .rcd l k)).ok=true):(L9 m (s9 m c l k) (nth .rcd l k)).c=s9 m c l (k+1):=by
 unfold L9 at *
 split
 ·rw[P7]
 ·rename_i hh
  rw[if_neg hh]at h
  cases h
theorem b9C {m:PMap} {c:Cll} {l:List Sx.Rec} {k:Nat} (h:p9 m c=true) (hl:l.length≤250) (hk:k<l.length) (ha:l9 k (M4 m c l)=true) (hf:M4 m c l k=false):V9 m c l=⟨s9 m c l k,k⟩:=by
 rw[V9,if_pos ⟨h,hl⟩,a2g,b7U hk ha hf]
theorem b7k {m:PMap} {c:Cll} {l:List Sx.Rec} {k:Nat} (h:p9 m c=true) (hl:l.length≤250) (hk:k=l.length) (ha:l9 k (M4 m c l)=true):V9 m c l=⟨s9 m c l k,k⟩:=by
 rw[V9,if_pos ⟨h,hl⟩,a2g,a7G hk ha]
theorem b7j {m:PMap} {c:Cll} {l:List Sx.Rec} (h:p9 m c=false∨250<l.length):V9 m c l=⟨Q7,0⟩:=by
 rw[V9,if_neg]
 rintro⟨h1,h2⟩
 rcases h with h|h
 ·rw[h]at h1
  cases h1
 ·omega
end Go.Proofs.YtiioognflecdgaaGreat
