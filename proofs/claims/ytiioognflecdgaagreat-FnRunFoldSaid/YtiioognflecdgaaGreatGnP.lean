/-
  Contract: a record applied to the cell that a pointer shows.
-/
import Derived.Test.YtiioognflecdgaaGreatInsH
import Derived.Test.YtiioognflecdgaaGreatFoE
set_option linter.unusedVariables false
set_option linter.unusedSimpArgs false
set_option maxRecDepth 100000
set_option maxHeartbeats 16000000
namespace Go.Proofs.YtiioognflecdgaaGreat
open Go.Sx Go.Proofs Go.Mo
noncomputable def c1k:Sx.Io:=⟨.row .cll,true,[.map,.row .rcd],[],fun c ⟨m,r,_⟩ => .asrt (fun _=>p9 (m ()) (c ())=true∧E9 (m ()) (r ())=true) (.ret (.tup [vI fun _=>(j8 (m ()) (c ()) (r ())).code,vB fun _=>(j8 (m ()) (c ()) (r ())).ok],fun _=>(j8 (m ()) (c ()) (r ())).c))⟩
theorem c7r:b6 Tryz.prog 171 (ioX c1k):=io1 b9 (ss := [(199,a7f),(225,a9m),(122,a4a),(125,C8),(228,a1e),(126,R8),(85,F9),(230,Y9),(231,a1P)]) ⟨b4w,a8I,a3C,Y1,a6e,a1W,U5,a9W,a7o,trivial⟩ rfl rfl<|by
 intro(x:Th Cll) ⟨(m:Th PMap),(r:Th Sx.Rec),u⟩ K _ ho h
 obtain⟨x,rfl⟩:=a8 x;obtain⟨m,rfl⟩:=a8 m;obtain⟨r,rfl⟩:=a8 r
 obtain⟨ha,h⟩:=h
 have ha:=ha.out
 have hck:p9 m x=true:=ha.1
 have hlo:E9 m r=true:=ha.2
 clear ha
 refine⟨noAnn,noAnn,20,?_⟩
 cbv
 repeat' first|((with_reducible intro _);cbv)|(with_reducible refine And.intro ?_ ?_)
 all_goals first|refine ioK h ?_ ?_|(with_reducible refine Ob.mk ?_;clear h)|(clear h)
 all_goals(try clear h)
 all_goals(try clear K)
 all_goals(try simp only[fin0])
 all_goals(try simp only[eta0,RT.bytes]at *)
 all_goals(try have hlt:=L0 (l:=x.wlks) (id:=r.ord.who) (by assumption))
 all_goals(try simp only[B4,m6 .wlk hlt,List.set_set,List.length_set,a4g]at *)
 all_goals(try simp only[B4]at *)
 all_goals(try have hf := @o7 m x hck)
 all_goals(try have hwk := @L7 m x hck)
 all_goals(try have hsd := @C6 m x hck)
 all_goals(try have hlen:=Q6 hck)
 all_goals(try have hps := @H9 m x.cell r.side)
 all_goals(try have hdo:=b0r (m:=m) (r:=r) hlo (by assumption))
 all_goals(try have hoi:=N4.1 hdo)
 all_goals(try have hpd:=O6 x.wlks r.ord.dest)
 all_goals(try have hwr:=a6V (m:=m) (c:=x) (o:=r.ord) hck hlt hdo (by assumption))
 all_goals(try simp only[hwr]at *)
 all_goals(try have hld:=L0 (l:=x.wlks) (id:=r.ord.dest) (by assumption))
 all_goals(try have hne:=a3v (l:=x.wlks) (a:=r.ord.who) (b:=r.ord.dest) (by assumption) (by assumption) (a6b hdo (by assumption)))
 all_goals(try simp only[a5B hne,q9 .wlk hne,q9 .wlk hne.symm,m6 .wlk hlt,m6 .wlk hld]at *)
 all_goals(try have hin:=b0q (m:=m) (r:=r) hlo (by assumption))
 all_goals(try have hpi:=Q2.1 hin)
 all_goals(try have hwg:=c8g (c:=x) (p:=r.pcl) hck hin)
 all_goals(try simp only[hwg]at *)
 all_goals(try have hfr := @a1t x r.ord (by assumption))
 all_goals(try have hlf:=fun(h2:r.side.toNat<2) h0=>T8 (m:=m) (hsd (s:=r.side.toNat) h2).2.2.2 h0)
 all_goals first|grind[Z5,Q7,j8,y7,H0,J4,Q1,K3,R4,a0i,a0k,a0l,a0j,S7,F8,H6,H7,b8,O6,L0,T8]|grind(splits:=30) [Z5,Q7,j8,y7,H0,J4,Q1,K3,R4,a0i,a0k,a0l,a0j,S7,F8,H6,H7,b8,O6,L0,T8]
end Go.Proofs.YtiioognflecdgaaGreat
