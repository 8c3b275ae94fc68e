/-
  Contract: a record written at the end of the store that a pointer shows.
-/
import Derived.Test.YtihaeoicjglieaaGreatGnF
import Derived.Test.YtihaeoicjglieaaGreatFoE
set_option linter.unusedVariables false
set_option linter.unusedSimpArgs false
set_option maxRecDepth 100000
set_option maxHeartbeats 16000000
namespace Go.Proofs.YtihaeoicjglieaaGreat
open Go.Sx Go.Proofs Go.Mo
noncomputable def d5C:Sx.Io:=⟨.row .sto,true,[.map,.int .i64,.int .i64,.row .rcd],[],fun s ⟨m,a,b,r,_⟩ => .asrt (fun _=>B1 (m ()) (s ())=true) (.ret (vI fun _=>(A3 (m ()) (s ()) (a ()) (b ()) (r ())).n,fun _=>(A3 (m ()) (s ()) (a ()) (b ()) (r ())).s))⟩
theorem d6B:b8 Tryz.prog 273 (ioX d5C):=io1 e9 (ss := [(166,a8C),(47,c1s),(214,a8G),(132,b0S),(103,a5e),(128,D6),(134,a2c),(136,V0),(48,G5),(248,a0D),(49,a0N)]) ⟨c4B,c4x,b6C,b0l,a4D,a0n,a7u,a3b,U1,b1u,a5s,trivial⟩ rfl rfl<|by
 intro(s:Th Sto) ⟨(m:Th PMap),(a:Th Int),(b:Th Int),(r:Th Sx.Rec),u⟩ K _ ho h
 obtain⟨s,rfl⟩:=b6 s;obtain⟨m,rfl⟩:=b6 m;obtain⟨a,rfl⟩:=b6 a;obtain⟨b,rfl⟩:=b6 b;obtain⟨r,rfl⟩:=b6 r
 obtain⟨hs,h⟩:=h
 have hso:B1 m s=true:=hs.out
 refine⟨noAnn,noAnn,20,?_⟩
 cbv
 repeat' first|((with_reducible intro _);cbv)|(with_reducible refine And.intro ?_ ?_)
 all_goals first|refine ioK h ?_ ?_|(with_reducible refine Ob.mk ?_;clear h)|(clear h)
 all_goals(try clear h)
 all_goals(try clear K)
 all_goals(try simp only[fin0])
 all_goals(try simp only[eta0,RT.bytes]at *)
 all_goals(try have hck:=a1C hso)
 all_goals(try have hsl:=(y7.1 hso).2.2.1)
 all_goals(try have hap:=c3c (a:=a) (b:=b) (r:=r) hso)
 all_goals(try generalize hx:q9 m s=x at *)
 all_goals(try have hlo:=(by assumption:H4 m r=true))
 all_goals(try have hlt:=I7 (l:=x.wlks) (id:=r.ord.who) (by assumption))
 all_goals(try simp only[B3,l9 .wlk hlt,List.set_set,List.length_set,a5m]at *)
 all_goals(try simp only[B3]at *)
 all_goals(try have hf := @n5 m x hck)
 all_goals(try have hwk := @L7 m x hck)
 all_goals(try have hsd := @D3 m x hck)
 all_goals(try have hlen:=Q3 hck)
 all_goals(try have hps := @K5 m x.cell r.side)
 all_goals(try have hdo:=b1R (m:=m) (r:=r) hlo (by assumption))
 all_goals(try have hoi:=J9.1 hdo)
 all_goals(try have hpd:=S4 x.wlks r.ord.dest)
 all_goals(try have hwr:=a8v (m:=m) (c:=x) (o:=r.ord) hck hlt hdo (by assumption))
 all_goals(try simp only[hwr]at *)
 all_goals(try have hld:=I7 (l:=x.wlks) (id:=r.ord.dest) (by assumption))
 all_goals(try have hne:=a4w (l:=x.wlks) (a:=r.ord.who) (b:=r.ord.dest) (by assumption) (by assumption) (a1G hdo (by assumption)))
 all_goals(try simp only[a6Q hne,n6 .wlk hne,n6 .wlk hne.symm,l9 .wlk hlt,l9 .wlk hld]at *)
 all_goals(try have hin:=a7L (m:=m) (r:=r) hlo (by assumption))
 all_goals(try have hpi:=I2.1 hin)
 all_goals(try have hwg:=d1O (c:=x) (p:=r.pcl) hck hin)
 all_goals(try simp only[hwg]at *)
 all_goals(try have hfr := @X7 x r.ord (by assumption))
 all_goals(try have hlf:=fun(h2:r.side.toNat<2) h0=>W6 (m:=m) (hsd (s:=r.side.toNat) h2).2.2.2 h0)
 all_goals first|grind[a0K,U4,l7,y6,G9,E7,R3,J0,Q8,a0t,a0v,a0w,a0u,U3,I0,D5,H9,e8,S4,I7,W6]|grind(splits:=30) [a0K,U4,l7,y6,G9,E7,R3,J0,Q8,a0t,a0v,a0w,a0u,U3,I0,D5,H9,e8,S4,I7,W6]
end Go.Proofs.YtihaeoicjglieaaGreat
