/-
  Contract: a record written at the end of the store that a pointer shows.
-/
import Derived.Test.YtiioognflecdgaaGreatInsH
import Derived.Test.YtiioognflecdgaaGreatFoE
set_option linter.unusedVariables false
set_option linter.unusedSimpArgs false
set_option maxRecDepth 100000
set_option maxHeartbeats 16000000
namespace Go.Proofs.YtiioognflecdgaaGreat
open Go.Sx Go.Proofs Go.Mo
noncomputable def d1I:Sx.Io:=⟨.row .sto,true,[.map,.int .i64,.int .i64,.row .rcd],[],fun s ⟨m,a,b,r,_⟩ => .asrt (fun _=>A3 (m ()) (s ())=true) (.ret (vI fun _=>(y4 (m ()) (s ()) (a ()) (b ()) (r ())).n,fun _=>(y4 (m ()) (s ()) (a ()) (b ()) (r ())).s))⟩
theorem d2L:b6 Tryz.prog 226 (ioX d1I):=io1 b9 (ss := [(170,a7c),(220,b8F),(199,a7f),(225,a9m),(122,a4a),(125,C8),(228,a1e),(126,R8),(85,F9),(230,Y9),(231,a1P)]) ⟨c1E,c1C,b4w,a8I,a3C,Y1,a6e,a1W,U5,a9W,a7o,trivial⟩ rfl rfl<|by
 intro(s:Th Sto) ⟨(m:Th PMap),(a:Th Int),(b:Th Int),(r:Th Sx.Rec),u⟩ K _ ho h
 obtain⟨s,rfl⟩:=a8 s;obtain⟨m,rfl⟩:=a8 m;obtain⟨a,rfl⟩:=a8 a;obtain⟨b,rfl⟩:=a8 b;obtain⟨r,rfl⟩:=a8 r
 obtain⟨hs,h⟩:=h
 have hso:A3 m s=true:=hs.out
 refine⟨noAnn,noAnn,20,?_⟩
 cbv
 repeat' first|((with_reducible intro _);cbv)|(with_reducible refine And.intro ?_ ?_)
 all_goals first|refine ioK h ?_ ?_|(with_reducible refine Ob.mk ?_;clear h)|(clear h)
 all_goals(try clear h)
 all_goals(try clear K)
 all_goals(try simp only[fin0])
 all_goals(try simp only[eta0,RT.bytes]at *)
 all_goals(try have hck:=a1M hso)
 all_goals(try have hsl:=(v8.1 hso).2.2.1)
 all_goals(try have hap:=c0w (a:=a) (b:=b) (r:=r) hso)
 all_goals(try generalize hx:o6 m s=x at *)
 all_goals(try have hlo:=(by assumption:E9 m r=true))
 all_goals(try have hlt:=L0 (l:=x.wlks) (id:=r.ord.who) (by assumption))
 all_goals(try simp only[B4,m6 .wlk hlt,List.set_set,List.length_set,a4g]at *)
 all_goals(try simp only[B4]at *)
 all_goals(try have hf := @o7 m x hck)
 all_goals(try have hwk := @L7 m x hck)
 all_goals(try have hsd := @C6 m x hck)
 all_goals(try have hlen:=Q6 hck)
 all_goals(try have hps := @H9 m x.cell r.side)
 all_goals(try have hdo:=b0r (m:=m) (r:=r) hlo (by assumption))
 all_goals(try have hoi:=N4.1 hdo)
 all_goals(try have hpd:=O6 x.wlks r.ord.dest)
 all_goals(try have hwr:=a6V (m:=m) (c:=x) (o:=r.ord) hck hlt hdo (by assumption))
 all_goals(try simp only[hwr]at *)
 all_goals(try have hld:=L0 (l:=x.wlks) (id:=r.ord.dest) (by assumption))
 all_goals(try have hne:=a3v (l:=x.wlks) (a:=r.ord.who) (b:=r.ord.dest) (by assumption) (by assumption) (a6b hdo (by assumption)))
 all_goals(try simp only[a5B hne,q9 .wlk hne,q9 .wlk hne.symm,m6 .wlk hlt,m6 .wlk hld]at *)
 all_goals(try have hin:=b0q (m:=m) (r:=r) hlo (by assumption))
 all_goals(try have hpi:=Q2.1 hin)
 all_goals(try have hwg:=c8g (c:=x) (p:=r.pcl) hck hin)
 all_goals(try simp only[hwg]at *)
 all_goals(try have hfr := @a1t x r.ord (by assumption))
 all_goals(try have hlf:=fun(h2:r.side.toNat<2) h0=>T8 (m:=m) (hsd (s:=r.side.toNat) h2).2.2.2 h0)
 all_goals first|grind[Z5,Q7,j8,y7,H0,J4,Q1,K3,R4,a0i,a0k,a0l,a0j,S7,F8,H6,H7,b8,O6,L0,T8]|grind(splits:=30) [Z5,Q7,j8,y7,H0,J4,Q1,K3,R4,a0i,a0k,a0l,a0j,S7,F8,H6,H7,b8,O6,L0,T8]
end Go.Proofs.YtiioognflecdgaaGreat
