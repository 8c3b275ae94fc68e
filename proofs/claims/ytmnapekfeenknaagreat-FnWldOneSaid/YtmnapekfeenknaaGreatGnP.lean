/-
  Contract: a record applied to the cell that a pointer shows.
-/
import Derived.Test.YtmnapekfeenknaaGreatFy
import Derived.Test.YtmnapekfeenknaaGreatMy
import Derived.Test.YtmnapekfeenknaaGreatFnI
import Derived.Test.YtmnapekfeenknaaGreatFoE
set_option linter.unusedVariables false
set_option linter.unusedSimpArgs false
set_option maxRecDepth 100000
set_option maxHeartbeats 16000000
namespace Go.Proofs.YtmnapekfeenknaaGreat
open Go.Sx Go.Proofs Go.Mo
noncomputable def c4Z:Sx.Io:=⟨.row .cll,true,[.map,.row .rcd],[],fun c ⟨m,r,_⟩ => .asrt (fun _=>s5 (m ()) (c ())=true∧I4 (m ()) (r ())=true) (.ret (.tup [vI fun _=>(m0 (m ()) (c ()) (r ())).code,vB fun _=>(m0 (m ()) (c ()) (r ())).ok],fun _=>(m0 (m ()) (c ()) (r ())).c))⟩
theorem d2n:b9 Tryz.prog 180 (ioX c4Z):=io1 j3 (ss := [(208,a9u),(164,a9q),(121,a2y),(36,B6),(166,a1C),(168,O5),(68,E6),(243,a0X),(69,a1i)]) ⟨b7w,a8o,a2f,M7,a5l,a0Q,S9,b2m,a5Z,trivial⟩ rfl rfl<|by
 intro(x:Th Cll) ⟨(m:Th PMap),(r:Th Sx.Rec),u⟩ K _ ho h
 obtain⟨x,rfl⟩:=b6 x;obtain⟨m,rfl⟩:=b6 m;obtain⟨r,rfl⟩:=b6 r
 obtain⟨ha,h⟩:=h
 have ha:=ha.out
 have hck:s5 m x=true:=ha.1
 have hlo:I4 m r=true:=ha.2
 clear ha
 refine⟨noAnn,noAnn,20,?_⟩
 cbv
 repeat' first|((with_reducible intro _);cbv)|(with_reducible refine And.intro ?_ ?_)
 all_goals first|refine ioK h ?_ ?_|(with_reducible refine Ob.mk ?_;clear h)|(clear h)
 all_goals(try clear h)
 all_goals(try clear K)
 all_goals(try simp only[fin0])
 all_goals(try simp only[eta0,RT.bytes]at *)
 all_goals(try have hlt:=F6 (l:=x.wlks) (id:=r.ord.who) (by assumption))
 all_goals(try simp only[z8,j9 .wlk hlt,List.set_set,List.length_set,a3z]at *)
 all_goals(try simp only[z8]at *)
 all_goals(try have hf := @o7 m x hck)
 all_goals(try have hwk := @K9 m x hck)
 all_goals(try have hsd := @E1 m x hck)
 all_goals(try have hlen:=Z7 hck)
 all_goals(try have hps := @L7 m x.cell r.side)
 all_goals(try have hdo:=b2I (m:=m) (r:=r) hlo (by assumption))
 all_goals(try have hoi:=G6.1 hdo)
 all_goals(try have hpd:=Q0 x.wlks r.ord.dest)
 all_goals(try have hwr:=a5O (m:=m) (c:=x) (o:=r.ord) hck hlt hdo (by assumption))
 all_goals(try simp only[hwr]at *)
 all_goals(try have hld:=F6 (l:=x.wlks) (id:=r.ord.dest) (by assumption))
 all_goals(try have hne:=a3A (l:=x.wlks) (a:=r.ord.who) (b:=r.ord.dest) (by assumption) (by assumption) (a0l hdo (by assumption)))
 all_goals(try simp only[a2a hne,m5 .wlk hne,m5 .wlk hne.symm,j9 .wlk hlt,j9 .wlk hld]at *)
 all_goals(try have hin:=a8B (m:=m) (r:=r) hlo (by assumption))
 all_goals(try have hpi:=J1.1 hin)
 all_goals(try have hwg:=d3l (c:=x) (p:=r.pcl) hck hin)
 all_goals(try simp only[hwg]at *)
 all_goals(try have hfr := @Z6 x r.ord (by assumption))
 all_goals(try have hlf:=fun(h2:r.side.toNat<2) h0=>Y7 (m:=m) (hsd (s:=r.side.toNat) h2).2.2.2 h0)
 all_goals first|grind[a1f,O1,m0,y4,I0,G0,T9,I8,S1,a0z,a0B,a0C,a0A,U0,I1,D2,H7,e9,Q0,F6,Y7]|grind(splits:=30) [a1f,O1,m0,y4,I0,G0,T9,I8,S1,a0z,a0B,a0C,a0A,U0,I1,D2,H7,e9,Q0,F6,Y7]
end Go.Proofs.YtmnapekfeenknaaGreat
