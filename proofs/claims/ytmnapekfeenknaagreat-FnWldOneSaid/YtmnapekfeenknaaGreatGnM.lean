/-
  Contract: a record written at the end of the store that a pointer shows.
-/
import Derived.Test.YtmnapekfeenknaaGreatFy
import Derived.Test.YtmnapekfeenknaaGreatMy
import Derived.Test.YtmnapekfeenknaaGreatFnI
import Derived.Test.YtmnapekfeenknaaGreatFoE
set_option linter.unusedVariables false
set_option linter.unusedSimpArgs false
set_option maxRecDepth 100000
set_option maxHeartbeats 16000000
namespace Go.Proofs.YtmnapekfeenknaaGreat
open Go.Sx Go.Proofs Go.Mo
noncomputable def d7e:Sx.Io:=⟨.row .sto,true,[.map,.int .i64,.int .i64,.row .rcd],[],fun s ⟨m,a,b,r,_⟩ => .asrt (fun _=>B2 (m ()) (s ())=true) (.ret (vI fun _=>(A7 (m ()) (s ()) (a ()) (b ()) (r ())).n,fun _=>(A7 (m ()) (s ()) (a ()) (b ()) (r ())).s))⟩
theorem d8f:b9 Tryz.prog 274 (ioX d7e):=io1 j3 (ss := [(179,a9s),(67,b6M),(208,a9u),(164,a9q),(121,a2y),(36,B6),(166,a1C),(168,O5),(68,E6),(243,a0X),(69,a1i)]) ⟨c5z,b7n,b7w,a8o,a2f,M7,a5l,a0Q,S9,b2m,a5Z,trivial⟩ rfl rfl<|by
 intro(s:Th Sto) ⟨(m:Th PMap),(a:Th Int),(b:Th Int),(r:Th Sx.Rec),u⟩ K _ ho h
 obtain⟨s,rfl⟩:=b6 s;obtain⟨m,rfl⟩:=b6 m;obtain⟨a,rfl⟩:=b6 a;obtain⟨b,rfl⟩:=b6 b;obtain⟨r,rfl⟩:=b6 r
 obtain⟨hs,h⟩:=h
 have hso:B2 m s=true:=hs.out
 refine⟨noAnn,noAnn,20,?_⟩
 cbv
 repeat' first|((with_reducible intro _);cbv)|(with_reducible refine And.intro ?_ ?_)
 all_goals first|refine ioK h ?_ ?_|(with_reducible refine Ob.mk ?_;clear h)|(clear h)
 all_goals(try clear h)
 all_goals(try clear K)
 all_goals(try simp only[fin0])
 all_goals(try simp only[eta0,RT.bytes]at *)
 all_goals(try have hck:=a1Z hso)
 all_goals(try have hsl:=(z6.1 hso).2.2.1)
 all_goals(try have hap:=c4b (a:=a) (b:=b) (r:=r) hso)
 all_goals(try generalize hx:r9 m s=x at *)
 all_goals(try have hlo:=(by assumption:I4 m r=true))
 all_goals(try have hlt:=F6 (l:=x.wlks) (id:=r.ord.who) (by assumption))
 all_goals(try simp only[z8,j9 .wlk hlt,List.set_set,List.length_set,a3z]at *)
 all_goals(try simp only[z8]at *)
 all_goals(try have hf := @o7 m x hck)
 all_goals(try have hwk := @K9 m x hck)
 all_goals(try have hsd := @E1 m x hck)
 all_goals(try have hlen:=Z7 hck)
 all_goals(try have hps := @L7 m x.cell r.side)
 all_goals(try have hdo:=b2I (m:=m) (r:=r) hlo (by assumption))
 all_goals(try have hoi:=G6.1 hdo)
 all_goals(try have hpd:=Q0 x.wlks r.ord.dest)
 all_goals(try have hwr:=a5O (m:=m) (c:=x) (o:=r.ord) hck hlt hdo (by assumption))
 all_goals(try simp only[hwr]at *)
 all_goals(try have hld:=F6 (l:=x.wlks) (id:=r.ord.dest) (by assumption))
 all_goals(try have hne:=a3A (l:=x.wlks) (a:=r.ord.who) (b:=r.ord.dest) (by assumption) (by assumption) (a0l hdo (by assumption)))
 all_goals(try simp only[a2a hne,m5 .wlk hne,m5 .wlk hne.symm,j9 .wlk hlt,j9 .wlk hld]at *)
 all_goals(try have hin:=a8B (m:=m) (r:=r) hlo (by assumption))
 all_goals(try have hpi:=J1.1 hin)
 all_goals(try have hwg:=d3l (c:=x) (p:=r.pcl) hck hin)
 all_goals(try simp only[hwg]at *)
 all_goals(try have hfr := @Z6 x r.ord (by assumption))
 all_goals(try have hlf:=fun(h2:r.side.toNat<2) h0=>Y7 (m:=m) (hsd (s:=r.side.toNat) h2).2.2.2 h0)
 all_goals first|grind[a1f,O1,m0,y4,I0,G0,T9,I8,S1,a0z,a0B,a0C,a0A,U0,I1,D2,H7,e9,Q0,F6,Y7]|grind(splits:=30) [a1f,O1,m0,y4,I0,G0,T9,I8,S1,a0z,a0B,a0C,a0A,U0,I1,D2,H7,e9,Q0,F6,Y7]
end Go.Proofs.YtmnapekfeenknaaGreat
