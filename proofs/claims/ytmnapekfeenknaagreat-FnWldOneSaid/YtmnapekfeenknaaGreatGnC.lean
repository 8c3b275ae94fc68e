/-
  Contracts: messages.
-/
import Derived.Test.YtmnapekfeenknaaGreatFnI
set_option linter.unusedVariables false
set_option linter.unusedSimpArgs false
set_option maxRecDepth 100000
set_option maxHeartbeats 4000000
namespace Go.Proofs.YtmnapekfeenknaaGreat
open Go.Sx Go.Proofs Go.Mo
noncomputable def a9r:Sx.Spec:=⟨false,true,[.map,.int .i64,.row .msg],[],fun _ _ ⟨m,s,x,_⟩ => .ret (vB fun _=>y5 (m ()) (s ()) (x ()),fun _=>0)⟩
theorem d5D:b9 Tryz.prog 78 a9r:=j5 j3 (ss := [(66,A5),(50,sIn),(88,a3v),(68,E6),(92,Y5),(126,a4V),(127,a6Q)]) ⟨K4,okIn,a3F,S9,a6a,b7q,c5A,trivial⟩ rfl rfl<|by
 intro(bs:Th (List Int)) (p:Th Int) ⟨(m:Th PMap),(s:Th Int),(x:Th Msg),u⟩ K _ _ ho h
 obtain⟨m,rfl⟩:=b6 m;obtain⟨s,rfl⟩:=b6 s;obtain⟨x,rfl⟩:=b6 x
 have hps := @L7 m x.cell x.side
 refine⟨noAnn,noAnn,20,?_⟩
 cbv
 repeat' first|((with_reducible intro _);cbv)|(with_reducible refine And.intro ?_ ?_)
 all_goals first|(refine retK h ?_;clear h;simp only[fin0])|(with_reducible refine Ob.mk ?_;clear h)|(clear h)
 all_goals(try simp only[eta0,RT.bytes]at *)
 all_goals grind(splits:=40) [y5,J2,inR,a2v,a4F,a4M,a3S,e9,o9]
theorem b2t:b9 Tryz.prog 193 a9r:=j5 j3 (ss := [(14,A5),(60,sIn),(138,E6),(35,Y5),(227,a4V),(228,a6Q)]) ⟨F7,J5,V3,a2h,b2q,b2v,trivial⟩ rfl rfl<|by
 intro(bs:Th (List Int)) (p:Th Int) ⟨(m:Th PMap),(s:Th Int),(x:Th Msg),u⟩ K _ _ ho h
 obtain⟨m,rfl⟩:=b6 m;obtain⟨s,rfl⟩:=b6 s;obtain⟨x,rfl⟩:=b6 x
 have hps := @L7 m x.cell x.side
 refine⟨noAnn,noAnn,20,?_⟩
 cbv
 repeat' first|((with_reducible intro _);cbv)|(with_reducible refine And.intro ?_ ?_)
 all_goals first|(refine retK h ?_;clear h;simp only[fin0])|(with_reducible refine Ob.mk ?_;clear h)|(clear h)
 all_goals(try simp only[eta0,RT.bytes]at *)
 all_goals grind(splits:=40) [y5,J2,inR,a2v,a4F,a4M,a3S,e9,o9]
end Go.Proofs.YtmnapekfeenknaaGreat
