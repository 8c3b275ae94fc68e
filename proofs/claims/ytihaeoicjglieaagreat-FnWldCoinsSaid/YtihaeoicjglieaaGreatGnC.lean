/-
  Contracts: messages.
-/
import Derived.Test.YtihaeoicjglieaaGreatGnF
set_option linter.unusedVariables false
set_option linter.unusedSimpArgs false
set_option maxRecDepth 100000
set_option maxHeartbeats 4000000
namespace Go.Proofs.YtihaeoicjglieaaGreat
open Go.Sx Go.Proofs Go.Mo
noncomputable def a8B:Sx.Spec:=⟨false,true,[.map,.int .i64,.row .msg],[],fun _ _ ⟨m,s,x,_⟩ => .ret (vB fun _=>y5 (m ()) (s ()) (x ()),fun _=>0)⟩
theorem d4f:b8 Tryz.prog 67 a8B:=j4 e9 (ss := [(54,z7),(57,sIn),(101,a6Z),(48,G5),(74,a2B),(124,a4n),(125,a6h)]) ⟨K9,okIn,a8Q,U1,b0m,b6v,c4C,trivial⟩ rfl rfl<|by
 intro(bs:Th (List Int)) (p:Th Int) ⟨(m:Th PMap),(s:Th Int),(x:Th Msg),u⟩ K _ _ ho h
 obtain⟨m,rfl⟩:=b6 m;obtain⟨s,rfl⟩:=b6 s;obtain⟨x,rfl⟩:=b6 x
 have hps := @K5 m x.cell x.side
 refine⟨noAnn,noAnn,20,?_⟩
 cbv
 repeat' first|((with_reducible intro _);cbv)|(with_reducible refine And.intro ?_ ?_)
 all_goals first|(refine retK h ?_;clear h;simp only[fin0])|(with_reducible refine Ob.mk ?_;clear h)|(clear h)
 all_goals(try simp only[eta0,RT.bytes]at *)
 all_goals grind(splits:=40) [y5,H7,inR,a1X,a3W,a4e,a3p,e8,s0]
theorem b1z:b8 Tryz.prog 157 a8B:=j4 e9 (ss := [(85,z7),(148,sIn),(119,G5),(198,a2B),(208,a4n),(209,a6h)]) ⟨C7,I5,W5,a7x,b1x,b1C,trivial⟩ rfl rfl<|by
 intro(bs:Th (List Int)) (p:Th Int) ⟨(m:Th PMap),(s:Th Int),(x:Th Msg),u⟩ K _ _ ho h
 obtain⟨m,rfl⟩:=b6 m;obtain⟨s,rfl⟩:=b6 s;obtain⟨x,rfl⟩:=b6 x
 have hps := @K5 m x.cell x.side
 refine⟨noAnn,noAnn,20,?_⟩
 cbv
 repeat' first|((with_reducible intro _);cbv)|(with_reducible refine And.intro ?_ ?_)
 all_goals first|(refine retK h ?_;clear h;simp only[fin0])|(with_reducible refine Ob.mk ?_;clear h)|(clear h)
 all_goals(try simp only[eta0,RT.bytes]at *)
 all_goals grind(splits:=40) [y5,H7,inR,a1X,a3W,a4e,a3p,e8,s0]
end Go.Proofs.YtihaeoicjglieaaGreat
