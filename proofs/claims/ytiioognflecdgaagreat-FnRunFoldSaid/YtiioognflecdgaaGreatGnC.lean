/-
  Contracts: messages.
-/
import Derived.Test.YtiioognflecdgaaGreatFnFb
set_option linter.unusedVariables false
set_option linter.unusedSimpArgs false
set_option maxRecDepth 100000
set_option maxHeartbeats 4000000
namespace Go.Proofs.YtiioognflecdgaaGreat
open Go.Sx Go.Proofs Go.Mo
noncomputable def a7b:Sx.Spec:=⟨false,true,[.map,.int .i64,.row .msg],[],fun _ _ ⟨m,s,x,_⟩ => .ret (vB fun _=>u9 (m ()) (s ()) (x ()),fun _=>0)⟩
theorem d0r:b6 Tryz.prog 34 a7b:=j3 b9 (ss := [(55,A9),(38,sIn),(80,a5K),(85,F9),(81,a1z),(86,a3p),(87,a4S)]) ⟨S6,okIn,a7s,U5,a8J,b4s,c1G,trivial⟩ rfl rfl<|by
 intro(bs:Th (List Int)) (p:Th Int) ⟨(m:Th PMap),(s:Th Int),(x:Th Msg),u⟩ K _ _ ho h
 obtain⟨m,rfl⟩:=a8 m;obtain⟨s,rfl⟩:=a8 s;obtain⟨x,rfl⟩:=a8 x
 have hps := @H9 m x.cell x.side
 refine⟨noAnn,noAnn,20,?_⟩
 cbv
 repeat' first|((with_reducible intro _);cbv)|(with_reducible refine And.intro ?_ ?_)
 all_goals first|(refine retK h ?_;clear h;simp only[fin0])|(with_reducible refine Ob.mk ?_;clear h)|(clear h)
 all_goals(try simp only[eta0,RT.bytes]at *)
 all_goals grind(splits:=40) [u9,G8,inR,a1b,a2Q,a3c,a2n,b8,p7]
theorem b0a:b6 Tryz.prog 101 a7b:=j3 b9 (ss := [(48,A9),(97,sIn),(151,F9),(148,a1z),(153,a3p),(154,a4S)]) ⟨C9,G7,Y0,a6g,a9Z,b0d,trivial⟩ rfl rfl<|by
 intro(bs:Th (List Int)) (p:Th Int) ⟨(m:Th PMap),(s:Th Int),(x:Th Msg),u⟩ K _ _ ho h
 obtain⟨m,rfl⟩:=a8 m;obtain⟨s,rfl⟩:=a8 s;obtain⟨x,rfl⟩:=a8 x
 have hps := @H9 m x.cell x.side
 refine⟨noAnn,noAnn,20,?_⟩
 cbv
 repeat' first|((with_reducible intro _);cbv)|(with_reducible refine And.intro ?_ ?_)
 all_goals first|(refine retK h ?_;clear h;simp only[fin0])|(with_reducible refine Ob.mk ?_;clear h)|(clear h)
 all_goals(try simp only[eta0,RT.bytes]at *)
 all_goals grind(splits:=40) [u9,G8,inR,a1b,a2Q,a3c,a2n,b8,p7]
end Go.Proofs.YtiioognflecdgaaGreat
