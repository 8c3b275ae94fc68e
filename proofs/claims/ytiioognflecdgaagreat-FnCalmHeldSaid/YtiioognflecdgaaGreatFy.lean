/- What some ends alone need. -/
import Derived.Test.YtiioognflecdgaaGreatInsW
import Derived.Test.YtiioognflecdgaaGreatFnFb
import Derived.Test.YtiioognflecdgaaGreatGnC
import Derived.Test.YtiioognflecdgaaGreatGnJ
import Derived.Test.YtiioognflecdgaaGreatFnJ
import Derived.Test.YtiioognflecdgaaGreatFnYs
import Derived.Test.YtiioognflecdgaaGreatFnM
import Derived.Test.YtiioognflecdgaaGreatGnE
import Derived.Test.YtiioognflecdgaaGreatInsH
import Derived.Test.YtiioognflecdgaaGreatFoE
import Derived.Test.YtiioognflecdgaaGreatGnM
import Derived.Test.YtiioognflecdgaaGreatGnV
import Derived.Test.YtiioognflecdgaaGreatGnP
import Derived.Test.YtiioognflecdgaaGreatGnVe
import Derived.Test.YtiioognflecdgaaGreatGrT
import Derived.Test.YtiioognflecdgaaGreatGnW
import Derived.Test.YtiioognflecdgaaGreatGsB
import Derived.Test.YtiioognflecdgaaGreatGnT
import Derived.Test.YtiioognflecdgaaGreatGsT
import Derived.Test.YtiioognflecdgaaGreatGsS
import Derived.Test.YtiioognflecdgaaGreatGnX
import Derived.Test.YtiioognflecdgaaGreatMy
set_option linter.unusedVariables false
set_option linter.unusedSimpArgs false
set_option maxRecDepth 100000
set_option maxHeartbeats 16000000
namespace Go.Proofs.YtiioognflecdgaaGreat
open Go.Sx Go.Proofs Go.Mo
theorem b2z:b6 Tryz.prog 76 a0I:=j3 b9 (ss := [(115,a2y),(111,a2z)]) ⟨b0g,b7c,trivial⟩ rfl rfl<|by
 intro(bs:Th (List Int)) (p:Th Int) ⟨(s:Th Srv),(c:Th Int),u⟩ K _ _ ho h
 obtain⟨s,rfl⟩:=a8 s;obtain⟨c,rfl⟩:=a8 c
 have hp:=a1s s.holds c
 refine⟨noAnn,noAnn,20,?_⟩
 cbv
 repeat' first|((with_reducible intro _);cbv)|(with_reducible refine And.intro ?_ ?_)
 all_goals first|(refine retK h ?_;clear h;simp only[fin0])|(with_reducible refine Ob.mk ?_;clear h)|(clear h)
 all_goals(try simp only[eta0,RT.bytes]at *)
 all_goals grind(splits:=40) [e9,u5,a1J,Q7]
noncomputable def b2b:Sx.Spec:=⟨false,false,[.row .wld,.row .evt],[nWld],fun _ _ ⟨w,e,_⟩ => .ret (rAs (W7 fun _=>m0 (w ()) (e ())),fun _=>0)⟩
theorem c3F:b6 Tryz.prog 22 b2b:=j3 b9 (ss := [(11,X9),(23,a3o),(24,(ioX a9k))]) ⟨a4i,a4Y,a8H,trivial⟩ rfl rfl<|by
 intro(bs:Th (List Int)) (p:Th Int) ⟨(w:Th Wld),(e:Th Evt),u⟩ K _ _ ho h
 obtain⟨w,rfl⟩:=a8 w;obtain⟨e,rfl⟩:=a8 e
 refine⟨noAnn,noAnn,20,?_⟩
 cbv
 repeat' first|((with_reducible intro _);cbv)|(with_reducible refine And.intro ?_ ?_)
 all_goals first|(refine retK h ?_;clear h;simp only[fin0])|(with_reducible refine Ob.mk ?_;clear h)|(clear h)
 all_goals(try simp only[eta0,RT.bytes]at *)
 all_goals grind[m0,K4]
end Go.Proofs.YtiioognflecdgaaGreat
