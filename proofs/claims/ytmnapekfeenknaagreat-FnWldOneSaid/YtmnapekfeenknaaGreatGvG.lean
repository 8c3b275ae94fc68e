/-
  Contract: what a record does in the one world.
-/
import Derived.Test.YtmnapekfeenknaaGreatFy
import Derived.Test.YtmnapekfeenknaaGreatMy
import Derived.Test.YtmnapekfeenknaaGreatGvD
import Derived.Test.YtmnapekfeenknaaGreatGvDo
import Derived.Test.YtmnapekfeenknaaGreatM8
set_option linter.unusedVariables false
set_option linter.unusedSimpArgs false
set_option maxRecDepth 100000
set_option maxHeartbeats 8000000
namespace Go.Proofs.YtmnapekfeenknaaGreat
open Go.Sx Go.Proofs Go.Mo
noncomputable def d7b:Sx.Spec:=⟨false,false,[.one,.int .i64,.row .rcd],[nOne],fun _ _ ⟨o,c,r,_⟩ => .ret (rAs (a7p fun _=>a8M (o ()) (c ()) (r ())),fun _=>0)⟩
theorem d1P:b9 Tryz.prog 41 d7b:=j5 j3 (ss := [(33,a2U),(22,a4W),(28,a4X)]) ⟨a8p,b5s,b5u,trivial⟩ rfl rfl<|by
 intro(bs:Th (List Int)) (p:Th Int) ⟨(o:Th One),(c:Th Int),(r:Th Rec),u⟩ K _ _ ho h
 obtain⟨o,rfl⟩:=b6 o;obtain⟨c,rfl⟩:=b6 c;obtain⟨r,rfl⟩:=b6 r
 refine⟨noAnn,noAnn,20,?_⟩
 cbv
 repeat' first|((with_reducible intro _);cbv)|(with_reducible refine And.intro ?_ ?_)
 all_goals first|(refine retK h ?_;clear h;simp only[fin0])|(with_reducible refine Ob.mk ?_;clear h)|(clear h)
 all_goals(try simp only[eta0,RT.bytes]at *)
 all_goals(try dsimp only[RT.ty]at *)
 all_goals(try simp only[M0]at *)
 all_goals grind[a8M]
end Go.Proofs.YtmnapekfeenknaaGreat
