/-
  The law FnOneOnce.
-/
import Derived.Test.YtmnapekfeenknaaGreatFx
import Derived.Test.YtmnapekfeenknaaGreatMx
import Derived.Test.YtmnapekfeenknaaGreatGxA
import Derived.Test.YtmnapekfeenknaaGreatGvDs
import Derived.Test.YtmnapekfeenknaaGreatGvDt
import Derived.Test.YtmnapekfeenknaaGreatGnE
import Derived.Test.YtmnapekfeenknaaGreatGxO
import Derived.Test.YtmnapekfeenknaaGreatM8
set_option linter.unusedVariables false
set_option linter.unusedSimpArgs false
set_option maxRecDepth 100000
set_option maxHeartbeats 8000000
namespace Go.Proofs.YtmnapekfeenknaaGreat
open Go.Sx Go.Proofs Go.Mo
theorem d5x {b:Bool} (h:(b==b)=false):False:=by cases b<;>cases h
theorem b5Z {o:One} {r:Ord} (h : ¬(n9 o r).code=0):(n9 (n9 o r).o r).o=(n9 o r).o∧((n9 (n9 o r).o r).code=(n9 o r).code∨(n9 (n9 o r).o r).code=9):=by
 by_cases h1:r6 o=true
 ·by_cases h2:y9 r=true
  ·exact(c6A h1 h2).2.2.2.2
  ·exact absurd (a6m (by simpa using h2)).2 h
 ·exact absurd (a6n (by simpa using h1)).2 h
noncomputable def b9d:Sx.Spec:=⟨false,true,[.list .byte],[],fun _ _ _ => .ret (vB fun _=>true,fun _=>0)⟩
theorem b7r:b9 Tryz.prog 7 b9d:=j5 j3 (ss := [(32,a4e),(33,a2U),(34,a2U),(23,a6O),(31,U5),(25,U5),(66,A5)]) ⟨a5o,a8p,b2s,a6c,a6b,a0o,K4,trivial⟩ rfl rfl<|by
 intro(bs:Th (List Int)) (p:Th Int) ⟨(a:Th (List Int)),u⟩ K _ _ ho h
 obtain⟨a,rfl⟩:=b6 a
 refine⟨noAnn,noAnn,20,?_⟩
 cbv
 repeat' first|((with_reducible intro _);cbv)|(with_reducible refine And.intro ?_ ?_)
 all_goals first|(refine retK h ?_;clear h;simp only[fin0])|(with_reducible refine Ob.mk ?_;clear h)|(clear h)
 all_goals(try simp only[eta0,RT.bytes]at *)
 all_goals(try dsimp only[RT.ty]at *)
 all_goals(try simp only[M0]at *)
 all_goals(first|rfl|assumption|decide|exact absurd trivial (by assumption)|exact(d5x (by assumption)).elim|exact(b5Z (by assumption)).2.resolve_left (by assumption)|exact absurd (b5Z (by assumption)).1 (by assumption))
end Go.Proofs.YtmnapekfeenknaaGreat
