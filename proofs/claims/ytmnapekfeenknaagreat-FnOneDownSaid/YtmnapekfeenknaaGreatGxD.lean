/-
  The law FnOneDown.
-/
import Derived.Test.YtmnapekfeenknaaGreatFx
import Derived.Test.YtmnapekfeenknaaGreatMx
import Derived.Test.YtmnapekfeenknaaGreatGxA
import Derived.Test.YtmnapekfeenknaaGreatGvDs
import Derived.Test.YtmnapekfeenknaaGreatGvDo
import Derived.Test.YtmnapekfeenknaaGreatGnE
import Derived.Test.YtmnapekfeenknaaGreatM8
set_option linter.unusedVariables false
set_option linter.unusedSimpArgs false
set_option maxRecDepth 100000
set_option maxHeartbeats 8000000
namespace Go.Proofs.YtmnapekfeenknaaGreat
open Go.Sx Go.Proofs Go.Mo
section
variable {o:One} {c s n:Int}
theorem dx_s (h:r6 o=true) (c0:0≤c) (c1:c<(o.ground.length:Int)) (hs:s=0∨s=1):0≤s∧s<((nth .ints o.air c.toNat).length:Int):=by
 have hd:=G5 h
 have:=(hd.2.2.2.2 c s c0 (by omega) hs).1
 omega
theorem dx_i (h:r6 o=true) (c0:0≤c) (c1:c<(o.ground.length:Int)):0≤c∧c<(o.air.length:Int):=by
 have hd:=G5 h
 omega
theorem d8F (h:r6 o=true) (c0:0≤c) (c1:c<(o.ground.length:Int)) (hs:s=0∨s=1) (n0:0<n) (n1:n≤nth .int (nth .ints o.air c.toNat) s.toNat) (hg:IntKind.i64.wrap (nth .int o.ground c.toNat+n)≤900) :
  @Eq Int (nth .int (B3 o c s n).ground c.toNat) (IntKind.i64.wrap (nth .int o.ground c.toNat+n)) ∧ @Eq Int (nth .int (nth .ints (B3 o c s n).air c.toNat) s.toNat) (IntKind.i64.wrap (nth .int (nth .ints o.air c.toNat) s.toNat-n)) ∧
  (0≤c∧c<((B3 o c s n).ground.length:Int))∧(0≤c∧c<((B3 o c s n).air.length:Int))∧(0≤s∧s<((nth .ints (B3 o c s n).air c.toNat).length:Int)):=by
 have hd:=G5 h
 have hf:=hd.2.2.2.2 c s c0 (by omega) hs
 have e1:IntKind.i64.wrap (nth .int o.ground c.toNat+n)=nth .int o.ground c.toNat+n:=e9 (by omega) (by omega)
 have e2:IntKind.i64.wrap (nth .int (nth .ints o.air c.toNat) s.toNat-n)=nth .int (nth .ints o.air c.toNat) s.toNat-n:=e9 (by omega) (by omega)
 rw[e1]at hg
 have hx:=(a9Y (c:=c) (s:=s) (n:=n) h).2.2.1 ⟨c0,by omega,hs,by omega,n1,hg⟩
 rw[e1,e2,hx]
 have hcg:c.toNat<o.ground.length:=by omega
 have hca:c.toNat<o.air.length:=by omega
 have ea : @Eq (List Int) (nth .ints (o.air.set c.toNat ((nth .ints o.air c.toNat).set s.toNat (nth .int (nth .ints o.air c.toNat) s.toNat-n))) c.toNat) ((nth .ints o.air c.toNat).set s.toNat (nth .int (nth .ints o.air c.toNat) s.toNat-n)):=j9 .ints hca
 have hsl:s.toNat<(nth .ints o.air c.toNat).length:=by have:=hf.1;omega
 refine⟨j9 .int hcg,?_,⟨c0,?_⟩,⟨c0,?_⟩,⟨by omega,?_⟩⟩
 ·show @Eq Int (nth .int (nth .ints (o.air.set c.toNat _) c.toNat) s.toNat) _
  rw[ea]
  exact j9 .int hsl
 ·show c<((o.ground.set c.toNat _).length:Int)
  rw[List.length_set]
  omega
 ·show c<((o.air.set c.toNat _).length:Int)
  rw[List.length_set]
  omega
 ·show s<((nth .ints (o.air.set c.toNat _) c.toNat).length:Int)
  rw[ea,List.length_set]
  have:=hf.1
  omega
theorem d9g (h:r6 o=true) (c0:0≤c) (c1:c<(o.ground.length:Int)) (hs:s=0∨s=1) (n0:0<n) (n1:n≤nth .int (nth .ints o.air c.toNat) s.toNat) (hg : ¬IntKind.i64.wrap (nth .int o.ground c.toNat+n)≤900):B3 o c s n=o:=by
 have hd:=G5 h
 have hf:=hd.2.2.2.2 c s c0 (by omega) hs
 have e1:IntKind.i64.wrap (nth .int o.ground c.toNat+n)=nth .int o.ground c.toNat+n:=e9 (by omega) (by omega)
 rw[e1]at hg
 exact(a9Y (c:=c) (s:=s) (n:=n) h).2.2.2 fun q=>hg q.2.2.2.2.2
end
noncomputable def b9f:Sx.Spec:=⟨false,true,[.list .byte],[],fun _ _ _ => .ret (vB fun _=>true,fun _=>0)⟩
theorem b7t:b9 Tryz.prog 5 b9f:=j5 j3 (ss := [(27,a7O),(28,a4X),(29,a4X),(23,a6O),(26,a1M),(30,a1M),(25,U5),(66,A5),(31,U5)]) ⟨b4q,b5u,c2Q,a6c,a6Z,c0c,a0o,K4,a6b,trivial⟩ rfl rfl<|by
 intro(bs:Th (List Int)) (p:Th Int) ⟨(a:Th (List Int)),u⟩ K _ _ ho h
 obtain⟨a,rfl⟩:=b6 a
 refine⟨noAnn,noAnn,20,?_⟩
 cbv
 repeat' first|((with_reducible intro _);cbv)|(with_reducible refine And.intro ?_ ?_)
 all_goals first|(refine retK h ?_;clear h;simp only[fin0])|(with_reducible refine Ob.mk ?_;clear h)|(clear h)
 all_goals(try simp only[eta0,RT.bytes]at *)
 all_goals(try dsimp only[RT.ty]at *)
 all_goals(try simp only[M0]at *)
 all_goals(try have hok:=(by assumption:r6 _=true))
 all_goals(try have hD:=fun c s n => @a9Y _ c s n hok)
 all_goals(try have hF:=G5 hok)
 all_goals(try dsimp only at hD hF)
 all_goals(try have hY:=d8F hok (by assumption) (by assumption) (by first|exact Or.inl (by assumption)|exact Or.inr (by assumption)) (by assumption) (by assumption) (by assumption))
 all_goals(try dsimp only at hY)
 all_goals(first|exact hY.2.2.1|exact hY.2.2.2.1|exact hY.2.2.2.2|exact absurd hY.1 (by assumption)|exact absurd hY.2.1 (by assumption)|exact dx_s hok (by assumption) (by assumption) (by first|exact Or.inl (by assumption)|exact Or.inr (by assumption))|exact dx_i hok (by assumption) (by assumption)|exact d9g hok (by assumption) (by assumption) (by first|exact Or.inl (by assumption)|exact Or.inr (by assumption)) (by assumption) (by assumption) (by assumption)|skip)
 all_goals(first|omega|rfl|assumption|decide|exact absurd trivial (by assumption)|exact absurd (b3z (by assumption)) (by assumption)|grind[e9,List.length_set,C3])
end Go.Proofs.YtmnapekfeenknaaGreat
