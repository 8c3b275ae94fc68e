/-
  Contract: which cell has one record more.
-/
import Derived.Test.YtmnapekfeenknaaGreatFy
import Derived.Test.YtmnapekfeenknaaGreatMy
import Derived.Test.YtmnapekfeenknaaGreatGnE
import Derived.Test.YtmnapekfeenknaaGreatM8
set_option linter.unusedVariables false
set_option linter.unusedSimpArgs false
set_option maxRecDepth 100000
set_option maxHeartbeats 8000000
namespace Go.Proofs.YtmnapekfeenknaaGreat
open Go.Sx Go.Proofs Go.Mo
noncomputable def sNew:Sx.Spec:=⟨false,true,[.row .wld,.row .wld],[],fun _ _ ⟨a,b,_⟩ => .asrt (fun _=>m8 (a ())=true∧m8 (b ())=true∧(b ()).stores.length=(a ()).stores.length) (.ret (vI fun _=>v5 (a ()).stores (b ()).stores,fun _=>0))⟩
theorem d8i {a b:Wld} (h:m8 a=true∧m8 b=true∧b.stores.length=a.stores.length):a.stores.length≤4∧b.stores.length=a.stores.length ∧
  ∀k:Nat,k<a.stores.length→IntKind.i64.wrap (((nth .sto b.stores k).recs.length:Int)-((nth .sto a.stores k).recs.length:Int))=newD a.stores b.stores k:=by
 refine⟨(d0v h.1),h.2.2,fun k hk => ?_⟩
 have h1:=b6U h.1 hk
 have h2:=b6U h.2.1 (i:=k) (by omega)
 unfold newD
 exact e9 (by omega) (by omega)
theorem d5E:b9 Tryz.prog 40 sNew:=j5 j3 (ss := []) trivial rfl rfl<|by
 intro(bs:Th (List Int)) (p:Th Int) ⟨(a:Th Wld),(b:Th Wld),u⟩ K _ _ ho h
 obtain⟨a,rfl⟩:=b6 a;obtain⟨b,rfl⟩:=b6 b
 obtain⟨hpre,h⟩:=h
 have hN:=d8i hpre.out
 refine⟨annL [(40,3,⟨Nat,[],fun σ k=>((σ.only [2,3,4]).t 5 (vI fun _=>Q3 a.stores b.stores k)).t 6 (vI fun _=>(k:Int)),fun _ k _=>k≤a.stores.length∧Q3 a.stores b.stores k ≠ -2,fun _ k _=>a.stores.length-k⟩)],noAnn,20,?_⟩
 cbv
 repeat' first|((with_reducible refine fun(k:Nat) => ?_);cbv)|((with_reducible intro _);cbv)|(with_reducible refine And.intro ?_ ?_)
 all_goals try((first|(with_reducible refine LoopIn.mk ((0:Nat)) ?_ ?_)|(with_reducible refine LoopBack.mk ((k+1:Nat)) ?_ ?_ ?_)) )
 all_goals try((with_reducible show l9 _ _);cbv;(try simp only[and_true,true_and]))
 all_goals try(repeat' with_reducible refine And.intro ?_ ?_)
 all_goals first|(refine retK h ?_;clear h;simp only[fin0])|(with_reducible refine Ob.mk ?_;clear h)|(clear h)
 all_goals(try simp only[eta0,RT.bytes]at *)
 all_goals(try dsimp only[RT.ty]at *)
 all_goals(try simp only[M0]at *)
 all_goals grind[c3h,c8E,b0E,a5r,c8D,d2z,j4]
end Go.Proofs.YtmnapekfeenknaaGreat
