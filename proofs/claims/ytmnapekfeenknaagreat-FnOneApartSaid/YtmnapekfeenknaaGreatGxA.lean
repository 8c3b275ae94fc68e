/-
  Contracts: the one world, drawn.
-/
import Derived.Test.YtmnapekfeenknaaGreatFx
import Derived.Test.YtmnapekfeenknaaGreatMx
import Derived.Test.YtmnapekfeenknaaGreatGvQ
import Derived.Test.YtmnapekfeenknaaGreatGnX
import Derived.Test.YtmnapekfeenknaaGreatGvC
set_option linter.unusedVariables false
set_option linter.unusedSimpArgs false
set_option maxRecDepth 100000
set_option maxHeartbeats 8000000
namespace Go.Proofs.YtmnapekfeenknaaGreat
open Go.Sx Go.Proofs Go.Mo
theorem c7U {w:Wld} (h:m8 w=true):(oneOf w).wlks.length≤100000∧(oneOf w).ground.length≤4∧(oneOf w).air.length=(oneOf w).ground.length ∧ ∀k:Nat,k<(oneOf w).air.length→(nth .ints (oneOf w).air k).length=2:=by
 have e:oneOf w=m6 w.map w.stores:=by unfold oneOf;rw[if_pos h]
 have hp:=n6.1 (a3n (q9.1 h).2.1).2
 have h1:=b3Z (i:=w.map.cells) h (by omega) (by omega) 0 0
 rw[b4a]at h1
 have hl:(m6 w.map w.stores).ground.length=w.map.cells.toNat∧(m6 w.map w.stores).air.length=w.map.cells.toNat:=by
  constructor
  ·show((I9 w.map).map _).length=_
   simp[I9]
  ·show((I9 w.map).map _).length=_
   simp[I9]
 rw[e]
 have h2 : ∀x:List Int,x∈(m6 w.map w.stores).air→x.length=2:=fun x hx=>by
  obtain⟨c,_,rfl⟩:=List.mem_map.1 hx
  rfl
 exact⟨h1,by omega,by omega,fun k hk=>h2 _ (s0 .ints hk)⟩
noncomputable def rOne (a b:Int) (w:List OW) (g:List Int) (r:List (List Int)):V := .agg [cI a,cI b,.att (.list .ow fun _=>w),.att (.list .int fun _=>g),.att (.list .ints fun _=>r)]
noncomputable def d7d:Sx.Spec:=⟨true,false,[.map,.int .i64],[],fun _ p _ => .asrt (fun _=>0≤p ()∧p ()≤1000000000800) (.all Int fun x0 => .all Int fun x1 => .all Int fun x2 => .all Int fun x3 => .all Int fun x4 => .all Int fun q => .asm (fun _=>p ()≤q∧q≤p ()+30) (.ret (.agg [cI x0,cI x1,cI x2,cI x3,cI x4],fun _=>q)))⟩
theorem d8e:b9 Tryz.prog 132 d7d:=j5 j3 (ss := [(111,b6K),(48,U4),(112,a6R)]) ⟨b9W,M4,b0A,trivial⟩ rfl rfl<|by
 intro(bs:Th (List Int)) (p:Th Int) ⟨(m:Th PMap),(n:Th Int),u⟩ K hb hp0 ho h
 obtain⟨m,rfl⟩:=b6 m;obtain⟨n,rfl⟩:=b6 n;obtain⟨bs,rfl⟩:=b6 bs;obtain⟨p,rfl⟩:=b6 p
 obtain⟨hpre,h⟩:=h
 have hpre:0≤p∧p≤1000000000800:=hpre.out
 refine⟨noAnn,noAnn,20,?_⟩
 cbv
 repeat' first|((with_reducible intro _);cbv)|(with_reducible refine And.intro ?_ ?_)
 all_goals first|(refine retK (h _ _ _ _ _ _ ?_) rfl;clear h)|(with_reducible refine Ob.mk ?_;clear h)|(clear h)
 all_goals(try simp only[eta0,RT.bytes]at *)
 all_goals first|rfl|omega|grind[e9,tm]
noncomputable def c4L:Sx.Spec:=⟨true,false,[.int .i64],[nOne],fun _ p _ => .asrt (fun _=>0≤p ()∧p ()≤960000000000) (.all Int fun a => .all Int fun b => .all (List OW) fun w => .all (List Int) fun g => .all (List (List Int)) fun r => .all Int fun q => .asm (fun _=>p ()≤q∧q≤p ()+300000) (.ret (rOne a b w g r,fun _=>q)))⟩
theorem c2T:b9 Tryz.prog 83 c4L:=j5 j3 (ss := [(131,d0N),(44,c2r),(48,U4),(46,sMap),(132,d7d)]) ⟨d5y,c0b,M4,d7g,d8e,trivial⟩ rfl rfl<|by
 intro(bs:Th (List Int)) (p:Th Int) ⟨(n:Th Int),u⟩ K hb hp0 ho h
 obtain⟨n,rfl⟩:=b6 n;obtain⟨bs,rfl⟩:=b6 bs;obtain⟨p,rfl⟩:=b6 p
 obtain⟨hpre,h⟩:=h
 have hpre:0≤p∧p≤960000000000:=hpre.out
 refine⟨noAnn,noAnn,20,?_⟩
 cbv
 repeat' first|((with_reducible intro _);cbv)|(with_reducible refine And.intro ?_ ?_)
 all_goals first|(refine retK (h _ _ _ _ _ _ ?_) rfl;clear h)|(with_reducible refine Ob.mk ?_;clear h)|(clear h)
 all_goals(try simp only[eta0,RT.bytes]at *)
 all_goals(try dsimp only[RT.ty]at *)
 all_goals(try simp only[M0]at *)
 all_goals(try have hw:=c7U (And.right (And.right (by assumption))))
 all_goals(first|rfl|omega|grind[e9])
noncomputable def a4e:Sx.Spec:=⟨false,false,[.list .byte],[nOne,[none,none,none,none,none]],fun _ _ _ => .all Int fun a => .all Int fun b => .all (List OW) fun w => .all (List Int) fun g => .all (List (List Int)) fun r => .all Int fun x0 => .all Int fun x1 => .all Int fun x2 => .all Int fun x3 => .all Int fun x4 => .ret (.tup [rOne a b w g r,.agg [cI x0,cI x1,cI x2,cI x3,cI x4]],fun _=>0)⟩
theorem a5o:b9 Tryz.prog 32 a4e:=j5 j3 (ss := [(83,c4L),(91,b5a),(48,U4)]) ⟨c2T,c3e,M4,trivial⟩ rfl rfl<|by
 intro(bs:Th (List Int)) (p:Th Int) ⟨(l:Th (List Int)),u⟩ K hb hp0 ho h
 obtain⟨l,rfl⟩:=b6 l
 refine⟨noAnn,noAnn,20,?_⟩
 cbv
 repeat' first|((with_reducible intro _);cbv)|(with_reducible refine And.intro ?_ ?_)
 all_goals first|(refine retK (h _ _ _ _ _ _ _ _ _ _) rfl;clear h)|(refine retK (h _ _ _ _ _ _ _ _ _ _) rfl)|(with_reducible refine Ob.mk ?_;clear h)|(clear h)
 all_goals(try simp only[eta0,RT.bytes]at *)
 all_goals(try dsimp only[RT.ty]at *)
 all_goals(try simp only[M0]at *)
 all_goals(first|rfl|omega|grind[e9])
noncomputable def a7N:Sx.Spec:=⟨false,false,[.list .byte],[nOne,[none]],fun _ _ _ => .all Int fun a => .all Int fun b => .all (List OW) fun w => .all (List Int) fun g => .all (List (List Int)) fun r => .all Int fun x0 => .ret (.tup [rOne a b w g r,.one (cI x0)],fun _=>0)⟩
theorem b4p:b9 Tryz.prog 21 a7N:=j5 j3 (ss := [(83,c4L),(48,U4)]) ⟨c2T,M4,trivial⟩ rfl rfl<|by
 intro(bs:Th (List Int)) (p:Th Int) ⟨(l:Th (List Int)),u⟩ K hb hp0 ho h
 obtain⟨l,rfl⟩:=b6 l
 refine⟨noAnn,noAnn,20,?_⟩
 cbv
 repeat' first|((with_reducible intro _);cbv)|(with_reducible refine And.intro ?_ ?_)
 all_goals first|(refine retK (h _ _ _ _ _ _) rfl;clear h)|(refine retK (h _ _ _ _ _ _) rfl)|(with_reducible refine Ob.mk ?_;clear h)|(clear h)
 all_goals(try simp only[eta0,RT.bytes]at *)
 all_goals(try dsimp only[RT.ty]at *)
 all_goals(try simp only[M0]at *)
 all_goals(first|rfl|omega|grind[e9])
noncomputable def a7O:Sx.Spec:=⟨false,false,[.list .byte],[nOne,[none],[none],[none]],fun _ _ _ => .all Int fun a => .all Int fun b => .all (List OW) fun w => .all (List Int) fun g => .all (List (List Int)) fun r => .all Int fun x0 => .all Int fun x1 => .all Int fun x2 => .ret (.tup [rOne a b w g r,.one (cI x0),.one (cI x1),.one (cI x2)],fun _=>0)⟩
theorem b4q:b9 Tryz.prog 27 a7O:=j5 j3 (ss := [(83,c4L),(48,U4)]) ⟨c2T,M4,trivial⟩ rfl rfl<|by
 intro(bs:Th (List Int)) (p:Th Int) ⟨(l:Th (List Int)),u⟩ K hb hp0 ho h
 obtain⟨l,rfl⟩:=b6 l
 refine⟨noAnn,noAnn,20,?_⟩
 cbv
 repeat' first|((with_reducible intro _);cbv)|(with_reducible refine And.intro ?_ ?_)
 all_goals first|(refine retK (h _ _ _ _ _ _ _ _) rfl;clear h)|(refine retK (h _ _ _ _ _ _ _ _) rfl)|(with_reducible refine Ob.mk ?_;clear h)|(clear h)
 all_goals(try simp only[eta0,RT.bytes]at *)
 all_goals(try dsimp only[RT.ty]at *)
 all_goals(try simp only[M0]at *)
 all_goals(first|rfl|omega|grind[e9])
end Go.Proofs.YtmnapekfeenknaaGreat
