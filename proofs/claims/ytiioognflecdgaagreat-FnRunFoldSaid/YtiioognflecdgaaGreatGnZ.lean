/-
  Contracts: n6 and messages drawn.
-/
import Derived.Test.YtiioognflecdgaaGreatFx
import Derived.Test.YtiioognflecdgaaGreatMx
import Derived.Test.YtiioognflecdgaaGreatGnX
set_option linter.unusedVariables false
set_option linter.unusedSimpArgs false
set_option maxRecDepth 100000
set_option maxHeartbeats 8000000
namespace Go.Proofs.YtiioognflecdgaaGreat
open Go.Sx Go.Proofs Go.Mo
noncomputable def a8F:Sx.Spec:=⟨true,false,[.map],[],fun _ p ⟨m,_⟩ => .asrt (fun _=>(True)∧0≤p ()∧p ()≤999000000000) (.all Int fun x0 => .all Int fun x1 => .all Int fun x2 => .all Int fun x3 => .all Int fun x4 => .all Int fun x5 => .all Int fun x6 => .all Int fun q => .asm (fun _=>p ()≤q∧q≤p ()+60) (.ret (.agg [cI x0,cI x1,cI x2,cI x3,cI x4,cI x5,cI x6],fun _=>q)))⟩
noncomputable def b2f:Sx.Spec:=⟨true,false,[.row .wld],[],fun _ p ⟨w,_⟩ => .asrt (fun _=>(True)∧0≤p ()∧p ()≤998000000000) (.all Int fun x0 => .all Int fun x1 => .all Int fun x2 => .all Int fun x3 => .all Int fun x4 => .all Int fun x5 => .all Int fun x6 => .all Int fun x7 => .all Int fun x8 => .all Int fun x9 => .all Int fun x10 => .all Int fun x11 => .all Int fun x12 => .all Int fun x13 => .all Int fun x14 => .all Int fun x15 => .all Int fun x16 => .all Int fun x17 => .all Int fun x18 => .all Int fun x19 => .all Int fun x20 => .all Int fun x21 => .all Int fun x22 => .all Int fun x23 => .all Int fun x24 => .all Int fun q => .asm (fun _=>p ()≤q∧q≤p ()+200) (.ret (.agg [cI x0,cI x1,cI x2,cI x3,cI x4,cI x5,cI x6,cI x7,cI x8,cI x9,cI x10,cI x11,cI x12,cI x13,cI x14,cI x15,cI x16,cI x17,cI x18,cI x19,cI x20,cI x21,cI x22,cI x23,cI x24],fun _=>q)))⟩
noncomputable def b6g:Sx.Spec:=⟨true,false,[.row .wld,.row .msg],[],fun _ p ⟨w,x,_⟩ => .asrt (fun _=>(True)∧0≤p ()∧p ()≤998000000000) (.all Int fun x0 => .all Int fun x1 => .all Int fun x2 => .all Int fun x3 => .all Int fun x4 => .all Int fun x5 => .all Int fun x6 => .all Int fun x7 => .all Int fun x8 => .all Int fun x9 => .all Int fun x10 => .all Int fun x11 => .all Int fun x12 => .all Int fun x13 => .all Int fun x14 => .all Int fun x15 => .all Int fun x16 => .all Int fun x17 => .all Int fun x18 => .all Int fun x19 => .all Int fun x20 => .all Int fun x21 => .all Int fun x22 => .all Int fun x23 => .all Int fun x24 => .all Int fun q => .asm (fun _=>p ()≤q∧q≤p ()+200) (.ret (.agg [cI x0,cI x1,cI x2,cI x3,cI x4,cI x5,cI x6,cI x7,cI x8,cI x9,cI x10,cI x11,cI x12,cI x13,cI x14,cI x15,cI x16,cI x17,cI x18,cI x19,cI x20,cI x21,cI x22,cI x23,cI x24],fun _=>q)))⟩
theorem b0h:b6 Tryz.prog 174 a8F:=j3 b9 (ss := [(205,a5F),(48,A9),(21,G0),(156,C8),(206,a0K)]) ⟨a6f,C9,C1,I0,a1l,trivial⟩ rfl rfl<|by
 intro(bs:Th (List Int)) (p:Th Int) ⟨(m:Th PMap),u⟩ K hb hp0 ho h
 obtain⟨m,rfl⟩:=a8 m;obtain⟨bs,rfl⟩:=a8 bs;obtain⟨p,rfl⟩:=a8 p
 obtain⟨hpre,h⟩:=h
 have hpre:True∧0≤p∧p≤999000000000:=hpre.out
 refine⟨noAnn,noAnn,20,?_⟩
 cbv
 repeat' first|((with_reducible intro _);cbv)|(with_reducible refine And.intro ?_ ?_)
 all_goals first|(refine retK (h _ _ _ _ _ _ _ _ ?_) rfl;clear h)|(with_reducible refine Ob.mk ?_;clear h)|(clear h)
 all_goals(try simp only[eta0,RT.bytes]at *)
 all_goals(try dsimp only[RT.ty]at *)
 all_goals(try simp only[M1]at *)
 all_goals(first|rfl|omega|grind[b8])
theorem b9m:b6 Tryz.prog 132 b2f:=j3 b9 (ss := [(21,G0),(129,a7a),(177,a5H),(174,a8F)]) ⟨C1,a6j,a6i,b0h,trivial⟩ rfl rfl<|by
 intro(bs:Th (List Int)) (p:Th Int) ⟨(w:Th Wld),u⟩ K hb hp0 ho h
 obtain⟨w,rfl⟩:=a8 w;obtain⟨bs,rfl⟩:=a8 bs;obtain⟨p,rfl⟩:=a8 p
 obtain⟨hpre,h⟩:=h
 have hpre:True∧0≤p∧p≤998000000000:=hpre.out
 refine⟨noAnn,noAnn,20,?_⟩
 cbv
 repeat' first|((with_reducible intro _);cbv)|(with_reducible refine And.intro ?_ ?_)
 all_goals first|(refine retK (h _ _ _ _ _ _ _ _ _ _ _ _ _ _ _ _ _ _ _ _ _ _ _ _ _ _ ?_) rfl;clear h)|(with_reducible refine Ob.mk ?_;clear h)|(clear h)
 all_goals(try simp only[eta0,RT.bytes]at *)
 all_goals(try dsimp only[RT.ty]at *)
 all_goals(try simp only[M1]at *)
 all_goals(first|rfl|omega|grind[b8])
theorem c4h:b6 Tryz.prog 131 b6g:=j3 b9 (ss := [(21,G0),(175,a7h),(176,a9s),(174,a8F)]) ⟨C1,b0j,b7f,b0h,trivial⟩ rfl rfl<|by
 intro(bs:Th (List Int)) (p:Th Int) ⟨(w:Th Wld),(x:Th Msg),u⟩ K hb hp0 ho h
 obtain⟨w,rfl⟩:=a8 w;obtain⟨x,rfl⟩:=a8 x;obtain⟨bs,rfl⟩:=a8 bs;obtain⟨p,rfl⟩:=a8 p
 obtain⟨hpre,h⟩:=h
 have hpre:True∧0≤p∧p≤998000000000:=hpre.out
 refine⟨noAnn,noAnn,20,?_⟩
 cbv
 repeat' first|((with_reducible intro _);cbv)|(with_reducible refine And.intro ?_ ?_)
 all_goals first|(refine retK (h _ _ _ _ _ _ _ _ _ _ _ _ _ _ _ _ _ _ _ _ _ _ _ _ _ _ ?_) rfl;clear h)|(with_reducible refine Ob.mk ?_;clear h)|(clear h)
 all_goals(try simp only[eta0,RT.bytes]at *)
 all_goals(try dsimp only[RT.ty]at *)
 all_goals(try simp only[M1]at *)
 all_goals(first|rfl|omega|grind[b8])
end Go.Proofs.YtiioognflecdgaaGreat
