/-
  Contracts: a world and an event, drawn.
-/
import Derived.Test.YtiioognflecdgaaGreatFx
import Derived.Test.YtiioognflecdgaaGreatMx
import Derived.Test.YtiioognflecdgaaGreatGrAh
import Derived.Test.YtiioognflecdgaaGreatGnW
import Derived.Test.YtiioognflecdgaaGreatM7
set_option linter.unusedVariables false
set_option linter.unusedSimpArgs false
set_option maxRecDepth 100000
set_option maxHeartbeats 8000000
namespace Go.Proofs.YtiioognflecdgaaGreat
open Go.Sx Go.Proofs Go.Mo
noncomputable def c9l (p:Th Int) (B n:Int):Rn (V×Th Int) := .asrt (fun _=>0≤p ()∧p ()≤B) (.all Int fun a => .all Int fun b => .all (List Srv) fun c => .all (List Sto) fun d => .all (List Int) fun e => .all (List Int) fun f => .all (List Row) fun g => .all (List Msg) fun h => .all (List Note) fun i => .all Int fun q => .asm (fun _=>p ()≤q∧q≤p ()+n∧g.length≤20∧d.length≤20) (.ret (rWld a b c d e f g h i,fun _=>q)))
noncomputable def c0S:Sx.Spec:=⟨true,false,[.row .wld],[nWld],fun _ p ⟨w,_⟩ => .asrt (fun _=>j6 (w ())=true) (c9l p 950000000000 400000)⟩
noncomputable def d1H:Sx.Spec:=⟨true,false,[.int .i64],[nWld],fun _ p ⟨n,_⟩=>c9l p 940000000000 700000⟩
theorem c6T:b6 Tryz.prog 90 c0S:=j3 b9 (ss := [(46,a3o),(21,G0),(127,sMap),(128,b5V),(129,a7a),(130,c6r),(132,b2f),(131,b6g)]) ⟨a7q,C1,d1K,c3K,a6j,d0x,b9m,c4h,trivial⟩ rfl rfl<|by
 intro(bs:Th (List Int)) (p:Th Int) ⟨(w:Th Wld),u⟩ K hb hp0 ho h
 obtain⟨w,rfl⟩:=a8 w;obtain⟨bs,rfl⟩:=a8 bs;obtain⟨p,rfl⟩:=a8 p
 obtain⟨hwk,hpre,h⟩:=h
 have hwk:j6 w=true:=hwk.out
 have hpre:0≤p∧p≤950000000000:=hpre.out
 have hF:=I5 hwk
 have hf:=c9H hwk
 have hz:w.servers.length≤3∧w.notes.length≤150∧w.stores.length≤4∧w.net.length≤40∧w.rows.length≤9:=⟨hF.2.2.2.2.2.2.2.2,hF.2.2.2.2.1,hf.1,hF.2.2.2.1,(a1C hwk).1⟩
 have hR:=fun(i:Int) (h1:i<(w.stores.length:Int)) (h0:0≤i)=>(hf.2.2 i.toNat (by omega)).2
 clear hF
 refine⟨noAnn,annL [(90,7,⟨Th Bool×Th Bool,[⟨.cell 4 2,some 1000000000007426,.srv⟩],fun σ g=>(σ.h 7426 (1,.row false 0 .srv (σ.rowL .srv 7426))).t 26 (.one (.att (.bool (.of g.1)))),fun _ g _=>Ob fun _=>True,fun _ _ _=>0⟩)],20,?_⟩
 cbv
 repeat' first|((with_reducible refine fun(g:Th Bool×Th Bool) => ?_);obtain⟨k,z⟩:=g;obtain⟨k,rfl⟩:=a8 k;obtain⟨z,rfl⟩:=a8 z;(with_reducible refine ImpB.out ?_);cbv;(with_reducible refine ImpB.mk ?_);intro hq;obtain⟨hq⟩:=hq)|((with_reducible intro _);cbv)|(with_reducible refine And.intro ?_ ?_)
 all_goals try((first|(with_reducible refine LoopIn.wf (fun σ => (σ.tmB 26,B6)) ?_ ?_)|(with_reducible refine LoopBack.wf (fun σ => (σ.tmB 26,B6)) ?_ ?_ ?_))<;>cbv)
 all_goals try(with_reducible show _∧_;(try simp only[and_true,true_and]))
 all_goals try(repeat' with_reducible refine And.intro ?_ ?_)
 all_goals try(with_reducible refine MeasB.mk ?_)
 all_goals first|(refine retK (h _ _ _ _ _ _ _ _ _ _ ?_) rfl;clear h)|(with_reducible refine Ob.mk ?_;clear h)|(clear h)
 all_goals(try simp only[eta0,RT.bytes]at *)
 all_goals(try dsimp only[RT.ty]at *)
 all_goals(try simp only[M1]at *)
 all_goals(try simp only[List.length_append,List.length_cons,List.length_nil]at *)
 all_goals(first|rfl|omega|grind[b8]|(have hR2:=hR _ (by assumption) (by omega);dsimp only[RT.ty]at *;omega))
theorem d2K:b6 Tryz.prog 39 d1H:=j3 b9 (ss := [(89,b3M),(21,G0),(90,c0S)]) ⟨b4o,C1,c6T,trivial⟩ rfl rfl<|by
 intro(bs:Th (List Int)) (p:Th Int) ⟨(n:Th Int),u⟩ K hb hp0 ho h
 obtain⟨n,rfl⟩:=a8 n;obtain⟨bs,rfl⟩:=a8 bs;obtain⟨p,rfl⟩:=a8 p
 obtain⟨hpre,h⟩:=h
 have hpre:0≤p∧p≤940000000000:=hpre.out
 refine⟨noAnn,noAnn,20,?_⟩
 cbv
 repeat' first|((with_reducible intro _);cbv)|(with_reducible refine And.intro ?_ ?_)
 all_goals first|(refine retK (h _ _ _ _ _ _ _ _ _ _ ?_) rfl;clear h)|(with_reducible refine Ob.mk ?_;clear h)|(clear h)
 all_goals(try simp only[eta0,RT.bytes]at *)
 all_goals(try dsimp only[RT.ty]at *)
 all_goals(try simp only[M1]at *)
 all_goals(first|rfl|omega|(have hfw:=a1C (And.right (And.right (by assumption)));dsimp only at hfw;exact⟨by omega,by omega,by omega,by omega⟩)|grind[b8])
end Go.Proofs.YtiioognflecdgaaGreat
