/-
  Contracts: a world and an event, drawn.
-/
import Derived.Test.YtihaeoicjglieaaGreatMx
import Derived.Test.YtihaeoicjglieaaGreatGrAh
import Derived.Test.YtihaeoicjglieaaGreatGnW
import Derived.Test.YtihaeoicjglieaaGreatM7
set_option linter.unusedVariables false
set_option linter.unusedSimpArgs false
set_option maxRecDepth 100000
set_option maxHeartbeats 8000000
namespace Go.Proofs.YtihaeoicjglieaaGreat
open Go.Sx Go.Proofs Go.Mo
noncomputable def d3a (p:Th Int) (B n:Int):Rn (V×Th Int) := .asrt (fun _=>0≤p ()∧p ()≤B) (.all Int fun a => .all Int fun b => .all (List Srv) fun c => .all (List Sto) fun d => .all (List Int) fun e => .all (List Int) fun f => .all (List Row) fun g => .all (List Msg) fun h => .all (List Note) fun i => .all Int fun q => .asm (fun _=>p ()≤q∧q≤p ()+n) (.ret (rWld a b c d e f g h i,fun _=>q)))
noncomputable def c3H:Sx.Spec:=⟨true,false,[.row .wld],[nWld],fun _ p ⟨w,_⟩ => .asrt (fun _=>j8 (w ())=true) (d3a p 950000000000 400000)⟩
noncomputable def d5B:Sx.Spec:=⟨true,false,[.int .i64],[nWld],fun _ p ⟨n,_⟩=>d3a p 940000000000 700000⟩
noncomputable def W0:Sx.Spec:=⟨false,false,[.list .byte],[nWld,[none,none,none,none,none]],fun _ _ _ => .all Int fun a => .all Int fun b => .all (List Srv) fun c => .all (List Sto) fun d => .all (List Int) fun e => .all (List Int) fun f => .all (List Row) fun g => .all (List Msg) fun h => .all (List Note) fun i => .all Int fun x0 => .all Int fun x1 => .all Int fun x2 => .all Int fun x3 => .all Int fun x4 => .ret (.tup [rWld a b c d e f g h i,.agg [cI x0,cI x1,cI x2,cI x3,cI x4]],fun _=>0)⟩
theorem d0x:b8 Tryz.prog 141 c3H:=j4 e9 (ss := [(84,b0O),(46,J4),(190,sMap),(191,b8c),(192,a8A),(193,c9N),(195,b3T),(194,b8p)]) ⟨b4u,D2,d5E,c6S,a7A,d4o,c1X,c7o,trivial⟩ rfl rfl<|by
 intro(bs:Th (List Int)) (p:Th Int) ⟨(w:Th Wld),u⟩ K hb hp0 ho h
 obtain⟨w,rfl⟩:=b6 w;obtain⟨bs,rfl⟩:=b6 bs;obtain⟨p,rfl⟩:=b6 p
 obtain⟨hwk,hpre,h⟩:=h
 have hwk:j8 w=true:=hwk.out
 have hpre:0≤p∧p≤950000000000:=hpre.out
 have hF:=L5 hwk
 have hf:=d3x hwk
 have hz:w.servers.length≤3∧w.notes.length≤150∧w.stores.length≤4∧w.net.length≤40:=⟨hF.2.2.2.2.2.2.2.2,hF.2.2.2.2.1,hf.1,hF.2.2.2.1⟩
 have hR:=fun(i:Int) (h1:i<(w.stores.length:Int)) (h0:0≤i)=>(hf.2.2 i.toNat (by omega)).2
 clear hF
 refine⟨noAnn,annL [(141,7,⟨Th Bool×Th Bool,[⟨.cell 4 2,some 1000000000007426,.srv⟩],fun σ g=>(σ.h 7426 (1,.row false 0 .srv (σ.rowL .srv 7426))).t 26 (.one (.att (.bool (.of g.1)))),fun _ g _=>Ob fun _=>True,fun _ _ _=>0⟩)],20,?_⟩
 cbv
 repeat' first|((with_reducible refine fun(g:Th Bool×Th Bool) => ?_);obtain⟨k,z⟩:=g;obtain⟨k,rfl⟩:=b6 k;obtain⟨z,rfl⟩:=b6 z;(with_reducible refine ImpB.out ?_);cbv;(with_reducible refine ImpB.mk ?_);intro hq;obtain⟨hq⟩:=hq)|((with_reducible intro _);cbv)|(with_reducible refine And.intro ?_ ?_)
 all_goals try((first|(with_reducible refine LoopIn.wf (fun σ => (σ.tmB 26,s5)) ?_ ?_)|(with_reducible refine LoopBack.wf (fun σ => (σ.tmB 26,s5)) ?_ ?_ ?_))<;>cbv)
 all_goals try(with_reducible show _∧_;(try simp only[and_true,true_and]))
 all_goals try(repeat' with_reducible refine And.intro ?_ ?_)
 all_goals try(with_reducible refine MeasB.mk ?_)
 all_goals first|(refine retK (h _ _ _ _ _ _ _ _ _ _ ?_) rfl;clear h)|(with_reducible refine Ob.mk ?_;clear h)|(clear h)
 all_goals(try simp only[eta0,RT.bytes]at *)
 all_goals(try dsimp only[RT.ty]at *)
 all_goals(try simp only[S6]at *)
 all_goals(try simp only[List.length_append,List.length_cons,List.length_nil]at *)
 all_goals(first|rfl|omega|grind[e8]|(have hR2:=hR _ (by assumption) (by omega);dsimp only[RT.ty]at *;omega))
theorem d6A:b8 Tryz.prog 81 d5B:=j4 e9 (ss := [(140,b5K),(46,J4),(141,c3H)]) ⟨b6r,D2,d0x,trivial⟩ rfl rfl<|by
 intro(bs:Th (List Int)) (p:Th Int) ⟨(n:Th Int),u⟩ K hb hp0 ho h
 obtain⟨n,rfl⟩:=b6 n;obtain⟨bs,rfl⟩:=b6 bs;obtain⟨p,rfl⟩:=b6 p
 obtain⟨hpre,h⟩:=h
 have hpre:0≤p∧p≤940000000000:=hpre.out
 refine⟨noAnn,noAnn,20,?_⟩
 cbv
 repeat' first|((with_reducible intro _);cbv)|(with_reducible refine And.intro ?_ ?_)
 all_goals first|(refine retK (h _ _ _ _ _ _ _ _ _ _ ?_) rfl;clear h)|(with_reducible refine Ob.mk ?_;clear h)|(clear h)
 all_goals(try simp only[eta0,RT.bytes]at *)
 all_goals(try dsimp only[RT.ty]at *)
 all_goals(try simp only[S6]at *)
 all_goals(first|rfl|omega|grind[e8])
theorem X5:b8 Tryz.prog 31 W0:=j4 e9 (ss := [(81,d5B),(82,b5S),(46,J4)]) ⟨d6A,b9s,D2,trivial⟩ rfl rfl<|by
 intro(bs:Th (List Int)) (p:Th Int) ⟨(l:Th (List Int)),u⟩ K hb hp0 ho h
 obtain⟨l,rfl⟩:=b6 l
 refine⟨noAnn,noAnn,20,?_⟩
 cbv
 repeat' first|((with_reducible intro _);cbv)|(with_reducible refine And.intro ?_ ?_)
 all_goals first|(refine retK (h _ _ _ _ _ _ _ _ _ _ _ _ _ _) rfl;clear h)|(refine retK (h _ _ _ _ _ _ _ _ _ _ _ _ _ _) rfl)|(with_reducible refine Ob.mk ?_;clear h)|(clear h)
 all_goals(try simp only[eta0,RT.bytes]at *)
 all_goals(try dsimp only[RT.ty]at *)
 all_goals(try simp only[S6]at *)
 all_goals(first|rfl|omega|grind[e8])
end Go.Proofs.YtihaeoicjglieaaGreat
