/-
  Contracts: a world's step, the program's way.
-/
import Derived.Test.YtmnapekfeenknaaGreatFy
import Derived.Test.YtmnapekfeenknaaGreatMy
import Derived.Test.YtmnapekfeenknaaGreatGsB
import Derived.Test.YtmnapekfeenknaaGreatGnVe
import Derived.Test.YtmnapekfeenknaaGreatFnQ
import Derived.Test.YtmnapekfeenknaaGreatGsD
import Derived.Test.YtmnapekfeenknaaGreatGnT
import Derived.Test.YtmnapekfeenknaaGreatGsT
set_option linter.unusedVariables false
set_option linter.unusedSimpArgs false
set_option maxRecDepth 100000
set_option maxHeartbeats 16000000
namespace Go.Proofs.YtmnapekfeenknaaGreat
open Go.Sx Go.Proofs Go.Mo
noncomputable def d0P:Sx.Io:=⟨.row .wld,true,[.row .evt],[],fun w ⟨e,_⟩ => .asrt (fun _=>m8 (w ())=true) (.ret (.tup [],fun _=>y8 (w ()) (e ())))⟩
theorem d5A:b9 Tryz.prog 102 (ioX d0P):=io1 j3 (ss := [(50,sIn),(154,(ioX c4Q)),(155,(ioX c2p)),(156,(ioX d7c)),(196,Z4),(129,L5),(158,(ioX c4W)),(159,a9v),(160,d6X),(53,a7K)]) ⟨okIn,d2c,c5w,d8d,d1M,a2F,d2k,b2y,d7Y,b9X,trivial⟩ rfl rfl<|by
 intro(w:Th Wld) ⟨(e:Th Evt),u⟩ K _ ho h
 obtain⟨w,rfl⟩:=b6 w;obtain⟨e,rfl⟩:=b6 e
 obtain⟨ha,h⟩:=h
 have ha:=ha.out
 have hok:m8 w=true:=ha
 have hF:=O2 hok
 have hI1:inR e.pos 0 (IntKind.i64.wrap ((w.net.length:Int)-1))=decide (0≤e.pos∧e.pos<(w.net.length:Int)):=b7K e.pos w.net.length (by have:=hF.2.2.2.1;omega)
 have hI2:inR e.pos 0 (IntKind.i64.wrap ((w.servers.length:Int)-1))=decide (0≤e.pos∧e.pos<(w.servers.length:Int)):=b7K e.pos w.servers.length (by have:=hF.2.2.2.2.2.2.2.2;omega)
 have hr:=a2W w.rows e.pos
 refine⟨noAnn,noAnn,20,?_⟩
 cbv
 repeat' first|((with_reducible intro _);cbv)|(with_reducible refine And.intro ?_ ?_)
 all_goals first|refine ioK h ?_ ?_|(with_reducible refine Ob.mk ?_;clear h)|(clear h)
 all_goals(try clear h)
 all_goals(try clear K)
 all_goals(try simp only[fin0])
 all_goals(try simp only[eta0,RT.bytes]at *)
 all_goals(try simp only[hI1,hI2,decide_eq_true_eq,decide_eq_false_iff_not]at *)
 all_goals(try dsimp only[RT.ty]at *)
 all_goals(try simp only[a9I]at *)
 all_goals(try have hF4:=hF.2.2.2.1)
 all_goals(try have hF9:=hF.2.2.2.2.2.2.2.2)
 all_goals(try clear hI1)
 all_goals(try clear hI2)
 all_goals(try have hW:IntKind.i64.wrap (e.pos+1)=e.pos+1:=e9 (by omega) (by omega))
 all_goals first|omega|assumption|exact d0r hF.1|exact b3a hF.2.2.1|exact⟨hF.2.2.2.1,by omega⟩|exact⟨hF.2.2.2.1,Nat.le_trans d0q (by omega)⟩|exact hF.2.2.2.2.2.2.1 _ (by omega)|exact d3n (d0r hF.1) (by assumption)|exact⟨hok,by omega⟩|exact st1 (by assumption) (by assumption)|exact st1n (by assumption) (by assumption)|exact st2 (by assumption)|exact st3 (by assumption) (by assumption) (by assumption) (by assumption)|exact st3n (by assumption) (.inl (by assumption))|exact st3n (by assumption) (.inr (.inl (by assumption)))|exact st3n (by assumption) (.inr (.inr (by assumption)))|exact st4 (by assumption) (by omega)|exact st5 (by assumption) (by omega)|exact st6 (by assumption) (by omega)|exact st7 (by assumption) (by omega)|exact st8 (by assumption) (by omega)|exact st9 (by assumption) (by omega) (by assumption)|exact stn9 (by assumption) (by assumption)|exact stn (by omega)
noncomputable def b4P:Sx.Spec:=⟨false,false,[.row .wld,.row .evt],[nWld],fun _ _ ⟨w,e,_⟩ => .ret (rAs (a3e fun _=>m4 (w ()) (e ())),fun _=>0)⟩
theorem c7X:b9 Tryz.prog 39 b4P:=j5 j3 (ss := [(18,a2T),(101,b6L),(102,(ioX d0P))]) ⟨a8l,c3b,d5A,trivial⟩ rfl rfl<|by
 intro(bs:Th (List Int)) (p:Th Int) ⟨(w:Th Wld),(e:Th Evt),u⟩ K _ _ ho h
 obtain⟨w,rfl⟩:=b6 w;obtain⟨e,rfl⟩:=b6 e
 refine⟨noAnn,noAnn,20,?_⟩
 cbv
 repeat' first|((with_reducible intro _);cbv)|(with_reducible refine And.intro ?_ ?_)
 all_goals first|(refine retK h ?_;clear h;simp only[fin0])|(with_reducible refine Ob.mk ?_;clear h)|(clear h)
 all_goals(try simp only[eta0,RT.bytes]at *)
 all_goals grind[m4,R4]
end Go.Proofs.YtmnapekfeenknaaGreat
