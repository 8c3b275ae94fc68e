/-
  Contracts: a world's step, the program's way.
-/
import Derived.Test.YtihaeoicjglieaaGreatGsB
import Derived.Test.YtihaeoicjglieaaGreatInsG
import Derived.Test.YtihaeoicjglieaaGreatGnW
import Derived.Test.YtihaeoicjglieaaGreatGrT
import Derived.Test.YtihaeoicjglieaaGreatGnT
import Derived.Test.YtihaeoicjglieaaGreatGsT
set_option linter.unusedVariables false
set_option linter.unusedSimpArgs false
set_option maxRecDepth 100000
set_option maxHeartbeats 16000000
namespace Go.Proofs.YtihaeoicjglieaaGreat
open Go.Sx Go.Proofs Go.Mo
noncomputable def c9F:Sx.Io:=⟨.row .wld,true,[.row .evt],[],fun w ⟨e,_⟩ => .asrt (fun _=>j8 (w ())=true) (.ret (.tup [],fun _=>v5 (w ()) (e ())))⟩
theorem d4c:b8 Tryz.prog 53 (ioX c9F):=io1 e9 (ss := [(57,sIn),(109,(ioX c3R)),(110,(ioX c1t)),(111,(ioX d5A)),(173,X2),(174,M7),(113,(ioX c3X)),(114,a8H),(115,d5v),(41,a6W)]) ⟨okIn,d0M,c4y,d6z,d0A,a4F,d0T,b1H,d6t,b8Z,trivial⟩ rfl rfl<|by
 intro(w:Th Wld) ⟨(e:Th Evt),u⟩ K _ ho h
 obtain⟨w,rfl⟩:=b6 w;obtain⟨e,rfl⟩:=b6 e
 obtain⟨ha,h⟩:=h
 have ha:=ha.out
 have hok:j8 w=true:=ha
 have hF:=L5 hok
 have hI1:inR e.pos 0 (IntKind.i64.wrap ((w.net.length:Int)-1))=decide (0≤e.pos∧e.pos<(w.net.length:Int)):=b6R e.pos w.net.length (by have:=hF.2.2.2.1;omega)
 have hI2:inR e.pos 0 (IntKind.i64.wrap ((w.servers.length:Int)-1))=decide (0≤e.pos∧e.pos<(w.servers.length:Int)):=b6R e.pos w.servers.length (by have:=hF.2.2.2.2.2.2.2.2;omega)
 have hr:=a2C w.rows e.pos
 refine⟨noAnn,noAnn,20,?_⟩
 cbv
 repeat' first|((with_reducible intro _);cbv)|(with_reducible refine And.intro ?_ ?_)
 all_goals first|refine ioK h ?_ ?_|(with_reducible refine Ob.mk ?_;clear h)|(clear h)
 all_goals(try clear h)
 all_goals(try clear K)
 all_goals(try simp only[fin0])
 all_goals(try simp only[eta0,RT.bytes]at *)
 all_goals(try simp only[hI1,hI2,decide_eq_true_eq,decide_eq_false_iff_not]at *)
 all_goals(try dsimp only[RT.ty]at *)
 all_goals(try simp only[a6r]at *)
 all_goals(try have hF4:=hF.2.2.2.1)
 all_goals(try have hF9:=hF.2.2.2.2.2.2.2.2)
 all_goals(try clear hI1)
 all_goals(try clear hI2)
 all_goals(try have hW:IntKind.i64.wrap (e.pos+1)=e.pos+1:=e8 (by omega) (by omega))
 all_goals first|omega|assumption|exact c9j hF.1|exact b2g hF.2.2.1|exact⟨hF.2.2.2.1,by omega⟩|exact⟨hF.2.2.2.1,Nat.le_trans c9i (by omega)⟩|exact hF.2.2.2.2.2.2.1 _ (by omega)|exact d1Q (c9j hF.1) (by assumption)|exact⟨hok,by omega⟩|exact st1 (by assumption) (by assumption)|exact st1n (by assumption) (by assumption)|exact st2 (by assumption)|exact st3 (by assumption) (by assumption) (by assumption) (by assumption)|exact st3n (by assumption) (.inl (by assumption))|exact st3n (by assumption) (.inr (.inl (by assumption)))|exact st3n (by assumption) (.inr (.inr (by assumption)))|exact st4 (by assumption) (by omega)|exact st5 (by assumption) (by omega)|exact st6 (by assumption) (by omega)|exact st7 (by assumption) (by omega)|exact st8 (by assumption) (by omega)|exact st9 (by assumption) (by omega) (by assumption)|exact stn9 (by assumption) (by assumption)|exact stn (by omega)
noncomputable def T9:Sx.Spec:=⟨false,false,[.row .wld,.row .evt],[nWld],fun _ _ ⟨w,e,_⟩ => .ret (rAs (X0 fun _=>b9 (w ()) (e ())),fun _=>0)⟩
theorem X4:b8 Tryz.prog 16 T9:=j4 e9 (ss := [(21,Q5),(52,b0O),(53,(ioX c9F))]) ⟨a5r,c2c,d4c,trivial⟩ rfl rfl<|by
 intro(bs:Th (List Int)) (p:Th Int) ⟨(w:Th Wld),(e:Th Evt),u⟩ K _ _ ho h
 obtain⟨w,rfl⟩:=b6 w;obtain⟨e,rfl⟩:=b6 e
 refine⟨noAnn,noAnn,20,?_⟩
 cbv
 repeat' first|((with_reducible intro _);cbv)|(with_reducible refine And.intro ?_ ?_)
 all_goals first|(refine retK h ?_;clear h;simp only[fin0])|(with_reducible refine Ob.mk ?_;clear h)|(clear h)
 all_goals(try simp only[eta0,RT.bytes]at *)
 all_goals grind[b9,a1f]
end Go.Proofs.YtihaeoicjglieaaGreat
