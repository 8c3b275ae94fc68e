/-
  Contracts: a world's step, the program's way.
-/
import Derived.Test.YtiioognflecdgaaGreatGsB
import Derived.Test.YtiioognflecdgaaGreatGnW
import Derived.Test.YtiioognflecdgaaGreatGrT
import Derived.Test.YtiioognflecdgaaGreatGnT
import Derived.Test.YtiioognflecdgaaGreatGsT
set_option linter.unusedVariables false
set_option linter.unusedSimpArgs false
set_option maxRecDepth 100000
set_option maxHeartbeats 16000000
namespace Go.Proofs.YtiioognflecdgaaGreat
open Go.Sx Go.Proofs Go.Mo
noncomputable def a9k:Sx.Io:=⟨.row .wld,true,[.row .evt],[],fun w ⟨e,_⟩ => .asrt (fun _=>j6 (w ())=true) (.ret (.tup [],fun _=>m9 (w ()) (e ())))⟩
theorem a8H:b6 Tryz.prog 24 (ioX a9k):=io1 b9 (ss := [(38,sIn),(66,(ioX c1c)),(67,(ioX b8G)),(68,(ioX d1G)),(112,U4),(75,E6),(70,(ioX b3U)),(71,a7g),(72,d1A),(73,a8D)]) ⟨okIn,c7j,c1D,d2J,c6V,a0a,b7e,b0i,d2D,c6S,trivial⟩ rfl rfl<|by
 intro(w:Th Wld) ⟨(e:Th Evt),u⟩ K _ ho h
 obtain⟨w,rfl⟩:=a8 w;obtain⟨e,rfl⟩:=a8 e
 obtain⟨ha,h⟩:=h
 have ha:=ha.out
 have hok:j6 w=true:=ha
 have hF:=I5 hok
 have hI1:inR e.pos 0 (IntKind.i64.wrap ((w.net.length:Int)-1))=decide (0≤e.pos∧e.pos<(w.net.length:Int)):=b4L e.pos w.net.length (by have:=hF.2.2.2.1;omega)
 have hI2:inR e.pos 0 (IntKind.i64.wrap ((w.servers.length:Int)-1))=decide (0≤e.pos∧e.pos<(w.servers.length:Int)):=b4L e.pos w.servers.length (by have:=hF.2.2.2.2.2.2.2.2;omega)
 have hr:=a1A w.rows e.pos
 refine⟨noAnn,noAnn,20,?_⟩
 cbv
 repeat' first|((with_reducible intro _);cbv)|(with_reducible refine And.intro ?_ ?_)
 all_goals first|refine ioK h ?_ ?_|(with_reducible refine Ob.mk ?_;clear h)|(clear h)
 all_goals(try clear h)
 all_goals(try clear K)
 all_goals(try simp only[fin0])
 all_goals(try simp only[eta0,RT.bytes]at *)
 all_goals(try simp only[hI1,hI2,decide_eq_true_eq,decide_eq_false_iff_not]at *)
 all_goals(try dsimp only[RT.ty]at *)
 all_goals(try simp only[c7z]at *)
 all_goals(try have hF4:=hF.2.2.2.1)
 all_goals(try have hF9:=hF.2.2.2.2.2.2.2.2)
 all_goals(try clear hI1)
 all_goals(try clear hI2)
 all_goals(try have hW:IntKind.i64.wrap (e.pos+1)=e.pos+1:=b8 (by omega) (by omega))
 all_goals first|omega|assumption|exact c5O hF.1|exact b0H hF.2.2.1|exact⟨hF.2.2.2.1,by omega⟩|exact⟨hF.2.2.2.1,Nat.le_trans c5N (by omega)⟩|exact hF.2.2.2.2.2.2.1 _ (by omega)|exact c8j (c5O hF.1) (by assumption)|exact⟨hok,by omega⟩|exact st1 (by assumption) (by assumption)|exact st1n (by assumption) (by assumption)|exact st2 (by assumption)|exact st3 (by assumption) (by assumption) (by assumption) (by assumption)|exact st3n (by assumption) (.inl (by assumption))|exact st3n (by assumption) (.inr (.inl (by assumption)))|exact st3n (by assumption) (.inr (.inr (by assumption)))|exact st4 (by assumption) (by omega)|exact st5 (by assumption) (by omega)|exact st6 (by assumption) (by omega)|exact st7 (by assumption) (by omega)|exact st8 (by assumption) (by omega)|exact st9 (by assumption) (by omega) (by assumption)|exact stn9 (by assumption) (by assumption)|exact stn (by omega)
end Go.Proofs.YtiioognflecdgaaGreat
