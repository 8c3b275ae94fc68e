/-
  Contracts: the document's order, done in a cell.
-/
import Derived.Test.YtiioognflecdgaaGreatGnJ
import Derived.Test.YtiioognflecdgaaGreatM1
set_option linter.unusedVariables false
set_option linter.unusedSimpArgs false
set_option maxRecDepth 100000
set_option maxHeartbeats 8000000
namespace Go.Proofs.YtiioognflecdgaaGreat
open Go.Sx Go.Proofs Go.Mo
noncomputable def d1E:Sx.Spec:=⟨false,true,[.map,.row .cll,.ord],[nCll,[none]],fun _ _ ⟨m,c,o,_⟩ => .asrt (fun _=>p9 (m ()) (c ())=true∧S1 (o ())=true) (.ret (.tup [oCll fun _=>(K3 (m ()) (c ()) (o ())).c,vI fun _=>(K3 (m ()) (c ()) (o ())).code],fun _=>0))⟩
theorem d2G:b6 Tryz.prog 217 d1E:=j3 b9 (ss := [(167,N7),(236,Z6),(56,Y9),(102,a1e),(156,C8),(188,R8)]) ⟨Z9,a2D,a1U,b2A,I0,a4W,trivial⟩ rfl rfl<|by
 intro(bs:Th (List Int)) (p:Th Int) ⟨(m:Th PMap),(c:Th Cll),(o:Th Sx.Ord),u⟩ K _ _ ho h
 obtain⟨m,rfl⟩:=a8 m;obtain⟨c,rfl⟩:=a8 c;obtain⟨o,rfl⟩:=a8 o
 obtain⟨hpre,h⟩:=h
 have hpre:=hpre.out
 refine⟨noAnn,noAnn,20,?_⟩
 cbv
 repeat' first|((with_reducible intro _);cbv)|(with_reducible refine And.intro ?_ ?_)
 all_goals first|(refine retK h ?_;clear h;simp only[fin0])|(with_reducible refine Ob.mk ?_;clear h)|(clear h)
 all_goals(try simp only[eta0,RT.bytes]at *)
 all_goals have hcl:=hpre.1
 all_goals have hsr:=b3d hpre.1
 all_goals(try have hh:s8 c.wlks o.who=true:=by assumption)
 all_goals(try have hwb:=L7 hpre.1 (R3 hh).1)
 all_goals(try simp only[B4,a5g hh,id_w hh,c1r hsr hh,d2r hsr hh,a5e hh,d1d hh,d0V,Bool.false_eq_true]at *)
 all_goals(try have ht:s8 c.wlks o.dest=true:=by assumption)
 all_goals(try have hne:=a6b hpre.2 (by assumption))
 all_goals(try simp only[d3a hh ht hne,a5g ht,id_w ht,d3r hsr hh ht,b9R hh ht,d1c hh ht hne,d2q hsr hh ht hne,List.length_set]at *)
 all_goals(try have hws:=b8y (o:=o) hpre.1 (R3 hh).1 (by assumption))
 all_goals(try have hws:=b8x (o:=o) hpre.1 (R3 hh).1 hpre.2 (by assumption) (by assumption))
 all_goals(try simp only[hws]at *)
 all_goals have hlen:=Q6 hpre.1
 all_goals have hf:=o7 hpre.1
 all_goals have hoi:=N4.1 hpre.2
 all_goals have hsd := @C6 m c hpre.1
 all_goals(try have hid:=id_w hh)
 all_goals(try have hpl:=R3 hh)
 all_goals(try have hidt:=id_w ht)
 all_goals(try have hplt:=R3 ht)
 all_goals(try have hwd:=L7 hpre.1 (R3 ht).1)
 all_goals grind[K3,R4,a0i,a0k,a0l,a0j,S7,F8,H6,H7,b8,b4P,R3,a2p,a4L]
end Go.Proofs.YtiioognflecdgaaGreat
