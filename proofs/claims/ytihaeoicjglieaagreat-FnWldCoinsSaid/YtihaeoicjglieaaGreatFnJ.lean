/-
  Contracts: the document's order, done in a cell.
-/
import Derived.Test.YtihaeoicjglieaaGreatGnF
import Derived.Test.YtihaeoicjglieaaGreatM1
set_option linter.unusedVariables false
set_option linter.unusedSimpArgs false
set_option maxRecDepth 100000
set_option maxHeartbeats 8000000
namespace Go.Proofs.YtihaeoicjglieaaGreat
open Go.Sx Go.Proofs Go.Mo
noncomputable def d5y:Sx.Spec:=⟨false,true,[.map,.row .cll,.ord],[nCll,[none]],fun _ _ ⟨m,c,o,_⟩ => .asrt (fun _=>s6 (m ()) (c ())=true∧O2 (o ())=true) (.ret (.tup [oCll fun _=>(J0 (m ()) (c ()) (o ())).c,vI fun _=>(J0 (m ()) (c ()) (o ())).code],fun _=>0))⟩
theorem d6w:b8 Tryz.prog 230 d5y:=j4 e9 (ss := [(181,R0),(256,a0M),(95,a0D),(159,a2c),(189,D6),(246,V0)]) ⟨a0R,a3D,a3a,b4q,K8,a6o,trivial⟩ rfl rfl<|by
 intro(bs:Th (List Int)) (p:Th Int) ⟨(m:Th PMap),(c:Th Cll),(o:Th Sx.Ord),u⟩ K _ _ ho h
 obtain⟨m,rfl⟩:=b6 m;obtain⟨c,rfl⟩:=b6 c;obtain⟨o,rfl⟩:=b6 o
 obtain⟨hpre,h⟩:=h
 have hpre:=hpre.out
 refine⟨noAnn,noAnn,20,?_⟩
 cbv
 repeat' first|((with_reducible intro _);cbv)|(with_reducible refine And.intro ?_ ?_)
 all_goals first|(refine retK h ?_;clear h;simp only[fin0])|(with_reducible refine Ob.mk ?_;clear h)|(clear h)
 all_goals(try simp only[eta0,RT.bytes]at *)
 all_goals have hcl:=hpre.1
 all_goals have hsr:=a9j hpre.1
 all_goals(try have hh:u3 c.wlks o.who=true:=by assumption)
 all_goals(try have hwb:=L7 hpre.1 (Q6 hh).1)
 all_goals(try simp only[B3,a4O hh,id_w hh,c4i hsr hh,d6f hsr hh,a6v hh,d4S hh,d4J,Bool.false_eq_true]at *)
 all_goals(try have ht:u3 c.wlks o.dest=true:=by assumption)
 all_goals(try have hne:=a1G hpre.2 (by assumption))
 all_goals(try simp only[d6T hh ht hne,a4O ht,id_w ht,d7j hsr hh ht,c2z hh ht,d4R hh ht hne,d6e hsr hh ht hne,List.length_set]at *)
 all_goals(try have hws:=c1i (o:=o) hpre.1 (Q6 hh).1 (by assumption))
 all_goals(try have hws:=c1h (o:=o) hpre.1 (Q6 hh).1 hpre.2 (by assumption) (by assumption))
 all_goals(try simp only[hws]at *)
 all_goals have hlen:=Q3 hpre.1
 all_goals have hf:=n5 hpre.1
 all_goals have hoi:=J9.1 hpre.2
 all_goals have hsd := @D3 m c hpre.1
 all_goals(try have hid:=id_w hh)
 all_goals(try have hpl:=Q6 hh)
 all_goals(try have hidt:=id_w ht)
 all_goals(try have hplt:=Q6 ht)
 all_goals(try have hwd:=L7 hpre.1 (Q6 ht).1)
 all_goals grind[J0,Q8,a0t,a0v,a0w,a0u,U3,I0,D5,H9,e8,b6W,Q6,a3s,a5X]
end Go.Proofs.YtihaeoicjglieaaGreat
