/-
  Contracts: the document's order, done in a cell.
-/
import Derived.Test.YtmnapekfeenknaaGreatFnI
import Derived.Test.YtmnapekfeenknaaGreatM1
set_option linter.unusedVariables false
set_option linter.unusedSimpArgs false
set_option maxRecDepth 100000
set_option maxHeartbeats 8000000
namespace Go.Proofs.YtmnapekfeenknaaGreat
open Go.Sx Go.Proofs Go.Mo
noncomputable def d7a:Sx.Spec:=⟨false,true,[.map,.row .cll,.ord],[nCll,[none]],fun _ _ ⟨m,c,o,_⟩ => .asrt (fun _=>s5 (m ()) (c ())=true∧y9 (o ())=true) (.ret (.tup [oCll fun _=>(I8 (m ()) (c ()) (o ())).c,vI fun _=>(I8 (m ()) (c ()) (o ())).code],fun _=>0))⟩
theorem d8b:b9 Tryz.prog 239 d7a:=j5 j3 (ss := [(202,R6),(259,a1h),(110,a0X),(172,a1C),(117,B6),(137,O5)]) ⟨a2i,a4m,a3E,b5p,N7,a4n,trivial⟩ rfl rfl<|by
 intro(bs:Th (List Int)) (p:Th Int) ⟨(m:Th PMap),(c:Th Cll),(o:Th Sx.Ord),u⟩ K _ _ ho h
 obtain⟨m,rfl⟩:=b6 m;obtain⟨c,rfl⟩:=b6 c;obtain⟨o,rfl⟩:=b6 o
 obtain⟨hpre,h⟩:=h
 have hpre:=hpre.out
 refine⟨noAnn,noAnn,20,?_⟩
 cbv
 repeat' first|((with_reducible intro _);cbv)|(with_reducible refine And.intro ?_ ?_)
 all_goals first|(refine retK h ?_;clear h;simp only[fin0])|(with_reducible refine Ob.mk ?_;clear h)|(clear h)
 all_goals(try simp only[eta0,RT.bytes]at *)
 all_goals have hcl:=hpre.1
 all_goals have hsr:=b0a hpre.1
 all_goals(try have hh:u4 c.wlks o.who=true:=by assumption)
 all_goals(try have hwb:=K9 hpre.1 (T6 hh).1)
 all_goals(try simp only[z8,a5z hh,id_w hh,c5f hsr hh,d7I hsr hh,a7i hh,d6t hh,d6k,Bool.false_eq_true]at *)
 all_goals(try have ht:u4 c.wlks o.dest=true:=by assumption)
 all_goals(try have hne:=a0l hpre.2 (by assumption))
 all_goals(try simp only[d8C hh ht hne,a5z ht,id_w ht,d8X hsr hh ht,c3y hh ht,d6s hh ht hne,d7H hsr hh ht hne,List.length_set]at *)
 all_goals(try have hws:=c2e (o:=o) hpre.1 (T6 hh).1 (by assumption))
 all_goals(try have hws:=c2d (o:=o) hpre.1 (T6 hh).1 hpre.2 (by assumption) (by assumption))
 all_goals(try simp only[hws]at *)
 all_goals have hlen:=Z7 hpre.1
 all_goals have hf:=o7 hpre.1
 all_goals have hoi:=G6.1 hpre.2
 all_goals have hsd := @E1 m c hpre.1
 all_goals(try have hid:=id_w hh)
 all_goals(try have hpl:=T6 hh)
 all_goals(try have hidt:=id_w ht)
 all_goals(try have hplt:=T6 ht)
 all_goals(try have hwd:=K9 hpre.1 (T6 ht).1)
 all_goals grind[I8,S1,a0z,a0B,a0C,a0A,U0,I1,D2,H7,e9,b7P,T6,a3U,a6H]
end Go.Proofs.YtmnapekfeenknaaGreat
