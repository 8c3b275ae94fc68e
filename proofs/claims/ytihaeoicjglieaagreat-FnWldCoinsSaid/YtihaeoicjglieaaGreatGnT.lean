/-
  Contracts: a world's step, the reference's way.
-/
import Derived.Test.YtihaeoicjglieaaGreatInsG
import Derived.Test.YtihaeoicjglieaaGreatGnW
import Derived.Test.YtihaeoicjglieaaGreatFnR
import Derived.Test.YtihaeoicjglieaaGreatM3
set_option linter.unusedVariables false
set_option linter.unusedSimpArgs false
set_option maxRecDepth 100000
set_option maxHeartbeats 16000000
namespace Go.Proofs.YtihaeoicjglieaaGreat
open Go.Sx Go.Proofs Go.Mo
noncomputable def N7:Sx.Spec:=⟨false,false,[.row .wld,.row .evt],[nWld],fun _ _ ⟨w,e,_⟩ => .ret (rAs (X0 fun _=>b9 (w ()) (e ())),fun _=>0)⟩
noncomputable def b8e:Sx.Spec:=⟨false,true,[],[[none,some .hld,some .gst]],fun _ _ _ => .ret (oSrv fun _=>⟨true,[],[]⟩,fun _=>0)⟩
theorem c6V:b8 Tryz.prog 163 b8e:=j4 e9 (ss := []) trivial rfl rfl<|by
 intro(bs:Th (List Int)) (p:Th Int) u K _ _ ho h
 refine⟨noAnn,noAnn,20,?_⟩
 cbv
 repeat' first|((with_reducible refine fun(k:Nat) => ?_);cbv)|((with_reducible intro _);cbv)|(with_reducible refine And.intro ?_ ?_)
 all_goals first|(refine retK h ?_;clear h;simp only[fin0])|(with_reducible refine Ob.mk ?_;clear h)|(clear h)
 all_goals(try simp only[eta0,RT.bytes]at *)
def d5j:Ann:=⟨Nat,[],fun σ k=>(fun(kv kn:Nat) (L M:Th (List Msg))=>(((((σ.thin kv).only [1,2,4]).t 5 (vI fun _=>(k:Int))).u7 kv 7 (.own kn 1)).h kn (1,.row true 0 .msg (fun _=>L ()++(M ()).take k)))) (σ.pk 2) (σ.okC (σ.pk 2) 7) (σ.rowM (σ.okC (σ.pk 2) 7)) (σ.tmM 1),
 fun σ k _=>Ob ((fun(L M:Th (List Msg))=>fun _=>k≤(M ()).length∧(L ()).length+k≤40) (σ.rowM (σ.okC (σ.pk 2) 7)) (σ.tmM 1)),fun _ k _=>41-k⟩
def d7c:Ann:=⟨Nat,[⟨.cell 7170 2,some 1000000000006402,.srv⟩],fun σ k=>(fun(kv ko:Nat) (N:Th (List Msg)) (a:Th Int) (L:Th (List Srv))=>((((((σ.thin kv).only [1,2,4]).t 6 (vI fun _=>(k:Int))).t 5 (vO ko 1)).h ko (1,.row true 0 .msg (fun _=>a0X (N ()) (a ()).toNat k))).u7 7170 2 (.own 6402 1)).h 6402 (1,.row false 0 .srv L)) (σ.pk 2) (σ.okT 5) (σ.rowM (σ.okC (σ.pk 2) 7)) (σ.tmI 1) (σ.rowL .srv 6402),
 fun σ k _=>Ob ((fun(N:Th (List Msg))=>fun _=>k≤(N ()).length∧k≤40) (σ.rowM (σ.okC (σ.pk 2) 7))),fun _ k _=>41-k⟩
theorem N1:b8 Tryz.prog 32 N7:=j4 e9 (ss := [(33,Q5),(84,b0O),(196,b3Z),(144,c3P),(145,c3N),(148,sIn),(238,b8m),(200,b3S),(150,b8b),(163,b8e)]) ⟨V2,b4u,b9h,c6Z,c6X,I5,c1U,c1T,c1S,c6V,trivial⟩ rfl rfl<|by
 intro(bs:Th (List Int)) (p:Th Int) ⟨(w:Th Wld),(e:Th Evt),u⟩ K _ _ ho h
 obtain⟨w,rfl⟩:=b6 w;obtain⟨e,rfl⟩:=b6 e
 have hb0:=okB (ho.1 _ (.tail _ (.tail _ (.head _))))
 have hF := @L5 w
 have hI1:j8 w=true→inR e.pos 0 (IntKind.i64.wrap ((w.net.length:Int)-1))=decide (0≤e.pos∧e.pos<(w.net.length:Int)):=fun h=>b6R e.pos w.net.length (by have:=(hF h).2.2.2.1;omega)
 have hI2:j8 w=true→inR e.pos 0 (IntKind.i64.wrap ((w.servers.length:Int)-1))=decide (0≤e.pos∧e.pos<(w.servers.length:Int)):=fun h=>b6R e.pos w.servers.length (by have:=(hF h).2.2.2.2.2.2.2.2;omega)
 have h0 := @L9 w e
 have h1 := @d6c w e
 have h2 := @d6b w e
 have h3 := @d6a w e
 have h4 := @c3s w e
 have h4g := @d3B w e
 have h4h := @c3t w e
 have h4x:=fun(a:j8 w=true) (b:e.kind=4) (c:inR e.pos 0 (IntKind.i64.wrap ((w.net.length:Int)-1))=false)=>c3s a b (by rw[hI1 a]at c;simpa using c)
 have h4y:=fun(a:j8 w=true) (b:e.kind=4) (c:inR e.pos 0 (IntKind.i64.wrap ((w.net.length:Int)-1))=true)=>c3t a b (by rw[hI1 a]at c;simpa using c)
 have h6x:=fun(a:j8 w=true) (b:e.kind=6) (c:inR e.pos 0 (IntKind.i64.wrap ((w.net.length:Int)-1))=true)=>(c9r a b).trans (if_pos (by rw[hI1 a]at c;simpa using c))
 have h5 := @d5Z w e
 have h6 := @c9r w e
 have h7 := @d5Y w e
 have h8 := @d5X w e
 have h9 := @c9q w e
 have h9x:=fun(a:j8 w=true) (b:e.kind=9) (c:inR e.pos 0 (IntKind.i64.wrap ((w.servers.length:Int)-1))=false)=>(c9q a b).trans (if_neg (fun hq=>by rw[hI2 a]at c;simp only[decide_eq_false_iff_not]at c;exact c ⟨hq.1,hq.2.1⟩))
 have hn := @d3A w e
 have hG := @c7V w.map w.table w.servers.length e.pos e.dest
 have hC:=c8s w.net e.pos.toNat
 refine⟨annL [(146,2,d5j),(149,3,d7c)],noAnn,20,?_⟩
 cbv
 repeat' first|((with_reducible refine fun(k:Nat) => ?_);(with_reducible refine ImpB.out ?_);cbv;(with_reducible refine ImpB.mk ?_);intro hq;obtain⟨hq⟩:=hq)|((with_reducible intro _);cbv)|(with_reducible refine And.intro ?_ ?_)
 all_goals try((first|(with_reducible refine LoopIn.wb ((0:Nat)) ?_ ?_)|(with_reducible refine LoopBack.wb ((k+1:Nat)) ?_ ?_ ?_))<;>cbv)
 all_goals try(with_reducible show _∧_;(try simp only[and_true,true_and]))
 all_goals try(repeat' with_reducible refine And.intro ?_ ?_)
 all_goals try(with_reducible refine MeasB.mk ?_)
 all_goals first|(refine retK h ?_;clear h;simp only[fin0])|(with_reducible refine Ob.mk ?_;clear h)|(clear h)
 all_goals(try simp only[eta0,RT.bytes]at *)
 all_goals(try clear bs p u K)
 all_goals(try simp only[c1q,bne_iff_ne,ne_eq,List.take_zero,List.append_nil,List.append_assoc]at *)
 all_goals(try clear bs p u K)
 all_goals(try dsimp only[RT.ty]at *)
 all_goals(try simp only[a6r]at *)
 all_goals first|omega|exact j3 (by omega)|(grind(splits:=10) [c2U,b4W,d2M,c8r,b7Y,c6c,c6b,j3,a1f]) |
  (rw[h1 (by assumption) (by assumption),if_pos (by assumption)];refine⟨rfl,rfl,rfl,rfl,rfl,rfl,rfl,?_,rfl⟩;apply a6S<;>(try intro _)<;>(try simp only[List.length_cons,List.length_nil]at *)<;>omega) |
  (rw[h3 (by assumption) (by assumption),if_pos (by assumption)];refine⟨rfl,rfl,rfl,rfl,rfl,rfl,rfl,?_,rfl⟩;apply a6S<;>(try intro _)<;>(try simp only[List.length_cons,List.length_nil]at *)<;>omega) |
  (rw[h6x (by assumption) (by assumption) (by assumption)];refine⟨rfl,rfl,rfl,rfl,rfl,rfl,rfl,?_,rfl⟩;apply a6S<;>(try intro _)<;>(try simp only[List.length_cons,List.length_nil]at *)<;>omega) |
  (rw[h4x (by assumption) (by assumption) (by assumption)];exact⟨rfl,rfl,rfl,rfl,rfl,rfl,rfl,rfl,rfl⟩) |
  (rw[h4y (by assumption) (by assumption) (by assumption) (by assumption)];refine⟨rfl,rfl,rfl,rfl,rfl,rfl,rfl,?_,rfl⟩;apply c9C<;>(try intro _)<;>omega) |
  (rw[h9x (by assumption) (by assumption) (by assumption)];exact⟨rfl,rfl,rfl,rfl,rfl,rfl,rfl,rfl,rfl⟩)
end Go.Proofs.YtihaeoicjglieaaGreat
