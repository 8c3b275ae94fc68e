/-
  Contracts: a world's step, the reference's way.
-/
import Derived.Test.YtiioognflecdgaaGreatGnW
import Derived.Test.YtiioognflecdgaaGreatInsH
import Derived.Test.YtiioognflecdgaaGreatGnV
import Derived.Test.YtiioognflecdgaaGreatM3
set_option linter.unusedVariables false
set_option linter.unusedSimpArgs false
set_option maxRecDepth 100000
set_option maxHeartbeats 16000000
namespace Go.Proofs.YtiioognflecdgaaGreat
open Go.Sx Go.Proofs Go.Mo
noncomputable def a0A:Sx.Spec:=⟨false,false,[.row .wld,.row .evt],[nWld],fun _ _ ⟨w,e,_⟩ => .ret (rAs (W7 fun _=>m0 (w ()) (e ())),fun _=>0)⟩
noncomputable def b5X:Sx.Spec:=⟨false,true,[],[[none,some .hld,some .gst]],fun _ _ _ => .ret (oSrv fun _=>⟨true,[],[]⟩,fun _=>0)⟩
theorem c3N:b6 Tryz.prog 106 b5X:=j3 b9 (ss := []) trivial rfl rfl<|by
 intro(bs:Th (List Int)) (p:Th Int) u K _ _ ho h
 refine⟨noAnn,noAnn,20,?_⟩
 cbv
 repeat' first|((with_reducible refine fun(k:Nat) => ?_);cbv)|((with_reducible intro _);cbv)|(with_reducible refine And.intro ?_ ?_)
 all_goals first|(refine retK h ?_;clear h;simp only[fin0])|(with_reducible refine Ob.mk ?_;clear h)|(clear h)
 all_goals(try simp only[eta0,RT.bytes]at *)
def d1v:Ann:=⟨Nat,[],fun σ k=>(fun(kv kn:Nat) (L M:Th (List Msg))=>(((((σ.thin kv).only [1,2,4]).t 5 (vI fun _=>(k:Int))).v5 kv 7 (.own kn 1)).h kn (1,.row true 0 .msg (fun _=>L ()++(M ()).take k)))) (σ.pk 2) (σ.okC (σ.pk 2) 7) (σ.rowM (σ.okC (σ.pk 2) 7)) (σ.tmM 1),
 fun σ k _=>Ob ((fun(L M:Th (List Msg))=>fun _=>k≤(M ()).length∧(L ()).length+k≤40) (σ.rowM (σ.okC (σ.pk 2) 7)) (σ.tmM 1)),fun _ k _=>41-k⟩
def d3l:Ann:=⟨Nat,[⟨.cell 7170 2,some 1000000000006402,.srv⟩],fun σ k=>(fun(kv ko:Nat) (N:Th (List Msg)) (a:Th Int) (L:Th (List Srv))=>((((((σ.thin kv).only [1,2,4]).t 6 (vI fun _=>(k:Int))).t 5 (vO ko 1)).h ko (1,.row true 0 .msg (fun _=>a0d (N ()) (a ()).toNat k))).v5 7170 2 (.own 6402 1)).h 6402 (1,.row false 0 .srv L)) (σ.pk 2) (σ.okT 5) (σ.rowM (σ.okC (σ.pk 2) 7)) (σ.tmI 1) (σ.rowL .srv 6402),
 fun σ k _=>Ob ((fun(N:Th (List Msg))=>fun _=>k≤(N ()).length∧k≤40) (σ.rowM (σ.okC (σ.pk 2) 7))),fun _ k _=>41-k⟩
theorem a0M:b6 Tryz.prog 47 a0A:=j3 b9 (ss := [(16,X9),(46,a3o),(180,b2o),(139,c1a),(140,c0Y),(97,sIn),(207,b6c),(183,b2e),(144,b5U),(106,b5X)]) ⟨a3D,a7q,b6P,c3Q,c3O,G7,b9k,b9i,b9h,c3N,trivial⟩ rfl rfl<|by
 intro(bs:Th (List Int)) (p:Th Int) ⟨(w:Th Wld),(e:Th Evt),u⟩ K _ _ ho h
 obtain⟨w,rfl⟩:=a8 w;obtain⟨e,rfl⟩:=a8 e
 have hb0:=okB (ho.1 _ (.tail _ (.tail _ (.head _))))
 have hF := @I5 w
 have hI1:j6 w=true→inR e.pos 0 (IntKind.i64.wrap ((w.net.length:Int)-1))=decide (0≤e.pos∧e.pos<(w.net.length:Int)):=fun h=>b4L e.pos w.net.length (by have:=(hF h).2.2.2.1;omega)
 have hI2:j6 w=true→inR e.pos 0 (IntKind.i64.wrap ((w.servers.length:Int)-1))=decide (0≤e.pos∧e.pos<(w.servers.length:Int)):=fun h=>b4L e.pos w.servers.length (by have:=(hF h).2.2.2.2.2.2.2.2;omega)
 have h0 := @b5F w e
 have h1 := @d2j w e
 have h2 := @d2i w e
 have h3 := @d2h w e
 have h4 := @c0I w e
 have h4g := @c9L w e
 have h4h := @c0J w e
 have h4x:=fun(a:j6 w=true) (b:e.kind=4) (c:inR e.pos 0 (IntKind.i64.wrap ((w.net.length:Int)-1))=false)=>c0I a b (by rw[hI1 a]at c;simpa using c)
 have h4y:=fun(a:j6 w=true) (b:e.kind=4) (c:inR e.pos 0 (IntKind.i64.wrap ((w.net.length:Int)-1))=true)=>c0J a b (by rw[hI1 a]at c;simpa using c)
 have h6x:=fun(a:j6 w=true) (b:e.kind=6) (c:inR e.pos 0 (IntKind.i64.wrap ((w.net.length:Int)-1))=true)=>(c5Y a b).trans (if_pos (by rw[hI1 a]at c;simpa using c))
 have h5 := @d2g w e
 have h6 := @c5Y w e
 have h7 := @d2f w e
 have h8 := @d2e w e
 have h9 := @c5X w e
 have h9x:=fun(a:j6 w=true) (b:e.kind=9) (c:inR e.pos 0 (IntKind.i64.wrap ((w.servers.length:Int)-1))=false)=>(c5X a b).trans (if_neg (fun hq=>by rw[hI2 a]at c;simp only[decide_eq_false_iff_not]at c;exact c ⟨hq.1,hq.2.1⟩))
 have hn := @c9K w e
 have hG := @c4M w.map w.table w.servers.length e.pos e.dest
 have hC:=c5g w.net e.pos.toNat
 refine⟨annL [(141,2,d1v),(143,3,d3l)],noAnn,20,?_⟩
 cbv
 repeat' first|((with_reducible refine fun(k:Nat) => ?_);(with_reducible refine ImpB.out ?_);cbv;(with_reducible refine ImpB.mk ?_);intro hq;obtain⟨hq⟩:=hq)|((with_reducible intro _);cbv)|(with_reducible refine And.intro ?_ ?_)
 all_goals try((first|(with_reducible refine LoopIn.wb ((0:Nat)) ?_ ?_)|(with_reducible refine LoopBack.wb ((k+1:Nat)) ?_ ?_ ?_))<;>cbv)
 all_goals try(with_reducible show _∧_;(try simp only[and_true,true_and]))
 all_goals try(repeat' with_reducible refine And.intro ?_ ?_)
 all_goals try(with_reducible refine MeasB.mk ?_)
 all_goals first|(refine retK h ?_;clear h;simp only[fin0])|(with_reducible refine Ob.mk ?_;clear h)|(clear h)
 all_goals(try simp only[eta0,RT.bytes]at *)
 all_goals(try clear bs p u K)
 all_goals(try simp only[b8D,bne_iff_ne,ne_eq,List.take_zero,List.append_nil,List.append_assoc]at *)
 all_goals(try clear bs p u K)
 all_goals(try dsimp only[RT.ty]at *)
 all_goals(try simp only[c7z]at *)
 all_goals first|omega|exact j4 (by omega)|(grind(splits:=10) [c0j,b3b,c8T,c5f,b5R,c2W,c2V,j4,K4]) |
  (rw[h1 (by assumption) (by assumption),if_pos (by assumption)];refine⟨rfl,rfl,rfl,rfl,rfl,rfl,rfl,?_,rfl⟩;apply a5D<;>(try intro _)<;>(try simp only[List.length_cons,List.length_nil]at *)<;>omega) |
  (rw[h3 (by assumption) (by assumption),if_pos (by assumption)];refine⟨rfl,rfl,rfl,rfl,rfl,rfl,rfl,?_,rfl⟩;apply a5D<;>(try intro _)<;>(try simp only[List.length_cons,List.length_nil]at *)<;>omega) |
  (rw[h6x (by assumption) (by assumption) (by assumption)];refine⟨rfl,rfl,rfl,rfl,rfl,rfl,rfl,?_,rfl⟩;apply a5D<;>(try intro _)<;>(try simp only[List.length_cons,List.length_nil]at *)<;>omega) |
  (rw[h4x (by assumption) (by assumption) (by assumption)];exact⟨rfl,rfl,rfl,rfl,rfl,rfl,rfl,rfl,rfl⟩) |
  (rw[h4y (by assumption) (by assumption) (by assumption) (by assumption)];refine⟨rfl,rfl,rfl,rfl,rfl,rfl,rfl,?_,rfl⟩;apply c6f<;>(try intro _)<;>omega) |
  (rw[h9x (by assumption) (by assumption) (by assumption)];exact⟨rfl,rfl,rfl,rfl,rfl,rfl,rfl,rfl,rfl⟩)
end Go.Proofs.YtiioognflecdgaaGreat
