/-
  Contracts: a world's step, the reference's way.
-/
import Derived.Test.YtmnapekfeenknaaGreatGnVe
import Derived.Test.YtmnapekfeenknaaGreatGnO
import Derived.Test.YtmnapekfeenknaaGreatGvC
import Derived.Test.YtmnapekfeenknaaGreatM3
set_option linter.unusedVariables false
set_option linter.unusedSimpArgs false
set_option maxRecDepth 100000
set_option maxHeartbeats 16000000
namespace Go.Proofs.YtmnapekfeenknaaGreat
open Go.Sx Go.Proofs Go.Mo
noncomputable def a5R:Sx.Spec:=⟨false,false,[.row .wld,.row .evt],[nWld],fun _ _ ⟨w,e,_⟩ => .ret (rAs (a3e fun _=>m4 (w ()) (e ())),fun _=>0)⟩
noncomputable def b8Z:Sx.Spec:=⟨false,true,[],[[none,some .hld,some .gst]],fun _ _ _ => .ret (oSrv fun _=>⟨true,[],[]⟩,fun _=>0)⟩
theorem c8d:b9 Tryz.prog 63 b8Z:=j5 j3 (ss := []) trivial rfl rfl<|by
 intro(bs:Th (List Int)) (p:Th Int) u K _ _ ho h
 refine⟨noAnn,noAnn,20,?_⟩
 cbv
 repeat' first|((with_reducible refine fun(k:Nat) => ?_);cbv)|((with_reducible intro _);cbv)|(with_reducible refine And.intro ?_ ?_)
 all_goals first|(refine retK h ?_;clear h;simp only[fin0])|(with_reducible refine Ob.mk ?_;clear h)|(clear h)
 all_goals(try simp only[eta0,RT.bytes]at *)
def d6L:Ann:=⟨Nat,[],fun σ k=>(fun(kv kn:Nat) (L M:Th (List Msg))=>(((((σ.thin kv).only [1,2,4]).t 5 (vI fun _=>(k:Int))).u9 kv 7 (.own kn 1)).h kn (1,.row true 0 .msg (fun _=>L ()++(M ()).take k)))) (σ.pk 2) (σ.okC (σ.pk 2) 7) (σ.rowM (σ.okC (σ.pk 2) 7)) (σ.tmM 1),
 fun σ k _=>Ob ((fun(L M:Th (List Msg))=>fun _=>k≤(M ()).length∧(L ()).length+k≤40) (σ.rowM (σ.okC (σ.pk 2) 7)) (σ.tmM 1)),fun _ k _=>41-k⟩
def d8O:Ann:=⟨Nat,[⟨.cell 7170 2,some 1000000000006402,.srv⟩],fun σ k=>(fun(kv ko:Nat) (N:Th (List Msg)) (a:Th Int) (L:Th (List Srv))=>((((((σ.thin kv).only [1,2,4]).t 6 (vI fun _=>(k:Int))).t 5 (vO ko 1)).h ko (1,.row true 0 .msg (fun _=>a1p (N ()) (a ()).toNat k))).u9 7170 2 (.own 6402 1)).h 6402 (1,.row false 0 .srv L)) (σ.pk 2) (σ.okT 5) (σ.rowM (σ.okC (σ.pk 2) 7)) (σ.tmI 1) (σ.rowL .srv 6402),
 fun σ k _=>Ob ((fun(N:Th (List Msg))=>fun _=>k≤(N ()).length∧k≤40) (σ.rowM (σ.okC (σ.pk 2) 7))),fun _ k _=>41-k⟩
theorem a6Y:b9 Tryz.prog 139 a5R:=j5 j3 (ss := [(100,a2T),(188,b6L),(245,b4Z),(214,c4O),(215,c4N),(60,sIn),(263,b9i),(248,b4R),(219,b8X),(63,b8Z)]) ⟨b2n,c8p,c0g,c8h,c8f,J5,c2S,c2O,c2N,c8d,trivial⟩ rfl rfl<|by
 intro(bs:Th (List Int)) (p:Th Int) ⟨(w:Th Wld),(e:Th Evt),u⟩ K _ _ ho h
 obtain⟨w,rfl⟩:=b6 w;obtain⟨e,rfl⟩:=b6 e
 have hb0:=okB (ho.1 _ (.tail _ (.tail _ (.head _))))
 have hF := @O2 w
 have hI1:m8 w=true→inR e.pos 0 (IntKind.i64.wrap ((w.net.length:Int)-1))=decide (0≤e.pos∧e.pos<(w.net.length:Int)):=fun h=>b7K e.pos w.net.length (by have:=(hF h).2.2.2.1;omega)
 have hI2:m8 w=true→inR e.pos 0 (IntKind.i64.wrap ((w.servers.length:Int)-1))=decide (0≤e.pos∧e.pos<(w.servers.length:Int)):=fun h=>b7K e.pos w.servers.length (by have:=(hF h).2.2.2.2.2.2.2.2;omega)
 have h0 := @b8H w e
 have h1 := @d7F w e
 have h2 := @d7E w e
 have h3 := @d7D w e
 have h4 := @c4u w e
 have h4g := @d5a w e
 have h4h := @c4v w e
 have h4x:=fun(a:m8 w=true) (b:e.kind=4) (c:inR e.pos 0 (IntKind.i64.wrap ((w.net.length:Int)-1))=false)=>c4u a b (by rw[hI1 a]at c;simpa using c)
 have h4y:=fun(a:m8 w=true) (b:e.kind=4) (c:inR e.pos 0 (IntKind.i64.wrap ((w.net.length:Int)-1))=true)=>c4v a b (by rw[hI1 a]at c;simpa using c)
 have h6x:=fun(a:m8 w=true) (b:e.kind=6) (c:inR e.pos 0 (IntKind.i64.wrap ((w.net.length:Int)-1))=true)=>(d0B a b).trans (if_pos (by rw[hI1 a]at c;simpa using c))
 have h5 := @d7C w e
 have h6 := @d0B w e
 have h7 := @d7B w e
 have h8 := @d7A w e
 have h9 := @d0A w e
 have h9x:=fun(a:m8 w=true) (b:e.kind=9) (c:inR e.pos 0 (IntKind.i64.wrap ((w.servers.length:Int)-1))=false)=>(d0A a b).trans (if_neg (fun hq=>by rw[hI2 a]at c;simp only[decide_eq_false_iff_not]at c;exact c ⟨hq.1,hq.2.1⟩))
 have hn := @d4Z w e
 have hG := @c9a w.map w.table w.servers.length e.pos e.dest
 have hC:=c9y w.net e.pos.toNat
 refine⟨annL [(216,2,d6L),(218,3,d8O)],noAnn,20,?_⟩
 cbv
 repeat' first|((with_reducible refine fun(k:Nat) => ?_);(with_reducible refine ImpB.out ?_);cbv;(with_reducible refine ImpB.mk ?_);intro hq;obtain⟨hq⟩:=hq)|((with_reducible intro _);cbv)|(with_reducible refine And.intro ?_ ?_)
 all_goals try((first|(with_reducible refine LoopIn.wb ((0:Nat)) ?_ ?_)|(with_reducible refine LoopBack.wb ((k+1:Nat)) ?_ ?_ ?_))<;>cbv)
 all_goals try(with_reducible show _∧_;(try simp only[and_true,true_and]))
 all_goals try(repeat' with_reducible refine And.intro ?_ ?_)
 all_goals try(with_reducible refine MeasB.mk ?_)
 all_goals first|(refine retK h ?_;clear h;simp only[fin0])|(with_reducible refine Ob.mk ?_;clear h)|(clear h)
 all_goals(try simp only[eta0,RT.bytes]at *)
 all_goals(try clear bs p u K)
 all_goals(try simp only[c2m,bne_iff_ne,ne_eq,List.take_zero,List.append_nil,List.append_assoc]at *)
 all_goals(try clear bs p u K)
 all_goals(try dsimp only[RT.ty]at *)
 all_goals(try simp only[a9I]at *)
 all_goals first|omega|exact j4 (by omega)|(grind(splits:=10) [c3S,b6a,d4l,c9x,b8T,c7d,c7c,j4,R4]) |
  (rw[h1 (by assumption) (by assumption),if_pos (by assumption)];refine⟨rfl,rfl,rfl,rfl,rfl,rfl,rfl,?_,rfl⟩;apply a7H<;>(try intro _)<;>(try simp only[List.length_cons,List.length_nil]at *)<;>omega) |
  (rw[h3 (by assumption) (by assumption),if_pos (by assumption)];refine⟨rfl,rfl,rfl,rfl,rfl,rfl,rfl,?_,rfl⟩;apply a7H<;>(try intro _)<;>(try simp only[List.length_cons,List.length_nil]at *)<;>omega) |
  (rw[h6x (by assumption) (by assumption) (by assumption)];refine⟨rfl,rfl,rfl,rfl,rfl,rfl,rfl,?_,rfl⟩;apply a7H<;>(try intro _)<;>(try simp only[List.length_cons,List.length_nil]at *)<;>omega) |
  (rw[h4x (by assumption) (by assumption) (by assumption)];exact⟨rfl,rfl,rfl,rfl,rfl,rfl,rfl,rfl,rfl⟩) |
  (rw[h4y (by assumption) (by assumption) (by assumption) (by assumption)];refine⟨rfl,rfl,rfl,rfl,rfl,rfl,rfl,?_,rfl⟩;apply d0L<;>(try intro _)<;>omega) |
  (rw[h9x (by assumption) (by assumption) (by assumption)];exact⟨rfl,rfl,rfl,rfl,rfl,rfl,rfl,rfl,rfl⟩)
end Go.Proofs.YtmnapekfeenknaaGreat
