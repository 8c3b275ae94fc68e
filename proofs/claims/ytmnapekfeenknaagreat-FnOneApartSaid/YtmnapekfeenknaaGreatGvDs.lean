/-
  Contracts: landings and falls in the one world, the reference's.
-/
import Derived.Test.YtmnapekfeenknaaGreatFx
import Derived.Test.YtmnapekfeenknaaGreatMx
import Derived.Test.YtmnapekfeenknaaGreatGvD
set_option linter.unusedVariables false
set_option linter.unusedSimpArgs false
set_option maxRecDepth 100000
set_option maxHeartbeats 8000000
namespace Go.Mo
open Go.Sx
def N8 (l:List OW) (id:Int) (k:Nat):List OW:=if 0≤b8 l id∧b8 l id<k then l.set (b8 l id).toNat ⟨(nth .ow l (b8 l id).toNat).wlk,true⟩else l
theorem c0F (l:List OW) (id:Int):N8 l id 0=l:=by
 unfold N8
 rw[if_neg (by omega)]
theorem c3m (l:List OW) (id:Int) (k:Nat):(N8 l id k).length=l.length:=by
 unfold N8
 split<;>simp
theorem b2P (l:List OW) (id:Int) (k i:Nat):(nth .ow (N8 l id k) i).wlk=(nth .ow l i).wlk:=by
 unfold N8
 split
 ·rename_i h
  rw[C3 .ow (show(b8 l id).toNat<l.length by have:=V0 l id;omega)]
  split
  ·rename_i e;rw[e]
  ·rfl
 ·rfl
theorem d5o {o:One} (h:r6 o=true) {k:Nat} (hk:k<o.wlks.length):b8 o.wlks (nth .ow o.wlks k).wlk.id=k:=by
 refine b9L ((l8 _ _).2 fun j hj => ?_) hk rfl
 have:=a5j h hj hk
 simp only[nOw,isOw,Bool.not_eq_true',decide_eq_false_iff_not]
 omega
theorem c3l {o:One} {id:Int} {k:Nat} (h:r6 o=true) (hk:k<o.wlks.length) (hid:(nth .ow (N8 o.wlks id k) k).wlk.id=id):(N8 o.wlks id k).set k ⟨(nth .ow (N8 o.wlks id k) k).wlk,true⟩=N8 o.wlks id (k+1):=by
 rw[b2P]at hid
 have hp:b8 o.wlks id=k:=by rw[←hid];exact d5o h hk
 have e1:N8 o.wlks id k=o.wlks:=by
  unfold N8
  rw[if_neg (by omega)]
 have e2:N8 o.wlks id (k+1)=o.wlks.set k ⟨(nth .ow o.wlks k).wlk,true⟩:=by
  unfold N8
  rw[if_pos (by omega),hp,Int.toNat_natCast]
 rw[e1,e2]
theorem c8I {o:One} {id:Int} {k:Nat} (hid : ¬(nth .ow (N8 o.wlks id k) k).wlk.id=id):N8 o.wlks id k=N8 o.wlks id (k+1):=by
 rw[b2P]at hid
 have hp:b8 o.wlks id≠k:=fun e=>hid (by
  have:=a1w (l:=o.wlks) (id:=id) (by omega)
  rw[e,Int.toNat_natCast]at this
  exact this)
 unfold N8
 by_cases hc:0≤b8 o.wlks id∧b8 o.wlks id<k
 ·rw[if_pos hc,if_pos (by omega)]
 ·rw[if_neg hc,if_neg (by omega)]
theorem c3n {o:One} {id:Int} {k:Nat} (h:r6 o=true) (hk:k=o.wlks.length):B7 o id=⟨o.map,N8 o.wlks id k,o.ground,o.air⟩:=by
 unfold B7 B8 N8
 rw[if_pos h]
 have:=V0 o.wlks id
 by_cases hc:0≤b8 o.wlks id
 ·rw[if_pos hc,if_pos (by omega)]
 ·rw[if_neg hc,if_neg (by omega)]
end Go.Mo
namespace Go.Proofs.YtmnapekfeenknaaGreat
open Go.Sx Go.Proofs Go.Mo
section
variable {o:One} {c s n:Int}
theorem sd_c (hc:inR c 0 (o.map.cells-1)=true):0≤c∧c<o.map.cells:=by simp only[inR,decide_eq_true_eq]at hc;omega
theorem sd_s (hs:inR s 0 1=true):s=0∨s=1:=by simp only[inR,decide_eq_true_eq]at hs;omega
theorem d8W (hc:inR c 0 (o.map.cells-1)=false) : ¬(0≤c∧c<o.map.cells):=by simp only[inR,decide_eq_false_iff_not]at hc;omega
theorem d8V (hs:inR s 0 1=false) : ¬(s=0∨s=1):=by simp only[inR,decide_eq_false_iff_not]at hs;omega
end
theorem c2Q:b9 Tryz.prog 29 a4X:=j5 j3 (ss := [(25,U5),(86,a2A),(60,sIn)]) ⟨a0o,a9E,J5,trivial⟩ rfl rfl<|by
 intro(bs:Th (List Int)) (p:Th Int) ⟨(o:Th One),(c:Th Int),(s:Th Int),(n:Th Int),u⟩ K _ _ ho h
 obtain⟨o,rfl⟩:=b6 o;obtain⟨c,rfl⟩:=b6 c;obtain⟨s,rfl⟩:=b6 s;obtain⟨n,rfl⟩:=b6 n
 refine⟨noAnn,noAnn,20,?_⟩
 cbv
 repeat' first|((with_reducible intro _);cbv)|(with_reducible refine And.intro ?_ ?_)
 all_goals first|(refine retK h ?_;clear h;simp only[fin0])|(with_reducible refine Ob.mk ?_;clear h)|(clear h)
 all_goals(try simp only[eta0,RT.bytes]at *)
 all_goals(try dsimp only[RT.ty]at *)
 all_goals(try simp only[M0]at *)
 all_goals(try simp only[a1L,a9i])
 all_goals(try have hm:IntKind.i64.wrap (o.map.cells-1)=o.map.cells-1:=(by have hf:=G5 (o:=o) (by assumption);exact e9 (by omega) (by omega)))
 all_goals(try simp only[hm]at *)
 all_goals(try simp only[Int.not_lt]at *)
 all_goals(first|omega|exact d3M (by assumption)|exact d3N (by assumption) (sd_c (by assumption))|exact d3O (by assumption) (sd_c (by assumption))|exact d3K (by assumption) (sd_c (by assumption)) (sd_s (by assumption))|exact c1q (by assumption) (sd_c (by assumption)) (sd_s (by assumption)) (by assumption) (by assumption)|(rw[b3z (by assumption)];exact⟨rfl,rfl,rfl,rfl,rfl⟩)|(rw[c6x (by assumption) (by first|exact .inl (d8W (by assumption))|exact .inr (.inl (d8V (by assumption)))|exact .inr (.inr (.inl (by assumption)))|exact .inr (.inr (.inr ⟨sd_c (by assumption),sd_s (by assumption),by assumption,Int.not_le.2 (by assumption)⟩)))];exact⟨rfl,rfl,rfl,rfl,rfl⟩))
theorem c2P:b9 Tryz.prog 24 a4W:=j5 j3 (ss := [(25,U5),(86,a2A)]) ⟨a0o,a9E,trivial⟩ rfl rfl<|by
 intro(bs:Th (List Int)) (p:Th Int) ⟨(o:Th One),(i:Th Int),u⟩ K _ _ ho h
 obtain⟨o,rfl⟩:=b6 o;obtain⟨i,rfl⟩:=b6 i
 have hl:=okL (ho.1 _ (.tail _ (.tail _ (.head _))))
 have hz:=c3m o.wlks i
 refine⟨annL [(24,5,⟨Nat,[],fun σ k=>((σ.only [1,4,5]).t 6 (vI fun _=>(k:Int))).row 7426 1 .ow (fun _=>N8 o.wlks i k),fun _ k _=>k≤o.wlks.length∧r6 o=true,fun _ k _=>o.wlks.length-k⟩)],noAnn,20,?_⟩
 cbv
 repeat' first|((with_reducible refine fun(k:Nat) => ?_);cbv)|((with_reducible intro _);cbv)|(with_reducible refine And.intro ?_ ?_)
 all_goals try((first|(with_reducible refine LoopIn.mk ((0:Nat)) ?_ ?_)|(with_reducible refine LoopBack.mk ((k+1:Nat)) ?_ ?_ ?_)) )
 all_goals try((with_reducible show l9 _ _);cbv;(try simp only[and_true,true_and]))
 all_goals try(repeat' with_reducible refine And.intro ?_ ?_)
 all_goals first|(refine retK h ?_;clear h;simp only[fin0])|(with_reducible refine Ob.mk ?_;clear h)|(clear h)
 all_goals(try simp only[eta0,RT.bytes]at *)
 all_goals(try dsimp only[RT.ty]at *)
 all_goals(try simp only[M0]at *)
 all_goals(try simp only[a1L,a9i])
 all_goals(try simp only[Int.toNat_natCast])
 all_goals(first|rfl|omega|(rw[b2O (by assumption)];exact⟨rfl,rfl,rfl,rfl,rfl⟩)|exact(c0F _ _).symm|exact c3l (And.right (by assumption)) (by have:=hz k;omega) (by assumption)|exact c8I (by assumption)|exact And.right (by assumption)|(rw[c3n (k:=k) (And.right (by assumption)) (by have:=hz k;omega)];exact⟨rfl,rfl,rfl,rfl,rfl⟩)|exact j4 (by omega)|grind[j4])
end Go.Proofs.YtmnapekfeenknaaGreat
