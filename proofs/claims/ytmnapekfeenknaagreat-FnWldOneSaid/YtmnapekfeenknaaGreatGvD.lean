/-
  Contracts: landings and falls in the one world.
-/
import Derived.Test.YtmnapekfeenknaaGreatGvC
set_option linter.unusedVariables false
set_option linter.unusedSimpArgs false
set_option maxRecDepth 100000
set_option maxHeartbeats 8000000
namespace Go.Proofs.YtmnapekfeenknaaGreat
open Go.Sx Go.Proofs Go.Mo
theorem a9i {T:Type} {a b:T}:(((fun _=>a):PUnit→T)=fun _=>b)↔a=b:=⟨fun h=>congrFun h ⟨⟩,fun h=>by rw[h]⟩
theorem a1L (t:RT) (l:Th (List t.ty)) (i:Th Int) (v:Th t.ty):C5 t l i v=fun _=>(l ()).set (i ()).toNat (v ()):=rfl
theorem G5 {o:One} (h:r6 o=true):(o.ground.length:Int)=o.map.cells∧(o.air.length:Int)=o.map.cells∧1≤o.map.cells∧o.map.cells≤4 ∧ ∀(c s:Int),0≤c→c<o.map.cells→(s=0∨s=1)→((nth .ints o.air c.toNat).length:Int)=2 ∧
  @LE.le Int _ 0 (nth .int o.ground c.toNat) ∧ @LE.le Int _ (nth .int o.ground c.toNat) 900 ∧ @LE.le Int _ 0 (nth .int (nth .ints o.air c.toNat) s.toNat) ∧ @LE.le Int _ (nth .int (nth .ints o.air c.toNat) s.toNat) 100000:=by
 have hh:=N0.1 (S8.1 h).1
 have hp:=n6.1 hh.1
 refine⟨hh.2.1,hh.2.2,by omega,by omega,fun c s c0 c1 hs => ?_⟩
 have h1:=a9B h (k:=c.toNat) (by omega)
 refine⟨by have:=h1.2.1;omega,h1.1.1,h1.1.2,?_⟩
 rcases hs with rfl|rfl
 ·exact h1.2.2.1
 ·exact h1.2.2.2
theorem c1q {o:One} {c s n:Int} (h:r6 o=true) (c0:0≤c∧c<o.map.cells) (hs:s=0∨s=1) (hn:inR n 1 (nth .int (nth .ints o.air c.toNat) s.toNat)=true) (hg:IntKind.i64.wrap (nth .int o.ground c.toNat+n)≤900) :
  o.map.cells=(B3 o c s n).map.cells∧o.map.width=(B3 o c s n).map.width∧o.wlks=(B3 o c s n).wlks∧o.ground.set c.toNat (IntKind.i64.wrap (nth .int o.ground c.toNat+n))=(B3 o c s n).ground ∧
  o.air.set c.toNat ((nth .ints o.air c.toNat).set s.toNat (IntKind.i64.wrap (nth .int (nth .ints o.air c.toNat) s.toNat-n)))=(B3 o c s n).air:=by
 have hf:=(G5 h).2.2.2.2 c s c0.1 c0.2 hs
 simp only[inR,decide_eq_true_eq]at hn
 have e1:IntKind.i64.wrap (nth .int o.ground c.toNat+n)=nth .int o.ground c.toNat+n:=e9 (by omega) (by omega)
 have e2:IntKind.i64.wrap (nth .int (nth .ints o.air c.toNat) s.toNat-n)=nth .int (nth .ints o.air c.toNat) s.toNat-n:=e9 (by omega) (by omega)
 rw[e1]at hg
 rw[e1,e2]
 unfold B3 Y0
 rw[if_pos h,if_pos ⟨c0.1,c0.2,hs,hn.1,hn.2,hg⟩]
 exact⟨rfl,rfl,rfl,rfl,rfl⟩
theorem c6x {o:One} {c s n:Int} (h:r6 o=true) (hg : ¬(0≤c∧c<o.map.cells) ∨ ¬(s=0∨s=1)∨inR n 1 (nth .int (nth .ints o.air c.toNat) s.toNat)=false∨((0≤c∧c<o.map.cells)∧(s=0∨s=1)∧inR n 1 (nth .int (nth .ints o.air c.toNat) s.toNat)=true ∧ ¬IntKind.i64.wrap (nth .int o.ground c.toNat+n)≤900)) :
  B3 o c s n=o:=by
 unfold B3 Y0
 rw[if_pos h,if_neg]
 rintro⟨a1,a2,a3,a4,a5,a6⟩
 rcases hg with q|q|q|⟨q1,q2,q3,q⟩
 ·exact q ⟨a1,a2⟩
 ·exact q a3
 ·simp only[inR,decide_eq_false_iff_not]at q
  exact q ⟨a4,a5⟩
 ·have hf:=(G5 h).2.2.2.2 c s a1 a2 a3
  have e1:IntKind.i64.wrap (nth .int o.ground c.toNat+n)=nth .int o.ground c.toNat+n:=e9 (by omega) (by omega)
  rw[e1]at q
  exact q a6
theorem d3N {o:One} {c:Int} (h:r6 o=true) (c0:0≤c∧c<o.map.cells):0≤c∧c<(o.ground.length:Int):=by have:=G5 h;omega
theorem d3O {o:One} {c:Int} (h:r6 o=true) (c0:0≤c∧c<o.map.cells):0≤c∧c<(o.air.length:Int):=by have:=G5 h;omega
theorem d3K {o:One} {c s:Int} (h:r6 o=true) (c0:0≤c∧c<o.map.cells) (hs:s=0∨s=1):0≤s∧s<((nth .ints o.air c.toNat).length:Int):=by have:=(G5 h).2.2.2.2 c s c0.1 c0.2 hs;omega
theorem d3M {o:One} (h:r6 o=true) : -9223372036854775808<o.map.cells:=by have:=G5 h;omega
theorem b3z {o:One} {c s n:Int} (h:r6 o=false):B3 o c s n=a2u:=by
 unfold B3
 rw[if_neg (by simp[h])]
theorem b2O {o:One} {i:Int} (h:r6 o=false):B7 o i=a2u:=by
 unfold B7
 rw[if_neg (by simp[h])]
theorem d8o {l:List OW} {i:Int} (h:0≤b8 l i):0≤b8 l i∧b8 l i<(l.length:Int):=⟨h,(V0 l i).2⟩
theorem d2M {o:One} {i:Int} (h:r6 o=true) (hp:0≤b8 o.wlks i):B7 o i=⟨o.map,o.wlks.set (b8 o.wlks i).toNat ⟨(nth .ow o.wlks (b8 o.wlks i).toNat).wlk,true⟩,o.ground,o.air⟩:=by
 unfold B7 B8
 rw[if_pos h,if_pos hp]
theorem d6b {o:One} {i:Int} (h:r6 o=true) (hp : ¬0≤b8 o.wlks i):B7 o i=o:=by
 unfold B7 B8
 rw[if_pos h,if_neg hp]
theorem b5u:b9 Tryz.prog 28 a4X:=j5 j3 (ss := [(31,U5),(84,a2A),(88,a3v),(89,a7M),(50,sIn)]) ⟨a6b,b2z,a3F,a8s,okIn,trivial⟩ rfl rfl<|by
 intro(bs:Th (List Int)) (p:Th Int) ⟨(o:Th One),(c:Th Int),(s:Th Int),(n:Th Int),u⟩ K _ _ ho h
 obtain⟨o,rfl⟩:=b6 o;obtain⟨c,rfl⟩:=b6 c;obtain⟨s,rfl⟩:=b6 s;obtain⟨n,rfl⟩:=b6 n
 refine⟨noAnn,noAnn,20,?_⟩
 cbv
 repeat' first|((with_reducible intro _);cbv)|(with_reducible refine And.intro ?_ ?_)
 all_goals first|(refine retK h ?_;clear h;simp only[fin0])|(with_reducible refine Ob.mk ?_;clear h)|(clear h)
 all_goals(try simp only[eta0,RT.bytes]at *)
 all_goals(try dsimp only[RT.ty]at *)
 all_goals(try simp only[M0]at *)
 all_goals(try simp only[a1L,a9i])
 all_goals(first|exact d3M (by assumption)|exact d3N (by assumption) (by assumption)|exact d3O (by assumption) (by assumption)|exact d3K (by assumption) (by assumption) (by assumption)|exact c1q (by assumption) (by assumption) (by assumption) (by assumption) (by assumption)|(rw[b3z (by assumption)];exact⟨rfl,rfl,rfl,rfl,rfl⟩)|(rw[c6x (by assumption) (by first|exact .inl (by assumption)|exact .inr (.inl (by assumption))|exact .inr (.inr (.inl (by assumption)))|exact .inr (.inr (.inr ⟨by assumption,by assumption,by assumption,by assumption⟩)))];exact⟨rfl,rfl,rfl,rfl,rfl⟩))
theorem b5s:b9 Tryz.prog 22 a4W:=j5 j3 (ss := [(31,U5),(84,a2A),(85,b1N)]) ⟨a6b,b2z,b5t,trivial⟩ rfl rfl<|by
 intro(bs:Th (List Int)) (p:Th Int) ⟨(o:Th One),(i:Th Int),u⟩ K _ _ ho h
 obtain⟨o,rfl⟩:=b6 o;obtain⟨i,rfl⟩:=b6 i
 refine⟨noAnn,noAnn,20,?_⟩
 cbv
 repeat' first|((with_reducible intro _);cbv)|(with_reducible refine And.intro ?_ ?_)
 all_goals first|(refine retK h ?_;clear h;simp only[fin0])|(with_reducible refine Ob.mk ?_;clear h)|(clear h)
 all_goals(try simp only[eta0,RT.bytes]at *)
 all_goals(try dsimp only[RT.ty]at *)
 all_goals(try simp only[M0]at *)
 all_goals(try simp only[a1L,a9i])
 all_goals(first|exact d8o (by assumption)|(rw[b2O (by assumption)];exact⟨rfl,rfl,rfl,rfl,rfl⟩)|(rw[d2M (by assumption) (by assumption)];exact⟨rfl,rfl,rfl,rfl,rfl⟩)|(rw[d6b (by assumption) (by assumption)];exact⟨rfl,rfl,rfl,rfl,rfl⟩))
end Go.Proofs.YtmnapekfeenknaaGreat
