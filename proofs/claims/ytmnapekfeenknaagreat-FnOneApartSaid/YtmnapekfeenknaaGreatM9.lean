/-
  Plain laws of the one world: orders of two walkers in two cells: for the law FnOneApart.
-/
import Derived.Test.YtmnapekfeenknaaGreatFx
import Derived.Test.YtmnapekfeenknaaGreatMx
import Derived.Test.YtmnapekfeenknaaGreatM8
set_option linter.unusedVariables false
set_option linter.unusedSimpArgs false
namespace Go.Mo
open Go.Sx
structure Eff1 where
 y:OW
 z:Option OW
 g:Int
 a:Int
 code:Int
def sayE (w:Wlk) (r:Ord) (code:Int):Eff1:=⟨⟨⟨w.id,w.pos,w.j8,r.seq,code⟩,true⟩,none,0,0,code⟩
def a2m (m:PMap) (w:Wlk) (vo:Option OW) (g a:Int) (r:Ord):Eff1 :=
 if r.kind=1 then
  if e8 m (w.pos+(2 * r.dest-1)) = -1 then sayE w r 2
  else⟨⟨⟨w.id,w.pos+(2 * r.dest-1),w.j8,r.seq,1⟩,decide (e8 m (w.pos+(2 * r.dest-1))=e8 m w.pos)⟩,none,0,0,1⟩
 else if r.kind=2 then
  match vo with
  |none=>sayE w r 4
  |some v=>if w.j8<r.n then sayE w r 3 else if 99<v.wlk.j8+r.n then sayE w r 5
   else⟨⟨⟨w.id,w.pos,w.j8-r.n,r.seq,1⟩,true⟩,some ⟨⟨v.wlk.id,v.wlk.pos,v.wlk.j8+r.n,v.wlk.seq,v.wlk.last⟩,v.here⟩,0,0,1⟩
 else if r.kind=3 then
  if w.j8<r.n then sayE w r 3 else if 900<g+r.n then sayE w r 5 else⟨⟨⟨w.id,w.pos,w.j8-r.n,r.seq,1⟩,true⟩,none,r.n,0,1⟩
 else if r.kind=4 then
  if g<r.n then sayE w r 6 else if 99<w.j8+r.n then sayE w r 5 else⟨⟨⟨w.id,w.pos,w.j8+r.n,r.seq,1⟩,true⟩,none,-r.n,0,1⟩
 else if r.kind=5 then
  if B4 m w.pos r.dest=false then sayE w r 7 else if w.j8<r.n then sayE w r 3 else if 100000<a+r.n then sayE w r 5
  else⟨⟨⟨w.id,w.pos,w.j8-r.n,r.seq,1⟩,true⟩,none,0,r.n,1⟩
 else sayE w r 1
def voOf (o:One) (w:Wlk) (r:Ord):Option OW:=if 0≤b8 o.wlks r.dest∧(nth .ow o.wlks (b8 o.wlks r.dest).toNat).here=true∧e8 o.map (nth .ow o.wlks (b8 o.wlks r.dest).toNat).wlk.pos=e8 o.map w.pos then some (nth .ow o.wlks (b8 o.wlks r.dest).toNat)else none
def b0T (a:List (List Int)) (d s:Int):Int:=nth .int (nth .ints a d.toNat) s.toNat
def effO (o:One) (w:Wlk) (r:Ord):Eff1:=a2m o.map w (voOf o w r) (nth .int o.ground (e8 o.map w.pos).toNat) (b0T o.air (b7 o.map (e8 o.map w.pos) r.dest) (1-r.dest)) r
def wlkE (l:List OW) (k j:Nat) (E:Eff1):List OW:=match E.z with
 |none=>l.set k E.y
 |some z=>(l.set k E.y).set j z
def gndE (g:List Int) (c:Nat) (x:Int):List Int:=g.set c ((nth .int g c:Int)+x)
def a3j (o:One) (k:Nat) (w:Wlk) (r:Ord) (E:Eff1):One:=⟨o.map,wlkE o.wlks k (b8 o.wlks r.dest).toNat E,gndE o.ground (e8 o.map w.pos).toNat E.g,M5 o.air (b7 o.map (e8 o.map w.pos) r.dest) (1-r.dest) E.a⟩
theorem b1G {t:RT} {l:List t.ty} {c:Nat}:l.set c (nth t l c)=l:=by
 by_cases h:c<l.length
 ·rw[k9 t l c h]
  exact List.set_getElem_self h
 ·exact List.set_eq_of_length_le (by omega)
theorem a6i (g:List Int) (c:Nat):gndE g c 0=g:=by
 unfold gndE
 have:(nth .int g c:Int)+0=nth .int g c:=Int.add_zero _
 rw[this]
 exact b1G (t := .int)
theorem Z8 (a:List (List Int)) (d s:Int):M5 a d s 0=a:=by
 unfold M5
 have h1:(nth .int (nth .ints a d.toNat) s.toNat:Int)+0=nth .int (nth .ints a d.toNat) s.toNat:=Int.add_zero _
 have h2:(nth .ints a d.toNat:List Int).set s.toNat (nth .int (nth .ints a d.toNat) s.toNat)=nth .ints a d.toNat:=b1G (t := .int)
 rw[h1,h2]
 exact b1G (t := .ints)
theorem X9 {o:One} {k:Nat} {w:Wlk} {r:Ord} {code:Int}:oFin o k w r.seq true o.ground o.air code=⟨a3j o k w r (sayE w r code),(sayE w r code).code⟩:=by
 unfold oFin oSet a3j sayE wlkE
 simp only[a6i,Z8]
theorem d2O {o:One} {k:Nat} {w:Wlk} {r:Ord}:a3H o k w r=⟨a3j o k w r (effO o w r),(effO o w r).code⟩:=by
 unfold a3H effO a2m
 split
 ·unfold b0B
  split
  ·exact X9
  ·unfold oFin oSet a3j wlkE
   simp only[a6i,Z8]
 split
 ·unfold a8u voOf
  simp only
  split
  ·rename_i h
   exact X9
  ·rename_i h
   have h:=Classical.not_not.1 h
   simp only[if_pos h]
   split
   ·exact X9
   split
   ·exact X9
   ·unfold a3j wlkE
    simp only[a6i,Z8]
 split
 ·unfold b0D
  simp only
  split
  ·exact X9
  split
  ·exact X9
  ·unfold oFin oSet a3j wlkE gndE
   simp only[Z8]
 split
 ·unfold b0C
  simp only
  split
  ·exact X9
  split
  ·exact X9
  ·unfold oFin oSet a3j wlkE gndE
   simp only[Z8]
   rfl
 split
 ·unfold a5p
  simp only
  split
  ·exact X9
  split
  ·exact X9
  unfold b0T
  split
  ·exact X9
  ·unfold oFin oSet a3j wlkE
   simp only[a6i]
 ·exact X9
def NewO (o:One) (r:Ord):Prop:=(0≤b8 o.wlks r.who∧(nth .ow o.wlks (b8 o.wlks r.who).toNat).here=true)∧(nth .ow o.wlks (b8 o.wlks r.who).toNat).wlk.seq<r.seq
theorem a5C {o:One} {r:Ord} (h:NewO o r):s4 o r=⟨a3j o (b8 o.wlks r.who).toNat (nth .ow o.wlks (b8 o.wlks r.who).toNat).wlk r (effO o (nth .ow o.wlks (b8 o.wlks r.who).toNat).wlk r),(effO o (nth .ow o.wlks (b8 o.wlks r.who).toNat).wlk r).code⟩:=by
 have:=h.2
 unfold s4
 simp only
 rw[if_neg (fun q=>q h.1),if_neg (by omega),if_neg (by omega),d2O]
def oldC (k:Int) (x:OW) (r:Ord):Int:=if ¬(0≤k∧x.here=true)then 9 else if r.seq<x.wlk.seq then 8 else x.wlk.last
theorem a9Z {o:One} {r:Ord} (h : ¬NewO o r):s4 o r=⟨o,oldC (b8 o.wlks r.who) (nth .ow o.wlks (b8 o.wlks r.who).toNat) r⟩:=by
 unfold s4 oldC
 simp only
 split
 ·rfl
 rename_i h1
 split
 ·rfl
 rename_i h2
 rw[if_pos ?_]
 have : ¬(nth .ow o.wlks (b8 o.wlks r.who).toNat).wlk.seq<r.seq:=fun q=>h ⟨Classical.not_not.1 h1,q⟩
 omega
theorem d9e {m:PMap} {w:Wlk} {vo:Option OW} {g a:Int} {r:Ord}:(a2m m w vo g a r).y.wlk.id=w.id∧((a2m m w vo g a r).y.here=true→e8 m (a2m m w vo g a r).y.wlk.pos=e8 m w.pos):=by
 unfold a2m sayE
 repeat' split
 all_goals(first|exact⟨rfl,fun _=>rfl⟩|exact⟨rfl,fun h=>of_decide_eq_true h⟩)
theorem d9d {m:PMap} {w:Wlk} {vo:Option OW} {g a:Int} {r:Ord} {z:OW} (h:(a2m m w vo g a r).z=some z) : ∃v,vo=some v∧z.wlk.id=v.wlk.id∧z.wlk.pos=v.wlk.pos∧z.here=v.here∧r.kind=2:=by
 unfold a2m sayE at h
 repeat' split at h
 all_goals(first|cases h;done|skip)
 rename_i hk _ v _ _
 simp only[Option.some.injEq]at h
 exact⟨v,rfl,by rw[←h],by rw[←h],by rw[←h],hk⟩
theorem d9f {m:PMap} {w:Wlk} {vo:Option OW} {g a:Int} {r:Ord}:(a2m m w vo g a r).a=0∨r.kind=5∧B4 m w.pos r.dest=true:=by
 unfold a2m sayE
 repeat' split
 all_goals(first|exact .inl rfl|skip)
 rename_i hk he _ _
 exact .inr ⟨hk,by simpa using he⟩
theorem d6y {m:PMap} {w:Wlk} {vo:Option OW} {g a a':Int} {r:Ord} (h:r.kind=5→B4 m w.pos r.dest=true→a=a'):a2m m w vo g a r=a2m m w vo g a' r:=by
 by_cases hk:r.kind=5
 ·by_cases he:B4 m w.pos r.dest=true
  ·rw[h hk he]
  ·unfold a2m
   have he:B4 m w.pos r.dest=false:=by simpa using he
   rw[if_neg (by omega),if_neg (by omega),if_neg (by omega),if_neg (by omega),if_pos hk,if_pos he,if_neg (by omega),if_neg (by omega),if_neg (by omega),if_neg (by omega),if_pos hk,if_pos he]
 ·unfold a2m
  simp only[if_neg hk]
structure Loc (o x:One) (k:Nat) (c:Int):Prop where
 map:x.map=o.map
 len:x.wlks.length=o.wlks.length
 ids : ∀i,i<o.wlks.length→(nth .ow x.wlks i).wlk.id=(nth .ow o.wlks i).wlk.id
 out : ∀i,i<o.wlks.length→i≠k → ¬((nth .ow o.wlks i).here=true∧e8 o.map (nth .ow o.wlks i).wlk.pos=c)→nth .ow x.wlks i=nth .ow o.wlks i
 me:(nth .ow x.wlks k).here=true→e8 o.map (nth .ow x.wlks k).wlk.pos=c
 oth : ∀i,i<o.wlks.length→i≠k→(nth .ow x.wlks i).here=(nth .ow o.wlks i).here∧(nth .ow x.wlks i).wlk.pos=(nth .ow o.wlks i).wlk.pos
theorem d0e {l:List OW} {k j:Nat} {E:Eff1} (hk:k<l.length) (hj : ∀z,E.z=some z→j<l.length∧j≠k) (i:Nat):nth .ow (wlkE l k j E) i=if i=k then E.y else match E.z with
  |none=>nth .ow l i
  |some z=>if i=j then z else nth .ow l i:=by
 unfold wlkE
 cases h:E.z with
 |none =>
  simp only
  rw[C3 .ow hk]
 |some z =>
  obtain⟨h1,h2⟩:=hj z h
  simp only
  rw[C3 .ow (show j<(l.set k E.y).length by simpa using h1),C3 .ow hk]
  by_cases e1:i=j
  ·rw[if_pos e1,if_neg (by omega),if_pos e1]
  ·rw[if_neg e1]
   split
   ·rfl
   ·first|rfl|rw[if_neg e1]
theorem d0f {l:List OW} {k j:Nat} {E:Eff1}:(wlkE l k j E).length=l.length:=by
 unfold wlkE
 split<;>simp
theorem c3N {o:One} {r:Ord} (hr:y9 r=true) (h:NewO o r):Loc o (s4 o r).o (b8 o.wlks r.who).toNat (e8 o.map (nth .ow o.wlks (b8 o.wlks r.who).toNat).wlk.pos) ∧
  (∀z,(effO o (nth .ow o.wlks (b8 o.wlks r.who).toNat).wlk r).z=some z→(b8 o.wlks r.dest).toNat<o.wlks.length∧(b8 o.wlks r.dest).toNat≠(b8 o.wlks r.who).toNat ∧
   (nth .ow o.wlks (b8 o.wlks r.dest).toNat).here=true∧e8 o.map (nth .ow o.wlks (b8 o.wlks r.dest).toNat).wlk.pos=e8 o.map (nth .ow o.wlks (b8 o.wlks r.who).toNat).wlk.pos):=by
 rw[a5C h]
 have hid:=a1w h.1.1
 have hlt:=V0 o.wlks r.who
 have hk:(b8 o.wlks r.who).toNat<o.wlks.length:=by have:=h.1.1;omega
 have hjl:=V0 o.wlks r.dest
 generalize hK:(b8 o.wlks r.who).toNat=k at *
 generalize hW:(nth .ow o.wlks k).wlk=w at *
 have hy:=d9e (m:=o.map) (w:=w) (vo:=voOf o w r) (g:=nth .int o.ground (e8 o.map w.pos).toNat) (a:=b0T o.air (b7 o.map (e8 o.map w.pos) r.dest) (1-r.dest)) (r:=r)
 have hz : ∀z,(effO o w r).z=some z→(b8 o.wlks r.dest).toNat<o.wlks.length∧(b8 o.wlks r.dest).toNat≠k∧(nth .ow o.wlks (b8 o.wlks r.dest).toNat).here=true∧e8 o.map (nth .ow o.wlks (b8 o.wlks r.dest).toNat).wlk.pos=e8 o.map w.pos ∧
   z.wlk.id=(nth .ow o.wlks (b8 o.wlks r.dest).toNat).wlk.id∧z.wlk.pos=(nth .ow o.wlks (b8 o.wlks r.dest).toNat).wlk.pos∧z.here=(nth .ow o.wlks (b8 o.wlks r.dest).toNat).here:=by
  intro z hz
  obtain⟨v,hv,e1,e2,e3,hk2⟩:=d9d hz
  unfold voOf at hv
  split at hv
  ·rename_i hc
   simp only[Option.some.injEq]at hv
   rw[hv]
   have hji:=a1w hc.1
   refine⟨by omega,fun e => ?_,by rw[←hv];exact hc.2.1,by rw[←hv];exact hc.2.2,e1,e2,e3⟩
   rw[e,hW,hid]at hji
   exact a0l hr hk2 hji.symm
  ·cases hv
 generalize hE:effO o w r=E at *
 have hy:E.y.wlk.id=w.id∧(E.y.here=true→e8 o.map E.y.wlk.pos=e8 o.map w.pos):=by rw[←hE];exact hy
 have hn:=d0e (j:=(b8 o.wlks r.dest).toNat) (E:=E) hk fun z h=>⟨(hz z h).1,(hz z h).2.1⟩
 refine⟨⟨rfl,d0f,fun i hi => ?_,fun i hi hne hc => ?_,?_,fun i hi hne => ?_⟩,fun z h=>⟨(hz z h).1,(hz z h).2.1,(hz z h).2.2.1,(hz z h).2.2.2.1⟩⟩
 ·show(nth .ow (wlkE o.wlks k _ E) i).wlk.id=_
  rw[hn]
  split
  ·rename_i e
   rw[e,hW,hy.1]
  ·split
   ·rfl
   ·rename_i z hz1
    split
    ·rename_i e
     rw[e,(hz z hz1).2.2.2.2.1]
    ·rfl
 ·show nth .ow (wlkE o.wlks k _ E) i=_
  rw[hn,if_neg hne]
  split
  ·rfl
  ·rename_i z hz1
   split
   ·rename_i e
    exfalso
    rw[e]at hc
    exact hc ⟨(hz z hz1).2.2.1,(hz z hz1).2.2.2.1⟩
   ·rfl
 ·show(nth .ow (wlkE o.wlks k _ E) k).here=true→e8 o.map (nth .ow (wlkE o.wlks k _ E) k).wlk.pos=_
  rw[hn,if_pos rfl]
  exact hy.2
 ·show(nth .ow (wlkE o.wlks k _ E) i).here=_∧(nth .ow (wlkE o.wlks k _ E) i).wlk.pos=_
  rw[hn,if_neg hne]
  split
  ·exact⟨rfl,rfl⟩
  ·rename_i z hz1
   split
   ·rename_i e
    rw[e]
    exact⟨(hz z hz1).2.2.2.2.2.2,(hz z hz1).2.2.2.2.2.1⟩
   ·exact⟨rfl,rfl⟩
theorem d4M {o x:One} {k:Nat} {c:Int} {w:Wlk} {r:Ord} (L:Loc o x k c) (hk:e8 o.map (nth .ow o.wlks k).wlk.pos=c) (hw:e8 o.map w.pos≠c):voOf x w r=voOf o w r:=by
 have hp:b8 x.wlks r.dest=b8 o.wlks r.dest:=a5W L.len L.ids
 have hlt:=V0 o.wlks r.dest
 unfold voOf
 rw[hp,L.map]
 by_cases h0:0≤b8 o.wlks r.dest
 ·have hj:(b8 o.wlks r.dest).toNat<o.wlks.length:=by omega
  by_cases he:(b8 o.wlks r.dest).toNat=k
  ·rw[he,if_neg,if_neg]
   ·rintro⟨_,_,h⟩
    exact hw (h.symm.trans hk)
   ·rintro⟨_,h1,h⟩
    exact hw (h.symm.trans (L.me h1))
  ·obtain⟨e1,e2⟩:=L.oth _ hj he
   rw[e1,e2]
   split
   ·rename_i hc
    rw[L.out _ hj he fun q=>hw (hc.2.2.symm.trans q.2)]
   ·rfl
 ·rw[if_neg (fun q=>h0 q.1),if_neg (fun q=>h0 q.1)]
theorem b7R {g:List Int} {c d:Nat} {x:Int} (h:c≠d) : @Eq Int (nth .int (gndE g c x) d) (nth .int g d):=m5 .int h
theorem c1b {g:List Int} {c d:Nat} {x y:Int} (h:c≠d):gndE (gndE g c x) d y=gndE (gndE g d y) c x:=by
 have h1 : @Eq Int (nth .int (gndE g c x) d) (nth .int g d):=b7R h
 have h2 : @Eq Int (nth .int (gndE g d y) c) (nth .int g c):=b7R h.symm
 show(gndE g c x).set d ((nth .int (gndE g c x) d:Int)+y)=(gndE g d y).set c ((nth .int (gndE g d y) c:Int)+x)
 rw[h1,h2]
 unfold gndE
 exact List.set_comm _ _ h
theorem d6N {a:List (List Int)} {d s d' s' x:Int} (h:d.toNat≠d'.toNat∨s.toNat≠s'.toNat):b0T (M5 a d s x) d' s'=b0T a d' s':=by
 unfold b0T M5
 by_cases hd:d.toNat=d'.toNat
 ·rw[←hd]
  by_cases hl:d.toNat<a.length
  ·have e : @Eq (List Int) (nth .ints (a.set d.toNat ((nth .ints a d.toNat).set s.toNat (nth .int (nth .ints a d.toNat) s.toNat+x))) d.toNat) ((nth .ints a d.toNat).set s.toNat (nth .int (nth .ints a d.toNat) s.toNat+x)):=j9 .ints hl
   rw[e]
   exact m5 .int (h.resolve_left (fun q=>q hd))
  ·rw[List.set_eq_of_length_le (by omega)]
 ·have e : @Eq (List Int) (nth .ints (a.set d.toNat ((nth .ints a d.toNat).set s.toNat (nth .int (nth .ints a d.toNat) s.toNat+x))) d'.toNat) (nth .ints a d'.toNat):=m5 .ints hd
  rw[e]
theorem d1d {l:List Int} {s t:Nat} {x y:Int}:gndE (gndE l s x) t y=gndE (gndE l t y) s x:=by
 by_cases h:s=t
 ·subst h
  unfold gndE
  by_cases hl:s<l.length
  ·have e1 : ∀v:Int,@Eq Int (nth .int (l.set s v) s) v:=fun v=>j9 .int hl
   have e2 : ∀p:Int,p+x+y=p+y+x:=fun p=>by omega
   rw[e1,e1,List.set_set,List.set_set]
   exact congrArg (l.set s) (e2 _)
  ·have hh:l.length≤s:=by omega
   simp only[List.set_eq_of_length_le hh]
 ·exact c1b h
theorem b8i (a:List (List Int)) (d s x:Int):M5 a d s x=a.set d.toNat (gndE (nth .ints a d.toNat) s.toNat x):=rfl
theorem d4B {a:List (List Int)} {d s d' s' x y:Int}:M5 (M5 a d s x) d' s' y=M5 (M5 a d' s' y) d s x:=by
 rw[b8i,b8i,b8i,b8i]
 by_cases hd:d.toNat=d'.toNat
 ·rw[←hd]
  by_cases hl:d.toNat<a.length
  ·have e1 : ∀v:List Int,@Eq (List Int) (nth .ints (a.set d.toNat v) d.toNat) v:=fun v=>j9 .ints hl
   rw[e1,e1,List.set_set,List.set_set,d1d]
  ·have hh:a.length≤d.toNat:=by omega
   simp only[List.set_eq_of_length_le hh]
 ·have e1 : ∀v:List Int,@Eq (List Int) (nth .ints (a.set d.toNat v) d'.toNat) (nth .ints a d'.toNat):=fun v=>m5 .ints hd
  have e2 : ∀v:List Int,@Eq (List Int) (nth .ints (a.set d'.toNat v) d.toNat) (nth .ints a d.toNat):=fun v=>m5 .ints (fun q=>hd q.symm)
  rw[e1,e2]
  exact List.set_comm _ _ hd
theorem d0d {l:List OW} {k j k' j':Nat} {E E':Eff1} (hk:k≠k') (h1:E.z≠none→j≠k') (h2:E'.z≠none→j'≠k) (h3:E.z≠none→E'.z≠none→j≠j'):wlkE (wlkE l k j E) k' j' E'=wlkE (wlkE l k' j' E') k j E:=by
 unfold wlkE
 cases hz:E.z with
 |none =>
  cases hz':E'.z with
  |none=>exact List.set_comm _ _ hk
  |some z' =>
   have h2:=h2 (by rw[hz'];exact fun h=>by cases h)
   simp only
   rw[List.set_comm _ _ hk,List.set_comm (l:=l.set k' E'.y) _ _ (fun q=>h2 q.symm)]
 |some z =>
  have h1:=h1 (by rw[hz];exact fun h=>by cases h)
  cases hz':E'.z with
  |none =>
   simp only
   rw[List.set_comm (l:=l.set k E.y) _ _ h1,List.set_comm _ _ hk]
  |some z' =>
   have h2:=h2 (by rw[hz'];exact fun h=>by cases h)
   have h3:=h3 (by rw[hz];exact fun h=>by cases h) (by rw[hz'];exact fun h=>by cases h)
   simp only
   rw[List.set_comm (l:=l.set k E.y) _ _ h1,List.set_comm _ _ hk,List.set_comm _ _ h3,List.set_comm (l:=l.set k' E'.y) _ _ (fun q=>h2 q.symm)]
theorem b3x {o:One} {a b:Ord} (ho:r6 o=true) (ha:y9 a=true) (hb:y9 b=true) (hn:NewO o a) (h0:0≤b8 o.wlks b.who)
  (hc:e8 o.map (nth .ow o.wlks (b8 o.wlks a.who).toNat).wlk.pos≠e8 o.map (nth .ow o.wlks (b8 o.wlks b.who).toNat).wlk.pos) :
  b8 (s4 o a).o.wlks b.who=b8 o.wlks b.who∧b8 (s4 o a).o.wlks b.dest=b8 o.wlks b.dest∧nth .ow (s4 o a).o.wlks (b8 o.wlks b.who).toNat=nth .ow o.wlks (b8 o.wlks b.who).toNat ∧
   (s4 o a).o.map=o.map∧effO (s4 o a).o (nth .ow o.wlks (b8 o.wlks b.who).toNat).wlk b=effO o (nth .ow o.wlks (b8 o.wlks b.who).toNat).wlk b:=by
 obtain⟨L,_⟩:=c3N ha hn
 have hkb:(b8 o.wlks b.who).toNat<o.wlks.length:=by have:=V0 o.wlks b.who;omega
 have hka:(b8 o.wlks a.who).toNat<o.wlks.length:=by have:=V0 o.wlks a.who;have:=hn.1.1;omega
 have hne:(b8 o.wlks b.who).toNat≠(b8 o.wlks a.who).toNat:=fun e=>hc (by rw[e])
 refine⟨a5W L.len L.ids,a5W L.len L.ids,L.out _ hkb hne fun q=>hc q.2.symm,L.map,?_⟩
 have hv:=d4M (w:=(nth .ow o.wlks (b8 o.wlks b.who).toNat).wlk) (r:=b) L rfl fun q=>hc q.symm
 have hwa:=C9 (s8.1 (a1E ho hka).1).2.2.1
 have hwb:=C9 (s8.1 (a1E ho hkb).1).2.2.1
 have cell : ∀ {p:Int},o9 o.map=true→0≤p→p<o.map.cells * o.map.width→e8 o.map p=p / o.map.width→0≤e8 o.map p∧e8 o.map p<o.map.cells:=fun {p} hp p0 p1 pe=>by
  have q5:=n6.1 hp
  rw[pe]
  exact⟨Int.ediv_nonneg p0 (by omega),Int.ediv_lt_of_lt_mul (by omega) p1⟩
 have hca:=cell hwa.1 hwa.2.1 hwa.2.2.1 hwa.2.2.2
 have hcb:=cell hwb.1 hwb.2.1 hwb.2.2.1 hwb.2.2.2
 unfold effO
 rw[hv,L.map]
 rw[a5C hn]
 generalize (nth .ow o.wlks (b8 o.wlks a.who).toNat).wlk=v at *
 generalize (nth .ow o.wlks (b8 o.wlks b.who).toNat).wlk=w at *
 have hg : @Eq Int (nth .int (gndE o.ground (e8 o.map v.pos).toNat (effO o v a).g) (e8 o.map w.pos).toNat) (nth .int o.ground (e8 o.map w.pos).toNat):=b7R (by omega)
 show a2m o.map w _ (nth .int (gndE o.ground (e8 o.map v.pos).toNat (effO o v a).g) (e8 o.map w.pos).toNat) (b0T (M5 o.air (b7 o.map (e8 o.map v.pos) a.dest) (1-a.dest) (effO o v a).a) _ _) b=_
 rw[hg]
 refine d6y fun k5 he => ?_
 rcases d9f (m:=o.map) (w:=v) (vo:=voOf o v a) (g:=nth .int o.ground (e8 o.map v.pos).toNat) (a:=b0T o.air (b7 o.map (e8 o.map v.pos) a.dest) (1-a.dest)) (r:=a)with h|⟨h5,hea⟩
 ·have:(effO o v a).a=0:=h
  rw[this,Z8]
 ·have e1:b7 o.map (e8 o.map v.pos) a.dest ≠ -1:=by
   unfold B4 at hea
   simp only[decide_eq_true_eq]at hea
   exact hea.1
  have e2:b7 o.map (e8 o.map w.pos) b.dest ≠ -1:=by
   unfold B4 at he
   simp only[decide_eq_true_eq]at he
   exact he.1
  have b1:=v7 e1
  have b2:=v7 e2
  have s1:=H6 e1
  have s2:=H6 e2
  refine d6N ?_
  by_cases hs:a.dest=b.dest
  ·left
   intro q
   have q1:b7 o.map (e8 o.map v.pos) a.dest=b7 o.map (e8 o.map w.pos) b.dest:=by omega
   have q2:=b1.2.2.2.2.2.2.1
   have q3:=b2.2.2.2.2.2.2.1
   rw[q1,hs,q3]at q2
   exact hc q2.symm
  ·right
   omega
theorem b2k {o x:One} {r:Ord} (h1:b8 x.wlks r.who=b8 o.wlks r.who) (h2:nth .ow x.wlks (b8 o.wlks r.who).toNat=nth .ow o.wlks (b8 o.wlks r.who).toNat):NewO x r↔NewO o r:=by
 unfold NewO
 rw[h1,h2]
theorem apart {o:One} {a b:Ord} (ho:r6 o=true) (ha:y9 a=true) (hb:y9 b=true) (ka:0≤b8 o.wlks a.who) (kb:0≤b8 o.wlks b.who)
  (hc:e8 o.map (nth .ow o.wlks (b8 o.wlks a.who).toNat).wlk.pos≠e8 o.map (nth .ow o.wlks (b8 o.wlks b.who).toNat).wlk.pos) :
  (s4 (s4 o a).o b).o=(s4 (s4 o b).o a).o∧(s4 (s4 o b).o a).code=(s4 o a).code∧(s4 (s4 o a).o b).code=(s4 o b).code:=by
 have same : ∀ {a b:Ord},y9 a=true→y9 b=true→0≤b8 o.wlks b.who→e8 o.map (nth .ow o.wlks (b8 o.wlks a.who).toNat).wlk.pos≠e8 o.map (nth .ow o.wlks (b8 o.wlks b.who).toNat).wlk.pos → ¬NewO o b →
   (s4 (s4 o a).o b).o=(s4 o a).o∧(s4 (s4 o a).o b).code=(s4 o b).code:=fun {a b} ha hb kb hc nb=>by
  by_cases na:NewO o a
  ·have E:=b3x ho ha hb na kb hc
   have nb' : ¬NewO (s4 o a).o b:=fun q=>nb ((b2k E.1 E.2.2.1).1 q)
   rw[a9Z nb',a9Z nb]
   simp only
   rw[E.1,E.2.2.1]
   exact⟨by first|trivial|rfl,by first|trivial|rfl⟩
  ·rw[a9Z na]
   simp only
   rw[a9Z nb]
   exact⟨by first|trivial|rfl,by first|trivial|rfl⟩
 by_cases na:NewO o a
 ·by_cases nb:NewO o b
  ·have E:=b3x ho ha hb na kb hc
   have F:=b3x ho hb ha nb ka hc.symm
   obtain⟨_,za⟩:=c3N ha na
   obtain⟨_,zb⟩:=c3N hb nb
   have nb':=(b2k E.1 E.2.2.1).2 nb
   have na':=(b2k F.1 F.2.2.1).2 na
   have hka:(b8 o.wlks a.who).toNat≠(b8 o.wlks b.who).toNat:=fun e=>hc (by rw[e])
   rw[a5C nb',a5C na']
   simp only
   rw[E.1,E.2.2.1,F.1,F.2.2.1,E.2.2.2.2,F.2.2.2.2,a5C na,a5C nb]
   refine⟨?_,rfl,rfl⟩
   have E2:=E.2.1
   have F2:=F.2.1
   rw[a5C na]at E2
   rw[a5C nb]at F2
   unfold a3j at E2 F2 ⊢
   simp only at E2 F2 ⊢
   rw[E2,F2]
   have hwa:=C9 (s8.1 (a1E ho (show(b8 o.wlks a.who).toNat<o.wlks.length by have:=V0 o.wlks a.who;omega)).1).2.2.1
   have hwb:=C9 (s8.1 (a1E ho (show(b8 o.wlks b.who).toNat<o.wlks.length by have:=V0 o.wlks b.who;omega)).1).2.2.1
   have q5:=n6.1 hwa.1
   have ca:0≤e8 o.map (nth .ow o.wlks (b8 o.wlks a.who).toNat).wlk.pos:=by rw[hwa.2.2.2];exact Int.ediv_nonneg hwa.2.1 (by omega)
   have cb:0≤e8 o.map (nth .ow o.wlks (b8 o.wlks b.who).toNat).wlk.pos:=by rw[hwb.2.2.2];exact Int.ediv_nonneg hwb.2.1 (by omega)
   have some_of : ∀ {E:Eff1},E.z≠none → ∃z,E.z=some z:=fun {E} h=>by
    cases hz:E.z with
    |none=>exact absurd hz h
    |some z=>exact⟨z,rfl⟩
   congr 1
   ·refine d0d hka (fun h => ?_) (fun h => ?_) (fun h h' => ?_)
    ·obtain⟨z,hz⟩:=some_of h
     have:=za z hz
     intro e
     rw[e]at this
     exact hc this.2.2.2.symm
    ·obtain⟨z,hz⟩:=some_of h
     have:=zb z hz
     intro e
     rw[e]at this
     exact hc this.2.2.2
    ·obtain⟨z,hz⟩:=some_of h
     obtain⟨z',hz'⟩:=some_of h'
     have t1:=za z hz
     have t2:=zb z' hz'
     intro e
     rw[e]at t1
     exact hc (t1.2.2.2.symm.trans t2.2.2.2)
   ·exact c1b (by omega)
   ·exact d4B
  ·obtain⟨s1,s2⟩:=same ha hb kb hc nb
   have e:(s4 o b).o=o:=by rw[a9Z nb]
   rw[s1,s2,e]
   exact⟨rfl,rfl,rfl⟩
 ·obtain⟨s1,s2⟩:=same hb ha ka hc.symm na
  have e:(s4 o a).o=o:=by rw[a9Z na]
  rw[s1,s2,e]
  exact⟨rfl,rfl,rfl⟩
def X2 (l:List OW) (id:Int) (k:Nat):Wlk:=if 0≤b8 l id∧b8 l id<k then(nth .ow l (b8 l id).toNat).wlk else⟨0,0,0,0,0⟩
theorem b1I (l:List OW) (id:Int):X2 l id 0=⟨0,0,0,0,0⟩:=by unfold X2;rw[if_neg (by omega)]
theorem d1o {o:One} (h:r6 o=true) {k:Nat} (hk:k<o.wlks.length):b8 o.wlks (nth .ow o.wlks k).wlk.id=k:=by
 refine b9L ((l8 _ _).2 fun j hj => ?_) hk rfl
 have:=a5j h hj hk
 simp only[nOw,isOw,Bool.not_eq_true',decide_eq_false_iff_not]
 omega
theorem c7w {o:One} {id:Int} {k:Nat} (h:r6 o=true) (hk:k<o.wlks.length) (hid:(nth .ow o.wlks k).wlk.id=id):X2 o.wlks id (k+1)=(nth .ow o.wlks k).wlk:=by
 have hp:b8 o.wlks id=k:=by rw[←hid];exact d1o h hk
 unfold X2
 rw[if_pos (by omega),hp,Int.toNat_natCast]
theorem d0M {o:One} {id:Int} {k:Nat} (hid : ¬(nth .ow o.wlks k).wlk.id=id):X2 o.wlks id (k+1)=X2 o.wlks id k:=by
 have hp:b8 o.wlks id≠k:=fun e=>hid (by
  have:=a1w (l:=o.wlks) (id:=id) (by omega)
  rw[e,Int.toNat_natCast]at this
  exact this)
 unfold X2
 by_cases hc:0≤b8 o.wlks id∧b8 o.wlks id<k
 ·rw[if_pos hc,if_pos (by omega)]
 ·rw[if_neg hc,if_neg (by omega)]
theorem b4O {o:One} {id:Int} {k:Nat} (hk:k=o.wlks.length) (hv : ¬(X2 o.wlks id k).id=0):0≤b8 o.wlks id∧X2 o.wlks id k=(nth .ow o.wlks (b8 o.wlks id).toNat).wlk:=by
 unfold X2 at hv ⊢
 split at hv
 ·rename_i h
  rw[if_pos h]
  exact⟨h.1,rfl⟩
 ·exact absurd rfl hv
theorem d8M {o:One} {a b:Ord} {k:Nat} (ho:r6 o=true) (ha:y9 a=true) (hb:y9 b=true) (hk:k=o.wlks.length) (va : ¬(X2 o.wlks a.who k).id=0) (vb : ¬(X2 o.wlks b.who k).id=0)
  (hc : ¬e8 o.map (X2 o.wlks a.who k).pos=e8 o.map (X2 o.wlks b.who k).pos) :
  (n9 (n9 o a).o b).o=(n9 (n9 o b).o a).o∧(n9 o a).code=(n9 (n9 o b).o a).code∧(n9 (n9 o a).o b).code=(n9 o b).code:=by
 obtain⟨a1,a2⟩:=b4O hk va
 obtain⟨b1,b2⟩:=b4O hk vb
 rw[a2,b2]at hc
 have ea:n9 o a=s4 o a:=by unfold n9;rw[if_pos ⟨ho,ha⟩]
 have eb:n9 o b=s4 o b:=by unfold n9;rw[if_pos ⟨ho,hb⟩]
 have ka:=(a4l ho ha).ok
 have kb:=(a4l ho hb).ok
 have eab:n9 (s4 o a).o b=s4 (s4 o a).o b:=by unfold n9;rw[if_pos ⟨ka,hb⟩]
 have eba:n9 (s4 o b).o a=s4 (s4 o b).o a:=by unfold n9;rw[if_pos ⟨kb,ha⟩]
 rw[ea,eb,eab,eba]
 obtain⟨p1,p2,p3⟩:=apart ho ha hb a1 b1 hc
 exact⟨p1,p2.symm,p3⟩
theorem d8N {o:One} (ho:r6 o=true) {v w:Wlk} {k:Nat} (hk:k=o.wlks.length) (va : ¬v.id=0) (vb : ¬w.id=0) (hc : ¬e8 o.map v.pos=e8 o.map w.pos) (a b:Ord) (ha:y9 a=true) (hb:y9 b=true) (hv:v=X2 o.wlks a.who k) (hw:w=X2 o.wlks b.who k) :
  (n9 (n9 o a).o b).o=(n9 (n9 o b).o a).o∧(n9 o a).code=(n9 (n9 o b).o a).code∧(n9 (n9 o a).o b).code=(n9 o b).code:=by
 subst hv hw
 exact d8M ho ha hb hk va vb hc
theorem b4N {o:One} (h:r6 o=true) {id i:Int} (h0:0≤i) (h1:i<(o.wlks.length:Int)) (hid:(nth .ow o.wlks i.toNat).wlk.id=id):(nth .ow o.wlks i.toNat).wlk=X2 o.wlks id (i+1).toNat:=by
 rw[show(i+1).toNat=i.toNat+1 by omega]
 exact(c7w h (by omega) hid).symm
theorem b8U {o:One} (_:r6 o=true) {id i:Int} {v:Wlk} (h0:0≤i) (hid : ¬(nth .ow o.wlks i.toNat).wlk.id=id) (hv:v=X2 o.wlks id i.toNat):v=X2 o.wlks id (i+1).toNat:=by
 rw[show(i+1).toNat=i.toNat+1 by omega,hv]
 exact(d0M hid).symm
end Go.Mo
