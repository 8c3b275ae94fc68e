/-
  Plain laws: walkers put in order by swaps, behind what is in order; the second loop by sides.
-/
import Derived.Test.YtmnapekfeenknaaGreatM7
import Derived.Test.YtmnapekfeenknaaGreatM1
import Derived.Test.YtmnapekfeenknaaGreatM3
set_option linter.unusedVariables false
set_option linter.unusedSimpArgs false
namespace Go.Mo
open Go.Sx
theorem c1h : ∀(l a:List OW),OLe (a++l)→l.foldl putO a=a++l
 |[],a,_=>by simp
 |x::l,a,h=>by
  have ha:a.all (ahO x)=true:=List.all_eq_true.2 fun y hy=>by
   have:=(List.pairwise_append.1 h).2.2 y hy x (by simp)
   simpa [ahO]using this
  rw[List.foldl_cons,b1X ha,c1h l (a ++ [x]) (by simpa using h)]
  simp
theorem b8O {l:List OW} (h:OLe l):n4 l=l:=by
 have:=c1h l [] (by simpa using h)
 simpa [n4]using this
section
variable {l:List OW} {i j k:Nat}
theorem b4L (h:i≤l.length):(srtd l i).take i=n4 (l.take i):=by
 unfold srtd
 exact List.take_left' (H9 h)
theorem c7o (h:i<l.length):(srtd l i).drop (i+1)=l.drop (i+1):=by
 have hl:=H9 (l:=l) (i:=i) (by omega)
 unfold srtd
 rw[List.drop_append,List.drop_eq_nil_of_le (by omega),List.nil_append,hl,List.drop_drop]
 congr 1
 omega
theorem d0D (h:i<l.length):nth .ow (srtd l i) i=nth .ow l i:=by
 rw[←c4r h]
 exact b8x h (Nat.le_refl i)
theorem c7n (h:i<l.length):srtd (srtd l i) (i+1)=srtd l (i+1):=by
 have hl:i<(srtd l i).length:=by rw[b8N (by omega)];exact h
 have e1:srtd (srtd l i) (i+1)=n4 ((srtd l i).take (i+1))++(srtd l i).drop (i+1):=rfl
 have e2:srtd l (i+1)=n4 (l.take (i+1))++l.drop (i+1):=rfl
 rw[e1,e2,c7o h,M6 .ow _ i hl,b4L (by omega),d0D h,a0O,b8O (b1F _),M6 .ow _ i h,a0O]
def S5 (l:List OW):Bool:=l.all fun x=>decide (0≤x.wlk.id∧x.wlk.id≤9)
theorem d0E {x:OW} (h:x∈srtd l i):x∈l:=by
 unfold srtd at h
 rcases List.mem_append.1 h with h|h
 ·exact List.mem_of_mem_take ((C8 _).mem_iff.1 h)
 ·exact List.mem_of_mem_drop h
theorem c3t (h:S5 l=true):S5 (srtd l i)=true:=by
 unfold S5 at *
 rw[List.all_eq_true]at *
 exact fun x hx=>h x (d0E hx)
theorem d8u (h:S5 l=true) (hk:k<l.length):0≤(nth .ow l k).wlk.id∧(nth .ow l k).wlk.id≤9:=by
 unfold S5 at h
 rw[List.all_eq_true]at h
 have:=h _ (s0 .ow hk)
 simpa using this
theorem d3b (h:S5 l=true) (hi:i≤l.length) (hk:k<i):0≤(nth .ow (n4 (l.take i)) k).wlk.id∧(nth .ow (n4 (l.take i)) k).wlk.id≤9:=by
 unfold S5 at h
 rw[List.all_eq_true]at h
 have hm:=(C8 _).mem_iff.1 (s0 .ow (l:=n4 (l.take i)) (i:=k) (by rw[H9 hi];exact hk))
 have:=h _ (List.mem_of_mem_take hm)
 simpa using this
end
section
variable {L R:List OW} {i j:Int}
structure SinkI (L R:List OW) (i j:Int):Prop where
 j0:0≤j
 ji:j≤i
 il:i<(L.length:Int)
 few:L.length≤9
 is:R=swp L i.toNat j.toNat
 gt:gtr L i.toNat j.toNat=true
 ids:S5 L=true
theorem SinkI.len (h:SinkI L R i j):R.length=L.length:=by
 rw[h.is,d4V (by have:=h.il;have:=h.j0;have:=h.ji;omega) (by have:=h.j0;have:=h.ji;omega)]
theorem SinkI.here (h:SinkI L R i j):nth .ow R j.toNat=nth .ow L i.toNat:=by
 have:=h.il;have:=h.j0;have:=h.ji
 rw[h.is,b8x (by omega) (by omega)]
theorem SinkI.below (h:SinkI L R i j) (h0:0<j):nth .ow R (j-1).toNat=nth .ow (n4 (L.take i.toNat)) (j-1).toNat:=by
 have h1:=h.il;have h2:=h.ji
 have:=b4D (l:=L) (i:=i.toNat) (j:=(j-1).toNat) (by omega) (by omega)
 rw[h.is,show j.toNat=(j-1).toNat+1 by omega,this]
theorem SinkI.cmp (h:SinkI L R i j) (h0:0<j):IntKind.i64.wrap ((nth .ow R j.toNat).wlk.id-(nth .ow R (j-1).toNat).wlk.id)=(nth .ow L i.toNat).wlk.id-(nth .ow (n4 (L.take i.toNat)) (j-1).toNat).wlk.id:=by
 have h1:=h.il;have h2:=h.ji
 have a:=d8u (k:=i.toNat) h.ids (by omega)
 have b:=d3b (i:=i.toNat) (k:=(j-1).toNat) h.ids (by omega) (by omega)
 rw[h.here,h.below h0]
 exact e9 (by omega) (by omega)
theorem SinkI.step (h:SinkI L R i j) (h0:0<j) (hc:IntKind.i64.wrap ((nth .ow R j.toNat).wlk.id-(nth .ow R (j-1).toNat).wlk.id)<0):SinkI L ((R.set j.toNat (nth .ow R (j-1).toNat)).set (j-1).toNat (nth .ow R j.toNat)) i (j-1):=by
 have h1:=h.il;have h2:=h.ji
 rw[h.cmp h0]at hc
 have e:=d0s (l:=L) (i:=i.toNat) (j:=(j-1).toNat) (by omega) (by omega)
 have hj:(j-1).toNat+1=j.toNat:=by omega
 rw[hj]at e
 refine⟨by omega,by omega,h1,h.few,?_,?_,h.ids⟩
 ·rw[h.here,h.is,e]
 ·have hg:=h.gt
  rw[←hj]at hg
  exact d3m (by omega) (by omega) hg (by omega)
theorem SinkI.stop (h:SinkI L R i j) (hc : ¬0<j∨0<j ∧ ¬IntKind.i64.wrap ((nth .ow R j.toNat).wlk.id-(nth .ow R (j-1).toNat).wlk.id)<0):R=srtd L (i+1).toNat:=by
 have h1:=h.il;have h2:=h.ji;have h3:=h.j0
 rw[h.is,show(i+1).toNat=i.toNat+1 by omega]
 refine d4W (by omega) (by omega) h.gt ?_
 rcases hc with hc|⟨h0,hc⟩
 ·exact Or.inl (by omega)
 ·rw[h.cmp h0]at hc
  rw[show j.toNat-1=(j-1).toNat by omega]
  exact Or.inr ⟨by omega,by omega⟩
structure SortI (L R:List OW) (a b i:Int):Prop where
 a0:a=0
 bl:b=(L.length:Int)
 i1:1≤i
 i2:i≤10
 few:L.length≤9
 is:R=srtd L i.toNat
 ids:S5 L=true
variable {a b:Int}
theorem SortI.len (h:SortI L R a b i) (hi:i≤b):R.length=L.length:=by
 have:=h.bl
 rw[h.is,b8N (by omega)]
theorem SortI.start (hf:L.length≤9) (hd:S5 L=true):SortI L L 0 (L.length:Int) (0+1):=⟨rfl,rfl,by omega,by omega,hf,by rw[show((0:Int)+1).toNat=1 from rfl,d0C],hd⟩
theorem SortI.down (h:SortI L R a b i) (hi:i<b):SinkI R R i i:=by
 have h1:=h.i1
 have hb:=h.bl
 have hl:=h.len (by omega)
 have hf:=h.few
 have hin:i.toNat<L.length:=by omega
 refine⟨by omega,by omega,by omega,by omega,?_,?_,by rw[h.is];exact c3t h.ids⟩
 ·have:=c4r (l:=R) (i:=i.toNat) (by omega)
  rw[this]
  conv=>lhs;rw[h.is]
  rw[h.is]
  have hs:srtd (srtd L i.toNat) i.toNat=srtd L i.toNat:=by
   have e1:srtd (srtd L i.toNat) i.toNat=n4 ((srtd L i.toNat).take i.toNat)++(srtd L i.toNat).drop i.toNat:=rfl
   rw[e1,b4L (by omega),b8O (b1F _)]
   have:(srtd L i.toNat).drop i.toNat=L.drop i.toNat:=by
    unfold srtd
    exact List.drop_left' (H9 (by omega))
   rw[this]
   rfl
  rw[hs]
 ·exact d6n (by omega)
theorem SortI.next {R':List OW} (h:SortI L R a b i) (hi:i<b) (hR:R'=srtd R (i+1).toNat):SortI L R' a b (IntKind.i64.wrap (i+1)):=by
 have h1:=h.i1
 have hf:=h.few
 have hb:=h.bl
 rw[e9 (by omega) (by omega)]
 refine⟨h.a0,hb,by omega,by omega,hf,?_,h.ids⟩
 rw[hR,h.is,show(i+1).toNat=i.toNat+1 by omega]
 exact c7n (by omega)
theorem SortI.less (h:SortI L R a b i) (hi:i<b):(11-IntKind.i64.wrap (i+1)).toNat<(11-i).toNat:=by
 have h1:=h.i1
 have hf:=h.few
 have hb:=h.bl
 rw[e9 (by omega) (by omega)]
 omega
theorem SortI.done (h:SortI L R a b i) (hi : ¬i<b):R=n4 L:=by
 have hb:=h.bl
 rw[h.is,d0F (by omega)]
theorem SinkI.in1 (h:SinkI L R i j):0≤j∧j<(R.length:Int):=by
 have h1:=h.j0;have h2:=h.ji;have h3:=h.il;have h4:=h.len
 omega
theorem SinkI.in2 (h:SinkI L R i j) (hj:0<j):0≤IntKind.i64.wrap (j-1)∧IntKind.i64.wrap (j-1)<(R.length:Int):=by
 have h2:=h.ji;have h3:=h.il;have h4:=h.len;have h5:=h.few
 rw[e9 (by omega) (by omega)]
 omega
theorem SinkI.pred (h:SinkI L R i j) (hj:0<j):IntKind.i64.wrap (j-1)=j-1:=by
 have h2:=h.ji;have h3:=h.il;have h5:=h.few
 exact e9 (by omega) (by omega)
end
section
variable {L R:List OW} {i j:Int}
theorem SinkI.in3 (h:SinkI L R i j) (hj:0<j) (k:Nat) (x:OW):0≤IntKind.i64.wrap (j-1)∧IntKind.i64.wrap (j-1)<((R.set k x).length:Int):=by
 rw[List.length_set]
 exact h.in2 hj
theorem SinkI.d8U (h:SinkI L R i j) (hj:0<j) (hc:IntKind.i64.wrap ((nth .ow R j.toNat).wlk.id-(nth .ow R (IntKind.i64.wrap (j-1)).toNat).wlk.id)<0) :
  SinkI L ((R.set j.toNat (nth .ow R (IntKind.i64.wrap (j-1)).toNat)).set (IntKind.i64.wrap (j-1)).toNat (nth .ow R j.toNat)) i (IntKind.i64.wrap (j-1)):=by
 rw[h.pred hj]at hc ⊢
 exact h.step hj hc
theorem SinkI.d8Z (h:SinkI L R i j) (hj:0<j):(IntKind.i64.wrap (j-1)).toNat<j.toNat:=by
 rw[h.pred hj]
 omega
theorem SinkI.d8T (h:SinkI L R i j) (hj:0<j) (hc : ¬IntKind.i64.wrap ((nth .ow R j.toNat).wlk.id-(nth .ow R (IntKind.i64.wrap (j-1)).toNat).wlk.id)<0):R=srtd L (i+1).toNat:=by
 rw[h.pred hj]at hc
 exact h.stop (.inr ⟨hj,hc⟩)
end
def accS (m:PMap) (st:List Sto) (i s:Nat):List OW:=if s=0 then accF m st i 0 0 else if s=1 then accF m st i 1 0 else accF m st (i+1) 0 0
def airS (m:PMap) (st:List Sto) (i s:Nat):List (List Int):=if s=0 then airA m st i 0 0 else if s=1 then airA m st i 1 0 else airA m st (i+1) 0 0
section
variable {m:PMap} {st:List Sto} {w:Wld} {i s j:Int}
theorem b1q (h0:0≤s) (h1:s<2):accS m st i.toNat s.toNat=accF m st i.toNat s.toNat 0∧airS m st i.toNat s.toNat=airA m st i.toNat s.toNat 0:=by
 have:s.toNat=0∨s.toNat=1:=by omega
 unfold accS airS
 rcases this with h|h<;>rw[h]<;>exact⟨rfl,rfl⟩
theorem c1I (h0:0≤i) (h:s=2):accS m st i.toNat s.toNat=accF m st (i+1).toNat 0 0∧airS m st i.toNat s.toNat=airA m st (i+1).toNat 0 0:=by
 subst h
 rw[show(i+1).toNat=i.toNat+1 by omega]
 exact⟨rfl,rfl⟩
theorem c1J (h0:0≤i) (hs0:0≤s) (hs:s<2) (hj0:0≤j) (hj:j<((fl m st i s).length:Int)) (hk:(nth .pcl (fl m st i s) j.toNat).kind=1) :
  accF m st i.toNat s.toNat j.toNat ++ [⟨(nth .pcl (fl m st i s) j.toNat).wlk,false⟩]=accF m st i.toNat s.toNat (j+1).toNat∧airA m st i.toNat s.toNat j.toNat=airA m st i.toNat s.toNat (j+1).toNat:=by
 have hi:((i.toNat:Nat):Int)=i:=by omega
 have hss:((s.toNat:Nat):Int)=s:=by omega
 have h1 := @b3Y m st i.toNat s.toNat j.toNat (by omega) (by rw[hi,hss];omega) (by rw[hi,hss];exact hk)
 have h2 := @b3T m st i.toNat s.toNat j.toNat (by omega) (by rw[hi,hss];omega) (by rw[hi,hss];exact hk)
 rw[hi,hss]at h1
 rw[show(j+1).toNat=j.toNat+1 by omega,h1,h2]
 exact⟨rfl,rfl⟩
theorem c9T (h0:0≤i) (hs0:0≤s) (hs:s<2) (hj0:0≤j) (hj:j<((fl m st i s).length:Int)) (hk : ¬(nth .pcl (fl m st i s) j.toNat).kind=1) :
  accF m st i.toNat s.toNat j.toNat=accF m st i.toNat s.toNat (j+1).toNat:=by
 have hi:((i.toNat:Nat):Int)=i:=by omega
 have hss:((s.toNat:Nat):Int)=s:=by omega
 have h1 := @b0e m st i.toNat s.toNat j.toNat (by omega) (by rw[hi,hss];omega) (by rw[hi,hss];exact hk)
 rw[show(j+1).toNat=j.toNat+1 by omega,h1]
theorem d4D (h:m8 w=true) (h0:0≤i) (hs0:0≤s) (hs:s<2) (hd : ¬b7 w.map i s = -1) (hj0:0≤j) (hj:j<((fl w.map w.stores i s).length:Int)) (hk : ¬(nth .pcl (fl w.map w.stores i s) j.toNat).kind=1) :
  (airA w.map w.stores i.toNat s.toNat j.toNat).set (b7 w.map i s).toNat ((nth .ints (airA w.map w.stores i.toNat s.toNat j.toNat) (b7 w.map i s).toNat).set (1-s).toNat (IntKind.i64.wrap (nth .int (nth .ints (airA w.map w.stores i.toNat s.toNat j.toNat) (b7 w.map i s).toNat) (1-s).toNat+(nth .pcl (fl w.map w.stores i s) j.toNat).j8)))=airA w.map w.stores i.toNat s.toNat (j+1).toNat:=by
 have hi:((i.toNat:Nat):Int)=i:=by omega
 have hss:((s.toNat:Nat):Int)=s:=by omega
 have hin:=D7 hd
 have hb:=(b1p (a5Y h) (i:=i.toNat) (s:=s.toNat) (j:=j.toNat) (d:=(b7 w.map i s).toNat) (u:=(1-s).toNat) (by omega) (by omega)).2
 have hb1 : @LE.le Int _ 0 (nth .int (nth .ints (airA w.map w.stores i.toNat s.toNat j.toNat) (b7 w.map i s).toNat) (1-s).toNat):=hb.1
 have hb2 : @LE.le Int _ (nth .int (nth .ints (airA w.map w.stores i.toNat s.toNat j.toNat) (b7 w.map i s).toNat) (1-s).toNat) 45000:=hb.2
 have hp:=J1.1 (c3F h hj0 hj)
 have h1 := @b0c w.map w.stores i.toNat s.toNat j.toNat (by omega) (by rw[hi,hss];exact hd) (by rw[hi,hss];omega)
 rw[hi,hss]at h1
 have hc:cC (nth .pcl (fl w.map w.stores i s) j.toNat)=(nth .pcl (fl w.map w.stores i s) j.toNat).j8:=by
  unfold cC
  rw[if_neg hk]
 rw[show(j+1).toNat=j.toNat+1 by omega,h1,hc,e9 (by omega) (by omega)]
theorem b0d (h0:0≤i) (hs0:0≤s) (hs:s<2) (hj:j≤((fl m st i s).length:Int)) (hj2 : ¬j<((fl m st i s).length:Int)) :
  accF m st i.toNat s.toNat j.toNat=accS m st i.toNat (s+1).toNat∧airA m st i.toNat s.toNat j.toNat=airS m st i.toNat (s+1).toNat:=by
 have hi:((i.toNat:Nat):Int)=i:=by omega
 have:s=0∨s=1:=by omega
 rcases this with rfl|rfl
 ·rw[show(0:Int).toNat=0 from rfl,show((0:Int)+1).toNat=1 from rfl,b3X (by rw[hi];omega),b3S (by rw[hi];omega)]
  exact⟨rfl,rfl⟩
 ·rw[show(1:Int).toNat=1 from rfl,show((1:Int)+1).toNat=2 from rfl,b3W (by rw[hi];omega),b3R (by rw[hi];omega)]
  exact⟨rfl,rfl⟩
theorem b6j (h0:0≤i) (hs0:0≤s) (hs:s<2) (hd:b7 m i s = -1):accS m st i.toNat s.toNat=accS m st i.toNat (s+1).toNat∧airS m st i.toNat s.toNat=airS m st i.toNat (s+1).toNat:=by
 have he:fl m st i s = []:=by
  unfold fl
  rw[if_pos hd]
 have:=b0d (m:=m) (st:=st) (j:=0) h0 hs0 hs (by rw[he];simp) (by rw[he];simp)
 rw[(b1q hs0 hs).1,(b1q hs0 hs).2]
 exact this
theorem d8A (h : ¬b7 m i s = -1):A3 (nth .pcls (cX m st i).outs s.toNat) (nth .int (cX m st (b7 m i s)).ins (1-s).toNat)=fl m st i s:=by
 unfold fl
 rw[if_neg h]
 rfl
end
section
variable {m:PMap} {st:List Sto} {w:Wld} {i k s j:Int}
theorem d8K:r9 m (nth .sto st i.toNat)=cX m st i:=rfl
theorem c9V (h0:0≤i) (hk0:0≤k) (hk:k<((cX m st i).wlks.length:Int)):accH m st i.toNat k.toNat ++ [⟨nth .wlk (cX m st i).wlks k.toNat,true⟩]=accH m st i.toNat (k+1).toNat:=by
 have hi:((i.toNat:Nat):Int)=i:=by omega
 rw[show(k+1).toNat=k.toNat+1 by omega,b6l (by rw[hi];omega),hi]
theorem c4e (h0:0≤i) (hk:k≤((cX m st i).wlks.length:Int)) (hk2 : ¬k<((cX m st i).wlks.length:Int)):accH m st i.toNat k.toNat=accH m st (i+1).toNat 0:=by
 have hi:((i.toNat:Nat):Int)=i:=by omega
 rw[show(i+1).toNat=i.toNat+1 by omega,c1M (by rw[hi];omega)]
theorem d6S (h0 : ¬i<w.map.cells) (h1:i≤w.map.cells):accH w.map w.stores i.toNat 0=accF w.map w.stores 0 0 0:=by
 rw[show i=w.map.cells by omega,c1L]
theorem c9W (h:m8 w=true) (h0:0≤i) (h1:i<w.map.cells) (a:Nat):(accH w.map w.stores i.toNat a).length≤100000:=by
 have:=c1K (k:=(a:Int)) h h0 h1
 rw[a1K]at this
 exact this
theorem c9Z (h:m8 w=true) (h0:0≤i) (h1:i≤w.map.cells) (a b:Nat):(accF w.map w.stores i.toNat a b).length≤100000:=by
 have:=b3Z h h0 h1 a b
 rw[a1K]at this
 exact this
theorem d1A (h:m8 w=true) (h0:0≤i) (h1:i<w.map.cells):B2 w.map (nth .sto w.stores i.toNat)=true:=(a1q h h0 h1).2.1
theorem b7k (h:m8 w=true) (hd : ¬b7 w.map i s = -1):(cX w.map w.stores (b7 w.map i s)).ins.length=2:=b7l h (D7 hd).2.2.1 (D7 hd).2.2.2
theorem c9O (h:m8 w=true) (hd : ¬b7 w.map i s = -1) (a b c:Nat):(nth .ints (airA w.map w.stores a b c) (b7 w.map i s).toNat).length=2:=c1H h (D7 hd).2.2.1 (D7 hd).2.2.2 a b c
theorem d0K (hd : ¬b7 w.map i s = -1):0≤b7 w.map i s∧b7 w.map i s<(w.map.cells.toNat:Int):=by
 have:=D7 hd
 omega
end
section
variable {w:Wld} {i k n s j a b:Int} {R:List OW}
theorem b8I (hd : ¬b7 w.map i s = -1) (h0 : ¬n<w.map.cells):nth .cll (O3 w.map w.stores n.toNat) (b7 w.map i s).toNat=cX w.map w.stores (b7 w.map i s):=by
 have:=D7 hd
 exact c2f this.2.2.1 (by omega)
theorem c7s (hd : ¬b7 w.map i s = -1) (h0 : ¬n<w.map.cells):0≤b7 w.map i s∧b7 w.map i s<(n.toNat:Int):=by
 have:=D7 hd
 omega
theorem d7m {n:Nat} (h:n≤100000):(n+(0+1)) * 48≤140737488355328:=by omega
theorem b6H (hp:m8 w=true→(allO w.map w.stores).length≤9∧S5 (allO w.map w.stores)=true) (h:m8 w=true) (h0 : ¬i<w.map.cells) (h1:i≤w.map.cells) :
  (accF w.map w.stores i.toNat 0 0).length≤9∧S5 (accF w.map w.stores i.toNat 0 0)=true:=by
 rw[show i=w.map.cells by omega,b4a]
 exact hp h
theorem d0I (hp:m8 w=true→(allO w.map w.stores).length≤9∧S5 (allO w.map w.stores)=true) (h:m8 w=true) (h0 : ¬i<w.map.cells) (h1:i≤w.map.cells):((accF w.map w.stores i.toNat 0 0).length:Int)≤9:=by
 have:=(b6H hp h h0 h1).1
 omega
theorem c2i (hp:m8 w=true→(allO w.map w.stores).length≤9∧S5 (allO w.map w.stores)=true) (h:m8 w=true) (h0 : ¬i<w.map.cells) (h1:i≤w.map.cells) :
  SortI (accF w.map w.stores i.toNat 0 0) (accF w.map w.stores i.toNat 0 0) 0 ((accF w.map w.stores i.toNat 0 0).length:Int) (0+1):=SortI.start (b6H hp h h0 h1).1 (b6H hp h h0 h1).2
theorem d1D (h:m8 w=true) (h0 : ¬i<w.map.cells) (h1:i≤w.map.cells) (h2 : ¬n<w.map.cells) (h3:n≤w.map.cells) (hs:SortI (accF w.map w.stores i.toNat 0 0) R a b k) (hk : ¬k<b) :
  w.map.cells=(oneOf w).map.cells∧w.map.width=(oneOf w).map.width∧R=(oneOf w).wlks∧V8 w.map w.stores n.toNat=(oneOf w).ground∧airA w.map w.stores i.toNat 0 0=(oneOf w).air:=by
 have:=c5u h h0 h1 h2 h3
 rw[hs.done hk]
 exact this
end
end Go.Mo
namespace Go.Mo
open Go.Sx
theorem tm {a n:Int} (ha:0≤a) (hn:1≤n):0≤a.tmod n∧a.tmod n<n:=by
 rw[Int.tmod_eq_emod_of_nonneg ha]
 exact⟨Int.emod_nonneg _ (by omega),Int.emod_lt_of_pos _ (by omega)⟩
theorem td {a n:Int} (ha:0≤a) (hn:1≤n):0≤a.tdiv n∧a.tdiv n≤a:=by
 rw[Int.tdiv_eq_ediv_of_nonneg ha]
 exact⟨Int.ediv_nonneg ha (by omega),Int.ediv_le_self n ha⟩
theorem xorw {a b:Int} (ha:0≤a) (ha2:a<9223372036854775808) (hb:0≤b) (hb2:b<9223372036854775808):0≤IntKind.i64.wrap (((BitVec.ofInt IntKind.i64.bits a ^^^ BitVec.ofInt IntKind.i64.bits b).toNat:Nat):Int):=by
 have h1 : ∀x:Int,0≤x→x<9223372036854775808→(BitVec.ofInt IntKind.i64.bits x).toNat<2 ^ 63:=fun x h0 h2=>by
  rw[BitVec.toNat_ofInt]
  have:IntKind.i64.bits=64:=rfl
  rw[this]
  omega
 have h2:(BitVec.ofInt IntKind.i64.bits a ^^^ BitVec.ofInt IntKind.i64.bits b).toNat<2 ^ 63:=by
  rw[BitVec.toNat_xor]
  exact Nat.xor_lt_two_pow (h1 a ha ha2) (h1 b hb hb2)
 rw[e9 (by omega) (by omega)]
 omega
theorem d8c {l:List Int} (h:OkA (.list .byte fun _=>l)) : ∀i,i<l.length → @LE.le Int _ 0 (nth .byte l i) ∧ @LE.le Int _ (nth .byte l i) 255:=by
 cases h with
 |list _ _ _ g =>
  intro i hi
  have:=g i 0 _ hi rfl
  cases this with
  |int _ _ h1 h2=>exact⟨h1,h2⟩
theorem d1i {L p b1 b2 n:Int} (hL:1≤L) (hp0:0≤p) (hp:p≤1000000001000) (h1:0≤b1∧b1≤255) (h2:0≤b2∧b2≤255) (hn:1≤n) (x:Int)
  (hx:x=IntKind.i64.wrap (IntKind.i64.wrap (IntKind.i64.wrap (IntKind.i64.wrap (b1 * 131)+IntKind.i64.wrap (b2 * 1117))+IntKind.i64.wrap (p * 29))+IntKind.i64.wrap (IntKind.i64.wrap (p.tdiv L) * 53))) :
  0≤(IntKind.i64.wrap (((BitVec.ofInt IntKind.i64.bits x ^^^ BitVec.ofInt IntKind.i64.bits (IntKind.i64.wrap (x.tdiv 64))).toNat:Nat):Int)).tmod n∧(IntKind.i64.wrap (((BitVec.ofInt IntKind.i64.bits x ^^^ BitVec.ofInt IntKind.i64.bits (IntKind.i64.wrap (x.tdiv 64))).toNat:Nat):Int)).tmod n<n:=by
 have hd:=td hp0 hL
 generalize hdd:p.tdiv L=d at *
 rw[e9 (n:=b1 * 131) (by omega) (by omega),e9 (n:=b2 * 1117) (by omega) (by omega),e9 (n:=b1 * 131+b2 * 1117) (by omega) (by omega),e9 (n:=p * 29) (by omega) (by omega),e9 (n:=d) (by omega) (by omega),e9 (n:=d * 53) (by omega) (by omega),
  e9 (n:=b1 * 131+b2 * 1117+p * 29) (by omega) (by omega),e9 (n:=b1 * 131+b2 * 1117+p * 29+d * 53) (by omega) (by omega)]at hx
 have hx0:0≤x:=by omega
 have hx1:x<9223372036854775808:=by omega
 have hd2:=td hx0 (show(1:Int)≤64 by omega)
 rw[e9 (n:=x.tdiv 64) (by omega) (by omega)]
 exact tm (xorw hx0 hx1 hd2.1 (by omega)) hn
structure Placed (L:List Int) (w:Wld):Prop where
 frm:From w
 srt:L.Pairwise (· < ·)
 whole:Whole L (fun _=>0) w
section
variable {L:List Int} {w:Wld}
theorem Placed.nodup (h:Placed L w):L.Nodup:=h.srt.imp fun hab=>by omega
theorem Placed.inv (h:Placed L w):OneInv w.map w.stores:=h.whole.one h.nodup
theorem a3D (h:m8 w=true):oneOf w=m6 w.map w.stores:=by
 unfold oneOf
 rw[if_pos h]
end
section
variable {o:One} {k:Nat}
end
end Go.Mo
namespace Go.Mo
open Go.Sx
structure BegL (l:List Wlk) (w:Wld):Prop where
 ok:m8 w=true
 all:x7 w.map l=true
 recs : ∀c:Int,0≤c→c<w.map.cells→(stAt w.stores c).recs = []∧(stAt w.stores c).base=W8 w.map c l
def newD (a b:List Sto) (i:Nat):Int:=((nth .sto b i).recs.length:Int)-((nth .sto a i).recs.length:Int)
def Q3 (a b:List Sto):Nat→Int
 | 0 => -1
 |k+1=>if Q3 a b k = -2∨newD a b k<0∨1<newD a b k∨newD a b k=1∧Q3 a b k ≠ -1 then -2 else if newD a b k=1 then(k:Int)else Q3 a b k
def v5 (a b:List Sto):Int:=Q3 a b a.length
section
variable {a b:List Sto} {k n:Nat}
theorem b0E (h0:Q3 a b k ≠ -2) (h1:newD a b k=1) (h2:Q3 a b k = -1):Q3 a b (k+1)=(k:Int):=by
 rw[Q3,if_neg (by omega),if_pos h1]
theorem a5r (h0:Q3 a b k ≠ -2) (h1:newD a b k=0):Q3 a b (k+1)=Q3 a b k:=by
 rw[Q3,if_neg (by omega),if_neg (by omega)]
theorem a7c (h : ∀i,i<n→newD a b i=0):Q3 a b n = -1:=by
 induction n with
 |zero=>rfl
 |succ n ih =>
  have:=ih fun i hi=>h i (by omega)
  rw[a5r (by omega) (h n (by omega)),this]
theorem b5x {d:Nat} (hd:newD a b d=1) (h : ∀i,i≠d→newD a b i=0) (hn:d<n):Q3 a b n=(d:Int):=by
 induction n with
 |zero=>omega
 |succ n ih =>
  by_cases he:d=n
  ·subst he
   have:=a7c (n:=d) fun i hi=>h i (by omega)
   exact b0E (by omega) hd this
  ·have:=ih (by omega)
   rw[a5r (by omega) (h n (by omega)),this]
end
structure LogsE (st st':List Sto):Prop where
 len:st'.length=st.length
 pre : ∀i:Nat,(nth .sto st' i).recs.take (nth .sto st i).recs.length=(nth .sto st i).recs∧(nth .sto st i).recs.length≤(nth .sto st' i).recs.length
 age : ∀i:Nat,(nth .sto st i).age≤(nth .sto st' i).age
 one:(∀i,newD st st' i=0) ∨ ∃d,d<st.length∧newD st st' d=1 ∧ ∀i,i≠d→newD st st' i=0
theorem LogsE.refl (st:List Sto):LogsE st st:=⟨rfl,fun _=>⟨by simp,by omega⟩,fun _=>by omega,Or.inl fun _=>by simp[newD]⟩
theorem LogsE.new {st st':List Sto} (h:LogsE st st') : -1≤v5 st st':=by
 rcases h.one with h|⟨d,hd,h1,h2⟩
 ·unfold v5
  rw[a7c fun i _=>h i]
  omega
 ·unfold v5
  rw[b5x h1 h2 hd]
  omega
theorem b6U {w:Wld} (h:m8 w=true) {i:Nat} (hi:i<w.stores.length):(nth .sto w.stores i).recs.length≤250:=by
 have h3:=D9.1 (q9.1 h).2.1
 have:=(h3.2.2 i hi).1
 have:=(z6.1 this).2.2
 omega
end Go.Mo
namespace Go.Mo
open Go.Sx
end Go.Mo
namespace Go.Sx
def mkOne (a b:Th Int) (c:Th (List OW)) (d:Th (List Int)) (e:Th (List (List Int))):Th One:=fun _=>⟨⟨a (),b ()⟩,c (),d (),e ()⟩
def b9v (σ : St) (k:Nat):Th One:=mkOne (asI (σ.ce k 0)) (asI (σ.ce k 1)) (asL .ow (σ.ce k 2)) (asL .int (σ.ce k 3)) (asL .ints (σ.ce k 4))
end Go.Sx
namespace Go.Mo
open Go.Sx
def a8M (o:One) (c:Int) (r:Rec):One:=if r.kind=1 then(n9 o r.ord).o else if r.kind=2 then(if r.pcl.kind=1 then B7 o r.pcl.wlk.id else B3 o c r.side r.pcl.j8)else o
def a3K (s:Sto):Rec:=nth .rcd s.recs (s.recs.length-1)
section
variable {m:PMap} {st st':List Sto} {d:Int} {r:Rec}
end
def E9 (w x:Wld):Prop:=m8 x=true∧x.map=w.map∧x.stores.length=w.stores.length ∧
 (v5 w.stores x.stores = -1∧oneOf x=oneOf w ∨
  0≤v5 w.stores x.stores∧v5 w.stores x.stores<w.stores.length∧1≤(nth .sto x.stores (v5 w.stores x.stores).toNat).recs.length ∧
  a8M (oneOf w) (v5 w.stores x.stores) (a3K (nth .sto x.stores (v5 w.stores x.stores).toNat))=oneOf x ∧
  ((a3K (nth .sto x.stores (v5 w.stores x.stores).toNat)).kind=1 →
   (a4C w.map (E4 w.map (nth .sto w.stores (v5 w.stores x.stores).toNat)) (a3K (nth .sto x.stores (v5 w.stores x.stores).toNat)).ord).code=(n9 (oneOf w) (a3K (nth .sto x.stores (v5 w.stores x.stores).toNat)).ord).code))
section
variable {w x:Wld}
theorem E9.pre (h:E9 w x) (hw:m8 w=true):m8 w=true∧m8 x=true∧x.stores.length=w.stores.length:=⟨hw,h.1,h.2.2.1⟩
theorem E9.same (h:E9 w x) (hn:v5 w.stores x.stores = -1):oneOf w=oneOf x:=by
 rcases h.2.2.2 with h|h
 ·exact h.2.symm
 ·have:=h.1;omega
theorem E9.yes (h:E9 w x) (hn:0≤v5 w.stores x.stores):v5 w.stores x.stores<w.stores.length∧1≤(nth .sto x.stores (v5 w.stores x.stores).toNat).recs.length ∧
  a8M (oneOf w) (v5 w.stores x.stores) (a3K (nth .sto x.stores (v5 w.stores x.stores).toNat))=oneOf x ∧
  ((a3K (nth .sto x.stores (v5 w.stores x.stores).toNat)).kind=1 →
   (a4C w.map (E4 w.map (nth .sto w.stores (v5 w.stores x.stores).toNat)) (a3K (nth .sto x.stores (v5 w.stores x.stores).toNat)).ord).code=(n9 (oneOf w) (a3K (nth .sto x.stores (v5 w.stores x.stores).toNat)).ord).code):=by
 rcases h.2.2.2 with h|h
 ·have:=h.1;omega
 ·exact⟨h.2.1,h.2.2.1,h.2.2.2.1,h.2.2.2.2⟩
theorem E9.inX (h:E9 w x) (hn:0≤v5 w.stores x.stores):0≤v5 w.stores x.stores∧v5 w.stores x.stores<(x.stores.length:Int):=by
 have:=(h.yes hn).1
 have:=h.2.2.1
 omega
theorem E9.last (h:E9 w x) (hn:0≤v5 w.stores x.stores):IntKind.i64.wrap (((nth .sto x.stores (v5 w.stores x.stores).toNat).recs.length:Int)-1)=((nth .sto x.stores (v5 w.stores x.stores).toNat).recs.length:Int)-1∧1≤((nth .sto x.stores (v5 w.stores x.stores).toNat).recs.length:Int):=by
 have h1:=(h.yes hn).2.1
 have h2:=h.inX hn
 have h3:=b6U h.1 (i:=(v5 w.stores x.stores).toNat) (by omega)
 exact⟨e9 (by omega) (by omega),by omega⟩
theorem E9.inR (h:E9 w x) (hn:0≤v5 w.stores x.stores):0≤IntKind.i64.wrap (((nth .sto x.stores (v5 w.stores x.stores).toNat).recs.length:Int)-1) ∧
  IntKind.i64.wrap (((nth .sto x.stores (v5 w.stores x.stores).toNat).recs.length:Int)-1)<((nth .sto x.stores (v5 w.stores x.stores).toNat).recs.length:Int):=by
 have:=h.last hn
 rw[this.1]
 omega
theorem E9.rec (h:E9 w x) (hn:0≤v5 w.stores x.stores) : @Eq Rec (nth .rcd (nth .sto x.stores (v5 w.stores x.stores).toNat).recs (IntKind.i64.wrap (((nth .sto x.stores (v5 w.stores x.stores).toNat).recs.length:Int)-1)).toNat) (a3K (nth .sto x.stores (v5 w.stores x.stores).toNat)):=by
 have:=h.last hn
 rw[this.1]
 unfold a3K
 congr 1
 omega
theorem E9.goes (h:E9 w x) (hn:0≤v5 w.stores x.stores):a8M (oneOf w) (v5 w.stores x.stores) (nth .rcd (nth .sto x.stores (v5 w.stores x.stores).toNat).recs (IntKind.i64.wrap (((nth .sto x.stores (v5 w.stores x.stores).toNat).recs.length:Int)-1)).toNat)=oneOf x:=by
 rw[h.rec hn]
 exact(h.yes hn).2.2.1
theorem E9.code (h:E9 w x) (hn:0≤v5 w.stores x.stores) (hk:(nth .rcd (nth .sto x.stores (v5 w.stores x.stores).toNat).recs (IntKind.i64.wrap (((nth .sto x.stores (v5 w.stores x.stores).toNat).recs.length:Int)-1)).toNat).kind=1) :
  (a4C w.map (E4 w.map (nth .sto w.stores (v5 w.stores x.stores).toNat)) (nth .rcd (nth .sto x.stores (v5 w.stores x.stores).toNat).recs (IntKind.i64.wrap (((nth .sto x.stores (v5 w.stores x.stores).toNat).recs.length:Int)-1)).toNat).ord).code =
   (n9 (oneOf w) (nth .rcd (nth .sto x.stores (v5 w.stores x.stores).toNat).recs (IntKind.i64.wrap (((nth .sto x.stores (v5 w.stores x.stores).toNat).recs.length:Int)-1)).toNat).ord).code:=by
 rw[h.rec hn]at hk ⊢
 exact(h.yes hn).2.2.2 hk
end
end Go.Mo
namespace Go.Mo
open Go.Sx
theorem a5W {l l':List OW} {id:Int} (hl:l'.length=l.length) (h : ∀i,i<l.length→(nth .ow l' i).wlk.id=(nth .ow l i).wlk.id):b8 l' id=b8 l id:=by
 rcases C6 (isOw id) l with ⟨e,hno⟩|⟨k,hk,e,h1,h2⟩
 ·have e1:b8 l id = -1:=e
  rw[e1]
  refine c5n (k:=l'.length) ((l8 _ _).2 fun j hj => ?_) rfl
  have:=hno _ (s0 .ow (l:=l) (i:=j) (by omega))
  simp only[isOw,decide_eq_false_iff_not]at this
  simp only[nOw,isOw,h j (by omega),Bool.not_eq_true',decide_eq_false_iff_not]
  exact this
 ·have e1:b8 l id=k:=e
  rw[e1]
  have hid:(nth .ow l k).wlk.id=id:=by
   rw[k9 .ow _ k hk]
   simpa [isOw]using h1
  refine b9L ((l8 _ _).2 fun j hj => ?_) (by omega) (by rw[h k hk];exact hid)
  have:=h2 j hj
  rw[←k9 .ow l j (by omega)]at this
  simp only[isOw,decide_eq_false_iff_not]at this
  simp only[nOw,isOw,h j (by omega),Bool.not_eq_true',decide_eq_false_iff_not]
  exact this
structure Said (m:PMap) (s:Srv) (t:Arb) (v cell:Int) (z:Msg):Prop where
 ok:y5 m v z=true
 side:z.side=0∨z.side=1
 at1:z.cell=b7 m cell (1-z.side)
 lo:0≤z.cell
 hi:z.cell<(t.servers.length:Int)
 dest:z.dest=nth .int t.servers z.cell.toNat
 kind:z.kind=5∨z.kind=7
 num:z.kind=5→0≤z.pcl.n-(nth .int (j6 s cell).state.next (1-z.side).toNat-(nth .pcls (j6 s cell).state.outs (1-z.side).toNat).length)∧z.pcl.n-(nth .int (j6 s cell).state.next (1-z.side).toNat-(nth .pcls (j6 s cell).state.outs (1-z.side).toNat).length)<(nth .pcls (j6 s cell).state.outs (1-z.side).toNat).length
 pcl:z.kind=5→nth .pcl (nth .pcls (j6 s cell).state.outs (1-z.side).toNat) (z.pcl.n-(nth .int (j6 s cell).state.next (1-z.side).toNat-(nth .pcls (j6 s cell).state.outs (1-z.side).toNat).length)).toNat=z.pcl
 gst:z.kind=7→z.gst.count=(j6 s cell).count∧z.gst.src=cell
 bnd:0≤nth .int (j6 s cell).state.next (1-z.side).toNat∧nth .int (j6 s cell).state.next (1-z.side).toNat≤5000∧((nth .pcls (j6 s cell).state.outs (1-z.side).toNat).length:Int)≤nth .int (j6 s cell).state.next (1-z.side).toNat∧(j6 s cell).state.outs.length=2∧(j6 s cell).state.next.length=2
end Go.Mo
