/-
  Plain laws of a world's step, as the small laws say them.
-/
import Derived.Test.YtiioognflecdgaaGreatFy
import Derived.Test.YtiioognflecdgaaGreatMy
import Derived.Test.YtiioognflecdgaaGreatM7
import Derived.Test.YtiioognflecdgaaGreatM6
set_option linter.unusedVariables false
set_option linter.unusedSimpArgs false
namespace Go.Mo
open Go.Sx
theorem b5F {w:Wld} {e:Evt} (h:j6 w=false):m0 w e=⟨⟨0,0⟩,[],[],⟨[],[]⟩,[],[],[]⟩:=by simp[m0,h,K4]
theorem d1t {w:Wld} (h:j6 w=true):(w.table.servers.length:Int)=w.map.cells∧(w.table.ages.length:Int)=w.map.cells∧2≤w.map.cells+2∧(w.servers.length:Int)≤3:=by
 have ha:=B7 (m7.1 h).1
 exact⟨ha.1,ha.2.1,by omega,ha.2.2.2.2⟩
theorem c0E (n:Nat) (k:Int) (h:0<k):0≤(n:Int).tmod k∧(n:Int).tmod k<k:=by
 rw[Int.tmod_eq_emod_of_nonneg (by omega)]
 exact⟨Int.emod_nonneg _ (by omega),Int.emod_lt_of_pos _ h⟩
section
variable {w:Wld} {i j k n:Int}
end
end Go.Mo
namespace Go.Mo
open Go.Sx
theorem b7T : ∀(l a:List OW),OLe (a++l)→l.foldl putO a=a++l
 |[],a,_=>by simp
 |x::l,a,h=>by
  have ha:a.all (ahO x)=true:=List.all_eq_true.2 fun y hy=>by
   have:=(List.pairwise_append.1 h).2.2 y hy x (by simp)
   simpa [ahO]using this
  rw[List.foldl_cons,b6x ha,b7T l (a ++ [x]) (by simpa using h)]
  simp
theorem b5M {l:List OW} (h:OLe l):B2 l=l:=by
 have:=b7T l [] (by simpa using h)
 simpa [B2]using this
section
variable {l:List OW} {i j k:Nat}
theorem b1X (h:i≤l.length):(srtd l i).take i=B2 (l.take i):=by
 unfold srtd
 exact List.take_left' (F7 h)
theorem c3g (h:i<l.length):(srtd l i).drop (i+1)=l.drop (i+1):=by
 have hl:=F7 (l:=l) (i:=i) (by omega)
 unfold srtd
 rw[List.drop_append,List.drop_eq_nil_of_le (by omega),List.nil_append,hl,List.drop_drop]
 congr 1
 omega
theorem c5Z (h:i<l.length):nth .ow (srtd l i) i=nth .ow l i:=by
 rw[←c0G h]
 exact b5w h (Nat.le_refl i)
theorem c3f (h:i<l.length):srtd (srtd l i) (i+1)=srtd l (i+1):=by
 have hl:i<(srtd l i).length:=by rw[b5K (by omega)];exact h
 have e1:srtd (srtd l i) (i+1)=B2 ((srtd l i).take (i+1))++(srtd l i).drop (i+1):=rfl
 have e2:srtd l (i+1)=B2 (l.take (i+1))++l.drop (i+1):=rfl
 rw[e1,e2,c3g h,a0y .ow _ i hl,b1X (by omega),c5Z h,a9f,b5M (b5L _),a0y .ow _ i h,a9f]
def a2Y (l:List OW):Bool:=l.all fun x=>decide (0≤x.wlk.id∧x.wlk.id≤9)
theorem c6a {x:OW} (h:x∈srtd l i):x∈l:=by
 unfold srtd at h
 rcases List.mem_append.1 h with h|h
 ·exact List.mem_of_mem_take ((X8 _).mem_iff.1 h)
 ·exact List.mem_of_mem_drop h
theorem b9M (h:a2Y l=true):a2Y (srtd l i)=true:=by
 unfold a2Y at *
 rw[List.all_eq_true]at *
 exact fun x hx=>h x (c6a hx)
theorem d2W (h:a2Y l=true) (hk:k<l.length):0≤(nth .ow l k).wlk.id∧(nth .ow l k).wlk.id≤9:=by
 unfold a2Y at h
 rw[List.all_eq_true]at h
 have:=h _ (s7 .ow hk)
 simpa using this
theorem c7V (h:a2Y l=true) (hi:i≤l.length) (hk:k<i):0≤(nth .ow (B2 (l.take i)) k).wlk.id∧(nth .ow (B2 (l.take i)) k).wlk.id≤9:=by
 unfold a2Y at h
 rw[List.all_eq_true]at h
 have hm:=(X8 _).mem_iff.1 (s7 .ow (l:=B2 (l.take i)) (i:=k) (by rw[F7 hi];exact hk))
 have:=h _ (List.mem_of_mem_take hm)
 simpa using this
end
section
variable {L R:List OW} {i j:Int}
structure SinkI (L R:List OW) (i j:Int):Prop where
 j0:0≤j
 ji:j≤i
 il:i<(L.length:Int)
 few:L.length≤9
 is:R=swp L i.toNat j.toNat
 gt:gtr L i.toNat j.toNat=true
 ids:a2Y L=true
theorem SinkI.len (h:SinkI L R i j):R.length=L.length:=by
 rw[h.is,c9F (by have:=h.il;have:=h.j0;have:=h.ji;omega) (by have:=h.j0;have:=h.ji;omega)]
theorem SinkI.here (h:SinkI L R i j):nth .ow R j.toNat=nth .ow L i.toNat:=by
 have:=h.il;have:=h.j0;have:=h.ji
 rw[h.is,b5w (by omega) (by omega)]
theorem SinkI.below (h:SinkI L R i j) (h0:0<j):nth .ow R (j-1).toNat=nth .ow (B2 (L.take i.toNat)) (j-1).toNat:=by
 have h1:=h.il;have h2:=h.ji
 have:=b1Q (l:=L) (i:=i.toNat) (j:=(j-1).toNat) (by omega) (by omega)
 rw[h.is,show j.toNat=(j-1).toNat+1 by omega,this]
theorem SinkI.cmp (h:SinkI L R i j) (h0:0<j):IntKind.i64.wrap ((nth .ow R j.toNat).wlk.id-(nth .ow R (j-1).toNat).wlk.id)=(nth .ow L i.toNat).wlk.id-(nth .ow (B2 (L.take i.toNat)) (j-1).toNat).wlk.id:=by
 have h1:=h.il;have h2:=h.ji
 have a:=d2W (k:=i.toNat) h.ids (by omega)
 have b:=c7V (i:=i.toNat) (k:=(j-1).toNat) h.ids (by omega) (by omega)
 rw[h.here,h.below h0]
 exact b8 (by omega) (by omega)
theorem SinkI.step (h:SinkI L R i j) (h0:0<j) (hc:IntKind.i64.wrap ((nth .ow R j.toNat).wlk.id-(nth .ow R (j-1).toNat).wlk.id)<0):SinkI L ((R.set j.toNat (nth .ow R (j-1).toNat)).set (j-1).toNat (nth .ow R j.toNat)) i (j-1):=by
 have h1:=h.il;have h2:=h.ji
 rw[h.cmp h0]at hc
 have e:=c5P (l:=L) (i:=i.toNat) (j:=(j-1).toNat) (by omega) (by omega)
 have hj:(j-1).toNat+1=j.toNat:=by omega
 rw[hj]at e
 refine⟨by omega,by omega,h1,h.few,?_,?_,h.ids⟩
 ·rw[h.here,h.is,e]
 ·have hg:=h.gt
  rw[←hj]at hg
  exact c8h (by omega) (by omega) hg (by omega)
structure SortI (L R:List OW) (a b i:Int):Prop where
 a0:a=0
 bl:b=(L.length:Int)
 i1:1≤i
 i2:i≤10
 few:L.length≤9
 is:R=srtd L i.toNat
 ids:a2Y L=true
variable {a b:Int}
theorem SortI.len (h:SortI L R a b i) (hi:i≤b):R.length=L.length:=by
 have:=h.bl
 rw[h.is,b5K (by omega)]
theorem SortI.down (h:SortI L R a b i) (hi:i<b):SinkI R R i i:=by
 have h1:=h.i1
 have hb:=h.bl
 have hl:=h.len (by omega)
 have hf:=h.few
 have hin:i.toNat<L.length:=by omega
 refine⟨by omega,by omega,by omega,by omega,?_,?_,by rw[h.is];exact b9M h.ids⟩
 ·have:=c0G (l:=R) (i:=i.toNat) (by omega)
  rw[this]
  conv=>lhs;rw[h.is]
  rw[h.is]
  have hs:srtd (srtd L i.toNat) i.toNat=srtd L i.toNat:=by
   have e1:srtd (srtd L i.toNat) i.toNat=B2 ((srtd L i.toNat).take i.toNat)++(srtd L i.toNat).drop i.toNat:=rfl
   rw[e1,b1X (by omega),b5M (b5L _)]
   have:(srtd L i.toNat).drop i.toNat=L.drop i.toNat:=by
    unfold srtd
    exact List.drop_left' (F7 (by omega))
   rw[this]
   rfl
  rw[hs]
 ·exact d0Y (by omega)
theorem SortI.next {R':List OW} (h:SortI L R a b i) (hi:i<b) (hR:R'=srtd R (i+1).toNat):SortI L R' a b (IntKind.i64.wrap (i+1)):=by
 have h1:=h.i1
 have hf:=h.few
 have hb:=h.bl
 rw[b8 (by omega) (by omega)]
 refine⟨h.a0,hb,by omega,by omega,hf,?_,h.ids⟩
 rw[hR,h.is,show(i+1).toNat=i.toNat+1 by omega]
 exact c3f (by omega)
theorem SortI.done (h:SortI L R a b i) (hi : ¬i<b):R=B2 L:=by
 have hb:=h.bl
 rw[h.is,c6b (by omega)]
end
section
variable {L R:List OW} {i j:Int}
end
section
variable {m:PMap} {st:List Sto} {w:Wld} {i s j:Int}
end
section
variable {m:PMap} {st:List Sto} {w:Wld} {i k s j:Int}
end
section
variable {w:Wld} {i k n s j a b:Int} {R:List OW}
end
end Go.Mo
namespace Go.Mo
open Go.Sx
structure Placed (L:List Int) (w:Wld):Prop where
 frm:From w
 srt:L.Pairwise (· < ·)
 whole:Whole L (fun _=>0) w
section
variable {L:List Int} {w:Wld}
theorem Placed.nodup (h:Placed L w):L.Nodup:=h.srt.imp fun hab=>by omega
theorem Placed.inv (h:Placed L w):OneInv w.map w.stores:=h.whole.one h.nodup
theorem c6O (h:j6 w=true):oneOf w=L4 w.map w.stores:=by
 unfold oneOf
 rw[if_pos h]
theorem Placed.facts (h:Placed L w):j6 w=true∧a2X (oneOf w)=true∧(oneOf w).wlks.map oid=L∧(allO w.map w.stores).length≤9∧a2Y (allO w.map w.stores)=true:=by
 have hok:=c2c h.frm
 have ho:=d2C h.inv
 have hl:=d0i ho
 have hp:(L4 w.map w.stores).wlks=B2 (allO w.map w.stores):=rfl
 rw[c6O hok]
 refine⟨hok,ho,d2V h.inv.ids h.srt h.whole.pl.ids,?_,?_⟩
 ·rw[hp,b1Y]at hl
  exact hl
 ·unfold a2Y
  rw[List.all_eq_true]
  intro x hx
  have hm:x∈(L4 w.map w.stores).wlks:=by rw[hp];exact(X8 _).mem_iff.2 hx
  obtain⟨k,hk,rfl⟩:=a4l .ow hm
  have:=I4.1 (d0h ho hk).1
  simp only[decide_eq_true_eq]
  omega
end
def c2I (w:Wld):Prop := ∃L,Placed L w
theorem c2I.facts {w:Wld} (h:c2I w):j6 w=true∧a2X (oneOf w)=true∧(allO w.map w.stores).length≤9∧a2Y (allO w.map w.stores)=true:=let ⟨_,h⟩:=h;⟨h.facts.1,h.facts.2.1,h.facts.2.2.2.1,h.facts.2.2.2.2⟩
section
variable {o:One} {k:Nat}
end
end Go.Mo
namespace Go.Mo
open Go.Sx
structure BegL (l:List Wlk) (w:Wld):Prop where
 ok:j6 w=true
 all:z6 w.map l=true
 recs : ∀c:Int,0≤c→c<w.map.cells→(stAt w.stores c).recs = []∧(stAt w.stores c).base=Y5 w.map c l
def newD (a b:List Sto) (i:Nat):Int:=((nth .sto b i).recs.length:Int)-((nth .sto a i).recs.length:Int)
def a1m (a b:List Sto):Nat→Int
 | 0 => -1
 |k+1=>if a1m a b k = -2∨newD a b k<0∨1<newD a b k∨newD a b k=1∧a1m a b k ≠ -1 then -2 else if newD a b k=1 then(k:Int)else a1m a b k
def c7y (a b:List Sto):Int:=a1m a b a.length
section
variable {a b:List Sto} {k n:Nat}
theorem b7g (h0:a1m a b k ≠ -2) (h1:newD a b k=1) (h2:a1m a b k = -1):a1m a b (k+1)=(k:Int):=by
 rw[a1m,if_neg (by omega),if_pos h1]
theorem a8f (h0:a1m a b k ≠ -2) (h1:newD a b k=0):a1m a b (k+1)=a1m a b k:=by
 rw[a1m,if_neg (by omega),if_neg (by omega)]
theorem b0l (h : ∀i,i<n→newD a b i=0):a1m a b n = -1:=by
 induction n with
 |zero=>rfl
 |succ n ih =>
  have:=ih fun i hi=>h i (by omega)
  rw[a8f (by omega) (h n (by omega)),this]
theorem c4m {d:Nat} (hd:newD a b d=1) (h : ∀i,i≠d→newD a b i=0) (hn:d<n):a1m a b n=(d:Int):=by
 induction n with
 |zero=>omega
 |succ n ih =>
  by_cases he:d=n
  ·subst he
   have:=b0l (n:=d) fun i hi=>h i (by omega)
   exact b7g (by omega) hd this
  ·have:=ih (by omega)
   rw[a8f (by omega) (h n (by omega)),this]
end
structure LogsE (st st':List Sto):Prop where
 len:st'.length=st.length
 pre : ∀i:Nat,(nth .sto st' i).recs.take (nth .sto st i).recs.length=(nth .sto st i).recs∧(nth .sto st i).recs.length≤(nth .sto st' i).recs.length
 age : ∀i:Nat,(nth .sto st i).age≤(nth .sto st' i).age
 one:(∀i,newD st st' i=0) ∨ ∃d,d<st.length∧newD st st' d=1 ∧ ∀i,i≠d→newD st st' i=0
theorem LogsE.refl (st:List Sto):LogsE st st:=⟨rfl,fun _=>⟨by simp,by omega⟩,fun _=>by omega,Or.inl fun _=>by simp[newD]⟩
theorem LogsE.new {st st':List Sto} (h:LogsE st st') : -1≤c7y st st':=by
 rcases h.one with h|⟨d,hd,h1,h2⟩
 ·unfold c7y
  rw[b0l fun i _=>h i]
  omega
 ·unfold c7y
  rw[c4m h1 h2 hd]
  omega
end Go.Mo
namespace Go.Mo
open Go.Sx
def D4 (w:Wld) (c:Int):Bool:=decide (j6 w=true∧j9 w.table c ≠ -1∧u5 (nth .srv w.servers (j9 w.table c).toNat) c=true∧(e9 (nth .srv w.servers (j9 w.table c).toNat) c).age=nth .int w.table.ages c.toNat)
theorem a2K {w:Wld} {c:Int} (h:j6 w=true) (ha : ¬j9 w.table c = -1):(0≤j9 w.table c∧j9 w.table c<(w.servers.length:Int))∧0≤c∧c<(w.table.ages.length:Int):=by
 have h1:=(m7.1 h).1
 have h2:=d1t h
 unfold j9 at ha ⊢
 by_cases hc:0≤c∧c<(w.table.servers.length:Int)
 ·rw[if_pos hc]at ha ⊢
  have h3:=a5m h1 (k:=c.toNat) (by omega)
  obtain⟨h4,h5,_⟩:=h3
  have key : ∀s:Int,-1≤s→s≤(w.servers.length:Int)-1 → ¬s = -1→0≤s∧s<(w.servers.length:Int):=fun s a b c=>by omega
  exact⟨key _ h4 h5 ha,hc.1,by omega⟩
 ·rw[if_neg hc]at ha
  exact absurd rfl ha
theorem d0A (x:Int) (n k:Nat) (h:k<n):nth .int (List.replicate n x) k=x:=by
 show(List.replicate n x).getD k 0=x
 rw[List.getD_eq_getElem?_getD,List.getElem?_replicate,if_pos h]
 rfl
theorem b4B {b:Bool} (h:b=true) (h':b=false):False:=by cases h.symm.trans h'
end Go.Mo
