/-
  Plain laws: walkers put in order by swaps.
-/
import Derived.Test.YtmnapekfeenknaaGreatM5
import Derived.Test.YtmnapekfeenknaaGreatM3
set_option linter.unusedVariables false
set_option linter.unusedSimpArgs false
namespace Go.Sx
def St.d0j (σ : St) (ds:List Nat):St:=⟨σ.tm,σ.hp,match σ.up with
 |t::ts=>ds.foldr (fun d u=>u.set d (t.get d)) .leaf::ts
 |[] => []⟩
def upI (σ : St) (d:Nat):Th Int:=match σ.up with
 |t::_=>(match t.get d with
  | .one (.att (.int _ n))=>n
  |_=>G8)
 |[]=>G8
end Go.Sx
namespace Go.Mo
open Go.Sx
def OLe (l:List OW):Prop:=l.Pairwise fun a b=>a.wlk.id≤b.wlk.id
theorem d5j {l:List OW} {w:OW} (h:OLe l):OLe (putO l w):=by
 induction l with
 |nil=>simp[putO,OLe]
 |cons y l ih =>
  obtain⟨hy,hl⟩:=List.pairwise_cons.1 h
  by_cases hh:y.wlk.id≤w.wlk.id
  ·have e:putO (y::l) w=y::putO l w:=by simp[putO,ahO,hh]
   rw[e]
   refine List.pairwise_cons.2 ⟨fun x hx => ?_,ih hl⟩
   rcases List.mem_cons.1 ((a3y l w).mem_iff.1 hx)with rfl|hx
   ·exact hh
   ·exact hy x hx
  ·have e:putO (y::l) w=w::y::l:=by simp[putO,ahO,hh]
   rw[e]
   refine List.pairwise_cons.2 ⟨fun x hx => ?_,h⟩
   rcases List.mem_cons.1 hx with rfl|hx
   ·omega
   ·have:=hy x hx
    omega
theorem c1g : ∀(l a:List OW),OLe a→OLe (l.foldl putO a)
 |[],_,h=>h
 |x::l,a,h=>c1g l (putO a x) (d5j h)
theorem b1F (l:List OW):OLe (n4 l):=c1g l [] (by simp[OLe])
def swp (l:List OW) (i j:Nat):List OW:=(n4 (l.take i)).take j++nth .ow l i::(n4 (l.take i)).drop j++l.drop (i+1)
def srtd (l:List OW) (i:Nat):List OW:=n4 (l.take i)++l.drop i
def gtr (l:List OW) (i j:Nat):Bool:=((n4 (l.take i)).drop j).all fun x=>decide ((nth .ow l i).wlk.id<x.wlk.id)
section
variable {l:List OW} {i j:Nat}
theorem H9 (h:i≤l.length):(n4 (l.take i)).length=i:=by
 rw[a1K,List.length_take]
 omega
theorem d0C:srtd l 1=l:=by
 cases l with
 |nil=>rfl
 |cons x l=>simp[srtd,n4,putO]
theorem d0F (h:l.length≤i):srtd l i=n4 l:=by simp[srtd,List.take_of_length_le h,List.drop_eq_nil_of_le h]
theorem b8N (h:i≤l.length):(srtd l i).length=l.length:=by
 unfold srtd
 rw[List.length_append,H9 h,List.length_drop]
 omega
theorem d4V (h:i<l.length) (hj:j≤i):(swp l i j).length=l.length:=by
 have:=H9 (l:=l) (i:=i) (by omega)
 simp only[swp,List.length_append,List.length_cons,List.length_take,List.length_drop,this]
 omega
theorem c4r (h:i<l.length):swp l i i=srtd l i:=by
 have:=H9 (l:=l) (i:=i) (by omega)
 unfold swp srtd
 rw[List.take_of_length_le (by omega),List.drop_eq_nil_of_le (by omega),List.drop_eq_getElem_cons h,k9 .ow l i h]
 simp
theorem d6n (h:i<l.length):gtr l i i=true:=by
 have:=H9 (l:=l) (i:=i) (by omega)
 unfold gtr
 rw[List.drop_eq_nil_of_le (by omega)]
 rfl
theorem d0t:swp l i j=(n4 (l.take i)).take j++(nth .ow l i::((n4 (l.take i)).drop j++l.drop (i+1))):=by simp[swp]
theorem b8x (h:i<l.length) (hj:j≤i):nth .ow (swp l i j) j=nth .ow l i:=by
 have hl:=H9 (l:=l) (i:=i) (by omega)
 have hk:((n4 (l.take i)).take j).length=j:=by rw[List.length_take];omega
 rw[d0t]
 generalize (n4 (l.take i)).take j=P at *
 subst hk
 simp[nth,List.getD]
theorem b4D (h:i<l.length) (hj:j<i):nth .ow (swp l i (j+1)) j=nth .ow (n4 (l.take i)) j:=by
 have hl:=H9 (l:=l) (i:=i) (by omega)
 have hjl:j<(n4 (l.take i)).length:=by omega
 rw[d0t]
 unfold nth
 rw[List.getD_eq_getElem?_getD,List.getD_eq_getElem?_getD,List.getElem?_append_left (by rw[List.length_take];omega),List.getElem?_take]
 simp
theorem d0s (h:i<l.length) (hj:j<i):((swp l i (j+1)).set (j+1) (nth .ow (swp l i (j+1)) j)).set j (nth .ow l i)=swp l i j:=by
 have hl:=H9 (l:=l) (i:=i) (by omega)
 rw[b4D h hj]
 have hjl:j<(n4 (l.take i)).length:=by omega
 unfold swp
 have e1:(n4 (l.take i)).take (j+1)=(n4 (l.take i)).take j ++ [nth .ow (n4 (l.take i)) j]:=M6 .ow _ j hjl
 have e2:(n4 (l.take i)).drop j=nth .ow (n4 (l.take i)) j::(n4 (l.take i)).drop (j+1):=by rw[k9 .ow _ j hjl];exact List.drop_eq_getElem_cons hjl
 rw[e1,e2]
 have hk:((n4 (l.take i)).take j).length=j:=by rw[List.length_take];omega
 generalize (n4 (l.take i)).take j=P at *
 generalize (n4 (l.take i)).drop (j+1)=Q at *
 subst hk
 simp[List.set_append]
theorem d3m (h:i<l.length) (hj:j<i) (hg:gtr l i (j+1)=true) (hx:(nth .ow l i).wlk.id<(nth .ow (n4 (l.take i)) j).wlk.id):gtr l i j=true:=by
 have hl:=H9 (l:=l) (i:=i) (by omega)
 have hjl:j<(n4 (l.take i)).length:=by omega
 unfold gtr at hg ⊢
 rw[List.drop_eq_getElem_cons hjl,List.all_cons,hg,←k9 .ow _ j hjl]
 simp[hx]
theorem d4W (h:i<l.length) (hj:j≤i) (hg:gtr l i j=true) (hx:j=0∨0<j∧(nth .ow (n4 (l.take i)) (j-1)).wlk.id≤(nth .ow l i).wlk.id):swp l i j=srtd l (i+1):=by
 have hl:=H9 (l:=l) (i:=i) (by omega)
 have hle:=b1F (l.take i)
 have hg : ∀x∈(n4 (l.take i)).drop j,(nth .ow l i).wlk.id<x.wlk.id:=fun x hx'=>by
  have:=List.all_eq_true.1 hg x hx'
  simpa using this
 unfold swp srtd
 rw[M6 .ow l i h,a0O]
 congr 1
 generalize n4 (l.take i)=P at *
 generalize nth .ow l i=w at *
 have hsp:P=P.take j++P.drop j:=(List.take_append_drop j P).symm
 have ht : ∀x∈P.take j,ahO w x=true:=by
  intro x hx'
  rcases hx with rfl|⟨h0,hx⟩
  ·simp at hx'
  ·obtain⟨a,ha,rfl⟩:=List.getElem_of_mem hx'
   have ha2:a<j:=by rw[List.length_take]at ha;omega
   have hjl:j-1<P.length:=by omega
   rw[k9 .ow P (j-1) hjl]at hx
   rw[List.getElem_take]
   unfold ahO
   rw[decide_eq_true_eq]
   by_cases haj:a=j-1
   ·subst haj;exact hx
   ·have:=List.pairwise_iff_getElem.1 hle a (j-1) (by omega) hjl (by omega)
    omega
 have hd : ∀x∈P.drop j,ahO w x=false:=by
  intro x hx'
  have:=hg x hx'
  simp only[ahO,decide_eq_false_iff_not]
  omega
 have e1:P.takeWhile (ahO w)=P.take j:=by
  conv=>lhs;rw[hsp]
  rw[List.takeWhile_append_of_pos ht]
  cases hc:P.drop j with
  |nil=>simp
  |cons y q=>rw[List.takeWhile_cons,hd y (by rw[hc];simp)];simp
 have e2:P.dropWhile (ahO w)=P.drop j:=by
  conv=>lhs;rw[hsp]
  rw[List.dropWhile_append_of_pos ht]
  cases hc:P.drop j with
  |nil=>simp
  |cons y q=>rw[List.dropWhile_cons,hd y (by rw[hc];simp)];simp
 unfold putO
 rw[e1,e2]
end
end Go.Mo
namespace Go.Mo
open Go.Sx
theorem a5V {x w:OW} {l:List OW} (h:ahO w x=true):putO (x::l) w=x::putO l w:=by simp[putO,h]
theorem a9x {x w:OW} {l:List OW} (h:ahO w x=false):putO (x::l) w=w::x::l:=by simp[putO,h]
theorem b1X {w:OW} : ∀ {l:List OW},l.all (ahO w)=true→putO l w=l ++ [w]
 |[],_=>rfl
 |x::l,h=>by
  rw[List.all_cons,Bool.and_eq_true]at h
  rw[a5V h.1,b1X h.2]
  rfl
theorem b5e {w y:OW} : ∀ {l:List OW},l.all (ahO w)=false→putO (l ++ [y]) w=putO l w ++ [y]
 |[],h=>by simp at h
 |x::l,h=>by
  cases hx:ahO w x with
  |false=>rw[List.cons_append,a9x hx,a9x hx];rfl
  |true =>
   rw[List.all_cons,hx,Bool.true_and]at h
   rw[List.cons_append,a5V hx,a5V hx,b5e h]
   rfl
theorem b5f {w y:OW} : ∀ {l:List OW},l.all (ahO w)=true→ahO w y=false→putO (l ++ [y]) w=l ++ [w] ++ [y]
 |[],_,hy=>by rw[List.nil_append,a9x hy];rfl
 |x::l,h,hy=>by
  rw[List.all_cons,Bool.and_eq_true]at h
  rw[List.cons_append,a5V h.1,b5f h.2 hy]
  rfl
def P8 (l:List OW) (w:OW) (k:Nat):List OW:=if(l.take k).all (ahO w)=true then l.take k else putO (l.take k) w
def A1 (l:List OW) (w:OW) (k:Nat):Bool := !(l.take k).all (ahO w)
section
variable {l:List OW} {w:OW} {k:Nat}
theorem b9x:P8 l w 0 = []:=by simp[P8]
theorem b4l:A1 l w 0=false:=by simp[A1]
theorem a6J (h:k<l.length):l.take (k+1)=l.take k ++ [nth .ow l k]:=M6 .ow l k h
theorem d6P {x:OW} (h:w.wlk.id<x.wlk.id):ahO w x=false:=by simp only[ahO,decide_eq_false_iff_not];omega
theorem d6O {x:OW} (h : ¬w.wlk.id<x.wlk.id):ahO w x=true:=by simp only[ahO,decide_eq_true_eq];omega
theorem b1W (h:k<l.length) (hd:A1 l w k=false) (hi:w.wlk.id<(nth .ow l k).wlk.id):P8 l w (k+1)=P8 l w k ++ [w] ++ [nth .ow l k]∧A1 l w (k+1)=true:=by
 have ha:(l.take k).all (ahO w)=true:=by simpa [A1]using hd
 have hy:=d6P hi
 unfold P8 A1
 rw[a6J h,List.all_append,ha]
 simp only[List.all_cons,List.all_nil,hy,Bool.false_and,Bool.and_false,Bool.false_eq_true,if_false,if_true,Bool.not_false,and_true]
 exact b5f ha hy
theorem b1V (h:k<l.length) (hd:A1 l w k=false) (hi : ¬w.wlk.id<(nth .ow l k).wlk.id):P8 l w (k+1)=P8 l w k ++ [nth .ow l k]∧A1 l w (k+1)=false:=by
 have ha:(l.take k).all (ahO w)=true:=by simpa [A1]using hd
 have hy:=d6O hi
 unfold P8 A1
 rw[a6J h,List.all_append,ha]
 simp[hy]
theorem b1U (h:k<l.length) (hd:A1 l w k=true):P8 l w (k+1)=P8 l w k ++ [nth .ow l k]∧A1 l w (k+1)=true:=by
 have ha:(l.take k).all (ahO w)=false:=by simpa [A1]using hd
 unfold P8 A1
 rw[a6J h,List.all_append,ha]
 simp only[Bool.false_and,Bool.false_eq_true,if_false,Bool.not_false,and_true]
 exact b5e ha
theorem b2a (h:k<l.length) (hd:A1 l w k=false) (hi:w.wlk.id<(nth .ow l k).wlk.id):A1 l w (k+1)=true:=(b1W h hd hi).2
theorem b1Z (h:k<l.length) (hd:A1 l w k=false) (hi : ¬w.wlk.id<(nth .ow l k).wlk.id):A1 l w (k+1)=false:=(b1V h hd hi).2
theorem b1Y (h:k<l.length) (hd:A1 l w k=true):A1 l w (k+1)=true:=(b1U h hd).2
theorem b9A (h:k=l.length) (hd:A1 l w k=true):P8 l w k=putO l w:=by
 subst h
 have ha:(l.take l.length).all (ahO w)=false:=by simpa [A1]using hd
 unfold P8
 rw[ha]
 simp
theorem b9z (h:k=l.length) (hd:A1 l w k=false):P8 l w k ++ [w]=putO l w:=by
 subst h
 have ha:(l.take l.length).all (ahO w)=true:=by simpa [A1]using hd
 unfold P8
 rw[if_pos ha]
 rw[List.take_length]at ha ⊢
 exact(b1X ha).symm
theorem c2D:(P8 l w k).length≤k+1:=by
 unfold P8
 split
 ·rw[List.length_take];omega
 ·rw[(a3y _ w).length_eq,List.length_cons,List.length_take];omega
theorem b9y (h:A1 l w k=false):(P8 l w k).length≤k:=by
 have ha:(l.take k).all (ahO w)=true:=by simpa [A1]using h
 unfold P8
 rw[if_pos ha,List.length_take]
 omega
end
end Go.Mo
namespace Go.Mo
open Go.Sx
theorem b7S {ι α : Type} [BEq ι] [LawfulBEq ι] {L:List ι} (hn:L.Nodup) {d : ι} (hd:d∈L) {f f' : ι → List α} (he : ∀c∈L,c≠d→f' c=f c) : ∃R,(L.flatMap f).Perm (f d++R)∧(L.flatMap f').Perm (f' d++R):=by
 have hp:=List.perm_cons_erase hd
 have hc:(L.erase d).flatMap f'=(L.erase d).flatMap f:=by
  rw[List.flatMap_def,List.flatMap_def]
  congr 1
  refine List.map_congr_left fun c hc => ?_
  have:=(List.Nodup.mem_erase_iff hn).1 hc
  exact he c this.2 this.1
 refine⟨(L.erase d).flatMap f,?_,?_⟩
 ·have:=hp.flatMap_right f
  rwa [List.flatMap_cons]at this
 ·have:=hp.flatMap_right f'
  rwa [List.flatMap_cons,hc]at this
section
variable {m:PMap} {st st':List Sto} {d:Int} {r:Rec}
end
end Go.Mo
namespace Go.Mo
open Go.Sx
structure OneInv (m:PMap) (st:List Sto):Prop where
 plc:o9 m=true
 cells : ∀c:Int,0≤c→c<m.cells→s5 m (cX m st c)=true∧(cX m st c).cell=c
 seq : ∀c s,b7 m c s ≠ -1→inX m st (b7 m c s) (1-s)≤nxX m st c s∧nxX m st c s-(ouX m st c s).length≤inX m st (b7 m c s) (1-s)
 next : ∀c s,b7 m c s ≠ -1→nxX m st c s≤250
 ids:((allO m st).map oid).Nodup
section
variable {m:PMap} {st st':List Sto} {d:Int} {r:Rec}
end
end Go.Mo
namespace Go.Mo
open Go.Sx
section
variable {m:PMap} {st st':List Sto} {d:Int} {r:Rec}
end
end Go.Mo
namespace Go.Mo
open Go.Sx
section
variable {m:PMap} {st st':List Sto} {d:Int} {r:Rec}
end
end Go.Mo
namespace Go.Mo
open Go.Sx
section
variable {m:PMap} {st st':List Sto} {d:Int} {r:Rec}
end
end Go.Mo
namespace Go.Mo
open Go.Sx
inductive Did (w w':Wld):Prop
 |quiet (h:Lsame w.stores w'.stores)
 |wrote (d:Int) (r:Rec) (h:Wr w.map w.stores w'.stores d r) (hd:d<w.map.cells) (hin:r.kind=2→Sent w.map w.stores (b7 w.map d r.side) (1-r.side) r.pcl)
   (hack:r.kind=3→r.n≤inX w.map w.stores (b7 w.map d r.side) (1-r.side))
structure Pl (L:List Int) (m:PMap) (st:List Sto):Prop where
 next : ∀c s,b7 m c s ≠ -1→nxX m st c s≤(stAt st c).recs.length
 ids:((allO m st).map oid).Perm L
theorem b5m {L:List Int} {w:Wld} (hok:m8 w=true) (hm:Mail w) (hL:L.Nodup) (hp:Pl L w.map w.stores):OneInv w.map w.stores:=by
 have hs:=(q9.1 hok).2.1
 have h1:=D9.1 hs
 refine⟨h1.1,fun c c0 c1 => ?_,hm.seq,fun c s hcs => ?_,(hp.ids.nodup_iff).2 hL⟩
 ·obtain⟨q1,q2,q3,q4⟩:=a1q hok c0 c1
  exact⟨q4,by unfold cX;rw[a0N,q3]⟩
 ·have hi:=D7 hcs
  have:=hp.next c s hcs
  have hl:=(z6.1 (a1q hok hi.1 hi.2.1).2.1).2.2.1
  omega
theorem Wr.next {m:PMap} {st st':List Sto} {d:Int} {r:Rec} (h:Wr m st st' d r) {s:Int} (hs:s.toNat<2):nxX m st' d s≤nxX m st d s+1:=by
 unfold nxX
 rw[h.self]
 have hok:=h.cok.1
 rcases X5 h.log with ⟨hk,ho⟩|⟨hk,_⟩|⟨hk,_⟩
 ·rw[(a1s hk h.fits).2.1]
  rcases(a5B hok ho hs).2 with ⟨_,e⟩|⟨p,_,_,e⟩
  ·rw[e];exact Int.le_add_one (Int.le_refl _)
  ·rw[e];exact Int.le_refl _
 ·obtain⟨_,hr,hc⟩:=a0I hk h.fits
  rw[hc,(U6 hr).2.1]
  exact Int.le_add_one (Int.le_refl _)
 ·obtain⟨_,hr,hc⟩:=a0U hk h.fits
  rw[hc,(a0P hr).2.1]
  exact Int.le_add_one (Int.le_refl _)
inductive Goes (m:PMap) (st st':List Sto):Prop
 |quiet (h:Lsame st st') (e:m6 m st'=m6 m st)
 |order (d:Int) (r:Rec) (h:Wr m st st' d r) (hd:d<m.cells) (hk:r.kind=1) (e:s4 (m6 m st) r.ord=⟨m6 m st',(I8 m (cX m st d) r.ord).code⟩)
 |land (d:Int) (r:Rec) (h:Wr m st st' d r) (hd:d<m.cells) (hk:r.kind=2) (hw:r.pcl.kind=1) (e:B8 (m6 m st) r.pcl.wlk.id=m6 m st')
 |down (d:Int) (r:Rec) (h:Wr m st st' d r) (hd:d<m.cells) (hk:r.kind=2) (hw : ¬r.pcl.kind=1) (e:Y0 (m6 m st) d r.side r.pcl.j8=m6 m st')
 |word (d:Int) (r:Rec) (h:Wr m st st' d r) (hd:d<m.cells) (hk:r.kind=3) (e:m6 m st'=m6 m st)
def b0U (who seq code:Int) (x y:OW):Prop:=y.wlk.id=x.wlk.id∧((y.wlk.seq=x.wlk.seq∧y.wlk.last=x.wlk.last)∨(x.wlk.id=who∧x.wlk.seq<seq∧y.wlk.seq=seq∧y.wlk.last=code))
theorem b6J {l:List OW} {k:Nat} {who seq code:Int} {y:OW} (hk:k<l.length) (hy:b0U who seq code (nth .ow l k) y):(l.set k y).length=l.length ∧ ∀i,i<l.length→b0U who seq code (nth .ow l i) (nth .ow (l.set k y) i):=by
 refine⟨by simp,fun i hi => ?_⟩
 rw[C3 .ow hk]
 split
 ·rename_i e;rw[e];exact hy
 ·exact⟨rfl,.inl ⟨rfl,rfl⟩⟩
theorem b5n {o:One} {r:Ord} (hr:y9 r=true) (h0:0≤b8 o.wlks r.who) (hh:(nth .ow o.wlks (b8 o.wlks r.who).toNat).here=true) (hq:(nth .ow o.wlks (b8 o.wlks r.who).toNat).wlk.seq<r.seq) :
  ((s4 o r).o.wlks.length=o.wlks.length ∧ ∀i,i<o.wlks.length→b0U r.who r.seq (s4 o r).code (nth .ow o.wlks i) (nth .ow (s4 o r).o.wlks i))∧(nth .ow (s4 o r).o.wlks (b8 o.wlks r.who).toNat).wlk.seq=r.seq:=by
 have hlt:=V0 o.wlks r.who
 have hid:=a1w h0
 have hk:(b8 o.wlks r.who).toNat<o.wlks.length:=by omega
 unfold s4
 simp only
 rw[if_neg (fun q=>q ⟨h0,hh⟩),if_neg (by omega),if_neg (by omega)]
 generalize hK:(b8 o.wlks r.who).toNat=k at *
 generalize hX:nth .ow o.wlks k=x at *
 have fin : ∀(w:Wlk) (here:Bool) (g:List Int) (a:List (List Int)) (code:Int),w.id=x.wlk.id →
   ((oFin o k w r.seq here g a code).o.wlks.length=o.wlks.length ∧ ∀i,i<o.wlks.length→b0U r.who r.seq (oFin o k w r.seq here g a code).code (nth .ow o.wlks i) (nth .ow (oFin o k w r.seq here g a code).o.wlks i))∧(nth .ow (oFin o k w r.seq here g a code).o.wlks k).wlk.seq=r.seq:=fun w here g a code hw =>
  ⟨b6J hk (by rw[hX];exact⟨hw,.inr ⟨hid,hq,rfl,rfl⟩⟩),by
   show(nth .ow (o.wlks.set k _) k).wlk.seq=r.seq
   rw[j9 .ow hk]⟩
 unfold a3H
 split
 ·unfold b0B
  split
  ·exact fin _ _ _ _ _ rfl
  ·exact fin _ _ _ _ _ rfl
 split
 ·rename_i k1 k2
  unfold a8u
  simp only
  split
  ·exact fin _ _ _ _ _ rfl
  split
  ·exact fin _ _ _ _ _ rfl
  split
  ·exact fin _ _ _ _ _ rfl
  rename_i g1 g2 g3
  have hj:=Classical.not_not.1 g1
  have hjl:=V0 o.wlks r.dest
  have hjid:=a1w hj.1
  have hjk:(b8 o.wlks r.dest).toNat≠k:=fun e=>by
   rw[e,hX,hid]at hjid
   exact a0l hr k2 hjid.symm
  obtain⟨s1,s2⟩:=b6J (y:=⟨⟨x.wlk.id,x.wlk.pos,x.wlk.j8-r.n,r.seq,1⟩,true⟩) (who:=r.who) (seq:=r.seq) (code:=1) hk (by rw[hX];exact⟨rfl,.inr ⟨hid,hq,rfl,rfl⟩⟩)
  refine⟨⟨by simp,fun i hi => ?_⟩,?_⟩
  rotate_left
  ·show(nth .ow ((o.wlks.set k _).set (b8 o.wlks r.dest).toNat _) k).wlk.seq=r.seq
   rw[m5 .ow hjk,j9 .ow hk]
  have hs:=s2 i hi
  show b0U r.who r.seq 1 (nth .ow o.wlks i) (nth .ow ((o.wlks.set k _).set (b8 o.wlks r.dest).toNat _) i)
  rw[C3 .ow (show(b8 o.wlks r.dest).toNat<(o.wlks.set k ⟨⟨x.wlk.id,x.wlk.pos,x.wlk.j8-r.n,r.seq,1⟩,true⟩).length by simp;omega)]
  split
  ·rename_i e
   subst e
   exact⟨rfl,.inl ⟨rfl,rfl⟩⟩
  ·exact hs
 split
 ·unfold b0D
  simp only
  split
  ·exact fin _ _ _ _ _ rfl
  split
  ·exact fin _ _ _ _ _ rfl
  exact fin _ _ _ _ _ rfl
 split
 ·unfold b0C
  simp only
  split
  ·exact fin _ _ _ _ _ rfl
  split
  ·exact fin _ _ _ _ _ rfl
  exact fin _ _ _ _ _ rfl
 split
 ·unfold a5p
  simp only
  split
  ·exact fin _ _ _ _ _ rfl
  split
  ·exact fin _ _ _ _ _ rfl
  split
  ·exact fin _ _ _ _ _ rfl
  exact fin _ _ _ _ _ rfl
 exact fin _ _ _ _ _ rfl
structure Hist (who seq code:Int) (a b:List OW):Prop where
 fwd : ∀x∈a,∃y∈b,b0U who seq code x y
 bwd : ∀y∈b,∃x∈a,b0U who seq code x y
def recX (st:List Sto) (c:Int) (i:Nat):Rec:=nth .rcd (stAt st c).recs i
structure Done (m:PMap) (st:List Sto) (c:Int) (i:Nat) (who seq code:Int):Prop where
 zero:0≤c
 cell:c<m.cells
 lt:i<(stAt st c).recs.length
 kind:(recX st c i).kind=1
 who:(recX st c i).ord.who=who
 seq:(recX st c i).ord.seq=seq
 code:(m0 m (pfX m st c i) (recX st c i)).code=code
def Was (m:PMap) (st:List Sto) (who seq code:Int):Prop := ∃c i,Done m st c i who seq code
theorem U7 {m:PMap} {st st':List Sto} (hg:Grow m st st') {c:Int} {i:Nat} (hi:i<(stAt st c).recs.length):recX st' c i=recX st c i:=by
 obtain⟨l,e⟩:=hg.recs c
 unfold recX
 rw[e]
 exact b2B .rcd hi
theorem b7a {m:PMap} {st st':List Sto} (hg:Grow m st st') {c:Int} {k:Nat} (hk:k≤(stAt st c).recs.length):pfX m st' c k=pfX m st c k:=hg.fold c hk
theorem Done.grow {m:PMap} {st st':List Sto} {c:Int} {i:Nat} {who seq code:Int} (h:Done m st c i who seq code) (hg:Grow m st st'):Done m st' c i who seq code:=by
 have hl:=h.lt
 refine⟨h.zero,h.cell,Nat.lt_of_lt_of_le h.lt (hg.le c),?_,?_,?_,?_⟩
 ·rw[U7 hg hl];exact h.kind
 ·rw[U7 hg hl];exact h.who
 ·rw[U7 hg hl];exact h.seq
 ·rw[U7 hg hl,b7a hg (Nat.le_of_lt hl)];exact h.code
theorem Was.grow {m:PMap} {st st':List Sto} {who seq code:Int} (h:Was m st who seq code) (hg:Grow m st st'):Was m st' who seq code:=let ⟨c,i,h⟩:=h;⟨c,i,h.grow hg⟩
structure Once (w:Wld):Prop where
 known : ∀c i,0≤c→c<w.map.cells→i<(stAt w.stores c).recs.length→(recX w.stores c i).kind=1 → ∃x∈(m6 w.map w.stores).wlks,x.wlk.id=(recX w.stores c i).ord.who∧(recX w.stores c i).ord.seq≤x.wlk.seq
 uniq : ∀c i c' i',0≤c→c<w.map.cells→0≤c'→c'<w.map.cells→i<(stAt w.stores c).recs.length→i'<(stAt w.stores c').recs.length→(recX w.stores c i).kind=1→(recX w.stores c' i').kind=1 →
  (recX w.stores c i).ord.who=(recX w.stores c' i').ord.who→(recX w.stores c i).ord.seq=(recX w.stores c' i').ord.seq→c=c'∧i=i'
 last : ∀x∈(m6 w.map w.stores).wlks,x.wlk.seq=0∨Was w.map w.stores x.wlk.id x.wlk.seq x.wlk.last
 old : ∀c,0≤c→c<w.map.cells → ∀k,k≤(stAt w.stores c).recs.length → ∀v∈(pfX w.map w.stores c k).wlks,v.seq=0∨Was w.map w.stores v.id v.seq v.last
 told : ∀x∈w.net,x.kind=3→Was w.map w.stores x.ord.who x.ord.seq x.n
 notes : ∀n∈w.notes,Was w.map w.stores n.who n.seq n.code
end Go.Mo
