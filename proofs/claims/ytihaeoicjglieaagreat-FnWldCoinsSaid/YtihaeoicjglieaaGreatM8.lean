/-
  Plain laws of the one world: how it is gathered, cell by cell and parcel by parcel; putting by swaps.
-/
import Derived.Test.YtihaeoicjglieaaGreatMy
import Derived.Test.YtihaeoicjglieaaGreatM5
import Derived.Test.YtihaeoicjglieaaGreatM3
import Derived.Test.YtihaeoicjglieaaGreatM7
set_option linter.unusedVariables false
set_option linter.unusedSimpArgs false
namespace Go.Mo
open Go.Sx
def a2H (m:PMap) (st:List Sto) (k:Nat):List OW:=(List.range k).flatMap fun(c:Nat)=>E1 (cX m st (c:Int)).wlks
def flyE (m:PMap) (st:List Sto) (c:Nat):List OW:=flyO (fl m st (c:Int) 0)++flyO (fl m st (c:Int) 1)
def a7Y (m:PMap) (st:List Sto) (k:Nat):List OW:=(List.range k).flatMap (flyE m st)
def accH (m:PMap) (st:List Sto) (k j:Nat):List OW:=a2H m st k++E1 ((cX m st (k:Int)).wlks.take j)
def accF (m:PMap) (st:List Sto) (i s j:Nat):List OW :=
 a2H m st m.cells.toNat++a7Y m st i++if s=0 then flyO ((fl m st (i:Int) 0).take j)else flyO (fl m st (i:Int) 0)++flyO ((fl m st (i:Int) 1).take j)
section
variable {m:PMap} {st:List Sto} {i s j k:Nat}
theorem a9R:a2H m st (k+1)=a2H m st k++E1 (cX m st (k:Int)).wlks:=by
 unfold a2H
 rw[List.range_succ,List.flatMap_append]
 simp
theorem b2t:a7Y m st (k+1)=a7Y m st k++flyE m st k:=by
 unfold a7Y
 rw[List.range_succ,List.flatMap_append]
 simp
theorem d5k:allO m st=a2H m st m.cells.toNat++a7Y m st m.cells.toNat:=by
 unfold allO a2H a7Y a3S N2
 congr 1
 rw[List.flatMap_assoc]
 congr 1
 funext c
 simp[flyE]
theorem b5h:accH m st 0 0 = []:=by simp[accH,a2H,E1]
theorem b5i (h:j<(cX m st (k:Int)).wlks.length):accH m st k (j+1)=accH m st k j ++ [⟨nth .wlk (cX m st (k:Int)).wlks j,true⟩]:=by
 unfold accH E1
 rw[J6 .wlk _ j h,List.map_append,List.append_assoc]
 rfl
theorem c0O (h:j=(cX m st (k:Int)).wlks.length):accH m st k j=accH m st (k+1) 0:=by
 subst h
 unfold accH
 rw[a9R]
 simp[E1]
theorem c0N:accH m st m.cells.toNat 0=accF m st 0 0 0:=by simp[accH,accF,E1,a7Y,flyO]
theorem a0j (l:List OW) (x:OW):m9 (l ++ [x])=putO (m9 l) x:=by simp[m9,List.foldl_append]
theorem a1q (l:List OW):(m9 l).length=l.length:=(D1 l).length_eq
theorem c0n {l:List Pcl} (h:j<l.length) (hk:(nth .pcl l j).kind=1):flyO (l.take (j+1))=flyO (l.take j) ++ [⟨(nth .pcl l j).wlk,false⟩]:=by
 unfold flyO
 rw[J6 .pcl l j h,List.filter_append,List.map_append]
 simp[isWp,hk]
theorem b4R {l:List Pcl} (h:j<l.length) (hk : ¬(nth .pcl l j).kind=1):flyO (l.take (j+1))=flyO (l.take j):=by
 unfold flyO
 rw[J6 .pcl l j h,List.filter_append,List.map_append]
 simp[isWp,hk]
theorem s01 (hs:s<2):s=0∧(s:Int)=0∨s=1∧(s:Int)=1:=by omega
theorem b3c (hs:s<2) (h:j<(fl m st (i:Int) (s:Int)).length) (hk:(nth .pcl (fl m st (i:Int) (s:Int)) j).kind=1):accF m st i s (j+1)=accF m st i s j ++ [⟨(nth .pcl (fl m st (i:Int) (s:Int)) j).wlk,false⟩]:=by
 unfold accF
 rcases s01 hs with ⟨h1,h2⟩|⟨h1,h2⟩
 ·rw[h2]at h hk ⊢
  rw[if_pos h1,if_pos h1,c0n h hk]
  simp only[List.append_assoc]
 ·rw[h2]at h hk ⊢
  rw[if_neg (by omega),if_neg (by omega),c0n h hk]
  simp only[List.append_assoc]
theorem a9n (hs:s<2) (h:j<(fl m st (i:Int) (s:Int)).length) (hk : ¬(nth .pcl (fl m st (i:Int) (s:Int)) j).kind=1):accF m st i s (j+1)=accF m st i s j:=by
 unfold accF
 rcases s01 hs with ⟨h1,h2⟩|⟨h1,h2⟩
 ·rw[h2]at h hk
  rw[if_pos h1,if_pos h1,b4R h hk]
 ·rw[h2]at h hk
  rw[if_neg (by omega),if_neg (by omega),b4R h hk]
theorem b3b (h:j=(fl m st (i:Int) 0).length):accF m st i 0 j=accF m st i 1 0:=by
 subst h
 simp[accF,flyO]
theorem b3a (h:j=(fl m st (i:Int) 1).length):accF m st i 1 j=accF m st (i+1) 0 0:=by
 subst h
 unfold accF
 rw[b2t]
 simp[flyE,flyO]
theorem c0S:accF m st m.cells.toNat 0 0=allO m st:=by
 rw[d5k]
 simp[accF,flyO]
end
def N5 (m:PMap) (st:List Sto) (k:Nat):List Cll:=(List.range k).map fun(c:Nat)=>cX m st (c:Int)
def T5 (m:PMap) (st:List Sto) (k:Nat):List Int:=(List.range k).map fun(c:Nat)=>(cX m st (c:Int)).ground
theorem b3i {m:PMap} {st:List Sto} {k:Nat}:N5 m st (k+1)=N5 m st k ++ [cX m st (k:Int)]:=by simp[N5,List.range_succ]
theorem b3v {m:PMap} {st:List Sto} {k:Nat}:T5 m st (k+1)=T5 m st k ++ [(cX m st (k:Int)).ground]:=by simp[T5,List.range_succ]
theorem a1h {m:PMap} {st:List Sto} {k:Nat}:(N5 m st k).length=k:=by simp[N5]
theorem a3M {m:PMap} {st:List Sto} {k:Nat}:(T5 m st k).length=k:=by simp[T5]
theorem b5C {m:PMap} {st:List Sto} {k i:Nat} (h:i<k):nth .cll (N5 m st k) i=cX m st (i:Int):=by
 rw[l6 .cll _ i (by rw[a1h];exact h)]
 simp[N5]
def got (m:PMap) (st:List Sto) (i s j:Nat) (c u:Int):Int :=
 if c<(i:Int)∨c=(i:Int)∧u<(s:Int)then sumC (fl m st c u)else if c=(i:Int)∧u=(s:Int)then sumC ((fl m st c u).take j)else 0
def entA (m:PMap) (st:List Sto) (i s j:Nat) (d t:Int):Int:=if b7 m d t = -1 then 0 else got m st i s j (b7 m d t) (1-t)
def airA (m:PMap) (st:List Sto) (i s j:Nat):List (List Int):=(N2 m).map fun(d:Nat) => [entA m st i s j (d:Int) 0,entA m st i s j (d:Int) 1]
def airZ (k:Nat):List (List Int):=List.replicate k [0,0]
section
variable {m:PMap} {st:List Sto} {i s j k:Nat}
theorem c8F:airZ (k+1)=airZ k ++ [[0,0]]:=by simp[airZ,List.replicate_succ']
theorem a1T:(airA m st i s j).length=m.cells.toNat:=by simp[airA,N2]
theorem b2U:(airZ k).length=k:=by simp[airZ]
theorem b3H {l:List Pcl} (h:j<l.length):sumC (l.take (j+1))=sumC (l.take j)+cC (nth .pcl l j):=by
 unfold sumC
 rw[J6 .pcl l j h,X9,a1z]
theorem b2Y {i s j i' s' j':Nat} (h : ∀c u:Int,0≤c→c<m.cells→0≤u→u≤1→got m st i s j c u=got m st i' s' j' c u):airA m st i s j=airA m st i' s' j':=by
 have e : ∀d t:Int,0≤t→t≤1→entA m st i s j d t=entA m st i' s' j' d t:=by
  intro d t h0 h1
  unfold entA
  split
  ·rfl
  ·rename_i hd
   have:=D8 hd
   exact h _ _ this.2.2.1 this.2.2.2 (by omega) (by omega)
 unfold airA
 congr 1
 funext d
 rw[e _ 0 (by omega) (by omega),e _ 1 (by omega) (by omega)]
theorem b2W (h:j=(fl m st (i:Int) 0).length):airA m st i 0 j=airA m st i 1 0:=by
 subst h
 refine b2Y fun c u _ _ h0 h1 => ?_
 unfold got
 by_cases hc:c=(i:Int)
 ·subst hc
  have:u=0∨u=1:=by omega
  rcases this with rfl|rfl
  ·simp[sumC,sumL]
  ·simp[sumC,sumL]
 ·simp[hc]
theorem b2V (h:j=(fl m st (i:Int) 1).length):airA m st i 1 j=airA m st (i+1) 0 0:=by
 subst h
 refine b2Y fun c u _ _ h0 h1 => ?_
 unfold got
 by_cases hc:c=(i:Int)
 ·subst hc
  have:u=0∨u=1:=by omega
  rcases this with rfl|rfl
  ·rw[if_pos (by omega),if_pos (by omega)]
  ·rw[if_neg (by omega),if_pos (by omega),if_pos (by omega)]
   simp
 ·by_cases h2:c<(i:Int)
  ·rw[if_pos (by omega),if_pos (by omega)]
  ·rw[if_neg (by omega),if_neg (by omega),if_neg (by omega)]
   split
   ·simp[sumC,sumL]
   ·rfl
theorem c8G:airA m st 0 0 0=airZ m.cells.toNat:=by
 have e : ∀d t:Int,0≤t→t≤1→entA m st 0 0 0 d t=0:=by
  intro d t h0 h1
  unfold entA
  split
  ·rfl
  ·rename_i hd
   have:=D8 hd
   unfold got
   rw[if_neg (by omega)]
   split<;>simp[sumC,sumL]
 unfold airA airZ N2
 refine List.ext_getElem (by simp) fun a h1 h2 => ?_
 simp[e]
theorem d3e:airA m st m.cells.toNat 0 0=(N2 m).map fun(c:Nat) => [airN m st (c:Int) 0,airN m st (c:Int) 1]:=by
 have e : ∀d t:Int,entA m st m.cells.toNat 0 0 d t=airN m st d t:=by
  intro d t
  unfold entA airN
  split
  ·rfl
  ·rename_i hd
   have:=D8 hd
   unfold got
   rw[if_pos (by omega)]
 unfold airA
 congr 1
 funext d
 rw[e,e]
theorem b2X (hs:s<2) (h:j<(fl m st (i:Int) (s:Int)).length) (hk:(nth .pcl (fl m st (i:Int) (s:Int)) j).kind=1):airA m st i s (j+1)=airA m st i s j:=by
 refine b2Y fun c u _ _ h0 h1 => ?_
 unfold got
 split
 ·rfl
 ·split
  ·rename_i hc
   obtain⟨rfl,rfl⟩:=hc
   rw[b3H h]
   simp[cC,hk]
  ·rfl
theorem b2y {d t:Int} (h : ¬(b7 m d t=(i:Int)∧1-t=(s:Int))) (j':Nat):entA m st i s j' d t=entA m st i s j d t:=by
 unfold entA got
 split
 ·rfl
 ·simp only[if_neg h]
theorem c0t {d t:Int} (hd:b7 m d t ≠ -1) (h1:b7 m d t=(i:Int)) (h2:1-t=(s:Int)):entA m st i s j d t=sumC ((fl m st (i:Int) (s:Int)).take j):=by
 unfold entA got
 rw[if_neg hd,if_neg (by omega),if_pos ⟨h1,h2⟩,h1,h2]
theorem a4V {d:Nat} (h:(d:Int)<m.cells):nth .ints (airA m st i s j) d = [entA m st i s j (d:Int) 0,entA m st i s j (d:Int) 1]:=by
 have hl:d<(airA m st i s j).length:=by rw[a1T];omega
 rw[l6 .ints _ d hl]
 simp[airA,N2]
theorem a9l (hs:s<2) (hd:b7 m (i:Int) (s:Int) ≠ -1) (h:j<(fl m st (i:Int) (s:Int)).length) :
  airA m st i s (j+1)=(airA m st i s j).set (b7 m (i:Int) (s:Int)).toNat ((nth .ints (airA m st i s j) (b7 m (i:Int) (s:Int)).toNat).set (1-(s:Int)).toNat (nth .int (nth .ints (airA m st i s j) (b7 m (i:Int) (s:Int)).toNat) (1-(s:Int)).toNat+cC (nth .pcl (fl m st (i:Int) (s:Int)) j))):=by
 have hb:=z6 hd
 have hi:=D8 hd
 have hD:(((b7 m (i:Int) (s:Int)).toNat:Nat):Int)=b7 m (i:Int) (s:Int):=by omega
 have hn:nth .ints (airA m st i s j) (b7 m (i:Int) (s:Int)).toNat = [entA m st i s j (b7 m (i:Int) (s:Int)) 0,entA m st i s j (b7 m (i:Int) (s:Int)) 1]:=by
  rw[a4V (by omega),hD]
 have hn':nth .ints (airA m st i s (j+1)) (b7 m (i:Int) (s:Int)).toNat = [entA m st i s (j+1) (b7 m (i:Int) (s:Int)) 0,entA m st i s (j+1) (b7 m (i:Int) (s:Int)) 1]:=by
  rw[a4V (by omega),hD]
 have hback:=hb.2.2.2.2.2.2.1
 refine List.ext_getElem (by simp[a1T]) fun d h1 h2 => ?_
 have hdl:(d:Int)<m.cells:=by rw[a1T]at h1;omega
 by_cases hdd:(b7 m (i:Int) (s:Int)).toNat=d
 ·rw[List.getElem_set,if_pos hdd,←l6 .ints _ d h1]
  subst hdd
  rw[hn,hn']
  have hT:entA m st i s (j+1) (b7 m (i:Int) (s:Int)) (1-(s:Int))=entA m st i s j (b7 m (i:Int) (s:Int)) (1-(s:Int))+cC (nth .pcl (fl m st (i:Int) (s:Int)) j):=by
   have hne:b7 m (b7 m (i:Int) (s:Int)) (1-(s:Int)) ≠ -1:=by omega
   rw[c0t hne hback (by omega),c0t hne hback (by omega),b3H h]
  have hS:entA m st i s (j+1) (b7 m (i:Int) (s:Int)) (s:Int)=entA m st i s j (b7 m (i:Int) (s:Int)) (s:Int):=b2y (by omega) (j+1)
  generalize b7 m (i:Int) (s:Int)=D at *
  generalize cC (nth .pcl (fl m st (i:Int) (s:Int)) j)=v at *
  rcases s01 hs with ⟨hs1,hs2⟩|⟨hs1,hs2⟩
  ·rw[hs2]at hT hS
   simp only[hs2]at hT ⊢
   rw[show(1:Int)-0=1 by omega]at hT ⊢
   rw[hT,hS]
   rfl
  ·rw[hs2]at hT hS
   simp only[hs2]at hT ⊢
   rw[show(1:Int)-1=0 by omega]at hT ⊢
   rw[hT,hS]
   rfl
 ·rw[List.getElem_set,if_neg hdd,←l6 .ints _ d h1,←l6 .ints _ d (by rw[a1T]at h1 ⊢;exact h1),a4V hdl,a4V hdl]
  have ne : ∀t:Int,¬(b7 m (d:Int) t=(i:Int)∧1-t=(s:Int)):=by
   rintro t ⟨ht1,ht2⟩
   have hq:b7 m (d:Int) t ≠ -1:=by omega
   have:=(z6 hq).2.2.2.2.2.2.1
   rw[ht1,ht2]at this
   omega
  rw[b2y (ne 0) (j+1),b2y (ne 1) (j+1)]
end
theorem d2c {m:PMap} {st:List Sto} (hok : ∀c:Int,0≤c→c<m.cells→s6 m (cX m st c)=true) (c s:Int):(fl m st c s).length≤5000 ∧ ∀p∈fl m st c s,I8 m p=true:=by
 unfold fl
 split
 ·simp
 ·rename_i hd
  have hi:=D8 hd
  have hs:=(K3 hd).1
  have h:=b0t (hok c hi.1 hi.2.1) hs
  have hl:((nth .pcls (cX m st c).outs s.toNat).length:Int)≤5000:=by
   simp only[u6,Bool.and_eq_true,decide_eq_true_eq]at h
   omega
  refine⟨Nat.le_trans (List.length_filter_le _ _) (by unfold ouX;omega),fun p hp => ?_⟩
  have hp:=(List.mem_filter.1 hp).1
  obtain⟨k,hk,rfl⟩:=a0F .pcl hp
  simp only[u6,Bool.and_eq_true]at h
  have:=(m4 _ _).1 h.2 k hk
  simp only[a2X,Bool.and_eq_true]at this
  exact this.1
theorem d7s {m:PMap} {p:Pcl} (h:I8 m p=true):0≤cC p∧cC p≤9:=by
 have:=I2.1 h
 unfold cC
 split<;>omega
theorem b7C {m:PMap} {l:List Pcl} (h : ∀p∈l,I8 m p=true) (hl:l.length≤5000):0≤sumC l∧sumC l≤45000:=by
 have:=b5x (f:=cC) (B:=9) fun p hp=>d7s (h p hp)
 unfold sumC
 omega
theorem d6O {m:PMap} {st:List Sto} {i s j:Nat} (hok : ∀c:Int,0≤c→c<m.cells→s6 m (cX m st c)=true) (c u:Int):0≤got m st i s j c u∧got m st i s j c u≤45000:=by
 have hf:=d2c hok c u
 unfold got
 split
 ·exact b7C hf.2 hf.1
 ·split
  ·exact b7C (fun p hp=>hf.2 p (List.mem_of_mem_take hp)) (by rw[List.length_take];omega)
  ·omega
theorem b0u {m:PMap} {st:List Sto} {i s j:Nat} (hok : ∀c:Int,0≤c→c<m.cells→s6 m (cX m st c)=true) {d u:Nat} (hd:(d:Int)<m.cells) (hu:u<2) :
  (nth .ints (airA m st i s j) d).length=2∧0≤nth .int (nth .ints (airA m st i s j) d) u∧nth .int (nth .ints (airA m st i s j) d) u≤45000:=by
 rw[a4V hd]
 have e : ∀t:Int,0≤entA m st i s j (d:Int) t∧entA m st i s j (d:Int) t≤45000:=by
  intro t
  unfold entA
  split
  ·omega
  ·exact d6O hok _ _
 refine⟨rfl,?_⟩
 rcases s01 hu with ⟨h,_⟩|⟨h,_⟩<;>subst h
 ·exact e 0
 ·exact e 1
end Go.Mo
namespace Go.Mo
open Go.Sx
theorem a5k {x w:OW} {l:List OW} (h:ahO w x=true):putO (x::l) w=x::putO l w:=by simp[putO,h]
theorem a8K {x w:OW} {l:List OW} (h:ahO w x=false):putO (x::l) w=w::x::l:=by simp[putO,h]
theorem b1f {w:OW} : ∀ {l:List OW},l.all (ahO w)=true→putO l w=l ++ [w]
 |[],_=>rfl
 |x::l,h=>by
  rw[List.all_cons,Bool.and_eq_true]at h
  rw[a5k h.1,b1f h.2]
  rfl
theorem b4d {w y:OW} : ∀ {l:List OW},l.all (ahO w)=false→putO (l ++ [y]) w=putO l w ++ [y]
 |[],h=>by simp at h
 |x::l,h=>by
  cases hx:ahO w x with
  |false=>rw[List.cons_append,a8K hx,a8K hx];rfl
  |true =>
   rw[List.all_cons,hx,Bool.true_and]at h
   rw[List.cons_append,a5k hx,a5k hx,b4d h]
   rfl
theorem b4e {w y:OW} : ∀ {l:List OW},l.all (ahO w)=true→ahO w y=false→putO (l ++ [y]) w=l ++ [w] ++ [y]
 |[],_,hy=>by rw[List.nil_append,a8K hy];rfl
 |x::l,h,hy=>by
  rw[List.all_cons,Bool.and_eq_true]at h
  rw[List.cons_append,a5k h.1,b4e h.2 hy]
  rfl
def N9 (l:List OW) (w:OW) (k:Nat):List OW:=if(l.take k).all (ahO w)=true then l.take k else putO (l.take k) w
def z8 (l:List OW) (w:OW) (k:Nat):Bool := !(l.take k).all (ahO w)
section
variable {l:List OW} {w:OW} {k:Nat}
theorem b8D:N9 l w 0 = []:=by simp[N9]
theorem b3n:z8 l w 0=false:=by simp[z8]
theorem a6b (h:k<l.length):l.take (k+1)=l.take k ++ [nth .ow l k]:=J6 .ow l k h
theorem d5m {x:OW} (h:w.wlk.id<x.wlk.id):ahO w x=false:=by simp only[ahO,decide_eq_false_iff_not];omega
theorem d5l {x:OW} (h : ¬w.wlk.id<x.wlk.id):ahO w x=true:=by simp only[ahO,decide_eq_true_eq];omega
theorem b1e (h:k<l.length) (hd:z8 l w k=false) (hi:w.wlk.id<(nth .ow l k).wlk.id):N9 l w (k+1)=N9 l w k ++ [w] ++ [nth .ow l k]∧z8 l w (k+1)=true:=by
 have ha:(l.take k).all (ahO w)=true:=by simpa [z8]using hd
 have hy:=d5m hi
 unfold N9 z8
 rw[a6b h,List.all_append,ha]
 simp only[List.all_cons,List.all_nil,hy,Bool.false_and,Bool.and_false,Bool.false_eq_true,if_false,if_true,Bool.not_false,and_true]
 exact b4e ha hy
theorem b1d (h:k<l.length) (hd:z8 l w k=false) (hi : ¬w.wlk.id<(nth .ow l k).wlk.id):N9 l w (k+1)=N9 l w k ++ [nth .ow l k]∧z8 l w (k+1)=false:=by
 have ha:(l.take k).all (ahO w)=true:=by simpa [z8]using hd
 have hy:=d5l hi
 unfold N9 z8
 rw[a6b h,List.all_append,ha]
 simp[hy]
theorem b1c (h:k<l.length) (hd:z8 l w k=true):N9 l w (k+1)=N9 l w k ++ [nth .ow l k]∧z8 l w (k+1)=true:=by
 have ha:(l.take k).all (ahO w)=false:=by simpa [z8]using hd
 unfold N9 z8
 rw[a6b h,List.all_append,ha]
 simp only[Bool.false_and,Bool.false_eq_true,if_false,Bool.not_false,and_true]
 exact b4d ha
theorem b1i (h:k<l.length) (hd:z8 l w k=false) (hi:w.wlk.id<(nth .ow l k).wlk.id):z8 l w (k+1)=true:=(b1e h hd hi).2
theorem b1h (h:k<l.length) (hd:z8 l w k=false) (hi : ¬w.wlk.id<(nth .ow l k).wlk.id):z8 l w (k+1)=false:=(b1d h hd hi).2
theorem b1g (h:k<l.length) (hd:z8 l w k=true):z8 l w (k+1)=true:=(b1c h hd).2
theorem b8G (h:k=l.length) (hd:z8 l w k=true):N9 l w k=putO l w:=by
 subst h
 have ha:(l.take l.length).all (ahO w)=false:=by simpa [z8]using hd
 unfold N9
 rw[ha]
 simp
theorem b8F (h:k=l.length) (hd:z8 l w k=false):N9 l w k ++ [w]=putO l w:=by
 subst h
 have ha:(l.take l.length).all (ahO w)=true:=by simpa [z8]using hd
 unfold N9
 rw[if_pos ha]
 rw[List.take_length]at ha ⊢
 exact(b1f ha).symm
theorem c1F:(N9 l w k).length≤k+1:=by
 unfold N9
 split
 ·rw[List.length_take];omega
 ·rw[(a2W _ w).length_eq,List.length_cons,List.length_take];omega
theorem b8E (h:z8 l w k=false):(N9 l w k).length≤k:=by
 have ha:(l.take k).all (ahO w)=true:=by simpa [z8]using h
 unfold N9
 rw[if_pos ha,List.length_take]
 omega
end
end Go.Mo
namespace Go.Sx
def St.c9a (σ : St) (ds:List Nat):St:=⟨σ.tm,σ.hp,match σ.up with
 |t::ts=>ds.foldr (fun d u=>u.set d (t.get d)) .leaf::ts
 |[] => []⟩
def upI (σ : St) (d:Nat):Th Int:=match σ.up with
 |t::_=>(match t.get d with
  | .one (.att (.int _ n))=>n
  |_=>L0)
 |[]=>L0
end Go.Sx
namespace Go.Mo
open Go.Sx
def OLe (l:List OW):Prop:=l.Pairwise fun a b=>a.wlk.id≤b.wlk.id
theorem d3M {l:List OW} {w:OW} (h:OLe l):OLe (putO l w):=by
 induction l with
 |nil=>simp[putO,OLe]
 |cons y l ih =>
  obtain⟨hy,hl⟩:=List.pairwise_cons.1 h
  by_cases hh:y.wlk.id≤w.wlk.id
  ·have e:putO (y::l) w=y::putO l w:=by simp[putO,ahO,hh]
   rw[e]
   refine List.pairwise_cons.2 ⟨fun x hx => ?_,ih hl⟩
   rcases List.mem_cons.1 ((a2W l w).mem_iff.1 hx)with rfl|hx
   ·exact hh
   ·exact hy x hx
  ·have e:putO (y::l) w=w::y::l:=by simp[putO,ahO,hh]
   rw[e]
   refine List.pairwise_cons.2 ⟨fun x hx => ?_,h⟩
   rcases List.mem_cons.1 hx with rfl|hx
   ·omega
   ·have:=hy x hx
    omega
theorem c0k : ∀(l a:List OW),OLe a→OLe (l.foldl putO a)
 |[],_,h=>h
 |x::l,a,h=>c0k l (putO a x) (d3M h)
theorem b0L (l:List OW):OLe (m9 l):=c0k l [] (by simp[OLe])
def swp (l:List OW) (i j:Nat):List OW:=(m9 (l.take i)).take j++nth .ow l i::(m9 (l.take i)).drop j++l.drop (i+1)
def srtd (l:List OW) (i:Nat):List OW:=m9 (l.take i)++l.drop i
def gtr (l:List OW) (i j:Nat):Bool:=((m9 (l.take i)).drop j).all fun x=>decide ((nth .ow l i).wlk.id<x.wlk.id)
section
variable {l:List OW} {i j:Nat}
theorem G7 (h:i≤l.length):(m9 (l.take i)).length=i:=by
 rw[a1q,List.length_take]
 omega
theorem c9t:srtd l 1=l:=by
 cases l with
 |nil=>rfl
 |cons x l=>simp[srtd,m9,putO]
theorem c9w (h:l.length≤i):srtd l i=m9 l:=by simp[srtd,List.take_of_length_le h,List.drop_eq_nil_of_le h]
theorem b7Q (h:i≤l.length):(srtd l i).length=l.length:=by
 unfold srtd
 rw[List.length_append,G7 h,List.length_drop]
 omega
theorem d3v (h:i<l.length) (hj:j≤i):(swp l i j).length=l.length:=by
 have:=G7 (l:=l) (i:=i) (by omega)
 simp only[swp,List.length_append,List.length_cons,List.length_take,List.length_drop,this]
 omega
theorem c3q (h:i<l.length):swp l i i=srtd l i:=by
 have:=G7 (l:=l) (i:=i) (by omega)
 unfold swp srtd
 rw[List.take_of_length_le (by omega),List.drop_eq_nil_of_le (by omega),List.drop_eq_getElem_cons h,l6 .ow l i h]
 simp
theorem d4M (h:i<l.length):gtr l i i=true:=by
 have:=G7 (l:=l) (i:=i) (by omega)
 unfold gtr
 rw[List.drop_eq_nil_of_le (by omega)]
 rfl
theorem c9l:swp l i j=(m9 (l.take i)).take j++(nth .ow l i::((m9 (l.take i)).drop j++l.drop (i+1))):=by simp[swp]
theorem b7B (h:i<l.length) (hj:j≤i):nth .ow (swp l i j) j=nth .ow l i:=by
 have hl:=G7 (l:=l) (i:=i) (by omega)
 have hk:((m9 (l.take i)).take j).length=j:=by rw[List.length_take];omega
 rw[c9l]
 generalize (m9 (l.take i)).take j=P at *
 subst hk
 simp[nth,List.getD]
theorem b3G (h:i<l.length) (hj:j<i):nth .ow (swp l i (j+1)) j=nth .ow (m9 (l.take i)) j:=by
 have hl:=G7 (l:=l) (i:=i) (by omega)
 have hjl:j<(m9 (l.take i)).length:=by omega
 rw[c9l]
 unfold nth
 rw[List.getD_eq_getElem?_getD,List.getD_eq_getElem?_getD,List.getElem?_append_left (by rw[List.length_take];omega),List.getElem?_take]
 simp
theorem c9k (h:i<l.length) (hj:j<i):((swp l i (j+1)).set (j+1) (nth .ow (swp l i (j+1)) j)).set j (nth .ow l i)=swp l i j:=by
 have hl:=G7 (l:=l) (i:=i) (by omega)
 rw[b3G h hj]
 have hjl:j<(m9 (l.take i)).length:=by omega
 unfold swp
 have e1:(m9 (l.take i)).take (j+1)=(m9 (l.take i)).take j ++ [nth .ow (m9 (l.take i)) j]:=J6 .ow _ j hjl
 have e2:(m9 (l.take i)).drop j=nth .ow (m9 (l.take i)) j::(m9 (l.take i)).drop (j+1):=by rw[l6 .ow _ j hjl];exact List.drop_eq_getElem_cons hjl
 rw[e1,e2]
 have hk:((m9 (l.take i)).take j).length=j:=by rw[List.length_take];omega
 generalize (m9 (l.take i)).take j=P at *
 generalize (m9 (l.take i)).drop (j+1)=Q at *
 subst hk
 simp[List.set_append]
theorem d1P (h:i<l.length) (hj:j<i) (hg:gtr l i (j+1)=true) (hx:(nth .ow l i).wlk.id<(nth .ow (m9 (l.take i)) j).wlk.id):gtr l i j=true:=by
 have hl:=G7 (l:=l) (i:=i) (by omega)
 have hjl:j<(m9 (l.take i)).length:=by omega
 unfold gtr at hg ⊢
 rw[List.drop_eq_getElem_cons hjl,List.all_cons,hg,←l6 .ow _ j hjl]
 simp[hx]
theorem d3w (h:i<l.length) (hj:j≤i) (hg:gtr l i j=true) (hx:j=0∨0<j∧(nth .ow (m9 (l.take i)) (j-1)).wlk.id≤(nth .ow l i).wlk.id):swp l i j=srtd l (i+1):=by
 have hl:=G7 (l:=l) (i:=i) (by omega)
 have hle:=b0L (l.take i)
 have hg : ∀x∈(m9 (l.take i)).drop j,(nth .ow l i).wlk.id<x.wlk.id:=fun x hx'=>by
  have:=List.all_eq_true.1 hg x hx'
  simpa using this
 unfold swp srtd
 rw[J6 .ow l i h,a0j]
 congr 1
 generalize m9 (l.take i)=P at *
 generalize nth .ow l i=w at *
 have hsp:P=P.take j++P.drop j:=(List.take_append_drop j P).symm
 have ht : ∀x∈P.take j,ahO w x=true:=by
  intro x hx'
  rcases hx with rfl|⟨h0,hx⟩
  ·simp at hx'
  ·obtain⟨a,ha,rfl⟩:=List.getElem_of_mem hx'
   have ha2:a<j:=by rw[List.length_take]at ha;omega
   have hjl:j-1<P.length:=by omega
   rw[l6 .ow P (j-1) hjl]at hx
   rw[List.getElem_take]
   unfold ahO
   rw[decide_eq_true_eq]
   by_cases haj:a=j-1
   ·subst haj;exact hx
   ·have:=List.pairwise_iff_getElem.1 hle a (j-1) (by omega) hjl (by omega)
    omega
 have hd : ∀x∈P.drop j,ahO w x=false:=by
  intro x hx'
  have:=hg x hx'
  simp only[ahO,decide_eq_false_iff_not]
  omega
 have e1:P.takeWhile (ahO w)=P.take j:=by
  conv=>lhs;rw[hsp]
  rw[List.takeWhile_append_of_pos ht]
  cases hc:P.drop j with
  |nil=>simp
  |cons y q=>rw[List.takeWhile_cons,hd y (by rw[hc];simp)];simp
 have e2:P.dropWhile (ahO w)=P.drop j:=by
  conv=>lhs;rw[hsp]
  rw[List.dropWhile_append_of_pos ht]
  cases hc:P.drop j with
  |nil=>simp
  |cons y q=>rw[List.dropWhile_cons,hd y (by rw[hc];simp)];simp
 unfold putO
 rw[e1,e2]
end
end Go.Mo
namespace Go.Mo
open Go.Sx
section
variable {w:Wld} {i j k n:Int}
theorem a5n (h:j8 w=true):s0 w.map=true∧2≤w.map.cells∧w.map.cells≤4∧(w.stores.length:Int)=w.map.cells:=by
 have h1:=a1A (n0.1 h).2.1
 have h2:=o8.1 h1.2
 exact⟨h1.2,by omega,by omega,h1.1⟩
theorem a2Z (h:j8 w=true) (h0:0≤i) (h1:i<w.map.cells):L6 w.map (nth .sto w.stores i.toNat)=cX w.map w.stores i∧(cX w.map w.stores i).cell=i∧s6 w.map (cX w.map w.stores i)=true∧(cX w.map w.stores i).wlks.length≤9 ∧
  (cX w.map w.stores i).outs.length=2∧(cX w.map w.stores i).ins.length=2:=by
 obtain⟨_,h3,h4⟩:=a1P h h0 h1
 have hk:s6 w.map (cX w.map w.stores i)=true:=a1C h3
 have hf:=n5 hk
 refine⟨?_,?_,hk,Q3 hk,hf.2.2.2.2.2.2.1,hf.2.2.2.2.2.2.2.2⟩
 ·have:B1 w.map (nth .sto w.stores i.toNat)=true:=h3
  unfold L6
  rw[if_pos this]
  rfl
 ·unfold cX
  rw[a0i,h4.1]
theorem d6r (h:j8 w=true) (h0:0≤i) (h1:i<w.map.cells):L6 w.map (nth .sto w.stores i.toNat)=cX w.map w.stores i:=(a2Z h h0 h1).1
theorem d6s (h:j8 w=true) (h0:0≤i) (h1:i<w.map.cells):(cX w.map w.stores i).cell=i:=(a2Z h h0 h1).2.1
theorem b8W (h:j8 w=true) (h0:0≤i) (h1:i<w.map.cells):(cX w.map w.stores i).outs.length=2:=(a2Z h h0 h1).2.2.2.2.1
theorem b6o (h:j8 w=true) (h0:0≤i) (h1:i<w.map.cells):(cX w.map w.stores i).ins.length=2:=(a2Z h h0 h1).2.2.2.2.2
theorem a7t (h:j8 w=true) (h0:0≤i) (h1:i<w.map.cells):(cX w.map w.stores i).wlks.length≤9:=(a2Z h h0 h1).2.2.2.1
theorem a5o (h:j8 w=true) : ∀c:Int,0≤c→c<w.map.cells→s6 w.map (cX w.map w.stores c)=true:=fun _ h0 h1=>(a2Z h h0 h1).2.2.1
theorem c1j {m:PMap} {st:List Sto} (h0:0≤i) (h1:i<n):nth .cll (N5 m st n.toNat) i.toNat=cX m st i:=by
 rw[b5C (by omega),show((i.toNat:Nat):Int)=i by omega]
theorem c1o (h:j8 w=true) (h0:0<i) (h1:i<w.map.cells):b7 w.map i 0=i-1:=by
 unfold b7
 rw[if_pos ⟨(a5n h).1,by omega,h1⟩,if_pos ⟨rfl,h0⟩]
theorem c1n (h:j8 w=true) (h0:0≤i) (h1:i+1<w.map.cells):b7 w.map i 1=i+1:=by
 unfold b7
 rw[if_pos ⟨(a5n h).1,h0,by omega⟩,if_neg (by omega),if_pos ⟨rfl,h1⟩]
theorem d3F (h : ¬0<i):b7 w.map i 0 = -1:=by
 unfold b7
 split
 ·rw[if_neg (by omega),if_neg (by omega)]
 ·rfl
theorem d3E (h1 : ¬i+1<w.map.cells):b7 w.map i 1 = -1:=by
 unfold b7
 split
 ·rw[if_neg (by omega),if_neg (by omega)]
 ·rfl
theorem fl_l (h:j8 w=true) (h0:0<i) (h1:i<w.map.cells):A1 (nth .pcls (cX w.map w.stores i).outs 0) (nth .int (cX w.map w.stores (i-1)).ins 1)=fl w.map w.stores i 0:=by
 unfold fl
 rw[c1o h h0 h1,if_neg (by omega)]
 rfl
theorem fl_r (h:j8 w=true) (h0:0≤i) (h1:i+1<w.map.cells):A1 (nth .pcls (cX w.map w.stores i).outs 1) (nth .int (cX w.map w.stores (i+1)).ins 0)=fl w.map w.stores i 1:=by
 unfold fl
 rw[c1n h h0 h1,if_neg (by omega)]
 rfl
theorem d7q (h : ¬0<i):fl w.map w.stores i 0 = []:=by
 unfold fl
 rw[d3F h,if_pos rfl]
theorem d7p (h : ¬i+1<w.map.cells):fl w.map w.stores i 1 = []:=by
 unfold fl
 rw[d3E h,if_pos rfl]
theorem a9h (h:j8 w=true) (c s:Int):(fl w.map w.stores c s).length≤5000:=(d2c (a5o h) c s).1
theorem c2I (h:j8 w=true) {c s:Int} (h0:0≤j) (h1:j<((fl w.map w.stores c s).length:Int)):I8 w.map (nth .pcl (fl w.map w.stores c s) j.toNat)=true:=(d2c (a5o h) c s).2 _ (s4 .pcl (by omega))
theorem d3h {m:PMap} {st:List Sto} (h0:0≤i) (hk0:0≤k) (hk:k<((cX m st i).wlks.length:Int)):putO (m9 (accH m st i.toNat k.toNat)) ⟨nth .wlk (cX m st i).wlks k.toNat,true⟩=m9 (accH m st i.toNat (k+1).toNat):=by
 have hi:((i.toNat:Nat):Int)=i:=by omega
 rw[show(k+1).toNat=k.toNat+1 by omega,b5i (by rw[hi];omega),a0j,hi]
theorem c8P {m:PMap} {st:List Sto} (h0:0≤i) (hk:k≤((cX m st i).wlks.length:Int)) (hk2 : ¬k<((cX m st i).wlks.length:Int)):m9 (accH m st i.toNat k.toNat)=m9 (accH m st (i+1).toNat 0):=by
 have hi:((i.toNat:Nat):Int)=i:=by omega
 rw[show(i+1).toNat=i.toNat+1 by omega,c0O (by rw[hi];omega)]
theorem b0J {m:PMap} {st:List Sto} (h0:0≤i):N5 m st i.toNat ++ [cX m st i]=N5 m st (i+1).toNat:=by
 have hi:((i.toNat:Nat):Int)=i:=by omega
 rw[show(i+1).toNat=i.toNat+1 by omega,b3i,hi]
theorem b2k {m:PMap} {st:List Sto} (h0:0≤i):T5 m st i.toNat ++ [(cX m st i).ground]=T5 m st (i+1).toNat:=by
 have hi:((i.toNat:Nat):Int)=i:=by omega
 rw[show(i+1).toNat=i.toNat+1 by omega,b3v,hi]
theorem c0I (h0:0≤i):airZ i.toNat ++ [[0,0]]=airZ (i+1).toNat:=by
 rw[show(i+1).toNat=i.toNat+1 by omega,c8F]
theorem b2e (h:j8 w=true) : ∀k:Nat,(k:Int)≤w.map.cells→(a2H w.map w.stores k).length≤9 * k
 | 0,_=>by simp[a2H]
 |k+1,hk=>by
  rw[a9R,List.length_append]
  have h1:=b2e h k (by omega)
  have h2:=a7t h (i:=(k:Int)) (by omega) (by omega)
  simp only[E1,List.length_map]
  omega
theorem a4N (l:List Pcl):(flyO l).length≤l.length:=by
 simp only[flyO,List.length_map]
 exact List.length_filter_le _ _
theorem b4Q (h:j8 w=true) : ∀k:Nat,(a7Y w.map w.stores k).length≤10000 * k
 | 0=>by simp[a7Y]
 |k+1=>by
  rw[b2t,List.length_append]
  have h1:=b4Q h k
  have h2:=a4N (fl w.map w.stores (k:Int) 0)
  have h3:=a4N (fl w.map w.stores (k:Int) 1)
  have h4:=a9h h (k:Int) 0
  have h5:=a9h h (k:Int) 1
  simp only[flyE,List.length_append]
  omega
theorem c0M (h:j8 w=true) (h0:0≤i) (h1:i<w.map.cells):(m9 (accH w.map w.stores i.toNat k.toNat)).length≤100000:=by
 have hm:=a5n h
 have h2:=b2e h i.toNat (by omega)
 have h3:=a7t h h0 h1
 rw[a1q]
 simp only[accH,E1,List.length_append,List.length_map,List.length_take]
 rw[show((i.toNat:Nat):Int)=i by omega]
 omega
theorem c0R (h:j8 w=true) (h0:0≤i) (h1:i≤w.map.cells) (s j:Nat):(m9 (accF w.map w.stores i.toNat s j)).length≤100000:=by
 have hm:=a5n h
 have h2:=b2e h w.map.cells.toNat (by omega)
 have h3:=b4Q h i.toNat
 have h4:=a4N ((fl w.map w.stores (i.toNat:Int) 0).take j)
 have h5:=a4N ((fl w.map w.stores (i.toNat:Int) 1).take j)
 have h6:=a4N (fl w.map w.stores (i.toNat:Int) 0)
 have h7:=a9h h (i.toNat:Int) 0
 have h8:=a9h h (i.toNat:Int) 1
 rw[List.length_take]at h4 h5
 rw[a1q]
 simp only[accF,List.length_append]
 split
 ·omega
 ·rw[List.length_append];omega
theorem d7d (h0 : ¬i<w.map.cells) (h1:i≤w.map.cells):m9 (accH w.map w.stores i.toNat 0)=m9 (accF w.map w.stores 0 0 0):=by
 rw[show i=w.map.cells by omega,c0N]
theorem d3c (h0 : ¬i<w.map.cells) (h1:i≤w.map.cells):airZ i.toNat=airA w.map w.stores 0 0 0:=by
 rw[show i=w.map.cells by omega,c8G]
theorem c8T {m:PMap} {st:List Sto} (h0:0≤i) (hj0:0≤j) (hj:j<((fl m st i 0).length:Int)) (hk:(nth .pcl (fl m st i 0) j.toNat).kind=1):putO (m9 (accF m st i.toNat 0 j.toNat)) ⟨(nth .pcl (fl m st i 0) j.toNat).wlk,false⟩=m9 (accF m st i.toNat 0 (j+1).toNat):=by
 have hi:((i.toNat:Nat):Int)=i:=by omega
 have := @b3c m st i.toNat 0 j.toNat (by omega) (by rw[hi];exact(by omega:j.toNat<(fl m st i 0).length)) (by rw[hi];exact hk)
 rw[show(j+1).toNat=j.toNat+1 by omega,this,a0j,hi]
 rfl
theorem c8S {m:PMap} {st:List Sto} (h0:0≤i) (hj0:0≤j) (hj:j<((fl m st i 1).length:Int)) (hk:(nth .pcl (fl m st i 1) j.toNat).kind=1):putO (m9 (accF m st i.toNat 1 j.toNat)) ⟨(nth .pcl (fl m st i 1) j.toNat).wlk,false⟩=m9 (accF m st i.toNat 1 (j+1).toNat):=by
 have hi:((i.toNat:Nat):Int)=i:=by omega
 have := @b3c m st i.toNat 1 j.toNat (by omega) (by rw[hi];exact(by omega:j.toNat<(fl m st i 1).length)) (by rw[hi];exact hk)
 rw[show(j+1).toNat=j.toNat+1 by omega,this,a0j,hi]
 rfl
theorem c8J {m:PMap} {st:List Sto} (h0:0≤i) (hj0:0≤j) (hj:j<((fl m st i 0).length:Int)) (hk:(nth .pcl (fl m st i 0) j.toNat).kind=1):airA m st i.toNat 0 j.toNat=airA m st i.toNat 0 (j+1).toNat:=by
 have hi:((i.toNat:Nat):Int)=i:=by omega
 rw[show(j+1).toNat=j.toNat+1 by omega]
 exact(@b2X m st i.toNat 0 j.toNat (by omega) (by rw[hi];exact(by omega:j.toNat<(fl m st i 0).length)) (by rw[hi];exact hk)).symm
theorem c8I {m:PMap} {st:List Sto} (h0:0≤i) (hj0:0≤j) (hj:j<((fl m st i 1).length:Int)) (hk:(nth .pcl (fl m st i 1) j.toNat).kind=1):airA m st i.toNat 1 j.toNat=airA m st i.toNat 1 (j+1).toNat:=by
 have hi:((i.toNat:Nat):Int)=i:=by omega
 rw[show(j+1).toNat=j.toNat+1 by omega]
 exact(@b2X m st i.toNat 1 j.toNat (by omega) (by rw[hi];exact(by omega:j.toNat<(fl m st i 1).length)) (by rw[hi];exact hk)).symm
theorem c3h {m:PMap} {st:List Sto} (h0:0≤i) (hj0:0≤j) (hj:j<((fl m st i 0).length:Int)) (hk : ¬(nth .pcl (fl m st i 0) j.toNat).kind=1):m9 (accF m st i.toNat 0 j.toNat)=m9 (accF m st i.toNat 0 (j+1).toNat):=by
 have hi:((i.toNat:Nat):Int)=i:=by omega
 rw[show(j+1).toNat=j.toNat+1 by omega,@a9n m st i.toNat 0 j.toNat (by omega) (by rw[hi];exact(by omega:j.toNat<(fl m st i 0).length)) (by rw[hi];exact hk)]
theorem c3g {m:PMap} {st:List Sto} (h0:0≤i) (hj0:0≤j) (hj:j<((fl m st i 1).length:Int)) (hk : ¬(nth .pcl (fl m st i 1) j.toNat).kind=1):m9 (accF m st i.toNat 1 j.toNat)=m9 (accF m st i.toNat 1 (j+1).toNat):=by
 have hi:((i.toNat:Nat):Int)=i:=by omega
 rw[show(j+1).toNat=j.toNat+1 by omega,@a9n m st i.toNat 1 j.toNat (by omega) (by rw[hi];exact(by omega:j.toNat<(fl m st i 1).length)) (by rw[hi];exact hk)]
theorem c0J (h:j8 w=true) {d:Int} (h0:0≤d) (h1:d<w.map.cells) (a s b:Nat):(nth .ints (airA w.map w.stores a s b) d.toNat).length=2:=(b0u (a5o h) (d:=d.toNat) (u:=0) (by omega) (by omega)).1
theorem c8L (h:j8 w=true) (h0:0<i) (h1:i<w.map.cells) (hj0:0≤j) (hj:j<((fl w.map w.stores i 0).length:Int)) (hk : ¬(nth .pcl (fl w.map w.stores i 0) j.toNat).kind=1) :
  (airA w.map w.stores i.toNat 0 j.toNat).set (i-1).toNat ((nth .ints (airA w.map w.stores i.toNat 0 j.toNat) (i-1).toNat).set 1 (IntKind.i64.wrap (nth .int (nth .ints (airA w.map w.stores i.toNat 0 j.toNat) (i-1).toNat) 1+(nth .pcl (fl w.map w.stores i 0) j.toNat).j9)))=airA w.map w.stores i.toNat 0 (j+1).toNat:=by
 have hi:((i.toNat:Nat):Int)=i:=by omega
 have hs:=c1o h h0 h1
 have hb:=(b0u (a5o h) (i:=i.toNat) (s:=0) (j:=j.toNat) (d:=(i-1).toNat) (u:=1) (by omega) (by omega)).2
 have hb1 : @LE.le Int _ 0 (nth .int (nth .ints (airA w.map w.stores i.toNat 0 j.toNat) (i-1).toNat) 1):=hb.1
 have hb2 : @LE.le Int _ (nth .int (nth .ints (airA w.map w.stores i.toNat 0 j.toNat) (i-1).toNat) 1) 45000:=hb.2
 have hp:=I2.1 (c2I h hj0 hj)
 have := @a9l w.map w.stores i.toNat 0 j.toNat (by omega) (by rw[hi];exact(by rw[hs];omega:b7 w.map i 0 ≠ -1)) (by rw[hi];exact(by omega:j.toNat<(fl w.map w.stores i 0).length))
 rw[hi]at this
 have e:b7 w.map i ((0:Nat):Int)=i-1:=hs
 rw[e]at this
 rw[show(j+1).toNat=j.toNat+1 by omega,this]
 have hc:cC (nth .pcl (fl w.map w.stores i ((0:Nat):Int)) j.toNat)=(nth .pcl (fl w.map w.stores i 0) j.toNat).j9:=by
  show cC (nth .pcl (fl w.map w.stores i 0) j.toNat)=_
  unfold cC
  rw[if_neg hk]
 rw[hc,e8 (by omega) (by omega)]
 rfl
theorem c8K (h:j8 w=true) (h0:0≤i) (h1:i+1<w.map.cells) (hj0:0≤j) (hj:j<((fl w.map w.stores i 1).length:Int)) (hk : ¬(nth .pcl (fl w.map w.stores i 1) j.toNat).kind=1) :
  (airA w.map w.stores i.toNat 1 j.toNat).set (i+1).toNat ((nth .ints (airA w.map w.stores i.toNat 1 j.toNat) (i+1).toNat).set 0 (IntKind.i64.wrap (nth .int (nth .ints (airA w.map w.stores i.toNat 1 j.toNat) (i+1).toNat) 0+(nth .pcl (fl w.map w.stores i 1) j.toNat).j9)))=airA w.map w.stores i.toNat 1 (j+1).toNat:=by
 have hi:((i.toNat:Nat):Int)=i:=by omega
 have hs:=c1n h h0 h1
 have hb:=(b0u (a5o h) (i:=i.toNat) (s:=1) (j:=j.toNat) (d:=(i+1).toNat) (u:=0) (by omega) (by omega)).2
 have hb1 : @LE.le Int _ 0 (nth .int (nth .ints (airA w.map w.stores i.toNat 1 j.toNat) (i+1).toNat) 0):=hb.1
 have hb2 : @LE.le Int _ (nth .int (nth .ints (airA w.map w.stores i.toNat 1 j.toNat) (i+1).toNat) 0) 45000:=hb.2
 have hp:=I2.1 (c2I h hj0 hj)
 have := @a9l w.map w.stores i.toNat 1 j.toNat (by omega) (by rw[hi];exact(by rw[hs];omega:b7 w.map i 1 ≠ -1)) (by rw[hi];exact(by omega:j.toNat<(fl w.map w.stores i 1).length))
 rw[hi]at this
 have e:b7 w.map i ((1:Nat):Int)=i+1:=hs
 rw[e]at this
 rw[show(j+1).toNat=j.toNat+1 by omega,this]
 have hc:cC (nth .pcl (fl w.map w.stores i ((1:Nat):Int)) j.toNat)=(nth .pcl (fl w.map w.stores i 1) j.toNat).j9:=by
  show cC (nth .pcl (fl w.map w.stores i 1) j.toNat)=_
  unfold cC
  rw[if_neg hk]
 rw[hc,e8 (by omega) (by omega)]
 rfl
theorem a4X (h0:0≤i) (hj:j≤((fl w.map w.stores i 0).length:Int)) (hj2 : ¬j<((fl w.map w.stores i 0).length:Int)):m9 (accF w.map w.stores i.toNat 0 j.toNat)=m9 (accF w.map w.stores i.toNat 1 0)∧airA w.map w.stores i.toNat 0 j.toNat=airA w.map w.stores i.toNat 1 0:=by
 have hi:((i.toNat:Nat):Int)=i:=by omega
 rw[b3b (by rw[hi];omega),b2W (by rw[hi];omega)]
 exact⟨rfl,rfl⟩
theorem b2Z (h0:0≤i) (hj:j≤((fl w.map w.stores i 1).length:Int)) (hj2 : ¬j<((fl w.map w.stores i 1).length:Int)):m9 (accF w.map w.stores i.toNat 1 j.toNat)=m9 (accF w.map w.stores (i+1).toNat 0 0)∧airA w.map w.stores i.toNat 1 j.toNat=airA w.map w.stores (i+1).toNat 0 0:=by
 have hi:((i.toNat:Nat):Int)=i:=by omega
 rw[show(i+1).toNat=i.toNat+1 by omega,b3a (by rw[hi];omega),b2V (by rw[hi];omega)]
 exact⟨rfl,rfl⟩
theorem c0Q (h0:0≤i) (h : ¬0<i):m9 (accF w.map w.stores i.toNat 0 0)=m9 (accF w.map w.stores i.toNat 1 0)∧airA w.map w.stores i.toNat 0 0=airA w.map w.stores i.toNat 1 0 :=
 a4X (j:=0) h0 (by omega) (by rw[d7q h];simp)
theorem c0P (h0:0≤i) (h : ¬i+1<w.map.cells):m9 (accF w.map w.stores i.toNat 1 0)=m9 (accF w.map w.stores (i+1).toNat 0 0)∧airA w.map w.stores i.toNat 1 0=airA w.map w.stores (i+1).toNat 0 0 :=
 b2Z (j:=0) h0 (by omega) (by rw[d7p h];simp)
theorem c4w (h:j8 w=true) (h0 : ¬i<w.map.cells) (h1:i≤w.map.cells) (h2 : ¬n<w.map.cells) (h3:n≤w.map.cells):w.map.cells=(oneOf w).map.cells∧w.map.width=(oneOf w).map.width∧m9 (accF w.map w.stores i.toNat 0 0)=(oneOf w).wlks∧T5 w.map w.stores n.toNat=(oneOf w).ground∧airA w.map w.stores i.toNat 0 0=(oneOf w).air:=by
 rw[show i=w.map.cells by omega,show n=w.map.cells by omega,c0S,d3e]
 unfold oneOf
 rw[if_pos h]
 exact⟨rfl,rfl,rfl,rfl,rfl⟩
theorem c4v (h:j8 w=false):0=(oneOf w).map.cells∧0=(oneOf w).map.width ∧ []=(oneOf w).wlks ∧ []=(oneOf w).ground ∧ []=(oneOf w).air:=by
 unfold oneOf
 rw[if_neg (by simp[h])]
 exact⟨rfl,rfl,rfl,rfl,rfl⟩
end
end Go.Mo
namespace Go.Mo
open Go.Sx
theorem c0l : ∀(l a:List OW),OLe (a++l)→l.foldl putO a=a++l
 |[],a,_=>by simp
 |x::l,a,h=>by
  have ha:a.all (ahO x)=true:=List.all_eq_true.2 fun y hy=>by
   have:=(List.pairwise_append.1 h).2.2 y hy x (by simp)
   simpa [ahO]using this
  rw[List.foldl_cons,b1f ha,c0l l (a ++ [x]) (by simpa using h)]
  simp
theorem b7R {l:List OW} (h:OLe l):m9 l=l:=by
 have:=c0l l [] (by simpa using h)
 simpa [m9]using this
section
variable {l:List OW} {i j k:Nat}
theorem b3O (h:i≤l.length):(srtd l i).take i=m9 (l.take i):=by
 unfold srtd
 exact List.take_left' (G7 h)
theorem c6n (h:i<l.length):(srtd l i).drop (i+1)=l.drop (i+1):=by
 have hl:=G7 (l:=l) (i:=i) (by omega)
 unfold srtd
 rw[List.drop_append,List.drop_eq_nil_of_le (by omega),List.nil_append,hl,List.drop_drop]
 congr 1
 omega
theorem c9u (h:i<l.length):nth .ow (srtd l i) i=nth .ow l i:=by
 rw[←c3q h]
 exact b7B h (Nat.le_refl i)
theorem c6m (h:i<l.length):srtd (srtd l i) (i+1)=srtd l (i+1):=by
 have hl:i<(srtd l i).length:=by rw[b7Q (by omega)];exact h
 have e1:srtd (srtd l i) (i+1)=m9 ((srtd l i).take (i+1))++(srtd l i).drop (i+1):=rfl
 have e2:srtd l (i+1)=m9 (l.take (i+1))++l.drop (i+1):=rfl
 rw[e1,e2,c6n h,J6 .ow _ i hl,b3O (by omega),c9u h,a0j,b7R (b0L _),J6 .ow _ i h,a0j]
def R4 (l:List OW):Bool:=l.all fun x=>decide (0≤x.wlk.id∧x.wlk.id≤9)
theorem c9v {x:OW} (h:x∈srtd l i):x∈l:=by
 unfold srtd at h
 rcases List.mem_append.1 h with h|h
 ·exact List.mem_of_mem_take ((D1 _).mem_iff.1 h)
 ·exact List.mem_of_mem_drop h
theorem c2u (h:R4 l=true):R4 (srtd l i)=true:=by
 unfold R4 at *
 rw[List.all_eq_true]at *
 exact fun x hx=>h x (c9v hx)
theorem d6N (h:R4 l=true) (hk:k<l.length):0≤(nth .ow l k).wlk.id∧(nth .ow l k).wlk.id≤9:=by
 unfold R4 at h
 rw[List.all_eq_true]at h
 have:=h _ (s4 .ow hk)
 simpa using this
theorem d1F (h:R4 l=true) (hi:i≤l.length) (hk:k<i):0≤(nth .ow (m9 (l.take i)) k).wlk.id∧(nth .ow (m9 (l.take i)) k).wlk.id≤9:=by
 unfold R4 at h
 rw[List.all_eq_true]at h
 have hm:=(D1 _).mem_iff.1 (s4 .ow (l:=m9 (l.take i)) (i:=k) (by rw[G7 hi];exact hk))
 have:=h _ (List.mem_of_mem_take hm)
 simpa using this
end
section
variable {L R:List OW} {i j:Int}
structure SinkI (L R:List OW) (i j:Int):Prop where
 j0:0≤j
 ji:j≤i
 il:i<(L.length:Int)
 few:L.length≤9
 is:R=swp L i.toNat j.toNat
 gt:gtr L i.toNat j.toNat=true
 ids:R4 L=true
theorem SinkI.len (h:SinkI L R i j):R.length=L.length:=by
 rw[h.is,d3v (by have:=h.il;have:=h.j0;have:=h.ji;omega) (by have:=h.j0;have:=h.ji;omega)]
theorem SinkI.here (h:SinkI L R i j):nth .ow R j.toNat=nth .ow L i.toNat:=by
 have:=h.il;have:=h.j0;have:=h.ji
 rw[h.is,b7B (by omega) (by omega)]
theorem SinkI.below (h:SinkI L R i j) (h0:0<j):nth .ow R (j-1).toNat=nth .ow (m9 (L.take i.toNat)) (j-1).toNat:=by
 have h1:=h.il;have h2:=h.ji
 have:=b3G (l:=L) (i:=i.toNat) (j:=(j-1).toNat) (by omega) (by omega)
 rw[h.is,show j.toNat=(j-1).toNat+1 by omega,this]
theorem SinkI.cmp (h:SinkI L R i j) (h0:0<j):IntKind.i64.wrap ((nth .ow R j.toNat).wlk.id-(nth .ow R (j-1).toNat).wlk.id)=(nth .ow L i.toNat).wlk.id-(nth .ow (m9 (L.take i.toNat)) (j-1).toNat).wlk.id:=by
 have h1:=h.il;have h2:=h.ji
 have a:=d6N (k:=i.toNat) h.ids (by omega)
 have b:=d1F (i:=i.toNat) (k:=(j-1).toNat) h.ids (by omega) (by omega)
 rw[h.here,h.below h0]
 exact e8 (by omega) (by omega)
theorem SinkI.step (h:SinkI L R i j) (h0:0<j) (hc:IntKind.i64.wrap ((nth .ow R j.toNat).wlk.id-(nth .ow R (j-1).toNat).wlk.id)<0):SinkI L ((R.set j.toNat (nth .ow R (j-1).toNat)).set (j-1).toNat (nth .ow R j.toNat)) i (j-1):=by
 have h1:=h.il;have h2:=h.ji
 rw[h.cmp h0]at hc
 have e:=c9k (l:=L) (i:=i.toNat) (j:=(j-1).toNat) (by omega) (by omega)
 have hj:(j-1).toNat+1=j.toNat:=by omega
 rw[hj]at e
 refine⟨by omega,by omega,h1,h.few,?_,?_,h.ids⟩
 ·rw[h.here,h.is,e]
 ·have hg:=h.gt
  rw[←hj]at hg
  exact d1P (by omega) (by omega) hg (by omega)
theorem SinkI.stop (h:SinkI L R i j) (hc : ¬0<j∨0<j ∧ ¬IntKind.i64.wrap ((nth .ow R j.toNat).wlk.id-(nth .ow R (j-1).toNat).wlk.id)<0):R=srtd L (i+1).toNat:=by
 have h1:=h.il;have h2:=h.ji;have h3:=h.j0
 rw[h.is,show(i+1).toNat=i.toNat+1 by omega]
 refine d3w (by omega) (by omega) h.gt ?_
 rcases hc with hc|⟨h0,hc⟩
 ·exact Or.inl (by omega)
 ·rw[h.cmp h0]at hc
  rw[show j.toNat-1=(j-1).toNat by omega]
  exact Or.inr ⟨by omega,by omega⟩
structure SortI (L R:List OW) (a b i:Int):Prop where
 a0:a=0
 bl:b=(L.length:Int)
 i1:1≤i
 i2:i≤10
 few:L.length≤9
 is:R=srtd L i.toNat
 ids:R4 L=true
variable {a b:Int}
theorem SortI.len (h:SortI L R a b i) (hi:i≤b):R.length=L.length:=by
 have:=h.bl
 rw[h.is,b7Q (by omega)]
theorem SortI.start (hf:L.length≤9) (hd:R4 L=true):SortI L L 0 (L.length:Int) (0+1):=⟨rfl,rfl,by omega,by omega,hf,by rw[show((0:Int)+1).toNat=1 from rfl,c9t],hd⟩
theorem SortI.down (h:SortI L R a b i) (hi:i<b):SinkI R R i i:=by
 have h1:=h.i1
 have hb:=h.bl
 have hl:=h.len (by omega)
 have hf:=h.few
 have hin:i.toNat<L.length:=by omega
 refine⟨by omega,by omega,by omega,by omega,?_,?_,by rw[h.is];exact c2u h.ids⟩
 ·have:=c3q (l:=R) (i:=i.toNat) (by omega)
  rw[this]
  conv=>lhs;rw[h.is]
  rw[h.is]
  have hs:srtd (srtd L i.toNat) i.toNat=srtd L i.toNat:=by
   have e1:srtd (srtd L i.toNat) i.toNat=m9 ((srtd L i.toNat).take i.toNat)++(srtd L i.toNat).drop i.toNat:=rfl
   rw[e1,b3O (by omega),b7R (b0L _)]
   have:(srtd L i.toNat).drop i.toNat=L.drop i.toNat:=by
    unfold srtd
    exact List.drop_left' (G7 (by omega))
   rw[this]
   rfl
  rw[hs]
 ·exact d4M (by omega)
theorem SortI.next {R':List OW} (h:SortI L R a b i) (hi:i<b) (hR:R'=srtd R (i+1).toNat):SortI L R' a b (IntKind.i64.wrap (i+1)):=by
 have h1:=h.i1
 have hf:=h.few
 have hb:=h.bl
 rw[e8 (by omega) (by omega)]
 refine⟨h.a0,hb,by omega,by omega,hf,?_,h.ids⟩
 rw[hR,h.is,show(i+1).toNat=i.toNat+1 by omega]
 exact c6m (by omega)
theorem SortI.less (h:SortI L R a b i) (hi:i<b):(11-IntKind.i64.wrap (i+1)).toNat<(11-i).toNat:=by
 have h1:=h.i1
 have hf:=h.few
 have hb:=h.bl
 rw[e8 (by omega) (by omega)]
 omega
theorem SortI.done (h:SortI L R a b i) (hi : ¬i<b):R=m9 L:=by
 have hb:=h.bl
 rw[h.is,c9w (by omega)]
theorem SinkI.in1 (h:SinkI L R i j):0≤j∧j<(R.length:Int):=by
 have h1:=h.j0;have h2:=h.ji;have h3:=h.il;have h4:=h.len
 omega
theorem SinkI.in2 (h:SinkI L R i j) (hj:0<j):0≤IntKind.i64.wrap (j-1)∧IntKind.i64.wrap (j-1)<(R.length:Int):=by
 have h2:=h.ji;have h3:=h.il;have h4:=h.len;have h5:=h.few
 rw[e8 (by omega) (by omega)]
 omega
theorem SinkI.pred (h:SinkI L R i j) (hj:0<j):IntKind.i64.wrap (j-1)=j-1:=by
 have h2:=h.ji;have h3:=h.il;have h5:=h.few
 exact e8 (by omega) (by omega)
end
section
variable {L R:List OW} {i j:Int}
theorem SinkI.in3 (h:SinkI L R i j) (hj:0<j) (k:Nat) (x:OW):0≤IntKind.i64.wrap (j-1)∧IntKind.i64.wrap (j-1)<((R.set k x).length:Int):=by
 rw[List.length_set]
 exact h.in2 hj
theorem SinkI.d7i (h:SinkI L R i j) (hj:0<j) (hc:IntKind.i64.wrap ((nth .ow R j.toNat).wlk.id-(nth .ow R (IntKind.i64.wrap (j-1)).toNat).wlk.id)<0) :
  SinkI L ((R.set j.toNat (nth .ow R (IntKind.i64.wrap (j-1)).toNat)).set (IntKind.i64.wrap (j-1)).toNat (nth .ow R j.toNat)) i (IntKind.i64.wrap (j-1)):=by
 rw[h.pred hj]at hc ⊢
 exact h.step hj hc
theorem SinkI.d7n (h:SinkI L R i j) (hj:0<j):(IntKind.i64.wrap (j-1)).toNat<j.toNat:=by
 rw[h.pred hj]
 omega
theorem SinkI.d7h (h:SinkI L R i j) (hj:0<j) (hc : ¬IntKind.i64.wrap ((nth .ow R j.toNat).wlk.id-(nth .ow R (IntKind.i64.wrap (j-1)).toNat).wlk.id)<0):R=srtd L (i+1).toNat:=by
 rw[h.pred hj]at hc
 exact h.stop (.inr ⟨hj,hc⟩)
end
def accS (m:PMap) (st:List Sto) (i s:Nat):List OW:=if s=0 then accF m st i 0 0 else if s=1 then accF m st i 1 0 else accF m st (i+1) 0 0
def airS (m:PMap) (st:List Sto) (i s:Nat):List (List Int):=if s=0 then airA m st i 0 0 else if s=1 then airA m st i 1 0 else airA m st (i+1) 0 0
section
variable {m:PMap} {st:List Sto} {w:Wld} {i s j:Int}
theorem b0v (h0:0≤s) (h1:s<2):accS m st i.toNat s.toNat=accF m st i.toNat s.toNat 0∧airS m st i.toNat s.toNat=airA m st i.toNat s.toNat 0:=by
 have:s.toNat=0∨s.toNat=1:=by omega
 unfold accS airS
 rcases this with h|h<;>rw[h]<;>exact⟨rfl,rfl⟩
theorem c0K (h0:0≤i) (h:s=2):accS m st i.toNat s.toNat=accF m st (i+1).toNat 0 0∧airS m st i.toNat s.toNat=airA m st (i+1).toNat 0 0:=by
 subst h
 rw[show(i+1).toNat=i.toNat+1 by omega]
 exact⟨rfl,rfl⟩
theorem c0L (h0:0≤i) (hs0:0≤s) (hs:s<2) (hj0:0≤j) (hj:j<((fl m st i s).length:Int)) (hk:(nth .pcl (fl m st i s) j.toNat).kind=1) :
  accF m st i.toNat s.toNat j.toNat ++ [⟨(nth .pcl (fl m st i s) j.toNat).wlk,false⟩]=accF m st i.toNat s.toNat (j+1).toNat∧airA m st i.toNat s.toNat j.toNat=airA m st i.toNat s.toNat (j+1).toNat:=by
 have hi:((i.toNat:Nat):Int)=i:=by omega
 have hss:((s.toNat:Nat):Int)=s:=by omega
 have h1 := @b3c m st i.toNat s.toNat j.toNat (by omega) (by rw[hi,hss];omega) (by rw[hi,hss];exact hk)
 have h2 := @b2X m st i.toNat s.toNat j.toNat (by omega) (by rw[hi,hss];omega) (by rw[hi,hss];exact hk)
 rw[hi,hss]at h1
 rw[show(j+1).toNat=j.toNat+1 by omega,h1,h2]
 exact⟨rfl,rfl⟩
theorem c8O (h0:0≤i) (hs0:0≤s) (hs:s<2) (hj0:0≤j) (hj:j<((fl m st i s).length:Int)) (hk : ¬(nth .pcl (fl m st i s) j.toNat).kind=1) :
  accF m st i.toNat s.toNat j.toNat=accF m st i.toNat s.toNat (j+1).toNat:=by
 have hi:((i.toNat:Nat):Int)=i:=by omega
 have hss:((s.toNat:Nat):Int)=s:=by omega
 have h1 := @a9n m st i.toNat s.toNat j.toNat (by omega) (by rw[hi,hss];omega) (by rw[hi,hss];exact hk)
 rw[show(j+1).toNat=j.toNat+1 by omega,h1]
theorem d3d (h:j8 w=true) (h0:0≤i) (hs0:0≤s) (hs:s<2) (hd : ¬b7 w.map i s = -1) (hj0:0≤j) (hj:j<((fl w.map w.stores i s).length:Int)) (hk : ¬(nth .pcl (fl w.map w.stores i s) j.toNat).kind=1) :
  (airA w.map w.stores i.toNat s.toNat j.toNat).set (b7 w.map i s).toNat ((nth .ints (airA w.map w.stores i.toNat s.toNat j.toNat) (b7 w.map i s).toNat).set (1-s).toNat (IntKind.i64.wrap (nth .int (nth .ints (airA w.map w.stores i.toNat s.toNat j.toNat) (b7 w.map i s).toNat) (1-s).toNat+(nth .pcl (fl w.map w.stores i s) j.toNat).j9)))=airA w.map w.stores i.toNat s.toNat (j+1).toNat:=by
 have hi:((i.toNat:Nat):Int)=i:=by omega
 have hss:((s.toNat:Nat):Int)=s:=by omega
 have hin:=D8 hd
 have hb:=(b0u (a5o h) (i:=i.toNat) (s:=s.toNat) (j:=j.toNat) (d:=(b7 w.map i s).toNat) (u:=(1-s).toNat) (by omega) (by omega)).2
 have hb1 : @LE.le Int _ 0 (nth .int (nth .ints (airA w.map w.stores i.toNat s.toNat j.toNat) (b7 w.map i s).toNat) (1-s).toNat):=hb.1
 have hb2 : @LE.le Int _ (nth .int (nth .ints (airA w.map w.stores i.toNat s.toNat j.toNat) (b7 w.map i s).toNat) (1-s).toNat) 45000:=hb.2
 have hp:=I2.1 (c2I h hj0 hj)
 have h1 := @a9l w.map w.stores i.toNat s.toNat j.toNat (by omega) (by rw[hi,hss];exact hd) (by rw[hi,hss];omega)
 rw[hi,hss]at h1
 have hc:cC (nth .pcl (fl w.map w.stores i s) j.toNat)=(nth .pcl (fl w.map w.stores i s) j.toNat).j9:=by
  unfold cC
  rw[if_neg hk]
 rw[show(j+1).toNat=j.toNat+1 by omega,h1,hc,e8 (by omega) (by omega)]
theorem a9m (h0:0≤i) (hs0:0≤s) (hs:s<2) (hj:j≤((fl m st i s).length:Int)) (hj2 : ¬j<((fl m st i s).length:Int)) :
  accF m st i.toNat s.toNat j.toNat=accS m st i.toNat (s+1).toNat∧airA m st i.toNat s.toNat j.toNat=airS m st i.toNat (s+1).toNat:=by
 have hi:((i.toNat:Nat):Int)=i:=by omega
 have:s=0∨s=1:=by omega
 rcases this with rfl|rfl
 ·rw[show(0:Int).toNat=0 from rfl,show((0:Int)+1).toNat=1 from rfl,b3b (by rw[hi];omega),b2W (by rw[hi];omega)]
  exact⟨rfl,rfl⟩
 ·rw[show(1:Int).toNat=1 from rfl,show((1:Int)+1).toNat=2 from rfl,b3a (by rw[hi];omega),b2V (by rw[hi];omega)]
  exact⟨rfl,rfl⟩
theorem b5g (h0:0≤i) (hs0:0≤s) (hs:s<2) (hd:b7 m i s = -1):accS m st i.toNat s.toNat=accS m st i.toNat (s+1).toNat∧airS m st i.toNat s.toNat=airS m st i.toNat (s+1).toNat:=by
 have he:fl m st i s = []:=by
  unfold fl
  rw[if_pos hd]
 have:=a9m (m:=m) (st:=st) (j:=0) h0 hs0 hs (by rw[he];simp) (by rw[he];simp)
 rw[(b0v hs0 hs).1,(b0v hs0 hs).2]
 exact this
theorem d6R (h : ¬b7 m i s = -1):A1 (nth .pcls (cX m st i).outs s.toNat) (nth .int (cX m st (b7 m i s)).ins (1-s).toNat)=fl m st i s:=by
 unfold fl
 rw[if_neg h]
 rfl
end
section
variable {m:PMap} {st:List Sto} {w:Wld} {i k s j:Int}
theorem d7a:q9 m (nth .sto st i.toNat)=cX m st i:=rfl
theorem c8Q (h0:0≤i) (hk0:0≤k) (hk:k<((cX m st i).wlks.length:Int)):accH m st i.toNat k.toNat ++ [⟨nth .wlk (cX m st i).wlks k.toNat,true⟩]=accH m st i.toNat (k+1).toNat:=by
 have hi:((i.toNat:Nat):Int)=i:=by omega
 rw[show(k+1).toNat=k.toNat+1 by omega,b5i (by rw[hi];omega),hi]
theorem c3f (h0:0≤i) (hk:k≤((cX m st i).wlks.length:Int)) (hk2 : ¬k<((cX m st i).wlks.length:Int)):accH m st i.toNat k.toNat=accH m st (i+1).toNat 0:=by
 have hi:((i.toNat:Nat):Int)=i:=by omega
 rw[show(i+1).toNat=i.toNat+1 by omega,c0O (by rw[hi];omega)]
theorem d5q (h0 : ¬i<w.map.cells) (h1:i≤w.map.cells):accH w.map w.stores i.toNat 0=accF w.map w.stores 0 0 0:=by
 rw[show i=w.map.cells by omega,c0N]
theorem c8R (h:j8 w=true) (h0:0≤i) (h1:i<w.map.cells) (a:Nat):(accH w.map w.stores i.toNat a).length≤100000:=by
 have:=c0M (k:=(a:Int)) h h0 h1
 rw[a1q]at this
 exact this
theorem c8U (h:j8 w=true) (h0:0≤i) (h1:i≤w.map.cells) (a b:Nat):(accF w.map w.stores i.toNat a b).length≤100000:=by
 have:=c0R h h0 h1 a b
 rw[a1q]at this
 exact this
theorem d0p (h:j8 w=true) (h0:0≤i) (h1:i<w.map.cells):B1 w.map (nth .sto w.stores i.toNat)=true:=(a1P h h0 h1).2.1
theorem b6n (h:j8 w=true) (hd : ¬b7 w.map i s = -1):(cX w.map w.stores (b7 w.map i s)).ins.length=2:=b6o h (D8 hd).2.2.1 (D8 hd).2.2.2
theorem c8H (h:j8 w=true) (hd : ¬b7 w.map i s = -1) (a b c:Nat):(nth .ints (airA w.map w.stores a b c) (b7 w.map i s).toNat).length=2:=c0J h (D8 hd).2.2.1 (D8 hd).2.2.2 a b c
theorem c9B (hd : ¬b7 w.map i s = -1):0≤b7 w.map i s∧b7 w.map i s<(w.map.cells.toNat:Int):=by
 have:=D8 hd
 omega
end
section
variable {w:Wld} {i k n s j a b:Int} {R:List OW}
theorem b7L (hd : ¬b7 w.map i s = -1) (h0 : ¬n<w.map.cells):nth .cll (N5 w.map w.stores n.toNat) (b7 w.map i s).toNat=cX w.map w.stores (b7 w.map i s):=by
 have:=D8 hd
 exact c1j this.2.2.1 (by omega)
theorem c6s (hd : ¬b7 w.map i s = -1) (h0 : ¬n<w.map.cells):0≤b7 w.map i s∧b7 w.map i s<(n.toNat:Int):=by
 have:=D8 hd
 omega
theorem d5K {n:Nat} (h:n≤100000):(n+(0+1)) * 48≤140737488355328:=by omega
theorem b5H (hp:j8 w=true→(allO w.map w.stores).length≤9∧R4 (allO w.map w.stores)=true) (h:j8 w=true) (h0 : ¬i<w.map.cells) (h1:i≤w.map.cells) :
  (accF w.map w.stores i.toNat 0 0).length≤9∧R4 (accF w.map w.stores i.toNat 0 0)=true:=by
 rw[show i=w.map.cells by omega,c0S]
 exact hp h
theorem c9z (hp:j8 w=true→(allO w.map w.stores).length≤9∧R4 (allO w.map w.stores)=true) (h:j8 w=true) (h0 : ¬i<w.map.cells) (h1:i≤w.map.cells):((accF w.map w.stores i.toNat 0 0).length:Int)≤9:=by
 have:=(b5H hp h h0 h1).1
 omega
theorem c1m (hp:j8 w=true→(allO w.map w.stores).length≤9∧R4 (allO w.map w.stores)=true) (h:j8 w=true) (h0 : ¬i<w.map.cells) (h1:i≤w.map.cells) :
  SortI (accF w.map w.stores i.toNat 0 0) (accF w.map w.stores i.toNat 0 0) 0 ((accF w.map w.stores i.toNat 0 0).length:Int) (0+1):=SortI.start (b5H hp h h0 h1).1 (b5H hp h h0 h1).2
theorem d0s (h:j8 w=true) (h0 : ¬i<w.map.cells) (h1:i≤w.map.cells) (h2 : ¬n<w.map.cells) (h3:n≤w.map.cells) (hs:SortI (accF w.map w.stores i.toNat 0 0) R a b k) (hk : ¬k<b) :
  w.map.cells=(oneOf w).map.cells∧w.map.width=(oneOf w).map.width∧R=(oneOf w).wlks∧T5 w.map w.stores n.toNat=(oneOf w).ground∧airA w.map w.stores i.toNat 0 0=(oneOf w).air:=by
 have:=c4w h h0 h1 h2 h3
 rw[hs.done hk]
 exact this
end
end Go.Mo
namespace Go.Mo
open Go.Sx
structure Placed (L:List Int) (w:Wld):Prop where
 frm:From w
 srt:L.Pairwise (· < ·)
 whole:Whole L (fun _=>0) w
section
variable {L:List Int} {w:Wld}
theorem Placed.nodup (h:Placed L w):L.Nodup:=h.srt.imp fun hab=>by omega
theorem Placed.inv (h:Placed L w):OneInv w.map w.stores:=h.whole.one h.nodup
theorem b1t (h:j8 w=true):oneOf w=m7 w.map w.stores:=by
 unfold oneOf
 rw[if_pos h]
theorem Placed.facts (h:Placed L w):j8 w=true∧I3 (oneOf w)=true∧(oneOf w).wlks.map oid=L∧(allO w.map w.stores).length≤9∧R4 (allO w.map w.stores)=true:=by
 have hok:=d4P h.frm
 have ho:=d0q h.inv
 have hl:=b0j ho
 have hp:(m7 w.map w.stores).wlks=m9 (allO w.map w.stores):=rfl
 rw[b1t hok]
 refine⟨hok,ho,d6M h.inv.ids h.srt h.whole.pl.ids,?_,?_⟩
 ·rw[hp,a1q]at hl
  exact hl
 ·unfold R4
  rw[List.all_eq_true]
  intro x hx
  have hm:x∈(m7 w.map w.stores).wlks:=by rw[hp];exact(D1 _).mem_iff.2 hx
  obtain⟨k,hk,rfl⟩:=a0F .ow hm
  have:=z5.1 (b6m ho hk).1
  simp only[decide_eq_true_eq]
  omega
theorem W4 (h:BegE w):Placed ((oneOf w).wlks.map oid) w:=by
 have hf:=d2V h
 obtain⟨L,hs,hw⟩:=c2H hf
 have hP:Placed L w:=⟨hf,hs,hw⟩
 rw[hP.facts.2.2.1]
 exact hP
theorem a2h (h:Placed L w) (e:Evt):Placed L (b9 w e):=⟨c8d h.frm e,h.srt,(a5Z h.nodup h.whole e).1⟩
theorem b6b (h:Placed L w) (e:Evt):I9 (oneOf (b9 w e))=I9 (oneOf w):=by
 have h':=a2h h e
 have hw:=a5Z h.nodup h.whole e
 have f:=h.facts
 have f':=h'.facts
 rw[a5D f.2.1,a5D f'.2.1,b1t f.1,b1t f'.1,hw.2.2]
 exact c2F h.inv hw.2.1
end
theorem c9Z {W:Wld} {l:List Evt} (h:BegE W∧l.length≤149):j8 W=true∧(j8 W=true→(allO W.map W.stores).length≤9∧R4 (allO W.map W.stores)=true)∧Placed ((oneOf W).wlks.map oid) W∧I3 (oneOf W)=true∧l.length≤149 :=
 ⟨(W4 h.1).facts.1,fun _=>(W4 h.1).facts.2.2.2,W4 h.1,(W4 h.1).facts.2.1,h.2⟩
theorem b4k {L:List Int} {w:Wld} (h:Placed L w):j8 w=true∧(j8 w=true→(allO w.map w.stores).length≤9∧R4 (allO w.map w.stores)=true)∧I3 (oneOf w)=true∧(oneOf w).wlks.map oid=L :=
 ⟨h.facts.1,fun _=>h.facts.2.2.2,h.facts.2.1,h.facts.2.2.1⟩
theorem c1J {L:List Int} {w:Wld} (h:Placed L w) (e:Evt):Placed L (b9 w e)∧j8 (b9 w e)=true∧(j8 (b9 w e)=true→(allO (b9 w e).map (b9 w e).stores).length≤9∧R4 (allO (b9 w e).map (b9 w e).stores)=true) ∧
  I3 (oneOf (b9 w e))=true∧(oneOf (b9 w e)).wlks.map oid=L:=⟨a2h h e,b4k (a2h h e)⟩
def a0J (w:Wld):Prop := ∃L,Placed L w
theorem b8M {w:Wld} (h:BegE w):a0J w:=⟨_,W4 h⟩
theorem a3B {w:Wld} (h:a0J w) (e:Evt):a0J (b9 w e)∧I9 (oneOf (b9 w e))=I9 (oneOf w):=let ⟨L,h⟩:=h;⟨⟨L,a2h h e⟩,b6b h e⟩
theorem a0J.facts {w:Wld} (h:a0J w):j8 w=true∧I3 (oneOf w)=true∧(allO w.map w.stores).length≤9∧R4 (allO w.map w.stores)=true:=let ⟨_,h⟩:=h;⟨h.facts.1,h.facts.2.1,h.facts.2.2.2.1,h.facts.2.2.2.2⟩
theorem c6B {W:Wld} {l:List Evt} (h:BegE W∧l.length≤149):j8 W=true∧(j8 W=true→(allO W.map W.stores).length≤9∧R4 (allO W.map W.stores)=true)∧a0J W∧l.length≤149 :=
 ⟨(W4 h.1).facts.1,fun _=>(W4 h.1).facts.2.2.2,b8M h.1,h.2⟩
theorem b1m {w:Wld} (h:a0J w):j8 w=true∧(j8 w=true→(allO w.map w.stores).length≤9∧R4 (allO w.map w.stores)=true):=⟨h.facts.1,fun _=>h.facts.2.2⟩
theorem b8P {w:Wld} (h:a0J w) (e:Evt):a0J (b9 w e)∧I9 (oneOf (b9 w e))=I9 (oneOf w)∧j8 (b9 w e)=true∧(j8 (b9 w e)=true→(allO (b9 w e).map (b9 w e).stores).length≤9∧R4 (allO (b9 w e).map (b9 w e).stores)=true) :=
 ⟨(a3B h e).1,(a3B h e).2,b1m (a3B h e).1⟩
section
variable {o:One} {k:Nat}
theorem c5D (h:I3 o=true) (hk:k<o.wlks.length):IntKind.i64.wrap (K6 o.wlks k+(nth .ow o.wlks k).wlk.j9)=K6 o.wlks (k+1):=by
 have h1:=b1q h k (by omega)
 have h2:=z5.1 (b6m h hk).1
 have h3:=b0j h
 rw[a6l]
 exact e8 (by omega) (by omega)
theorem a6j (h:I3 o=true) (hk:k<o.ground.length):0≤K6 o.wlks o.wlks.length+O5 o k∧K6 o.wlks o.wlks.length+O5 o k≤1000000 ∧
  (@LE.le Int _ 0 (nth .int o.ground k) ∧ @LE.le Int _ (nth .int o.ground k) 900)∧(nth .ints o.air k).length=2∧(@LE.le Int _ 0 (nth .int (nth .ints o.air k) 0) ∧ @LE.le Int _ (nth .int (nth .ints o.air k) 0) 100000) ∧ @LE.le Int _ 0 (nth .int (nth .ints o.air k) 1) ∧ @LE.le Int _ (nth .int (nth .ints o.air k) 1) 100000:=by
 have hh:=O9.1 (U0.1 h).1
 have hp:=o8.1 hh.1
 have h1:=b1q h o.wlks.length (Nat.le_refl _)
 have h2:=c0j h k (by omega)
 have h3:=b0j h
 have h4:=b4n h (k:=k) (by omega)
 exact⟨by omega,by omega,h4.1,h4.2.1,h4.2.2.1,h4.2.2.2⟩
theorem d3N (h:I3 o=true) (hk:k<o.ground.length):IntKind.i64.wrap (K6 o.wlks o.wlks.length+O5 o k+IntKind.i64.wrap (IntKind.i64.wrap (nth .int o.ground k+nth .int (nth .ints o.air k) 0)+nth .int (nth .ints o.air k) 1))=K6 o.wlks o.wlks.length+O5 o (k+1):=by
 obtain⟨a1,a2,⟨a3,a4⟩,_,⟨a5,a6⟩,a7,a8⟩:=a6j h hk
 have e1:IntKind.i64.wrap (nth .int o.ground k+nth .int (nth .ints o.air k) 0)=nth .int o.ground k+nth .int (nth .ints o.air k) 0:=e8 (by omega) (by omega)
 rw[e1]
 have e2:IntKind.i64.wrap (nth .int o.ground k+nth .int (nth .ints o.air k) 0+nth .int (nth .ints o.air k) 1)=nth .int o.ground k+nth .int (nth .ints o.air k) 0+nth .int (nth .ints o.air k) 1:=e8 (by omega) (by omega)
 rw[e2,a3N]
 have e3:IntKind.i64.wrap (K6 o.wlks o.wlks.length+O5 o k+(nth .int o.ground k+nth .int (nth .ints o.air k) 0+nth .int (nth .ints o.air k) 1))=K6 o.wlks o.wlks.length+O5 o k+(nth .int o.ground k+nth .int (nth .ints o.air k) 0+nth .int (nth .ints o.air k) 1):=e8 (by omega) (by omega)
 rw[e3]
 exact Int.add_assoc _ _ _
theorem d3O (h:I3 o=true) (hk:k<o.ground.length):IntKind.i64.wrap (IntKind.i64.wrap (IntKind.i64.wrap (K6 o.wlks o.wlks.length+O5 o k+nth .int o.ground k)+nth .int (nth .ints o.air k) 0)+nth .int (nth .ints o.air k) 1)=K6 o.wlks o.wlks.length+O5 o (k+1):=by
 obtain⟨a1,a2,⟨a3,a4⟩,_,⟨a5,a6⟩,a7,a8⟩:=a6j h hk
 have e1:IntKind.i64.wrap (K6 o.wlks o.wlks.length+O5 o k+nth .int o.ground k)=K6 o.wlks o.wlks.length+O5 o k+nth .int o.ground k:=e8 (by omega) (by omega)
 rw[e1]
 have e2:IntKind.i64.wrap (K6 o.wlks o.wlks.length+O5 o k+nth .int o.ground k+nth .int (nth .ints o.air k) 0)=K6 o.wlks o.wlks.length+O5 o k+nth .int o.ground k+nth .int (nth .ints o.air k) 0:=e8 (by omega) (by omega)
 rw[e2,a3N]
 have e3:IntKind.i64.wrap (K6 o.wlks o.wlks.length+O5 o k+nth .int o.ground k+nth .int (nth .ints o.air k) 0+nth .int (nth .ints o.air k) 1)=K6 o.wlks o.wlks.length+O5 o k+nth .int o.ground k+nth .int (nth .ints o.air k) 0+nth .int (nth .ints o.air k) 1:=e8 (by omega) (by omega)
 rw[e3]
 have : ∀a b c d e:Int,a+b+c+d+e=a+(b+(c+d+e)):=fun a b c d e=>by omega
 exact this _ _ _ _ _
theorem b8X (h:I3 o=true):o.ground.length=o.air.length∧(o.ground.length:Int)=o.map.cells∧o.wlks.length≤9∧o.ground.length≤4:=by
 have hh:=O9.1 (U0.1 h).1
 have hp:=o8.1 hh.1
 exact⟨by omega,hh.2.1,b0j h,by omega⟩
theorem b4X (h:I3 o=true) (hk:k=o.ground.length):K6 o.wlks o.wlks.length+O5 o k=I9 o:=by
 subst hk
 unfold I9
 rw[if_pos h]
theorem c0A (h:I3 o=false):0=I9 o:=by
 unfold I9
 rw[if_neg (by simp[h])]
theorem b4g (h:I3 o=true) (hk:k<o.ground.length):(nth .ints o.air k).length=2:=(a6j h hk).2.2.2.1
end
def a7Q (l:List OW) (k:Nat):List Int:=(l.take k).map oid
theorem c2s (l:List OW):a7Q l 0 = []:=rfl
theorem c2t {l:List OW} {k:Nat} (h:k<l.length):a7Q l (k+1)=a7Q l k ++ [(nth .ow l k).wlk.id]:=by
 unfold a7Q
 rw[J6 .ow l k h,List.map_append]
 rfl
theorem c7L {l:List OW} {k:Nat} (h:k=l.length):a7Q l k=l.map oid:=by subst h;simp[a7Q]
theorem c7K (l:List OW) (k:Nat):(a7Q l k).length≤k:=by simp[a7Q];omega
end Go.Mo
