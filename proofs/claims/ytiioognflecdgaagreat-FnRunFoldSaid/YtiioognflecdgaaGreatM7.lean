/-
  Plain laws of the one world: an order keeps it ok, and its n0; so does who comes, and what falls.
-/
import Derived.Test.YtiioognflecdgaaGreatM6
import Derived.Test.YtiioognflecdgaaGreatM3
import Derived.Test.YtiioognflecdgaaGreatM5
set_option linter.unusedVariables false
set_option linter.unusedSimpArgs false
namespace Go.Mo
open Go.Sx
structure OkOne (m:PMap) (ws:List OW) (g:List Int) (a:List (List Int)):Prop where
 plc:p7 m=true
 gl:(g.length:Int)=m.cells
 al:(a.length:Int)=m.cells
 b2v : ∀i,i<g.length → @LE.le Int _ 0 (nth .int g i) ∧ @LE.le Int _ (nth .int g i) 900∧(nth .ints a i).length=2 ∧ @LE.le Int _ 0 (nth .int (nth .ints a i) 0) ∧ @LE.le Int _ (nth .int (nth .ints a i) 0) 100000 ∧ @LE.le Int _ 0 (nth .int (nth .ints a i) 1) ∧ @LE.le Int _ (nth .int (nth .ints a i) 1) 100000
 ok : ∀i,i<ws.length→Q8 m (nth .ow ws i).wlk=true
 sort : ∀i,i<ws.length→i≠0→(nth .ow ws (i-1)).wlk.id<(nth .ow ws i).wlk.id
theorem b9f {o:One}:a2X o=true↔OkOne o.map o.wlks o.ground o.air:=by
 rw[a4h,a8b]
 unfold b4e
 rw[l6,l6]
 constructor
 ·rintro⟨⟨h1,h2,h3⟩,h4,h5⟩
  refine⟨h1,h2,h3,fun i hi => ?_,fun i hi => ?_,fun i hi h0 => ?_⟩
  ·have:=h4 i hi
   simp only[Mo.b2v,decide_eq_true_eq]at this
   exact this
  ·have:=h5 i hi
   simp only[owAt,Bool.and_eq_true]at this
   exact this.1
  ·have:=h5 i hi
   simp only[owAt,Bool.and_eq_true,Bool.or_eq_true,decide_eq_true_eq]at this
   exact this.2.resolve_left h0
 ·intro h
  refine⟨⟨h.plc,h.gl,h.al⟩,fun i hi => ?_,fun i hi => ?_⟩
  ·have:=h.b2v i hi
   simp only[Mo.b2v,decide_eq_true_eq]
   exact this
  ·have h1:=h.ok i hi
   simp only[owAt,Bool.and_eq_true,Bool.or_eq_true,decide_eq_true_eq]
   refine⟨h1,?_⟩
   by_cases h0:i=0
   ·exact .inl h0
   ·exact .inr (h.sort i hi h0)
def owC (x:OW):Int:=x.wlk.n0
def airC (l:List Int):Int:=nth .int l 0+nth .int l 1
def idI (n:Int):Int:=n
def b4n (ws:List OW) (g:List Int) (a:List (List Int)):Int:=sumL owC ws+sumL idI g+sumL airC a
theorem c3y (l:List OW):a9S l l.length=sumL owC l:=by
 have : ∀k,k≤l.length→a9S l k=sumK owC l k:=fun k=>by
  induction k with
  |zero=>intro _;rw[b8Z,a6T]
  |succ k ih =>
   intro hk
   rw[b9a,ih (by omega),a6U .ow owC (show k<l.length by omega)]
   rfl
 rw[this _ (Nat.le_refl _),a8Z _ rfl]
theorem c4S {o:One} (h:o.air.length=o.ground.length):b0N o o.ground.length=sumL idI o.ground+sumL airC o.air:=by
 have : ∀k,k≤o.ground.length→b0N o k=sumK idI o.ground k+sumK airC o.air k:=fun k=>by
  induction k with
  |zero=>intro _;rw[b9W,a6T,a6T];rfl
  |succ k ih =>
   intro hk
   rw[b9X,ih (by omega),a6U .int idI (show k<o.ground.length by omega),a6U .ints airC (show k<o.air.length by omega)]
   unfold idI airC
   generalize (nth .int o.ground k:Int)=a
   generalize (nth .int (nth .ints o.air k) 0:Int)=b
   generalize (nth .int (nth .ints o.air k) 1:Int)=c
   show sumK idI o.ground k+sumK airC o.air k+(a+b+c)=sumK idI o.ground k+a+(sumK airC o.air k+(b+c))
   omega
 rw[this _ (Nat.le_refl _),a8Z _ rfl,a8Z _ h.symm]
theorem b3c {o:One} (h:a2X o=true):a6d o=b4n o.wlks o.ground o.air:=by
 have hk:=b9f.1 h
 have hl:o.air.length=o.ground.length:=by have:=hk.gl;have:=hk.al;omega
 unfold a6d b4n
 rw[if_pos h,c3y,c4S hl]
 omega
structure KeepC (o x:One):Prop where
 ok:a2X x=true
 tot:b4n x.wlks x.ground x.air=b4n o.wlks o.ground o.air
 map:x.map=o.map
theorem KeepC.n0 {o x:One} (ho:a2X o=true) (h:KeepC o x):a6d x=a6d o:=by rw[b3c ho,b3c h.ok,h.tot]
def J3 (w:Wld) (l:List Evt):Wld:=l.foldl m0 w
def J2 (w:Wld) (l:List Evt) (k:Nat):Wld:=J3 w (l.take k)
theorem a2B {w:Wld} {l:List Evt} {k:Nat} (h:k<l.length):J2 w l (k+1)=m0 (J2 w l k) (nth .evt l k):=by
 unfold J2 J3
 rw[List.take_succ_eq_append_getElem h,List.foldl_append,l7 .evt l k h]
 rfl
theorem a7X {w:Wld} {l:List Evt} {k:Nat} (h:l.length≤k):J2 w l k=J3 w l:=by
 unfold J2
 rw[List.take_of_length_le h]
def From (w:Wld):Prop := ∃l w0,Beg l w0∧Ran w0 w
theorem b7R {w:Wld} (h:From w):Inv (fun _=>0) w:=by
 obtain⟨l,w0,h0,hr⟩:=h
 have hw:=d1q h0
 have hf:b1Z w0.rows=fun _=>0:=funext fun who=>d1o h0 who
 rw[hf]at hw
 exact c9V hw hr
theorem c2c {w:Wld} (h:From w):j6 w=true:=(b7R h).ok
def c7Y (w:Wld) (k j:Nat):Hld:=nth .hld (nth .srv w.servers k).holds j
structure Alone (w:Wld) (A:List Int) (k j:Nat):Prop where
 len:A.length=w.stores.length
 one : ∀c,c<w.stores.length→(@Eq Int (nth .int A c) 0 ∨ @Eq Int (nth .int A c) 1)∧(@Eq Int (nth .int A c) 1 → ∃k' j',(k'<k∨k'=k∧j'<j)∧k'<w.servers.length∧j'<(nth .srv w.servers k').holds.length∧(c7Y w k' j').state.cell=(c:Int)∧(c7Y w k' j').age=(nth .sto w.stores c).age)
end Go.Mo
namespace Go.Sx
def a9L (kv kb:Nat):List Prep := [⟨.cell kv 2,some kb,.srv⟩,⟨.cell kv 3,some (kb+1),.sto⟩,⟨.cell kv 4,some (kb+2),.int⟩,⟨.cell kv 5,some (kb+3),.int⟩,⟨.cell kv 6,some (kb+4),.row⟩,⟨.cell kv 7,some (kb+5),.msg⟩,⟨.cell kv 8,some (kb+6),.note⟩]
def St.ownW (σ : St) (kv kb:Nat) (w:Th Wld):St :=
 (((((((((((((((σ.v5 kv 0 (.att (.int .i64 fun _=>(w ()).map.cells))).v5 kv 1 (.att (.int .i64 fun _=>(w ()).map.width))).v5 kv 2 (.own kb 1)).v5 kv 3 (.own (kb+1) 1)).v5 kv 4 (.own (kb+2) 1)).v5 kv 5 (.own (kb+3) 1)).v5 kv 6 (.own (kb+4) 1)).v5 kv 7 (.own (kb+5) 1)).v5 kv 8 (.own (kb+6) 1)).row kb 1 .srv (fun _=>(w ()).servers)).row (kb+1) 1 .sto (fun _=>(w ()).stores)).row (kb+2) 1 .int (fun _=>(w ()).table.servers)).row (kb+3) 1 .int (fun _=>(w ()).table.ages)).row (kb+4) 1 .row (fun _=>(w ()).rows)).row (kb+5) 1 .msg (fun _=>(w ()).net)).row (kb+6) 1 .note (fun _=>(w ()).notes)
def St.b2K (σ : St) (k:Nat):Nat→St
 | 0 => σ
 |n+1=>(σ.h k (1,.dead)).b2K (k+1) n
def V6 (σ : St) (kv kb:Nat):Th Wld:=a4F (asI (σ.ce kv 0)) (asI (σ.ce kv 1)) (σ.rowL .srv kb) (σ.rowL .sto (kb+1)) (σ.rowL .int (kb+2)) (σ.rowL .int (kb+3)) (σ.rowL .row (kb+4)) (σ.rowL .msg (kb+5)) (σ.rowL .note (kb+6))
end Go.Sx
namespace Go.Mo
open Go.Sx
section
variable {m:PMap} {st:List Sto} {i s j k:Nat}
theorem a9f (l:List OW) (x:OW):B2 (l ++ [x])=putO (B2 l) x:=by simp[B2,List.foldl_append]
theorem b1Y (l:List OW):(B2 l).length=l.length:=(X8 l).length_eq
end
def got (m:PMap) (st:List Sto) (i s j:Nat) (c u:Int):Int :=
 if c<(i:Int)∨c=(i:Int)∧u<(s:Int)then sumC (fl m st c u)else if c=(i:Int)∧u=(s:Int)then sumC ((fl m st c u).take j)else 0
section
variable {m:PMap} {st:List Sto} {i s j k:Nat}
end
end Go.Mo
namespace Go.Sx
end Go.Sx
namespace Go.Mo
open Go.Sx
def OLe (l:List OW):Prop:=l.Pairwise fun a b=>a.wlk.id≤b.wlk.id
theorem c9X {l:List OW} {w:OW} (h:OLe l):OLe (putO l w):=by
 induction l with
 |nil=>simp[putO,OLe]
 |cons y l ih =>
  obtain⟨hy,hl⟩:=List.pairwise_cons.1 h
  by_cases hh:y.wlk.id≤w.wlk.id
  ·have e:putO (y::l) w=y::putO l w:=by simp[putO,ahO,hh]
   rw[e]
   refine List.pairwise_cons.2 ⟨fun x hx => ?_,ih hl⟩
   rcases List.mem_cons.1 ((a4e l w).mem_iff.1 hx)with rfl|hx
   ·exact hh
   ·exact hy x hx
  ·have e:putO (y::l) w=w::y::l:=by simp[putO,ahO,hh]
   rw[e]
   refine List.pairwise_cons.2 ⟨fun x hx => ?_,h⟩
   rcases List.mem_cons.1 hx with rfl|hx
   ·omega
   ·have:=hy x hx
    omega
theorem b7S : ∀(l a:List OW),OLe a→OLe (l.foldl putO a)
 |[],_,h=>h
 |x::l,a,h=>b7S l (putO a x) (c9X h)
theorem b5L (l:List OW):OLe (B2 l):=b7S l [] (by simp[OLe])
def swp (l:List OW) (i j:Nat):List OW:=(B2 (l.take i)).take j++nth .ow l i::(B2 (l.take i)).drop j++l.drop (i+1)
def srtd (l:List OW) (i:Nat):List OW:=B2 (l.take i)++l.drop i
def gtr (l:List OW) (i j:Nat):Bool:=((B2 (l.take i)).drop j).all fun x=>decide ((nth .ow l i).wlk.id<x.wlk.id)
section
variable {l:List OW} {i j:Nat}
theorem F7 (h:i≤l.length):(B2 (l.take i)).length=i:=by
 rw[b1Y,List.length_take]
 omega
theorem c6b (h:l.length≤i):srtd l i=B2 l:=by simp[srtd,List.take_of_length_le h,List.drop_eq_nil_of_le h]
theorem b5K (h:i≤l.length):(srtd l i).length=l.length:=by
 unfold srtd
 rw[List.length_append,F7 h,List.length_drop]
 omega
theorem c9F (h:i<l.length) (hj:j≤i):(swp l i j).length=l.length:=by
 have:=F7 (l:=l) (i:=i) (by omega)
 simp only[swp,List.length_append,List.length_cons,List.length_take,List.length_drop,this]
 omega
theorem c0G (h:i<l.length):swp l i i=srtd l i:=by
 have:=F7 (l:=l) (i:=i) (by omega)
 unfold swp srtd
 rw[List.take_of_length_le (by omega),List.drop_eq_nil_of_le (by omega),List.drop_eq_getElem_cons h,l7 .ow l i h]
 simp
theorem d0Y (h:i<l.length):gtr l i i=true:=by
 have:=F7 (l:=l) (i:=i) (by omega)
 unfold gtr
 rw[List.drop_eq_nil_of_le (by omega)]
 rfl
theorem c5Q:swp l i j=(B2 (l.take i)).take j++(nth .ow l i::((B2 (l.take i)).drop j++l.drop (i+1))):=by simp[swp]
theorem b5w (h:i<l.length) (hj:j≤i):nth .ow (swp l i j) j=nth .ow l i:=by
 have hl:=F7 (l:=l) (i:=i) (by omega)
 have hk:((B2 (l.take i)).take j).length=j:=by rw[List.length_take];omega
 rw[c5Q]
 generalize (B2 (l.take i)).take j=P at *
 subst hk
 simp[nth,List.getD]
theorem b1Q (h:i<l.length) (hj:j<i):nth .ow (swp l i (j+1)) j=nth .ow (B2 (l.take i)) j:=by
 have hl:=F7 (l:=l) (i:=i) (by omega)
 have hjl:j<(B2 (l.take i)).length:=by omega
 rw[c5Q]
 unfold nth
 rw[List.getD_eq_getElem?_getD,List.getD_eq_getElem?_getD,List.getElem?_append_left (by rw[List.length_take];omega),List.getElem?_take]
 simp
theorem c5P (h:i<l.length) (hj:j<i):((swp l i (j+1)).set (j+1) (nth .ow (swp l i (j+1)) j)).set j (nth .ow l i)=swp l i j:=by
 have hl:=F7 (l:=l) (i:=i) (by omega)
 rw[b1Q h hj]
 have hjl:j<(B2 (l.take i)).length:=by omega
 unfold swp
 have e1:(B2 (l.take i)).take (j+1)=(B2 (l.take i)).take j ++ [nth .ow (B2 (l.take i)) j]:=a0y .ow _ j hjl
 have e2:(B2 (l.take i)).drop j=nth .ow (B2 (l.take i)) j::(B2 (l.take i)).drop (j+1):=by rw[l7 .ow _ j hjl];exact List.drop_eq_getElem_cons hjl
 rw[e1,e2]
 have hk:((B2 (l.take i)).take j).length=j:=by rw[List.length_take];omega
 generalize (B2 (l.take i)).take j=P at *
 generalize (B2 (l.take i)).drop (j+1)=Q at *
 subst hk
 simp[List.set_append]
theorem c8h (h:i<l.length) (hj:j<i) (hg:gtr l i (j+1)=true) (hx:(nth .ow l i).wlk.id<(nth .ow (B2 (l.take i)) j).wlk.id):gtr l i j=true:=by
 have hl:=F7 (l:=l) (i:=i) (by omega)
 have hjl:j<(B2 (l.take i)).length:=by omega
 unfold gtr at hg ⊢
 rw[List.drop_eq_getElem_cons hjl,List.all_cons,hg,←l7 .ow _ j hjl]
 simp[hx]
end
end Go.Mo
namespace Go.Mo
open Go.Sx
theorem c3v {x w:OW} {l:List OW} (h:ahO w x=true):putO (x::l) w=x::putO l w:=by simp[putO,h]
theorem b6x {w:OW} : ∀ {l:List OW},l.all (ahO w)=true→putO l w=l ++ [w]
 |[],_=>rfl
 |x::l,h=>by
  rw[List.all_cons,Bool.and_eq_true]at h
  rw[c3v h.1,b6x h.2]
  rfl
section
variable {l:List OW} {w:OW} {k:Nat}
end
end Go.Mo
