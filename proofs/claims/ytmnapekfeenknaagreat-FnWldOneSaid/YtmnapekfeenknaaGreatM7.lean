/-
  Plain laws of the whole: what is so of every world that comes of one at its beginning.
-/
import Derived.Test.YtmnapekfeenknaaGreatM6
set_option linter.unusedVariables false
set_option linter.unusedSimpArgs false
namespace Go.Mo
open Go.Sx
structure Whole (L:List Int) (f:Int→Int) (w:Wld):Prop where
 inv:Inv f w
 pl:Pl L w.map w.stores
 once:Once w
theorem Whole.one {L:List Int} {f:Int→Int} {w:Wld} (hL:L.Nodup) (h:Whole L f w):OneInv w.map w.stores:=b5m h.inv.ok h.inv.mail hL h.pl
theorem a5y {n:Nat} {p:Wlk→Int} : ∀ {l:List Wlk},(∀x∈l,0≤p x∧(p x).toNat<n)→((List.range n).flatMap fun(c:Nat)=>l.filter fun x=>decide (p x=(c:Int))).Perm l
 |[],_=>by
  have:((List.range n).flatMap fun(c:Nat)=>([]:List Wlk).filter fun x=>decide (p x=(c:Int))) = []:=by simp
  rw[this]
 |x::l,h=>by
  have ih:=a5y (n:=n) (p:=p) (l:=l) fun y hy=>h y (List.mem_cons_of_mem _ hy)
  obtain⟨h0,h1⟩:=h x List.mem_cons_self
  obtain⟨R,a1,a2⟩:=b7S (L:=List.range n) List.nodup_range (List.mem_range.2 h1) (f:=fun(c:Nat)=>l.filter fun y=>decide (p y=(c:Int))) (f':=fun(c:Nat)=>(x::l).filter fun y=>decide (p y=(c:Int))) (fun c hc hne=>by
   show(x::l).filter _=l.filter _
   rw[List.filter_cons_of_neg]
   simp only[decide_eq_true_eq]
   omega)
  refine a2.trans ?_
  have e:(x::l).filter (fun y=>decide (p y=(((p x).toNat:Nat):Int)))=x::l.filter (fun y=>decide (p y=(((p x).toNat:Nat):Int))):=by
   rw[List.filter_cons_of_pos]
   simp only[decide_eq_true_eq]
   omega
  show((x::l).filter (fun y=>decide (p y=(((p x).toNat:Nat):Int)))++R).Perm (x::l)
  rw[e]
  exact(a1.symm.trans ih).cons x
theorem a7h {m:PMap} {l:List Wlk} (h:x7 m l=true):(l.map fun w=>w.id).Pairwise (· < ·):=List.pairwise_map.2 ((b6G l).1 (a6L h))
theorem b5G {m:PMap} {l:List Wlk} (h:x7 m l=true):(l.map fun w=>w.id).Nodup:=(a7h h).imp fun hab=>by omega
structure OkOne (m:PMap) (ws:List OW) (g:List Int) (a:List (List Int)):Prop where
 plc:o9 m=true
 gl:(g.length:Int)=m.cells
 al:(a.length:Int)=m.cells
 U8 : ∀i,i<g.length → @LE.le Int _ 0 (nth .int g i) ∧ @LE.le Int _ (nth .int g i) 900∧(nth .ints a i).length=2 ∧ @LE.le Int _ 0 (nth .int (nth .ints a i) 0) ∧ @LE.le Int _ (nth .int (nth .ints a i) 0) 100000 ∧ @LE.le Int _ 0 (nth .int (nth .ints a i) 1) ∧ @LE.le Int _ (nth .int (nth .ints a i) 1) 100000
 ok : ∀i,i<ws.length→S3 m (nth .ow ws i).wlk=true
 sort : ∀i,i<ws.length→i≠0→(nth .ow ws (i-1)).wlk.id<(nth .ow ws i).wlk.id
theorem V1 {o:One}:r6 o=true↔OkOne o.map o.wlks o.ground o.air:=by
 rw[S8,N0]
 unfold a1u
 rw[l8,l8]
 constructor
 ·rintro⟨⟨h1,h2,h3⟩,h4,h5⟩
  refine⟨h1,h2,h3,fun i hi => ?_,fun i hi => ?_,fun i hi h0 => ?_⟩
  ·have:=h4 i hi
   simp only[Mo.U8,decide_eq_true_eq]at this
   exact this
  ·have:=h5 i hi
   simp only[owAt,Bool.and_eq_true]at this
   exact this.1
  ·have:=h5 i hi
   simp only[owAt,Bool.and_eq_true,Bool.or_eq_true,decide_eq_true_eq]at this
   exact this.2.resolve_left h0
 ·intro h
  refine⟨⟨h.plc,h.gl,h.al⟩,fun i hi => ?_,fun i hi => ?_⟩
  ·have:=h.U8 i hi
   simp only[Mo.U8,decide_eq_true_eq]
   exact this
  ·have h1:=h.ok i hi
   simp only[owAt,Bool.and_eq_true,Bool.or_eq_true,decide_eq_true_eq]
   refine⟨h1,?_⟩
   by_cases h0:i=0
   ·exact .inl h0
   ·exact .inr (h.sort i hi h0)
theorem OkOne.setW {m:PMap} {ws:List OW} {g:List Int} {a:List (List Int)} (h:OkOne m ws g a) {k:Nat} {y:OW} (hk:k<ws.length) (hid:y.wlk.id=(nth .ow ws k).wlk.id) (hok:S3 m y.wlk=true):OkOne m (ws.set k y) g a:=by
 have hids : ∀i,(nth .ow (ws.set k y) i).wlk.id=(nth .ow ws i).wlk.id:=fun i=>by
  rw[C3 .ow hk]
  split
  ·rename_i e;rw[e,hid]
  ·rfl
 refine⟨h.plc,h.gl,h.al,h.U8,fun i hi => ?_,fun i hi h0 => ?_⟩
 ·rw[C3 .ow hk]
  split
  ·exact hok
  ·exact h.ok i (by simpa using hi)
 ·rw[hids,hids]
  exact h.sort i (by simpa using hi) h0
theorem OkOne.setG {m:PMap} {ws:List OW} {g:List Int} {a:List (List Int)} (h:OkOne m ws g a) {c:Nat} {x:Int} (hc:c<g.length) (h0:0≤x) (h1:x≤900):OkOne m ws (g.set c x) a:=by
 refine⟨h.plc,by rw[List.length_set];exact h.gl,h.al,fun i hi => ?_,h.ok,h.sort⟩
 have:=h.U8 i (by simpa using hi)
 refine⟨?_,?_,this.2.2⟩
 ·rw[C3 .int hc]
  split
  ·exact h0
  ·exact this.1
 ·rw[C3 .int hc]
  split
  ·exact h1
  ·exact this.2.1
theorem OkOne.setA {m:PMap} {ws:List OW} {g:List Int} {a:List (List Int)} (h:OkOne m ws g a) {c s:Int} {x:Int} (hc0:0≤c) (hc:c<m.cells) (hs:s=0∨s=1) (h0:0≤x) (h1:x≤100000):OkOne m ws g (a.set c.toNat ((nth .ints a c.toNat).set s.toNat x)):=by
 have hca:c.toNat<a.length:=by have:=h.al;omega
 refine⟨h.plc,h.gl,by rw[List.length_set];exact h.al,fun i hi => ?_,h.ok,h.sort⟩
 have hp:=h.U8 i hi
 by_cases he:i=c.toNat
 ·subst he
  have e : @Eq (List Int) (nth .ints (a.set c.toNat ((nth .ints a c.toNat).set s.toNat x)) c.toNat) ((nth .ints a c.toNat).set s.toNat x):=j9 .ints hca
  rw[e]
  obtain⟨p1,p2,p3,p4,p5,p6,p7⟩:=hp
  refine⟨p1,p2,by rw[List.length_set];exact p3,?_⟩
  rcases hs with rfl|rfl
  ·have e0 : @Eq Int (nth .int ((nth .ints a c.toNat).set (0:Int).toNat x) 0) x:=j9 .int (by show 0<_;omega)
   have e1 : @Eq Int (nth .int ((nth .ints a c.toNat).set (0:Int).toNat x) 1) (nth .int (nth .ints a c.toNat) 1):=m5 .int (by decide)
   rw[e0,e1]
   exact⟨h0,h1,p6,p7⟩
  ·have e1 : @Eq Int (nth .int ((nth .ints a c.toNat).set (1:Int).toNat x) 1) x:=j9 .int (by show 1<_;omega)
   have e0 : @Eq Int (nth .int ((nth .ints a c.toNat).set (1:Int).toNat x) 0) (nth .int (nth .ints a c.toNat) 0):=m5 .int (by decide)
   rw[e0,e1]
   exact⟨p4,p5,h0,h1⟩
 ·have e : @Eq (List Int) (nth .ints (a.set c.toNat ((nth .ints a c.toNat).set s.toNat x)) i) (nth .ints a i):=m5 .ints (fun q=>he q.symm)
  rw[e]
  exact hp
def owC (x:OW):Int:=x.wlk.j8
def airC (l:List Int):Int:=nth .int l 0+nth .int l 1
def idI (n:Int):Int:=n
def a2Y (ws:List OW) (g:List Int) (a:List (List Int)):Int:=sumL owC ws+sumL idI g+sumL airC a
theorem c7L (l:List OW):L8 l l.length=sumL owC l:=by
 have : ∀k,k≤l.length→L8 l k=sumK owC l k:=fun k=>by
  induction k with
  |zero=>intro _;rw[a6V,a9k]
  |succ k ih =>
   intro hk
   rw[a6W,ih (by omega),a9l .ow owC (show k<l.length by omega)]
   rfl
 rw[this _ (Nat.le_refl _),b1z _ rfl]
theorem c9g {o:One} (h:o.air.length=o.ground.length):Q4 o o.ground.length=sumL idI o.ground+sumL airC o.air:=by
 have : ∀k,k≤o.ground.length→Q4 o k=sumK idI o.ground k+sumK airC o.air k:=fun k=>by
  induction k with
  |zero=>intro _;rw[a7m,a9k,a9k];rfl
  |succ k ih =>
   intro hk
   rw[a4x,ih (by omega),a9l .int idI (show k<o.ground.length by omega),a9l .ints airC (show k<o.air.length by omega)]
   unfold idI airC
   generalize (nth .int o.ground k:Int)=a
   generalize (nth .int (nth .ints o.air k) 0:Int)=b
   generalize (nth .int (nth .ints o.air k) 1:Int)=c
   show sumK idI o.ground k+sumK airC o.air k+(a+b+c)=sumK idI o.ground k+a+(sumK airC o.air k+(b+c))
   omega
 rw[this _ (Nat.le_refl _),b1z _ rfl,b1z _ h.symm]
theorem a6p {o:One} (h:r6 o=true):D5 o=a2Y o.wlks o.ground o.air:=by
 have hk:=V1.1 h
 have hl:o.air.length=o.ground.length:=by have:=hk.gl;have:=hk.al;omega
 unfold D5 a2Y
 rw[if_pos h,c7L,c9g hl]
 omega
theorem c6P {a:List (List Int)} {c:Nat} {s x:Int} (hc:c<a.length) (h2:(nth .ints a c).length=2) (hs:s=0∨s=1):sumL airC (a.set c ((nth .ints a c).set s.toNat x))=sumL airC a+(x-nth .int (nth .ints a c) s.toNat):=by
 rw[a1g .ints airC hc]
 have:airC ((nth .ints a c).set s.toNat x)=airC (nth .ints a c)+(x-nth .int (nth .ints a c) s.toNat):=by
  unfold airC
  rcases hs with rfl|rfl
  ·have e0 : @Eq Int (nth .int ((nth .ints a c).set (0:Int).toNat x) 0) x:=j9 .int (by show 0<_;omega)
   have e1 : @Eq Int (nth .int ((nth .ints a c).set (0:Int).toNat x) 1) (nth .int (nth .ints a c) 1):=m5 .int (by decide)
   rw[e0,e1]
   have arith : ∀p q:Int,x+q=p+q+(x-p):=fun p q=>by omega
   exact arith _ _
  ·have e1 : @Eq Int (nth .int ((nth .ints a c).set (1:Int).toNat x) 1) x:=j9 .int (by show 1<_;omega)
   have e0 : @Eq Int (nth .int ((nth .ints a c).set (1:Int).toNat x) 0) (nth .int (nth .ints a c) 0):=m5 .int (by decide)
   rw[e0,e1]
   have arith : ∀p q:Int,p+x=p+q+(x-q):=fun p q=>by omega
   exact arith _ _
 rw[this]
 have arith : ∀S p q:Int,S-p+(p+(x-q))=S+(x-q):=fun S p q=>by omega
 exact arith _ _ _
structure KeepC (o x:One):Prop where
 ok:r6 x=true
 tot:a2Y x.wlks x.ground x.air=a2Y o.wlks o.ground o.air
 map:x.map=o.map
theorem KeepC.j8 {o x:One} (ho:r6 o=true) (h:KeepC o x):D5 x=D5 o:=by rw[a6p ho,a6p h.ok,h.tot]
theorem a4l {o:One} {r:Ord} (ho:r6 o=true) (hr:y9 r=true):KeepC o (s4 o r).o:=by
 have hk:=V1.1 ho
 have self:KeepC o o:=⟨ho,rfl,rfl⟩
 have hord:=G6.1 hr
 unfold s4
 simp only
 split
 ·exact self
 rename_i g0
 have g0:=Classical.not_not.1 g0
 split
 ·exact self
 rename_i g1
 split
 ·exact self
 rename_i g2
 have hlt:=V0 o.wlks r.who
 have hid:=a1w g0.1
 have hkl:(b8 o.wlks r.who).toNat<o.wlks.length:=by omega
 have hw:=s8.1 (hk.ok _ hkl)
 generalize hK:(b8 o.wlks r.who).toNat=k at *
 generalize hX:nth .ow o.wlks k=x at *
 have hxw:nth .ow o.wlks k=x:=hX
 have hcell:=C9 hw.2.2.1
 have hcl:0≤e8 o.map x.wlk.pos∧e8 o.map x.wlk.pos<o.map.cells:=by
  have q5:=n6.1 hcell.1
  rw[hcell.2.2.2]
  exact⟨Int.ediv_nonneg hcell.2.1 (by omega),Int.ediv_lt_of_lt_mul (by omega) hcell.2.2.1⟩
 have hgl:(e8 o.map x.wlk.pos).toNat<o.ground.length:=by have:=hk.gl;omega
 have hpu:=hk.U8 _ hgl
 have fin : ∀(w:Wlk) (here:Bool) (g:List Int) (a:List (List Int)) (code:Int),w.id=x.wlk.id→S3 o.map ⟨w.id,w.pos,w.j8,r.seq,code⟩=true→OkOne o.map o.wlks g a→w.j8-x.wlk.j8+sumL idI g+sumL airC a=sumL idI o.ground+sumL airC o.air →
   KeepC o (oFin o k w r.seq here g a code).o:=fun w here g a code hwid hwok hga ht=>by
  refine⟨V1.2 (hga.setW hkl (by rw[hxw];exact hwid) hwok),?_,rfl⟩
  unfold a2Y
  show sumL owC (o.wlks.set k _)+sumL idI g+sumL airC a=_
  rw[a1g .ow owC hkl,hxw]
  show sumL owC o.wlks-x.wlk.j8+w.j8+sumL idI g+sumL airC a=sumL owC o.wlks+sumL idI o.ground+sumL airC o.air
  omega
 have fin0 : ∀(here:Bool) (code:Int),0≤code→code≤9→KeepC o (oFin o k x.wlk r.seq here o.ground o.air code).o:=fun here code c0 c1=>by
  refine fin x.wlk here o.ground o.air code rfl ?_ hk (by omega)
  rw[s8]
  exact⟨hw.1,hw.2.1,hw.2.2.1,hw.2.2.2.1,hw.2.2.2.2.1,by show 0≤r.seq;omega,by show r.seq≤900;omega,c0,c1⟩
 unfold a3H
 split
 ·unfold b0B
  split
  ·exact fin0 _ _ (by decide) (by decide)
  ·rename_i q
   refine fin _ _ _ _ _ rfl ?_ hk (by show x.wlk.j8-x.wlk.j8+_+_=_;omega)
   rw[s8]
   exact⟨hw.1,hw.2.1,q,hw.2.2.2.1,hw.2.2.2.2.1,by show 0≤r.seq;omega,by show r.seq≤900;omega,by show(0:Int)≤1;decide,by show(1:Int)≤9;decide⟩
 split
 ·rename_i k1 k2
  unfold a8u
  simp only
  split
  ·exact fin0 _ _ (by decide) (by decide)
  split
  ·exact fin0 _ _ (by decide) (by decide)
  split
  ·exact fin0 _ _ (by decide) (by decide)
  rename_i q1 q2 q3
  have hj:=Classical.not_not.1 q1
  have hjl:=V0 o.wlks r.dest
  have hjid:=a1w hj.1
  have hjk:(b8 o.wlks r.dest).toNat≠k:=fun e=>by
   rw[e,hxw,hid]at hjid
   exact a0l hr k2 hjid.symm
  have hjl2:(b8 o.wlks r.dest).toNat<o.wlks.length:=by omega
  have hv:=s8.1 (hk.ok _ hjl2)
  generalize hV:nth .ow o.wlks (b8 o.wlks r.dest).toNat=v at *
  have h1:=hk.setW hkl (y:=⟨⟨x.wlk.id,x.wlk.pos,x.wlk.j8-r.n,r.seq,1⟩,true⟩) (by rw[hxw]) (by
   rw[s8]
   exact⟨hw.1,hw.2.1,hw.2.2.1,by show 0≤x.wlk.j8-r.n;omega,by show x.wlk.j8-r.n≤99;omega,by show 0≤r.seq;omega,by show r.seq≤900;omega,by show(0:Int)≤1;decide,by show(1:Int)≤9;decide⟩)
  have hjl3:(b8 o.wlks r.dest).toNat<(o.wlks.set k ⟨⟨x.wlk.id,x.wlk.pos,x.wlk.j8-r.n,r.seq,1⟩,true⟩).length:=by simpa using hjl2
  have hnv:nth .ow (o.wlks.set k ⟨⟨x.wlk.id,x.wlk.pos,x.wlk.j8-r.n,r.seq,1⟩,true⟩) (b8 o.wlks r.dest).toNat=v:=by rw[m5 .ow (fun e=>hjk e.symm),hV]
  have h2:=h1.setW hjl3 (y:=⟨⟨v.wlk.id,v.wlk.pos,v.wlk.j8+r.n,v.wlk.seq,v.wlk.last⟩,v.here⟩) (by rw[hnv]) (by
   rw[s8]
   exact⟨hv.1,hv.2.1,hv.2.2.1,by show 0≤v.wlk.j8+r.n;omega,by show v.wlk.j8+r.n≤99;omega,hv.2.2.2.2.2⟩)
  refine⟨V1.2 h2,?_,rfl⟩
  unfold a2Y
  show sumL owC ((o.wlks.set k _).set (b8 o.wlks r.dest).toNat _)+sumL idI o.ground+sumL airC o.air=_
  rw[a1g .ow owC hjl3,hnv,a1g .ow owC hkl,hxw]
  show sumL owC o.wlks-x.wlk.j8+(x.wlk.j8-r.n)-v.wlk.j8+(v.wlk.j8+r.n)+sumL idI o.ground+sumL airC o.air=sumL owC o.wlks+sumL idI o.ground+sumL airC o.air
  omega
 split
 ·unfold b0D
  simp only
  split
  ·exact fin0 _ _ (by decide) (by decide)
  split
  ·exact fin0 _ _ (by decide) (by decide)
  rename_i q1 q2
  refine fin _ _ _ _ _ rfl ?_ (hk.setG hgl (Int.add_nonneg hpu.1 (by omega)) (Int.not_lt.1 q2)) ?_
  ·rw[s8]
   exact⟨hw.1,hw.2.1,hw.2.2.1,by show 0≤x.wlk.j8-r.n;omega,by show x.wlk.j8-r.n≤99;omega,by show 0≤r.seq;omega,by show r.seq≤900;omega,by show(0:Int)≤1;decide,by show(1:Int)≤9;decide⟩
  ·rw[a1g .int idI hgl]
   show x.wlk.j8-r.n-x.wlk.j8+(sumL idI o.ground-(nth .int o.ground (e8 o.map x.wlk.pos).toNat:Int)+((nth .int o.ground (e8 o.map x.wlk.pos).toNat:Int)+r.n))+sumL airC o.air=_
   generalize (nth .int o.ground (e8 o.map x.wlk.pos).toNat:Int)=p
   omega
 split
 ·unfold b0C
  simp only
  split
  ·exact fin0 _ _ (by decide) (by decide)
  split
  ·exact fin0 _ _ (by decide) (by decide)
  rename_i q1 q2
  refine fin _ _ _ _ _ rfl ?_ (hk.setG hgl (Int.sub_nonneg.2 (Int.not_lt.1 q1)) (Int.le_trans (Int.sub_le_self _ (by omega)) hpu.2.1)) ?_
  ·rw[s8]
   exact⟨hw.1,hw.2.1,hw.2.2.1,by show 0≤x.wlk.j8+r.n;omega,by show x.wlk.j8+r.n≤99;omega,by show 0≤r.seq;omega,by show r.seq≤900;omega,by show(0:Int)≤1;decide,by show(1:Int)≤9;decide⟩
  ·rw[a1g .int idI hgl]
   show x.wlk.j8+r.n-x.wlk.j8+(sumL idI o.ground-(nth .int o.ground (e8 o.map x.wlk.pos).toNat:Int)+((nth .int o.ground (e8 o.map x.wlk.pos).toNat:Int)-r.n))+sumL airC o.air=_
   generalize (nth .int o.ground (e8 o.map x.wlk.pos).toNat:Int)=p
   omega
 split
 ·unfold a5p
  simp only
  split
  ·exact fin0 _ _ (by decide) (by decide)
  rename_i q0
  split
  ·exact fin0 _ _ (by decide) (by decide)
  split
  ·exact fin0 _ _ (by decide) (by decide)
  rename_i q1 q2
  have he:b7 o.map (e8 o.map x.wlk.pos) r.dest ≠ -1:=by
   have q0:B4 o.map x.wlk.pos r.dest=true:=by simpa using q0
   unfold B4 at q0
   simp only[decide_eq_true_eq]at q0
   exact q0.1
  have hb:=v7 he
  have hal:(b7 o.map (e8 o.map x.wlk.pos) r.dest).toNat<o.air.length:=by have:=hk.al;omega
  have hpa:=hk.U8 (b7 o.map (e8 o.map x.wlk.pos) r.dest).toNat (by have:=hk.gl;omega)
  have hs:1-r.dest=0∨1-r.dest=1:=by omega
  have hnn : @LE.le Int _ 0 (nth .int (nth .ints o.air (b7 o.map (e8 o.map x.wlk.pos) r.dest).toNat) (1-r.dest).toNat):=by
   rcases hs with e|e<;>rw[e]
   ·exact hpa.2.2.2.1
   ·exact hpa.2.2.2.2.2.1
  refine fin _ _ _ _ _ rfl ?_ (hk.setA hb.2.2.2.2.1 hb.2.2.2.2.2.1 hs (Int.add_nonneg hnn (by omega)) (Int.not_lt.1 q2)) ?_
  ·rw[s8]
   exact⟨hw.1,hw.2.1,hw.2.2.1,by show 0≤x.wlk.j8-r.n;omega,by show x.wlk.j8-r.n≤99;omega,by show 0≤r.seq;omega,by show r.seq≤900;omega,by show(0:Int)≤1;decide,by show(1:Int)≤9;decide⟩
  ·unfold M5
   rw[c6P hal hpa.2.2.1 hs]
   generalize (nth .int (nth .ints o.air (b7 o.map (e8 o.map x.wlk.pos) r.dest).toNat) (1-r.dest).toNat:Int)=p
   show x.wlk.j8-r.n-x.wlk.j8+sumL idI o.ground+(sumL airC o.air+(p+r.n-p))=_
   omega
 exact fin0 _ _ (by decide) (by decide)
theorem a8j {o:One} {id:Int} (ho:r6 o=true):KeepC o (B8 o id):=by
 have hk:=V1.1 ho
 unfold B8
 split
 ·have hlt:=V0 o.wlks id
  have hkl:(b8 o.wlks id).toNat<o.wlks.length:=by omega
  refine⟨V1.2 (hk.setW hkl rfl (hk.ok _ hkl)),?_,rfl⟩
  unfold a2Y
  show sumL owC (o.wlks.set (b8 o.wlks id).toNat _)+sumL idI o.ground+sumL airC o.air=_
  rw[a1g .ow owC hkl]
  show sumL owC o.wlks-(nth .ow o.wlks (b8 o.wlks id).toNat).wlk.j8+(nth .ow o.wlks (b8 o.wlks id).toNat).wlk.j8+sumL idI o.ground+sumL airC o.air=sumL owC o.wlks+sumL idI o.ground+sumL airC o.air
  omega
 ·exact⟨ho,rfl,rfl⟩
theorem a8k {o:One} {c s n:Int} (ho:r6 o=true):KeepC o (Y0 o c s n):=by
 have hk:=V1.1 ho
 unfold Y0
 split
 ·rename_i h
  obtain⟨c0,c1,hs,n1,n2,n3⟩:=h
  have hgl:c.toNat<o.ground.length:=by have:=hk.gl;omega
  have hal:c.toNat<o.air.length:=by have:=hk.al;omega
  have hp:=hk.U8 _ hgl
  have hle : @LE.le Int _ (nth .int (nth .ints o.air c.toNat) s.toNat) 100000:=by
   rcases hs with rfl|rfl
   ·exact hp.2.2.2.2.1
   ·exact hp.2.2.2.2.2.2
  refine⟨V1.2 ((hk.setG hgl (Int.add_nonneg hp.1 (by omega)) n3).setA c0 c1 hs (Int.sub_nonneg.2 n2) (Int.le_trans (Int.sub_le_self _ (by omega)) hle)),?_,rfl⟩
  unfold a2Y
  simp only
  rw[c6P hal hp.2.2.1 hs,a1g .int idI hgl]
  generalize (nth .int (nth .ints o.air c.toNat) s.toNat:Int)=p
  show sumL owC o.wlks+(sumL idI o.ground-(nth .int o.ground c.toNat:Int)+((nth .int o.ground c.toNat:Int)+n))+(sumL airC o.air+(p-n-p))=_
  generalize (nth .int o.ground c.toNat:Int)=q
  omega
 ·exact⟨ho,rfl,rfl⟩
def From (w:Wld):Prop := ∃l w0,Beg l w0∧Ran w0 w
def d3e (w:Wld) (k j:Nat):Hld:=nth .hld (nth .srv w.servers k).holds j
structure Alone (w:Wld) (A:List Int) (k j:Nat):Prop where
 len:A.length=w.stores.length
 one : ∀c,c<w.stores.length→(@Eq Int (nth .int A c) 0 ∨ @Eq Int (nth .int A c) 1)∧(@Eq Int (nth .int A c) 1 → ∃k' j',(k'<k∨k'=k∧j'<j)∧k'<w.servers.length∧j'<(nth .srv w.servers k').holds.length∧(d3e w k' j').state.cell=(c:Int)∧(d3e w k' j').age=(nth .sto w.stores c).age)
theorem b8H {w:Wld} {e:Evt} (h:m8 w=false):m4 w e=⟨⟨0,0⟩,[],[],⟨[],[]⟩,[],[],[]⟩:=by simp[m4,h,R4]
theorem c4o (n:Nat) (k:Int) (h:0<k):0≤(n:Int).tmod k∧(n:Int).tmod k<k:=by
 rw[Int.tmod_eq_emod_of_nonneg (by omega)]
 exact⟨Int.emod_nonneg _ (by omega),Int.emod_lt_of_pos _ h⟩
section
variable {w:Wld} {i j k n:Int}
theorem a5X (h:m8 w=true):o9 w.map=true∧2≤w.map.cells∧w.map.cells≤4∧(w.stores.length:Int)=w.map.cells:=by
 have h1:=a3n (q9.1 h).2.1
 have h2:=n6.1 h1.2
 exact⟨h1.2,by omega,by omega,h1.1⟩
theorem a0m (h:m8 w=true) (h0:0≤i) (h1:i<w.map.cells):E4 w.map (nth .sto w.stores i.toNat)=cX w.map w.stores i∧(cX w.map w.stores i).cell=i∧s5 w.map (cX w.map w.stores i)=true∧(cX w.map w.stores i).wlks.length≤9 ∧
  (cX w.map w.stores i).outs.length=2∧(cX w.map w.stores i).ins.length=2:=by
 obtain⟨_,h3,h4⟩:=a1q h h0 h1
 have hk:s5 w.map (cX w.map w.stores i)=true:=a1Z h3
 have hf:=o7 hk
 refine⟨?_,?_,hk,Z7 hk,hf.2.2.2.2.2.2.1,hf.2.2.2.2.2.2.2.2⟩
 ·have:B2 w.map (nth .sto w.stores i.toNat)=true:=h3
  unfold E4
  rw[if_pos this]
  rfl
 ·unfold cX
  rw[a0N,h4.1]
theorem d7W (h:m8 w=true) (h0:0≤i) (h1:i<w.map.cells):E4 w.map (nth .sto w.stores i.toNat)=cX w.map w.stores i:=(a0m h h0 h1).1
theorem d7X (h:m8 w=true) (h0:0≤i) (h1:i<w.map.cells):(cX w.map w.stores i).cell=i:=(a0m h h0 h1).2.1
theorem b9R (h:m8 w=true) (h0:0≤i) (h1:i<w.map.cells):(cX w.map w.stores i).outs.length=2:=(a0m h h0 h1).2.2.2.2.1
theorem b7l (h:m8 w=true) (h0:0≤i) (h1:i<w.map.cells):(cX w.map w.stores i).ins.length=2:=(a0m h h0 h1).2.2.2.2.2
theorem a8i (h:m8 w=true) (h0:0≤i) (h1:i<w.map.cells):(cX w.map w.stores i).wlks.length≤9:=(a0m h h0 h1).2.2.2.1
theorem a5Y (h:m8 w=true) : ∀c:Int,0≤c→c<w.map.cells→s5 w.map (cX w.map w.stores c)=true:=fun _ h0 h1=>(a0m h h0 h1).2.2.1
theorem c2f {m:PMap} {st:List Sto} (h0:0≤i) (h1:i<n):nth .cll (O3 m st n.toNat) i.toNat=cX m st i:=by
 rw[b6D (by omega),show((i.toNat:Nat):Int)=i by omega]
theorem c2k (h:m8 w=true) (h0:0<i) (h1:i<w.map.cells):b7 w.map i 0=i-1:=by
 unfold b7
 rw[if_pos ⟨(a5X h).1,by omega,h1⟩,if_pos ⟨rfl,h0⟩]
theorem c2j (h:m8 w=true) (h0:0≤i) (h1:i+1<w.map.cells):b7 w.map i 1=i+1:=by
 unfold b7
 rw[if_pos ⟨(a5X h).1,h0,by omega⟩,if_neg (by omega),if_pos ⟨rfl,h1⟩]
theorem d5d (h : ¬0<i):b7 w.map i 0 = -1:=by
 unfold b7
 split
 ·rw[if_neg (by omega),if_neg (by omega)]
 ·rfl
theorem d5c (h1 : ¬i+1<w.map.cells):b7 w.map i 1 = -1:=by
 unfold b7
 split
 ·rw[if_neg (by omega),if_neg (by omega)]
 ·rfl
theorem fl_l (h:m8 w=true) (h0:0<i) (h1:i<w.map.cells):A3 (nth .pcls (cX w.map w.stores i).outs 0) (nth .int (cX w.map w.stores (i-1)).ins 1)=fl w.map w.stores i 0:=by
 unfold fl
 rw[c2k h h0 h1,if_neg (by omega)]
 rfl
theorem fl_r (h:m8 w=true) (h0:0≤i) (h1:i+1<w.map.cells):A3 (nth .pcls (cX w.map w.stores i).outs 1) (nth .int (cX w.map w.stores (i+1)).ins 0)=fl w.map w.stores i 1:=by
 unfold fl
 rw[c2j h h0 h1,if_neg (by omega)]
 rfl
theorem d9c (h : ¬0<i):fl w.map w.stores i 0 = []:=by
 unfold fl
 rw[d5d h,if_pos rfl]
theorem d9b (h : ¬i+1<w.map.cells):fl w.map w.stores i 1 = []:=by
 unfold fl
 rw[d5c h,if_pos rfl]
theorem a9V (h:m8 w=true) (c s:Int):(fl w.map w.stores c s).length≤5000:=(d3A (a5Y h) c s).1
theorem c3F (h:m8 w=true) {c s:Int} (h0:0≤j) (h1:j<((fl w.map w.stores c s).length:Int)):J8 w.map (nth .pcl (fl w.map w.stores c s) j.toNat)=true:=(d3A (a5Y h) c s).2 _ (s0 .pcl (by omega))
theorem d4H {m:PMap} {st:List Sto} (h0:0≤i) (hk0:0≤k) (hk:k<((cX m st i).wlks.length:Int)):putO (n4 (accH m st i.toNat k.toNat)) ⟨nth .wlk (cX m st i).wlks k.toNat,true⟩=n4 (accH m st i.toNat (k+1).toNat):=by
 have hi:((i.toNat:Nat):Int)=i:=by omega
 rw[show(k+1).toNat=k.toNat+1 by omega,b6l (by rw[hi];omega),a0O,hi]
theorem c9U {m:PMap} {st:List Sto} (h0:0≤i) (hk:k≤((cX m st i).wlks.length:Int)) (hk2 : ¬k<((cX m st i).wlks.length:Int)):n4 (accH m st i.toNat k.toNat)=n4 (accH m st (i+1).toNat 0):=by
 have hi:((i.toNat:Nat):Int)=i:=by omega
 rw[show(i+1).toNat=i.toNat+1 by omega,c1M (by rw[hi];omega)]
theorem b1D {m:PMap} {st:List Sto} (h0:0≤i):O3 m st i.toNat ++ [cX m st i]=O3 m st (i+1).toNat:=by
 have hi:((i.toNat:Nat):Int)=i:=by omega
 rw[show(i+1).toNat=i.toNat+1 by omega,b4g,hi]
theorem b3e {m:PMap} {st:List Sto} (h0:0≤i):V8 m st i.toNat ++ [(cX m st i).ground]=V8 m st (i+1).toNat:=by
 have hi:((i.toNat:Nat):Int)=i:=by omega
 rw[show(i+1).toNat=i.toNat+1 by omega,b4t,hi]
theorem c1G (h0:0≤i):airZ i.toNat ++ [[0,0]]=airZ (i+1).toNat:=by
 rw[show(i+1).toNat=i.toNat+1 by omega,c9M]
theorem b2Y (h:m8 w=true) : ∀k:Nat,(k:Int)≤w.map.cells→(a3b w.map w.stores k).length≤9 * k
 | 0,_=>by simp[a3b]
 |k+1,hk=>by
  rw[b0M,List.length_append]
  have h1:=b2Y h k (by omega)
  have h2:=a8i h (i:=(k:Int)) (by omega) (by omega)
  simp only[y7,List.length_map]
  omega
theorem a5x (l:List Pcl):(flyO l).length≤l.length:=by
 simp only[flyO,List.length_map]
 exact List.length_filter_le _ _
theorem b5T (h:m8 w=true) : ∀k:Nat,(a8O w.map w.stores k).length≤10000 * k
 | 0=>by simp[a8O]
 |k+1=>by
  rw[b3n,List.length_append]
  have h1:=b5T h k
  have h2:=a5x (fl w.map w.stores (k:Int) 0)
  have h3:=a5x (fl w.map w.stores (k:Int) 1)
  have h4:=a9V h (k:Int) 0
  have h5:=a9V h (k:Int) 1
  simp only[flyE,List.length_append]
  omega
theorem c1K (h:m8 w=true) (h0:0≤i) (h1:i<w.map.cells):(n4 (accH w.map w.stores i.toNat k.toNat)).length≤100000:=by
 have hm:=a5X h
 have h2:=b2Y h i.toNat (by omega)
 have h3:=a8i h h0 h1
 rw[a1K]
 simp only[accH,y7,List.length_append,List.length_map,List.length_take]
 rw[show((i.toNat:Nat):Int)=i by omega]
 omega
theorem b3Z (h:m8 w=true) (h0:0≤i) (h1:i≤w.map.cells) (s j:Nat):(n4 (accF w.map w.stores i.toNat s j)).length≤100000:=by
 have hm:=a5X h
 have h2:=b2Y h w.map.cells.toNat (by omega)
 have h3:=b5T h i.toNat
 have h4:=a5x ((fl w.map w.stores (i.toNat:Int) 0).take j)
 have h5:=a5x ((fl w.map w.stores (i.toNat:Int) 1).take j)
 have h6:=a5x (fl w.map w.stores (i.toNat:Int) 0)
 have h7:=a9V h (i.toNat:Int) 0
 have h8:=a9V h (i.toNat:Int) 1
 rw[List.length_take]at h4 h5
 rw[a1K]
 simp only[accF,List.length_append]
 split
 ·omega
 ·rw[List.length_append];omega
theorem d8P (h0 : ¬i<w.map.cells) (h1:i≤w.map.cells):n4 (accH w.map w.stores i.toNat 0)=n4 (accF w.map w.stores 0 0 0):=by
 rw[show i=w.map.cells by omega,c1L]
theorem d4C (h0 : ¬i<w.map.cells) (h1:i≤w.map.cells):airZ i.toNat=airA w.map w.stores 0 0 0:=by
 rw[show i=w.map.cells by omega,c9N]
theorem c9Y {m:PMap} {st:List Sto} (h0:0≤i) (hj0:0≤j) (hj:j<((fl m st i 0).length:Int)) (hk:(nth .pcl (fl m st i 0) j.toNat).kind=1):putO (n4 (accF m st i.toNat 0 j.toNat)) ⟨(nth .pcl (fl m st i 0) j.toNat).wlk,false⟩=n4 (accF m st i.toNat 0 (j+1).toNat):=by
 have hi:((i.toNat:Nat):Int)=i:=by omega
 have := @b3Y m st i.toNat 0 j.toNat (by omega) (by rw[hi];exact(by omega:j.toNat<(fl m st i 0).length)) (by rw[hi];exact hk)
 rw[show(j+1).toNat=j.toNat+1 by omega,this,a0O,hi]
 rfl
theorem c9X {m:PMap} {st:List Sto} (h0:0≤i) (hj0:0≤j) (hj:j<((fl m st i 1).length:Int)) (hk:(nth .pcl (fl m st i 1) j.toNat).kind=1):putO (n4 (accF m st i.toNat 1 j.toNat)) ⟨(nth .pcl (fl m st i 1) j.toNat).wlk,false⟩=n4 (accF m st i.toNat 1 (j+1).toNat):=by
 have hi:((i.toNat:Nat):Int)=i:=by omega
 have := @b3Y m st i.toNat 1 j.toNat (by omega) (by rw[hi];exact(by omega:j.toNat<(fl m st i 1).length)) (by rw[hi];exact hk)
 rw[show(j+1).toNat=j.toNat+1 by omega,this,a0O,hi]
 rfl
theorem c9Q {m:PMap} {st:List Sto} (h0:0≤i) (hj0:0≤j) (hj:j<((fl m st i 0).length:Int)) (hk:(nth .pcl (fl m st i 0) j.toNat).kind=1):airA m st i.toNat 0 j.toNat=airA m st i.toNat 0 (j+1).toNat:=by
 have hi:((i.toNat:Nat):Int)=i:=by omega
 rw[show(j+1).toNat=j.toNat+1 by omega]
 exact(@b3T m st i.toNat 0 j.toNat (by omega) (by rw[hi];exact(by omega:j.toNat<(fl m st i 0).length)) (by rw[hi];exact hk)).symm
theorem c9P {m:PMap} {st:List Sto} (h0:0≤i) (hj0:0≤j) (hj:j<((fl m st i 1).length:Int)) (hk:(nth .pcl (fl m st i 1) j.toNat).kind=1):airA m st i.toNat 1 j.toNat=airA m st i.toNat 1 (j+1).toNat:=by
 have hi:((i.toNat:Nat):Int)=i:=by omega
 rw[show(j+1).toNat=j.toNat+1 by omega]
 exact(@b3T m st i.toNat 1 j.toNat (by omega) (by rw[hi];exact(by omega:j.toNat<(fl m st i 1).length)) (by rw[hi];exact hk)).symm
theorem c4g {m:PMap} {st:List Sto} (h0:0≤i) (hj0:0≤j) (hj:j<((fl m st i 0).length:Int)) (hk : ¬(nth .pcl (fl m st i 0) j.toNat).kind=1):n4 (accF m st i.toNat 0 j.toNat)=n4 (accF m st i.toNat 0 (j+1).toNat):=by
 have hi:((i.toNat:Nat):Int)=i:=by omega
 rw[show(j+1).toNat=j.toNat+1 by omega,@b0e m st i.toNat 0 j.toNat (by omega) (by rw[hi];exact(by omega:j.toNat<(fl m st i 0).length)) (by rw[hi];exact hk)]
theorem c4f {m:PMap} {st:List Sto} (h0:0≤i) (hj0:0≤j) (hj:j<((fl m st i 1).length:Int)) (hk : ¬(nth .pcl (fl m st i 1) j.toNat).kind=1):n4 (accF m st i.toNat 1 j.toNat)=n4 (accF m st i.toNat 1 (j+1).toNat):=by
 have hi:((i.toNat:Nat):Int)=i:=by omega
 rw[show(j+1).toNat=j.toNat+1 by omega,@b0e m st i.toNat 1 j.toNat (by omega) (by rw[hi];exact(by omega:j.toNat<(fl m st i 1).length)) (by rw[hi];exact hk)]
theorem c1H (h:m8 w=true) {d:Int} (h0:0≤d) (h1:d<w.map.cells) (a s b:Nat):(nth .ints (airA w.map w.stores a s b) d.toNat).length=2:=(b1p (a5Y h) (d:=d.toNat) (u:=0) (by omega) (by omega)).1
theorem c9S (h:m8 w=true) (h0:0<i) (h1:i<w.map.cells) (hj0:0≤j) (hj:j<((fl w.map w.stores i 0).length:Int)) (hk : ¬(nth .pcl (fl w.map w.stores i 0) j.toNat).kind=1) :
  (airA w.map w.stores i.toNat 0 j.toNat).set (i-1).toNat ((nth .ints (airA w.map w.stores i.toNat 0 j.toNat) (i-1).toNat).set 1 (IntKind.i64.wrap (nth .int (nth .ints (airA w.map w.stores i.toNat 0 j.toNat) (i-1).toNat) 1+(nth .pcl (fl w.map w.stores i 0) j.toNat).j8)))=airA w.map w.stores i.toNat 0 (j+1).toNat:=by
 have hi:((i.toNat:Nat):Int)=i:=by omega
 have hs:=c2k h h0 h1
 have hb:=(b1p (a5Y h) (i:=i.toNat) (s:=0) (j:=j.toNat) (d:=(i-1).toNat) (u:=1) (by omega) (by omega)).2
 have hb1 : @LE.le Int _ 0 (nth .int (nth .ints (airA w.map w.stores i.toNat 0 j.toNat) (i-1).toNat) 1):=hb.1
 have hb2 : @LE.le Int _ (nth .int (nth .ints (airA w.map w.stores i.toNat 0 j.toNat) (i-1).toNat) 1) 45000:=hb.2
 have hp:=J1.1 (c3F h hj0 hj)
 have := @b0c w.map w.stores i.toNat 0 j.toNat (by omega) (by rw[hi];exact(by rw[hs];omega:b7 w.map i 0 ≠ -1)) (by rw[hi];exact(by omega:j.toNat<(fl w.map w.stores i 0).length))
 rw[hi]at this
 have e:b7 w.map i ((0:Nat):Int)=i-1:=hs
 rw[e]at this
 rw[show(j+1).toNat=j.toNat+1 by omega,this]
 have hc:cC (nth .pcl (fl w.map w.stores i ((0:Nat):Int)) j.toNat)=(nth .pcl (fl w.map w.stores i 0) j.toNat).j8:=by
  show cC (nth .pcl (fl w.map w.stores i 0) j.toNat)=_
  unfold cC
  rw[if_neg hk]
 rw[hc,e9 (by omega) (by omega)]
 rfl
theorem c9R (h:m8 w=true) (h0:0≤i) (h1:i+1<w.map.cells) (hj0:0≤j) (hj:j<((fl w.map w.stores i 1).length:Int)) (hk : ¬(nth .pcl (fl w.map w.stores i 1) j.toNat).kind=1) :
  (airA w.map w.stores i.toNat 1 j.toNat).set (i+1).toNat ((nth .ints (airA w.map w.stores i.toNat 1 j.toNat) (i+1).toNat).set 0 (IntKind.i64.wrap (nth .int (nth .ints (airA w.map w.stores i.toNat 1 j.toNat) (i+1).toNat) 0+(nth .pcl (fl w.map w.stores i 1) j.toNat).j8)))=airA w.map w.stores i.toNat 1 (j+1).toNat:=by
 have hi:((i.toNat:Nat):Int)=i:=by omega
 have hs:=c2j h h0 h1
 have hb:=(b1p (a5Y h) (i:=i.toNat) (s:=1) (j:=j.toNat) (d:=(i+1).toNat) (u:=0) (by omega) (by omega)).2
 have hb1 : @LE.le Int _ 0 (nth .int (nth .ints (airA w.map w.stores i.toNat 1 j.toNat) (i+1).toNat) 0):=hb.1
 have hb2 : @LE.le Int _ (nth .int (nth .ints (airA w.map w.stores i.toNat 1 j.toNat) (i+1).toNat) 0) 45000:=hb.2
 have hp:=J1.1 (c3F h hj0 hj)
 have := @b0c w.map w.stores i.toNat 1 j.toNat (by omega) (by rw[hi];exact(by rw[hs];omega:b7 w.map i 1 ≠ -1)) (by rw[hi];exact(by omega:j.toNat<(fl w.map w.stores i 1).length))
 rw[hi]at this
 have e:b7 w.map i ((1:Nat):Int)=i+1:=hs
 rw[e]at this
 rw[show(j+1).toNat=j.toNat+1 by omega,this]
 have hc:cC (nth .pcl (fl w.map w.stores i ((1:Nat):Int)) j.toNat)=(nth .pcl (fl w.map w.stores i 1) j.toNat).j8:=by
  show cC (nth .pcl (fl w.map w.stores i 1) j.toNat)=_
  unfold cC
  rw[if_neg hk]
 rw[hc,e9 (by omega) (by omega)]
 rfl
theorem a5K (h0:0≤i) (hj:j≤((fl w.map w.stores i 0).length:Int)) (hj2 : ¬j<((fl w.map w.stores i 0).length:Int)):n4 (accF w.map w.stores i.toNat 0 j.toNat)=n4 (accF w.map w.stores i.toNat 1 0)∧airA w.map w.stores i.toNat 0 j.toNat=airA w.map w.stores i.toNat 1 0:=by
 have hi:((i.toNat:Nat):Int)=i:=by omega
 rw[b3X (by rw[hi];omega),b3S (by rw[hi];omega)]
 exact⟨rfl,rfl⟩
theorem b3V (h0:0≤i) (hj:j≤((fl w.map w.stores i 1).length:Int)) (hj2 : ¬j<((fl w.map w.stores i 1).length:Int)):n4 (accF w.map w.stores i.toNat 1 j.toNat)=n4 (accF w.map w.stores (i+1).toNat 0 0)∧airA w.map w.stores i.toNat 1 j.toNat=airA w.map w.stores (i+1).toNat 0 0:=by
 have hi:((i.toNat:Nat):Int)=i:=by omega
 rw[show(i+1).toNat=i.toNat+1 by omega,b3W (by rw[hi];omega),b3R (by rw[hi];omega)]
 exact⟨rfl,rfl⟩
theorem c1O (h0:0≤i) (h : ¬0<i):n4 (accF w.map w.stores i.toNat 0 0)=n4 (accF w.map w.stores i.toNat 1 0)∧airA w.map w.stores i.toNat 0 0=airA w.map w.stores i.toNat 1 0 :=
 a5K (j:=0) h0 (by omega) (by rw[d9c h];simp)
theorem c1N (h0:0≤i) (h : ¬i+1<w.map.cells):n4 (accF w.map w.stores i.toNat 1 0)=n4 (accF w.map w.stores (i+1).toNat 0 0)∧airA w.map w.stores i.toNat 1 0=airA w.map w.stores (i+1).toNat 0 0 :=
 b3V (j:=0) h0 (by omega) (by rw[d9b h];simp)
theorem c5u (h:m8 w=true) (h0 : ¬i<w.map.cells) (h1:i≤w.map.cells) (h2 : ¬n<w.map.cells) (h3:n≤w.map.cells):w.map.cells=(oneOf w).map.cells∧w.map.width=(oneOf w).map.width∧n4 (accF w.map w.stores i.toNat 0 0)=(oneOf w).wlks∧V8 w.map w.stores n.toNat=(oneOf w).ground∧airA w.map w.stores i.toNat 0 0=(oneOf w).air:=by
 rw[show i=w.map.cells by omega,show n=w.map.cells by omega,b4a,d4E]
 unfold oneOf
 rw[if_pos h]
 exact⟨rfl,rfl,rfl,rfl,rfl⟩
theorem c5t (h:m8 w=false):0=(oneOf w).map.cells∧0=(oneOf w).map.width ∧ []=(oneOf w).wlks ∧ []=(oneOf w).ground ∧ []=(oneOf w).air:=by
 unfold oneOf
 rw[if_neg (by simp[h])]
 exact⟨rfl,rfl,rfl,rfl,rfl⟩
end
end Go.Mo
