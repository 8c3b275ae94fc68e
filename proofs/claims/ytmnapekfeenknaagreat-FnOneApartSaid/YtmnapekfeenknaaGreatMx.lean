/- What some ends alone need. -/
import Derived.Test.YtmnapekfeenknaaGreatM1
import Derived.Test.YtmnapekfeenknaaGreatM2
import Derived.Test.YtmnapekfeenknaaGreatM3
import Derived.Test.YtmnapekfeenknaaGreatM4
import Derived.Test.YtmnapekfeenknaaGreatM5
import Derived.Test.YtmnapekfeenknaaGreatM6
import Derived.Test.YtmnapekfeenknaaGreatM7
import Derived.Test.YtmnapekfeenknaaGreatM8
set_option linter.unusedVariables false
set_option linter.unusedSimpArgs false
namespace Go.Mo
open Go.Sx
theorem d5e {a b:Row}:a=b↔a.who=b.who∧a.cell=b.cell∧a.busy=b.busy∧a.ord=b.ord∧a.seq=b.seq∧a.code=b.code:=by
 cases a;cases b;simp
theorem c5X {a b:Gst}:a=b↔a.src=b.src∧a.count=b.count∧a.wlk=b.wlk:=by
 cases a;cases b;simp
theorem d5V {a b:Msg}:a=b↔a.kind=b.kind∧a.dest=b.dest∧a.cell=b.cell∧a.side=b.side∧a.n=b.n∧a.ord=b.ord∧a.pcl=b.pcl∧a.gst=b.gst:=by
 cases a;cases b;simp
theorem d5q {m:PMap} {l:List OW} {k:Nat} (h:k<l.length) (hw:S3 m (nth .ow l k).wlk=false):m9 l.length (owAt m l)=false:=s7 h (by simp[owAt,hw])
theorem d5p {m:PMap} {l:List OW} {k:Nat} (h:k<l.length) (h0:0<k) (hw : ¬(nth .ow l (k-1)).wlk.id<(nth .ow l k).wlk.id):m9 l.length (owAt m l)=false:=s7 h (by simp[owAt,hw];omega)
def b2R (id:Int) (x:OW):Bool:=decide (x.wlk.id=id)&&x.here
def J9 (l:List OW) (id:Int):Int:=idx (b2R id) l
def nOwH (l:List OW) (id:Int) (j:Nat):Bool := !b2R id (nth .ow l j)
theorem d7M {l:List OW} {id:Int} {k:Nat} (h:m9 k (nOwH l id)=true) (hk:k<l.length) (hi:(nth .ow l k).wlk.id=id) (hh:(nth .ow l k).here=true):J9 l id=k:=by
 rw[k9 .ow l k hk]at hi hh
 refine a7g hk (by simp[b2R,hi,hh]) fun j hj => ?_
 have:=(l8 k _).1 h j hj
 simp only[nOwH,Bool.not_eq_true']at this
 rw[k9 .ow l j (by omega)]at this
 exact this
theorem d1l {l:List OW} {id:Int} {k:Nat} (h:m9 k (nOwH l id)=true) (hk:k=l.length):J9 l id = -1:=by
 subst hk
 refine a1l fun j hj => ?_
 have:=(l8 _ _).1 h j hj
 simp only[nOwH,Bool.not_eq_true']at this
 rw[k9 .ow l j hj]at this
 exact this
theorem a5j {o:One} (h:r6 o=true) : ∀ {i j:Nat},i<j→j<o.wlks.length→(nth .ow o.wlks i).wlk.id<(nth .ow o.wlks j).wlk.id:=by
 intro i j hij hj
 induction j with
 |zero=>omega
 |succ j ih =>
  have h1:=(a1E h hj).2 (by omega)
  simp only[Nat.add_sub_cancel]at h1
  by_cases he:i=j
  ·subst he;exact h1
  ·have:=ih (by omega) (by omega)
   omega
theorem d1n {o:One} (h:r6 o=true) (id:Int):J9 o.wlks id=if 0≤b8 o.wlks id∧(nth .ow o.wlks (b8 o.wlks id).toNat).here=true then b8 o.wlks id else -1:=by
 rcases C6 (b2R id) o.wlks with ⟨h1,h2⟩|⟨k,hk,h1,h2,h3⟩
 ·have e:J9 o.wlks id = -1:=h1
  rw[e]
  split
  ·rename_i hc
   exfalso
   have hlt:=V0 o.wlks id
   have hi:=a1w hc.1
   have:=h2 _ (s0 .ow (l:=o.wlks) (i:=(b8 o.wlks id).toNat) (by omega))
   simp[b2R,hi,hc.2]at this
  ·rfl
 ·have e:J9 o.wlks id=k:=h1
  rw[e]
  simp only[b2R,Bool.and_eq_true,decide_eq_true_eq]at h2
  have hp:b8 o.wlks id=k:=by
   have hn:(nth .ow o.wlks k).wlk.id=id:=by rw[k9 .ow _ k hk];exact h2.1
   refine b9L ((l8 _ _).2 fun j hj => ?_) hk hn
   have:=a5j h hj hk
   simp only[nOw,isOw,Bool.not_eq_true',decide_eq_false_iff_not]
   omega
  rw[hp,if_pos]
  refine⟨by omega,?_⟩
  rw[Int.toNat_natCast,k9 .ow _ k hk]
  exact h2.2
theorem b2i {o:One} (h:r6 o=true) : ∀k,k≤o.wlks.length→0≤L8 o.wlks k∧L8 o.wlks k≤99 * k
 | 0,_=>by simp[L8]
 |k+1,hk=>by
  have:=b2i h k (by omega)
  have hw:=s8.1 (a1E h (k:=k) (by omega)).1
  rw[a6W]
  omega
theorem c1f {o:One} (h:r6 o=true) : ∀k:Nat,(k:Int)≤o.map.cells→0≤Q4 o k∧Q4 o k≤200900 * k
 | 0,_=>by simp[Q4]
 |k+1,hk=>by
  have ih:=c1f h k (by omega)
  obtain⟨⟨a1,a2⟩,_,⟨a3,a4⟩,a5,a6⟩:=a9B h (k:=k) (by omega)
  rw[a4x]
  have : ∀g x y s:Int,0≤g→g≤900→0≤x→x≤100000→0≤y→y≤100000→0≤s∧s≤200900 * (k:Int)→0≤s+(g+x+y)∧s+(g+x+y)≤200900 * ((k+1:Nat):Int):=fun g x y s _ _ _ _ _ _ _=>by omega
  exact this _ _ _ _ a1 a2 a3 a4 a5 a6 ih
def begC (a b:Th Int) (l:Th (List Wlk)) (k q:Th Int) (p:Int):Th Prop:=fun _=>o9 ⟨a (),b ()⟩=true∧x7 ⟨a (),b ()⟩ (l ())=true∧0≤k ()∧k ()≤5∧p≤q ()∧q ()≤p+3+2 * (5-k ())
theorem d5W {x y:Int} (h1:0≤x) (h2:x<5) (h3:0≤y) (h4:y<60) : @LE.le Int _ (nth .int [0,10,20,40,y] x.toNat) 60:=by
 have:x=0∨x=1∨x=2∨x=3∨x=4:=by omega
 rcases this with rfl|rfl|rfl|rfl|rfl
 ·show(0:Int)≤60;decide
 ·show(10:Int)≤60;decide
 ·show(20:Int)≤60;decide
 ·show(40:Int)≤60;decide
 ·show y≤60
  omega
section
variable {m:PMap} {st st':List Sto} {d:Int} {r:Rec}
end
end Go.Mo
namespace Go.Mo
open Go.Sx
section
variable {m:PMap} {st:List Sto} {i s j k:Nat}
end
section
variable {m:PMap} {st:List Sto} {i s j k:Nat}
end
end Go.Mo
namespace Go.Mo
open Go.Sx
theorem d6J {w:Wld} (h:m8 w=true):(w.table.servers.length:Int)=w.map.cells∧(w.table.ages.length:Int)=w.map.cells∧2≤w.map.cells+2∧(w.servers.length:Int)≤3:=by
 have ha:=J4 (q9.1 h).1
 exact⟨ha.1,ha.2.1,by omega,ha.2.2.2.2⟩
section
variable {w:Wld} {i j k n:Int}
end
end Go.Mo
namespace Go.Mo
open Go.Sx
section
variable {l:List OW} {i j k:Nat}
end
section
variable {L R:List OW} {i j:Int}
variable {a b:Int}
end
section
variable {L R:List OW} {i j:Int}
end
section
variable {m:PMap} {st:List Sto} {w:Wld} {i s j:Int}
end
section
variable {m:PMap} {st:List Sto} {w:Wld} {i k s j:Int}
end
section
variable {w:Wld} {i k n s j a b:Int} {R:List OW}
end
end Go.Mo
namespace Go.Mo
open Go.Sx
section
variable {L:List Int} {w:Wld}
end
section
variable {o:One} {k:Nat}
theorem c6F (h:r6 o=true) (hk:k<o.wlks.length):IntKind.i64.wrap (L8 o.wlks k+(nth .ow o.wlks k).wlk.j8)=L8 o.wlks (k+1):=by
 have h1:=b2i h k (by omega)
 have h2:=s8.1 (a1E h hk).1
 have h3:=a4j h
 rw[a6W]
 exact e9 (by omega) (by omega)
theorem a6T (h:r6 o=true) (hk:k<o.ground.length):0≤L8 o.wlks o.wlks.length+Q4 o k∧L8 o.wlks o.wlks.length+Q4 o k≤1000000 ∧
  (@LE.le Int _ 0 (nth .int o.ground k) ∧ @LE.le Int _ (nth .int o.ground k) 900)∧(nth .ints o.air k).length=2∧(@LE.le Int _ 0 (nth .int (nth .ints o.air k) 0) ∧ @LE.le Int _ (nth .int (nth .ints o.air k) 0) 100000) ∧ @LE.le Int _ 0 (nth .int (nth .ints o.air k) 1) ∧ @LE.le Int _ (nth .int (nth .ints o.air k) 1) 100000:=by
 have hh:=N0.1 (S8.1 h).1
 have hp:=n6.1 hh.1
 have h1:=b2i h o.wlks.length (Nat.le_refl _)
 have h2:=c1f h k (by omega)
 have h3:=a4j h
 have h4:=a9B h (k:=k) (by omega)
 exact⟨by omega,by omega,h4.1,h4.2.1,h4.2.2.1,h4.2.2.2⟩
theorem d5k (h:r6 o=true) (hk:k<o.ground.length):IntKind.i64.wrap (L8 o.wlks o.wlks.length+Q4 o k+IntKind.i64.wrap (IntKind.i64.wrap (nth .int o.ground k+nth .int (nth .ints o.air k) 0)+nth .int (nth .ints o.air k) 1))=L8 o.wlks o.wlks.length+Q4 o (k+1):=by
 obtain⟨a1,a2,⟨a3,a4⟩,_,⟨a5,a6⟩,a7,a8⟩:=a6T h hk
 have e1:IntKind.i64.wrap (nth .int o.ground k+nth .int (nth .ints o.air k) 0)=nth .int o.ground k+nth .int (nth .ints o.air k) 0:=e9 (by omega) (by omega)
 rw[e1]
 have e2:IntKind.i64.wrap (nth .int o.ground k+nth .int (nth .ints o.air k) 0+nth .int (nth .ints o.air k) 1)=nth .int o.ground k+nth .int (nth .ints o.air k) 0+nth .int (nth .ints o.air k) 1:=e9 (by omega) (by omega)
 rw[e2,a4x]
 have e3:IntKind.i64.wrap (L8 o.wlks o.wlks.length+Q4 o k+(nth .int o.ground k+nth .int (nth .ints o.air k) 0+nth .int (nth .ints o.air k) 1))=L8 o.wlks o.wlks.length+Q4 o k+(nth .int o.ground k+nth .int (nth .ints o.air k) 0+nth .int (nth .ints o.air k) 1):=e9 (by omega) (by omega)
 rw[e3]
 exact Int.add_assoc _ _ _
theorem d5l (h:r6 o=true) (hk:k<o.ground.length):IntKind.i64.wrap (IntKind.i64.wrap (IntKind.i64.wrap (L8 o.wlks o.wlks.length+Q4 o k+nth .int o.ground k)+nth .int (nth .ints o.air k) 0)+nth .int (nth .ints o.air k) 1)=L8 o.wlks o.wlks.length+Q4 o (k+1):=by
 obtain⟨a1,a2,⟨a3,a4⟩,_,⟨a5,a6⟩,a7,a8⟩:=a6T h hk
 have e1:IntKind.i64.wrap (L8 o.wlks o.wlks.length+Q4 o k+nth .int o.ground k)=L8 o.wlks o.wlks.length+Q4 o k+nth .int o.ground k:=e9 (by omega) (by omega)
 rw[e1]
 have e2:IntKind.i64.wrap (L8 o.wlks o.wlks.length+Q4 o k+nth .int o.ground k+nth .int (nth .ints o.air k) 0)=L8 o.wlks o.wlks.length+Q4 o k+nth .int o.ground k+nth .int (nth .ints o.air k) 0:=e9 (by omega) (by omega)
 rw[e2,a4x]
 have e3:IntKind.i64.wrap (L8 o.wlks o.wlks.length+Q4 o k+nth .int o.ground k+nth .int (nth .ints o.air k) 0+nth .int (nth .ints o.air k) 1)=L8 o.wlks o.wlks.length+Q4 o k+nth .int o.ground k+nth .int (nth .ints o.air k) 0+nth .int (nth .ints o.air k) 1:=e9 (by omega) (by omega)
 rw[e3]
 have : ∀a b c d e:Int,a+b+c+d+e=a+(b+(c+d+e)):=fun a b c d e=>by omega
 exact this _ _ _ _ _
theorem b9S (h:r6 o=true):o.ground.length=o.air.length∧(o.ground.length:Int)=o.map.cells∧o.wlks.length≤9∧o.ground.length≤4:=by
 have hh:=N0.1 (S8.1 h).1
 have hp:=n6.1 hh.1
 exact⟨by omega,hh.2.1,a4j h,by omega⟩
theorem b6b (h:r6 o=true) (hk:k=o.ground.length):L8 o.wlks o.wlks.length+Q4 o k=D5 o:=by
 subst hk
 unfold D5
 rw[if_pos h]
theorem c1x (h:r6 o=false):0=D5 o:=by
 unfold D5
 rw[if_neg (by simp[h])]
theorem b5h (h:r6 o=true) (hk:k<o.ground.length):(nth .ints o.air k).length=2:=(a6T h hk).2.2.2.1
end
end Go.Mo
namespace Go.Mo
open Go.Sx
theorem d6G {l:List Wlk} {w:Wld} (h:BegL l w) {c:Int} (h0:0≤c) (h1:c<w.map.cells):cX w.map w.stores c=W8 w.map c l:=by
 have hr:=h.recs c h0 h1
 have hs:=(a1q h.ok h0 h1).2.1
 unfold cX
 rw[a3q hs,hr.1,hr.2]
 rfl
theorem d4u {m:PMap} {l:List Wlk} {v:Int} (h1:o9 m=true) (h4:x7 m l=true) (h2:1≤v) (h3:v≤3):BegL l (z5 m l v)∧(z5 m l v).map=m∧(z5 m l v).net = []∧(z5 m l v).notes = [] ∧
  (z5 m l v).table=a0G m:=by
 have hok:=a9f h1 h4 h2 h3
 have he:z5 m l v=M8 m l v:=by rw[z5,if_pos ⟨h1,h4,h2,h3⟩]
 rw[he]at hok ⊢
 refine⟨⟨hok,h4,fun c h0 hc => ?_⟩,rfl,rfl,rfl,rfl⟩
 have hi:c.toNat<m.cells.toNat:=by have:c<m.cells:=hc;omega
 have:stAt (M8 m l v).stores c=L3 m ((c.toNat:Nat):Int) l:=c5G hi
 rw[this,show((c.toNat:Nat):Int)=c by omega]
 exact⟨rfl,rfl⟩
theorem c5H {l:List Wlk} {w:Wld} (h:BegL l w):(allO w.map w.stores).Perm (y7 l):=by
 have hp:o9 w.map=true:=(D9.1 (q9.1 h.ok).2.1).1
 have hpi:=n6.1 hp
 have hcx : ∀c:Int,0≤c→c<w.map.cells→cX w.map w.stores c=⟨c,L9 w.map c l l.length,0,[[],[]],[0,0],[0,0]⟩:=fun c h0 h1=>by rw[d6G h h0 h1,a1U hp h0 h1 h.all]
 have hfl : ∀c s,fl w.map w.stores c s = []:=fun c s=>by
  unfold fl
  split
  ·rfl
  ·rename_i hs
   have hi:=D7 hs
   have:ouX w.map w.stores c s = []:=by
    unfold ouX
    rw[hcx c hi.1 hi.2.1]
    exact c5E _
   rw[this]
   rfl
 have e2:((a3f w.map).flatMap fun e=>flyO (fl w.map w.stores (e.1:Int) (e.2:Int))) = []:=by
  rw[List.flatMap_eq_nil_iff]
  intro e _
  rw[hfl]
  rfl
 have e1:((I9 w.map).flatMap fun(c:Nat)=>y7 (cX w.map w.stores (c:Int)).wlks)=y7 ((List.range w.map.cells.toNat).flatMap fun(c:Nat)=>l.filter fun x=>decide (e8 w.map x.pos=(c:Int))):=by
  unfold y7
  rw[List.map_flatMap]
  rw[List.flatMap_def,List.flatMap_def]
  congr 1
  refine List.map_congr_left fun c hc => ?_
  have hcn:c<w.map.cells.toNat:=List.mem_range.1 hc
  rw[hcx (c:Int) (by omega) (by omega)]
  simp only[L9,List.take_length]
  rfl
 unfold allO
 rw[e1,e2,List.append_nil]
 refine(a5y fun x hx => ?_).map _
 have hw:=s8.1 ((Y3.1 h.all).1 x hx)
 obtain⟨q1,q2,q3,q4⟩:=C9 hw.2.2.1
 have h1:e8 w.map x.pos<w.map.cells:=by
  rw[q4]
  exact Int.ediv_lt_of_lt_mul (by omega) q3
 have h0:0≤e8 w.map x.pos:=by
  rw[q4]
  exact Int.ediv_nonneg q2 (by omega)
 omega
theorem d5R {l:List Wlk} {w:Wld} (h:BegL l w):(oneOf w).wlks=y7 l∧(allO w.map w.stores).length≤9∧S5 (allO w.map w.stores)=true:=by
 have hp:=c5H h
 have hn:((allO w.map w.stores).map oid).Nodup:=by
  refine(hp.map oid).nodup_iff.2 ?_
  have:(y7 l).map oid=l.map fun w=>w.id:=by
   unfold y7
   rw[List.map_map]
   rfl
  rw[this]
  exact b5G h.all
 have hs:Z9 (y7 l):=by
  have:=a7h h.all
  unfold Z9 y7
  exact List.pairwise_map.2 (List.pairwise_map.1 this)
 have hl:l.length≤9:=b1b (a6L h.all) fun i hi=>by
  have:=s8.1 (a3l h.all hi)
  omega
 refine⟨?_,?_,?_⟩
 ·rw[a3D h.ok]
  show n4 (allO w.map w.stores)=y7 l
  exact b9O (L4 hn) hs ((C8 _).trans hp)
 ·rw[hp.length_eq]
  unfold y7
  rw[List.length_map]
  exact hl
 ·unfold S5
  rw[List.all_eq_true]
  intro x hx
  have hx:=hp.mem_iff.1 hx
  obtain⟨v,hv,rfl⟩:=List.mem_map.1 hx
  have:=s8.1 ((Y3.1 h.all).1 v hv)
  simp only[decide_eq_true_eq]
  exact⟨by omega,by omega⟩
section
variable {a b:List Sto} {k n:Nat}
end
end Go.Mo
namespace Go.Mo
open Go.Sx
def a7B (w:Wld) (c:Int):Bool:=decide (m8 w=true∧n7 w.table c ≠ -1∧z7 (nth .srv w.servers (n7 w.table c).toNat) c=true∧(j6 (nth .srv w.servers (n7 w.table c).toNat) c).age=nth .int w.table.ages c.toNat)
theorem c5V {w:Wld} {c:Int} (h:m8 w=true) (ha : ¬n7 w.table c = -1):(0≤n7 w.table c∧n7 w.table c<(w.servers.length:Int))∧0≤c∧c<(w.table.ages.length:Int):=by
 have h1:=(q9.1 h).1
 have h2:=d6J h
 unfold n7 at ha ⊢
 by_cases hc:0≤c∧c<(w.table.servers.length:Int)
 ·rw[if_pos hc]at ha ⊢
  have h3:=a7t h1 (k:=c.toNat) (by omega)
  obtain⟨h4,h5,_⟩:=h3
  have key : ∀s:Int,-1≤s→s≤(w.servers.length:Int)-1 → ¬s = -1→0≤s∧s<(w.servers.length:Int):=fun s a b c=>by omega
  exact⟨key _ h4 h5 ha,hc.1,by omega⟩
 ·rw[if_neg hc]at ha
  exact absurd rfl ha
theorem d5O (x:Int) (n k:Nat) (h:k<n):nth .int (List.replicate n x) k=x:=by
 show(List.replicate n x).getD k 0=x
 rw[List.getD_eq_getElem?_getD,List.getElem?_replicate,if_pos h]
 rfl
theorem d4w {m:PMap} (h:o9 m=true) (c:Int):n7 (a0G m) c = -1:=by
 unfold n7 a0G
 rw[if_pos h]
 split
 ·rename_i hc
  simp only[List.length_replicate]at hc
  exact d5O (-1) _ _ (by omega)
 ·rfl
theorem b1h {m:PMap} {l:List Wlk} {v:Int} (h : ¬(o9 m=true∧x7 m l=true∧1≤v∧v≤3)):z5 m l v=R4:=by rw[z5,if_neg h]
theorem d2y {m:PMap} {l:List Wlk} {v:Int} (h:o9 m=false):z5 m l v=R4:=b1h fun q=>by rw[h]at q;cases q.1
theorem d2x {m:PMap} {l:List Wlk} {v:Int} (h:x7 m l=false):z5 m l v=R4:=b1h fun q=>by rw[h]at q;cases q.2.1
theorem d2w {m:PMap} {l:List Wlk} {v:Int} (h:v<1):z5 m l v=R4:=b1h fun q=>by omega
theorem d2v {m:PMap} {l:List Wlk} {v:Int} (h:3<v):z5 m l v=R4:=b1h fun q=>by omega
theorem b5I (l:List Wlk):(y7 l).length=l.length:=by simp[y7]
theorem d3i {l:List Wlk} {i:Nat} (h:i<l.length):nth .ow (y7 l) i=⟨nth .wlk l i,true⟩:=by
 unfold nth y7
 rw[List.getD_eq_getElem?_getD,List.getD_eq_getElem?_getD,List.getElem?_map,List.getElem?_eq_getElem h]
 rfl
theorem d5T {m:PMap} {l:List Wlk} {v:Int} (h1:o9 m=true) (h2:x7 m l=true) (h3:1≤v) (h4:v≤3) :
  m8 (z5 m l v)=true∧((allO (z5 m l v).map (z5 m l v).stores).length≤9∧S5 (allO (z5 m l v).map (z5 m l v).stores)=true)∧(oneOf (z5 m l v)).wlks=y7 l ∧
  (z5 m l v).net = []∧(z5 m l v).notes = []∧(z5 m l v).table.ages=List.replicate m.cells.toNat 0∧a7B (z5 m l v) 0=false∧l.length≤9∧(0≤m.cells∧m.cells≤4):=by
 obtain⟨hb,hm,hn,ho,ht⟩:=d4u (v:=v) h1 h2 h3 h4
 have hk:=d5R hb
 have hp:=n6.1 h1
 have hl:l.length≤9:=by
  have:=hk.2.1
  rwa [(c5H hb).length_eq,b5I]at this
 refine⟨hb.ok,hk.2,hk.1,hn,ho,?_,?_,hl,by omega,by omega⟩
 ·rw[ht];unfold a0G;rw[if_pos h1]
 ·unfold a7B
  rw[ht,d4w h1]
  simp
theorem d5Q {m:PMap} {l:List Wlk} {v:Int} (h1:o9 m=true) (h2:x7 m l=true) (h3 : ¬v<1) (h4 : ¬3<v) :
  m8 (z5 m l v)=true∧((allO (z5 m l v).map (z5 m l v).stores).length≤9∧S5 (allO (z5 m l v).map (z5 m l v).stores)=true)∧(oneOf (z5 m l v)).wlks=y7 l ∧
  (z5 m l v).net = []∧(z5 m l v).notes = []∧(z5 m l v).table.ages=List.replicate m.cells.toNat 0∧a7B (z5 m l v) 0=false∧l.length≤9∧(0≤m.cells∧m.cells≤4) :=
 d5T h1 h2 (by omega) (by omega)
theorem d8g {b:Bool} (h:b=true) (h':b=false):False:=by cases h.symm.trans h'
theorem d5S {n:Int} (h:0≤n∧n≤4):n.toNat * 8≤140737488355328:=by omega
theorem d8v {l:List Wlk} {i:Int} (h0:0≤i) (h:i<(l.length:Int)):nth .ow (y7 l) i.toNat=⟨nth .wlk l i.toNat,true⟩:=d3i (by omega)
theorem d8w {l:List Wlk} {i:Int} (h0:0≤i) (h:i<(l.length:Int)) (h9:l.length≤9):0≤i+1∧i+1≤10:=by omega
end Go.Mo
namespace Go.Sx
end Go.Sx
namespace Go.Mo
open Go.Sx
section
variable {m:PMap} {st st':List Sto} {d:Int} {r:Rec}
end
section
variable {w x:Wld}
end
end Go.Mo
namespace Go.Mo
open Go.Sx
theorem b9U {o:One} {r:Ord} (hr:y9 r=true):(s4 (s4 o r).o r).o=(s4 o r).o∧((s4 (s4 o r).o r).code=(s4 o r).code∨(s4 (s4 o r).o r).code=9):=by
 by_cases h0:0≤b8 o.wlks r.who∧(nth .ow o.wlks (b8 o.wlks r.who).toNat).here=true
 ·by_cases hq:(nth .ow o.wlks (b8 o.wlks r.who).toNat).wlk.seq<r.seq
  ·obtain⟨⟨hl,hrel⟩,hseq⟩:=b5n hr h0.1 h0.2 hq
   have hlt:=V0 o.wlks r.who
   have hk:(b8 o.wlks r.who).toNat<o.wlks.length:=by omega
   have hp:b8 (s4 o r).o.wlks r.who=b8 o.wlks r.who:=a5W hl fun i hi=>(hrel i hi).1
   have hlast:(nth .ow (s4 o r).o.wlks (b8 o.wlks r.who).toNat).wlk.last=(s4 o r).code:=by
    rcases(hrel _ hk).2 with ⟨h,_⟩|⟨_,_,_,h⟩
    ·omega
    ·exact h
   generalize s4 o r=x at *
   unfold s4
   simp only
   rw[hp]
   by_cases hh:(nth .ow x.o.wlks (b8 o.wlks r.who).toNat).here=true
   ·rw[if_neg (fun q=>q ⟨h0.1,hh⟩),if_neg (by omega),if_pos hseq.symm]
    exact⟨rfl,.inl hlast⟩
   ·rw[if_pos (fun q=>hh q.2)]
    exact⟨rfl,.inr rfl⟩
  ·have e:(s4 o r).o=o:=by
    unfold s4
    simp only
    rw[if_neg (fun q=>q h0)]
    split
    ·rfl
    ·rw[if_pos (by omega)]
   rw[e]
   exact⟨e,.inl rfl⟩
 ·have e:(s4 o r).o=o:=by
   unfold s4
   simp only
   rw[if_pos h0]
  rw[e]
  exact⟨e,.inl rfl⟩
theorem c7V {o:One} {r:Ord}:(s4 o r).o.wlks.length=o.wlks.length ∧ ∀i,i<o.wlks.length→(nth .ow o.wlks i).wlk.id≠r.who→(r.kind≠2∨(nth .ow o.wlks i).wlk.id≠r.dest)→nth .ow (s4 o r).o.wlks i=nth .ow o.wlks i:=by
 have self:o.wlks.length=o.wlks.length ∧ ∀i,i<o.wlks.length→(nth .ow o.wlks i).wlk.id≠r.who→(r.kind≠2∨(nth .ow o.wlks i).wlk.id≠r.dest)→nth .ow o.wlks i=nth .ow o.wlks i:=⟨rfl,fun _ _ _ _=>rfl⟩
 unfold s4
 simp only
 split
 ·exact self
 rename_i g0
 have g0:=Classical.not_not.1 g0
 split
 ·exact self
 split
 ·exact self
 have hid:=a1w g0.1
 generalize (b8 o.wlks r.who).toNat=k at *
 generalize hX:nth .ow o.wlks k=x at *
 have fin : ∀(w:Wlk) (here:Bool) (g:List Int) (a:List (List Int)) (code:Int),
   (oFin o k w r.seq here g a code).o.wlks.length=o.wlks.length ∧ ∀i,i<o.wlks.length→(nth .ow o.wlks i).wlk.id≠r.who→(r.kind≠2∨(nth .ow o.wlks i).wlk.id≠r.dest)→nth .ow (oFin o k w r.seq here g a code).o.wlks i=nth .ow o.wlks i:=fun w here g a code=>by
  refine⟨by simp[oFin,oSet],fun i hi hne _ => ?_⟩
  have:k≠i:=fun e=>by
   subst e
   rw[hX]at hne
   exact hne hid
  show nth .ow (o.wlks.set k _) i=_
  exact m5 .ow this
 unfold a3H
 split
 ·unfold b0B
  split
  ·exact fin _ _ _ _ _
  ·exact fin _ _ _ _ _
 split
 ·rename_i k1 k2
  unfold a8u
  simp only
  split
  ·exact fin _ _ _ _ _
  split
  ·exact fin _ _ _ _ _
  split
  ·exact fin _ _ _ _ _
  rename_i g1 g2 g3
  have hj:=Classical.not_not.1 g1
  have hjid:=a1w hj.1
  refine⟨by simp,fun i hi hne hd => ?_⟩
  have h1:k≠i:=fun e=>by
   subst e
   rw[hX]at hne
   exact hne hid
  have h2:(b8 o.wlks r.dest).toNat≠i:=fun e=>by
   rcases hd with hd|hd
   ·exact hd k2
   ·rw[←e]at hd
    exact hd hjid
  show nth .ow ((o.wlks.set k _).set (b8 o.wlks r.dest).toNat _) i=_
  rw[m5 .ow h2,m5 .ow h1]
 split
 ·unfold b0D
  simp only
  split
  ·exact fin _ _ _ _ _
  split
  ·exact fin _ _ _ _ _
  exact fin _ _ _ _ _
 split
 ·unfold b0C
  simp only
  split
  ·exact fin _ _ _ _ _
  split
  ·exact fin _ _ _ _ _
  exact fin _ _ _ _ _
 split
 ·unfold a5p
  simp only
  split
  ·exact fin _ _ _ _ _
  split
  ·exact fin _ _ _ _ _
  split
  ·exact fin _ _ _ _ _
  exact fin _ _ _ _ _
 exact fin _ _ _ _ _
theorem b9T {o:One} {id:Int} (ho:r6 o=true):(B8 o id).map=o.map∧(B8 o id).ground=o.ground∧(B8 o id).air=o.air∧(B8 o id).wlks.length=o.wlks.length ∧
  (∀i,i<o.wlks.length→(nth .ow (B8 o id).wlks i).wlk=(nth .ow o.wlks i).wlk∧((nth .ow o.wlks i).wlk.id=id→(nth .ow (B8 o id).wlks i).here=true)∧((nth .ow o.wlks i).wlk.id≠id→(nth .ow (B8 o id).wlks i).here=(nth .ow o.wlks i).here)) ∧
  B8 (B8 o id) id=B8 o id:=by
 have hlt:=V0 o.wlks id
 by_cases h0:0≤b8 o.wlks id
 ·have hk:(b8 o.wlks id).toNat<o.wlks.length:=by omega
  have hid:=a1w h0
  have e:B8 o id=⟨o.map,o.wlks.set (b8 o.wlks id).toNat ⟨(nth .ow o.wlks (b8 o.wlks id).toNat).wlk,true⟩,o.ground,o.air⟩:=by
   unfold B8
   rw[if_pos h0]
  have hset : ∀i,nth .ow (o.wlks.set (b8 o.wlks id).toNat ⟨(nth .ow o.wlks (b8 o.wlks id).toNat).wlk,true⟩) i=if i=(b8 o.wlks id).toNat then⟨(nth .ow o.wlks (b8 o.wlks id).toNat).wlk,true⟩else nth .ow o.wlks i:=fun i=>by
   rw[C3 .ow hk]
  have hp:b8 (o.wlks.set (b8 o.wlks id).toNat ⟨(nth .ow o.wlks (b8 o.wlks id).toNat).wlk,true⟩) id=b8 o.wlks id:=a5W (by simp) fun i hi=>by
   rw[hset i]
   split
   ·rename_i q;rw[q]
   ·rfl
  rw[e]
  refine⟨rfl,rfl,rfl,by simp,fun i hi => ?_,?_⟩
  ·simp only
   rw[hset i]
   split
   ·rename_i q
    rw[q]
    exact⟨rfl,fun _=>rfl,fun h=>absurd hid h⟩
   ·rename_i q
    refine⟨rfl,fun h => ?_,fun _=>rfl⟩
    exfalso
    rcases Nat.lt_or_ge i (b8 o.wlks id).toNat with hlt2|hge
    ·have:=a5j ho hlt2 hk
     omega
    ·have:=a5j ho (show(b8 o.wlks id).toNat<i by omega) hi
     omega
  ·unfold B8
   simp only
   rw[hp,if_pos h0]
   rw[hset,if_pos rfl,List.set_set]
 ·have e:B8 o id=o:=by
   unfold B8
   rw[if_neg h0]
  rw[e]
  refine⟨rfl,rfl,rfl,rfl,fun i hi=>⟨rfl,fun h => ?_,fun _=>rfl⟩,e⟩
  exfalso
  rcases C6 (isOw id) o.wlks with ⟨_,hno⟩|⟨k,hk,e2,_⟩
  ·have:=hno _ (s0 .ow hi)
   simp[isOw,h]at this
  ·have e3:b8 o.wlks id=k:=e2
   omega
theorem c8H {o:One} {id:Int} (h:r6 o=true):r6 (B7 o id)=true∧(B7 o id).wlks.length=o.wlks.length ∧
  (∀i,i<o.wlks.length→(nth .ow (B7 o id).wlks i).wlk=(nth .ow o.wlks i).wlk∧((nth .ow o.wlks i).wlk.id=id→(nth .ow (B7 o id).wlks i).here=true)∧((nth .ow o.wlks i).wlk.id≠id→(nth .ow (B7 o id).wlks i).here=(nth .ow o.wlks i).here)) ∧
  B7 (B7 o id) id=B7 o id∧D5 (B7 o id)=D5 o:=by
 have e:B7 o id=B8 o id:=by unfold B7;rw[if_pos h]
 have hk:=a8j (id:=id) h
 have e2:B7 (B8 o id) id=B8 (B8 o id) id:=by unfold B7;rw[if_pos hk.ok]
 have hl:=b9T (id:=id) h
 rw[e,e2]
 exact⟨hk.ok,hl.2.2.2.1,hl.2.2.2.2.1,hl.2.2.2.2.2,hk.j8 h⟩
theorem a9Y {o:One} {c s n:Int} (h:r6 o=true):r6 (B3 o c s n)=true∧D5 (B3 o c s n)=D5 o ∧
  ((0≤c∧c<o.map.cells∧(s=0∨s=1)∧1≤n∧n≤nth .int (nth .ints o.air c.toNat) s.toNat∧nth .int o.ground c.toNat+n≤900)→B3 o c s n=⟨o.map,o.wlks,o.ground.set c.toNat (nth .int o.ground c.toNat+n),o.air.set c.toNat ((nth .ints o.air c.toNat).set s.toNat (nth .int (nth .ints o.air c.toNat) s.toNat-n))⟩) ∧
  (¬(0≤c∧c<o.map.cells∧(s=0∨s=1)∧1≤n∧n≤nth .int (nth .ints o.air c.toNat) s.toNat∧nth .int o.ground c.toNat+n≤900)→B3 o c s n=o):=by
 have e:B3 o c s n=Y0 o c s n:=by unfold B3;rw[if_pos h]
 have hk:=a8k (c:=c) (s:=s) (n:=n) h
 rw[e]
 refine⟨hk.ok,hk.j8 h,fun q => ?_,fun q => ?_⟩
 ·unfold Y0
  rw[if_pos q]
 ·unfold Y0
  rw[if_neg q]
theorem c6A {o:One} {r:Ord} (h:r6 o=true) (hr:y9 r=true):r6 (n9 o r).o=true∧D5 (n9 o r).o=D5 o∧(n9 o r).o.wlks.length=o.wlks.length ∧
  (∀i,i<o.wlks.length→(nth .ow o.wlks i).wlk.id≠r.who→(r.kind≠2∨(nth .ow o.wlks i).wlk.id≠r.dest)→nth .ow (n9 o r).o.wlks i=nth .ow o.wlks i) ∧
  (n9 (n9 o r).o r).o=(n9 o r).o∧((n9 (n9 o r).o r).code=(n9 o r).code∨(n9 (n9 o r).o r).code=9):=by
 have e:n9 o r=s4 o r:=by unfold n9;rw[if_pos ⟨h,hr⟩]
 have hk:=a4l h hr
 have e2:n9 (s4 o r).o r=s4 (s4 o r).o r:=by unfold n9;rw[if_pos ⟨hk.ok,hr⟩]
 have hf:=c7V (o:=o) (r:=r)
 have ha:=b9U (o:=o) hr
 rw[e,e2]
 exact⟨hk.ok,hk.j8 h,hf.1,hf.2,ha.1,ha.2⟩
end Go.Mo
