/-
  Plain laws of the one world: what a record turns there.
-/
import Derived.Test.YtihaeoicjglieaaGreatM5
set_option linter.unusedVariables false
set_option linter.unusedSimpArgs false
namespace Go.Mo
open Go.Sx
section
variable {m:PMap} {st st':List Sto} {d:Int} {r:Rec}
end
theorem c1z {n d:Nat} (hd:d<n) {f:Nat→Int} : @Eq Int (nth .int ((List.range n).map f) d) (f d):=by
 rw[l6 .int _ d (by simpa using hd)];simp
theorem c1y {n d:Nat} (hd:d<n) {f:Nat→List Int} : @Eq (List Int) (nth .ints ((List.range n).map f) d) (f d):=by
 rw[l6 .ints _ d (by simpa using hd)];simp
end Go.Mo
namespace Go.Mo
open Go.Sx
structure OneInv (m:PMap) (st:List Sto):Prop where
 plc:s0 m=true
 cells : ∀c:Int,0≤c→c<m.cells→s6 m (cX m st c)=true∧(cX m st c).cell=c
 seq : ∀c s,b7 m c s ≠ -1→inX m st (b7 m c s) (1-s)≤nxX m st c s∧nxX m st c s-(ouX m st c s).length≤inX m st (b7 m c s) (1-s)
 next : ∀c s,b7 m c s ≠ -1→nxX m st c s≤250
 ids:((allO m st).map oid).Nodup
section
variable {m:PMap} {st st':List Sto} {d:Int} {r:Rec}
theorem c2J (hI:OneInv m st) {c s:Int} {p:Pcl} (hp:p∈fl m st c s):I8 m p=true∧b7 m c s ≠ -1∧p∈ouX m st c s:=by
 unfold fl at hp
 split at hp
 ·cases hp
 ·rename_i hs
  have h2:=K3 hs
  have hi:=D8 hs
  have hm:=(List.mem_filter.1 hp).1
  have hl:=b0t (hI.cells c hi.1 hi.2.1).1 h2.1
  obtain⟨i,hi2,he⟩:=a0F .pcl hm
  have:I8 m (nth .pcl (ouX m st c s) i)=true:=((N0.1 hl).2.2.2.2 i hi2).1
  rw[he]at this
  exact⟨this,hs,hm⟩
theorem d6Q (hI:OneInv m st) (c s:Int):(fl m st c s).length≤250:=by
 unfold fl
 split
 ·exact Nat.zero_le _
 ·rename_i hs
  have h2:=K3 hs
  have hi:=D8 hs
  have h3:=hI.next c s hs
  have hl:=(N0.1 (b0t (hI.cells c hi.1 hi.2.1).1 h2.1)).2.2.2.1
  have:(A1 (ouX m st c s) (inX m st (b7 m c s) (1-s))).length≤(ouX m st c s).length:=List.length_filter_le _ _
  unfold nxX at h3
  unfold ouX at *
  omega
theorem c3r {l:List Pcl} (h : ∀p∈l,I8 m p=true):0≤sumC l∧sumC l≤l.length * 9:=b5x fun p hp=>by
 have:=I2.1 (h p hp)
 unfold cC
 split
 ·exact⟨Int.le_refl 0,by decide⟩
 ·omega
theorem c3d (hI:OneInv m st) (c s:Int):0≤airN m st c s∧airN m st c s≤2250:=by
 unfold airN
 split
 ·exact⟨Int.le_refl 0,by decide⟩
 ·have h1:=c3r (m:=m) (l:=fl m st (b7 m c s) (1-s)) fun p hp=>(c2J hI hp).1
  have h2:=d6Q hI (b7 m c s) (1-s)
  omega
theorem a1H {c:Int} (h0:0≤c) (h1:c<m.cells) : @Eq Int (nth .int (m7 m st).ground c.toNat) (cX m st c).ground:=by
 show @Eq Int (nth .int ((List.range m.cells.toNat).map fun(c:Nat)=>(cX m st (c:Int)).ground) c.toNat) _
 rw[c1z (by omega),c2X h0]
theorem b0k {c:Int} (h0:0≤c) (h1:c<m.cells) : @Eq (List Int) (nth .ints (m7 m st).air c.toNat) [airN m st c 0,airN m st c 1]:=by
 show @Eq (List Int) (nth .ints ((List.range m.cells.toNat).map fun(c:Nat) => [airN m st (c:Int) 0,airN m st (c:Int) 1]) c.toNat) _
 rw[c1y (by omega),show((c.toNat:Nat):Int)=c by omega]
end
end Go.Mo
namespace Go.Mo
open Go.Sx
section
variable {m:PMap} {st st':List Sto} {d:Int} {r:Rec}
end
end Go.Mo
namespace Go.Mo
open Go.Sx
section
variable {m:PMap} {st st':List Sto} {d:Int} {r:Rec}
theorem d3b (hI:OneInv m st) {x:OW} (hx:x∈allO m st):P9 m x.wlk=true∧(x.here=true → ∃c:Int,0≤c∧c<m.cells∧x.wlk∈(cX m st c).wlks∧l8 m x.wlk.pos=c):=by
 rcases List.mem_append.1 hx with hx|hx
 ·obtain⟨c,hc,hx⟩:=List.mem_flatMap.1 hx
  obtain⟨w,hw,rfl⟩:=List.mem_map.1 hx
  have hcn:c<m.cells.toNat:=List.mem_range.1 hc
  have hok:=hI.cells (c:Int) (by omega) (by omega)
  have:=(F4.1 hok.1).1 w hw
  exact⟨this.1,fun _=>⟨(c:Int),by omega,by omega,hw,by rw[this.2,hok.2]⟩⟩
 ·obtain⟨e,he,hx⟩:=List.mem_flatMap.1 hx
  obtain⟨p,hp,rfl⟩:=List.mem_map.1 hx
  obtain⟨hp1,hp2⟩:=List.mem_filter.1 hp
  have hk:p.kind=1:=by simpa [isWp]using hp2
  have:=I2.1 (c2J hI hp1).1
  exact⟨by
   rcases this.2.2.2 with h|h
   ·exact h.2.1
   ·omega,fun h=>by cases h⟩
end
end Go.Mo
namespace Go.Mo
open Go.Sx
section
variable {m:PMap} {st st':List Sto} {d:Int} {r:Rec}
end
end Go.Mo
namespace Go.Mo
open Go.Sx
inductive Did (w w':Wld):Prop
 |quiet (h:Lsame w.stores w'.stores)
 |wrote (d:Int) (r:Rec) (h:Wr w.map w.stores w'.stores d r) (hd:d<w.map.cells) (hin:r.kind=2→Sent w.map w.stores (b7 w.map d r.side) (1-r.side) r.pcl)
   (hack:r.kind=3→r.n≤inX w.map w.stores (b7 w.map d r.side) (1-r.side))
structure Pl (L:List Int) (m:PMap) (st:List Sto):Prop where
 next : ∀c s,b7 m c s ≠ -1→nxX m st c s≤(stAt st c).recs.length
 ids:((allO m st).map oid).Perm L
theorem b4o {L:List Int} {w:Wld} (hok:j8 w=true) (hm:Mail w) (hL:L.Nodup) (hp:Pl L w.map w.stores):OneInv w.map w.stores:=by
 have hs:=(n0.1 hok).2.1
 have h1:=D0.1 hs
 refine⟨h1.1,fun c c0 c1 => ?_,hm.seq,fun c s hcs => ?_,(hp.ids.nodup_iff).2 hL⟩
 ·obtain⟨q1,q2,q3,q4⟩:=a1P hok c0 c1
  exact⟨q4,by unfold cX;rw[a0i,q3]⟩
 ·have hi:=D8 hcs
  have:=hp.next c s hcs
  have hl:=(y7.1 (a1P hok hi.1 hi.2.1).2.1).2.2.1
  omega
theorem Wr.next {m:PMap} {st st':List Sto} {d:Int} {r:Rec} (h:Wr m st st' d r) {s:Int} (hs:s.toNat<2):nxX m st' d s≤nxX m st d s+1:=by
 unfold nxX
 rw[h.self]
 have hok:=h.cok.1
 rcases a0T h.log with ⟨hk,ho⟩|⟨hk,_⟩|⟨hk,_⟩
 ·rw[(a0Z hk h.fits).2.1]
  rcases(a4Q hok ho hs).2 with ⟨_,e⟩|⟨p,_,_,e⟩
  ·rw[e];exact Int.le_add_one (Int.le_refl _)
  ·rw[e];exact Int.le_refl _
 ·obtain⟨_,hr,hc⟩:=a0c hk h.fits
  rw[hc,(R9 hr).2.1]
  exact Int.le_add_one (Int.le_refl _)
 ·obtain⟨_,hr,hc⟩:=a0z hk h.fits
  rw[hc,(a0m hr).2.1]
  exact Int.le_add_one (Int.le_refl _)
inductive Goes (m:PMap) (st st':List Sto):Prop
 |quiet (h:Lsame st st') (e:m7 m st'=m7 m st)
 |order (d:Int) (r:Rec) (h:Wr m st st' d r) (hd:d<m.cells) (hk:r.kind=1) (e:a4C (m7 m st) r.ord=⟨m7 m st',(J0 m (cX m st d) r.ord).code⟩)
 |land (d:Int) (r:Rec) (h:Wr m st st' d r) (hd:d<m.cells) (hk:r.kind=2) (hw:r.pcl.kind=1) (e:a5p (m7 m st) r.pcl.wlk.id=m7 m st')
 |down (d:Int) (r:Rec) (h:Wr m st st' d r) (hd:d<m.cells) (hk:r.kind=2) (hw : ¬r.pcl.kind=1) (e:a5q (m7 m st) d r.side r.pcl.j9=m7 m st')
 |word (d:Int) (r:Rec) (h:Wr m st st' d r) (hd:d<m.cells) (hk:r.kind=3) (e:m7 m st'=m7 m st)
theorem d0q {m:PMap} {st:List Sto} (hI:OneInv m st):I3 (m7 m st)=true:=by
 have hp:=o8.1 hI.plc
 have hlen:(m7 m st).ground.length=m.cells.toNat∧(m7 m st).air.length=m.cells.toNat:=by
  constructor
  ·show((N2 m).map _).length=_
   simp[N2]
  ·show((N2 m).map _).length=_
   simp[N2]
 have hmap:(m7 m st).map=m:=rfl
 refine U0.2 ⟨O9.2 ⟨hI.plc,?_,?_⟩,?_,?_⟩
 ·rw[hlen.1,hmap];omega
 ·rw[hlen.2,hmap];omega
 ·unfold a4t
  rw[m4]
  intro i hi
  have hi2:(i:Int)<m.cells:=by rw[hlen.1]at hi;omega
  have hg:=a1H (m:=m) (st:=st) (c:=(i:Int)) (by omega) hi2
  have ha:=b0k (m:=m) (st:=st) (c:=(i:Int)) (by omega) hi2
  rw[Int.toNat_natCast]at hg ha
  have hc:=n5 (hI.cells (i:Int) (by omega) hi2).1
  have a0:=c3d hI (i:Int) 0
  have a1:=c3d hI (i:Int) 1
  unfold Y6
  rw[hg,ha]
  simp only[decide_eq_true_eq]
  exact⟨hc.2.2.2.2.1,hc.2.2.2.2.2.1,rfl,a0.1,Int.le_trans a0.2 (by decide),a1.1,Int.le_trans a1.2 (by decide)⟩
 ·rw[m4]
  intro i hi
  have hs:a0f (m7 m st).wlks:=M6 hI.ids
  have hm:nth .ow (m7 m st).wlks i∈allO m st:=(D1 _).mem_iff.1 (s4 .ow hi)
  unfold owAt
  rw[hmap,(d3b hI hm).1,Bool.true_and,Bool.or_eq_true]
  by_cases h0:i=0
  ·left;simp[h0]
  ·right
   rw[decide_eq_true_eq,l6 .ow _ _ hi,l6 .ow _ _ (show i-1<(m7 m st).wlks.length by omega)]
   exact List.pairwise_iff_getElem.1 hs (i-1) i (by omega) hi (by omega)
theorem d6M {m:PMap} {st:List Sto} {L:List Int} (hn:((allO m st).map oid).Nodup) (hL:L.Pairwise (· < ·)) (hp:((allO m st).map oid).Perm L):(m7 m st).wlks.map oid=L:=by
 have hs:a0f (m7 m st).wlks:=M6 hn
 refine List.Perm.eq_of_pairwise (le:=fun(a b:Int)=>a<b) (fun a b _ _ h1 h2=>by omega) ?_ hL (((D1 _).map oid).trans hp)
 exact List.pairwise_map.2 hs
def a9Z (who seq code:Int) (x y:OW):Prop:=y.wlk.id=x.wlk.id∧((y.wlk.seq=x.wlk.seq∧y.wlk.last=x.wlk.last)∨(x.wlk.id=who∧x.wlk.seq<seq∧y.wlk.seq=seq∧y.wlk.last=code))
structure Hist (who seq code:Int) (a b:List OW):Prop where
 fwd : ∀x∈a,∃y∈b,a9Z who seq code x y
 bwd : ∀y∈b,∃x∈a,a9Z who seq code x y
def recX (st:List Sto) (c:Int) (i:Nat):Rec:=nth .rcd (stAt st c).recs i
structure Done (m:PMap) (st:List Sto) (c:Int) (i:Nat) (who seq code:Int):Prop where
 zero:0≤c
 cell:c<m.cells
 lt:i<(stAt st c).recs.length
 kind:(recX st c i).kind=1
 who:(recX st c i).ord.who=who
 seq:(recX st c i).ord.seq=seq
 code:(l7 m (pfX m st c i) (recX st c i)).code=code
def Was (m:PMap) (st:List Sto) (who seq code:Int):Prop := ∃c i,Done m st c i who seq code
theorem S1 {m:PMap} {st st':List Sto} (hg:Grow m st st') {c:Int} {i:Nat} (hi:i<(stAt st c).recs.length):recX st' c i=recX st c i:=by
 obtain⟨l,e⟩:=hg.recs c
 unfold recX
 rw[e]
 exact b1J .rcd hi
theorem b6c {m:PMap} {st st':List Sto} (hg:Grow m st st') {c:Int} {k:Nat} (hk:k≤(stAt st c).recs.length):pfX m st' c k=pfX m st c k:=hg.fold c hk
theorem Done.grow {m:PMap} {st st':List Sto} {c:Int} {i:Nat} {who seq code:Int} (h:Done m st c i who seq code) (hg:Grow m st st'):Done m st' c i who seq code:=by
 have hl:=h.lt
 refine⟨h.zero,h.cell,Nat.lt_of_lt_of_le h.lt (hg.le c),?_,?_,?_,?_⟩
 ·rw[S1 hg hl];exact h.kind
 ·rw[S1 hg hl];exact h.who
 ·rw[S1 hg hl];exact h.seq
 ·rw[S1 hg hl,b6c hg (Nat.le_of_lt hl)];exact h.code
theorem Was.grow {m:PMap} {st st':List Sto} {who seq code:Int} (h:Was m st who seq code) (hg:Grow m st st'):Was m st' who seq code:=let ⟨c,i,h⟩:=h;⟨c,i,h.grow hg⟩
structure Once (w:Wld):Prop where
 known : ∀c i,0≤c→c<w.map.cells→i<(stAt w.stores c).recs.length→(recX w.stores c i).kind=1 → ∃x∈(m7 w.map w.stores).wlks,x.wlk.id=(recX w.stores c i).ord.who∧(recX w.stores c i).ord.seq≤x.wlk.seq
 uniq : ∀c i c' i',0≤c→c<w.map.cells→0≤c'→c'<w.map.cells→i<(stAt w.stores c).recs.length→i'<(stAt w.stores c').recs.length→(recX w.stores c i).kind=1→(recX w.stores c' i').kind=1 →
  (recX w.stores c i).ord.who=(recX w.stores c' i').ord.who→(recX w.stores c i).ord.seq=(recX w.stores c' i').ord.seq→c=c'∧i=i'
 last : ∀x∈(m7 w.map w.stores).wlks,x.wlk.seq=0∨Was w.map w.stores x.wlk.id x.wlk.seq x.wlk.last
 old : ∀c,0≤c→c<w.map.cells → ∀k,k≤(stAt w.stores c).recs.length → ∀v∈(pfX w.map w.stores c k).wlks,v.seq=0∨Was w.map w.stores v.id v.seq v.last
 told : ∀x∈w.net,x.kind=3→Was w.map w.stores x.ord.who x.ord.seq x.n
 notes : ∀n∈w.notes,Was w.map w.stores n.who n.seq n.code
structure Whole (L:List Int) (f:Int→Int) (w:Wld):Prop where
 inv:Inv f w
 pl:Pl L w.map w.stores
 once:Once w
theorem Whole.one {L:List Int} {f:Int→Int} {w:Wld} (hL:L.Nodup) (h:Whole L f w):OneInv w.map w.stores:=b4o h.inv.ok h.inv.mail hL h.pl
theorem c5F {l:List Wlk} {w:Wld} (h:Beg l w) (who:Int):a9y w.rows who=0:=by
 unfold a9y rowAt
 by_cases hi:(m5 w.rows who).toNat<w.rows.length
 ·have hm:=s4 .row hi
  rw[h.rows]at hm
  obtain⟨v,hv,e⟩:=List.mem_map.1 hm
  rw[h.rows,←e]
  exact(h.fresh v hv).1
 ·unfold nth List.getD
  rw[List.getElem?_eq_none (by omega)]
  rfl
end Go.Mo
