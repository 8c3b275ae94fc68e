/-
  Plain laws of the one world: what a record turns there.
-/
import Derived.Test.YtiioognflecdgaaGreatM5
set_option linter.unusedVariables false
set_option linter.unusedSimpArgs false
namespace Go.Mo
open Go.Sx
section
variable {m:PMap} {st st':List Sto} {d:Int} {r:Rec}
end
theorem b8L {n d:Nat} (hd:d<n) {f:Nat→Int} : @Eq Int (nth .int ((List.range n).map f) d) (f d):=by
 rw[l7 .int _ d (by simpa using hd)];simp
theorem b8K {n d:Nat} (hd:d<n) {f:Nat→List Int} : @Eq (List Int) (nth .ints ((List.range n).map f) d) (f d):=by
 rw[l7 .ints _ d (by simpa using hd)];simp
end Go.Mo
namespace Go.Mo
open Go.Sx
structure OneInv (m:PMap) (st:List Sto):Prop where
 plc:p7 m=true
 cells : ∀c:Int,0≤c→c<m.cells→p9 m (cX m st c)=true∧(cX m st c).cell=c
 seq : ∀c s,b7 m c s ≠ -1→inX m st (b7 m c s) (1-s)≤nxX m st c s∧nxX m st c s-(ouX m st c s).length≤inX m st (b7 m c s) (1-s)
 next : ∀c s,b7 m c s ≠ -1→nxX m st c s≤250
 ids:((allO m st).map oid).Nodup
section
variable {m:PMap} {st st':List Sto} {d:Int} {r:Rec}
theorem c8q (hI:OneInv m st) {c s:Int} {p:Pcl} (hp:p∈fl m st c s):K0 m p=true∧b7 m c s ≠ -1∧p∈ouX m st c s:=by
 unfold fl at hp
 split at hp
 ·cases hp
 ·rename_i hs
  have h2:=a1O hs
  have hi:=a5z hs
  have hm:=(List.mem_filter.1 hp).1
  have hl:=c2A (hI.cells c hi.1 hi.2.1).1 h2.1
  obtain⟨i,hi2,he⟩:=a4l .pcl hm
  have:K0 m (nth .pcl (ouX m st c s) i)=true:=((J9.1 hl).2.2.2.2 i hi2).1
  rw[he]at this
  exact⟨this,hs,hm⟩
theorem d2Z (hI:OneInv m st) (c s:Int):(fl m st c s).length≤250:=by
 unfold fl
 split
 ·exact Nat.zero_le _
 ·rename_i hs
  have h2:=a1O hs
  have hi:=a5z hs
  have h3:=hI.next c s hs
  have hl:=(J9.1 (c2A (hI.cells c hi.1 hi.2.1).1 h2.1)).2.2.2.1
  have:(Z1 (ouX m st c s) (inX m st (b7 m c s) (1-s))).length≤(ouX m st c s).length:=List.length_filter_le _ _
  unfold nxX at h3
  unfold ouX at *
  omega
theorem c9G {l:List Pcl} (h : ∀p∈l,K0 m p=true):0≤sumC l∧sumC l≤l.length * 9:=c0H fun p hp=>by
 have:=Q2.1 (h p hp)
 unfold cC
 split
 ·exact⟨Int.le_refl 0,by decide⟩
 ·omega
theorem c9m (hI:OneInv m st) (c s:Int):0≤airN m st c s∧airN m st c s≤2250:=by
 unfold airN
 split
 ·exact⟨Int.le_refl 0,by decide⟩
 ·have h1:=c9G (m:=m) (l:=fl m st (b7 m c s) (1-s)) fun p hp=>(c8q hI hp).1
  have h2:=d2Z hI (b7 m c s) (1-s)
  omega
theorem b9e {c:Int} (h0:0≤c) (h1:c<m.cells) : @Eq Int (nth .int (L4 m st).ground c.toNat) (cX m st c).ground:=by
 show @Eq Int (nth .int ((List.range m.cells.toNat).map fun(c:Nat)=>(cX m st (c:Int)).ground) c.toNat) _
 rw[b8L (by omega),d3h h0]
theorem d0j {c:Int} (h0:0≤c) (h1:c<m.cells) : @Eq (List Int) (nth .ints (L4 m st).air c.toNat) [airN m st c 0,airN m st c 1]:=by
 show @Eq (List Int) (nth .ints ((List.range m.cells.toNat).map fun(c:Nat) => [airN m st (c:Int) 0,airN m st (c:Int) 1]) c.toNat) _
 rw[b8K (by omega),show((c.toNat:Nat):Int)=c by omega]
end
end Go.Mo
namespace Go.Mo
open Go.Sx
section
variable {m:PMap} {st st':List Sto} {d:Int} {r:Rec}
end
end Go.Mo
namespace Go.Mo
open Go.Sx
section
variable {m:PMap} {st st':List Sto} {d:Int} {r:Rec}
theorem d3m (hI:OneInv m st) {x:OW} (hx:x∈allO m st):Q8 m x.wlk=true∧(x.here=true → ∃c:Int,0≤c∧c<m.cells∧x.wlk∈(cX m st c).wlks∧m5 m x.wlk.pos=c):=by
 rcases List.mem_append.1 hx with hx|hx
 ·obtain⟨c,hc,hx⟩:=List.mem_flatMap.1 hx
  obtain⟨w,hw,rfl⟩:=List.mem_map.1 hx
  have hcn:c<m.cells.toNat:=List.mem_range.1 hc
  have hok:=hI.cells (c:Int) (by omega) (by omega)
  have:=(F4.1 hok.1).1 w hw
  exact⟨this.1,fun _=>⟨(c:Int),by omega,by omega,hw,by rw[this.2,hok.2]⟩⟩
 ·obtain⟨e,he,hx⟩:=List.mem_flatMap.1 hx
  obtain⟨p,hp,rfl⟩:=List.mem_map.1 hx
  obtain⟨hp1,hp2⟩:=List.mem_filter.1 hp
  have hk:p.kind=1:=by simpa [isWp]using hp2
  have:=Q2.1 (c8q hI hp1).1
  exact⟨by
   rcases this.2.2.2 with h|h
   ·exact h.2.1
   ·omega,fun h=>by cases h⟩
end
end Go.Mo
namespace Go.Mo
open Go.Sx
section
variable {m:PMap} {st st':List Sto} {d:Int} {r:Rec}
end
end Go.Mo
namespace Go.Mo
open Go.Sx
inductive Did (w w':Wld):Prop
 |quiet (h:Lsame w.stores w'.stores)
 |wrote (d:Int) (r:Rec) (h:Wr w.map w.stores w'.stores d r) (hd:d<w.map.cells) (hin:r.kind=2→Sent w.map w.stores (b7 w.map d r.side) (1-r.side) r.pcl)
   (hack:r.kind=3→r.n≤inX w.map w.stores (b7 w.map d r.side) (1-r.side))
structure Pl (L:List Int) (m:PMap) (st:List Sto):Prop where
 next : ∀c s,b7 m c s ≠ -1→nxX m st c s≤(stAt st c).recs.length
 ids:((allO m st).map oid).Perm L
theorem c3E {L:List Int} {w:Wld} (hok:j6 w=true) (hm:Mail w) (hL:L.Nodup) (hp:Pl L w.map w.stores):OneInv w.map w.stores:=by
 have hs:=(m7.1 hok).2.1
 have h1:=C4.1 hs
 refine⟨h1.1,fun c c0 c1 => ?_,hm.seq,fun c s hcs => ?_,(hp.ids.nodup_iff).2 hL⟩
 ·obtain⟨q1,q2,q3,q4⟩:=a3O hok c0 c1
  exact⟨q4,by unfold cX;rw[T5,q3]⟩
 ·have hi:=a5z hcs
  have:=hp.next c s hcs
  have hl:=(v8.1 (a3O hok hi.1 hi.2.1).2.1).2.2.1
  omega
theorem Wr.next {m:PMap} {st st':List Sto} {d:Int} {r:Rec} (h:Wr m st st' d r) {s:Int} (hs:s.toNat<2):nxX m st' d s≤nxX m st d s+1:=by
 unfold nxX
 rw[h.self]
 have hok:=h.cok.1
 rcases a3G h.log with ⟨hk,ho⟩|⟨hk,_⟩|⟨hk,_⟩
 ·rw[(a3S hk h.fits).2.1]
  rcases(a3M hok ho hs).2 with ⟨_,e⟩|⟨p,_,_,e⟩
  ·rw[e];exact Int.le_add_one (Int.le_refl _)
  ·rw[e];exact Int.le_refl _
 ·obtain⟨_,hr,hc⟩:=a2i hk h.fits
  rw[hc,(T6 hr).2.1]
  exact Int.le_add_one (Int.le_refl _)
 ·obtain⟨_,hr,hc⟩:=a2j hk h.fits
  rw[hc,(a0C hr).2.1]
  exact Int.le_add_one (Int.le_refl _)
inductive Goes (m:PMap) (st st':List Sto):Prop
 |quiet (h:Lsame st st') (e:L4 m st'=L4 m st)
 |order (d:Int) (r:Rec) (h:Wr m st st' d r) (hd:d<m.cells) (hk:r.kind=1) (e:d3s (L4 m st) r.ord=⟨L4 m st',(K3 m (cX m st d) r.ord).code⟩)
 |land (d:Int) (r:Rec) (h:Wr m st st' d r) (hd:d<m.cells) (hk:r.kind=2) (hw:r.pcl.kind=1) (e:d0k (L4 m st) r.pcl.wlk.id=L4 m st')
 |down (d:Int) (r:Rec) (h:Wr m st st' d r) (hd:d<m.cells) (hk:r.kind=2) (hw : ¬r.pcl.kind=1) (e:d0l (L4 m st) d r.side r.pcl.n0=L4 m st')
 |word (d:Int) (r:Rec) (h:Wr m st st' d r) (hd:d<m.cells) (hk:r.kind=3) (e:L4 m st'=L4 m st)
theorem d2C {m:PMap} {st:List Sto} (hI:OneInv m st):a2X (L4 m st)=true:=by
 have hp:=s0.1 hI.plc
 have hlen:(L4 m st).ground.length=m.cells.toNat∧(L4 m st).air.length=m.cells.toNat:=by
  constructor
  ·show((a3P m).map _).length=_
   simp[a3P]
  ·show((a3P m).map _).length=_
   simp[a3P]
 have hmap:(L4 m st).map=m:=rfl
 refine a4h.2 ⟨a8b.2 ⟨hI.plc,?_,?_⟩,?_,?_⟩
 ·rw[hlen.1,hmap];omega
 ·rw[hlen.2,hmap];omega
 ·unfold b4e
  rw[l6]
  intro i hi
  have hi2:(i:Int)<m.cells:=by rw[hlen.1]at hi;omega
  have hg:=b9e (m:=m) (st:=st) (c:=(i:Int)) (by omega) hi2
  have ha:=d0j (m:=m) (st:=st) (c:=(i:Int)) (by omega) hi2
  rw[Int.toNat_natCast]at hg ha
  have hc:=o7 (hI.cells (i:Int) (by omega) hi2).1
  have a0:=c9m hI (i:Int) 0
  have a1:=c9m hI (i:Int) 1
  unfold b2v
  rw[hg,ha]
  simp only[decide_eq_true_eq]
  exact⟨hc.2.2.2.2.1,hc.2.2.2.2.2.1,rfl,a0.1,Int.le_trans a0.2 (by decide),a1.1,Int.le_trans a1.2 (by decide)⟩
 ·rw[l6]
  intro i hi
  have hs:a6N (L4 m st).wlks:=a9e hI.ids
  have hm:nth .ow (L4 m st).wlks i∈allO m st:=(X8 _).mem_iff.1 (s7 .ow hi)
  unfold owAt
  rw[hmap,(d3m hI hm).1,Bool.true_and,Bool.or_eq_true]
  by_cases h0:i=0
  ·left;simp[h0]
  ·right
   rw[decide_eq_true_eq,l7 .ow _ _ hi,l7 .ow _ _ (show i-1<(L4 m st).wlks.length by omega)]
   exact List.pairwise_iff_getElem.1 hs (i-1) i (by omega) hi (by omega)
theorem d2V {m:PMap} {st:List Sto} {L:List Int} (hn:((allO m st).map oid).Nodup) (hL:L.Pairwise (· < ·)) (hp:((allO m st).map oid).Perm L):(L4 m st).wlks.map oid=L:=by
 have hs:a6N (L4 m st).wlks:=a9e hn
 refine List.Perm.eq_of_pairwise (le:=fun(a b:Int)=>a<b) (fun a b _ _ h1 h2=>by omega) ?_ hL (((X8 _).map oid).trans hp)
 exact List.pairwise_map.2 hs
def d1Y (who seq code:Int) (x y:OW):Prop:=y.wlk.id=x.wlk.id∧((y.wlk.seq=x.wlk.seq∧y.wlk.last=x.wlk.last)∨(x.wlk.id=who∧x.wlk.seq<seq∧y.wlk.seq=seq∧y.wlk.last=code))
structure Hist (who seq code:Int) (a b:List OW):Prop where
 fwd : ∀x∈a,∃y∈b,d1Y who seq code x y
 bwd : ∀y∈b,∃x∈a,d1Y who seq code x y
def recX (st:List Sto) (c:Int) (i:Nat):Rec:=nth .rcd (stAt st c).recs i
structure Done (m:PMap) (st:List Sto) (c:Int) (i:Nat) (who seq code:Int):Prop where
 zero:0≤c
 cell:c<m.cells
 lt:i<(stAt st c).recs.length
 kind:(recX st c i).kind=1
 who:(recX st c i).ord.who=who
 seq:(recX st c i).ord.seq=seq
 code:(j8 m (pfX m st c i) (recX st c i)).code=code
def Was (m:PMap) (st:List Sto) (who seq code:Int):Prop := ∃c i,Done m st c i who seq code
theorem a5N {m:PMap} {st st':List Sto} (hg:Grow m st st') {c:Int} {i:Nat} (hi:i<(stAt st c).recs.length):recX st' c i=recX st c i:=by
 obtain⟨l,e⟩:=hg.recs c
 unfold recX
 rw[e]
 exact b0k .rcd hi
theorem c9Z {m:PMap} {st st':List Sto} (hg:Grow m st st') {c:Int} {k:Nat} (hk:k≤(stAt st c).recs.length):pfX m st' c k=pfX m st c k:=hg.fold c hk
theorem Done.grow {m:PMap} {st st':List Sto} {c:Int} {i:Nat} {who seq code:Int} (h:Done m st c i who seq code) (hg:Grow m st st'):Done m st' c i who seq code:=by
 have hl:=h.lt
 refine⟨h.zero,h.cell,Nat.lt_of_lt_of_le h.lt (hg.le c),?_,?_,?_,?_⟩
 ·rw[a5N hg hl];exact h.kind
 ·rw[a5N hg hl];exact h.who
 ·rw[a5N hg hl];exact h.seq
 ·rw[a5N hg hl,c9Z hg (Nat.le_of_lt hl)];exact h.code
theorem Was.grow {m:PMap} {st st':List Sto} {who seq code:Int} (h:Was m st who seq code) (hg:Grow m st st'):Was m st' who seq code:=let ⟨c,i,h⟩:=h;⟨c,i,h.grow hg⟩
structure Once (w:Wld):Prop where
 known : ∀c i,0≤c→c<w.map.cells→i<(stAt w.stores c).recs.length→(recX w.stores c i).kind=1 → ∃x∈(L4 w.map w.stores).wlks,x.wlk.id=(recX w.stores c i).ord.who∧(recX w.stores c i).ord.seq≤x.wlk.seq
 uniq : ∀c i c' i',0≤c→c<w.map.cells→0≤c'→c'<w.map.cells→i<(stAt w.stores c).recs.length→i'<(stAt w.stores c').recs.length→(recX w.stores c i).kind=1→(recX w.stores c' i').kind=1 →
  (recX w.stores c i).ord.who=(recX w.stores c' i').ord.who→(recX w.stores c i).ord.seq=(recX w.stores c' i').ord.seq→c=c'∧i=i'
 last : ∀x∈(L4 w.map w.stores).wlks,x.wlk.seq=0∨Was w.map w.stores x.wlk.id x.wlk.seq x.wlk.last
 old : ∀c,0≤c→c<w.map.cells → ∀k,k≤(stAt w.stores c).recs.length → ∀v∈(pfX w.map w.stores c k).wlks,v.seq=0∨Was w.map w.stores v.id v.seq v.last
 told : ∀x∈w.net,x.kind=3→Was w.map w.stores x.ord.who x.ord.seq x.n
 notes : ∀n∈w.notes,Was w.map w.stores n.who n.seq n.code
structure Whole (L:List Int) (f:Int→Int) (w:Wld):Prop where
 inv:Inv f w
 pl:Pl L w.map w.stores
 once:Once w
theorem Whole.one {L:List Int} {f:Int→Int} {w:Wld} (hL:L.Nodup) (h:Whole L f w):OneInv w.map w.stores:=c3E h.inv.ok h.inv.mail hL h.pl
theorem d1o {l:List Wlk} {w:Wld} (h:Beg l w) (who:Int):b1Z w.rows who=0:=by
 unfold b1Z rowAt
 by_cases hi:(k9 w.rows who).toNat<w.rows.length
 ·have hm:=s7 .row hi
  rw[h.rows]at hm
  obtain⟨v,hv,e⟩:=List.mem_map.1 hm
  rw[h.rows,←e]
  exact(h.fresh v hv).1
 ·unfold nth List.getD
  rw[List.getElem?_eq_none (by omega)]
  rfl
end Go.Mo
