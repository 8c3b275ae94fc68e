/-
  Plain laws of the whole: parcels: what a record does to a cell's sides.
-/
import Derived.Test.YtiioognflecdgaaGreatM4
import Derived.Test.YtiioognflecdgaaGreatM3
import Derived.Test.YtiioognflecdgaaGreatM1
set_option linter.unusedVariables false
set_option linter.unusedSimpArgs false
namespace Go.Mo
open Go.Sx
theorem a3M {m:PMap} {c:Cll} {o:Ord} (hc:p9 m c=true) (ho:S1 o=true) {s:Nat} (hs:s<2) :
  (K3 m c o).c.ins=c.ins∧((nth .pcls (K3 m c o).c.outs s=nth .pcls c.outs s ∧ @Eq Int (nth .int (K3 m c o).c.next s) (nth .int c.next s)) ∨
   ∃p:Pcl,nth .pcls (K3 m c o).c.outs s=nth .pcls c.outs s ++ [p] ∧ @Eq Int p.n (nth .int c.next s) ∧ @Eq Int (nth .int (K3 m c o).c.next s) (nth .int c.next s+1)):=by
 have hf:=o7 hc
 have hoi:=N4.1 ho
 have hdst:o.kind=1∨o.kind=5→o.dest.toNat<2:=fun h=>by omega
 clear hoi
 have triv:c.ins=c.ins∧((nth .pcls c.outs s=nth .pcls c.outs s ∧ @Eq Int (nth .int c.next s) (nth .int c.next s)) ∨ ∃p:Pcl,nth .pcls c.outs s=nth .pcls c.outs s ++ [p] ∧ @Eq Int p.n (nth .int c.next s) ∧ @Eq Int (nth .int c.next s) (nth .int c.next s+1)):=⟨rfl,.inl ⟨rfl,rfl⟩⟩
 have send : ∀(d:Nat) (q:Pcl),d<2→((nth .pcls (H6 c d q) s=nth .pcls c.outs s ∧ @Eq Int (nth .int (H7 c d) s) (nth .int c.next s)) ∨
   ∃p:Pcl,nth .pcls (H6 c d q) s=nth .pcls c.outs s ++ [p] ∧ @Eq Int p.n (nth .int c.next s) ∧ @Eq Int (nth .int (H7 c d) s) (nth .int c.next s+1)):=fun d q hd=>by
  unfold H6 H7
  by_cases he:d=s
  ·subst he
   right
   exact⟨_,m6 .pcls (by omega),rfl,m6 .int (by omega)⟩
  ·left
   exact⟨q9 .pcls he,q9 .int he⟩
 unfold K3
 split
 ·exact triv
 simp only
 split
 ·exact triv
 split
 ·exact triv
 unfold R4
 split
 ·unfold a0i
  split
  ·exact triv
  split
  ·exact triv
  split
  ·exact triv
  exact⟨rfl,send _ _ (hdst (.inl (by assumption)))⟩
 split
 ·unfold a0k
  split
  ·exact triv
  split
  ·exact triv
  split
  ·exact triv
  exact triv
 split
 ·unfold a0l
  split
  ·exact triv
  split
  ·exact triv
  exact triv
 split
 ·unfold a0j
  split
  ·exact triv
  split
  ·exact triv
  exact triv
 split
 ·unfold S7
  split
  ·exact triv
  split
  ·exact triv
  split
  ·exact triv
  exact⟨rfl,send _ _ (hdst (.inr (by assumption)))⟩
 ·exact triv
theorem T6 {m:PMap} {c:Cll} {d:Nat} {p:Pcl} (h:(y7 m c d p).ok=true):(y7 m c d p).c.outs=c.outs∧(y7 m c d p).c.next=c.next∧(y7 m c d p).c.ins=J4 c d ∧ @Eq Int p.n (nth .int c.ins d):=by
 unfold y7 at h ⊢
 split at h
 ·cases h
 rename_i h1
 rw[if_neg h1]
 have hn : @Eq Int p.n (nth .int c.ins d):=by
  rcases Decidable.em (p.n=nth .int c.ins d)with h2|h2
  ·exact h2
  ·exact absurd (.inl h2) h1
 split at h
 ·rw[if_pos (by assumption)]
  exact⟨rfl,rfl,rfl,hn⟩
 ·rename_i h2
  rw[if_neg h2]
  split at h
  ·cases h
  ·rename_i h3
   rw[if_neg h3]
   exact⟨rfl,rfl,rfl,hn⟩
theorem a0C {c:Cll} {d:Nat} {n:Int} (h:(H0 c d n).ok=true):(H0 c d n).c.outs=Q1 c d n∧(H0 c d n).c.next=c.next∧(H0 c d n).c.ins=c.ins ∧ @LE.le Int _ n (nth .int c.next d) ∧ @LT.lt Int _ (nth .int c.next d-(nth .pcls c.outs d).length) n:=by
 unfold H0 at h ⊢
 split at h
 ·cases h
 ·rename_i h1
  rw[if_neg h1]
  refine⟨rfl,rfl,rfl,?_,?_⟩
  ·exact Int.not_lt.1 fun hh=>h1 (.inl hh)
  ·exact Int.not_le.1 fun hh=>h1 (.inr hh)
theorem a3S {m:PMap} {c:Cll} {r:Rec} (hk:r.kind=1) (h:(j8 m c r).ok=true):L8 c r.ord=true∧(j8 m c r).c=(K3 m c r.ord).c∧(j8 m c r).code=(K3 m c r.ord).code:=by
 unfold j8 at h ⊢
 rw[if_pos hk]at h ⊢
 split at h
 ·rename_i hf
  rw[if_pos hf]
  exact⟨hf,rfl,rfl⟩
 ·cases h
theorem a2i {m:PMap} {c:Cll} {r:Rec} (hk:r.kind=2) (h:(j8 m c r).ok=true):b7 m c.cell r.side ≠ -1∧(y7 m c r.side.toNat r.pcl).ok=true∧(j8 m c r).c=(y7 m c r.side.toNat r.pcl).c:=by
 unfold j8 at h ⊢
 rw[if_neg (show ¬r.kind=1 by omega)]at h ⊢
 by_cases hs:b7 m c.cell r.side = -1
 ·rw[if_pos hs]at h
  cases h
 ·rw[if_neg hs]at h ⊢
  rw[if_pos hk]at h ⊢
  exact⟨hs,h,rfl⟩
theorem a2j {m:PMap} {c:Cll} {r:Rec} (hk:r.kind=3) (h:(j8 m c r).ok=true):b7 m c.cell r.side ≠ -1∧(H0 c r.side.toNat r.n).ok=true∧(j8 m c r).c=(H0 c r.side.toNat r.n).c:=by
 unfold j8 at h ⊢
 rw[if_neg (show ¬r.kind=1 by omega)]at h ⊢
 by_cases hs:b7 m c.cell r.side = -1
 ·rw[if_pos hs]at h
  cases h
 ·rw[if_neg hs]at h ⊢
  rw[if_neg (show ¬r.kind=2 by omega)]at h ⊢
  exact⟨hs,h,rfl⟩
theorem a3G {m:PMap} {r:Rec} (h:E9 m r=true):(r.kind=1∧S1 r.ord=true)∨(r.kind=2∧(r.side=0∨r.side=1)∧K0 m r.pcl=true)∨(r.kind=3∧(r.side=0∨r.side=1)):=by
 simp only[E9,decide_eq_true_eq]at h
 obtain⟨_,h2,h3⟩:=h
 rw[N3]at h2
 rcases h2 with h2|h2|h2
 ·exact .inl ⟨h2.1,h2.2.1⟩
 ·exact .inr (.inl ⟨h2.1,h2.2.1,h3 h2.1⟩)
 ·exact .inr (.inr ⟨h2.1,h2.2.1⟩)
theorem c9i {m:PMap} {c:Cll} {r:Rec} (h:(j8 m c r).ok=false):(j8 m c r).c=c:=by
 unfold j8 at h ⊢
 by_cases k1:r.kind=1
 ·rw[if_pos k1]at h ⊢
  by_cases hf:L8 c r.ord=true
  ·rw[if_pos hf]at h
   cases h
  ·rw[if_neg hf]
 ·rw[if_neg k1]at h ⊢
  by_cases hs:b7 m c.cell r.side = -1
  ·rw[if_pos hs]
  ·rw[if_neg hs]at h ⊢
   by_cases k2:r.kind=2
   ·rw[if_pos k2]at h ⊢
    exact c1q h
   ·rw[if_neg k2]at h ⊢
    exact c6y h
theorem c4V {m:PMap} {c:Cll} {l:List Rec} (h:p9 m c=true) : ∀ {k:Nat},l9 k (M4 m c l)=true→p9 m (s9 m c l k)=true:=fun hk=>a6B h hk
theorem b3j {m:PMap} {c:Cll} {r:Rec} (hc:p9 m c=true) (hr:E9 m r=true) {s:Nat} (hs:s<2) : @LE.le Int _ (nth .int c.ins s) (nth .int (j8 m c r).c.ins s):=by
 have hf:=o7 hc
 cases hok:(j8 m c r).ok with
 |false=>rw[c9i hok];exact Int.le_refl _
 |true =>
  rcases a3G hr with ⟨hk,ho⟩|⟨hk,hsd,hp⟩|⟨hk,hsd⟩
  ·rw[(a3S hk hok).2.1,(a3M hc ho hs).1]
   exact Int.le_refl _
  ·obtain⟨h1,h2,h3⟩:=a2i hk hok
   rw[h3,(T6 h2).2.2.1]
   unfold J4
   by_cases he:r.side.toNat=s
   ·rw[he,m6 .int (by omega)]
    show @LE.le Int _ _ (_+1)
    generalize (nth .int c.ins s:Int)=a
    omega
   ·rw[q9 .int he]
    exact Int.le_refl _
  ·obtain⟨h1,h2,h3⟩:=a2j hk hok
   rw[h3,(a0C h2).2.2.1]
   exact Int.le_refl _
theorem c8o {m:PMap} {s:Sto} (hs:A3 m s=true) {d:Nat} (hd:d<2) : ∀ {j k:Nat},k≤j→j≤s.recs.length → @LE.le Int _ (nth .int (s9 m s.base s.recs k).ins d) (nth .int (s9 m s.base s.recs j).ins d):=by
 have hh:=v8.1 hs
 have hall:=(l6 _ _).1 (b7V hh.2.2.2)
 intro j
 induction j with
 |zero=>intro k hk _;rw[show k=0 by omega];exact Int.le_refl _
 |succ j ih =>
  intro k hk hj
  by_cases he:k=j+1
  ·rw[he];exact Int.le_refl _
  ·refine Int.le_trans (ih (k:=k) (by omega) (by omega)) ?_
   have hfit:=hall j (by omega)
   simp only[M4,Bool.and_eq_true]at hfit
   exact b3j (c4V hh.2.1 (k:=j) ((l6 _ _).2 fun i hi=>hall i (by omega))) hfit.1 hd
def cX (m:PMap) (st:List Sto) (c:Int):Cll:=o6 m (stAt st c)
def inX (m:PMap) (st:List Sto) (c s:Int):Int:=nth .int (cX m st c).ins s.toNat
def nxX (m:PMap) (st:List Sto) (c s:Int):Int:=nth .int (cX m st c).next s.toNat
def ouX (m:PMap) (st:List Sto) (c s:Int):List Pcl:=nth .pcls (cX m st c).outs s.toNat
def pfX (m:PMap) (st:List Sto) (c:Int) (k:Nat):Cll:=s9 m (stAt st c).base (stAt st c).recs k
structure Wr (m:PMap) (st st':List Sto) (d:Int) (r:Rec):Prop where
 zero:0≤d
 lt:d.toNat<st.length
 ok:A3 m (stAt st d)=true
 cell:(stAt st d).base.cell=d
 is : ∃a,st'=st.set d.toNat ⟨a,(stAt st d).base,(stAt st d).recs ++ [r]⟩
 log:E9 m r=true
 fits:(j8 m (cX m st d) r).ok=true
theorem Wr.at {m:PMap} {st st':List Sto} {d:Int} {r:Rec} (h:Wr m st st' d r):(stAt st' d).base=(stAt st d).base∧(stAt st' d).recs=(stAt st d).recs ++ [r]:=by
 obtain⟨a,e⟩:=h.is
 rw[e,K5 h.lt,if_pos rfl]
 exact⟨rfl,rfl⟩
theorem Wr.off {m:PMap} {st st':List Sto} {d:Int} {r:Rec} (h:Wr m st st' d r) {c:Int} (hc:c.toNat≠d.toNat):stAt st' c=stAt st c:=by
 obtain⟨a,e⟩:=h.is
 rw[e,K5 h.lt,if_neg hc]
theorem Wr.self {m:PMap} {st st':List Sto} {d:Int} {r:Rec} (h:Wr m st st' d r):cX m st' d=(j8 m (cX m st d) r).c:=by
 have hh:=v8.1 h.ok
 unfold cX o6
 rw[h.at.1,h.at.2]
 exact c4W hh.2.2.2 h.log h.fits
theorem Wr.other {m:PMap} {st st':List Sto} {d:Int} {r:Rec} (h:Wr m st st' d r) {c:Int} (hc:c.toNat≠d.toNat):cX m st' c=cX m st c:=by
 unfold cX
 rw[h.off hc]
theorem Wr.cok {m:PMap} {st st':List Sto} {d:Int} {r:Rec} (h:Wr m st st' d r):p9 m (cX m st d)=true∧(cX m st d).cell=d:=⟨a1M h.ok,by unfold cX;rw[T5,h.cell]⟩
theorem Wr.grow {m:PMap} {st st':List Sto} {d:Int} {r:Rec} (h:Wr m st st' d r):Grow m st st':=by
 obtain⟨a,e⟩:=h.is
 rw[e]
 refine⟨by simp,fun c => ?_,fun c => ?_⟩
 ·rw[K5 h.lt]
  split
  ·rename_i hh
   unfold stAt
   rw[hh]
  ·rfl
 ·rw[K5 h.lt]
  split
  ·rename_i hh
   refine⟨[r],?_⟩
   unfold stAt
   rw[hh]
  ·exact⟨[],by simp⟩
structure Lsame (st st':List Sto):Prop where
 len:st'.length=st.length
 same : ∀c:Int,(stAt st' c).base=(stAt st c).base∧(stAt st' c).recs=(stAt st c).recs
theorem Lsame.refl (st:List Sto):Lsame st st:=⟨rfl,fun _=>⟨rfl,rfl⟩⟩
theorem Lsame.cX {m:PMap} {st st':List Sto} (h:Lsame st st') (c:Int):cX m st' c=cX m st c:=by
 unfold Mo.cX o6
 rw[(h.same c).1,(h.same c).2]
inductive Wrote (m:PMap) (s:Srv) (st st':List Sto) (x:Msg):Prop
 |no (h:Lsame st st')
 |yes (h:Wr m st st' x.cell (p5 x)) (hk:x.kind=2∨x.kind=5∨x.kind=6) (hh:u5 s x.cell=true) (hs:(e9 s x.cell).state=cX m st x.cell)
   (hf:x.kind=2→s8 (cX m st x.cell).wlks x.ord.who=true∧(P9 (cX m st x.cell).wlks x.ord.who).seq<x.ord.seq)
theorem b7B {w:Wld} (hf:Fence w) {k:Nat} {x:Msg} {X:SH} (h:Heard w k x X):Wrote w.map (nth .srv w.servers x.dest.toNat) w.stores X.stores x:=by
 have hcs:=a3k h.stos h.ok
 have he:=h.eff
 generalize X.srv=s' at *
 generalize X.stores=st' at *
 cases he with
 |same=>exact .no (.refl _)
 |ghost=>exact .no (.refl _)
 |lost=>exact .no (.refl _)
 |grant hu hk hn ha =>
  refine .no ⟨by simp,fun c => ?_⟩
  rw[K5 hcs.2.1]
  split
  ·rename_i hh
   unfold n9 stAt
   rw[hh]
   exact⟨rfl,rfl⟩
  ·exact⟨rfl,rfl⟩
 |write hu hk hh ha hc hl hr h1 h2 hff hp =>
  obtain⟨hmem,hcc⟩:=z5 hh
  have hI:=hf.hold _ h.lt _ hmem
  have hO:stAt w.stores (e9 (nth .srv w.servers x.dest.toNat) x.cell).state.cell=n9 w.stores x:=by rw[hcc];rfl
  have hst:=hI.state
  rw[hO,hc]at hst
  simp only[Int.toNat_natCast]at hst
  rw[←a3Y hcs.2.2.1]at hst
  have hst':(e9 (nth .srv w.servers x.dest.toNat) x.cell).state=cX w.map w.stores x.cell:=hst
  refine .yes ⟨hcs.1,hcs.2.1,hcs.2.2.1,hcs.2.2.2,⟨_,rfl⟩,hr,h1⟩ hk hh hst' (fun hk2 => ?_)
  rw[←hst']
  exact hff hk2
def Sent (m:PMap) (st:List Sto) (c s:Int) (p:Pcl):Prop:=p.n<inX m st (b7 m c s) (1-s)∨p∈ouX m st c s
structure Mail (w:Wld):Prop where
 seq : ∀c s,b7 w.map c s ≠ -1→inX w.map w.stores (b7 w.map c s) (1-s)≤nxX w.map w.stores c s∧nxX w.map w.stores c s-(ouX w.map w.stores c s).length≤inX w.map w.stores (b7 w.map c s) (1-s)
 old : ∀c s,b7 w.map c s ≠ -1 → ∀k,k≤(stAt w.stores c).recs.length → ∀p∈nth .pcls (pfX w.map w.stores c k).outs s.toNat,Sent w.map w.stores c s p
 pcl : ∀x∈w.net,x.kind=5→Sent w.map w.stores (b7 w.map x.cell x.side) (1-x.side) x.pcl
 got : ∀x∈w.net,x.kind=6→x.n≤inX w.map w.stores (b7 w.map x.cell x.side) (1-x.side)
theorem Lsame.in {m:PMap} {st st':List Sto} (h:Lsame st st') (c s:Int):inX m st' c s=inX m st c s:=by unfold inX;rw[h.cX]
theorem Lsame.nx {m:PMap} {st st':List Sto} (h:Lsame st st') (c s:Int):nxX m st' c s=nxX m st c s:=by unfold nxX;rw[h.cX]
theorem Lsame.ou {m:PMap} {st st':List Sto} (h:Lsame st st') (c s:Int):ouX m st' c s=ouX m st c s:=by unfold ouX;rw[h.cX]
theorem Lsame.sent {m:PMap} {st st':List Sto} (h:Lsame st st') {c s:Int} {p:Pcl} (hp:Sent m st c s p):Sent m st' c s p:=by
 unfold Sent
 rw[h.in,h.ou]
 exact hp
theorem a1O {m:PMap} {c s:Int} (h:b7 m c s ≠ -1):s.toNat<2∧(1-s).toNat<2∧0≤s∧s≤1:=by
 have:=(I6 h).1
 omega
theorem c6e {m:PMap} {c s:Int} (h:b7 m c s ≠ -1):(b7 m c s).toNat≠c.toNat:=by
 have:=I6 h
 omega
theorem Wr.ins {m:PMap} {st st':List Sto} {d:Int} {r:Rec} (h:Wr m st st' d r) (c:Int) {s:Int} (hs:s.toNat<2):inX m st c s≤inX m st' c s:=by
 by_cases hc:c.toNat=d.toNat
 ·have e:cX m st c=cX m st d:=by unfold cX stAt;rw[hc]
  have e':cX m st' c=cX m st' d:=by unfold cX stAt;rw[hc]
  unfold inX
  rw[e,e',h.self]
  exact b3j h.cok.1 h.log hs
 ·unfold inX
  rw[h.other hc]
  exact Int.le_refl _
theorem Wr.sent {m:PMap} {st st':List Sto} {d:Int} {r:Rec} (h:Wr m st st' d r) (hack:r.kind=3→r.n≤inX m st (b7 m d r.side) (1-r.side)) {c s:Int} (hs:b7 m c s ≠ -1) {p:Pcl} (hp:Sent m st c s p):Sent m st' c s p:=by
 have h2:=a1O hs
 have hmono:=h.ins (b7 m c s) (s:=1-s) h2.2.1
 rcases hp with hp|hp
 ·exact .inl (Int.lt_of_lt_of_le hp hmono)
 ·by_cases hc:c.toNat=d.toNat
  ·have hcd:c=d:=by
    have:=I6 hs
    have:=h.zero
    omega
   subst hcd
   have hok:=h.fits
   have hcf:=o7 h.cok.1
   unfold ouX at hp
   rcases a3G h.log with ⟨hk,ho⟩|⟨hk,hsd,hpo⟩|⟨hk,hsd⟩
   ·right
    unfold ouX
    rw[h.self,(a3S hk hok).2.1]
    rcases(a3M (m:=m) h.cok.1 ho h2.1).2 with ⟨e,_⟩|⟨q,e,_⟩
    ·rw[e];exact hp
    ·rw[e];exact List.mem_append_left _ hp
   ·right
    unfold ouX
    obtain⟨g1,g2,g3⟩:=a2i hk hok
    rw[h.self,g3,(T6 g2).1]
    exact hp
   ·obtain⟨g1,g2,g3⟩:=a2j hk hok
    by_cases he:r.side.toNat=s.toNat
    ·have hes:r.side=s:=by omega
     have hn:=hack hk
     rw[hes]at hn
     by_cases hpn:r.n≤p.n
     ·right
      unfold ouX
      rw[h.self,g3,(a0C g2).1]
      unfold Q1
      rw[he,m6 .pcls (by omega)]
      exact List.mem_filter.2 ⟨hp,by simpa using hpn⟩
     ·left
      omega
    ·right
     unfold ouX
     rw[h.self,g3,(a0C g2).1]
     unfold Q1
     rw[q9 .pcls he]
     exact hp
  ·right
   unfold ouX
   rw[h.other hc]
   exact hp
theorem d0a {m:PMap} {l:List Pcl} {n:Int} (h:u0 m l n=true) {i:Nat} (hi:i<l.length):(nth .pcl l i).n=n-l.length+i:=by
 simp only[u0,Bool.and_eq_true]at h
 have:=(l6 _ _).1 h.2 i hi
 simp only[a2V,Bool.and_eq_true,decide_eq_true_eq]at this
 exact this.2
theorem Wr.seq {m:PMap} {st st':List Sto} {d:Int} {r:Rec} (h:Wr m st st' d r) (hack:r.kind=3→r.n≤inX m st (b7 m d r.side) (1-r.side)) (hin:r.kind=2→Sent m st (b7 m d r.side) (1-r.side) r.pcl)
  (hall : ∀c:Int,0≤c→c<m.cells→p9 m (cX m st c)=true)
  {c s:Int} (hs:b7 m c s ≠ -1) (hq:inX m st (b7 m c s) (1-s)≤nxX m st c s∧nxX m st c s-(ouX m st c s).length≤inX m st (b7 m c s) (1-s)) :
  inX m st' (b7 m c s) (1-s)≤nxX m st' c s∧nxX m st' c s-(ouX m st' c s).length≤inX m st' (b7 m c s) (1-s):=by
 have h2:=a1O hs
 have hb:=I6 hs
 have hfar:=c6e hs
 have hok:=h.fits
 have hcf:=o7 h.cok.1
 by_cases hc:c.toNat=d.toNat
 ·have hcd:c=d:=by have:=h.zero;omega
  subst hcd
  have e1:inX m st' (b7 m c s) (1-s)=inX m st (b7 m c s) (1-s):=by unfold inX;rw[h.other hfar]
  rw[e1]
  unfold nxX ouX at hq ⊢
  rw[h.self]
  rcases a3G h.log with ⟨hk,ho⟩|⟨hk,hsd,hpo⟩|⟨hk,hsd⟩
  ·rw[(a3S hk hok).2.1]
   rcases(a3M (m:=m) h.cok.1 ho h2.1).2 with ⟨e,e'⟩|⟨q,e,_,e'⟩
   ·rw[e,e'];exact hq
   ·rw[e,e',List.length_append,List.length_singleton]
    generalize (nth .int (cX m st c).next s.toNat:Int)=N at *
    omega
  ·obtain⟨g1,g2,g3⟩:=a2i hk hok
   rw[g3,(T6 g2).1,(T6 g2).2.1]
   exact hq
  ·obtain⟨g1,g2,g3⟩:=a2j hk hok
   obtain⟨r1,r2,r3,r4,r5⟩:=a0C g2
   rw[g3,r1,r2]
   unfold Q1
   by_cases he:r.side.toNat=s.toNat
   ·have hes:r.side=s:=by omega
    have hn:=hack hk
    rw[hes]at hn
    rw[he]at r4 r5 ⊢
    rw[m6 .pcls (by omega)]
    have hl:=(C6 h.cok.1 h2.1).2.2.2
    have hd:=a5W (x:=r.n) hl (by
     generalize (nth .int (cX m st c).next s.toNat:Int)=N at *
     omega)
    rw[hd,List.length_drop]
    refine⟨hq.1,?_⟩
    generalize (nth .int (cX m st c).next s.toNat:Int)=N at *
    omega
   ·rw[q9 .pcls he]
    exact hq
 ·have e1:nxX m st' c s=nxX m st c s:=by unfold nxX;rw[h.other hc]
  have e2:ouX m st' c s=ouX m st c s:=by unfold ouX;rw[h.other hc]
  rw[e1,e2]
  by_cases hc2:(b7 m c s).toNat=d.toNat
  ·have hcd:b7 m c s=d:=by have:=h.zero;omega
   rw[hcd]at hq ⊢
   unfold inX at hq ⊢
   rw[h.self]
   rcases a3G h.log with ⟨hk,ho⟩|⟨hk,hsd,hpo⟩|⟨hk,hsd⟩
   ·rw[(a3S hk hok).2.1,(a3M (m:=m) h.cok.1 ho h2.2.1).1]
    exact hq
   ·obtain⟨g1,g2,g3⟩:=a2i hk hok
    obtain⟨r1,r2,r3,r4⟩:=T6 g2
    rw[g3,r3]
    unfold J4
    by_cases he:r.side.toNat=(1-s).toNat
    ·have hes:r.side=1-s:=by omega
     rw[he]at r4 ⊢
     rw[m6 .int (by omega)]
     have hS:=hin hk
     rw[hes,←hcd,hb.2.2.2.2.2.2.1]at hS
     have hcs:1-(1-s)=s:=by omega
     rw[hcs]at hS
     unfold Sent at hS
     have hp:r.pcl∈ouX m st c s:=by
      rcases hS with h3|h3
      ·exfalso
       rw[hcd]at h3
       unfold inX at h3
       generalize (nth .int (cX m st d).ins (1-s).toNat:Int)=I at *
       omega
      ·exact h3
     have hl:=(C6 (hall c hb.2.2.1 hb.2.2.2.1) h2.1).2.2.2
     unfold ouX at hp
     obtain⟨i,hi,he2⟩:=O7 .pcl hp
     have hlt:=d0a hl hi
     rw[he2]at hlt
     unfold nxX ouX at hq ⊢
     show @LE.le Int _ (_+1) _ ∧ @LE.le Int _ _ (_+1)
     generalize (nth .int (cX m st d).ins (1-s).toNat:Int)=I at *
     generalize (nth .int (cX m st c).next s.toNat:Int)=N at *
     omega
    ·rw[q9 .int he]
     exact hq
   ·obtain⟨g1,g2,g3⟩:=a2j hk hok
    rw[g3,(a0C g2).2.2.1]
    exact hq
  ·have e3:inX m st' (b7 m c s) (1-s)=inX m st (b7 m c s) (1-s):=by unfold inX;rw[h.other hc2]
   rw[e3]
   exact hq
theorem c4G {m:PMap} {s:Srv} {st:List Sto} {t:Arb} {v:Int} {x z:Msg} (hv:b2P m s st t v x) (hz:z∈(n5 m s st t x).out) (hk:z.kind=6) :
  x.kind=5∧u5 s x.cell=true∧z.cell=b7 m x.cell x.side∧z.side=1-x.side ∧
  ((@Eq Int z.n (nth .int (e9 s x.cell).state.ins x.side.toNat)∧(n5 m s st t x).stores=st) ∨
   (@Eq Int z.n (nth .int (e9 s x.cell).state.ins x.side.toNat+1)∧(u3 m (e9 s x.cell) (n9 st x) (p5 x)).n=1∧(n5 m s st t x).stores=st.set x.cell.toNat ⟨(n9 st x).age,(n9 st x).base,(n9 st x).recs ++ [p5 x]⟩)):=by
 obtain⟨_,_,hall,hsort⟩:=y9.1 hv.1
 unfold n5 at hz ⊢
 by_cases hu0:s.up=false∨x.dest = -1
 ·rw[if_pos hu0]at hz
  cases hz
 rw[if_neg hu0]at hz ⊢
 by_cases k1:x.kind=1
 ·rw[if_pos k1]at hz
  exfalso
  unfold H5 at hz
  split at hz
  ·cases hz
  ·split at hz<;>cases hz
 rw[if_neg k1]at hz ⊢
 by_cases k7:x.kind=7
 ·rw[if_pos k7]at hz
  cases hz
 rw[if_neg k7]at hz ⊢
 by_cases kh:u5 s x.cell=false
 ·rw[if_pos kh]at hz
  cases hz
 rw[if_neg kh]at hz ⊢
 have hh:u5 s x.cell=true:=by simpa using kh
 by_cases k2:x.kind=2
 ·rw[if_pos k2]at hz
  exfalso
  unfold V2 at hz
  simp only at hz
  split at hz
  ·simp only[List.mem_singleton]at hz
   subst hz
   exact absurd (show(4:Int)=6 from hk) (by decide)
  ·split at hz
   ·cases hz
   ·split at hz
    ·simp only at hz
     split at hz
     ·cases hz
     ·simp only[List.mem_singleton]at hz
      subst hz
      exact absurd (show(3:Int)=6 from hk) (by decide)
    ·simp only at hz
     split at hz
     ·simp only[List.mem_singleton]at hz
      subst hz
      exact absurd (show(3:Int)=6 from hk) (by decide)
     ·cases hz
 rw[if_neg k2]at hz ⊢
 by_cases k5:x.kind=5
 ·rw[if_pos k5]at hz ⊢
  have er:p5 x=⟨2,u6,x.side,x.pcl,0⟩:=by rw[p5,if_neg k2,if_pos k5]
  have got : ∀n:Int,z∈R0 m t x n→z.cell=b7 m x.cell x.side∧z.side=1-x.side∧z.n=n:=fun n h=>by
   unfold R0 at h
   split at h
   ·cases h
   ·simp only[List.mem_singleton]at h
    subst h
    exact⟨rfl,rfl,rfl⟩
  unfold V1 at hz ⊢
  simp only at hz ⊢
  by_cases hq:x.pcl.n<nth .int (e9 s x.cell).state.ins x.side.toNat
  ·rw[if_pos hq]at hz ⊢
   obtain⟨g1,g2,g3⟩:=got _ hz
   exact⟨k5,hh,g1,g2,.inl ⟨g3,rfl⟩⟩
  ·rw[if_neg hq]at hz ⊢
   rw[←er]at hz ⊢
   simp only at hz ⊢
   rcases b5n (m:=m) (s:=s) (st:=st) (cell:=x.cell) (r:=p5 x) hsort with ⟨w1,w2,w3⟩|⟨w1,_,w3⟩|⟨w1,_⟩
   ·rw[if_pos w1]at hz
    obtain⟨g1,g2,g3⟩:=got _ hz
    refine⟨k5,hh,g1,g2,.inr ⟨g3,w2,?_⟩⟩
    rw[w3]
    rfl
   ·rw[w1]at hz
    simp only[show ¬((2:Int)=1) by decide,if_false]at hz
    cases hz
   ·rw[if_neg w1]at hz
    cases hz
 ·rw[if_neg k5]at hz
  cases hz
theorem c5M {m:PMap} {s:Srv} {t:Arb} {cell:Int} {z:Msg} (h:z∈D1 m s t cell) (hk:z.kind=5) : ∃sd:Int,(sd=0∨sd=1)∧u5 s cell=true∧z.cell=b7 m cell sd∧z.side=1-sd∧b7 m cell sd ≠ -1∧z.pcl∈nth .pcls (e9 s cell).state.outs sd.toNat:=by
 unfold D1 at h
 split at h
 ·rename_i hh
  have side : ∀sd,(sd=0∨sd=1)→z∈B9 m t (e9 s cell) cell sd → ∃sd:Int,(sd=0∨sd=1)∧u5 s cell=true∧z.cell=b7 m cell sd∧z.side=1-sd∧b7 m cell sd ≠ -1∧z.pcl∈nth .pcls (e9 s cell).state.outs sd.toNat:=fun sd hsd hz=>by
   unfold B9 at hz
   simp only at hz
   split at hz
   ·cases hz
   ·rename_i hn
    rcases List.mem_append.1 hz with hz|hz
    ·obtain⟨p,hp,rfl⟩:=List.mem_map.1 hz
     exact⟨sd,hsd,hh,rfl,rfl,fun h=>hn (.inl h),List.mem_of_mem_take hp⟩
    ·obtain⟨_,_,rfl⟩:=List.mem_map.1 hz
     cases hk
  rcases List.mem_append.1 h with h|h
  ·exact side _ (.inl rfl) h
  ·exact side _ (.inr rfl) h
 ·cases h
theorem a3O {w:Wld} (hok:j6 w=true) {c:Int} (h0:0≤c) (h1:c<w.map.cells):c.toNat<w.stores.length∧A3 w.map (stAt w.stores c)=true∧(stAt w.stores c).base.cell=c∧p9 w.map (cX w.map w.stores c)=true:=by
 obtain⟨_,h2,_⟩:=m7.1 hok
 obtain⟨_,g2,g3⟩:=C4.1 h2
 have hl:c.toNat<w.stores.length:=by omega
 have:=g3 _ hl
 exact⟨hl,this.1,by unfold stAt;rw[this.2];omega,a1M this.1⟩
theorem a8o {w:Wld} (hf:Fence w) {i:Nat} (hi:i<w.servers.length) {h:Hld} (hm:h∈(nth .srv w.servers i).holds):h.state=pfX w.map w.stores h.state.cell h.count.toNat∧h.count.toNat≤(stAt w.stores h.state.cell).recs.length:=by
 have hI:=hf.hold i hi h hm
 exact⟨hI.state,by have:=hI.count;have:=hI.zero;omega⟩
theorem b8W {m:PMap} {st:List Sto} {c:Int} (h:A3 m (stAt st c)=true):pfX m st c (stAt st c).recs.length=cX m st c:=(a3Y h).symm
theorem c4n {w w':Wld} (hok:j6 w=true) (hf:Fence w) (hm:Mail w) (hs:StepC w w'):Mail w':=by
 obtain⟨h1,h2,h3,h4,h5,h6,h7,h8,h9⟩:=m7.1 hok
 have quiet : ∀ {w':Wld},w'.map=w.map→w'.stores=w.stores→(∀x∈w'.net,x.kind=5∨x.kind=6→x∈w.net)→Mail w':=fun {w'} e1 e2 e3=>by
  refine⟨?_,?_,fun x hx hk => ?_,fun x hx hk => ?_⟩
  ·rw[e1,e2];exact hm.seq
  ·rw[e1,e2];exact hm.old
  ·rw[e1,e2];exact hm.pcl x (e3 x hx (.inl hk)) hk
  ·rw[e1,e2];exact hm.got x (e3 x hx (.inr hk)) hk
 cases hs with
 |same=>exact hm
 |grant cell server hgr =>
  refine quiet rfl rfl fun x hx hk => ?_
  rcases J0 hx with hx|hx
  ·exact hx
  ·simp only[List.mem_singleton]at hx
   subst hx
   rcases hk with hk|hk<;>cases hk
 |ask=>exact quiet rfl rfl fun x hx _=>hx
 |say who hs =>
  refine quiet rfl rfl fun x hx hk => ?_
  rcases J0 hx with hx|hx
  ·exact hx
  ·simp only[List.mem_singleton]at hx
   subst hx
   rw[a9h hs]at hk
   rcases hk with hk|hk<;>cases hk
 |gate i hi hd=>exact quiet rfl rfl fun x hx _=>a7J (i:=i) hx
 |lose i hi=>exact quiet rfl rfl fun x hx _=>a7J hx
 |twice i hi =>
  refine quiet rfl rfl fun x hx hk => ?_
  rcases J0 hx with hx|hx
  ·exact hx
  ·simp only[List.mem_singleton]at hx
   subst hx
   exact s7 .msg hi
 |fall i hi=>exact quiet rfl rfl fun x hx _=>hx
 |rise i hi hu=>exact quiet rfl rfl fun x hx _=>hx
 |tick i hi cell =>
  refine⟨hm.seq,hm.old,fun x hx hk => ?_,fun x hx hk => ?_⟩
  ·rcases J0 hx with hx|hx
   ·exact hm.pcl x hx hk
   ·obtain⟨sd,hsd,hh,e1,e2,hne,hp⟩:=c5M hx hk
    obtain⟨hmem,hcc⟩:=z5 hh
    obtain⟨p1,p2⟩:=a8o hf hi hmem
    have hb:=I6 hne
    rw[e1,e2]
    show Sent w.map w.stores (b7 w.map (b7 w.map cell sd) (1-sd)) (1-(1-sd)) x.pcl
    rw[hb.2.2.2.2.2.2.1,show 1-(1-sd)=sd by omega]
    rw[p1,hcc]at hp
    rw[hcc]at p2
    exact hm.old cell sd hne _ p2 _ hp
  ·rcases J0 hx with hx|hx
   ·exact hm.got x hx hk
   ·have:=b1P hx
    omega
 |hear i hi hd =>
  obtain⟨X,hX,e⟩:=heard hok hi hd
  rw[e]
  generalize nth .msg w.net i=x at *
  have hv:b2P w.map (nth .srv w.servers x.dest.toNat) w.stores w.table w.servers.length x:=⟨hX.srv,hX.stos,hX.arb,hX.ok⟩
  have hw:=b7B hf hX
  have hcs:=a3k hX.stos hX.ok
  have hmo:=b0n hX.ok
  have hack:(p5 x).kind=3→(x.kind=2∨x.kind=5∨x.kind=6)→(p5 x).n≤inX w.map w.stores (b7 w.map x.cell (p5 x).side) (1-(p5 x).side):=fun hk hkk=>by
   have k6:x.kind=6:=by
    rcases hkk with h0|h0|h0
    ·rw[p5,if_pos h0]at hk;cases hk
    ·rw[p5,if_neg (by omega),if_pos h0]at hk;cases hk
    ·exact h0
   have er:p5 x=⟨3,u6,x.side,A8,x.n⟩:=by rw[p5,if_neg (by omega),if_neg (by omega)]
   rw[er]
   exact hm.got x hX.mem k6
  have hin:(p5 x).kind=2→(x.kind=2∨x.kind=5∨x.kind=6)→Sent w.map w.stores (b7 w.map x.cell (p5 x).side) (1-(p5 x).side) (p5 x).pcl:=fun hk hkk=>by
   have k5:x.kind=5:=by
    rcases hkk with h0|h0|h0
    ·rw[p5,if_pos h0]at hk;cases hk
    ·exact h0
    ·rw[p5,if_neg (by omega),if_neg (by omega)]at hk;cases hk
   have er:p5 x=⟨2,u6,x.side,x.pcl,0⟩:=by rw[p5,if_neg (by omega),if_pos k5]
   rw[er]
   exact hm.pcl x hX.mem k5
  have hsent : ∀ {c s:Int},b7 w.map c s ≠ -1 → ∀ {p:Pcl},Sent w.map w.stores c s p→Sent w.map X.stores c s p:=fun {c s} hne {p} hp=>by
   cases hw with
   |no h=>exact h.sent hp
   |yes h hk hh hs hff=>exact h.sent (fun k3=>hack k3 hk) hne hp
  have hins : ∀(c:Int) {s:Int},s.toNat<2→inX w.map w.stores c s≤inX w.map X.stores c s:=fun c {s} hs=>by
   cases hw with
   |no h=>rw[h.in];exact Int.le_refl _
   |yes h hk hh hs2 hff=>exact h.ins c hs
  refine⟨fun c s hne => ?_,fun c s hne k hk p hp => ?_,fun z hz hk => ?_,fun z hz hk => ?_⟩
  ·cases hw with
   |no h =>
    simp only[u7]
    rw[h.in,h.nx,h.ou]
    exact hm.seq c s hne
   |yes h hk hh hs hff=>exact h.seq (fun k3=>hack k3 hk) (fun k2=>hin k2 hk) (fun c h0 h1=>(a3O hok h0 h1).2.2.2) hne (hm.seq c s hne)
  ·simp only[u7]at hk hp ⊢
   cases hw with
   |no h =>
    unfold pfX at hp
    rw[(h.same c).1,(h.same c).2]at hp
    rw[(h.same c).2]at hk
    exact hsent hne (hm.old c s hne k hk p hp)
   |yes h hkk hh hs hff =>
    have hb:=I6 hne
    by_cases hc:c.toNat=x.cell.toNat
    ·have hcd:c=x.cell:=by omega
     subst hcd
     rw[h.at.2,List.length_append,List.length_singleton]at hk
     by_cases hkl:k≤(stAt w.stores x.cell).recs.length
     ·refine hsent hne (hm.old _ s hne k hkl p ?_)
      unfold pfX at hp ⊢
      rw[h.at.1,h.at.2,a0b hkl]at hp
      exact hp
     ·
      right
      have hkk2:k=(stAt X.stores x.cell).recs.length:=by rw[h.at.2,List.length_append,List.length_singleton];omega
      have hg:=h.grow
      have hsok:A3 w.map (stAt X.stores x.cell)=true:=by
       have hok2:=(c8x hX.srv hX.stos hX.ok hX.eff).2.1
       have:=(C4.1 hok2).2.2 x.cell.toNat (by rw[hg.len];exact hcs.2.1)
       exact this.1
      rw[hkk2,b8W hsok]at hp
      exact hp
    ·unfold pfX at hp
     rw[h.off hc]at hp hk
     exact hsent hne (hm.old c s hne k hk p hp)
  ·rcases J0 hz with hz|hz
   ·have hzn:=List.mem_of_mem_eraseIdx hz
    have hzs:=a1X (h8 z hzn).1 (.inl hk)
    have hb:=I6 hzs
    refine hsent ?_ (hm.pcl z hzn hk)
    show b7 w.map (b7 w.map z.cell z.side) (1-z.side) ≠ -1
    rw[hb.2.2.2.2.2.2.1]
    omega
   ·rw[hX.is]at hz
    have:=a3y hz
    omega
  ·rcases J0 hz with hz|hz
   ·have hzn:=List.mem_of_mem_eraseIdx hz
    have hzs:=a1X (h8 z hzn).1 (.inr (.inl hk))
    exact Int.le_trans (hm.got z hzn hk) (hins _ (a1O hzs).2.1)
   ·rw[hX.is]at hz
    obtain⟨k5,hh,e1,e2,hcase⟩:=c4G hv hz hk
    have hzs:=a1X hX.ok (.inl k5)
    have hb:=I6 hzs
    have h2:=a1O hzs
    obtain⟨hmem,hcc⟩:=z5 hh
    have hI:=hf.hold _ hX.lt _ hmem
    obtain⟨p1,p2⟩:=a8o hf hX.lt hmem
    have hco:=a3O hok hmo.1 hmo.2
    show z.n≤inX w.map X.stores (b7 w.map z.cell z.side) (1-z.side)
    rw[e1,e2,hb.2.2.2.2.2.2.1,show 1-(1-x.side)=x.side by omega]
    have hfi:=c8o hco.2.1 h2.1 (j:=(stAt w.stores x.cell).recs.length) (k:=(e9 (nth .srv w.servers x.dest.toNat) x.cell).count.toNat) (by rw[hcc]at p2;exact p2) (Nat.le_refl _)
    rw[hcc]at p1
    have hpre : @LE.le Int _ (nth .int (e9 (nth .srv w.servers x.dest.toNat) x.cell).state.ins x.side.toNat) (inX w.map w.stores x.cell x.side):=by
     rw[p1]
     unfold inX
     rw[←b8W hco.2.1]
     exact hfi
    rcases hcase with ⟨g1,g2⟩|⟨g1,g2,g3⟩
    ·rw[g1]
     exact Int.le_trans hpre (hins _ h2.1)
    ·
     obtain⟨w1,w2,w3,w4,w5,w6,w7,w8,w9,w10,w11⟩:=a8S g2
     have hX2:X.stores=w.stores.set x.cell.toNat ⟨(n9 w.stores x).age,(n9 w.stores x).base,(n9 w.stores x).recs ++ [p5 x]⟩:=by rw[hX.is];exact g3
     have hW:Wr w.map w.stores X.stores x.cell (p5 x):=⟨hcs.1,hcs.2.1,hcs.2.2.1,hcs.2.2.2,⟨_,hX2⟩,w6,w7⟩
     have er:p5 x=⟨2,u6,x.side,x.pcl,0⟩:=by rw[p5,if_neg (by omega),if_pos k5]
     have hcount:(e9 (nth .srv w.servers x.dest.toNat) x.cell).count.toNat=(stAt w.stores x.cell).recs.length:=by
      have:(n9 w.stores x)=stAt w.stores x.cell:=rfl
      rw[this]at w4
      omega
     have hst:(e9 (nth .srv w.servers x.dest.toNat) x.cell).state=cX w.map w.stores x.cell:=by
      rw[p1,hcount,b8W hco.2.1]
     obtain⟨r1,r2,r3⟩:=a2i (by rw[er]) w7
     have hri:=T6 r2
     rw[g1]
     unfold inX
     rw[hW.self]
     show @LE.le Int _ (_+1) _
     have e5:(j8 w.map (cX w.map w.stores x.cell) (p5 x)).c=(y7 w.map (cX w.map w.stores x.cell) (p5 x).side.toNat (p5 x).pcl).c:=r3
     have hri':(y7 w.map (cX w.map w.stores x.cell) (p5 x).side.toNat (p5 x).pcl).c.ins=J4 (cX w.map w.stores x.cell) (p5 x).side.toNat:=hri.2.2.1
     rw[e5,hri',hst,er]
     have hcf:=o7 hco.2.2.2
     unfold J4
     simp only
     rw[m6 .int (by omega)]
     exact Int.le_refl _
def cntN (l:List Note) (who:Int):Int:=((l.filter fun n=>decide (n.who=who)).length:Int)
theorem c8U (who:Int):cntN [] who=0:=rfl
theorem c8V (l:List Note) (n:Note) (who:Int):cntN (l ++ [n]) who=cntN l who+(if n.who=who then 1 else 0):=by
 unfold cntN
 rw[List.filter_append,List.length_append]
 by_cases h:n.who=who
 ·simp[h]
 ·simp[h]
structure Noted (f:Int→Int) (w:Wld):Prop where
 num : ∀i,i<w.notes.length→(nth .note w.notes i).seq=f (nth .note w.notes i).who+1+cntN (w.notes.take i) (nth .note w.notes i).who
 row:w.notes.length<150 → ∀i,i<w.rows.length→(nth .row w.rows i).seq=f (nth .row w.rows i).who+cntN w.notes (nth .row w.rows i).who
theorem d1s (l:List Row) (who kind dest n:Int) (i:Nat):(L6 l who kind dest n).b.length=l.length∧(nth .row (L6 l who kind dest n).b i).who=(nth .row l i).who∧(nth .row (L6 l who kind dest n).b i).seq=(nth .row l i).seq:=by
 unfold L6
 split
 ·rename_i h
  have hlt:=a1A l who
  have hj:(k9 l who).toNat<l.length:=by omega
  refine⟨List.length_set,?_⟩
  simp only
  rw[I1 .row hj]
  split
  ·rename_i e;subst e;exact⟨rfl,rfl⟩
  ·exact⟨rfl,rfl⟩
 ·exact⟨rfl,rfl,rfl⟩
theorem c8e {m:PMap} {l:List Row} {v:Int} {x:Msg} (h1:A7 m l=true) (h2:u9 m v x=true) (i:Nat) :
  (nth .row (z8 m l x).b i).who=(nth .row l i).who ∧
  ((z8 m l x).ok=false→(nth .row (z8 m l x).b i).seq=(nth .row l i).seq) ∧
  ((z8 m l x).ok=true→i<l.length→(nth .row (z8 m l x).b i).seq=(nth .row l i).seq+(if x.ord.who=(nth .row l i).who then 1 else 0)):=by
 have hlt:=a1A l x.ord.who
 unfold z8
 simp only
 split
 ·rename_i h
  have hj:(k9 l x.ord.who).toNat<l.length:=by omega
  have hw:=b3Z h.1
  have hro:=(a7C h1 hj).1
  have hbusy:(nth .row l (k9 l x.ord.who).toNat).busy=true:=h.2.1
  have hord:(nth .row l (k9 l x.ord.who).toNat).ord=x.ord:=h.2.2
  simp only[V4,decide_eq_true_eq]at hro
  have hseq:=(hro.2.2.2.2.2.2.2.2.2 hbusy).2.2
  rw[hord]at hseq
  split
  ·rw[I1 .row hj]
   refine⟨?_,fun h=>by simp at h,fun _ hi => ?_⟩
   ·split
    ·rename_i e;subst e;rfl
    ·rfl
   ·split
    ·rename_i e;subst e
     rw[if_pos hw.symm]
     exact hseq
    ·rename_i e
     have hne : ¬x.ord.who=(nth .row l i).who:=fun hh=>e (by have:=b6B h1 hi hh.symm;omega)
     rw[if_neg hne]
     exact(Int.add_zero _).symm
  ·split
   ·rw[I1 .row hj]
    refine⟨?_,fun _ => ?_,fun h=>by simp at h⟩
    ·split
     ·rename_i e;subst e;rfl
     ·rfl
    ·split
     ·rename_i e;subst e;rfl
     ·rfl
   ·exact⟨rfl,fun _=>rfl,fun h=>by simp at h⟩
 ·exact⟨rfl,fun _=>rfl,fun h=>by simp at h⟩
theorem a8Y {l:List Note} {n:Note} {i:Nat} (h:i≤l.length):(l ++ [n]).take i=l.take i:=by
 rw[List.take_append_of_le_length h]
theorem b9x {f:Int→Int} {w w':Wld} (hok:j6 w=true) (hn:Noted f w) (hs:StepC w w'):Noted f w':=by
 obtain⟨h1,h2,h3,h4,h5,h6,h7,h8,h9⟩:=m7.1 hok
 have quiet : ∀ {w':Wld},w'.notes=w.notes→w'.rows=w.rows→Noted f w':=fun {w'} e1 e2=>by
  refine⟨?_,?_⟩
  ·rw[e1];exact hn.num
  ·rw[e1,e2];exact hn.row
 cases hs with
 |same=>exact hn
 |grant cell server hg=>exact quiet rfl rfl
 |ask who what dest n =>
  refine⟨hn.num,fun hl i hi => ?_⟩
  have ha:=d1s w.rows who what dest n i
  have hi':i<w.rows.length:=by rw[←ha.1];exact hi
  show(nth .row (L6 w.rows who what dest n).b i).seq=f (nth .row (L6 w.rows who what dest n).b i).who+cntN w.notes (nth .row (L6 w.rows who what dest n).b i).who
  rw[ha.2.1,ha.2.2]
  exact hn.row hl i hi'
 |say who hs=>exact quiet rfl rfl
 |gate i hi hd =>
  have hx:=(h8 _ (s7 .msg hi)).1
  generalize nth .msg w.net i=x at hx hd
  have hq:=fun j=>c8e h3 hx j
  have hk:=b0I h3 hx
  show Noted f (a3f (wCut w i) x)
  by_cases hc:(z8 w.map w.rows x).ok=true∧w.notes.length<150
  ·have hw:0≤k9 w.rows x.ord.who:=(hk.2.2 hc.1).2.1
   have hpl:=a1A w.rows x.ord.who
   have hj:(k9 w.rows x.ord.who).toNat<w.rows.length:=by omega
   have hwho:=b3Z hw
   have hold:=hn.row hc.2 _ hj
   have hro:=(a7C h3 hj).1
   simp only[V4,decide_eq_true_eq]at hro
   have hbusy:(nth .row w.rows (k9 w.rows x.ord.who).toNat).busy=true:=(hk.2.2 hc.1).2.2.1
   have hord:(nth .row w.rows (k9 w.rows x.ord.who).toNat).ord=x.ord:=(hk.2.2 hc.1).2.2.2.1
   have hseq:=(hro.2.2.2.2.2.2.2.2.2 hbusy).2.2
   rw[hord]at hseq
   rw[hwho]at hold
   have en:(a3f (wCut w i) x).notes=w.notes ++ [⟨x.ord.who,x.ord.seq,x.n⟩]:=by
    unfold a3f
    exact if_pos hc
   have er:(a3f (wCut w i) x).rows=(z8 w.map w.rows x).b:=rfl
   refine⟨?_,?_⟩
   ·rw[en]
    intro j hjl
    rw[List.length_append,List.length_singleton]at hjl
    by_cases hlt:j<w.notes.length
    ·rw[b4y .note hlt,a8Y (by omega)]
     exact hn.num j hlt
    ·have:j=w.notes.length:=by omega
     subst this
     rw[a6n .note,a8Y (Nat.le_refl _),List.take_length]
     show x.ord.seq=f x.ord.who+1+cntN w.notes x.ord.who
     have a1:x.ord.seq=(nth .row w.rows (k9 w.rows x.ord.who).toNat).seq+1:=hseq
     have a2:(nth .row w.rows (k9 w.rows x.ord.who).toNat).seq=f x.ord.who+cntN w.notes x.ord.who:=hold
     omega
   ·rw[en,er]
    intro hl j hjl
    rw[hk.2.1]at hjl
    have hqj:=hq j
    have a:=hqj.2.2 hc.1 hjl
    have b:=hn.row hc.2 j hjl
    rw[hqj.1,c8V]
    have c:(nth .row (z8 w.map w.rows x).b j).seq=(nth .row w.rows j).seq+(if x.ord.who=(nth .row w.rows j).who then 1 else 0):=a
    have d:(nth .row w.rows j).seq=f (nth .row w.rows j).who+cntN w.notes (nth .row w.rows j).who:=b
    show(nth .row (z8 w.map w.rows x).b j).seq=f (nth .row w.rows j).who+(cntN w.notes (nth .row w.rows j).who+(if x.ord.who=(nth .row w.rows j).who then 1 else 0))
    omega
  ·have en:(a3f (wCut w i) x).notes=w.notes:=by
    unfold a3f
    exact if_neg hc
   have er:(a3f (wCut w i) x).rows=(z8 w.map w.rows x).b:=rfl
   refine⟨?_,?_⟩
   ·rw[en];exact hn.num
   ·rw[en,er]
    intro hl j hjl
    rw[hk.2.1]at hjl
    have ho:(z8 w.map w.rows x).ok=false:=by
     cases hh:(z8 w.map w.rows x).ok
     ·rfl
     ·exact absurd ⟨hh,hl⟩ hc
    have hqj:=hq j
    rw[hqj.1,hqj.2.1 ho]
    exact hn.row hl j hjl
 |hear i hi hd=>exact quiet rfl rfl
 |lose i hi=>exact quiet rfl rfl
 |twice i hi=>exact quiet rfl rfl
 |tick i hi cell=>exact quiet rfl rfl
 |fall i hi=>exact quiet rfl rfl
 |rise i hi hu=>exact quiet rfl rfl
theorem d2t {m:PMap} {l:List Wlk} {w:Wlk} (h:z6 m l=true) (hw:Q8 m w=true):z6 m (O0 l w)=true:=by
 rw[a2q]at h ⊢
 refine⟨fun x hx => ?_,c1s h.2⟩
 rcases b4b hx with hx|rfl
 ·exact h.1 x hx
 ·exact hw
theorem c6t {m:PMap} {l:List Row} (h:A7 m l=true):l.length≤9:=by
 rw[A7,Bool.and_eq_true]at h
 have ha:=(l6 _ _).1 h.2
 have hw : ∀i,i<l.length→(i:Int)+1≤(nth .row l i).who:=by
  intro i
  induction i with
  |zero =>
   intro hi
   have:=ha 0 hi
   simp only[J5,V4,Bool.and_eq_true,decide_eq_true_eq]at this
   omega
  |succ i ih =>
   intro hi
   have h1:=ih (by omega)
   have:=ha (i+1) hi
   simp only[J5,Bool.and_eq_true,Bool.or_eq_true,decide_eq_true_eq,Nat.add_sub_cancel]at this
   omega
 by_cases h0:l.length=0
 ·omega
 ·have h1:=hw (l.length-1) (by omega)
  have h2:=ha (l.length-1) (by omega)
  simp only[J5,V4,Bool.and_eq_true,decide_eq_true_eq]at h2
  omega
def wP (w0 w:Wld):Prop:=(j6 w0=true→j6 w=true)∧(w=w0∨j6 w=true∨w=K4)
theorem b3v (w:Wld):wP w w:=⟨fun h=>h,.inl rfl⟩
theorem b3u {w0 w:Wld} (e:Evt) (h:wP w0 w):wP w0 (m0 w e):=by
 by_cases hw:j6 w=true
 ·have:m0 w e=m9 w e:=by simp[m0,hw]
  rw[this]
  exact⟨fun _=>(a8B hw).1,.inr (.inl (a8B hw).1)⟩
 ·have:m0 w e=K4:=by simp[m0,hw]
  rw[this]
  exact⟨fun h0=>absurd (h.1 h0) hw,.inr (.inr rfl)⟩
theorem a1C {w:Wld} (h:j6 w=true):w.rows.length≤9∧w.stores.length≤4∧1≤w.servers.length∧w.servers.length≤3:=by
 obtain⟨h1,h2,h3,h4⟩:=m7.1 h
 have:=B7 h1
 exact⟨c6t h3,a9a h2,by omega,by omega⟩
theorem c5D {w0 w:Wld} (h:wP w0 w) (h1:w0.rows.length≤20) (h2:w0.stores.length≤20):w.rows.length≤20∧w.stores.length≤20:=by
 rcases h.2 with rfl|h|rfl
 ·exact⟨h1,h2⟩
 ·have:=a1C h
  omega
 ·exact⟨by decide,by decide⟩
theorem a6W {w:Wld} (e:Evt) (h:j6 w=true):j6 (m0 w e)=true:=(b3u e (b3v w)).1 h
theorem d2N {a b:Int} {k x c:Int} (h:p7 ⟨a,b⟩=true) (h1:1≤k) (h2:k≤5) (h3:0≤x) (h4:x<a * b) (h5:0≤c) (h6:c≤99):Q8 ⟨a,b⟩ ⟨k,x,c,0,0⟩=true:=by
 rw[I4]
 have hp:=s0.1 h
 refine⟨by show(1:Int)≤k;omega,by show k≤9;omega,?_,h5,h6,by show(0:Int)≤0;omega,by show(0:Int)≤900;omega,by show(0:Int)≤0;omega,by show(0:Int)≤9;omega⟩
 show m5 ⟨a,b⟩ x ≠ -1
 simp only[m5]
 rw[if_pos ⟨h,h3,h4⟩]
 have:0≤x / b:=Int.ediv_nonneg h3 (by simp only at hp;omega)
 show x / b ≠ -1
 omega
theorem d1m {x:Int} (h1:0≤x) (h2:x<6) : @LE.le Int _ 0 (nth .int [0,3,10,40,95,99] x.toNat) ∧ @LE.le Int _ (nth .int [0,3,10,40,95,99] x.toNat) 99:=by
 have:x=0∨x=1∨x=2∨x=3∨x=4∨x=5:=by omega
 rcases this with rfl|rfl|rfl|rfl|rfl|rfl<;>decide
theorem c2D {x y:Int} (h1:0≤x∧(1≤(3:Int)→x<3)) (h2:0≤y∧(1≤(2:Int)→y<2)):p7 ⟨IntKind.i64.wrap (2+x),IntKind.i64.wrap (2+y)⟩=true:=by
 rw[b8 (by omega) (by omega),b8 (by omega) (by omega),s0]
 show 2≤2+x∧2+x≤4∧2≤2+y∧2+y≤8
 omega
theorem c2C {a b k x y:Int} {l:List Wlk} (h:p7 ⟨a,b⟩=true) (hl:z6 ⟨a,b⟩ l=true) (hk:0<k) (hk5:k≤5) (hx:0≤x∧(1≤IntKind.i64.wrap (a * b)→x<IntKind.i64.wrap (a * b))) (hy:0≤y∧(1≤(6:Int)→y<6)) :
  z6 ⟨a,b⟩ (O0 l ⟨k,x,nth .int [0,3,10,40,95,99] y.toNat,0,0⟩)=true:=by
 have hm:4≤a * b∧a * b≤32:=a4f h
 rw[b8 (by omega) (by omega)]at hx
 have hc:=d1m hy.1 (hy.2 (by omega))
 exact d2t hl (d2N h (by omega) hk5 hx.1 (hx.2 (by omega)) hc.1 hc.2)
structure Beg (l:List Wlk) (w:Wld):Prop where
 ok:j6 w=true
 all:z6 w.map l=true
 fresh : ∀v∈l,v.seq=0∧v.last=0
 few:l.length≤5
 net:w.net = []
 notes:w.notes = []
 rows:w.rows=l.map (a0h w.map)
 recs : ∀c:Int,0≤c→c<w.map.cells→(stAt w.stores c).recs = []∧(stAt w.stores c).base=Y5 w.map c l
 n6 : ∀i,i<w.servers.length→(nth .srv w.servers i).n6 = []
 fence:Fence w
inductive Ran (w0:Wld):Wld→Prop
 |refl:Ran w0 w0
 |step {w:Wld} (e:Evt) (h:Ran w0 w):Ran w0 (m0 w e)
def b1Z (l:List Row) (who:Int):Int:=(rowAt l who).seq
theorem d3j {l:List Wlk} {w:Wld} (h:Beg l w) {c:Int} (h0:0≤c) (h1:c<w.map.cells):cX w.map w.stores c=Y5 w.map c l:=by
 have hr:=h.recs c h0 h1
 have hs:=(a3O h.ok h0 h1).2.1
 unfold cX
 rw[a3Y hs,hr.1,hr.2]
 rfl
theorem a5z {m:PMap} {c s:Int} (h:b7 m c s ≠ -1):0≤c∧c<m.cells∧0≤b7 m c s∧b7 m c s<m.cells:=by
 unfold b7 at h ⊢
 grind
theorem b3f {m:PMap} {c:Int} {l:List Wlk} (hp:p7 m=true) (h0:0≤c) (h1:c<m.cells) (hl:z6 m l=true):Y5 m c l=⟨c,R1 m c l l.length,0,[[],[]],[0,0],[0,0]⟩:=by
 rw[Y5,if_pos ⟨hp,h0,h1,hl⟩]
theorem d1N (t:Nat) : @Eq Int (nth .int [0,0] t) 0:=by
 match t with
 | 0=>rfl
 | 1=>rfl
 |n+2=>simp[nth,RT.dflt]
theorem d1M (t:Nat) : @Eq (List Pcl) (nth .pcls [[],[]] t) []:=by
 match t with
 | 0=>rfl
 | 1=>rfl
 |n+2=>simp[nth,RT.dflt]
theorem c9e {l:List Wlk} {w:Wld} (h:Beg l w):Mail w:=by
 have hp:p7 w.map=true:=(C4.1 (m7.1 h.ok).2.1).1
 have hx : ∀c:Int,0≤c→c<w.map.cells → ∀s,inX w.map w.stores c s=0∧nxX w.map w.stores c s=0∧ouX w.map w.stores c s = []:=fun c h0 h1 s=>by
  unfold inX nxX ouX
  rw[d3j h h0 h1,b3f hp h0 h1 h.all]
  exact⟨d1N _,d1N _,d1M _⟩
 refine⟨fun c s hs => ?_,fun c s hs k hk p hm => ?_,fun x hx => ?_,fun x hx => ?_⟩
 ·have hi:=a5z hs
  have a:=hx c hi.1 hi.2.1 s
  have b:=hx _ hi.2.2.1 hi.2.2.2 (1-s)
  rw[b.1,a.2.1,a.2.2]
  exact⟨Int.le_refl 0,by decide⟩
 ·exfalso
  have hi:=a5z hs
  have hr:=h.recs c hi.1 hi.2.1
  rw[hr.1]at hk
  have hk0:k=0:=by simpa using hk
  subst hk0
  have:pfX w.map w.stores c 0=Y5 w.map c l:=hr.2
  rw[this,b3f hp hi.1 hi.2.1 h.all,d1M]at hm
  cases hm
 ·rw[h.net]at hx;cases hx
 ·rw[h.net]at hx;cases hx
theorem c5t {l:List Wlk} {w:Wld} (h:Beg l w):Shown w:=by
 refine⟨fun i hi g hg => ?_,fun x hx => ?_⟩
 ·rw[h.n6 i hi]at hg;cases hg
 ·rw[h.net]at hx;cases hx
theorem c5u {l:List Wlk} {w:Wld} (h:Beg l w):Noted (b1Z w.rows) w:=by
 refine⟨fun i hi => ?_,fun _ i hi => ?_⟩
 ·rw[h.notes]at hi
  exact absurd hi (Nat.not_lt_zero _)
 ·rw[h.notes,c8U]
  have:=b6B (m7.1 h.ok).2.2.1 hi rfl
  unfold b1Z rowAt
  rw[this,Int.toNat_natCast,Int.add_zero]
structure Inv (f:Int→Int) (w:Wld):Prop where
 ok:j6 w=true
 fence:Fence w
 shown:Shown w
 mail:Mail w
 noted:Noted f w
theorem c7J {f:Int→Int} {w:Wld} (e:Evt) (h:Inv f w):Inv f (m0 w e):=by
 have he:m0 w e=m9 w e:=by simp[m0,h.ok]
 have hok:=a6W e h.ok
 rw[he]at hok ⊢
 have hc:=a2v w e
 exact⟨hok,a5i h.ok h.fence hc,b8C h.ok h.fence h.shown hc,c4n h.ok h.fence h.mail hc,b9x h.ok h.noted hc⟩
theorem d1q {l:List Wlk} {w:Wld} (h:Beg l w):Inv (b1Z w.rows) w:=⟨h.ok,h.fence,c5t h,c9e h,c5u h⟩
theorem c9V {f:Int→Int} {w0 w:Wld} (h0:Inv f w0) (h:Ran w0 w):Inv f w:=by
 induction h with
 |refl=>exact h0
 |step e _ ih=>exact c7J e ih
def ahO (w x:OW):Bool:=decide (x.wlk.id≤w.wlk.id)
def putO (l:List OW) (w:OW):List OW:=l.takeWhile (ahO w)++w::l.dropWhile (ahO w)
def B2 (l:List OW):List OW:=l.foldl putO []
def a6N (l:List OW):Prop:=l.Pairwise fun a b=>a.wlk.id<b.wlk.id
def oid (x:OW):Int:=x.wlk.id
theorem a4e (l:List OW) (w:OW):(putO l w).Perm (w::l):=by
 unfold putO
 exact List.perm_middle.trans (by rw[List.takeWhile_append_dropWhile])
theorem b0R : ∀(l a:List OW),(l.foldl putO a).Perm (l++a)
 |[],a=>List.Perm.refl _
 |w::l,a=>by
  rw[List.foldl_cons]
  refine(b0R l (putO a w)).trans ?_
  refine((a4e a w).append_left l).trans ?_
  exact List.perm_middle
theorem X8 (l:List OW):(B2 l).Perm l:=by
 have:=b0R l []
 rwa [List.append_nil]at this
theorem c3u {l:List OW} {w:OW} (h:a6N l) (hn : ∀x∈l,x.wlk.id≠w.wlk.id):a6N (putO l w):=by
 induction l with
 |nil=>simp[putO,a6N]
 |cons y l ih =>
  obtain⟨hy,hl⟩:=List.pairwise_cons.1 h
  by_cases hh:y.wlk.id≤w.wlk.id
  ·have e:putO (y::l) w=y::putO l w:=by simp[putO,ahO,hh]
   rw[e]
   refine List.pairwise_cons.2 ⟨fun x hx => ?_,ih hl fun x hx=>hn x (List.mem_cons_of_mem _ hx)⟩
   rcases List.mem_cons.1 ((a4e l w).mem_iff.1 hx)with rfl|hx
   ·have:=hn y List.mem_cons_self
    omega
   ·exact hy x hx
  ·have e:putO (y::l) w=w::y::l:=by simp[putO,ahO,hh]
   rw[e]
   refine List.pairwise_cons.2 ⟨fun x hx => ?_,h⟩
   rcases List.mem_cons.1 hx with rfl|hx
   ·omega
   ·have:=hy x hx
    omega
theorem b0Q : ∀(l a:List OW),a6N a→((l++a).map oid).Nodup→a6N (l.foldl putO a)
 |[],a,h,_=>h
 |w::l,a,h,hn=>by
  rw[List.foldl_cons]
  simp only[List.cons_append,List.map_cons,List.nodup_cons,List.map_append,List.mem_append,List.mem_map,not_or,not_exists,not_and]at hn
  refine b0Q l (putO a w) (c3u h fun x hx=>hn.1.2 x hx) ?_
  have hp:((l++putO a w).map oid).Perm ((w::(l++a)).map oid):=(((a4e a w).append_left l).trans List.perm_middle).map oid
  refine hp.nodup_iff.2 ?_
  simp only[List.map_cons,List.nodup_cons,List.map_append,List.mem_append,List.mem_map,not_or,not_exists,not_and]
  exact hn
theorem a9e {l:List OW} (hn:(l.map oid).Nodup):a6N (B2 l):=b0Q l [] (by simp[a6N]) (by simpa using hn)
def sumL {α : Type} (f : α → Int) (l:List α):Int:=(l.map f).sum
def sumK {α : Type} (f : α → Int) (l:List α) (k:Nat):Int:=sumL f (l.take k)
theorem c5S {α : Type} (f : α → Int) (l r:List α):sumL f (l++r)=sumL f l+sumL f r:=by simp[sumL]
theorem c5R {α : Type} (f : α → Int) (x : α):sumL f [x]=f x:=by simp[sumL]
theorem a6T {α : Type} (f : α → Int) (l:List α):sumK f l 0=0:=by simp[sumK,sumL]
theorem a6U (t:RT) (f:t.ty→Int) {l:List t.ty} {k:Nat} (h:k<l.length):sumK f l (k+1)=sumK f l k+f (nth t l k):=by
 unfold sumK
 rw[a0y t l k h,c5S,c5R]
theorem a8Z {α : Type} (f : α → Int) {l:List α} {k:Nat} (h:k=l.length):sumK f l k=sumL f l:=by subst h;simp[sumK]
theorem c0H {α : Type} {f : α → Int} {B:Int} : ∀ {l:List α},(∀x∈l,0≤f x∧f x≤B)→0≤sumL f l∧sumL f l≤l.length * B
 |[],_=>by simp[sumL]
 |x::r,h=>by
  have h1:=c0H (l:=r) fun y hy=>h y (List.mem_cons_of_mem _ hy)
  have h2:=h x (List.mem_cons_self ..)
  have h3:sumL f (x::r)=f x+sumL f r:=by simp[sumL]
  rw[h3,List.length_cons]
  have h4:((r.length+1:Nat):Int) * B=r.length * B+B:=by
   rw[Int.natCast_add,Int.add_mul]
   simp
  rw[h4]
  omega
def fl (m:PMap) (st:List Sto) (c s:Int):List Pcl:=if b7 m c s = -1 then[]else Z1 (ouX m st c s) (inX m st (b7 m c s) (1-s))
def isWp (p:Pcl):Bool:=decide (p.kind=1)
def flyO (l:List Pcl):List OW:=(l.filter isWp).map fun p=>⟨p.wlk,false⟩
def d3C (l:List Wlk):List OW:=l.map fun w=>⟨w,true⟩
def a3P (m:PMap):List Nat:=List.range m.cells.toNat
def d3d (m:PMap):List (Nat×Nat):=(a3P m).flatMap fun c => [(c,0),(c,1)]
def allO (m:PMap) (st:List Sto):List OW:=(a3P m).flatMap (fun(c:Nat)=>d3C (cX m st (c:Int)).wlks)++(d3d m).flatMap fun e=>flyO (fl m st (e.1:Int) (e.2:Int))
def cC (p:Pcl):Int:=if p.kind=1 then 0 else p.n0
def sumC (l:List Pcl):Int:=sumL cC l
def airN (m:PMap) (st:List Sto) (d s:Int):Int:=if b7 m d s = -1 then 0 else sumC (fl m st (b7 m d s) (1-s))
def L4 (m:PMap) (st:List Sto):One:=⟨m,B2 (allO m st),(a3P m).map fun(c:Nat)=>(cX m st (c:Int)).ground,(a3P m).map fun(c:Nat) => [airN m st (c:Int) 0,airN m st (c:Int) 1]⟩
def oneOf (w:Wld):One:=if j6 w=true then L4 w.map w.stores else c9t
theorem c2A {m:PMap} {c:Cll} (h:p9 m c=true) {s:Nat} (hs:s<2):u0 m (nth .pcls c.outs s) (nth .int c.next s)=true:=((F4.1 h).2.2.2.2.2.2.2.2.2.2 s hs).1
section
variable {m:PMap} {st st':List Sto} {d:Int} {r:Rec}
theorem d3h {c:Int} (h:0≤c):cX m st ((c.toNat:Nat):Int)=cX m st c:=by rw[show((c.toNat:Nat):Int)=c by omega]
theorem Wr.far (h:Wr m st st' d r) {c:Int} (h0:0≤c) (hc:c≠d):cX m st' c=cX m st c:=h.other (by have:=h.zero;omega)
end
end Go.Mo
