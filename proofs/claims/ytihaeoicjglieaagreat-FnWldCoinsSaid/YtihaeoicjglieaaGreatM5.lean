/-
  Plain laws of the whole: parcels: what a record does to a cell's sides.
-/
import Derived.Test.YtihaeoicjglieaaGreatM4
import Derived.Test.YtihaeoicjglieaaGreatM3
import Derived.Test.YtihaeoicjglieaaGreatM1
set_option linter.unusedVariables false
set_option linter.unusedSimpArgs false
namespace Go.Mo
open Go.Sx
theorem a4Q {m:PMap} {c:Cll} {o:Ord} (hc:s6 m c=true) (ho:O2 o=true) {s:Nat} (hs:s<2) :
  (J0 m c o).c.ins=c.ins∧((nth .pcls (J0 m c o).c.outs s=nth .pcls c.outs s ∧ @Eq Int (nth .int (J0 m c o).c.next s) (nth .int c.next s)) ∨
   ∃p:Pcl,nth .pcls (J0 m c o).c.outs s=nth .pcls c.outs s ++ [p] ∧ @Eq Int p.n (nth .int c.next s) ∧ @Eq Int (nth .int (J0 m c o).c.next s) (nth .int c.next s+1)):=by
 have hf:=n5 hc
 have hoi:=J9.1 ho
 have hdst:o.kind=1∨o.kind=5→o.dest.toNat<2:=fun h=>by omega
 clear hoi
 have triv:c.ins=c.ins∧((nth .pcls c.outs s=nth .pcls c.outs s ∧ @Eq Int (nth .int c.next s) (nth .int c.next s)) ∨ ∃p:Pcl,nth .pcls c.outs s=nth .pcls c.outs s ++ [p] ∧ @Eq Int p.n (nth .int c.next s) ∧ @Eq Int (nth .int c.next s) (nth .int c.next s+1)):=⟨rfl,.inl ⟨rfl,rfl⟩⟩
 have send : ∀(d:Nat) (q:Pcl),d<2→((nth .pcls (D5 c d q) s=nth .pcls c.outs s ∧ @Eq Int (nth .int (H9 c d) s) (nth .int c.next s)) ∨
   ∃p:Pcl,nth .pcls (D5 c d q) s=nth .pcls c.outs s ++ [p] ∧ @Eq Int p.n (nth .int c.next s) ∧ @Eq Int (nth .int (H9 c d) s) (nth .int c.next s+1)):=fun d q hd=>by
  unfold D5 H9
  by_cases he:d=s
  ·subst he
   right
   exact⟨_,l9 .pcls (by omega),rfl,l9 .int (by omega)⟩
  ·left
   exact⟨n6 .pcls he,n6 .int he⟩
 unfold J0
 split
 ·exact triv
 simp only
 split
 ·exact triv
 split
 ·exact triv
 unfold Q8
 split
 ·unfold a0t
  split
  ·exact triv
  split
  ·exact triv
  split
  ·exact triv
  exact⟨rfl,send _ _ (hdst (.inl (by assumption)))⟩
 split
 ·unfold a0v
  split
  ·exact triv
  split
  ·exact triv
  split
  ·exact triv
  exact triv
 split
 ·unfold a0w
  split
  ·exact triv
  split
  ·exact triv
  exact triv
 split
 ·unfold a0u
  split
  ·exact triv
  split
  ·exact triv
  exact triv
 split
 ·unfold U3
  split
  ·exact triv
  split
  ·exact triv
  split
  ·exact triv
  exact⟨rfl,send _ _ (hdst (.inr (by assumption)))⟩
 ·exact triv
theorem R9 {m:PMap} {c:Cll} {d:Nat} {p:Pcl} (h:(y6 m c d p).ok=true):(y6 m c d p).c.outs=c.outs∧(y6 m c d p).c.next=c.next∧(y6 m c d p).c.ins=E7 c d ∧ @Eq Int p.n (nth .int c.ins d):=by
 unfold y6 at h ⊢
 split at h
 ·cases h
 rename_i h1
 rw[if_neg h1]
 have hn : @Eq Int p.n (nth .int c.ins d):=by
  rcases Decidable.em (p.n=nth .int c.ins d)with h2|h2
  ·exact h2
  ·exact absurd (.inl h2) h1
 split at h
 ·rw[if_pos (by assumption)]
  exact⟨rfl,rfl,rfl,hn⟩
 ·rename_i h2
  rw[if_neg h2]
  split at h
  ·cases h
  ·rename_i h3
   rw[if_neg h3]
   exact⟨rfl,rfl,rfl,hn⟩
theorem a0m {c:Cll} {d:Nat} {n:Int} (h:(G9 c d n).ok=true):(G9 c d n).c.outs=R3 c d n∧(G9 c d n).c.next=c.next∧(G9 c d n).c.ins=c.ins ∧ @LE.le Int _ n (nth .int c.next d) ∧ @LT.lt Int _ (nth .int c.next d-(nth .pcls c.outs d).length) n:=by
 unfold G9 at h ⊢
 split at h
 ·cases h
 ·rename_i h1
  rw[if_neg h1]
  refine⟨rfl,rfl,rfl,?_,?_⟩
  ·exact Int.not_lt.1 fun hh=>h1 (.inl hh)
  ·exact Int.not_le.1 fun hh=>h1 (.inr hh)
theorem a0Z {m:PMap} {c:Cll} {r:Rec} (hk:r.kind=1) (h:(l7 m c r).ok=true):O6 c r.ord=true∧(l7 m c r).c=(J0 m c r.ord).c∧(l7 m c r).code=(J0 m c r.ord).code:=by
 unfold l7 at h ⊢
 rw[if_pos hk]at h ⊢
 split at h
 ·rename_i hf
  rw[if_pos hf]
  exact⟨hf,rfl,rfl⟩
 ·cases h
theorem a0c {m:PMap} {c:Cll} {r:Rec} (hk:r.kind=2) (h:(l7 m c r).ok=true):b7 m c.cell r.side ≠ -1∧(y6 m c r.side.toNat r.pcl).ok=true∧(l7 m c r).c=(y6 m c r.side.toNat r.pcl).c:=by
 unfold l7 at h ⊢
 rw[if_neg (show ¬r.kind=1 by omega)]at h ⊢
 by_cases hs:b7 m c.cell r.side = -1
 ·rw[if_pos hs]at h
  cases h
 ·rw[if_neg hs]at h ⊢
  rw[if_pos hk]at h ⊢
  exact⟨hs,h,rfl⟩
theorem a0z {m:PMap} {c:Cll} {r:Rec} (hk:r.kind=3) (h:(l7 m c r).ok=true):b7 m c.cell r.side ≠ -1∧(G9 c r.side.toNat r.n).ok=true∧(l7 m c r).c=(G9 c r.side.toNat r.n).c:=by
 unfold l7 at h ⊢
 rw[if_neg (show ¬r.kind=1 by omega)]at h ⊢
 by_cases hs:b7 m c.cell r.side = -1
 ·rw[if_pos hs]at h
  cases h
 ·rw[if_neg hs]at h ⊢
  rw[if_neg (show ¬r.kind=2 by omega)]at h ⊢
  exact⟨hs,h,rfl⟩
theorem a0T {m:PMap} {r:Rec} (h:H4 m r=true):(r.kind=1∧O2 r.ord=true)∨(r.kind=2∧(r.side=0∨r.side=1)∧I8 m r.pcl=true)∨(r.kind=3∧(r.side=0∨r.side=1)):=by
 simp only[H4,decide_eq_true_eq]at h
 obtain⟨_,h2,h3⟩:=h
 rw[Q2]at h2
 rcases h2 with h2|h2|h2
 ·exact .inl ⟨h2.1,h2.2.1⟩
 ·exact .inr (.inl ⟨h2.1,h2.2.1,h3 h2.1⟩)
 ·exact .inr (.inr ⟨h2.1,h2.2.1⟩)
theorem d2X {m:PMap} {c:Cll} {r:Rec} (h:(l7 m c r).ok=false):(l7 m c r).c=c:=by
 unfold l7 at h ⊢
 by_cases k1:r.kind=1
 ·rw[if_pos k1]at h ⊢
  by_cases hf:O6 c r.ord=true
  ·rw[if_pos hf]at h
   cases h
  ·rw[if_neg hf]
 ·rw[if_neg k1]at h ⊢
  by_cases hs:b7 m c.cell r.side = -1
  ·rw[if_pos hs]
  ·rw[if_neg hs]at h ⊢
   by_cases k2:r.kind=2
   ·rw[if_pos k2]at h ⊢
    exact c4f h
   ·rw[if_neg k2]at h ⊢
    exact c9U h
theorem c8g {m:PMap} {c:Cll} {l:List Rec} (h:s6 m c=true) : ∀ {k:Nat},m8 k (P2 m c l)=true→s6 m (v8 m c l k)=true:=fun hk=>a7X h hk
theorem b5c {m:PMap} {c:Cll} {r:Rec} (hc:s6 m c=true) (hr:H4 m r=true) {s:Nat} (hs:s<2) : @LE.le Int _ (nth .int c.ins s) (nth .int (l7 m c r).c.ins s):=by
 have hf:=n5 hc
 cases hok:(l7 m c r).ok with
 |false=>rw[d2X hok];exact Int.le_refl _
 |true =>
  rcases a0T hr with ⟨hk,ho⟩|⟨hk,hsd,hp⟩|⟨hk,hsd⟩
  ·rw[(a0Z hk hok).2.1,(a4Q hc ho hs).1]
   exact Int.le_refl _
  ·obtain⟨h1,h2,h3⟩:=a0c hk hok
   rw[h3,(R9 h2).2.2.1]
   unfold E7
   by_cases he:r.side.toNat=s
   ·rw[he,l9 .int (by omega)]
    show @LE.le Int _ _ (_+1)
    generalize (nth .int c.ins s:Int)=a
    omega
   ·rw[n6 .int he]
    exact Int.le_refl _
  ·obtain⟨h1,h2,h3⟩:=a0z hk hok
   rw[h3,(a0m h2).2.2.1]
   exact Int.le_refl _
theorem d1X {m:PMap} {s:Sto} (hs:B1 m s=true) {d:Nat} (hd:d<2) : ∀ {j k:Nat},k≤j→j≤s.recs.length → @LE.le Int _ (nth .int (v8 m s.base s.recs k).ins d) (nth .int (v8 m s.base s.recs j).ins d):=by
 have hh:=y7.1 hs
 have hall:=(m4 _ _).1 (c0o hh.2.2.2)
 intro j
 induction j with
 |zero=>intro k hk _;rw[show k=0 by omega];exact Int.le_refl _
 |succ j ih =>
  intro k hk hj
  by_cases he:k=j+1
  ·rw[he];exact Int.le_refl _
  ·refine Int.le_trans (ih (k:=k) (by omega) (by omega)) ?_
   have hfit:=hall j (by omega)
   simp only[P2,Bool.and_eq_true]at hfit
   exact b5c (c8g hh.2.1 (k:=j) ((m4 _ _).2 fun i hi=>hall i (by omega))) hfit.1 hd
def cX (m:PMap) (st:List Sto) (c:Int):Cll:=q9 m (stAt st c)
def inX (m:PMap) (st:List Sto) (c s:Int):Int:=nth .int (cX m st c).ins s.toNat
def nxX (m:PMap) (st:List Sto) (c s:Int):Int:=nth .int (cX m st c).next s.toNat
def ouX (m:PMap) (st:List Sto) (c s:Int):List Pcl:=nth .pcls (cX m st c).outs s.toNat
def pfX (m:PMap) (st:List Sto) (c:Int) (k:Nat):Cll:=v8 m (stAt st c).base (stAt st c).recs k
structure Wr (m:PMap) (st st':List Sto) (d:Int) (r:Rec):Prop where
 zero:0≤d
 lt:d.toNat<st.length
 ok:B1 m (stAt st d)=true
 cell:(stAt st d).base.cell=d
 is : ∃a,st'=st.set d.toNat ⟨a,(stAt st d).base,(stAt st d).recs ++ [r]⟩
 log:H4 m r=true
 fits:(l7 m (cX m st d) r).ok=true
theorem Wr.at {m:PMap} {st st':List Sto} {d:Int} {r:Rec} (h:Wr m st st' d r):(stAt st' d).base=(stAt st d).base∧(stAt st' d).recs=(stAt st d).recs ++ [r]:=by
 obtain⟨a,e⟩:=h.is
 rw[e,L8 h.lt,if_pos rfl]
 exact⟨rfl,rfl⟩
theorem Wr.off {m:PMap} {st st':List Sto} {d:Int} {r:Rec} (h:Wr m st st' d r) {c:Int} (hc:c.toNat≠d.toNat):stAt st' c=stAt st c:=by
 obtain⟨a,e⟩:=h.is
 rw[e,L8 h.lt,if_neg hc]
theorem Wr.self {m:PMap} {st st':List Sto} {d:Int} {r:Rec} (h:Wr m st st' d r):cX m st' d=(l7 m (cX m st d) r).c:=by
 have hh:=y7.1 h.ok
 unfold cX q9
 rw[h.at.1,h.at.2]
 exact c8h hh.2.2.2 h.log h.fits
theorem Wr.other {m:PMap} {st st':List Sto} {d:Int} {r:Rec} (h:Wr m st st' d r) {c:Int} (hc:c.toNat≠d.toNat):cX m st' c=cX m st c:=by
 unfold cX
 rw[h.off hc]
theorem Wr.cok {m:PMap} {st st':List Sto} {d:Int} {r:Rec} (h:Wr m st st' d r):s6 m (cX m st d)=true∧(cX m st d).cell=d:=⟨a1C h.ok,by unfold cX;rw[a0i,h.cell]⟩
theorem Wr.grow {m:PMap} {st st':List Sto} {d:Int} {r:Rec} (h:Wr m st st' d r):Grow m st st':=by
 obtain⟨a,e⟩:=h.is
 rw[e]
 refine⟨by simp,fun c => ?_,fun c => ?_⟩
 ·rw[L8 h.lt]
  split
  ·rename_i hh
   unfold stAt
   rw[hh]
  ·rfl
 ·rw[L8 h.lt]
  split
  ·rename_i hh
   refine⟨[r],?_⟩
   unfold stAt
   rw[hh]
  ·exact⟨[],by simp⟩
structure Lsame (st st':List Sto):Prop where
 len:st'.length=st.length
 same : ∀c:Int,(stAt st' c).base=(stAt st c).base∧(stAt st' c).recs=(stAt st c).recs
theorem Lsame.refl (st:List Sto):Lsame st st:=⟨rfl,fun _=>⟨rfl,rfl⟩⟩
theorem Lsame.cX {m:PMap} {st st':List Sto} (h:Lsame st st') (c:Int):cX m st' c=cX m st c:=by
 unfold Mo.cX q9
 rw[(h.same c).1,(h.same c).2]
inductive Wrote (m:PMap) (s:Srv) (st st':List Sto) (x:Msg):Prop
 |no (h:Lsame st st')
 |yes (h:Wr m st st' x.cell (o7 x)) (hk:x.kind=2∨x.kind=5∨x.kind=6) (hh:A6 s x.cell=true) (hs:(j6 s x.cell).state=cX m st x.cell)
   (hf:x.kind=2→u3 (cX m st x.cell).wlks x.ord.who=true∧(E3 (cX m st x.cell).wlks x.ord.who).seq<x.ord.seq)
theorem a4K {w:Wld} (hf:Fence w) {k:Nat} {x:Msg} {X:SH} (h:Heard w k x X):Wrote w.map (nth .srv w.servers x.dest.toNat) w.stores X.stores x:=by
 have hcs:=a2x h.stos h.ok
 have he:=h.eff
 generalize X.srv=s' at *
 generalize X.stores=st' at *
 cases he with
 |same=>exact .no (.refl _)
 |ghost=>exact .no (.refl _)
 |lost=>exact .no (.refl _)
 |grant hu hk hn ha =>
  refine .no ⟨by simp,fun c => ?_⟩
  rw[L8 hcs.2.1]
  split
  ·rename_i hh
   unfold n8 stAt
   rw[hh]
   exact⟨rfl,rfl⟩
  ·exact⟨rfl,rfl⟩
 |write hu hk hh ha hc hl hr h1 h2 hff hp =>
  obtain⟨hmem,hcc⟩:=H8 hh
  have hI:=hf.hold _ h.lt _ hmem
  have hO:stAt w.stores (j6 (nth .srv w.servers x.dest.toNat) x.cell).state.cell=n8 w.stores x:=by rw[hcc];rfl
  have hst:=hI.state
  rw[hO,hc]at hst
  simp only[Int.toNat_natCast]at hst
  rw[←a5c hcs.2.2.1]at hst
  have hst':(j6 (nth .srv w.servers x.dest.toNat) x.cell).state=cX w.map w.stores x.cell:=hst
  refine .yes ⟨hcs.1,hcs.2.1,hcs.2.2.1,hcs.2.2.2,⟨_,rfl⟩,hr,h1⟩ hk hh hst' (fun hk2 => ?_)
  rw[←hst']
  exact hff hk2
def Sent (m:PMap) (st:List Sto) (c s:Int) (p:Pcl):Prop:=p.n<inX m st (b7 m c s) (1-s)∨p∈ouX m st c s
structure Mail (w:Wld):Prop where
 seq : ∀c s,b7 w.map c s ≠ -1→inX w.map w.stores (b7 w.map c s) (1-s)≤nxX w.map w.stores c s∧nxX w.map w.stores c s-(ouX w.map w.stores c s).length≤inX w.map w.stores (b7 w.map c s) (1-s)
 old : ∀c s,b7 w.map c s ≠ -1 → ∀k,k≤(stAt w.stores c).recs.length → ∀p∈nth .pcls (pfX w.map w.stores c k).outs s.toNat,Sent w.map w.stores c s p
 pcl : ∀x∈w.net,x.kind=5→Sent w.map w.stores (b7 w.map x.cell x.side) (1-x.side) x.pcl
 got : ∀x∈w.net,x.kind=6→x.n≤inX w.map w.stores (b7 w.map x.cell x.side) (1-x.side)
theorem Lsame.in {m:PMap} {st st':List Sto} (h:Lsame st st') (c s:Int):inX m st' c s=inX m st c s:=by unfold inX;rw[h.cX]
theorem Lsame.nx {m:PMap} {st st':List Sto} (h:Lsame st st') (c s:Int):nxX m st' c s=nxX m st c s:=by unfold nxX;rw[h.cX]
theorem Lsame.ou {m:PMap} {st st':List Sto} (h:Lsame st st') (c s:Int):ouX m st' c s=ouX m st c s:=by unfold ouX;rw[h.cX]
theorem Lsame.sent {m:PMap} {st st':List Sto} (h:Lsame st st') {c s:Int} {p:Pcl} (hp:Sent m st c s p):Sent m st' c s p:=by
 unfold Sent
 rw[h.in,h.ou]
 exact hp
theorem K3 {m:PMap} {c s:Int} (h:b7 m c s ≠ -1):s.toNat<2∧(1-s).toNat<2∧0≤s∧s≤1:=by
 have:=(z6 h).1
 omega
theorem b7V {m:PMap} {c s:Int} (h:b7 m c s ≠ -1):(b7 m c s).toNat≠c.toNat:=by
 have:=z6 h
 omega
theorem Wr.ins {m:PMap} {st st':List Sto} {d:Int} {r:Rec} (h:Wr m st st' d r) (c:Int) {s:Int} (hs:s.toNat<2):inX m st c s≤inX m st' c s:=by
 by_cases hc:c.toNat=d.toNat
 ·have e:cX m st c=cX m st d:=by unfold cX stAt;rw[hc]
  have e':cX m st' c=cX m st' d:=by unfold cX stAt;rw[hc]
  unfold inX
  rw[e,e',h.self]
  exact b5c h.cok.1 h.log hs
 ·unfold inX
  rw[h.other hc]
  exact Int.le_refl _
theorem Wr.sent {m:PMap} {st st':List Sto} {d:Int} {r:Rec} (h:Wr m st st' d r) (hack:r.kind=3→r.n≤inX m st (b7 m d r.side) (1-r.side)) {c s:Int} (hs:b7 m c s ≠ -1) {p:Pcl} (hp:Sent m st c s p):Sent m st' c s p:=by
 have h2:=K3 hs
 have hmono:=h.ins (b7 m c s) (s:=1-s) h2.2.1
 rcases hp with hp|hp
 ·exact .inl (Int.lt_of_lt_of_le hp hmono)
 ·by_cases hc:c.toNat=d.toNat
  ·have hcd:c=d:=by
    have:=z6 hs
    have:=h.zero
    omega
   subst hcd
   have hok:=h.fits
   have hcf:=n5 h.cok.1
   unfold ouX at hp
   rcases a0T h.log with ⟨hk,ho⟩|⟨hk,hsd,hpo⟩|⟨hk,hsd⟩
   ·right
    unfold ouX
    rw[h.self,(a0Z hk hok).2.1]
    rcases(a4Q (m:=m) h.cok.1 ho h2.1).2 with ⟨e,_⟩|⟨q,e,_⟩
    ·rw[e];exact hp
    ·rw[e];exact List.mem_append_left _ hp
   ·right
    unfold ouX
    obtain⟨g1,g2,g3⟩:=a0c hk hok
    rw[h.self,g3,(R9 g2).1]
    exact hp
   ·obtain⟨g1,g2,g3⟩:=a0z hk hok
    by_cases he:r.side.toNat=s.toNat
    ·have hes:r.side=s:=by omega
     have hn:=hack hk
     rw[hes]at hn
     by_cases hpn:r.n≤p.n
     ·right
      unfold ouX
      rw[h.self,g3,(a0m g2).1]
      unfold R3
      rw[he,l9 .pcls (by omega)]
      exact List.mem_filter.2 ⟨hp,by simpa using hpn⟩
     ·left
      omega
    ·right
     unfold ouX
     rw[h.self,g3,(a0m g2).1]
     unfold R3
     rw[n6 .pcls he]
     exact hp
  ·right
   unfold ouX
   rw[h.other hc]
   exact hp
theorem b6e {m:PMap} {l:List Pcl} {n:Int} (h:u6 m l n=true) {i:Nat} (hi:i<l.length):(nth .pcl l i).n=n-l.length+i:=by
 simp only[u6,Bool.and_eq_true]at h
 have:=(m4 _ _).1 h.2 i hi
 simp only[a2X,Bool.and_eq_true,decide_eq_true_eq]at this
 exact this.2
theorem Wr.seq {m:PMap} {st st':List Sto} {d:Int} {r:Rec} (h:Wr m st st' d r) (hack:r.kind=3→r.n≤inX m st (b7 m d r.side) (1-r.side)) (hin:r.kind=2→Sent m st (b7 m d r.side) (1-r.side) r.pcl)
  (hall : ∀c:Int,0≤c→c<m.cells→s6 m (cX m st c)=true)
  {c s:Int} (hs:b7 m c s ≠ -1) (hq:inX m st (b7 m c s) (1-s)≤nxX m st c s∧nxX m st c s-(ouX m st c s).length≤inX m st (b7 m c s) (1-s)) :
  inX m st' (b7 m c s) (1-s)≤nxX m st' c s∧nxX m st' c s-(ouX m st' c s).length≤inX m st' (b7 m c s) (1-s):=by
 have h2:=K3 hs
 have hb:=z6 hs
 have hfar:=b7V hs
 have hok:=h.fits
 have hcf:=n5 h.cok.1
 by_cases hc:c.toNat=d.toNat
 ·have hcd:c=d:=by have:=h.zero;omega
  subst hcd
  have e1:inX m st' (b7 m c s) (1-s)=inX m st (b7 m c s) (1-s):=by unfold inX;rw[h.other hfar]
  rw[e1]
  unfold nxX ouX at hq ⊢
  rw[h.self]
  rcases a0T h.log with ⟨hk,ho⟩|⟨hk,hsd,hpo⟩|⟨hk,hsd⟩
  ·rw[(a0Z hk hok).2.1]
   rcases(a4Q (m:=m) h.cok.1 ho h2.1).2 with ⟨e,e'⟩|⟨q,e,_,e'⟩
   ·rw[e,e'];exact hq
   ·rw[e,e',List.length_append,List.length_singleton]
    generalize (nth .int (cX m st c).next s.toNat:Int)=N at *
    omega
  ·obtain⟨g1,g2,g3⟩:=a0c hk hok
   rw[g3,(R9 g2).1,(R9 g2).2.1]
   exact hq
  ·obtain⟨g1,g2,g3⟩:=a0z hk hok
   obtain⟨r1,r2,r3,r4,r5⟩:=a0m g2
   rw[g3,r1,r2]
   unfold R3
   by_cases he:r.side.toNat=s.toNat
   ·have hes:r.side=s:=by omega
    have hn:=hack hk
    rw[hes]at hn
    rw[he]at r4 r5 ⊢
    rw[l9 .pcls (by omega)]
    have hl:=(D3 h.cok.1 h2.1).2.2.2
    have hd:=a7l (x:=r.n) hl (by
     generalize (nth .int (cX m st c).next s.toNat:Int)=N at *
     omega)
    rw[hd,List.length_drop]
    refine⟨hq.1,?_⟩
    generalize (nth .int (cX m st c).next s.toNat:Int)=N at *
    omega
   ·rw[n6 .pcls he]
    exact hq
 ·have e1:nxX m st' c s=nxX m st c s:=by unfold nxX;rw[h.other hc]
  have e2:ouX m st' c s=ouX m st c s:=by unfold ouX;rw[h.other hc]
  rw[e1,e2]
  by_cases hc2:(b7 m c s).toNat=d.toNat
  ·have hcd:b7 m c s=d:=by have:=h.zero;omega
   rw[hcd]at hq ⊢
   unfold inX at hq ⊢
   rw[h.self]
   rcases a0T h.log with ⟨hk,ho⟩|⟨hk,hsd,hpo⟩|⟨hk,hsd⟩
   ·rw[(a0Z hk hok).2.1,(a4Q (m:=m) h.cok.1 ho h2.2.1).1]
    exact hq
   ·obtain⟨g1,g2,g3⟩:=a0c hk hok
    obtain⟨r1,r2,r3,r4⟩:=R9 g2
    rw[g3,r3]
    unfold E7
    by_cases he:r.side.toNat=(1-s).toNat
    ·have hes:r.side=1-s:=by omega
     rw[he]at r4 ⊢
     rw[l9 .int (by omega)]
     have hS:=hin hk
     rw[hes,←hcd,hb.2.2.2.2.2.2.1]at hS
     have hcs:1-(1-s)=s:=by omega
     rw[hcs]at hS
     unfold Sent at hS
     have hp:r.pcl∈ouX m st c s:=by
      rcases hS with h3|h3
      ·exfalso
       rw[hcd]at h3
       unfold inX at h3
       generalize (nth .int (cX m st d).ins (1-s).toNat:Int)=I at *
       omega
      ·exact h3
     have hl:=(D3 (hall c hb.2.2.1 hb.2.2.2.1) h2.1).2.2.2
     unfold ouX at hp
     obtain⟨i,hi,he2⟩:=P6 .pcl hp
     have hlt:=b6e hl hi
     rw[he2]at hlt
     unfold nxX ouX at hq ⊢
     show @LE.le Int _ (_+1) _ ∧ @LE.le Int _ _ (_+1)
     generalize (nth .int (cX m st d).ins (1-s).toNat:Int)=I at *
     generalize (nth .int (cX m st c).next s.toNat:Int)=N at *
     omega
    ·rw[n6 .int he]
     exact hq
   ·obtain⟨g1,g2,g3⟩:=a0z hk hok
    rw[g3,(a0m g2).2.2.1]
    exact hq
  ·have e3:inX m st' (b7 m c s) (1-s)=inX m st (b7 m c s) (1-s):=by unfold inX;rw[h.other hc2]
   rw[e3]
   exact hq
theorem c7O {m:PMap} {s:Srv} {st:List Sto} {t:Arb} {v:Int} {x z:Msg} (hv:a5x m s st t v x) (hz:z∈(o6 m s st t x).out) (hk:z.kind=6) :
  x.kind=5∧A6 s x.cell=true∧z.cell=b7 m x.cell x.side∧z.side=1-x.side ∧
  ((@Eq Int z.n (nth .int (j6 s x.cell).state.ins x.side.toNat)∧(o6 m s st t x).stores=st) ∨
   (@Eq Int z.n (nth .int (j6 s x.cell).state.ins x.side.toNat+1)∧(y4 m (j6 s x.cell) (n8 st x) (o7 x)).n=1∧(o6 m s st t x).stores=st.set x.cell.toNat ⟨(n8 st x).age,(n8 st x).base,(n8 st x).recs ++ [o7 x]⟩)):=by
 obtain⟨_,_,hall,hsort⟩:=C3.1 hv.1
 unfold o6 at hz ⊢
 by_cases hu0:s.up=false∨x.dest = -1
 ·rw[if_pos hu0]at hz
  cases hz
 rw[if_neg hu0]at hz ⊢
 by_cases k1:x.kind=1
 ·rw[if_pos k1]at hz
  exfalso
  unfold M5 at hz
  split at hz
  ·cases hz
  ·split at hz<;>cases hz
 rw[if_neg k1]at hz ⊢
 by_cases k7:x.kind=7
 ·rw[if_pos k7]at hz
  cases hz
 rw[if_neg k7]at hz ⊢
 by_cases kh:A6 s x.cell=false
 ·rw[if_pos kh]at hz
  cases hz
 rw[if_neg kh]at hz ⊢
 have hh:A6 s x.cell=true:=by simpa using kh
 by_cases k2:x.kind=2
 ·rw[if_pos k2]at hz
  exfalso
  unfold Y2 at hz
  simp only at hz
  split at hz
  ·simp only[List.mem_singleton]at hz
   subst hz
   exact absurd (show(4:Int)=6 from hk) (by decide)
  ·split at hz
   ·cases hz
   ·split at hz
    ·simp only at hz
     split at hz
     ·cases hz
     ·simp only[List.mem_singleton]at hz
      subst hz
      exact absurd (show(3:Int)=6 from hk) (by decide)
    ·simp only at hz
     split at hz
     ·simp only[List.mem_singleton]at hz
      subst hz
      exact absurd (show(3:Int)=6 from hk) (by decide)
     ·cases hz
 rw[if_neg k2]at hz ⊢
 by_cases k5:x.kind=5
 ·rw[if_pos k5]at hz ⊢
  have er:o7 x=⟨2,u5,x.side,x.pcl,0⟩:=by rw[o7,if_neg k2,if_pos k5]
  have got : ∀n:Int,z∈U6 m t x n→z.cell=b7 m x.cell x.side∧z.side=1-x.side∧z.n=n:=fun n h=>by
   unfold U6 at h
   split at h
   ·cases h
   ·simp only[List.mem_singleton]at h
    subst h
    exact⟨rfl,rfl,rfl⟩
  unfold Y1 at hz ⊢
  simp only at hz ⊢
  by_cases hq:x.pcl.n<nth .int (j6 s x.cell).state.ins x.side.toNat
  ·rw[if_pos hq]at hz ⊢
   obtain⟨g1,g2,g3⟩:=got _ hz
   exact⟨k5,hh,g1,g2,.inl ⟨g3,rfl⟩⟩
  ·rw[if_neg hq]at hz ⊢
   rw[←er]at hz ⊢
   simp only at hz ⊢
   rcases a9p (m:=m) (s:=s) (st:=st) (cell:=x.cell) (r:=o7 x) hsort with ⟨w1,w2,w3⟩|⟨w1,_,w3⟩|⟨w1,_⟩
   ·rw[if_pos w1]at hz
    obtain⟨g1,g2,g3⟩:=got _ hz
    refine⟨k5,hh,g1,g2,.inr ⟨g3,w2,?_⟩⟩
    rw[w3]
    rfl
   ·rw[w1]at hz
    simp only[show ¬((2:Int)=1) by decide,if_false]at hz
    cases hz
   ·rw[if_neg w1]at hz
    cases hz
 ·rw[if_neg k5]at hz
  cases hz
theorem c9h {m:PMap} {s:Srv} {t:Arb} {cell:Int} {z:Msg} (h:z∈D7 m s t cell) (hk:z.kind=5) : ∃sd:Int,(sd=0∨sd=1)∧A6 s cell=true∧z.cell=b7 m cell sd∧z.side=1-sd∧b7 m cell sd ≠ -1∧z.pcl∈nth .pcls (j6 s cell).state.outs sd.toNat:=by
 unfold D7 at h
 split at h
 ·rename_i hh
  have side : ∀sd,(sd=0∨sd=1)→z∈C4 m t (j6 s cell) cell sd → ∃sd:Int,(sd=0∨sd=1)∧A6 s cell=true∧z.cell=b7 m cell sd∧z.side=1-sd∧b7 m cell sd ≠ -1∧z.pcl∈nth .pcls (j6 s cell).state.outs sd.toNat:=fun sd hsd hz=>by
   unfold C4 at hz
   simp only at hz
   split at hz
   ·cases hz
   ·rename_i hn
    rcases List.mem_append.1 hz with hz|hz
    ·obtain⟨p,hp,rfl⟩:=List.mem_map.1 hz
     exact⟨sd,hsd,hh,rfl,rfl,fun h=>hn (.inl h),List.mem_of_mem_take hp⟩
    ·obtain⟨_,_,rfl⟩:=List.mem_map.1 hz
     cases hk
  rcases List.mem_append.1 h with h|h
  ·exact side _ (.inl rfl) h
  ·exact side _ (.inr rfl) h
 ·cases h
theorem a1P {w:Wld} (hok:j8 w=true) {c:Int} (h0:0≤c) (h1:c<w.map.cells):c.toNat<w.stores.length∧B1 w.map (stAt w.stores c)=true∧(stAt w.stores c).base.cell=c∧s6 w.map (cX w.map w.stores c)=true:=by
 obtain⟨_,h2,_⟩:=n0.1 hok
 obtain⟨_,g2,g3⟩:=D0.1 h2
 have hl:c.toNat<w.stores.length:=by omega
 have:=g3 _ hl
 exact⟨hl,this.1,by unfold stAt;rw[this.2];omega,a1C this.1⟩
theorem a4I {w:Wld} (hf:Fence w) {i:Nat} (hi:i<w.servers.length) {h:Hld} (hm:h∈(nth .srv w.servers i).holds):h.state=pfX w.map w.stores h.state.cell h.count.toNat∧h.count.toNat≤(stAt w.stores h.state.cell).recs.length:=by
 have hI:=hf.hold i hi h hm
 exact⟨hI.state,by have:=hI.count;have:=hI.zero;omega⟩
theorem b6d {m:PMap} {st:List Sto} {c:Int} (h:B1 m (stAt st c)=true):pfX m st c (stAt st c).recs.length=cX m st c:=(a5c h).symm
theorem c7x {w w':Wld} (hok:j8 w=true) (hf:Fence w) (hm:Mail w) (hs:StepC w w'):Mail w':=by
 obtain⟨h1,h2,h3,h4,h5,h6,h7,h8,h9⟩:=n0.1 hok
 have quiet : ∀ {w':Wld},w'.map=w.map→w'.stores=w.stores→(∀x∈w'.net,x.kind=5∨x.kind=6→x∈w.net)→Mail w':=fun {w'} e1 e2 e3=>by
  refine⟨?_,?_,fun x hx hk => ?_,fun x hx hk => ?_⟩
  ·rw[e1,e2];exact hm.seq
  ·rw[e1,e2];exact hm.old
  ·rw[e1,e2];exact hm.pcl x (e3 x hx (.inl hk)) hk
  ·rw[e1,e2];exact hm.got x (e3 x hx (.inr hk)) hk
 cases hs with
 |same=>exact hm
 |grant cell server hgr =>
  refine quiet rfl rfl fun x hx hk => ?_
  rcases F9 hx with hx|hx
  ·exact hx
  ·simp only[List.mem_singleton]at hx
   subst hx
   rcases hk with hk|hk<;>cases hk
 |ask=>exact quiet rfl rfl fun x hx _=>hx
 |say who hs =>
  refine quiet rfl rfl fun x hx hk => ?_
  rcases F9 hx with hx|hx
  ·exact hx
  ·simp only[List.mem_singleton]at hx
   subst hx
   rw[a6T hs]at hk
   rcases hk with hk|hk<;>cases hk
 |gate i hi hd=>exact quiet rfl rfl fun x hx _=>a4S (i:=i) hx
 |lose i hi=>exact quiet rfl rfl fun x hx _=>a4S hx
 |twice i hi =>
  refine quiet rfl rfl fun x hx hk => ?_
  rcases F9 hx with hx|hx
  ·exact hx
  ·simp only[List.mem_singleton]at hx
   subst hx
   exact s4 .msg hi
 |fall i hi=>exact quiet rfl rfl fun x hx _=>hx
 |rise i hi hu=>exact quiet rfl rfl fun x hx _=>hx
 |tick i hi cell =>
  refine⟨hm.seq,hm.old,fun x hx hk => ?_,fun x hx hk => ?_⟩
  ·rcases F9 hx with hx|hx
   ·exact hm.pcl x hx hk
   ·obtain⟨sd,hsd,hh,e1,e2,hne,hp⟩:=c9h hx hk
    obtain⟨hmem,hcc⟩:=H8 hh
    obtain⟨p1,p2⟩:=a4I hf hi hmem
    have hb:=z6 hne
    rw[e1,e2]
    show Sent w.map w.stores (b7 w.map (b7 w.map cell sd) (1-sd)) (1-(1-sd)) x.pcl
    rw[hb.2.2.2.2.2.2.1,show 1-(1-sd)=sd by omega]
    rw[p1,hcc]at hp
    rw[hcc]at p2
    exact hm.old cell sd hne _ p2 _ hp
  ·rcases F9 hx with hx|hx
   ·exact hm.got x hx hk
   ·have:=a8q hx
    omega
 |hear i hi hd =>
  obtain⟨X,hX,e⟩:=heard hok hi hd
  rw[e]
  generalize nth .msg w.net i=x at *
  have hv:a5x w.map (nth .srv w.servers x.dest.toNat) w.stores w.table w.servers.length x:=⟨hX.srv,hX.stos,hX.arb,hX.ok⟩
  have hw:=a4K hf hX
  have hcs:=a2x hX.stos hX.ok
  have hmo:=b1O hX.ok
  have hack:(o7 x).kind=3→(x.kind=2∨x.kind=5∨x.kind=6)→(o7 x).n≤inX w.map w.stores (b7 w.map x.cell (o7 x).side) (1-(o7 x).side):=fun hk hkk=>by
   have k6:x.kind=6:=by
    rcases hkk with h0|h0|h0
    ·rw[o7,if_pos h0]at hk;cases hk
    ·rw[o7,if_neg (by omega),if_pos h0]at hk;cases hk
    ·exact h0
   have er:o7 x=⟨3,u5,x.side,y8,x.n⟩:=by rw[o7,if_neg (by omega),if_neg (by omega)]
   rw[er]
   exact hm.got x hX.mem k6
  have hin:(o7 x).kind=2→(x.kind=2∨x.kind=5∨x.kind=6)→Sent w.map w.stores (b7 w.map x.cell (o7 x).side) (1-(o7 x).side) (o7 x).pcl:=fun hk hkk=>by
   have k5:x.kind=5:=by
    rcases hkk with h0|h0|h0
    ·rw[o7,if_pos h0]at hk;cases hk
    ·exact h0
    ·rw[o7,if_neg (by omega),if_neg (by omega)]at hk;cases hk
   have er:o7 x=⟨2,u5,x.side,x.pcl,0⟩:=by rw[o7,if_neg (by omega),if_pos k5]
   rw[er]
   exact hm.pcl x hX.mem k5
  have hsent : ∀ {c s:Int},b7 w.map c s ≠ -1 → ∀ {p:Pcl},Sent w.map w.stores c s p→Sent w.map X.stores c s p:=fun {c s} hne {p} hp=>by
   cases hw with
   |no h=>exact h.sent hp
   |yes h hk hh hs hff=>exact h.sent (fun k3=>hack k3 hk) hne hp
  have hins : ∀(c:Int) {s:Int},s.toNat<2→inX w.map w.stores c s≤inX w.map X.stores c s:=fun c {s} hs=>by
   cases hw with
   |no h=>rw[h.in];exact Int.le_refl _
   |yes h hk hh hs2 hff=>exact h.ins c hs
  refine⟨fun c s hne => ?_,fun c s hne k hk p hp => ?_,fun z hz hk => ?_,fun z hz hk => ?_⟩
  ·cases hw with
   |no h =>
    simp only[v7]
    rw[h.in,h.nx,h.ou]
    exact hm.seq c s hne
   |yes h hk hh hs hff=>exact h.seq (fun k3=>hack k3 hk) (fun k2=>hin k2 hk) (fun c h0 h1=>(a1P hok h0 h1).2.2.2) hne (hm.seq c s hne)
  ·simp only[v7]at hk hp ⊢
   cases hw with
   |no h =>
    unfold pfX at hp
    rw[(h.same c).1,(h.same c).2]at hp
    rw[(h.same c).2]at hk
    exact hsent hne (hm.old c s hne k hk p hp)
   |yes h hkk hh hs hff =>
    have hb:=z6 hne
    by_cases hc:c.toNat=x.cell.toNat
    ·have hcd:c=x.cell:=by omega
     subst hcd
     rw[h.at.2,List.length_append,List.length_singleton]at hk
     by_cases hkl:k≤(stAt w.stores x.cell).recs.length
     ·refine hsent hne (hm.old _ s hne k hkl p ?_)
      unfold pfX at hp ⊢
      rw[h.at.1,h.at.2,a0V hkl]at hp
      exact hp
     ·
      right
      have hkk2:k=(stAt X.stores x.cell).recs.length:=by rw[h.at.2,List.length_append,List.length_singleton];omega
      have hg:=h.grow
      have hsok:B1 w.map (stAt X.stores x.cell)=true:=by
       have hok2:=(d2m hX.srv hX.stos hX.ok hX.eff).2.1
       have:=(D0.1 hok2).2.2 x.cell.toNat (by rw[hg.len];exact hcs.2.1)
       exact this.1
      rw[hkk2,b6d hsok]at hp
      exact hp
    ·unfold pfX at hp
     rw[h.off hc]at hp hk
     exact hsent hne (hm.old c s hne k hk p hp)
  ·rcases F9 hz with hz|hz
   ·have hzn:=List.mem_of_mem_eraseIdx hz
    have hzs:=a3d (h8 z hzn).1 (.inl hk)
    have hb:=z6 hzs
    refine hsent ?_ (hm.pcl z hzn hk)
    show b7 w.map (b7 w.map z.cell z.side) (1-z.side) ≠ -1
    rw[hb.2.2.2.2.2.2.1]
    omega
   ·rw[hX.is]at hz
    have:=a7p hz
    omega
  ·rcases F9 hz with hz|hz
   ·have hzn:=List.mem_of_mem_eraseIdx hz
    have hzs:=a3d (h8 z hzn).1 (.inr (.inl hk))
    exact Int.le_trans (hm.got z hzn hk) (hins _ (K3 hzs).2.1)
   ·rw[hX.is]at hz
    obtain⟨k5,hh,e1,e2,hcase⟩:=c7O hv hz hk
    have hzs:=a3d hX.ok (.inl k5)
    have hb:=z6 hzs
    have h2:=K3 hzs
    obtain⟨hmem,hcc⟩:=H8 hh
    have hI:=hf.hold _ hX.lt _ hmem
    obtain⟨p1,p2⟩:=a4I hf hX.lt hmem
    have hco:=a1P hok hmo.1 hmo.2
    show z.n≤inX w.map X.stores (b7 w.map z.cell z.side) (1-z.side)
    rw[e1,e2,hb.2.2.2.2.2.2.1,show 1-(1-x.side)=x.side by omega]
    have hfi:=d1X hco.2.1 h2.1 (j:=(stAt w.stores x.cell).recs.length) (k:=(j6 (nth .srv w.servers x.dest.toNat) x.cell).count.toNat) (by rw[hcc]at p2;exact p2) (Nat.le_refl _)
    rw[hcc]at p1
    have hpre : @LE.le Int _ (nth .int (j6 (nth .srv w.servers x.dest.toNat) x.cell).state.ins x.side.toNat) (inX w.map w.stores x.cell x.side):=by
     rw[p1]
     unfold inX
     rw[←b6d hco.2.1]
     exact hfi
    rcases hcase with ⟨g1,g2⟩|⟨g1,g2,g3⟩
    ·rw[g1]
     exact Int.le_trans hpre (hins _ h2.1)
    ·
     obtain⟨w1,w2,w3,w4,w5,w6,w7,w8,w9,w10,w11⟩:=b0x g2
     have hX2:X.stores=w.stores.set x.cell.toNat ⟨(n8 w.stores x).age,(n8 w.stores x).base,(n8 w.stores x).recs ++ [o7 x]⟩:=by rw[hX.is];exact g3
     have hW:Wr w.map w.stores X.stores x.cell (o7 x):=⟨hcs.1,hcs.2.1,hcs.2.2.1,hcs.2.2.2,⟨_,hX2⟩,w6,w7⟩
     have er:o7 x=⟨2,u5,x.side,x.pcl,0⟩:=by rw[o7,if_neg (by omega),if_pos k5]
     have hcount:(j6 (nth .srv w.servers x.dest.toNat) x.cell).count.toNat=(stAt w.stores x.cell).recs.length:=by
      have:(n8 w.stores x)=stAt w.stores x.cell:=rfl
      rw[this]at w4
      omega
     have hst:(j6 (nth .srv w.servers x.dest.toNat) x.cell).state=cX w.map w.stores x.cell:=by
      rw[p1,hcount,b6d hco.2.1]
     obtain⟨r1,r2,r3⟩:=a0c (by rw[er]) w7
     have hri:=R9 r2
     rw[g1]
     unfold inX
     rw[hW.self]
     show @LE.le Int _ (_+1) _
     have e5:(l7 w.map (cX w.map w.stores x.cell) (o7 x)).c=(y6 w.map (cX w.map w.stores x.cell) (o7 x).side.toNat (o7 x).pcl).c:=r3
     have hri':(y6 w.map (cX w.map w.stores x.cell) (o7 x).side.toNat (o7 x).pcl).c.ins=E7 (cX w.map w.stores x.cell) (o7 x).side.toNat:=hri.2.2.1
     rw[e5,hri',hst,er]
     have hcf:=n5 hco.2.2.2
     unfold E7
     simp only
     rw[l9 .int (by omega)]
     exact Int.le_refl _
def cntN (l:List Note) (who:Int):Int:=((l.filter fun n=>decide (n.who=who)).length:Int)
theorem d2N (who:Int):cntN [] who=0:=rfl
theorem d2O (l:List Note) (n:Note) (who:Int):cntN (l ++ [n]) who=cntN l who+(if n.who=who then 1 else 0):=by
 unfold cntN
 rw[List.filter_append,List.length_append]
 by_cases h:n.who=who
 ·simp[h]
 ·simp[h]
structure Noted (f:Int→Int) (w:Wld):Prop where
 num : ∀i,i<w.notes.length→(nth .note w.notes i).seq=f (nth .note w.notes i).who+1+cntN (w.notes.take i) (nth .note w.notes i).who
 row:w.notes.length<150 → ∀i,i<w.rows.length→(nth .row w.rows i).seq=f (nth .row w.rows i).who+cntN w.notes (nth .row w.rows i).who
theorem d5g (l:List Row) (who kind dest n:Int) (i:Nat):(Q7 l who kind dest n).b.length=l.length∧(nth .row (Q7 l who kind dest n).b i).who=(nth .row l i).who∧(nth .row (Q7 l who kind dest n).b i).seq=(nth .row l i).seq:=by
 unfold Q7
 split
 ·rename_i h
  have hlt:=a2C l who
  have hj:(m5 l who).toNat<l.length:=by omega
  refine⟨List.length_set,?_⟩
  simp only
  rw[H5 .row hj]
  split
  ·rename_i e;subst e;exact⟨rfl,rfl⟩
  ·exact⟨rfl,rfl⟩
 ·exact⟨rfl,rfl,rfl⟩
theorem d1M {m:PMap} {l:List Row} {v:Int} {x:Msg} (h1:B9 m l=true) (h2:y5 m v x=true) (i:Nat) :
  (nth .row (B2 m l x).b i).who=(nth .row l i).who ∧
  ((B2 m l x).ok=false→(nth .row (B2 m l x).b i).seq=(nth .row l i).seq) ∧
  ((B2 m l x).ok=true→i<l.length→(nth .row (B2 m l x).b i).seq=(nth .row l i).seq+(if x.ord.who=(nth .row l i).who then 1 else 0)):=by
 have hlt:=a2C l x.ord.who
 unfold B2
 simp only
 split
 ·rename_i h
  have hj:(m5 l x.ord.who).toNat<l.length:=by omega
  have hw:=b5W h.1
  have hro:=(a8Z h1 hj).1
  have hbusy:(nth .row l (m5 l x.ord.who).toNat).busy=true:=h.2.1
  have hord:(nth .row l (m5 l x.ord.who).toNat).ord=x.ord:=h.2.2
  simp only[Y4,decide_eq_true_eq]at hro
  have hseq:=(hro.2.2.2.2.2.2.2.2.2 hbusy).2.2
  rw[hord]at hseq
  split
  ·rw[H5 .row hj]
   refine⟨?_,fun h=>by simp at h,fun _ hi => ?_⟩
   ·split
    ·rename_i e;subst e;rfl
    ·rfl
   ·split
    ·rename_i e;subst e
     rw[if_pos hw.symm]
     exact hseq
    ·rename_i e
     have hne : ¬x.ord.who=(nth .row l i).who:=fun hh=>e (by have:=b8N h1 hi hh.symm;omega)
     rw[if_neg hne]
     exact(Int.add_zero _).symm
  ·split
   ·rw[H5 .row hj]
    refine⟨?_,fun _ => ?_,fun h=>by simp at h⟩
    ·split
     ·rename_i e;subst e;rfl
     ·rfl
    ·split
     ·rename_i e;subst e;rfl
     ·rfl
   ·exact⟨rfl,fun _=>rfl,fun h=>by simp at h⟩
 ·exact⟨rfl,fun _=>rfl,fun h=>by simp at h⟩
theorem b0D {l:List Note} {n:Note} {i:Nat} (h:i≤l.length):(l ++ [n]).take i=l.take i:=by
 rw[List.take_append_of_le_length h]
theorem c2f {f:Int→Int} {w w':Wld} (hok:j8 w=true) (hn:Noted f w) (hs:StepC w w'):Noted f w':=by
 obtain⟨h1,h2,h3,h4,h5,h6,h7,h8,h9⟩:=n0.1 hok
 have quiet : ∀ {w':Wld},w'.notes=w.notes→w'.rows=w.rows→Noted f w':=fun {w'} e1 e2=>by
  refine⟨?_,?_⟩
  ·rw[e1];exact hn.num
  ·rw[e1,e2];exact hn.row
 cases hs with
 |same=>exact hn
 |grant cell server hg=>exact quiet rfl rfl
 |ask who what dest n =>
  refine⟨hn.num,fun hl i hi => ?_⟩
  have ha:=d5g w.rows who what dest n i
  have hi':i<w.rows.length:=by rw[←ha.1];exact hi
  show(nth .row (Q7 w.rows who what dest n).b i).seq=f (nth .row (Q7 w.rows who what dest n).b i).who+cntN w.notes (nth .row (Q7 w.rows who what dest n).b i).who
  rw[ha.2.1,ha.2.2]
  exact hn.row hl i hi'
 |say who hs=>exact quiet rfl rfl
 |gate i hi hd =>
  have hx:=(h8 _ (s4 .msg hi)).1
  generalize nth .msg w.net i=x at hx hd
  have hq:=fun j=>d1M h3 hx j
  have hk:=b2h h3 hx
  show Noted f (a1y (wCut w i) x)
  by_cases hc:(B2 w.map w.rows x).ok=true∧w.notes.length<150
  ·have hw:0≤m5 w.rows x.ord.who:=(hk.2.2 hc.1).2.1
   have hpl:=a2C w.rows x.ord.who
   have hj:(m5 w.rows x.ord.who).toNat<w.rows.length:=by omega
   have hwho:=b5W hw
   have hold:=hn.row hc.2 _ hj
   have hro:=(a8Z h3 hj).1
   simp only[Y4,decide_eq_true_eq]at hro
   have hbusy:(nth .row w.rows (m5 w.rows x.ord.who).toNat).busy=true:=(hk.2.2 hc.1).2.2.1
   have hord:(nth .row w.rows (m5 w.rows x.ord.who).toNat).ord=x.ord:=(hk.2.2 hc.1).2.2.2.1
   have hseq:=(hro.2.2.2.2.2.2.2.2.2 hbusy).2.2
   rw[hord]at hseq
   rw[hwho]at hold
   have en:(a1y (wCut w i) x).notes=w.notes ++ [⟨x.ord.who,x.ord.seq,x.n⟩]:=by
    unfold a1y
    exact if_pos hc
   have er:(a1y (wCut w i) x).rows=(B2 w.map w.rows x).b:=rfl
   refine⟨?_,?_⟩
   ·rw[en]
    intro j hjl
    rw[List.length_append,List.length_singleton]at hjl
    by_cases hlt:j<w.notes.length
    ·rw[b6F .note hlt,b0D (by omega)]
     exact hn.num j hlt
    ·have:j=w.notes.length:=by omega
     subst this
     rw[a7F .note,b0D (Nat.le_refl _),List.take_length]
     show x.ord.seq=f x.ord.who+1+cntN w.notes x.ord.who
     have a1:x.ord.seq=(nth .row w.rows (m5 w.rows x.ord.who).toNat).seq+1:=hseq
     have a2:(nth .row w.rows (m5 w.rows x.ord.who).toNat).seq=f x.ord.who+cntN w.notes x.ord.who:=hold
     omega
   ·rw[en,er]
    intro hl j hjl
    rw[hk.2.1]at hjl
    have hqj:=hq j
    have a:=hqj.2.2 hc.1 hjl
    have b:=hn.row hc.2 j hjl
    rw[hqj.1,d2O]
    have c:(nth .row (B2 w.map w.rows x).b j).seq=(nth .row w.rows j).seq+(if x.ord.who=(nth .row w.rows j).who then 1 else 0):=a
    have d:(nth .row w.rows j).seq=f (nth .row w.rows j).who+cntN w.notes (nth .row w.rows j).who:=b
    show(nth .row (B2 w.map w.rows x).b j).seq=f (nth .row w.rows j).who+(cntN w.notes (nth .row w.rows j).who+(if x.ord.who=(nth .row w.rows j).who then 1 else 0))
    omega
  ·have en:(a1y (wCut w i) x).notes=w.notes:=by
    unfold a1y
    exact if_neg hc
   have er:(a1y (wCut w i) x).rows=(B2 w.map w.rows x).b:=rfl
   refine⟨?_,?_⟩
   ·rw[en];exact hn.num
   ·rw[en,er]
    intro hl j hjl
    rw[hk.2.1]at hjl
    have ho:(B2 w.map w.rows x).ok=false:=by
     cases hh:(B2 w.map w.rows x).ok
     ·rfl
     ·exact absurd ⟨hh,hl⟩ hc
    have hqj:=hq j
    rw[hqj.1,hqj.2.1 ho]
    exact hn.row hl j hjl
 |hear i hi hd=>exact quiet rfl rfl
 |lose i hi=>exact quiet rfl rfl
 |twice i hi=>exact quiet rfl rfl
 |tick i hi cell=>exact quiet rfl rfl
 |fall i hi=>exact quiet rfl rfl
 |rise i hi hu=>exact quiet rfl rfl
structure Beg (l:List Wlk) (w:Wld):Prop where
 ok:j8 w=true
 all:A5 w.map l=true
 fresh : ∀v∈l,v.seq=0∧v.last=0
 few:l.length≤5
 net:w.net = []
 notes:w.notes = []
 rows:w.rows=l.map (a1b w.map)
 recs : ∀c:Int,0≤c→c<w.map.cells→(stAt w.stores c).recs = []∧(stAt w.stores c).base=a0x w.map c l
 n9 : ∀i,i<w.servers.length→(nth .srv w.servers i).n9 = []
 fence:Fence w
inductive Ran (w0:Wld):Wld→Prop
 |refl:Ran w0 w0
 |step {w:Wld} (e:Evt) (h:Ran w0 w):Ran w0 (b9 w e)
def a9y (l:List Row) (who:Int):Int:=(rowAt l who).seq
theorem c2Y {l:List Wlk} {w:Wld} (h:Beg l w) {c:Int} (h0:0≤c) (h1:c<w.map.cells):cX w.map w.stores c=a0x w.map c l:=by
 have hr:=h.recs c h0 h1
 have hs:=(a1P h.ok h0 h1).2.1
 unfold cX
 rw[a5c hs,hr.1,hr.2]
 rfl
theorem D8 {m:PMap} {c s:Int} (h:b7 m c s ≠ -1):0≤c∧c<m.cells∧0≤b7 m c s∧b7 m c s<m.cells:=by
 unfold b7 at h ⊢
 grind
theorem a3l {m:PMap} {c:Int} {l:List Wlk} (hp:s0 m=true) (h0:0≤c) (h1:c<m.cells) (hl:A5 m l=true):a0x m c l=⟨c,O4 m c l l.length,0,[[],[]],[0,0],[0,0]⟩:=by
 rw[a0x,if_pos ⟨hp,h0,h1,hl⟩]
theorem d1a (t:Nat) : @Eq Int (nth .int [0,0] t) 0:=by
 match t with
 | 0=>rfl
 | 1=>rfl
 |n+2=>simp[nth,RT.dflt]
theorem d0Z (t:Nat) : @Eq (List Pcl) (nth .pcls [[],[]] t) []:=by
 match t with
 | 0=>rfl
 | 1=>rfl
 |n+2=>simp[nth,RT.dflt]
theorem d2U {l:List Wlk} {w:Wld} (h:Beg l w):Mail w:=by
 have hp:s0 w.map=true:=(D0.1 (n0.1 h.ok).2.1).1
 have hx : ∀c:Int,0≤c→c<w.map.cells → ∀s,inX w.map w.stores c s=0∧nxX w.map w.stores c s=0∧ouX w.map w.stores c s = []:=fun c h0 h1 s=>by
  unfold inX nxX ouX
  rw[c2Y h h0 h1,a3l hp h0 h1 h.all]
  exact⟨d1a _,d1a _,d0Z _⟩
 refine⟨fun c s hs => ?_,fun c s hs k hk p hm => ?_,fun x hx => ?_,fun x hx => ?_⟩
 ·have hi:=D8 hs
  have a:=hx c hi.1 hi.2.1 s
  have b:=hx _ hi.2.2.1 hi.2.2.2 (1-s)
  rw[b.1,a.2.1,a.2.2]
  exact⟨Int.le_refl 0,by decide⟩
 ·exfalso
  have hi:=D8 hs
  have hr:=h.recs c hi.1 hi.2.1
  rw[hr.1]at hk
  have hk0:k=0:=by simpa using hk
  subst hk0
  have:pfX w.map w.stores c 0=a0x w.map c l:=hr.2
  rw[this,a3l hp hi.1 hi.2.1 h.all,d0Z]at hm
  cases hm
 ·rw[h.net]at hx;cases hx
 ·rw[h.net]at hx;cases hx
theorem c8B {l:List Wlk} {w:Wld} (h:Beg l w):Shown w:=by
 refine⟨fun i hi g hg => ?_,fun x hx => ?_⟩
 ·rw[h.n9 i hi]at hg;cases hg
 ·rw[h.net]at hx;cases hx
theorem c8C {l:List Wlk} {w:Wld} (h:Beg l w):Noted (a9y w.rows) w:=by
 refine⟨fun i hi => ?_,fun _ i hi => ?_⟩
 ·rw[h.notes]at hi
  exact absurd hi (Nat.not_lt_zero _)
 ·rw[h.notes,d2N]
  have:=b8N (n0.1 h.ok).2.2.1 hi rfl
  unfold a9y rowAt
  rw[this,Int.toNat_natCast,Int.add_zero]
structure Inv (f:Int→Int) (w:Wld):Prop where
 ok:j8 w=true
 fence:Fence w
 shown:Shown w
 mail:Mail w
 noted:Noted f w
theorem b9O {f:Int→Int} {w:Wld} (e:Evt) (h:Inv f w):Inv f (b9 w e):=by
 have he:b9 w e=v5 w e:=by simp[b9,h.ok]
 have hok:=b0I e h.ok
 rw[he]at hok ⊢
 have hc:=a3v w e
 exact⟨hok,b2w h.ok h.fence hc,c1p h.ok h.fence h.shown hc,c7x h.ok h.fence h.mail hc,c2f h.ok h.noted hc⟩
theorem c5I {l:List Wlk} {w:Wld} (h:Beg l w):Inv (a9y w.rows) w:=⟨h.ok,h.fence,c8B h,d2U h,c8C h⟩
theorem d3K {f:Int→Int} {w0 w:Wld} (h0:Inv f w0) (h:Ran w0 w):Inv f w:=by
 induction h with
 |refl=>exact h0
 |step e _ ih=>exact b9O e ih
def ahO (w x:OW):Bool:=decide (x.wlk.id≤w.wlk.id)
def putO (l:List OW) (w:OW):List OW:=l.takeWhile (ahO w)++w::l.dropWhile (ahO w)
def m9 (l:List OW):List OW:=l.foldl putO []
def a0f (l:List OW):Prop:=l.Pairwise fun a b=>a.wlk.id<b.wlk.id
def oid (x:OW):Int:=x.wlk.id
theorem a2W (l:List OW) (w:OW):(putO l w).Perm (w::l):=by
 unfold putO
 exact List.perm_middle.trans (by rw[List.takeWhile_append_dropWhile])
theorem b2r : ∀(l a:List OW),(l.foldl putO a).Perm (l++a)
 |[],a=>List.Perm.refl _
 |w::l,a=>by
  rw[List.foldl_cons]
  refine(b2r l (putO a w)).trans ?_
  refine((a2W a w).append_left l).trans ?_
  exact List.perm_middle
theorem D1 (l:List OW):(m9 l).Perm l:=by
 have:=b2r l []
 rwa [List.append_nil]at this
theorem c6A {l:List OW} {w:OW} (h:a0f l) (hn : ∀x∈l,x.wlk.id≠w.wlk.id):a0f (putO l w):=by
 induction l with
 |nil=>simp[putO,a0f]
 |cons y l ih =>
  obtain⟨hy,hl⟩:=List.pairwise_cons.1 h
  by_cases hh:y.wlk.id≤w.wlk.id
  ·have e:putO (y::l) w=y::putO l w:=by simp[putO,ahO,hh]
   rw[e]
   refine List.pairwise_cons.2 ⟨fun x hx => ?_,ih hl fun x hx=>hn x (List.mem_cons_of_mem _ hx)⟩
   rcases List.mem_cons.1 ((a2W l w).mem_iff.1 hx)with rfl|hx
   ·have:=hn y List.mem_cons_self
    omega
   ·exact hy x hx
  ·have e:putO (y::l) w=w::y::l:=by simp[putO,ahO,hh]
   rw[e]
   refine List.pairwise_cons.2 ⟨fun x hx => ?_,h⟩
   rcases List.mem_cons.1 hx with rfl|hx
   ·omega
   ·have:=hy x hx
    omega
theorem b2q : ∀(l a:List OW),a0f a→((l++a).map oid).Nodup→a0f (l.foldl putO a)
 |[],a,h,_=>h
 |w::l,a,h,hn=>by
  rw[List.foldl_cons]
  simp only[List.cons_append,List.map_cons,List.nodup_cons,List.map_append,List.mem_append,List.mem_map,not_or,not_exists,not_and]at hn
  refine b2q l (putO a w) (c6A h fun x hx=>hn.1.2 x hx) ?_
  have hp:((l++putO a w).map oid).Perm ((w::(l++a)).map oid):=(((a2W a w).append_left l).trans List.perm_middle).map oid
  refine hp.nodup_iff.2 ?_
  simp only[List.map_cons,List.nodup_cons,List.map_append,List.mem_append,List.mem_map,not_or,not_exists,not_and]
  exact hn
theorem M6 {l:List OW} (hn:(l.map oid).Nodup):a0f (m9 l):=b2q l [] (by simp[a0f]) (by simpa using hn)
def sumL {α : Type} (f : α → Int) (l:List α):Int:=(l.map f).sum
def sumK {α : Type} (f : α → Int) (l:List α) (k:Nat):Int:=sumL f (l.take k)
theorem X9 {α : Type} (f : α → Int) (l r:List α):sumL f (l++r)=sumL f l+sumL f r:=by simp[sumL]
theorem a1z {α : Type} (f : α → Int) (x : α):sumL f [x]=f x:=by simp[sumL]
theorem a8s {α : Type} (f : α → Int) (l:List α):sumK f l 0=0:=by simp[sumK,sumL]
theorem a8t (t:RT) (f:t.ty→Int) {l:List t.ty} {k:Nat} (h:k<l.length):sumK f l (k+1)=sumK f l k+f (nth t l k):=by
 unfold sumK
 rw[J6 t l k h,X9,a1z]
theorem b0E {α : Type} (f : α → Int) {l:List α} {k:Nat} (h:k=l.length):sumK f l k=sumL f l:=by subst h;simp[sumK]
theorem b5x {α : Type} {f : α → Int} {B:Int} : ∀ {l:List α},(∀x∈l,0≤f x∧f x≤B)→0≤sumL f l∧sumL f l≤l.length * B
 |[],_=>by simp[sumL]
 |x::r,h=>by
  have h1:=b5x (l:=r) fun y hy=>h y (List.mem_cons_of_mem _ hy)
  have h2:=h x (List.mem_cons_self ..)
  have h3:sumL f (x::r)=f x+sumL f r:=by simp[sumL]
  rw[h3,List.length_cons]
  have h4:((r.length+1:Nat):Int) * B=r.length * B+B:=by
   rw[Int.natCast_add,Int.add_mul]
   simp
  rw[h4]
  omega
def fl (m:PMap) (st:List Sto) (c s:Int):List Pcl:=if b7 m c s = -1 then[]else A1 (ouX m st c s) (inX m st (b7 m c s) (1-s))
def isWp (p:Pcl):Bool:=decide (p.kind=1)
def flyO (l:List Pcl):List OW:=(l.filter isWp).map fun p=>⟨p.wlk,false⟩
def E1 (l:List Wlk):List OW:=l.map fun w=>⟨w,true⟩
def N2 (m:PMap):List Nat:=List.range m.cells.toNat
def a3S (m:PMap):List (Nat×Nat):=(N2 m).flatMap fun c => [(c,0),(c,1)]
def allO (m:PMap) (st:List Sto):List OW:=(N2 m).flatMap (fun(c:Nat)=>E1 (cX m st (c:Int)).wlks)++(a3S m).flatMap fun e=>flyO (fl m st (e.1:Int) (e.2:Int))
def cC (p:Pcl):Int:=if p.kind=1 then 0 else p.j9
def sumC (l:List Pcl):Int:=sumL cC l
def airN (m:PMap) (st:List Sto) (d s:Int):Int:=if b7 m d s = -1 then 0 else sumC (fl m st (b7 m d s) (1-s))
def m7 (m:PMap) (st:List Sto):One:=⟨m,m9 (allO m st),(N2 m).map fun(c:Nat)=>(cX m st (c:Int)).ground,(N2 m).map fun(c:Nat) => [airN m st (c:Int) 0,airN m st (c:Int) 1]⟩
def oneOf (w:Wld):One:=if j8 w=true then m7 w.map w.stores else d3l
theorem b0t {m:PMap} {c:Cll} (h:s6 m c=true) {s:Nat} (hs:s<2):u6 m (nth .pcls c.outs s) (nth .int c.next s)=true:=((F4.1 h).2.2.2.2.2.2.2.2.2.2 s hs).1
section
variable {m:PMap} {st st':List Sto} {d:Int} {r:Rec}
theorem c2X {c:Int} (h:0≤c):cX m st ((c.toNat:Nat):Int)=cX m st c:=by rw[show((c.toNat:Nat):Int)=c by omega]
theorem Wr.far (h:Wr m st st' d r) {c:Int} (h0:0≤c) (hc:c≠d):cX m st' c=cX m st c:=h.other (by have:=h.zero;omega)
end
end Go.Mo
