/-
  Plain laws: what a server hears: it stays ok; one record at most; who is down hears nothing; a grant.
-/
import Derived.Test.YtmnapekfeenknaaGreatM3
set_option linter.unusedVariables false
set_option linter.unusedSimpArgs false
namespace Go.Mo
open Go.Sx
def a3O (t:Arb) (cell server:Int):Msg:=⟨1,server,cell,0,nth .int t.ages cell.toNat,x6,A2,K0⟩
inductive StepC (w:Wld):Wld→Prop
 |same:StepC w w
 |grant (cell server:Int) (hg:(s6 w.table w.servers.length cell server).ok=true):StepC w (x8 ⟨w.map,w.servers,w.stores,(s6 w.table w.servers.length cell server).t,w.rows,w.net,w.notes⟩ [a3O (s6 w.table w.servers.length cell server).t cell server])
 |ask (who what dest n:Int):StepC w ⟨w.map,w.servers,w.stores,w.table,(T7 w.rows who what dest n).b,w.net,w.notes⟩
 |say (who:Int) (hs:(Y9 w.rows w.table who).ok=true):StepC w (x8 w [(Y9 w.rows w.table who).x])
 |gate (i:Nat) (hi:i<w.net.length) (hd:(nth .msg w.net i).dest = -1):StepC w (a1W (wCut w i) (nth .msg w.net i))
 |hear (i:Nat) (hi:i<w.net.length) (hd : ¬(nth .msg w.net i).dest = -1):StepC w (a3m (wCut w i) (nth .msg w.net i))
 |lose (i:Nat) (hi:i<w.net.length):StepC w (wCut w i)
 |twice (i:Nat) (hi:i<w.net.length):StepC w (x8 w [nth .msg w.net i])
 |tick (i:Nat) (hi:i<w.servers.length) (cell:Int):StepC w (x8 w (E7 w.map (nth .srv w.servers i) w.table cell))
 |fall (i:Nat) (hi:i<w.servers.length):StepC w ⟨w.map,w.servers.set i ⟨false,[],[]⟩,w.stores,w.table,w.rows,w.net,w.notes⟩
 |rise (i:Nat) (hi:i<w.servers.length) (hu:(nth .srv w.servers i).up=false):StepC w ⟨w.map,w.servers.set i ⟨true,[],[]⟩,w.stores,w.table,w.rows,w.net,w.notes⟩
theorem a1n {m:PMap} {c:Cll} {l l':List Rec} : ∀ {k:Nat},k≤l.length→v8 m c (l++l') k=v8 m c l k
 | 0,_=>rfl
 |k+1,h=>by
  have ih:=a1n (m:=m) (c:=c) (l:=l) (l':=l') (k:=k) (by omega)
  have hn:nth .rcd (l++l') k=nth .rcd l k:=by simp[nth,List.getD,List.getElem?_append_left (show k<l.length by omega)]
  simp only[v8,ih,hn]
theorem a3q {m:PMap} {s:Sto} (h:B2 m s=true):r9 m s=v8 m s.base s.recs s.recs.length:=a6j (z6.1 h).2.2.2
def stAt (st:List Sto) (c:Int):Sto:=nth .sto st c.toNat
structure HoldInv (m:PMap) (st:List Sto) (h:Hld):Prop where
 age:h.age≤(stAt st h.state.cell).age
 zero:0≤h.count
 count:h.count≤(stAt st h.state.cell).recs.length
 state:h.state=v8 m (stAt st h.state.cell).base (stAt st h.state.cell).recs h.count.toNat
 all:h.age=(stAt st h.state.cell).age→h.count=(stAt st h.state.cell).recs.length
inductive Tok (w:Wld) (i:Nat) (c n:Int):Prop
 |hold (hi:i<w.servers.length) (h:Hld) (hm:h∈(nth .srv w.servers i).holds) (hc:h.state.cell=c) (hn:h.age=n)
 |word (x:Msg) (hx:x∈w.net) (hk:x.kind=1) (hd:x.dest=(i:Int)) (hc:x.cell=c) (hn:x.n=n)
 |table (h0:0≤c) (hc:c.toNat<w.table.servers.length) (hs : @Eq Int (nth .int w.table.servers c.toNat) (i:Int)) (hn : @Eq Int (nth .int w.table.ages c.toNat) n)
structure Fence (w:Wld):Prop where
 hold : ∀i,i<w.servers.length → ∀h∈(nth .srv w.servers i).holds,HoldInv w.map w.stores h
 one : ∀i j c n,Tok w i c n→Tok w j c n→i=j
theorem M9 {l:List Sto} {c c':Int} {s:Sto} (hc:c.toNat<l.length):stAt (l.set c.toNat s) c'=if c'.toNat=c.toNat then s else stAt l c':=by
 unfold stAt
 exact C3 .sto hc
structure Grow (m:PMap) (st st':List Sto):Prop where
 len:st'.length=st.length
 base : ∀c:Int,(stAt st' c).base=(stAt st c).base
 recs : ∀c:Int,∃l,(stAt st' c).recs=(stAt st c).recs++l
theorem Grow.refl (m:PMap) (st:List Sto):Grow m st st:=⟨rfl,fun _=>rfl,fun _=>⟨[],by simp⟩⟩
theorem Grow.fold {m:PMap} {st st':List Sto} (h:Grow m st st') (c:Int) {k:Nat} (hk:k≤(stAt st c).recs.length):v8 m (stAt st' c).base (stAt st' c).recs k=v8 m (stAt st c).base (stAt st c).recs k:=by
 obtain⟨l,hl⟩:=h.recs c
 rw[h.base,hl,a1n hk]
theorem Grow.le {m:PMap} {st st':List Sto} (h:Grow m st st') (c:Int):(stAt st c).recs.length≤(stAt st' c).recs.length:=by
 obtain⟨l,hl⟩:=h.recs c
 rw[hl,List.length_append]
 omega
structure Heard (w:Wld) (k:Nat) (x:Msg) (X:SH):Prop where
 mem:x∈w.net
 ok:y5 w.map w.servers.length x=true
 dest:0≤x.dest
 lt:x.dest.toNat<w.servers.length
 srv:C0 w.map (nth .srv w.servers x.dest.toNat)=true
 stos:B1 w.map w.stores=true
 eff:Eff w.map (nth .srv w.servers x.dest.toNat) w.stores x X.srv X.stores
 is:X=r8 w.map (nth .srv w.servers x.dest.toNat) w.stores w.table x
 arb:D0 w.map w.table w.servers.length=true
theorem heard {w:Wld} (hok:m8 w=true) {k:Nat} (hk:k<w.net.length) (hd : ¬(nth .msg w.net k).dest = -1) : ∃X,Heard w k (nth .msg w.net k) X ∧
  a3m (wCut w k) (nth .msg w.net k)=x8 ⟨w.map,w.servers.set (nth .msg w.net k).dest.toNat X.srv,X.stores,w.table,w.rows,w.net.eraseIdx k,w.notes⟩ X.out:=by
 obtain⟨h1,h2,h3,h4,h5,h6,h7,h8,h9⟩:=q9.1 hok
 have hxm:=s0 .msg hk
 have hx1:=(h8 _ hxm).1
 have hdd:0≤(nth .msg w.net k).dest∧(nth .msg w.net k).dest<w.servers.length:=by
  rcases a3J hx1 with ⟨_,g1,g2⟩|⟨_,g⟩
  ·exact⟨g1,g2⟩
  ·exact absurd g hd
 have hdn:(nth .msg w.net k).dest.toNat<w.servers.length:=by omega
 obtain⟨o1,_⟩:=h7 _ (s0 .srv hdn)
 exact⟨r8 w.map (nth .srv w.servers (nth .msg w.net k).dest.toNat) w.stores w.table (nth .msg w.net k),⟨hxm,hx1,hdd.1,hdn,o1,h2,a9O o1 h2 hx1,rfl,h1⟩,rfl⟩
structure GhOk (m:PMap) (st:List Sto) (g:Gst):Prop where
 zero:0≤g.count
 count:g.count≤(stAt st g.src).recs.length
 mem:g.wlk∈(v8 m (stAt st g.src).base (stAt st g.src).recs g.count.toNat).wlks
theorem GhOk.grow {m:PMap} {st st':List Sto} {g:Gst} (h:GhOk m st g) (hg:Grow m st st'):GhOk m st' g :=
 ⟨h.zero,by have:=hg.le g.src;have:=h.count;omega,by rw[hg.fold g.src (by have:=h.count;have:=h.zero;omega)];exact h.mem⟩
structure Shown (w:Wld):Prop where
 srv : ∀i,i<w.servers.length → ∀g∈(nth .srv w.servers i).o8,GhOk w.map w.stores g
 net : ∀x∈w.net,x.kind=7→GhOk w.map w.stores x.gst
theorem a5B {m:PMap} {c:Cll} {o:Ord} (hc:s5 m c=true) (ho:y9 o=true) {s:Nat} (hs:s<2) :
  (I8 m c o).c.ins=c.ins∧((nth .pcls (I8 m c o).c.outs s=nth .pcls c.outs s ∧ @Eq Int (nth .int (I8 m c o).c.next s) (nth .int c.next s)) ∨
   ∃p:Pcl,nth .pcls (I8 m c o).c.outs s=nth .pcls c.outs s ++ [p] ∧ @Eq Int p.n (nth .int c.next s) ∧ @Eq Int (nth .int (I8 m c o).c.next s) (nth .int c.next s+1)):=by
 have hf:=o7 hc
 have hoi:=G6.1 ho
 have hdst:o.kind=1∨o.kind=5→o.dest.toNat<2:=fun h=>by omega
 clear hoi
 have triv:c.ins=c.ins∧((nth .pcls c.outs s=nth .pcls c.outs s ∧ @Eq Int (nth .int c.next s) (nth .int c.next s)) ∨ ∃p:Pcl,nth .pcls c.outs s=nth .pcls c.outs s ++ [p] ∧ @Eq Int p.n (nth .int c.next s) ∧ @Eq Int (nth .int c.next s) (nth .int c.next s+1)):=⟨rfl,.inl ⟨rfl,rfl⟩⟩
 have send : ∀(d:Nat) (q:Pcl),d<2→((nth .pcls (D2 c d q) s=nth .pcls c.outs s ∧ @Eq Int (nth .int (H7 c d) s) (nth .int c.next s)) ∨
   ∃p:Pcl,nth .pcls (D2 c d q) s=nth .pcls c.outs s ++ [p] ∧ @Eq Int p.n (nth .int c.next s) ∧ @Eq Int (nth .int (H7 c d) s) (nth .int c.next s+1)):=fun d q hd=>by
  unfold D2 H7
  by_cases he:d=s
  ·subst he
   right
   exact⟨_,j9 .pcls (by omega),rfl,j9 .int (by omega)⟩
  ·left
   exact⟨m5 .pcls he,m5 .int he⟩
 unfold I8
 split
 ·exact triv
 simp only
 split
 ·exact triv
 split
 ·exact triv
 unfold S1
 split
 ·unfold a0z
  split
  ·exact triv
  split
  ·exact triv
  split
  ·exact triv
  exact⟨rfl,send _ _ (hdst (.inl (by assumption)))⟩
 split
 ·unfold a0B
  split
  ·exact triv
  split
  ·exact triv
  split
  ·exact triv
  exact triv
 split
 ·unfold a0C
  split
  ·exact triv
  split
  ·exact triv
  exact triv
 split
 ·unfold a0A
  split
  ·exact triv
  split
  ·exact triv
  exact triv
 split
 ·unfold U0
  split
  ·exact triv
  split
  ·exact triv
  split
  ·exact triv
  exact⟨rfl,send _ _ (hdst (.inr (by assumption)))⟩
 ·exact triv
theorem U6 {m:PMap} {c:Cll} {d:Nat} {p:Pcl} (h:(y4 m c d p).ok=true):(y4 m c d p).c.outs=c.outs∧(y4 m c d p).c.next=c.next∧(y4 m c d p).c.ins=G0 c d ∧ @Eq Int p.n (nth .int c.ins d):=by
 unfold y4 at h ⊢
 split at h
 ·cases h
 rename_i h1
 rw[if_neg h1]
 have hn : @Eq Int p.n (nth .int c.ins d):=by
  rcases Decidable.em (p.n=nth .int c.ins d)with h2|h2
  ·exact h2
  ·exact absurd (.inl h2) h1
 split at h
 ·rw[if_pos (by assumption)]
  exact⟨rfl,rfl,rfl,hn⟩
 ·rename_i h2
  rw[if_neg h2]
  split at h
  ·cases h
  ·rename_i h3
   rw[if_neg h3]
   exact⟨rfl,rfl,rfl,hn⟩
theorem a0P {c:Cll} {d:Nat} {n:Int} (h:(I0 c d n).ok=true):(I0 c d n).c.outs=T9 c d n∧(I0 c d n).c.next=c.next∧(I0 c d n).c.ins=c.ins ∧ @LE.le Int _ n (nth .int c.next d) ∧ @LT.lt Int _ (nth .int c.next d-(nth .pcls c.outs d).length) n:=by
 unfold I0 at h ⊢
 split at h
 ·cases h
 ·rename_i h1
  rw[if_neg h1]
  refine⟨rfl,rfl,rfl,?_,?_⟩
  ·exact Int.not_lt.1 fun hh=>h1 (.inl hh)
  ·exact Int.not_le.1 fun hh=>h1 (.inr hh)
theorem a1s {m:PMap} {c:Cll} {r:Rec} (hk:r.kind=1) (h:(m0 m c r).ok=true):Q5 c r.ord=true∧(m0 m c r).c=(I8 m c r.ord).c∧(m0 m c r).code=(I8 m c r.ord).code:=by
 unfold m0 at h ⊢
 rw[if_pos hk]at h ⊢
 split at h
 ·rename_i hf
  rw[if_pos hf]
  exact⟨hf,rfl,rfl⟩
 ·cases h
theorem a0I {m:PMap} {c:Cll} {r:Rec} (hk:r.kind=2) (h:(m0 m c r).ok=true):b7 m c.cell r.side ≠ -1∧(y4 m c r.side.toNat r.pcl).ok=true∧(m0 m c r).c=(y4 m c r.side.toNat r.pcl).c:=by
 unfold m0 at h ⊢
 rw[if_neg (show ¬r.kind=1 by omega)]at h ⊢
 by_cases hs:b7 m c.cell r.side = -1
 ·rw[if_pos hs]at h
  cases h
 ·rw[if_neg hs]at h ⊢
  rw[if_pos hk]at h ⊢
  exact⟨hs,h,rfl⟩
theorem a0U {m:PMap} {c:Cll} {r:Rec} (hk:r.kind=3) (h:(m0 m c r).ok=true):b7 m c.cell r.side ≠ -1∧(I0 c r.side.toNat r.n).ok=true∧(m0 m c r).c=(I0 c r.side.toNat r.n).c:=by
 unfold m0 at h ⊢
 rw[if_neg (show ¬r.kind=1 by omega)]at h ⊢
 by_cases hs:b7 m c.cell r.side = -1
 ·rw[if_pos hs]at h
  cases h
 ·rw[if_neg hs]at h ⊢
  rw[if_neg (show ¬r.kind=2 by omega)]at h ⊢
  exact⟨hs,h,rfl⟩
theorem X5 {m:PMap} {r:Rec} (h:I4 m r=true):(r.kind=1∧y9 r.ord=true)∨(r.kind=2∧(r.side=0∨r.side=1)∧J8 m r.pcl=true)∨(r.kind=3∧(r.side=0∨r.side=1)):=by
 simp only[I4,decide_eq_true_eq]at h
 obtain⟨_,h2,h3⟩:=h
 rw[S7]at h2
 rcases h2 with h2|h2|h2
 ·exact .inl ⟨h2.1,h2.2.1⟩
 ·exact .inr (.inl ⟨h2.1,h2.2.1,h3 h2.1⟩)
 ·exact .inr (.inr ⟨h2.1,h2.2.1⟩)
theorem d4x {m:PMap} {c:Cll} {r:Rec} (h:(m0 m c r).ok=false):(m0 m c r).c=c:=by
 unfold m0 at h ⊢
 by_cases k1:r.kind=1
 ·rw[if_pos k1]at h ⊢
  by_cases hf:Q5 c r.ord=true
  ·rw[if_pos hf]at h
   cases h
  ·rw[if_neg hf]
 ·rw[if_neg k1]at h ⊢
  by_cases hs:b7 m c.cell r.side = -1
  ·rw[if_pos hs]
  ·rw[if_neg hs]at h ⊢
   by_cases k2:r.kind=2
   ·rw[if_pos k2]at h ⊢
    exact c5d h
   ·rw[if_neg k2]at h ⊢
    exact d1e h
theorem b6g {m:PMap} {c:Cll} {r:Rec} (hc:s5 m c=true) (hr:I4 m r=true) {s:Nat} (hs:s<2) : @LE.le Int _ (nth .int c.ins s) (nth .int (m0 m c r).c.ins s):=by
 have hf:=o7 hc
 cases hok:(m0 m c r).ok with
 |false=>rw[d4x hok];exact Int.le_refl _
 |true =>
  rcases X5 hr with ⟨hk,ho⟩|⟨hk,hsd,hp⟩|⟨hk,hsd⟩
  ·rw[(a1s hk hok).2.1,(a5B hc ho hs).1]
   exact Int.le_refl _
  ·obtain⟨h1,h2,h3⟩:=a0I hk hok
   rw[h3,(U6 h2).2.2.1]
   unfold G0
   by_cases he:r.side.toNat=s
   ·rw[he,j9 .int (by omega)]
    show @LE.le Int _ _ (_+1)
    generalize (nth .int c.ins s:Int)=a
    omega
   ·rw[m5 .int he]
    exact Int.le_refl _
  ·obtain⟨h1,h2,h3⟩:=a0U hk hok
   rw[h3,(a0P h2).2.2.1]
   exact Int.le_refl _
def cX (m:PMap) (st:List Sto) (c:Int):Cll:=r9 m (stAt st c)
def inX (m:PMap) (st:List Sto) (c s:Int):Int:=nth .int (cX m st c).ins s.toNat
def nxX (m:PMap) (st:List Sto) (c s:Int):Int:=nth .int (cX m st c).next s.toNat
def ouX (m:PMap) (st:List Sto) (c s:Int):List Pcl:=nth .pcls (cX m st c).outs s.toNat
def pfX (m:PMap) (st:List Sto) (c:Int) (k:Nat):Cll:=v8 m (stAt st c).base (stAt st c).recs k
structure Wr (m:PMap) (st st':List Sto) (d:Int) (r:Rec):Prop where
 zero:0≤d
 lt:d.toNat<st.length
 ok:B2 m (stAt st d)=true
 cell:(stAt st d).base.cell=d
 is : ∃a,st'=st.set d.toNat ⟨a,(stAt st d).base,(stAt st d).recs ++ [r]⟩
 log:I4 m r=true
 fits:(m0 m (cX m st d) r).ok=true
theorem Wr.at {m:PMap} {st st':List Sto} {d:Int} {r:Rec} (h:Wr m st st' d r):(stAt st' d).base=(stAt st d).base∧(stAt st' d).recs=(stAt st d).recs ++ [r]:=by
 obtain⟨a,e⟩:=h.is
 rw[e,M9 h.lt,if_pos rfl]
 exact⟨rfl,rfl⟩
theorem Wr.off {m:PMap} {st st':List Sto} {d:Int} {r:Rec} (h:Wr m st st' d r) {c:Int} (hc:c.toNat≠d.toNat):stAt st' c=stAt st c:=by
 obtain⟨a,e⟩:=h.is
 rw[e,M9 h.lt,if_neg hc]
theorem Wr.self {m:PMap} {st st':List Sto} {d:Int} {r:Rec} (h:Wr m st st' d r):cX m st' d=(m0 m (cX m st d) r).c:=by
 have hh:=z6.1 h.ok
 unfold cX r9
 rw[h.at.1,h.at.2]
 exact c9l hh.2.2.2 h.log h.fits
theorem Wr.other {m:PMap} {st st':List Sto} {d:Int} {r:Rec} (h:Wr m st st' d r) {c:Int} (hc:c.toNat≠d.toNat):cX m st' c=cX m st c:=by
 unfold cX
 rw[h.off hc]
theorem Wr.cok {m:PMap} {st st':List Sto} {d:Int} {r:Rec} (h:Wr m st st' d r):s5 m (cX m st d)=true∧(cX m st d).cell=d:=⟨a1Z h.ok,by unfold cX;rw[a0N,h.cell]⟩
theorem Wr.grow {m:PMap} {st st':List Sto} {d:Int} {r:Rec} (h:Wr m st st' d r):Grow m st st':=by
 obtain⟨a,e⟩:=h.is
 rw[e]
 refine⟨by simp,fun c => ?_,fun c => ?_⟩
 ·rw[M9 h.lt]
  split
  ·rename_i hh
   unfold stAt
   rw[hh]
  ·rfl
 ·rw[M9 h.lt]
  split
  ·rename_i hh
   refine⟨[r],?_⟩
   unfold stAt
   rw[hh]
  ·exact⟨[],by simp⟩
structure Lsame (st st':List Sto):Prop where
 len:st'.length=st.length
 same : ∀c:Int,(stAt st' c).base=(stAt st c).base∧(stAt st' c).recs=(stAt st c).recs
theorem Lsame.refl (st:List Sto):Lsame st st:=⟨rfl,fun _=>⟨rfl,rfl⟩⟩
theorem Lsame.cX {m:PMap} {st st':List Sto} (h:Lsame st st') (c:Int):cX m st' c=cX m st c:=by
 unfold Mo.cX r9
 rw[(h.same c).1,(h.same c).2]
inductive Wrote (m:PMap) (s:Srv) (st st':List Sto) (x:Msg):Prop
 |no (h:Lsame st st')
 |yes (h:Wr m st st' x.cell (p9 x)) (hk:x.kind=2∨x.kind=5∨x.kind=6) (hh:z7 s x.cell=true) (hs:(j6 s x.cell).state=cX m st x.cell)
   (hf:x.kind=2→u4 (cX m st x.cell).wlks x.ord.who=true∧(F5 (cX m st x.cell).wlks x.ord.who).seq<x.ord.seq)
def Sent (m:PMap) (st:List Sto) (c s:Int) (p:Pcl):Prop:=p.n<inX m st (b7 m c s) (1-s)∨p∈ouX m st c s
structure Mail (w:Wld):Prop where
 seq : ∀c s,b7 w.map c s ≠ -1→inX w.map w.stores (b7 w.map c s) (1-s)≤nxX w.map w.stores c s∧nxX w.map w.stores c s-(ouX w.map w.stores c s).length≤inX w.map w.stores (b7 w.map c s) (1-s)
 old : ∀c s,b7 w.map c s ≠ -1 → ∀k,k≤(stAt w.stores c).recs.length → ∀p∈nth .pcls (pfX w.map w.stores c k).outs s.toNat,Sent w.map w.stores c s p
 pcl : ∀x∈w.net,x.kind=5→Sent w.map w.stores (b7 w.map x.cell x.side) (1-x.side) x.pcl
 got : ∀x∈w.net,x.kind=6→x.n≤inX w.map w.stores (b7 w.map x.cell x.side) (1-x.side)
theorem Lsame.in {m:PMap} {st st':List Sto} (h:Lsame st st') (c s:Int):inX m st' c s=inX m st c s:=by unfold inX;rw[h.cX]
theorem Lsame.ou {m:PMap} {st st':List Sto} (h:Lsame st st') (c s:Int):ouX m st' c s=ouX m st c s:=by unfold ouX;rw[h.cX]
theorem Lsame.sent {m:PMap} {st st':List Sto} (h:Lsame st st') {c s:Int} {p:Pcl} (hp:Sent m st c s p):Sent m st' c s p:=by
 unfold Sent
 rw[h.in,h.ou]
 exact hp
theorem H6 {m:PMap} {c s:Int} (h:b7 m c s ≠ -1):s.toNat<2∧(1-s).toNat<2∧0≤s∧s≤1:=by
 have:=(v7 h).1
 omega
theorem b8Q {m:PMap} {c s:Int} (h:b7 m c s ≠ -1):(b7 m c s).toNat≠c.toNat:=by
 have:=v7 h
 omega
theorem Wr.ins {m:PMap} {st st':List Sto} {d:Int} {r:Rec} (h:Wr m st st' d r) (c:Int) {s:Int} (hs:s.toNat<2):inX m st c s≤inX m st' c s:=by
 by_cases hc:c.toNat=d.toNat
 ·have e:cX m st c=cX m st d:=by unfold cX stAt;rw[hc]
  have e':cX m st' c=cX m st' d:=by unfold cX stAt;rw[hc]
  unfold inX
  rw[e,e',h.self]
  exact b6g h.cok.1 h.log hs
 ·unfold inX
  rw[h.other hc]
  exact Int.le_refl _
theorem Wr.sent {m:PMap} {st st':List Sto} {d:Int} {r:Rec} (h:Wr m st st' d r) (hack:r.kind=3→r.n≤inX m st (b7 m d r.side) (1-r.side)) {c s:Int} (hs:b7 m c s ≠ -1) {p:Pcl} (hp:Sent m st c s p):Sent m st' c s p:=by
 have h2:=H6 hs
 have hmono:=h.ins (b7 m c s) (s:=1-s) h2.2.1
 rcases hp with hp|hp
 ·exact .inl (Int.lt_of_lt_of_le hp hmono)
 ·by_cases hc:c.toNat=d.toNat
  ·have hcd:c=d:=by
    have:=v7 hs
    have:=h.zero
    omega
   subst hcd
   have hok:=h.fits
   have hcf:=o7 h.cok.1
   unfold ouX at hp
   rcases X5 h.log with ⟨hk,ho⟩|⟨hk,hsd,hpo⟩|⟨hk,hsd⟩
   ·right
    unfold ouX
    rw[h.self,(a1s hk hok).2.1]
    rcases(a5B (m:=m) h.cok.1 ho h2.1).2 with ⟨e,_⟩|⟨q,e,_⟩
    ·rw[e];exact hp
    ·rw[e];exact List.mem_append_left _ hp
   ·right
    unfold ouX
    obtain⟨g1,g2,g3⟩:=a0I hk hok
    rw[h.self,g3,(U6 g2).1]
    exact hp
   ·obtain⟨g1,g2,g3⟩:=a0U hk hok
    by_cases he:r.side.toNat=s.toNat
    ·have hes:r.side=s:=by omega
     have hn:=hack hk
     rw[hes]at hn
     by_cases hpn:r.n≤p.n
     ·right
      unfold ouX
      rw[h.self,g3,(a0P g2).1]
      unfold T9
      rw[he,j9 .pcls (by omega)]
      exact List.mem_filter.2 ⟨hp,by simpa using hpn⟩
     ·left
      omega
    ·right
     unfold ouX
     rw[h.self,g3,(a0P g2).1]
     unfold T9
     rw[m5 .pcls he]
     exact hp
  ·right
   unfold ouX
   rw[h.other hc]
   exact hp
theorem b7c {m:PMap} {l:List Pcl} {n:Int} (h:u6 m l n=true) {i:Nat} (hi:i<l.length):(nth .pcl l i).n=n-l.length+i:=by
 simp only[u6,Bool.and_eq_true]at h
 have:=(l8 _ _).1 h.2 i hi
 simp only[a3B,Bool.and_eq_true,decide_eq_true_eq]at this
 exact this.2
theorem Wr.seq {m:PMap} {st st':List Sto} {d:Int} {r:Rec} (h:Wr m st st' d r) (hack:r.kind=3→r.n≤inX m st (b7 m d r.side) (1-r.side)) (hin:r.kind=2→Sent m st (b7 m d r.side) (1-r.side) r.pcl)
  (hall : ∀c:Int,0≤c→c<m.cells→s5 m (cX m st c)=true)
  {c s:Int} (hs:b7 m c s ≠ -1) (hq:inX m st (b7 m c s) (1-s)≤nxX m st c s∧nxX m st c s-(ouX m st c s).length≤inX m st (b7 m c s) (1-s)) :
  inX m st' (b7 m c s) (1-s)≤nxX m st' c s∧nxX m st' c s-(ouX m st' c s).length≤inX m st' (b7 m c s) (1-s):=by
 have h2:=H6 hs
 have hb:=v7 hs
 have hfar:=b8Q hs
 have hok:=h.fits
 have hcf:=o7 h.cok.1
 by_cases hc:c.toNat=d.toNat
 ·have hcd:c=d:=by have:=h.zero;omega
  subst hcd
  have e1:inX m st' (b7 m c s) (1-s)=inX m st (b7 m c s) (1-s):=by unfold inX;rw[h.other hfar]
  rw[e1]
  unfold nxX ouX at hq ⊢
  rw[h.self]
  rcases X5 h.log with ⟨hk,ho⟩|⟨hk,hsd,hpo⟩|⟨hk,hsd⟩
  ·rw[(a1s hk hok).2.1]
   rcases(a5B (m:=m) h.cok.1 ho h2.1).2 with ⟨e,e'⟩|⟨q,e,_,e'⟩
   ·rw[e,e'];exact hq
   ·rw[e,e',List.length_append,List.length_singleton]
    generalize (nth .int (cX m st c).next s.toNat:Int)=N at *
    omega
  ·obtain⟨g1,g2,g3⟩:=a0I hk hok
   rw[g3,(U6 g2).1,(U6 g2).2.1]
   exact hq
  ·obtain⟨g1,g2,g3⟩:=a0U hk hok
   obtain⟨r1,r2,r3,r4,r5⟩:=a0P g2
   rw[g3,r1,r2]
   unfold T9
   by_cases he:r.side.toNat=s.toNat
   ·have hes:r.side=s:=by omega
    have hn:=hack hk
    rw[hes]at hn
    rw[he]at r4 r5 ⊢
    rw[j9 .pcls (by omega)]
    have hl:=(E1 h.cok.1 h2.1).2.2.2
    have hd:=a8b (x:=r.n) hl (by
     generalize (nth .int (cX m st c).next s.toNat:Int)=N at *
     omega)
    rw[hd,List.length_drop]
    refine⟨hq.1,?_⟩
    generalize (nth .int (cX m st c).next s.toNat:Int)=N at *
    omega
   ·rw[m5 .pcls he]
    exact hq
 ·have e1:nxX m st' c s=nxX m st c s:=by unfold nxX;rw[h.other hc]
  have e2:ouX m st' c s=ouX m st c s:=by unfold ouX;rw[h.other hc]
  rw[e1,e2]
  by_cases hc2:(b7 m c s).toNat=d.toNat
  ·have hcd:b7 m c s=d:=by have:=h.zero;omega
   rw[hcd]at hq ⊢
   unfold inX at hq ⊢
   rw[h.self]
   rcases X5 h.log with ⟨hk,ho⟩|⟨hk,hsd,hpo⟩|⟨hk,hsd⟩
   ·rw[(a1s hk hok).2.1,(a5B (m:=m) h.cok.1 ho h2.2.1).1]
    exact hq
   ·obtain⟨g1,g2,g3⟩:=a0I hk hok
    obtain⟨r1,r2,r3,r4⟩:=U6 g2
    rw[g3,r3]
    unfold G0
    by_cases he:r.side.toNat=(1-s).toNat
    ·have hes:r.side=1-s:=by omega
     rw[he]at r4 ⊢
     rw[j9 .int (by omega)]
     have hS:=hin hk
     rw[hes,←hcd,hb.2.2.2.2.2.2.1]at hS
     have hcs:1-(1-s)=s:=by omega
     rw[hcs]at hS
     unfold Sent at hS
     have hp:r.pcl∈ouX m st c s:=by
      rcases hS with h3|h3
      ·exfalso
       rw[hcd]at h3
       unfold inX at h3
       generalize (nth .int (cX m st d).ins (1-s).toNat:Int)=I at *
       omega
      ·exact h3
     have hl:=(E1 (hall c hb.2.2.1 hb.2.2.2.1) h2.1).2.2.2
     unfold ouX at hp
     obtain⟨i,hi,he2⟩:=R7 .pcl hp
     have hlt:=b7c hl hi
     rw[he2]at hlt
     unfold nxX ouX at hq ⊢
     show @LE.le Int _ (_+1) _ ∧ @LE.le Int _ _ (_+1)
     generalize (nth .int (cX m st d).ins (1-s).toNat:Int)=I at *
     generalize (nth .int (cX m st c).next s.toNat:Int)=N at *
     omega
    ·rw[m5 .int he]
     exact hq
   ·obtain⟨g1,g2,g3⟩:=a0U hk hok
    rw[g3,(a0P g2).2.2.1]
    exact hq
  ·have e3:inX m st' (b7 m c s) (1-s)=inX m st (b7 m c s) (1-s):=by unfold inX;rw[h.other hc2]
   rw[e3]
   exact hq
end Go.Mo
