/-
  Plain law: in a log that fits no order stands twice.
-/
import Derived.Test.YtmnapekfeenknaaGreatM1
import Derived.Test.YtmnapekfeenknaaGreatS5
set_option linter.unusedVariables false
set_option linter.unusedSimpArgs false
namespace Go.Mo
open Go.Sx
def past (c:Cll) (who seq:Int):Prop := ∀v∈c.wlks,v.id=who→seq≤v.seq
def a1f:Sto:=⟨0,O1,[]⟩
def a3k:Hld:=⟨0,0,O1⟩
def B2 (m:PMap) (s:Sto):Bool:=decide (0≤s.age∧s.age≤900∧s5 m s.base=true∧s.recs.length≤250∧a0L m s.base s.recs=s.recs.length)
theorem z6 {m:PMap} {s:Sto}:B2 m s=true↔(0≤s.age∧s.age≤900)∧s5 m s.base=true∧s.recs.length≤250∧a0L m s.base s.recs=s.recs.length:=by simp[B2,and_assoc]
def r9 (m:PMap) (s:Sto):Cll:=a3P m s.base s.recs
def E4 (m:PMap) (s:Sto):Cll:=if B2 m s=true then r9 m s else O1
theorem a1Z {m:PMap} {s:Sto} (h:B2 m s=true):s5 m (r9 m s)=true:=d3w (z6.1 h).2.1
structure SOk where
 s:Sto
 ok:Bool
def X1 (m:PMap) (s:Sto) (age:Int):SOk :=
 if B2 m s=true∧0≤age∧age≤900 then(if age<s.age then⟨s,false⟩else⟨⟨age,s.base,s.recs⟩,true⟩)else⟨a1f,false⟩
structure SN where
 s:Sto
 n:Int
def M3 (m:PMap) (s:Sto) (age pos:Int) (r:Rec):SN :=
 if ¬age=s.age then⟨s,2⟩
 else if ¬pos=(s.recs.length:Int)∨pos=250 then⟨s,3⟩
 else if I4 m r=true∧(m0 m (r9 m s) r).ok=true then⟨⟨s.age,s.base,s.recs ++ [r]⟩,1⟩
 else⟨s,4⟩
def A7 (m:PMap) (s:Sto) (age pos:Int) (r:Rec):SN:=if B2 m s=true then M3 m s age pos r else⟨a1f,0⟩
def V5 (m:PMap) (h:Hld):Bool:=decide (1≤h.age∧h.age≤900∧0≤h.count∧h.count≤250∧s5 m h.state=true)
theorem C2 {m:PMap} {h:Hld}:V5 m h=true↔(1≤h.age∧h.age≤900)∧(0≤h.count∧h.count≤250)∧s5 m h.state=true:=by simp[V5,and_assoc]
structure HSO where
 h:Hld
 s:Sto
 ok:Bool
def a0s (m:PMap) (s:Sto) (age:Int):HSO :=
 if B2 m s=true∧1≤age∧age≤900 then(if age<s.age then⟨a3k,s,false⟩else⟨⟨age,s.recs.length,r9 m s⟩,⟨age,s.base,s.recs⟩,true⟩)else⟨a3k,a1f,false⟩
structure HSN where
 h:Hld
 s:Sto
 n:Int
 k:Int
def x9 (m:PMap) (h:Hld) (s:Sto) (r:Rec):HSN :=
 if V5 m h=true∧B2 m s=true then
  (if ¬(M3 m s h.age h.count r).n=1 then⟨h,s,(M3 m s h.age h.count r).n,0⟩
  else if(m0 m h.state r).ok=false then⟨h,s,4,0⟩
  else⟨⟨h.age,h.count+1,(m0 m h.state r).c⟩,(M3 m s h.age h.count r).s,1,(m0 m h.state r).code⟩)
 else⟨a3k,a1f,0,0⟩
theorem b7A (t:RT) {l:List t.ty} {x:t.ty} {k:Nat} (h:k<l.length):nth t (l ++ [x]) k=nth t l k:=by
 rw[k9 t l k h,k9 t _ k (by simp;omega),List.getElem_append_left h]
theorem a8v (t:RT) {l:List t.ty} {x:t.ty}:nth t (l ++ [x]) l.length=x:=by simp[nth,List.getD]
theorem a4z {m:PMap} {c:Cll} {l:List Rec} {r:Rec} : ∀ {k:Nat},k≤l.length→v8 m c (l ++ [r]) k=v8 m c l k
 | 0,_=>rfl
 |k+1,h=>by rw[Q9,Q9,a4z (by omega),b7A .rcd (by omega)]
theorem c9p {m:PMap} {c:Cll} {l:List Rec} {r:Rec} {k:Nat} (h:k<l.length):R0 m c (l ++ [r]) k=R0 m c l k:=by
 unfold R0
 rw[a4z (by omega),b7A .rcd h]
theorem c1k {m:PMap} {c:Cll} {l:List Rec} (h:a0L m c l=l.length):m9 l.length (R0 m c l)=true:=by
 have:=b3m m c l
 rw[h]at this
 exact this
theorem a6j {m:PMap} {c:Cll} {l:List Rec} (h:a0L m c l=l.length):a3P m c l=v8 m c l l.length:=by rw[a3P,h]
theorem b5S {m:PMap} {c:Cll} {l:List Rec} {r:Rec} (h:a0L m c l=l.length) (hr:I4 m r=true) (ha:(m0 m (a3P m c l) r).ok=true):a0L m c (l ++ [r])=(l ++ [r]).length:=by
 have h1:=c1k h
 refine a9T rfl ?_
 rw[List.length_append,List.length_singleton,n5,Bool.and_eq_true]
 refine⟨?_,?_⟩
 ·rw[l8]at h1 ⊢
  intro i hi
  rw[c9p hi]
  exact h1 i hi
 ·unfold R0
  rw[a4z (Nat.le_refl _),a8v .rcd,←a6j h,hr,ha]
  rfl
theorem c9l {m:PMap} {c:Cll} {l:List Rec} {r:Rec} (h:a0L m c l=l.length) (hr:I4 m r=true) (ha:(m0 m (a3P m c l) r).ok=true):a3P m c (l ++ [r])=(m0 m (a3P m c l) r).c:=by
 rw[a6j (b5S h hr ha),List.length_append,List.length_singleton,Q9,a4z (Nat.le_refl _),a8v .rcd,←a6j h]
theorem a3Q (m:PMap) (s:Sto) (age pos:Int) (r:Rec):((M3 m s age pos r).s=s∧((M3 m s age pos r).n=2∧age≠s.age∨(M3 m s age pos r).n=3∧age=s.age∧(pos≠s.recs.length∨pos=250)∨(M3 m s age pos r).n=4∧age=s.age ∧ ¬(I4 m r=true∧(m0 m (r9 m s) r).ok=true))) ∨
  ((M3 m s age pos r).s=⟨s.age,s.base,s.recs ++ [r]⟩∧(M3 m s age pos r).n=1∧age=s.age∧pos=s.recs.length∧pos≠250∧I4 m r=true∧(m0 m (r9 m s) r).ok=true):=by
 unfold M3
 split
 ·exact .inl ⟨rfl,.inl ⟨rfl,by assumption⟩⟩
 split
 ·rename_i h1 h2
  exact .inl ⟨rfl,.inr (.inl ⟨rfl,Classical.not_not.1 h1,h2⟩)⟩
 split
 ·rename_i h1 h2 h3
  exact .inr ⟨rfl,rfl,Classical.not_not.1 h1,by omega,by omega,h3.1,h3.2⟩
 ·rename_i h1 h2 h3
  exact .inl ⟨rfl,.inr (.inr ⟨rfl,Classical.not_not.1 h1,h3⟩)⟩
theorem apX {m:PMap} {c:Cll} {r:Rec} (hc:s5 m c=true) (hr:I4 m r=true):T4 m c r=m0 m c r:=by rw[T4,if_pos ⟨hc,hr⟩]
theorem b6E {m:PMap} {s:Sto} (h:B2 m s=true):E4 m s=r9 m s:=by rw[E4,if_pos h]
theorem a2p {m:PMap} {s:Sto} {a b:Int} {r:Rec} (h:B2 m s=true):A7 m s a b r=M3 m s a b r:=by rw[A7,if_pos h]
theorem c4a {m:PMap} {s:Sto} {a b:Int} {r:Rec} (h:B2 m s=true) (hn : ¬(A7 m s a b r).n=1):(A7 m s a b r).s=s:=by
 rw[a2p h]at *
 rcases a3Q m s a b r with ⟨h1,h2⟩|⟨h1,h2,_⟩
 ·exact h1
 ·exact absurd h2 hn
theorem d4F {m:PMap} {s:Sto} {a:Int} (h:B2 m s=true) (h1:0≤a) (h2:a≤900):B2 m ⟨a,s.base,s.recs⟩=true∧E4 m ⟨a,s.base,s.recs⟩=E4 m s:=by
 have h3:=z6.1 h
 have h4:B2 m ⟨a,s.base,s.recs⟩=true:=z6.2 ⟨⟨h1,h2⟩,h3.2⟩
 exact⟨h4,by rw[b6E h,b6E h4];rfl⟩
theorem b6r {m:PMap} {h:Hld} {s:Sto} {r:Rec} (hh:V5 m h=true) (hs:B2 m s=true) (ha : ¬h.age=s.age):(x9 m h s r).h=h∧(x9 m h s r).s=s∧(x9 m h s r).n=2:=by
 have e:M3 m s h.age h.count r=⟨s,2⟩:=by rw[M3,if_pos ha]
 rw[x9,if_pos ⟨hh,hs⟩,e,if_pos (fun hh:(2:Int)=1=>by cases hh)]
 exact⟨rfl,rfl,rfl⟩
def a1x (m:PMap) (g:Gst):Bool:=decide (0≤g.count∧g.count≤250∧S3 m g.wlk=true∧e8 m g.wlk.pos=g.src∧(B4 m g.wlk.pos 0=true∨B4 m g.wlk.pos 1=true))
def H4 (a b:Gst):Bool:=decide (a.src<b.src∨a.src=b.src∧a.wlk.id<b.wlk.id)
def a3N (m:PMap) (l:List Gst) (i:Nat):Bool:=a1x m (nth .gst l i)&&(decide (i=0)||H4 (nth .gst l (i-1)) (nth .gst l i))
def E8 (m:PMap) (l:List Gst):Bool:=decide (l.length≤20)&&m9 l.length (a3N m l)
def Z0 (m:PMap) (l:List Gst):Bool:=o9 m&&E8 m l
theorem b5M {m:PMap} {l:List Gst} {k:Nat} (h:k<l.length) (hw:a1x m (nth .gst l k)=false):E8 m l=false:=by
 have:=s7 (f:=a3N m l) h (by simp[a3N,hw])
 simp[E8,this]
theorem b5L {m:PMap} {l:List Gst} {k:Nat} (h:k<l.length) (h0:0<k) (hw:H4 (nth .gst l (k-1)) (nth .gst l k)=false):E8 m l=false:=by
 have:=s7 (f:=a3N m l) h (by simp[a3N,hw];omega)
 simp[E8,this]
theorem a9Q {m:PMap} {l:List Gst} (h:20<l.length):E8 m l=false:=by
 simp[E8]
 omega
theorem c0S {m:PMap} {l:List Gst} {k:Nat} (h:m9 k (a3N m l)=true) (hk:k=l.length) (hl:l.length≤20):E8 m l=true:=by
 subst hk
 simp[E8,h,hl]
def a4K (t:Arb) (servers:Int) (i:Nat):Bool:=decide (-1≤nth .int t.servers i∧nth .int t.servers i≤servers-1∧0≤nth .int t.ages i∧nth .int t.ages i≤900∧(nth .int t.servers i = -1↔nth .int t.ages i=0))
def a0H (m:PMap) (t:Arb) (servers:Int):Bool:=decide (o9 m=true∧1≤servers∧servers≤3∧(t.servers.length:Int)=m.cells∧(t.ages.length:Int)=m.cells)
def D0 (m:PMap) (t:Arb) (servers:Int):Bool:=a0H m t servers&&m9 t.servers.length (a4K t servers)
theorem c6N {m:PMap} {t:Arb} {servers:Int} {k:Nat} (h:k<t.servers.length) (hw:a4K t servers k=false):D0 m t servers=false:=by
 have:=s7 (f:=a4K t servers) h hw
 simp[D0,this]
theorem a7t {m:PMap} {t:Arb} {servers:Int} {k:Nat} (h:D0 m t servers=true) (hk:k<t.servers.length) : -1≤nth .int t.servers k∧nth .int t.servers k≤servers-1∧0≤nth .int t.ages k∧nth .int t.ages k≤900∧(nth .int t.servers k = -1↔nth .int t.ages k=0):=by
 unfold D0 at h
 rw[Bool.and_eq_true]at h
 have:=(l8 _ _).1 h.2 k hk
 simpa [a4K]using this
theorem b3O {m:PMap} {t:Arb} {servers:Int} {k:Nat} (h:D0 m t servers=true) (hk:(k:Int)<m.cells) : -1≤nth .int t.servers k∧nth .int t.servers k≤servers-1∧0≤nth .int t.ages k∧nth .int t.ages k≤900∧(nth .int t.servers k = -1↔nth .int t.ages k=0):=by
 refine a7t h ?_
 unfold D0 at h
 rw[Bool.and_eq_true]at h
 have h1:=h.1
 simp only[a0H,decide_eq_true_eq]at h1
 omega
theorem c6O {m:PMap} {t:Arb} {servers:Int} {k:Nat} (h:m9 k (a4K t servers)=true) (hh:a0H m t servers=true) (hk:k=t.servers.length):D0 m t servers=true:=by
 subst hk
 simp[D0,h,hh]
def n7 (t:Arb) (cell:Int):Int:=if 0≤cell∧cell<(t.servers.length:Int)then nth .int t.servers cell.toNat else -1
def a3S (g:Gst):Bool:=decide (g.src=0∧g.count=0∧a4M g.wlk=true)
def J2 (m:PMap) (servers:Int) (x:Msg):Bool:=decide (
 (x.kind=1∧0≤x.dest∧x.dest≤servers-1∧x.side=0∧1≤x.n∧x.n≤900∧a2v x.ord=true∧a4F x.pcl=true∧a3S x.gst=true) ∨
 (x.kind=2∧0≤x.dest∧x.dest≤servers-1∧x.side=0∧x.n=0∧y9 x.ord=true∧a4F x.pcl=true∧a3S x.gst=true) ∨
 (x.kind=3∧x.dest = -1∧x.side=0∧1≤x.n∧x.n≤9∧y9 x.ord=true∧a4F x.pcl=true∧a3S x.gst=true) ∨
 (x.kind=4∧x.dest = -1∧x.side=0∧x.n=0∧y9 x.ord=true∧a4F x.pcl=true∧a3S x.gst=true) ∨
 (x.kind=5∧0≤x.dest∧x.dest≤servers-1∧b7 m x.cell x.side ≠ -1∧x.n=0∧a2v x.ord=true∧J8 m x.pcl=true∧a3S x.gst=true) ∨
 (x.kind=6∧0≤x.dest∧x.dest≤servers-1∧b7 m x.cell x.side ≠ -1∧1≤x.n∧x.n≤5000∧a2v x.ord=true∧a4F x.pcl=true∧a3S x.gst=true) ∨
 (x.kind=7∧0≤x.dest∧x.dest≤servers-1∧b7 m x.cell x.side ≠ -1∧x.n=0∧a2v x.ord=true∧a4F x.pcl=true∧a1x m x.gst=true∧x.gst.src=b7 m x.cell x.side))
def y5 (m:PMap) (servers:Int) (x:Msg):Bool:=decide (o9 m=true∧1≤servers∧servers≤3∧0≤x.cell∧x.cell<m.cells∧J2 m servers x=true)
def a0h (m:PMap) (r:Row):Bool:=decide (1≤r.who∧r.who≤9∧0≤r.cell∧r.cell<m.cells∧0≤r.seq∧r.seq≤900∧0≤r.code∧r.code≤9∧(r.busy=false→a2v r.ord=true)∧(r.busy=true→y9 r.ord=true∧r.ord.who=r.who∧r.ord.seq=r.seq+1))
def N1 (m:PMap) (l:List Row) (i:Nat):Bool:=a0h m (nth .row l i)&&(decide (i=0)||decide ((nth .row l (i-1)).who<(nth .row l i).who))
def C4 (m:PMap) (l:List Row):Bool:=o9 m&&m9 l.length (N1 m l)
theorem c0Q {m:PMap} {l:List Row} {k:Nat} (h:k<l.length) (hw:a0h m (nth .row l k)=false):C4 m l=false:=by
 have:=s7 (f:=N1 m l) h (by simp[N1,hw])
 simp[C4,this]
theorem c0P {m:PMap} {l:List Row} {k:Nat} (h:k<l.length) (h0:0<k) (hw : ¬(nth .row l (k-1)).who<(nth .row l k).who):C4 m l=false:=by
 have:=s7 (f:=N1 m l) h (by simp[N1,hw];omega)
 simp[C4,this]
theorem c5W {m:PMap} {l:List Row} {k:Nat} (h:m9 k (N1 m l)=true) (hk:k=l.length) (hm:o9 m=true):C4 m l=true:=by
 subst hk
 simp[C4,h,hm]
def a8F (who:Int) (r:Row):Bool:=decide (r.who=who)
def m7 (l:List Row) (who:Int):Int:=idx (a8F who) l
def nwho (l:List Row) (who:Int) (j:Nat):Bool := !a8F who (nth .row l j)
theorem c2v {l:List Row} {who:Int} {k:Nat} (h:m9 k (nwho l who)=true) (hk:k<l.length) (hi:(nth .row l k).who=who):m7 l who=k:=by
 rw[k9 .row l k hk]at hi
 refine a7g hk (by simp[a8F,hi]) fun j hj => ?_
 have:=(l8 k _).1 h j hj
 simp only[nwho,Bool.not_eq_true']at this
 rw[k9 .row l j (by omega)]at this
 exact this
theorem b9r {l:List Row} {who:Int} {k:Nat} (h:m9 k (nwho l who)=true) (hk:k=l.length):m7 l who = -1:=by
 subst hk
 refine a1l fun j hj => ?_
 have:=(l8 _ _).1 h j hj
 simp only[nwho,Bool.not_eq_true']at this
 rw[k9 .row l j hj]at this
 exact this
theorem a2W (l:List Row) (who:Int) : -1≤m7 l who∧m7 l who<l.length:=by
 rcases C6 (a8F who) l with ⟨h,_⟩|⟨k,hk,h,_⟩
 ·unfold m7;rw[h];omega
 ·unfold m7;rw[h];omega
theorem b6T {l:List Row} {who:Int} (h:0≤m7 l who):(nth .row l (m7 l who).toNat).who=who:=by
 rcases C6 (a8F who) l with ⟨h',_⟩|⟨k,hk,h',h2,_⟩
 ·unfold m7 at h;omega
 ·unfold m7;rw[h']
  rw[Int.toNat_natCast,k9 .row l k hk]
  simpa [a8F]using h2
theorem a9P {m:PMap} {l:List Row} (h:C4 m l=true) {k:Nat} (hk:k<l.length):a0h m (nth .row l k)=true∧(0<k→(nth .row l (k-1)).who<(nth .row l k).who):=by
 unfold C4 at h
 rw[Bool.and_eq_true]at h
 have:=(l8 _ _).1 h.2 k hk
 simp only[N1,Bool.and_eq_true,Bool.or_eq_true,decide_eq_true_eq]at this
 exact⟨this.1,fun h0=>this.2.resolve_left (by omega)⟩
theorem d6l {m:PMap} {l:List Row} (h:C4 m l=true) {k:Nat} (hk:k<l.length):0≤(nth .row l k).seq∧(nth .row l k).seq≤900:=by
 have:=(a9P h hk).1
 simp only[a0h,decide_eq_true_eq]at this
 exact⟨this.2.2.2.2.1,this.2.2.2.2.2.1⟩
def seqB (l:List Row):Prop := ∀k,k<l.length→0≤(nth .row l k).seq∧(nth .row l k).seq≤900
theorem b3a {m:PMap} {l:List Row} (h:C4 m l=true):seqB l:=fun _ hk=>d6l h hk
structure BB where
 b:List Row
 ok:Bool
def b8g (l:List Row) (who kind dest n:Int):Ord:=⟨who,(nth .row l (m7 l who).toNat).seq+1,kind,dest,n⟩
def T7 (l:List Row) (who kind dest n:Int):BB :=
 if 0≤m7 l who∧(nth .row l (m7 l who).toNat).busy=false∧y9 (b8g l who kind dest n)=true then
  ⟨l.set (m7 l who).toNat ⟨(nth .row l (m7 l who).toNat).who,(nth .row l (m7 l who).toNat).cell,true,b8g l who kind dest n,(nth .row l (m7 l who).toNat).seq,(nth .row l (m7 l who).toNat).code⟩,true⟩
 else⟨l,false⟩
def a8J (m:PMap) (l:List Row) (who kind dest n:Int):BB:=if C4 m l=true then T7 l who kind dest n else⟨[],false⟩
def a3M (m:PMap) (l:List Hld) (i:Nat):Bool:=V5 m (nth .hld l i)&&(decide (i=0)||decide ((nth .hld l (i-1)).state.cell<(nth .hld l i).state.cell))
def a6s (s:Srv):Bool:=s.up||decide (s.holds.length=0∧s.o8.length=0)
def C0 (m:PMap) (s:Srv):Bool:=Z0 m s.o8&&a6s s&&m9 s.holds.length (a3M m s.holds)
theorem b8L {m:PMap} {s:Srv} {k:Nat} (h:k<s.holds.length) (hw:V5 m (nth .hld s.holds k)=false):C0 m s=false:=by
 have:=s7 (f:=a3M m s.holds) h (by simp[a3M,hw])
 simp[C0,this]
theorem b8K {m:PMap} {s:Srv} {k:Nat} (h:k<s.holds.length) (h0:0<k) (hw : ¬(nth .hld s.holds (k-1)).state.cell<(nth .hld s.holds k).state.cell):C0 m s=false:=by
 have:=s7 (f:=a3M m s.holds) h (by simp[a3M,hw];omega)
 simp[C0,this]
theorem c4x {m:PMap} {s:Srv} {k:Nat} (h:m9 k (a3M m s.holds)=true) (hk:k=s.holds.length):C0 m s=(Z0 m s.o8&&a6s s):=by
 subst hk
 simp[C0,h]
theorem a6K {m:PMap} {s:Srv} (h:C0 m s=true) {k:Nat} (hk:k<s.holds.length):V5 m (nth .hld s.holds k)=true:=by
 unfold C0 at h
 rw[Bool.and_eq_true]at h
 have:=(l8 _ _).1 h.2 k hk
 simp only[a3M,Bool.and_eq_true]at this
 exact this.1
def a0r (cell:Int) (h:Hld):Bool:=decide (h.state.cell=cell)
def k8 (l:List Hld) (cell:Int):Int:=idx (a0r cell) l
def b0F (l:List Hld) (cell:Int) (j:Nat):Bool := !a0r cell (nth .hld l j)
theorem c5U {l:List Hld} {cell:Int} {k:Nat} (h:m9 k (b0F l cell)=true) (hk:k<l.length) (hi:(nth .hld l k).state.cell=cell):k8 l cell=k:=by
 rw[k9 .hld l k hk]at hi
 refine a7g hk (by simp[a0r,hi]) fun j hj => ?_
 have:=(l8 k _).1 h j hj
 simp only[b0F,Bool.not_eq_true']at this
 rw[k9 .hld l j (by omega)]at this
 exact this
theorem b5H {l:List Hld} {cell:Int} {k:Nat} (h:m9 k (b0F l cell)=true) (hk:k=l.length):k8 l cell = -1:=by
 subst hk
 refine a1l fun j hj => ?_
 have:=(l8 _ _).1 h j hj
 simp only[b0F,Bool.not_eq_true']at this
 rw[k9 .hld l j hj]at this
 exact this
theorem a2M (l:List Hld) (cell:Int) : -1≤k8 l cell∧k8 l cell<l.length:=by
 rcases C6 (a0r cell) l with ⟨h,_⟩|⟨k,hk,h,_⟩
 ·unfold k8;rw[h];omega
 ·unfold k8;rw[h];omega
theorem a3L {l:List Hld} {cell:Int} (h:0≤k8 l cell):(nth .hld l (k8 l cell).toNat).state.cell=cell:=by
 rcases C6 (a0r cell) l with ⟨h',_⟩|⟨k,hk,h',h2,_⟩
 ·unfold k8 at h;omega
 ·unfold k8;rw[h']
  rw[Int.toNat_natCast,k9 .hld l k hk]
  simpa [a0r]using h2
def j6 (s:Srv) (cell:Int):Hld:=if 0≤k8 s.holds cell then nth .hld s.holds (k8 s.holds cell).toNat else a3k
def z7 (s:Srv) (cell:Int):Bool:=decide (0≤k8 s.holds cell)
def a3o (m:PMap) (l:List Sto) (i:Nat):Bool:=B2 m (nth .sto l i)&&decide ((nth .sto l i).base.cell=(i:Int))
def B1 (m:PMap) (l:List Sto):Bool:=decide (o9 m=true∧(l.length:Int)=m.cells)&&m9 l.length (a3o m l)
theorem b4H {m:PMap} {l:List Sto} {k:Nat} (h:k<l.length) (hw:B2 m (nth .sto l k)=false):B1 m l=false:=by
 have:=s7 (f:=a3o m l) h (by simp[a3o,hw])
 simp[B1,this]
theorem b4G {m:PMap} {l:List Sto} {k:Nat} (h:k<l.length) (hw : ¬(nth .sto l k).base.cell=(k:Int)):B1 m l=false:=by
 have:=s7 (f:=a3o m l) h (by simp[a3o,hw])
 simp[B1,this]
theorem b8B {m:PMap} {l:List Sto} {k:Nat} (h:m9 k (a3o m l)=true) (hk:k=l.length):B1 m l=decide (o9 m=true∧(l.length:Int)=m.cells):=by
 subst hk
 simp[B1,h]
def ghTo (m:PMap) (h:Hld) (side:Int) (k:Nat):List Gst:=(flt (fun w=>B4 m w.pos side) h.state.wlks k).map fun w=>⟨h.state.cell,h.count,w⟩
def o8 (m:PMap) (h:Hld) (side:Int):List Gst:=ghTo m h side h.state.wlks.length
theorem b5Q (m:PMap) (h:Hld) (side:Int):ghTo m h side 0 = []:=by simp[ghTo,a8P]
theorem c1d (m:PMap) (h:Hld) (side:Int) (k:Nat):(ghTo m h side k).length≤k:=by
 simp only[ghTo,List.length_map]
 exact b1l _ _ _
theorem c1c {m:PMap} {h:Hld} {side:Int} {k:Nat} (hk:k<h.state.wlks.length) (hp:B4 m (nth .wlk h.state.wlks k).pos side=true):ghTo m h side (k+1)=ghTo m h side k ++ [⟨h.state.cell,h.count,nth .wlk h.state.wlks k⟩]:=by
 unfold ghTo
 rw[a1o .wlk _ _ _ hk,if_pos hp]
 simp
theorem c6a {m:PMap} {h:Hld} {side:Int} {k:Nat} (hk:k<h.state.wlks.length) (hp:B4 m (nth .wlk h.state.wlks k).pos side=false):ghTo m h side (k+1)=ghTo m h side k:=by
 unfold ghTo
 rw[a1o .wlk _ _ _ hk,if_neg (by simp[hp])]
def ows (l:List OW):List Wlk:=l.map fun x=>x.wlk
theorem b7g (l:List OW):(ows l).length=l.length:=by simp[ows]
theorem c5j {l:List OW} {i:Nat} (h:i<l.length):nth .wlk (ows l) i=(nth .ow l i).wlk:=by
 rw[k9 .wlk _ i (by rw[b7g];exact h),k9 .ow l i h]
 simp[ows]
def a6z (l:List OW) (k:Nat):List Wlk:=(l.take k).map fun x=>x.wlk
theorem c2I (l:List OW):a6z l 0 = []:=by simp[a6z]
theorem c2J {l:List OW} {k:Nat} (h:k<l.length):a6z l (k+1)=a6z l k ++ [(nth .ow l k).wlk]:=by
 unfold a6z
 rw[List.take_succ_eq_append_getElem h,List.map_append,k9 .ow l k h]
 rfl
theorem c7K {l:List OW} {k:Nat} (h:k=l.length):a6z l k=ows l:=by subst h;simp[a6z,ows]
theorem c7J (l:List OW) (k:Nat):(a6z l k).length≤k:=by simp[a6z];omega
def owAt (m:PMap) (l:List OW) (i:Nat):Bool:=S3 m (nth .ow l i).wlk&&(decide (i=0)||decide ((nth .ow l (i-1)).wlk.id<(nth .ow l i).wlk.id))
theorem c5k (m:PMap) (l:List OW):x7 m (ows l)=m9 l.length (owAt m l):=by
 unfold x7
 rw[b7g]
 have : ∀k,k≤l.length→m9 k (a4H m (ows l))=m9 k (owAt m l):=by
  intro k
  induction k with
  |zero=>intro _;rfl
  |succ k ih =>
   intro hk
   rw[n5,n5,ih (by omega)]
   unfold a4H owAt
   rw[c5j (by omega)]
   by_cases h0:k=0
   ·simp[h0]
   ·rw[c5j (i:=k-1) (by omega)]
 exact this _ (Nat.le_refl _)
def a2E (o:One):Bool:=decide (o9 o.map=true∧(o.ground.length:Int)=o.map.cells∧(o.air.length:Int)=o.map.cells)
def U8 (o:One) (i:Nat):Bool:=decide (0≤nth .int o.ground i∧nth .int o.ground i≤900∧(nth .ints o.air i).length=2∧0≤nth .int (nth .ints o.air i) 0∧nth .int (nth .ints o.air i) 0≤100000∧0≤nth .int (nth .ints o.air i) 1∧nth .int (nth .ints o.air i) 1≤100000)
def a1u (o:One):Bool:=m9 o.ground.length (U8 o)
def r6 (o:One):Bool:=a2E o&&a1u o&&m9 o.wlks.length (owAt o.map o.wlks)
theorem a1P {o:One} {k:Nat} (h:k<o.ground.length) (hw:U8 o k=false):a1u o=false:=s7 h hw
theorem b5i {o:One} {k:Nat} (h:m9 k (U8 o)=true) (hk:k=o.ground.length):a1u o=true:=by subst hk;exact h
theorem N0 {o:One}:a2E o=true↔o9 o.map=true∧(o.ground.length:Int)=o.map.cells∧(o.air.length:Int)=o.map.cells:=by simp[a2E]
theorem S8 {o:One}:r6 o=true↔a2E o=true∧a1u o=true∧m9 o.wlks.length (owAt o.map o.wlks)=true:=by simp[r6,and_assoc]
theorem a9B {o:One} (h:r6 o=true) {k:Nat} (hk:(k:Int)<o.map.cells):(0≤nth .int o.ground k∧nth .int o.ground k≤900)∧(nth .ints o.air k).length=2∧(0≤nth .int (nth .ints o.air k) 0∧nth .int (nth .ints o.air k) 0≤100000)∧(0≤nth .int (nth .ints o.air k) 1∧nth .int (nth .ints o.air k) 1≤100000):=by
 obtain⟨h1,h2,_⟩:=S8.1 h
 obtain⟨_,h4,_⟩:=N0.1 h1
 have:=(l8 _ _).1 h2 k (by omega)
 simp only[U8,decide_eq_true_eq]at this
 exact⟨⟨this.1,this.2.1⟩,this.2.2.1,⟨this.2.2.2.1,this.2.2.2.2.1⟩,this.2.2.2.2.2⟩
theorem a1E {o:One} (h:r6 o=true) {k:Nat} (hk:k<o.wlks.length):S3 o.map (nth .ow o.wlks k).wlk=true∧(0<k→(nth .ow o.wlks (k-1)).wlk.id<(nth .ow o.wlks k).wlk.id):=by
 have:=(l8 _ _).1 (S8.1 h).2.2 k hk
 simp only[owAt,Bool.and_eq_true,Bool.or_eq_true,decide_eq_true_eq]at this
 exact⟨this.1,fun h0=>this.2.resolve_left (by omega)⟩
def isOw (id:Int) (x:OW):Bool:=decide (x.wlk.id=id)
def b8 (l:List OW) (id:Int):Int:=idx (isOw id) l
def nOw (l:List OW) (id:Int) (j:Nat):Bool := !isOw id (nth .ow l j)
theorem b9L {l:List OW} {id:Int} {k:Nat} (h:m9 k (nOw l id)=true) (hk:k<l.length) (hi:(nth .ow l k).wlk.id=id):b8 l id=k:=by
 rw[k9 .ow l k hk]at hi
 refine a7g hk (by simp[isOw,hi]) fun j hj => ?_
 have:=(l8 k _).1 h j hj
 simp only[nOw,Bool.not_eq_true']at this
 rw[k9 .ow l j (by omega)]at this
 exact this
theorem c5n {l:List OW} {id:Int} {k:Nat} (h:m9 k (nOw l id)=true) (hk:k=l.length):b8 l id = -1:=by
 subst hk
 refine a1l fun j hj => ?_
 have:=(l8 _ _).1 h j hj
 simp only[nOw,Bool.not_eq_true']at this
 rw[k9 .ow l j hj]at this
 exact this
theorem V0 (l:List OW) (id:Int) : -1≤b8 l id∧b8 l id<l.length:=by
 rcases C6 (isOw id) l with ⟨h,_⟩|⟨k,hk,h,_⟩
 ·unfold b8;rw[h];omega
 ·unfold b8;rw[h];omega
theorem a1w {l:List OW} {id:Int} (h:0≤b8 l id):(nth .ow l (b8 l id).toNat).wlk.id=id:=by
 rcases C6 (isOw id) l with ⟨h',_⟩|⟨k,hk,h',h2,_⟩
 ·unfold b8 at h;omega
 ·unfold b8;rw[h',Int.toNat_natCast,k9 .ow l k hk]
  simpa [isOw]using h2
structure OC where
 o:One
 code:Int
def oSet (o:One) (k:Nat) (x:OW) (g:List Int) (a:List (List Int)):One:=⟨o.map,o.wlks.set k x,g,a⟩
def oFin (o:One) (k:Nat) (w:Wlk) (seq:Int) (here:Bool) (g:List Int) (a:List (List Int)) (code:Int):OC:=⟨oSet o k ⟨⟨w.id,w.pos,w.j8,seq,code⟩,here⟩ g a,code⟩
def M5 (a:List (List Int)) (d s:Int) (n:Int):List (List Int):=a.set d.toNat ((nth .ints a d.toNat).set s.toNat (nth .int (nth .ints a d.toNat) s.toNat+n))
def b0B (o:One) (k:Nat) (w:Wlk) (r:Ord):OC :=
 if e8 o.map (w.pos+(2 * r.dest-1)) = -1 then oFin o k w r.seq true o.ground o.air 2
 else oFin o k ⟨w.id,w.pos+(2 * r.dest-1),w.j8,w.seq,w.last⟩ r.seq (decide (e8 o.map (w.pos+(2 * r.dest-1))=e8 o.map w.pos)) o.ground o.air 1
def a8u (o:One) (k:Nat) (w:Wlk) (r:Ord):OC :=
 let j:=b8 o.wlks r.dest
 let v:=nth .ow o.wlks j.toNat
 if ¬(0≤j∧v.here=true∧e8 o.map v.wlk.pos=e8 o.map w.pos)then oFin o k w r.seq true o.ground o.air 4
 else if w.j8<r.n then oFin o k w r.seq true o.ground o.air 3
 else if 99<v.wlk.j8+r.n then oFin o k w r.seq true o.ground o.air 5
 else⟨⟨o.map,(o.wlks.set k ⟨⟨w.id,w.pos,w.j8-r.n,r.seq,1⟩,true⟩).set j.toNat ⟨⟨v.wlk.id,v.wlk.pos,v.wlk.j8+r.n,v.wlk.seq,v.wlk.last⟩,v.here⟩,o.ground,o.air⟩,1⟩
def b0D (o:One) (k:Nat) (w:Wlk) (r:Ord):OC :=
 let c:=(e8 o.map w.pos).toNat
 if w.j8<r.n then oFin o k w r.seq true o.ground o.air 3
 else if 900<nth .int o.ground c+r.n then oFin o k w r.seq true o.ground o.air 5
 else oFin o k ⟨w.id,w.pos,w.j8-r.n,w.seq,w.last⟩ r.seq true (o.ground.set c (nth .int o.ground c+r.n)) o.air 1
def b0C (o:One) (k:Nat) (w:Wlk) (r:Ord):OC :=
 let c:=(e8 o.map w.pos).toNat
 if nth .int o.ground c<r.n then oFin o k w r.seq true o.ground o.air 6
 else if 99<w.j8+r.n then oFin o k w r.seq true o.ground o.air 5
 else oFin o k ⟨w.id,w.pos,w.j8+r.n,w.seq,w.last⟩ r.seq true (o.ground.set c (nth .int o.ground c-r.n)) o.air 1
def a5p (o:One) (k:Nat) (w:Wlk) (r:Ord):OC :=
 let d:=b7 o.map (e8 o.map w.pos) r.dest
 if B4 o.map w.pos r.dest=false then oFin o k w r.seq true o.ground o.air 7
 else if w.j8<r.n then oFin o k w r.seq true o.ground o.air 3
 else if 100000<nth .int (nth .ints o.air d.toNat) (1-r.dest).toNat+r.n then oFin o k w r.seq true o.ground o.air 5
 else oFin o k ⟨w.id,w.pos,w.j8-r.n,w.seq,w.last⟩ r.seq true o.ground (M5 o.air d (1-r.dest) r.n) 1
def a3H (o:One) (k:Nat) (w:Wlk) (r:Ord):OC :=
 if r.kind=1 then b0B o k w r
 else if r.kind=2 then a8u o k w r
 else if r.kind=3 then b0D o k w r
 else if r.kind=4 then b0C o k w r
 else if r.kind=5 then a5p o k w r
 else oFin o k w r.seq true o.ground o.air 1
def s4 (o:One) (r:Ord):OC :=
 let k:=b8 o.wlks r.who
 let x:=nth .ow o.wlks k.toNat
 if ¬(0≤k∧x.here=true)then⟨o,9⟩
 else if r.seq<x.wlk.seq then⟨o,8⟩
 else if r.seq=x.wlk.seq then⟨o,x.wlk.last⟩
 else a3H o k.toNat x.wlk r
def a2u:One:=⟨⟨0,0⟩,[],[],[]⟩
def n9 (o:One) (r:Ord):OC:=if r6 o=true∧y9 r=true then s4 o r else⟨a2u,0⟩
def B8 (o:One) (id:Int):One:=if 0≤b8 o.wlks id then⟨o.map,o.wlks.set (b8 o.wlks id).toNat ⟨(nth .ow o.wlks (b8 o.wlks id).toNat).wlk,true⟩,o.ground,o.air⟩else o
def B7 (o:One) (id:Int):One:=if r6 o=true then B8 o id else a2u
def Y0 (o:One) (c s n:Int):One :=
 if 0≤c∧c<o.map.cells∧(s=0∨s=1)∧1≤n∧n≤nth .int (nth .ints o.air c.toNat) s.toNat∧nth .int o.ground c.toNat+n≤900 then
  ⟨o.map,o.wlks,o.ground.set c.toNat (nth .int o.ground c.toNat+n),o.air.set c.toNat ((nth .ints o.air c.toNat).set s.toNat (nth .int (nth .ints o.air c.toNat) s.toNat-n))⟩
 else o
def B3 (o:One) (c s n:Int):One:=if r6 o=true then Y0 o c s n else a2u
def L8 (l:List OW):Nat→Int
 | 0=>0
 |k+1=>L8 l k+(nth .ow l k).wlk.j8
def Q4 (o:One):Nat→Int
 | 0=>0
 |k+1=>Q4 o k+(nth .int o.ground k+nth .int (nth .ints o.air k) 0+nth .int (nth .ints o.air k) 1)
def D5 (o:One):Int:=if r6 o=true then L8 o.wlks o.wlks.length+Q4 o o.ground.length else 0
theorem a6V (l:List OW):L8 l 0=0:=rfl
theorem a6W (l:List OW) (k:Nat):L8 l (k+1)=L8 l k+(nth .ow l k).wlk.j8:=rfl
theorem a7m (o:One):Q4 o 0=0:=rfl
theorem a4x (o:One) (k:Nat):Q4 o (k+1)=Q4 o k+(nth .int o.ground k+nth .int (nth .ints o.air k) 0+nth .int (nth .ints o.air k) 1):=rfl
theorem a4j {o:One} (h:r6 o=true):o.wlks.length≤9:=by
 have h1:x7 o.map (ows o.wlks)=true:=by rw[c5k];exact(S8.1 h).2.2
 have:=b1b (a6L h1) fun i hi=>by
  have:=s8.1 (a3l h1 hi)
  omega
 rwa [b7g]at this
def V7 (l:List Gst) (g:Gst):Nat:=(l.takeWhile fun x=>H4 x g).length
def a3d (l:List Gst) (g:Gst):List Gst :=
 if V7 l g<l.length∧H4 g (nth .gst l (V7 l g))=false then
  (if(nth .gst l (V7 l g)).count<g.count then l.set (V7 l g) g else l)
 else if l.length<20 then insL l (V7 l g) [g]else l
def a5t (l:List Hld) (cell:Int):Nat:=(l.takeWhile fun h=>decide (h.state.cell<cell)).length
def Y8 (l:List Hld) (h:Hld):List Hld:=if 0≤k8 l h.state.cell then l.set (k8 l h.state.cell).toNat h else insL l (a5t l h.state.cell) [h]
def G9 (l:List Hld) (cell:Int):List Hld:=l.filter fun h=>decide (h.state.cell≠cell)
structure SH where
 srv:Srv
 stores:List Sto
 out:List Msg
structure SW where
 srv:Srv
 stores:List Sto
 n:Int
 k:Int
def b6q:Msg:=⟨0,0,0,0,0,⟨0,0,0,0,0⟩,⟨0,0,⟨0,0,0,0,0⟩,0⟩,⟨0,0,⟨0,0,0,0,0⟩⟩⟩
def x6:Ord:=⟨0,0,0,0,0⟩
def A2:Pcl:=⟨0,0,⟨0,0,0,0,0⟩,0⟩
def K0:Gst:=⟨0,0,⟨0,0,0,0,0⟩⟩
def C7 (m:PMap) (s:Srv) (stores:List Sto) (cell:Int) (r:Rec):SW :=
 let w:=x9 m (j6 s cell) (nth .sto stores cell.toNat) r
 if w.n=1 then⟨⟨s.up,Y8 s.holds w.h,s.o8⟩,stores.set cell.toNat w.s,1,w.k⟩
 else if w.n=2 then⟨⟨s.up,G9 s.holds cell,s.o8⟩,stores,2,0⟩
 else⟨s,stores,w.n,0⟩
def N4 (m:PMap) (s:Srv) (stores:List Sto) (x:Msg):SH :=
 if z7 s x.cell=true∧x.n≤(j6 s x.cell).age then⟨s,stores,[]⟩
 else if x.n<(nth .sto stores x.cell.toNat).age then⟨s,stores,[]⟩
 else⟨⟨s.up,Y8 s.holds ⟨x.n,(nth .sto stores x.cell.toNat).recs.length,r9 m (nth .sto stores x.cell.toNat)⟩,s.o8⟩,stores.set x.cell.toNat ⟨x.n,(nth .sto stores x.cell.toNat).base,(nth .sto stores x.cell.toNat).recs⟩,[]⟩
def a2G (x:Msg) (n:Int):Msg:=⟨3,-1,x.cell,0,n,x.ord,A2,K0⟩
def a8y (x:Msg):Msg:=⟨4,-1,x.cell,0,0,x.ord,A2,K0⟩
def a0f (m:PMap) (s:Srv) (stores:List Sto) (x:Msg):SH :=
 let c:=(j6 s x.cell).state
 let w:=F5 c.wlks x.ord.who
 if u4 c.wlks x.ord.who=false then⟨s,stores,[a8y x]⟩
 else if x.ord.seq<w.seq then⟨s,stores,[]⟩
 else if x.ord.seq=w.seq then⟨s,stores,if w.last=0 then[]else[a2G x w.last]⟩
 else
  let y:=C7 m s stores x.cell ⟨1,x.ord,0,A2,0⟩
  ⟨y.srv,y.stores,if y.n=1 then[a2G x y.k]else[]⟩
def W7 (m:PMap) (t:Arb) (x:Msg) (n:Int):List Msg :=
 if n7 t (b7 m x.cell x.side) = -1 then[]else[⟨6,n7 t (b7 m x.cell x.side),b7 m x.cell x.side,1-x.side,n,x6,A2,K0⟩]
def a0e (m:PMap) (s:Srv) (stores:List Sto) (t:Arb) (x:Msg):SH :=
 let n:=nth .int (j6 s x.cell).state.ins x.side.toNat
 if x.pcl.n<n then⟨s,stores,W7 m t x n⟩
 else
  let y:=C7 m s stores x.cell ⟨2,x6,x.side,x.pcl,0⟩
  ⟨y.srv,y.stores,if y.n=1 then W7 m t x (n+1)else[]⟩
def r8 (m:PMap) (s:Srv) (stores:List Sto) (t:Arb) (x:Msg):SH :=
 if s.up=false∨x.dest = -1 then⟨s,stores,[]⟩
 else if x.kind=1 then N4 m s stores x
 else if x.kind=7 then⟨⟨s.up,s.holds,a3d s.o8 x.gst⟩,stores,[]⟩
 else if z7 s x.cell=false then⟨s,stores,[]⟩
 else if x.kind=2 then a0f m s stores x
 else if x.kind=5 then a0e m s stores t x
 else
  let y:=C7 m s stores x.cell ⟨3,x6,x.side,A2,x.n⟩
  ⟨y.srv,y.stores,[]⟩
def H5 (m:PMap) (s:Srv) (stores:List Sto) (t:Arb) (servers:Int) (x:Msg):SH :=
 if C0 m s=true∧B1 m stores=true∧D0 m t servers=true∧y5 m servers x=true then r8 m s stores t x else⟨⟨false,[],[]⟩,[],[]⟩
def D1 (m:PMap) (t:Arb) (h:Hld) (cell:Int) (side:Int):List Msg :=
 let there:=b7 m cell side
 let server:=n7 t there
 if there = -1∨server = -1 then[]else
  (((nth .pcls h.state.outs side.toNat).take 4).map fun p=>(⟨5,server,there,1-side,0,x6,p,K0⟩:Msg))++(((o8 m h side).take 4).map fun g=>(⟨7,server,there,1-side,0,x6,A2,g⟩:Msg))
def E7 (m:PMap) (s:Srv) (t:Arb) (cell:Int):List Msg :=
 if z7 s cell=true then D1 m t (j6 s cell) cell 0++D1 m t (j6 s cell) cell 1 else[]
def rowAt (l:List Row) (who:Int):Row:=nth .row l (m7 l who).toNat
def B5 (m:PMap) (l:List Row) (x:Msg):BB :=
 let r:=rowAt l x.ord.who
 if 0≤m7 l x.ord.who∧r.busy=true∧r.ord=x.ord then
  (if x.kind=3 then⟨l.set (m7 l x.ord.who).toNat ⟨r.who,x.cell,false,x6,x.ord.seq,x.n⟩,true⟩
  else if x.kind=4∧x.cell=r.cell then⟨l.set (m7 l x.ord.who).toNat ⟨r.who,(r.cell+1).tmod m.cells,r.busy,r.ord,r.seq,r.code⟩,false⟩
  else⟨l,false⟩)
 else⟨l,false⟩
def a2l (m:PMap) (l:List Row) (servers:Int) (x:Msg):BB:=if C4 m l=true∧y5 m servers x=true then B5 m l x else⟨[],false⟩
structure MB where
 x:Msg
 ok:Bool
def Y9 (l:List Row) (t:Arb) (who:Int):MB :=
 if 0≤m7 l who∧(rowAt l who).busy=true∧n7 t (rowAt l who).cell ≠ -1 then⟨⟨2,n7 t (rowAt l who).cell,(rowAt l who).cell,0,0,(rowAt l who).ord,A2,K0⟩,true⟩else⟨b6q,false⟩
def a6h (m:PMap) (l:List Row) (t:Arb) (servers:Int) (who:Int):MB:=if C4 m l=true∧D0 m t servers=true then Y9 l t who else⟨b6q,false⟩
structure TB where
 t:Arb
 ok:Bool
def s6 (t:Arb) (servers cell server:Int):TB :=
 if 0≤cell∧cell<(t.servers.length:Int)∧0≤server∧server<servers∧nth .int t.ages cell.toNat≠900 then⟨⟨t.servers.set cell.toNat server,t.ages.set cell.toNat (nth .int t.ages cell.toNat+1)⟩,true⟩else⟨t,false⟩
def T5 (m:PMap) (t:Arb) (servers cell server:Int):TB:=if D0 m t servers=true then s6 t servers cell server else⟨⟨[],[]⟩,false⟩
def a2r (w:Wld) (i:Nat):Bool:=decide ((nth .sto w.stores i).age≤nth .int w.table.ages i)
def a5J (t:Arb) (l:List Hld) (i:Nat):Bool:=decide ((nth .hld l i).age≤nth .int t.ages (nth .hld l i).state.cell.toNat)
def a4I (w:Wld) (i:Nat):Bool:=C0 w.map (nth .srv w.servers i)&&m9 (nth .srv w.servers i).holds.length (a5J w.table (nth .srv w.servers i).holds)
def a8x (w:Wld) (i:Nat):Bool:=y5 w.map w.servers.length (nth .msg w.net i)&&decide ((nth .msg w.net i).kind=1→(nth .msg w.net i).n≤nth .int w.table.ages (nth .msg w.net i).cell.toNat)
def a7a (n:Note):Bool:=decide (1≤n.who∧n.who≤9∧1≤n.seq∧n.seq≤900∧1≤n.code∧n.code≤9)
def c3g (w:Wld) (i:Nat):Bool:=a7a (nth .note w.notes i)
def m8 (w:Wld):Bool:=D0 w.map w.table w.servers.length&&B1 w.map w.stores&&C4 w.map w.rows&&decide (w.net.length≤40∧w.notes.length≤150) &&
 m9 w.stores.length (a2r w)&&m9 w.servers.length (a4I w)&&m9 w.net.length (a8x w)&&m9 w.notes.length (c3g w)
def x8 (w:Wld) (l:List Msg):Wld:=⟨w.map,w.servers,w.stores,w.table,w.rows,w.net++l.take (40-w.net.length),w.notes⟩
def wCut (w:Wld) (i:Nat):Wld:=⟨w.map,w.servers,w.stores,w.table,w.rows,w.net.eraseIdx i,w.notes⟩
def a1W (w:Wld) (x:Msg):Wld :=
 let y:=B5 w.map w.rows x
 ⟨w.map,w.servers,w.stores,w.table,y.b,w.net,if y.ok=true∧w.notes.length<150 then w.notes ++ [⟨x.ord.who,x.ord.seq,x.n⟩]else w.notes⟩
def a3m (w:Wld) (x:Msg):Wld :=
 let y:=r8 w.map (nth .srv w.servers x.dest.toNat) w.stores w.table x
 x8 ⟨w.map,w.servers.set x.dest.toNat y.srv,y.stores,w.table,w.rows,w.net,w.notes⟩ y.out
def a0a (w:Wld) (i:Nat):Wld :=
 let x:=nth .msg w.net i
 if x.dest = -1 then a1W (wCut w i) x else a3m (wCut w i) x
def y8 (w:Wld) (e:Evt):Wld :=
 if e.kind=1 then
  (let y:=s6 w.table w.servers.length e.pos e.dest
  if y.ok=true then x8 ⟨w.map,w.servers,w.stores,y.t,w.rows,w.net,w.notes⟩ [⟨1,e.dest,e.pos,0,nth .int y.t.ages e.pos.toNat,x6,A2,K0⟩]else w)
 else if e.kind=2 then⟨w.map,w.servers,w.stores,w.table,(T7 w.rows e.pos e.what e.dest e.n).b,w.net,w.notes⟩
 else if e.kind=3 then(if(Y9 w.rows w.table e.pos).ok=true then x8 w [(Y9 w.rows w.table e.pos).x]else w)
 else if 4≤e.kind∧e.kind≤6 then
  (if 0≤e.pos∧e.pos<(w.net.length:Int)then(if e.kind=4 then a0a w e.pos.toNat else if e.kind=5 then wCut w e.pos.toNat else x8 w [nth .msg w.net e.pos.toNat])else w)
 else if 7≤e.kind∧e.kind≤9 then
  (if 0≤e.pos∧e.pos<(w.servers.length:Int)then(if e.kind=7 then x8 w (E7 w.map (nth .srv w.servers e.pos.toNat) w.table e.dest)
   else if e.kind=8 then⟨w.map,w.servers.set e.pos.toNat ⟨false,[],[]⟩,w.stores,w.table,w.rows,w.net,w.notes⟩
   else if(nth .srv w.servers e.pos.toNat).up=false then⟨w.map,w.servers.set e.pos.toNat ⟨true,[],[]⟩,w.stores,w.table,w.rows,w.net,w.notes⟩else w)else w)
 else w
def R4:Wld:=⟨⟨0,0⟩,[],[],⟨[],[]⟩,[],[],[]⟩
def m4 (w:Wld) (e:Evt):Wld:=if m8 w=true then y8 w e else R4
structure GB where
 l:List Gst
 d:Bool
def V9 (l:List Gst) (g x:Gst) (o:GB):GB :=
 if x.src=g.src∧x.wlk.id=g.wlk.id then⟨o.l ++ [if x.count<g.count then g else x],true⟩
 else if o.d=false∧H4 g x=true∧l.length<20 then⟨o.l ++ [g] ++ [x],true⟩
 else⟨o.l ++ [x],o.d⟩
def gpTo (l:List Gst) (g:Gst):Nat→GB
 | 0=>⟨[],false⟩
 |k+1=>V9 l g (nth .gst l k) (gpTo l g k)
theorem c9b (l:List Gst) (g:Gst):gpTo l g 0=⟨[],false⟩:=rfl
theorem a9R (l:List Gst) (g:Gst) (k:Nat):gpTo l g (k+1)=V9 l g (nth .gst l k) (gpTo l g k):=rfl
theorem d3o (l:List Gst) (g:Gst) (k:Nat):(gpTo l g k).l.length≤k+(if(gpTo l g k).d=true then 1 else 0):=by
 induction k with
 |zero=>simp[gpTo]
 |succ k ih =>
  rw[a9R]
  unfold V9
  split
  ·simp;split at ih<;>omega
  ·split
   ·rename_i h
    simp[h.1]at ih ⊢
    omega
   ·simp
    split at ih<;>simp_all<;>omega
def c5Y (l:List Gst) (g:Gst):List Gst:=if(gpTo l g l.length).d=false∧l.length<20 then(gpTo l g l.length).l ++ [g]else(gpTo l g l.length).l
def a8K (m:PMap) (l:List Gst) (g:Gst):List Gst:=if E8 m l=true∧a1x m g=true then c5Y l g else[]
theorem a0V {t:RT} {β : Type} (f:t.ty → β) (l:List t.ty) {k:Nat} (h:k<l.length):(l.take (k+1)).map f=(l.take k).map f ++ [f (nth t l k)]:=by
 rw[List.take_succ_eq_append_getElem h,List.map_append,k9 t l k h]
 rfl
theorem a7D {t:RT} {β : Type} (f:t.ty → β) (l:List t.ty) {k:Nat} (h:k≤l.length) (h4:k≤4) (he : ¬(k<l.length∧k<4)):(l.take k).map f=(l.take 4).map f:=by
 by_cases h5:k=4
 ·rw[h5]
 ·rw[List.take_of_length_le (by omega),List.take_of_length_le (by omega)]
def c2H (m:PMap) (t:Arb) (cell side:Int) (p:Pcl):Msg:=⟨5,n7 t (b7 m cell side),b7 m cell side,1-side,0,x6,p,K0⟩
def c3B (m:PMap) (t:Arb) (cell side:Int) (g:Gst):Msg:=⟨7,n7 t (b7 m cell side),b7 m cell side,1-side,0,x6,A2,g⟩
def a2c (m:PMap) (t:Arb) (h:Hld) (side:Int) (k:Nat):List Msg:=((nth .pcls h.state.outs side.toNat).take k).map (c2H m t h.state.cell side)
def a3c (m:PMap) (t:Arb) (h:Hld) (side:Int) (k:Nat):List Msg:=((o8 m h side).take k).map (c3B m t h.state.cell side)
theorem b9J (m:PMap) (t:Arb) (h:Hld) (side:Int):a2c m t h side 0 = []:=by simp[a2c]
theorem c0T (m:PMap) (t:Arb) (h:Hld) (side:Int):a3c m t h side 0 = []:=by simp[a3c]
theorem b9K (m:PMap) (t:Arb) (h:Hld) (side:Int) {k:Nat} (hk:k<(nth .pcls h.state.outs side.toNat).length):a2c m t h side (k+1)=a2c m t h side k ++ [c2H m t h.state.cell side (nth .pcl (nth .pcls h.state.outs side.toNat) k)]:=a0V (t := .pcl) _ _ hk
theorem c0U (m:PMap) (t:Arb) (h:Hld) (side:Int) {k:Nat} (hk:k<(o8 m h side).length):a3c m t h side (k+1)=a3c m t h side k ++ [c3B m t h.state.cell side (nth .gst (o8 m h side) k)]:=a0V (t := .gst) _ _ hk
theorem c2G (m:PMap) (t:Arb) (h:Hld) (side:Int) {k:Nat} (hk:k≤(nth .pcls h.state.outs side.toNat).length) (h4:k≤4) (he : ¬(k<(nth .pcls h.state.outs side.toNat).length∧k<4)):a2c m t h side k=a2c m t h side 4:=a7D (t := .pcl) _ _ hk h4 he
theorem c3z (m:PMap) (t:Arb) (h:Hld) (side:Int) {k:Nat} (hk:k≤(o8 m h side).length) (h4:k≤4) (he : ¬(k<(o8 m h side).length∧k<4)):a3c m t h side k=a3c m t h side 4:=a7D (t := .gst) _ _ hk h4 he
def a3X (m:PMap) (t:Arb) (h:Hld) (side:Int):List Msg :=
 if b7 m h.state.cell side = -1∨n7 t (b7 m h.state.cell side) = -1 then[]else a2c m t h side 4++a3c m t h side 4
theorem b2f (m:PMap) (t:Arb) (h:Hld) (side:Int) (k:Nat):(a2c m t h side k).length≤k:=by simp[a2c];omega
theorem b3c (m:PMap) (t:Arb) (h:Hld) (side:Int) (k:Nat):(a3c m t h side k).length≤k:=by simp[a3c];omega
def b7B (cell:Int) (h:Hld):Bool:=decide (h.state.cell≠cell)
def V6 (l:List Hld) (cell:Int) (k:Nat):List Hld:=flt (b7B cell) l k
theorem b4s (l:List Hld) (cell:Int):V6 l cell 0 = []:=a8P _ _
theorem b7M (l:List Hld) (cell:Int) (k:Nat):(V6 l cell k).length≤k:=b1l _ _ _
theorem b7L {l:List Hld} {cell:Int} {k:Nat} (h:k<l.length) (hi:(nth .hld l k).state.cell≠cell):V6 l cell (k+1)=V6 l cell k ++ [nth .hld l k]:=by
 unfold V6
 rw[a1o .hld _ _ _ h,if_pos (by simp[b7B,hi])]
theorem c0N {l:List Hld} {cell:Int} {k:Nat} (h:k<l.length) (hi:(nth .hld l k).state.cell=cell):V6 l cell (k+1)=V6 l cell k:=by
 unfold V6
 rw[a1o .hld _ _ _ h,if_neg (by simp[b7B,hi])]
theorem b7N {l:List Hld} {cell:Int} {k:Nat} (h:k=l.length):V6 l cell k=G9 l cell:=by
 subst h
 unfold V6
 rw[b1m]
 rfl
theorem c3v (l:List Hld) (cell:Int):(G9 l cell).length≤l.length:=by
 unfold G9
 exact List.length_filter_le _ _
structure HB where
 l:List Hld
 d:Bool
def a2k (h x:Hld) (o:HB):HB:=if o.d=false∧h.state.cell<x.state.cell then⟨o.l ++ [h] ++ [x],true⟩else⟨o.l ++ [x],o.d⟩
def hpTo (l:List Hld) (h:Hld):Nat→HB
 | 0=>⟨[],false⟩
 |k+1=>a2k h (nth .hld l k) (hpTo l h k)
theorem c8S (l:List Hld) (h:Hld):hpTo l h 0=⟨[],false⟩:=rfl
theorem a9N (l:List Hld) (h:Hld) (k:Nat):hpTo l h (k+1)=a2k h (nth .hld l k) (hpTo l h k):=rfl
theorem d3c (l:List Hld) (h:Hld) (k:Nat):(hpTo l h k).l.length≤k+(if(hpTo l h k).d=true then 1 else 0):=by
 induction k with
 |zero=>simp[hpTo]
 |succ k ih =>
  rw[a9N]
  unfold a2k
  split
  ·rename_i h
   simp[h.1]at ih ⊢
   omega
  ·simp
   split at ih<;>simp_all<;>omega
def c5R (l:List Hld) (h:Hld):List Hld:=if(hpTo l h l.length).d=false then(hpTo l h l.length).l ++ [h]else(hpTo l h l.length).l
def a6e (l:List Hld) (h:Hld):List Hld:=c5R (G9 l h.state.cell) h
theorem a3r {m:PMap} {s:Srv} (h:C0 m s=true) : ∀ {i j:Nat},i<j→j<s.holds.length→(nth .hld s.holds i).state.cell<(nth .hld s.holds j).state.cell:=by
 have hs : ∀k,k<s.holds.length→0<k→(nth .hld s.holds (k-1)).state.cell<(nth .hld s.holds k).state.cell:=fun k hk h0=>by
  unfold C0 at h
  rw[Bool.and_eq_true]at h
  have:=(l8 _ _).1 h.2 k hk
  simp only[a3M,Bool.and_eq_true,Bool.or_eq_true,decide_eq_true_eq]at this
  exact this.2.resolve_left (by omega)
 intro i j hij hj
 induction j with
 |zero=>omega
 |succ j ih =>
  have h1:=hs (j+1) hj (by omega)
  simp only[Nat.add_sub_cancel]at h1
  by_cases he:i=j
  ·subst he;exact h1
  ·have:=ih (by omega) (by omega)
   omega
theorem b0Z {m:PMap} {s:Srv} (h:C0 m s=true):s.holds.length≤4:=by
 by_cases h4:s.holds.length≤4
 ·exact h4
 ·exfalso
  have c:=fun k (hk:k<s.holds.length)=>(o7 (C2.1 (a6K h hk)).2.2)
  have o1:=a3r h (i:=0) (j:=1) (by omega) (by omega)
  have o2:=a3r h (i:=1) (j:=2) (by omega) (by omega)
  have o3:=a3r h (i:=2) (j:=3) (by omega) (by omega)
  have o4:=a3r h (i:=3) (j:=4) (by omega) (by omega)
  obtain⟨_,hp,c0,_⟩:=c 0 (by omega)
  obtain⟨_,_,_,c4,_⟩:=c 4 (by omega)
  obtain⟨_,h4',_,_⟩:=n6.1 hp
  omega
end Go.Mo
