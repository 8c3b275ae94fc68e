/-
  Plain law: in a log that fits no order stands twice.
-/
import Derived.Test.YtihaeoicjglieaaGreatM1
import Derived.Test.YtihaeoicjglieaaGreatS5
set_option linter.unusedVariables false
set_option linter.unusedSimpArgs false
namespace Go.Mo
open Go.Sx
def past (c:Cll) (who seq:Int):Prop := ∀v∈c.wlks,v.id=who→seq≤v.seq
def a0K:Sto:=⟨0,U4,[]⟩
def a3X:Hld:=⟨0,0,U4⟩
def B1 (m:PMap) (s:Sto):Bool:=decide (0≤s.age∧s.age≤900∧s6 m s.base=true∧s.recs.length≤250∧a0e m s.base s.recs=s.recs.length)
theorem y7 {m:PMap} {s:Sto}:B1 m s=true↔(0≤s.age∧s.age≤900)∧s6 m s.base=true∧s.recs.length≤250∧a0e m s.base s.recs=s.recs.length:=by simp[B1,and_assoc]
def q9 (m:PMap) (s:Sto):Cll:=a3k m s.base s.recs
def L6 (m:PMap) (s:Sto):Cll:=if B1 m s=true then q9 m s else U4
theorem a1C {m:PMap} {s:Sto} (h:B1 m s=true):s6 m (q9 m s)=true:=d1Y (y7.1 h).2.1
structure SOk where
 s:Sto
 ok:Bool
def U9 (m:PMap) (s:Sto) (age:Int):SOk :=
 if B1 m s=true∧0≤age∧age≤900 then(if age<s.age then⟨s,false⟩else⟨⟨age,s.base,s.recs⟩,true⟩)else⟨a0K,false⟩
structure SN where
 s:Sto
 n:Int
def L4 (m:PMap) (s:Sto) (age pos:Int) (r:Rec):SN :=
 if ¬age=s.age then⟨s,2⟩
 else if ¬pos=(s.recs.length:Int)∨pos=250 then⟨s,3⟩
 else if H4 m r=true∧(l7 m (q9 m s) r).ok=true then⟨⟨s.age,s.base,s.recs ++ [r]⟩,1⟩
 else⟨s,4⟩
def A3 (m:PMap) (s:Sto) (age pos:Int) (r:Rec):SN:=if B1 m s=true then L4 m s age pos r else⟨a0K,0⟩
def S8 (m:PMap) (h:Hld):Bool:=decide (1≤h.age∧h.age≤900∧0≤h.count∧h.count≤250∧s6 m h.state=true)
theorem B7 {m:PMap} {h:Hld}:S8 m h=true↔(1≤h.age∧h.age≤900)∧(0≤h.count∧h.count≤250)∧s6 m h.state=true:=by simp[S8,and_assoc]
structure HSO where
 h:Hld
 s:Sto
 ok:Bool
def J3 (m:PMap) (s:Sto) (age:Int):HSO :=
 if B1 m s=true∧1≤age∧age≤900 then(if age<s.age then⟨a3X,s,false⟩else⟨⟨age,s.recs.length,q9 m s⟩,⟨age,s.base,s.recs⟩,true⟩)else⟨a3X,a0K,false⟩
structure HSN where
 h:Hld
 s:Sto
 n:Int
 k:Int
def y4 (m:PMap) (h:Hld) (s:Sto) (r:Rec):HSN :=
 if S8 m h=true∧B1 m s=true then
  (if ¬(L4 m s h.age h.count r).n=1 then⟨h,s,(L4 m s h.age h.count r).n,0⟩
  else if(l7 m h.state r).ok=false then⟨h,s,4,0⟩
  else⟨⟨h.age,h.count+1,(l7 m h.state r).c⟩,(L4 m s h.age h.count r).s,1,(l7 m h.state r).code⟩)
 else⟨a3X,a0K,0,0⟩
theorem b6F (t:RT) {l:List t.ty} {x:t.ty} {k:Nat} (h:k<l.length):nth t (l ++ [x]) k=nth t l k:=by
 rw[l6 t l k h,l6 t _ k (by simp;omega),List.getElem_append_left h]
theorem a7F (t:RT) {l:List t.ty} {x:t.ty}:nth t (l ++ [x]) l.length=x:=by simp[nth,List.getD]
theorem a3P {m:PMap} {c:Cll} {l:List Rec} {r:Rec} : ∀ {k:Nat},k≤l.length→v8 m c (l ++ [r]) k=v8 m c l k
 | 0,_=>rfl
 |k+1,h=>by rw[P1,P1,a3P (by omega),b6F .rcd (by omega)]
theorem c8l {m:PMap} {c:Cll} {l:List Rec} {r:Rec} {k:Nat} (h:k<l.length):P2 m c (l ++ [r]) k=P2 m c l k:=by
 unfold P2
 rw[a3P (by omega),b6F .rcd h]
theorem c0o {m:PMap} {c:Cll} {l:List Rec} (h:a0e m c l=l.length):m8 l.length (P2 m c l)=true:=by
 have:=b2s m c l
 rw[h]at this
 exact this
theorem a5z {m:PMap} {c:Cll} {l:List Rec} (h:a0e m c l=l.length):a3k m c l=v8 m c l l.length:=by rw[a3k,h]
theorem b4P {m:PMap} {c:Cll} {l:List Rec} {r:Rec} (h:a0e m c l=l.length) (hr:H4 m r=true) (ha:(l7 m (a3k m c l) r).ok=true):a0e m c (l ++ [r])=(l ++ [r]).length:=by
 have h1:=c0o h
 refine a9f rfl ?_
 rw[List.length_append,List.length_singleton,n4,Bool.and_eq_true]
 refine⟨?_,?_⟩
 ·rw[m4]at h1 ⊢
  intro i hi
  rw[c8l hi]
  exact h1 i hi
 ·unfold P2
  rw[a3P (Nat.le_refl _),a7F .rcd,←a5z h,hr,ha]
  rfl
theorem c8h {m:PMap} {c:Cll} {l:List Rec} {r:Rec} (h:a0e m c l=l.length) (hr:H4 m r=true) (ha:(l7 m (a3k m c l) r).ok=true):a3k m c (l ++ [r])=(l7 m (a3k m c l) r).c:=by
 rw[a5z (b4P h hr ha),List.length_append,List.length_singleton,P1,a3P (Nat.le_refl _),a7F .rcd,←a5z h]
theorem a3n (m:PMap) (s:Sto) (age pos:Int) (r:Rec):((L4 m s age pos r).s=s∧((L4 m s age pos r).n=2∧age≠s.age∨(L4 m s age pos r).n=3∧age=s.age∧(pos≠s.recs.length∨pos=250)∨(L4 m s age pos r).n=4∧age=s.age ∧ ¬(H4 m r=true∧(l7 m (q9 m s) r).ok=true))) ∨
  ((L4 m s age pos r).s=⟨s.age,s.base,s.recs ++ [r]⟩∧(L4 m s age pos r).n=1∧age=s.age∧pos=s.recs.length∧pos≠250∧H4 m r=true∧(l7 m (q9 m s) r).ok=true):=by
 unfold L4
 split
 ·exact .inl ⟨rfl,.inl ⟨rfl,by assumption⟩⟩
 split
 ·rename_i h1 h2
  exact .inl ⟨rfl,.inr (.inl ⟨rfl,Classical.not_not.1 h1,h2⟩)⟩
 split
 ·rename_i h1 h2 h3
  exact .inr ⟨rfl,rfl,Classical.not_not.1 h1,by omega,by omega,h3.1,h3.2⟩
 ·rename_i h1 h2 h3
  exact .inl ⟨rfl,.inr (.inr ⟨rfl,Classical.not_not.1 h1,h3⟩)⟩
theorem apX {m:PMap} {c:Cll} {r:Rec} (hc:s6 m c=true) (hr:H4 m r=true):F5 m c r=l7 m c r:=by rw[F5,if_pos ⟨hc,hr⟩]
theorem b5D {m:PMap} {s:Sto} (h:B1 m s=true):L6 m s=q9 m s:=by rw[L6,if_pos h]
theorem a1S {m:PMap} {s:Sto} {a b:Int} {r:Rec} (h:B1 m s=true):A3 m s a b r=L4 m s a b r:=by rw[A3,if_pos h]
theorem c3b {m:PMap} {s:Sto} {a b:Int} {r:Rec} (h:B1 m s=true) (hn : ¬(A3 m s a b r).n=1):(A3 m s a b r).s=s:=by
 rw[a1S h]at *
 rcases a3n m s a b r with ⟨h1,h2⟩|⟨h1,h2,_⟩
 ·exact h1
 ·exact absurd h2 hn
theorem d3f {m:PMap} {s:Sto} {a:Int} (h:B1 m s=true) (h1:0≤a) (h2:a≤900):B1 m ⟨a,s.base,s.recs⟩=true∧L6 m ⟨a,s.base,s.recs⟩=L6 m s:=by
 have h3:=y7.1 h
 have h4:B1 m ⟨a,s.base,s.recs⟩=true:=y7.2 ⟨⟨h1,h2⟩,h3.2⟩
 exact⟨h4,by rw[b5D h,b5D h4];rfl⟩
theorem b5o {m:PMap} {h:Hld} {s:Sto} {r:Rec} (hh:S8 m h=true) (hs:B1 m s=true) (ha : ¬h.age=s.age):(y4 m h s r).h=h∧(y4 m h s r).s=s∧(y4 m h s r).n=2:=by
 have e:L4 m s h.age h.count r=⟨s,2⟩:=by rw[L4,if_pos ha]
 rw[y4,if_pos ⟨hh,hs⟩,e,if_pos (fun hh:(2:Int)=1=>by cases hh)]
 exact⟨rfl,rfl,rfl⟩
def a1d (m:PMap) (g:Gst):Bool:=decide (0≤g.count∧g.count≤250∧P9 m g.wlk=true∧l8 m g.wlk.pos=g.src∧(J2 m g.wlk.pos 0=true∨J2 m g.wlk.pos 1=true))
def G0 (a b:Gst):Bool:=decide (a.src<b.src∨a.src=b.src∧a.wlk.id<b.wlk.id)
def a3i (m:PMap) (l:List Gst) (i:Nat):Bool:=a1d m (nth .gst l i)&&(decide (i=0)||G0 (nth .gst l (i-1)) (nth .gst l i))
def D9 (m:PMap) (l:List Gst):Bool:=decide (l.length≤20)&&m8 l.length (a3i m l)
def W9 (m:PMap) (l:List Gst):Bool:=s0 m&&D9 m l
theorem b4I {m:PMap} {l:List Gst} {k:Nat} (h:k<l.length) (hw:a1d m (nth .gst l k)=false):D9 m l=false:=by
 have:=s7 (f:=a3i m l) h (by simp[a3i,hw])
 simp[D9,this]
theorem b4H {m:PMap} {l:List Gst} {k:Nat} (h:k<l.length) (h0:0<k) (hw:G0 (nth .gst l (k-1)) (nth .gst l k)=false):D9 m l=false:=by
 have:=s7 (f:=a3i m l) h (by simp[a3i,hw];omega)
 simp[D9,this]
theorem a9b {m:PMap} {l:List Gst} (h:20<l.length):D9 m l=false:=by
 simp[D9]
 omega
theorem b9X {m:PMap} {l:List Gst} {k:Nat} (h:m8 k (a3i m l)=true) (hk:k=l.length) (hl:l.length≤20):D9 m l=true:=by
 subst hk
 simp[D9,h,hl]
def a4c (t:Arb) (servers:Int) (i:Nat):Bool:=decide (-1≤nth .int t.servers i∧nth .int t.servers i≤servers-1∧0≤nth .int t.ages i∧nth .int t.ages i≤900∧(nth .int t.servers i = -1↔nth .int t.ages i=0))
def a0b (m:PMap) (t:Arb) (servers:Int):Bool:=decide (s0 m=true∧1≤servers∧servers≤3∧(t.servers.length:Int)=m.cells∧(t.ages.length:Int)=m.cells)
def C2 (m:PMap) (t:Arb) (servers:Int):Bool:=a0b m t servers&&m8 t.servers.length (a4c t servers)
theorem c5L {m:PMap} {t:Arb} {servers:Int} {k:Nat} (h:k<t.servers.length) (hw:a4c t servers k=false):C2 m t servers=false:=by
 have:=s7 (f:=a4c t servers) h hw
 simp[C2,this]
theorem a6D {m:PMap} {t:Arb} {servers:Int} {k:Nat} (h:C2 m t servers=true) (hk:k<t.servers.length) : -1≤nth .int t.servers k∧nth .int t.servers k≤servers-1∧0≤nth .int t.ages k∧nth .int t.ages k≤900∧(nth .int t.servers k = -1↔nth .int t.ages k=0):=by
 unfold C2 at h
 rw[Bool.and_eq_true]at h
 have:=(m4 _ _).1 h.2 k hk
 simpa [a4c]using this
theorem b2S {m:PMap} {t:Arb} {servers:Int} {k:Nat} (h:C2 m t servers=true) (hk:(k:Int)<m.cells) : -1≤nth .int t.servers k∧nth .int t.servers k≤servers-1∧0≤nth .int t.ages k∧nth .int t.ages k≤900∧(nth .int t.servers k = -1↔nth .int t.ages k=0):=by
 refine a6D h ?_
 unfold C2 at h
 rw[Bool.and_eq_true]at h
 have h1:=h.1
 simp only[a0b,decide_eq_true_eq]at h1
 omega
theorem c5M {m:PMap} {t:Arb} {servers:Int} {k:Nat} (h:m8 k (a4c t servers)=true) (hh:a0b m t servers=true) (hk:k=t.servers.length):C2 m t servers=true:=by
 subst hk
 simp[C2,h,hh]
def o9 (t:Arb) (cell:Int):Int:=if 0≤cell∧cell<(t.servers.length:Int)then nth .int t.servers cell.toNat else -1
def a3p (g:Gst):Bool:=decide (g.src=0∧g.count=0∧a4e g.wlk=true)
def H7 (m:PMap) (servers:Int) (x:Msg):Bool:=decide (
 (x.kind=1∧0≤x.dest∧x.dest≤servers-1∧x.side=0∧1≤x.n∧x.n≤900∧a1X x.ord=true∧a3W x.pcl=true∧a3p x.gst=true) ∨
 (x.kind=2∧0≤x.dest∧x.dest≤servers-1∧x.side=0∧x.n=0∧O2 x.ord=true∧a3W x.pcl=true∧a3p x.gst=true) ∨
 (x.kind=3∧x.dest = -1∧x.side=0∧1≤x.n∧x.n≤9∧O2 x.ord=true∧a3W x.pcl=true∧a3p x.gst=true) ∨
 (x.kind=4∧x.dest = -1∧x.side=0∧x.n=0∧O2 x.ord=true∧a3W x.pcl=true∧a3p x.gst=true) ∨
 (x.kind=5∧0≤x.dest∧x.dest≤servers-1∧b7 m x.cell x.side ≠ -1∧x.n=0∧a1X x.ord=true∧I8 m x.pcl=true∧a3p x.gst=true) ∨
 (x.kind=6∧0≤x.dest∧x.dest≤servers-1∧b7 m x.cell x.side ≠ -1∧1≤x.n∧x.n≤5000∧a1X x.ord=true∧a3W x.pcl=true∧a3p x.gst=true) ∨
 (x.kind=7∧0≤x.dest∧x.dest≤servers-1∧b7 m x.cell x.side ≠ -1∧x.n=0∧a1X x.ord=true∧a3W x.pcl=true∧a1d m x.gst=true∧x.gst.src=b7 m x.cell x.side))
def y5 (m:PMap) (servers:Int) (x:Msg):Bool:=decide (s0 m=true∧1≤servers∧servers≤3∧0≤x.cell∧x.cell<m.cells∧H7 m servers x=true)
def Y4 (m:PMap) (r:Row):Bool:=decide (1≤r.who∧r.who≤9∧0≤r.cell∧r.cell<m.cells∧0≤r.seq∧r.seq≤900∧0≤r.code∧r.code≤9∧(r.busy=false→a1X r.ord=true)∧(r.busy=true→O2 r.ord=true∧r.ord.who=r.who∧r.ord.seq=r.seq+1))
def M1 (m:PMap) (l:List Row) (i:Nat):Bool:=Y4 m (nth .row l i)&&(decide (i=0)||decide ((nth .row l (i-1)).who<(nth .row l i).who))
def B9 (m:PMap) (l:List Row):Bool:=s0 m&&m8 l.length (M1 m l)
theorem b9V {m:PMap} {l:List Row} {k:Nat} (h:k<l.length) (hw:Y4 m (nth .row l k)=false):B9 m l=false:=by
 have:=s7 (f:=M1 m l) h (by simp[M1,hw])
 simp[B9,this]
theorem b9U {m:PMap} {l:List Row} {k:Nat} (h:k<l.length) (h0:0<k) (hw : ¬(nth .row l (k-1)).who<(nth .row l k).who):B9 m l=false:=by
 have:=s7 (f:=M1 m l) h (by simp[M1,hw];omega)
 simp[B9,this]
theorem c4Y {m:PMap} {l:List Row} {k:Nat} (h:m8 k (M1 m l)=true) (hk:k=l.length) (hm:s0 m=true):B9 m l=true:=by
 subst hk
 simp[B9,h,hm]
def a7P (who:Int) (r:Row):Bool:=decide (r.who=who)
def m5 (l:List Row) (who:Int):Int:=idx (a7P who) l
def nwho (l:List Row) (who:Int) (j:Nat):Bool := !a7P who (nth .row l j)
theorem c1x {l:List Row} {who:Int} {k:Nat} (h:m8 k (nwho l who)=true) (hk:k<l.length) (hi:(nth .row l k).who=who):m5 l who=k:=by
 rw[l6 .row l k hk]at hi
 refine b1Z hk (by simp[a7P,hi]) fun j hj => ?_
 have:=(m4 k _).1 h j hj
 simp only[nwho,Bool.not_eq_true']at this
 rw[l6 .row l j (by omega)]at this
 exact this
theorem b8x {l:List Row} {who:Int} {k:Nat} (h:m8 k (nwho l who)=true) (hk:k=l.length):m5 l who = -1:=by
 subst hk
 refine a3f fun j hj => ?_
 have:=(m4 _ _).1 h j hj
 simp only[nwho,Bool.not_eq_true']at this
 rw[l6 .row l j hj]at this
 exact this
theorem a2C (l:List Row) (who:Int) : -1≤m5 l who∧m5 l who<l.length:=by
 rcases F3 (a7P who) l with ⟨h,_⟩|⟨k,hk,h,_⟩
 ·unfold m5;rw[h];omega
 ·unfold m5;rw[h];omega
theorem b5W {l:List Row} {who:Int} (h:0≤m5 l who):(nth .row l (m5 l who).toNat).who=who:=by
 rcases F3 (a7P who) l with ⟨h',_⟩|⟨k,hk,h',h2,_⟩
 ·unfold m5 at h;omega
 ·unfold m5;rw[h']
  rw[Int.toNat_natCast,l6 .row l k hk]
  simpa [a7P]using h2
theorem a8Z {m:PMap} {l:List Row} (h:B9 m l=true) {k:Nat} (hk:k<l.length):Y4 m (nth .row l k)=true∧(0<k→(nth .row l (k-1)).who<(nth .row l k).who):=by
 unfold B9 at h
 rw[Bool.and_eq_true]at h
 have:=(m4 _ _).1 h.2 k hk
 simp only[M1,Bool.and_eq_true,Bool.or_eq_true,decide_eq_true_eq]at this
 exact⟨this.1,fun h0=>this.2.resolve_left (by omega)⟩
theorem d4K {m:PMap} {l:List Row} (h:B9 m l=true) {k:Nat} (hk:k<l.length):0≤(nth .row l k).seq∧(nth .row l k).seq≤900:=by
 have:=(a8Z h hk).1
 simp only[Y4,decide_eq_true_eq]at this
 exact⟨this.2.2.2.2.1,this.2.2.2.2.2.1⟩
def seqB (l:List Row):Prop := ∀k,k<l.length→0≤(nth .row l k).seq∧(nth .row l k).seq≤900
theorem b2g {m:PMap} {l:List Row} (h:B9 m l=true):seqB l:=fun _ hk=>d4K h hk
theorem d3H {a b:Row}:a=b↔a.who=b.who∧a.cell=b.cell∧a.busy=b.busy∧a.ord=b.ord∧a.seq=b.seq∧a.code=b.code:=by
 cases a;cases b;simp
theorem c4Z {a b:Gst}:a=b↔a.src=b.src∧a.count=b.count∧a.wlk=b.wlk:=by
 cases a;cases b;simp
theorem d4u {a b:Msg}:a=b↔a.kind=b.kind∧a.dest=b.dest∧a.cell=b.cell∧a.side=b.side∧a.n=b.n∧a.ord=b.ord∧a.pcl=b.pcl∧a.gst=b.gst:=by
 cases a;cases b;simp
structure BB where
 b:List Row
 ok:Bool
def b7m (l:List Row) (who kind dest n:Int):Ord:=⟨who,(nth .row l (m5 l who).toNat).seq+1,kind,dest,n⟩
def Q7 (l:List Row) (who kind dest n:Int):BB :=
 if 0≤m5 l who∧(nth .row l (m5 l who).toNat).busy=false∧O2 (b7m l who kind dest n)=true then
  ⟨l.set (m5 l who).toNat ⟨(nth .row l (m5 l who).toNat).who,(nth .row l (m5 l who).toNat).cell,true,b7m l who kind dest n,(nth .row l (m5 l who).toNat).seq,(nth .row l (m5 l who).toNat).code⟩,true⟩
 else⟨l,false⟩
def a7U (m:PMap) (l:List Row) (who kind dest n:Int):BB:=if B9 m l=true then Q7 l who kind dest n else⟨[],false⟩
def a3h (m:PMap) (l:List Hld) (i:Nat):Bool:=S8 m (nth .hld l i)&&(decide (i=0)||decide ((nth .hld l (i-1)).state.cell<(nth .hld l i).state.cell))
def a5H (s:Srv):Bool:=s.up||decide (s.holds.length=0∧s.n9.length=0)
def B5 (m:PMap) (s:Srv):Bool:=W9 m s.n9&&a5H s&&m8 s.holds.length (a3h m s.holds)
theorem b7O {m:PMap} {s:Srv} {k:Nat} (h:k<s.holds.length) (hw:S8 m (nth .hld s.holds k)=false):B5 m s=false:=by
 have:=s7 (f:=a3h m s.holds) h (by simp[a3h,hw])
 simp[B5,this]
theorem b7N {m:PMap} {s:Srv} {k:Nat} (h:k<s.holds.length) (h0:0<k) (hw : ¬(nth .hld s.holds (k-1)).state.cell<(nth .hld s.holds k).state.cell):B5 m s=false:=by
 have:=s7 (f:=a3h m s.holds) h (by simp[a3h,hw];omega)
 simp[B5,this]
theorem c3v {m:PMap} {s:Srv} {k:Nat} (h:m8 k (a3h m s.holds)=true) (hk:k=s.holds.length):B5 m s=(W9 m s.n9&&a5H s):=by
 subst hk
 simp[B5,h]
theorem a6c {m:PMap} {s:Srv} (h:B5 m s=true) {k:Nat} (hk:k<s.holds.length):S8 m (nth .hld s.holds k)=true:=by
 unfold B5 at h
 rw[Bool.and_eq_true]at h
 have:=(m4 _ _).1 h.2 k hk
 simp only[a3h,Bool.and_eq_true]at this
 exact this.1
def Z1 (cell:Int) (h:Hld):Bool:=decide (h.state.cell=cell)
def j7 (l:List Hld) (cell:Int):Int:=idx (Z1 cell) l
def a9L (l:List Hld) (cell:Int) (j:Nat):Bool := !Z1 cell (nth .hld l j)
theorem c4X {l:List Hld} {cell:Int} {k:Nat} (h:m8 k (a9L l cell)=true) (hk:k<l.length) (hi:(nth .hld l k).state.cell=cell):j7 l cell=k:=by
 rw[l6 .hld l k hk]at hi
 refine b1Z hk (by simp[Z1,hi]) fun j hj => ?_
 have:=(m4 k _).1 h j hj
 simp only[a9L,Bool.not_eq_true']at this
 rw[l6 .hld l j (by omega)]at this
 exact this
theorem b4E {l:List Hld} {cell:Int} {k:Nat} (h:m8 k (a9L l cell)=true) (hk:k=l.length):j7 l cell = -1:=by
 subst hk
 refine a3f fun j hj => ?_
 have:=(m4 _ _).1 h j hj
 simp only[a9L,Bool.not_eq_true']at this
 rw[l6 .hld l j hj]at this
 exact this
theorem a3K (l:List Hld) (cell:Int) : -1≤j7 l cell∧j7 l cell<l.length:=by
 rcases F3 (Z1 cell) l with ⟨h,_⟩|⟨k,hk,h,_⟩
 ·unfold j7;rw[h];omega
 ·unfold j7;rw[h];omega
theorem a3g {l:List Hld} {cell:Int} (h:0≤j7 l cell):(nth .hld l (j7 l cell).toNat).state.cell=cell:=by
 rcases F3 (Z1 cell) l with ⟨h',_⟩|⟨k,hk,h',h2,_⟩
 ·unfold j7 at h;omega
 ·unfold j7;rw[h']
  rw[Int.toNat_natCast,l6 .hld l k hk]
  simpa [Z1]using h2
def j6 (s:Srv) (cell:Int):Hld:=if 0≤j7 s.holds cell then nth .hld s.holds (j7 s.holds cell).toNat else a3X
def A6 (s:Srv) (cell:Int):Bool:=decide (0≤j7 s.holds cell)
def a2O (m:PMap) (l:List Sto) (i:Nat):Bool:=B1 m (nth .sto l i)&&decide ((nth .sto l i).base.cell=(i:Int))
def A9 (m:PMap) (l:List Sto):Bool:=decide (s0 m=true∧(l.length:Int)=m.cells)&&m8 l.length (a2O m l)
theorem b3K {m:PMap} {l:List Sto} {k:Nat} (h:k<l.length) (hw:B1 m (nth .sto l k)=false):A9 m l=false:=by
 have:=s7 (f:=a2O m l) h (by simp[a2O,hw])
 simp[A9,this]
theorem b3J {m:PMap} {l:List Sto} {k:Nat} (h:k<l.length) (hw : ¬(nth .sto l k).base.cell=(k:Int)):A9 m l=false:=by
 have:=s7 (f:=a2O m l) h (by simp[a2O,hw])
 simp[A9,this]
theorem b7F {m:PMap} {l:List Sto} {k:Nat} (h:m8 k (a2O m l)=true) (hk:k=l.length):A9 m l=decide (s0 m=true∧(l.length:Int)=m.cells):=by
 subst hk
 simp[A9,h]
def ghTo (m:PMap) (h:Hld) (side:Int) (k:Nat):List Gst:=(flt (fun w=>J2 m w.pos side) h.state.wlks k).map fun w=>⟨h.state.cell,h.count,w⟩
def n9 (m:PMap) (h:Hld) (side:Int):List Gst:=ghTo m h side h.state.wlks.length
theorem b4N (m:PMap) (h:Hld) (side:Int):ghTo m h side 0 = []:=by simp[ghTo,a7Z]
theorem c0h (m:PMap) (h:Hld) (side:Int) (k:Nat):(ghTo m h side k).length≤k:=by
 simp only[ghTo,List.length_map]
 exact b0q _ _ _
theorem c0g {m:PMap} {h:Hld} {side:Int} {k:Nat} (hk:k<h.state.wlks.length) (hp:J2 m (nth .wlk h.state.wlks k).pos side=true):ghTo m h side (k+1)=ghTo m h side k ++ [⟨h.state.cell,h.count,nth .wlk h.state.wlks k⟩]:=by
 unfold ghTo
 rw[a0W .wlk _ _ _ hk,if_pos hp]
 simp
theorem c5c {m:PMap} {h:Hld} {side:Int} {k:Nat} (hk:k<h.state.wlks.length) (hp:J2 m (nth .wlk h.state.wlks k).pos side=false):ghTo m h side (k+1)=ghTo m h side k:=by
 unfold ghTo
 rw[a0W .wlk _ _ _ hk,if_neg (by simp[hp])]
def T4 (l:List Gst) (g:Gst):Nat:=(l.takeWhile fun x=>G0 x g).length
def a2J (l:List Gst) (g:Gst):List Gst :=
 if T4 l g<l.length∧G0 g (nth .gst l (T4 l g))=false then
  (if(nth .gst l (T4 l g)).count<g.count then l.set (T4 l g) g else l)
 else if l.length<20 then insL l (T4 l g) [g]else l
def a4J (l:List Hld) (cell:Int):Nat:=(l.takeWhile fun h=>decide (h.state.cell<cell)).length
def W7 (l:List Hld) (h:Hld):List Hld:=if 0≤j7 l h.state.cell then l.set (j7 l h.state.cell).toNat h else insL l (a4J l h.state.cell) [h]
def F6 (l:List Hld) (cell:Int):List Hld:=l.filter fun h=>decide (h.state.cell≠cell)
structure SH where
 srv:Srv
 stores:List Sto
 out:List Msg
structure SW where
 srv:Srv
 stores:List Sto
 n:Int
 k:Int
def b5n:Msg:=⟨0,0,0,0,0,⟨0,0,0,0,0⟩,⟨0,0,⟨0,0,0,0,0⟩,0⟩,⟨0,0,⟨0,0,0,0,0⟩⟩⟩
def u5:Ord:=⟨0,0,0,0,0⟩
def y8:Pcl:=⟨0,0,⟨0,0,0,0,0⟩,0⟩
def F8:Gst:=⟨0,0,⟨0,0,0,0,0⟩⟩
def C0 (m:PMap) (s:Srv) (stores:List Sto) (cell:Int) (r:Rec):SW :=
 let w:=y4 m (j6 s cell) (nth .sto stores cell.toNat) r
 if w.n=1 then⟨⟨s.up,W7 s.holds w.h,s.n9⟩,stores.set cell.toNat w.s,1,w.k⟩
 else if w.n=2 then⟨⟨s.up,F6 s.holds cell,s.n9⟩,stores,2,0⟩
 else⟨s,stores,w.n,0⟩
def M5 (m:PMap) (s:Srv) (stores:List Sto) (x:Msg):SH :=
 if A6 s x.cell=true∧x.n≤(j6 s x.cell).age then⟨s,stores,[]⟩
 else if x.n<(nth .sto stores x.cell.toNat).age then⟨s,stores,[]⟩
 else⟨⟨s.up,W7 s.holds ⟨x.n,(nth .sto stores x.cell.toNat).recs.length,q9 m (nth .sto stores x.cell.toNat)⟩,s.n9⟩,stores.set x.cell.toNat ⟨x.n,(nth .sto stores x.cell.toNat).base,(nth .sto stores x.cell.toNat).recs⟩,[]⟩
def a2n (x:Msg) (n:Int):Msg:=⟨3,-1,x.cell,0,n,x.ord,y8,F8⟩
def a7I (x:Msg):Msg:=⟨4,-1,x.cell,0,0,x.ord,y8,F8⟩
def Y2 (m:PMap) (s:Srv) (stores:List Sto) (x:Msg):SH :=
 let c:=(j6 s x.cell).state
 let w:=E3 c.wlks x.ord.who
 if u3 c.wlks x.ord.who=false then⟨s,stores,[a7I x]⟩
 else if x.ord.seq<w.seq then⟨s,stores,[]⟩
 else if x.ord.seq=w.seq then⟨s,stores,if w.last=0 then[]else[a2n x w.last]⟩
 else
  let y:=C0 m s stores x.cell ⟨1,x.ord,0,y8,0⟩
  ⟨y.srv,y.stores,if y.n=1 then[a2n x y.k]else[]⟩
def U6 (m:PMap) (t:Arb) (x:Msg) (n:Int):List Msg :=
 if o9 t (b7 m x.cell x.side) = -1 then[]else[⟨6,o9 t (b7 m x.cell x.side),b7 m x.cell x.side,1-x.side,n,u5,y8,F8⟩]
def Y1 (m:PMap) (s:Srv) (stores:List Sto) (t:Arb) (x:Msg):SH :=
 let n:=nth .int (j6 s x.cell).state.ins x.side.toNat
 if x.pcl.n<n then⟨s,stores,U6 m t x n⟩
 else
  let y:=C0 m s stores x.cell ⟨2,u5,x.side,x.pcl,0⟩
  ⟨y.srv,y.stores,if y.n=1 then U6 m t x (n+1)else[]⟩
def o6 (m:PMap) (s:Srv) (stores:List Sto) (t:Arb) (x:Msg):SH :=
 if s.up=false∨x.dest = -1 then⟨s,stores,[]⟩
 else if x.kind=1 then M5 m s stores x
 else if x.kind=7 then⟨⟨s.up,s.holds,a2J s.n9 x.gst⟩,stores,[]⟩
 else if A6 s x.cell=false then⟨s,stores,[]⟩
 else if x.kind=2 then Y2 m s stores x
 else if x.kind=5 then Y1 m s stores t x
 else
  let y:=C0 m s stores x.cell ⟨3,u5,x.side,y8,x.n⟩
  ⟨y.srv,y.stores,[]⟩
def G4 (m:PMap) (s:Srv) (stores:List Sto) (t:Arb) (servers:Int) (x:Msg):SH :=
 if B5 m s=true∧A9 m stores=true∧C2 m t servers=true∧y5 m servers x=true then o6 m s stores t x else⟨⟨false,[],[]⟩,[],[]⟩
def C4 (m:PMap) (t:Arb) (h:Hld) (cell:Int) (side:Int):List Msg :=
 let there:=b7 m cell side
 let server:=o9 t there
 if there = -1∨server = -1 then[]else
  (((nth .pcls h.state.outs side.toNat).take 4).map fun p=>(⟨5,server,there,1-side,0,u5,p,F8⟩:Msg))++(((n9 m h side).take 4).map fun g=>(⟨7,server,there,1-side,0,u5,y8,g⟩:Msg))
def D7 (m:PMap) (s:Srv) (t:Arb) (cell:Int):List Msg :=
 if A6 s cell=true then C4 m t (j6 s cell) cell 0++C4 m t (j6 s cell) cell 1 else[]
def rowAt (l:List Row) (who:Int):Row:=nth .row l (m5 l who).toNat
def B2 (m:PMap) (l:List Row) (x:Msg):BB :=
 let r:=rowAt l x.ord.who
 if 0≤m5 l x.ord.who∧r.busy=true∧r.ord=x.ord then
  (if x.kind=3 then⟨l.set (m5 l x.ord.who).toNat ⟨r.who,x.cell,false,u5,x.ord.seq,x.n⟩,true⟩
  else if x.kind=4∧x.cell=r.cell then⟨l.set (m5 l x.ord.who).toNat ⟨r.who,(r.cell+1).tmod m.cells,r.busy,r.ord,r.seq,r.code⟩,false⟩
  else⟨l,false⟩)
 else⟨l,false⟩
def a1N (m:PMap) (l:List Row) (servers:Int) (x:Msg):BB:=if B9 m l=true∧y5 m servers x=true then B2 m l x else⟨[],false⟩
structure MB where
 x:Msg
 ok:Bool
def W8 (l:List Row) (t:Arb) (who:Int):MB :=
 if 0≤m5 l who∧(rowAt l who).busy=true∧o9 t (rowAt l who).cell ≠ -1 then⟨⟨2,o9 t (rowAt l who).cell,(rowAt l who).cell,0,0,(rowAt l who).ord,y8,F8⟩,true⟩else⟨b5n,false⟩
def a5y (m:PMap) (l:List Row) (t:Arb) (servers:Int) (who:Int):MB:=if B9 m l=true∧C2 m t servers=true then W8 l t who else⟨b5n,false⟩
structure TB where
 t:Arb
 ok:Bool
def p9 (t:Arb) (servers cell server:Int):TB :=
 if 0≤cell∧cell<(t.servers.length:Int)∧0≤server∧server<servers∧nth .int t.ages cell.toNat≠900 then⟨⟨t.servers.set cell.toNat server,t.ages.set cell.toNat (nth .int t.ages cell.toNat+1)⟩,true⟩else⟨t,false⟩
def Q4 (m:PMap) (t:Arb) (servers cell server:Int):TB:=if C2 m t servers=true then p9 t servers cell server else⟨⟨[],[]⟩,false⟩
def a1U (w:Wld) (i:Nat):Bool:=decide ((nth .sto w.stores i).age≤nth .int w.table.ages i)
def a4W (t:Arb) (l:List Hld) (i:Nat):Bool:=decide ((nth .hld l i).age≤nth .int t.ages (nth .hld l i).state.cell.toNat)
def a4a (w:Wld) (i:Nat):Bool:=B5 w.map (nth .srv w.servers i)&&m8 (nth .srv w.servers i).holds.length (a4W w.table (nth .srv w.servers i).holds)
def a7H (w:Wld) (i:Nat):Bool:=y5 w.map w.servers.length (nth .msg w.net i)&&decide ((nth .msg w.net i).kind=1→(nth .msg w.net i).n≤nth .int w.table.ages (nth .msg w.net i).cell.toNat)
def a6p (n:Note):Bool:=decide (1≤n.who∧n.who≤9∧1≤n.seq∧n.seq≤900∧1≤n.code∧n.code≤9)
def c2g (w:Wld) (i:Nat):Bool:=a6p (nth .note w.notes i)
def j8 (w:Wld):Bool:=C2 w.map w.table w.servers.length&&A9 w.map w.stores&&B9 w.map w.rows&&decide (w.net.length≤40∧w.notes.length≤150) &&
 m8 w.stores.length (a1U w)&&m8 w.servers.length (a4a w)&&m8 w.net.length (a7H w)&&m8 w.notes.length (c2g w)
def v7 (w:Wld) (l:List Msg):Wld:=⟨w.map,w.servers,w.stores,w.table,w.rows,w.net++l.take (40-w.net.length),w.notes⟩
def wCut (w:Wld) (i:Nat):Wld:=⟨w.map,w.servers,w.stores,w.table,w.rows,w.net.eraseIdx i,w.notes⟩
def a1y (w:Wld) (x:Msg):Wld :=
 let y:=B2 w.map w.rows x
 ⟨w.map,w.servers,w.stores,w.table,y.b,w.net,if y.ok=true∧w.notes.length<150 then w.notes ++ [⟨x.ord.who,x.ord.seq,x.n⟩]else w.notes⟩
def a1Z (w:Wld) (x:Msg):Wld :=
 let y:=o6 w.map (nth .srv w.servers x.dest.toNat) w.stores w.table x
 v7 ⟨w.map,w.servers.set x.dest.toNat y.srv,y.stores,w.table,w.rows,w.net,w.notes⟩ y.out
def V8 (w:Wld) (i:Nat):Wld :=
 let x:=nth .msg w.net i
 if x.dest = -1 then a1y (wCut w i) x else a1Z (wCut w i) x
def v5 (w:Wld) (e:Evt):Wld :=
 if e.kind=1 then
  (let y:=p9 w.table w.servers.length e.pos e.dest
  if y.ok=true then v7 ⟨w.map,w.servers,w.stores,y.t,w.rows,w.net,w.notes⟩ [⟨1,e.dest,e.pos,0,nth .int y.t.ages e.pos.toNat,u5,y8,F8⟩]else w)
 else if e.kind=2 then⟨w.map,w.servers,w.stores,w.table,(Q7 w.rows e.pos e.what e.dest e.n).b,w.net,w.notes⟩
 else if e.kind=3 then(if(W8 w.rows w.table e.pos).ok=true then v7 w [(W8 w.rows w.table e.pos).x]else w)
 else if 4≤e.kind∧e.kind≤6 then
  (if 0≤e.pos∧e.pos<(w.net.length:Int)then(if e.kind=4 then V8 w e.pos.toNat else if e.kind=5 then wCut w e.pos.toNat else v7 w [nth .msg w.net e.pos.toNat])else w)
 else if 7≤e.kind∧e.kind≤9 then
  (if 0≤e.pos∧e.pos<(w.servers.length:Int)then(if e.kind=7 then v7 w (D7 w.map (nth .srv w.servers e.pos.toNat) w.table e.dest)
   else if e.kind=8 then⟨w.map,w.servers.set e.pos.toNat ⟨false,[],[]⟩,w.stores,w.table,w.rows,w.net,w.notes⟩
   else if(nth .srv w.servers e.pos.toNat).up=false then⟨w.map,w.servers.set e.pos.toNat ⟨true,[],[]⟩,w.stores,w.table,w.rows,w.net,w.notes⟩else w)else w)
 else w
def a1f:Wld:=⟨⟨0,0⟩,[],[],⟨[],[]⟩,[],[],[]⟩
def b9 (w:Wld) (e:Evt):Wld:=if j8 w=true then v5 w e else a1f
def a8T (l:List Gst) (g:Gst) (i:Nat):Bool:=G0 (nth .gst l i) g
theorem a8r {α : Type} (p : α → Bool) : ∀(l:List α) (k:Nat),k≤l.length→(∀i (h:i<l.length),i<k→p l[i]=true)→(∀h:k<l.length,p l[k]=false)→(l.takeWhile p).length=k
 |[],k,hk,_,_=>by simp at hk;simp[hk]
 |x::l,0,_,_,h=>by
   have:=h (by simp)
   simp at this
   simp[List.takeWhile_cons,this]
 |x::l,k+1,hk,h1,h2=>by
   have hx:=h1 0 (by simp) (by omega)
   simp at hx
   rw[List.takeWhile_cons,if_pos hx,List.length_cons,a8r p l k (by simpa using hk) (fun i hi hik=>h1 (i+1) (Nat.succ_lt_succ hi) (by omega)) (fun h=>h2 (Nat.succ_lt_succ h))]
theorem d4N {l:List Gst} {g:Gst} {k:Nat} (hk:k≤l.length) (h:m8 k (a8T l g)=true) (h2:k<l.length→a8T l g k=false):T4 l g=k:=by
 refine a8r _ _ _ hk (fun i hi hik => ?_) (fun hl => ?_)
 ·have:=(m4 _ _).1 h i hik
  rwa [a8T,l6 .gst l i hi]at this
 ·have:=h2 hl
  rwa [a8T,l6 .gst l k hl]at this
structure GB where
 l:List Gst
 d:Bool
def T6 (l:List Gst) (g x:Gst) (o:GB):GB :=
 if x.src=g.src∧x.wlk.id=g.wlk.id then⟨o.l ++ [if x.count<g.count then g else x],true⟩
 else if o.d=false∧G0 g x=true∧l.length<20 then⟨o.l ++ [g] ++ [x],true⟩
 else⟨o.l ++ [x],o.d⟩
def gpTo (l:List Gst) (g:Gst):Nat→GB
 | 0=>⟨[],false⟩
 |k+1=>T6 l g (nth .gst l k) (gpTo l g k)
theorem c7X (l:List Gst) (g:Gst):gpTo l g 0=⟨[],false⟩:=rfl
theorem a9d (l:List Gst) (g:Gst) (k:Nat):gpTo l g (k+1)=T6 l g (nth .gst l k) (gpTo l g k):=rfl
theorem d1R (l:List Gst) (g:Gst) (k:Nat):(gpTo l g k).l.length≤k+(if(gpTo l g k).d=true then 1 else 0):=by
 induction k with
 |zero=>simp[gpTo]
 |succ k ih =>
  rw[a9d]
  unfold T6
  split
  ·simp;split at ih<;>omega
  ·split
   ·rename_i h
    simp[h.1]at ih ⊢
    omega
   ·simp
    split at ih<;>simp_all<;>omega
def c5a (l:List Gst) (g:Gst):List Gst:=if(gpTo l g l.length).d=false∧l.length<20 then(gpTo l g l.length).l ++ [g]else(gpTo l g l.length).l
def a7V (m:PMap) (l:List Gst) (g:Gst):List Gst:=if D9 m l=true∧a1d m g=true then c5a l g else[]
theorem a0B {t:RT} {β : Type} (f:t.ty → β) (l:List t.ty) {k:Nat} (h:k<l.length):(l.take (k+1)).map f=(l.take k).map f ++ [f (nth t l k)]:=by
 rw[List.take_succ_eq_append_getElem h,List.map_append,l6 t l k h]
 rfl
theorem a6M {t:RT} {β : Type} (f:t.ty → β) (l:List t.ty) {k:Nat} (h:k≤l.length) (h4:k≤4) (he : ¬(k<l.length∧k<4)):(l.take k).map f=(l.take 4).map f:=by
 by_cases h5:k=4
 ·rw[h5]
 ·rw[List.take_of_length_le (by omega),List.take_of_length_le (by omega)]
def c1L (m:PMap) (t:Arb) (cell side:Int) (p:Pcl):Msg:=⟨5,o9 t (b7 m cell side),b7 m cell side,1-side,0,u5,p,F8⟩
def c2C (m:PMap) (t:Arb) (cell side:Int) (g:Gst):Msg:=⟨7,o9 t (b7 m cell side),b7 m cell side,1-side,0,u5,y8,g⟩
def a1F (m:PMap) (t:Arb) (h:Hld) (side:Int) (k:Nat):List Msg:=((nth .pcls h.state.outs side.toNat).take k).map (c1L m t h.state.cell side)
def a2I (m:PMap) (t:Arb) (h:Hld) (side:Int) (k:Nat):List Msg:=((n9 m h side).take k).map (c2C m t h.state.cell side)
theorem b8Q (m:PMap) (t:Arb) (h:Hld) (side:Int):a1F m t h side 0 = []:=by simp[a1F]
theorem b9Y (m:PMap) (t:Arb) (h:Hld) (side:Int):a2I m t h side 0 = []:=by simp[a2I]
theorem b8R (m:PMap) (t:Arb) (h:Hld) (side:Int) {k:Nat} (hk:k<(nth .pcls h.state.outs side.toNat).length):a1F m t h side (k+1)=a1F m t h side k ++ [c1L m t h.state.cell side (nth .pcl (nth .pcls h.state.outs side.toNat) k)]:=a0B (t := .pcl) _ _ hk
theorem b9Z (m:PMap) (t:Arb) (h:Hld) (side:Int) {k:Nat} (hk:k<(n9 m h side).length):a2I m t h side (k+1)=a2I m t h side k ++ [c2C m t h.state.cell side (nth .gst (n9 m h side) k)]:=a0B (t := .gst) _ _ hk
theorem c1K (m:PMap) (t:Arb) (h:Hld) (side:Int) {k:Nat} (hk:k≤(nth .pcls h.state.outs side.toNat).length) (h4:k≤4) (he : ¬(k<(nth .pcls h.state.outs side.toNat).length∧k<4)):a1F m t h side k=a1F m t h side 4:=a6M (t := .pcl) _ _ hk h4 he
theorem c2A (m:PMap) (t:Arb) (h:Hld) (side:Int) {k:Nat} (hk:k≤(n9 m h side).length) (h4:k≤4) (he : ¬(k<(n9 m h side).length∧k<4)):a2I m t h side k=a2I m t h side 4:=a6M (t := .gst) _ _ hk h4 he
def a2a (m:PMap) (t:Arb) (h:Hld) (side:Int):List Msg :=
 if b7 m h.state.cell side = -1∨o9 t (b7 m h.state.cell side) = -1 then[]else a1F m t h side 4++a2I m t h side 4
theorem b1n (m:PMap) (t:Arb) (h:Hld) (side:Int) (k:Nat):(a1F m t h side k).length≤k:=by simp[a1F];omega
theorem b2i (m:PMap) (t:Arb) (h:Hld) (side:Int) (k:Nat):(a2I m t h side k).length≤k:=by simp[a2I];omega
def b6G (cell:Int) (h:Hld):Bool:=decide (h.state.cell≠cell)
def S9 (l:List Hld) (cell:Int) (k:Nat):List Hld:=flt (b6G cell) l k
theorem b3u (l:List Hld) (cell:Int):S9 l cell 0 = []:=a7Z _ _
theorem b6T (l:List Hld) (cell:Int) (k:Nat):(S9 l cell k).length≤k:=b0q _ _ _
theorem b6S {l:List Hld} {cell:Int} {k:Nat} (h:k<l.length) (hi:(nth .hld l k).state.cell≠cell):S9 l cell (k+1)=S9 l cell k ++ [nth .hld l k]:=by
 unfold S9
 rw[a0W .hld _ _ _ h,if_pos (by simp[b6G,hi])]
theorem b9S {l:List Hld} {cell:Int} {k:Nat} (h:k<l.length) (hi:(nth .hld l k).state.cell=cell):S9 l cell (k+1)=S9 l cell k:=by
 unfold S9
 rw[a0W .hld _ _ _ h,if_neg (by simp[b6G,hi])]
theorem b6U {l:List Hld} {cell:Int} {k:Nat} (h:k=l.length):S9 l cell k=F6 l cell:=by
 subst h
 unfold S9
 rw[b0r]
 rfl
theorem c2w (l:List Hld) (cell:Int):(F6 l cell).length≤l.length:=by
 unfold F6
 exact List.length_filter_le _ _
structure HB where
 l:List Hld
 d:Bool
def a1M (h x:Hld) (o:HB):HB:=if o.d=false∧h.state.cell<x.state.cell then⟨o.l ++ [h] ++ [x],true⟩else⟨o.l ++ [x],o.d⟩
def hpTo (l:List Hld) (h:Hld):Nat→HB
 | 0=>⟨[],false⟩
 |k+1=>a1M h (nth .hld l k) (hpTo l h k)
theorem c7M (l:List Hld) (h:Hld):hpTo l h 0=⟨[],false⟩:=rfl
theorem a8X (l:List Hld) (h:Hld) (k:Nat):hpTo l h (k+1)=a1M h (nth .hld l k) (hpTo l h k):=rfl
theorem d1G (l:List Hld) (h:Hld) (k:Nat):(hpTo l h k).l.length≤k+(if(hpTo l h k).d=true then 1 else 0):=by
 induction k with
 |zero=>simp[hpTo]
 |succ k ih =>
  rw[a8X]
  unfold a1M
  split
  ·rename_i h
   simp[h.1]at ih ⊢
   omega
  ·simp
   split at ih<;>simp_all<;>omega
def c4U (l:List Hld) (h:Hld):List Hld:=if(hpTo l h l.length).d=false then(hpTo l h l.length).l ++ [h]else(hpTo l h l.length).l
def a5v (l:List Hld) (h:Hld):List Hld:=c4U (F6 l h.state.cell) h
theorem a2Q {m:PMap} {s:Srv} (h:B5 m s=true) : ∀ {i j:Nat},i<j→j<s.holds.length→(nth .hld s.holds i).state.cell<(nth .hld s.holds j).state.cell:=by
 have hs : ∀k,k<s.holds.length→0<k→(nth .hld s.holds (k-1)).state.cell<(nth .hld s.holds k).state.cell:=fun k hk h0=>by
  unfold B5 at h
  rw[Bool.and_eq_true]at h
  have:=(m4 _ _).1 h.2 k hk
  simp only[a3h,Bool.and_eq_true,Bool.or_eq_true,decide_eq_true_eq]at this
  exact this.2.resolve_left (by omega)
 intro i j hij hj
 induction j with
 |zero=>omega
 |succ j ih =>
  have h1:=hs (j+1) hj (by omega)
  simp only[Nat.add_sub_cancel]at h1
  by_cases he:i=j
  ·subst he;exact h1
  ·have:=ih (by omega) (by omega)
   omega
theorem a6N {m:PMap} {s:Srv} (h:B5 m s=true):s.holds.length≤4:=by
 by_cases h4:s.holds.length≤4
 ·exact h4
 ·exfalso
  have c:=fun k (hk:k<s.holds.length)=>(n5 (B7.1 (a6c h hk)).2.2)
  have o1:=a2Q h (i:=0) (j:=1) (by omega) (by omega)
  have o2:=a2Q h (i:=1) (j:=2) (by omega) (by omega)
  have o3:=a2Q h (i:=2) (j:=3) (by omega) (by omega)
  have o4:=a2Q h (i:=3) (j:=4) (by omega) (by omega)
  obtain⟨_,hp,c0,_⟩:=c 0 (by omega)
  obtain⟨_,_,_,c4,_⟩:=c 4 (by omega)
  obtain⟨_,h4',_,_⟩:=o8.1 hp
  omega
theorem d1E {α : Type} (p : α → Bool) (x : α) (l:List α):idx p (x::l)=if p x=true then 0 else if idx p l = -1 then -1 else idx p l+1:=by
 unfold idx
 rw[List.findIdx?_cons]
 by_cases h:p x=true
 ·simp[h]
 ·simp[h]
  cases l.findIdx? p with
  |none=>simp
  |some i =>
   have : ¬((i:Int) = -1):=by omega
   simp[this]
theorem d6L {α : Type} (p : α → Bool) (l:List α) : -1≤idx p l:=by
 unfold idx
 split<;>omega
def putH:List Hld→Hld→List Hld
 |[],h => [h]
 |x::l,h=>if h.state.cell<x.state.cell then h::x::l else if h.state.cell=x.state.cell then h::l else x::putH l h
def insH:List Hld→Hld→List Hld
 |[],h => [h]
 |x::l,h=>if h.state.cell<x.state.cell then h::x::l else x::insH l h
abbrev HSort (l:List Hld):Prop:=l.Pairwise fun a b=>a.state.cell<b.state.cell
theorem b2c {m:PMap} {s:Srv} (h:B5 m s=true):HSort s.holds:=by
 refine List.pairwise_iff_getElem.2 ?_
 intro i j hi hj hij
 have:=a2Q h hij hj
 rwa [l6 .hld _ _ hi,l6 .hld _ _ hj]at this
def a3J (h:Hld) (o:HB) (l:List Hld):HB:=l.foldl (fun o x=>a1M h x o) o
theorem c7N (l:List Hld) (h:Hld) (k:Nat) (hk:k≤l.length):hpTo l h k=a3J h ⟨[],false⟩ (l.take k):=by
 induction k with
 |zero=>rfl
 |succ k ih =>
  rw[a8X,ih (by omega),l6 .hld l k (by omega)]
  have e:l.take (k+1)=l.take k ++ [l[k]]:=List.take_succ_eq_append_getElem (by omega)
  rw[e]
  simp only[a3J,List.foldl_append,List.foldl_cons,List.foldl_nil]
theorem a9P (h:Hld) : ∀(l acc:List Hld),a3J h ⟨acc,true⟩ l=⟨acc++l,true⟩
 |[],acc=>by simp[a3J]
 |x::l,acc=>by
  have:=a9P h l (acc ++ [x])
  simp only[a3J,List.foldl_cons]at this ⊢
  rw[show a1M h x ⟨acc,true⟩=⟨acc ++ [x],true⟩ by simp[a1M],this]
  simp
def c4V (h:Hld) (o:HB):List Hld:=if o.d=false then o.l ++ [h]else o.l
theorem b2d (h:Hld) : ∀(l acc:List Hld),c4V h (a3J h ⟨acc,false⟩ l)=acc++insH l h
 |[],acc=>by simp[a3J,c4V,insH]
 |x::l,acc=>by
  by_cases hx:h.state.cell<x.state.cell
  ·have:=a9P h l (acc ++ [h] ++ [x])
   simp only[a3J,List.foldl_cons]at this ⊢
   rw[show a1M h x ⟨acc,false⟩=⟨acc ++ [h] ++ [x],true⟩ by simp[a1M,hx],this]
   simp[c4V,insH,hx]
  ·have:=b2d h l (acc ++ [x])
   simp only[a3J,List.foldl_cons]at this ⊢
   rw[show a1M h x ⟨acc,false⟩=⟨acc ++ [x],false⟩ by simp[a1M,hx],this]
   simp[insH,hx]
theorem d1H (l:List Hld) (h:Hld):c4U l h=insH l h:=by
 have h1:=c7N l h l.length (Nat.le_refl _)
 have h2:=b2d h l []
 rw[List.take_length]at h1
 rw[←h1]at h2
 simpa [c4U,c4V]using h2
theorem c2p {l:List Hld} {h:Hld} (hl : ∀x∈l,h.state.cell<x.state.cell):insH l h=h::l:=by
 cases l with
 |nil=>rfl
 |cons x l=>simp[insH,hl x (by simp)]
theorem a7R {l:List Hld} {c:Int} (hl : ∀x∈l,x.state.cell≠c):F6 l c=l:=by
 unfold F6
 rw[List.filter_eq_self]
 intro x hx
 simp[hl x hx]
theorem b9R : ∀ {l:List Hld} {h:Hld},HSort l→a5v l h=putH l h:=by
 intro l h hs
 unfold a5v
 rw[d1H]
 induction l with
 |nil=>rfl
 |cons x l ih =>
  obtain⟨hx,hl⟩:=List.pairwise_cons.1 hs
  by_cases h1:h.state.cell<x.state.cell
  ·rw[a7R (fun y hy => ?_)]
   ·simp[putH,insH,h1]
   ·rcases List.mem_cons.1 hy with rfl|hy
    ·omega
    ·have:=hx y hy;omega
  ·by_cases h2:h.state.cell=x.state.cell
   ·have:F6 (x::l) h.state.cell=l:=by
     rw[show F6 (x::l) h.state.cell=F6 l h.state.cell by simp[F6,h2]]
     exact a7R fun y hy=>by have:=hx y hy;omega
    rw[this,c2p (fun y hy=>by have:=hx y hy;omega)]
    simp[putH,h2]
   ·rw[show F6 (x::l) h.state.cell=x::F6 l h.state.cell by
     have : ¬x.state.cell=h.state.cell:=fun hh=>h2 hh.symm
     simp[F6,this]]
    simp[putH,insH,h1,h2,ih hl]
theorem a3L : ∀ {l:List Hld} {h:Hld},HSort l→W7 l h=putH l h:=by
 intro l h hs
 induction l with
 |nil=>simp[W7,j7,idx,insL,a4J,putH]
 |cons x l ih =>
  obtain⟨hx,hl⟩:=List.pairwise_cons.1 hs
  have hi:=d1E (Z1 h.state.cell) x l
  have hge:=d6L (Z1 h.state.cell) l
  by_cases h1:h.state.cell<x.state.cell
  ·have hno:j7 (x::l) h.state.cell = -1:=by
    rcases F3 (Z1 h.state.cell) (x::l)with ⟨e,_⟩|⟨k,hk,e,h2,_⟩
    ·exact e
    ·exfalso
     simp only[Z1,decide_eq_true_eq]at h2
     have hm:=List.getElem_mem hk
     rcases List.mem_cons.1 hm with he|he
     ·rw[he]at h2;omega
     ·have:=hx _ he;omega
   rw[W7,hno,if_neg (by omega)]
   have:a4J (x::l) h.state.cell=0:=by
    simp[a4J,List.takeWhile_cons,show ¬x.state.cell<h.state.cell by omega]
   simp[this,insL,putH,h1]
  ·by_cases h2:h.state.cell=x.state.cell
   ·have he:j7 (x::l) h.state.cell=0:=by
     unfold j7
     rw[hi,if_pos (by simp[Z1,h2])]
    rw[W7,he]
    simp[putH,h2]
   ·have ih:=ih hl
    have he:j7 (x::l) h.state.cell=if j7 l h.state.cell = -1 then -1 else j7 l h.state.cell+1:=by
     unfold j7
     rw[hi,if_neg (by simp[Z1];omega)]
    have hp:a4J (x::l) h.state.cell=a4J l h.state.cell+1:=by
     simp[a4J,List.takeWhile_cons,show x.state.cell<h.state.cell by omega]
    unfold W7 at ih ⊢
    have hge' : -1≤j7 l h.state.cell:=hge
    generalize j7 (x::l) h.state.cell=P at *
    generalize j7 l h.state.cell=R at *
    by_cases h0:0≤R
    ·rw[if_pos h0]at ih
     rw[if_neg (by omega)]at he
     subst he
     rw[if_pos (by omega),show(R+1).toNat=R.toNat+1 by omega,List.set_cons_succ,ih]
     simp[putH,h1,h2]
    ·rw[if_neg h0]at ih
     rw[if_pos (by omega)]at he
     subst he
     rw[if_neg (by omega),hp]
     simp only[insL,List.take_succ_cons,List.drop_succ_cons,List.cons_append]at ih ⊢
     rw[ih]
     simp[putH,h1,h2]
theorem c2v {l:List Hld} {h:Hld} (hs:HSort l):a5v l h=W7 l h:=by rw[b9R hs,a3L hs]
abbrev GSort (l:List Gst):Prop:=l.Pairwise fun a b=>G0 a b=true
theorem J5 {a b:Gst}:G0 a b=true↔a.src<b.src∨a.src=b.src∧a.wlk.id<b.wlk.id:=by simp[G0]
theorem b2j {m:PMap} {l:List Gst} (h:D9 m l=true):GSort l:=by
 have hs : ∀k,k<l.length→0<k→G0 (nth .gst l (k-1)) (nth .gst l k)=true:=fun k hk h0=>by
  unfold D9 at h
  rw[Bool.and_eq_true]at h
  have:=(m4 _ _).1 h.2 k hk
  simp only[a3i,Bool.and_eq_true,Bool.or_eq_true,decide_eq_true_eq]at this
  exact this.2.resolve_left (by omega)
 have hall : ∀j,j<l.length → ∀i,i<j→G0 (nth .gst l i) (nth .gst l j)=true:=by
  intro j
  induction j with
  |zero=>intro _ i hi;omega
  |succ j ih =>
   intro hj i hi
   have h1:=hs (j+1) hj (by omega)
   simp only[Nat.add_sub_cancel]at h1
   by_cases he:i=j
   ·subst he;exact h1
   ·have h2:=ih (by omega) i (by omega)
    rw[J5]at h1 h2 ⊢
    omega
 refine List.pairwise_iff_getElem.2 ?_
 intro i j hi hj hij
 have:=hall j hj i hij
 rwa [l6 .gst _ _ hi,l6 .gst _ _ hj]at this
def a7O (x g:Gst):Gst:=if x.count<g.count then g else x
def putG (room:Bool):List Gst→Gst→List Gst
 |[],g=>if room=true then[g]else[]
 |x::l,g=>if G0 g x=true then(if room=true then g::x::l else x::l)else if x.src=g.src∧x.wlk.id=g.wlk.id then a7O x g::l else x::putG room l g
def Z2 (L:List Gst) (g:Gst) (o:GB) (l:List Gst):GB:=l.foldl (fun o x=>T6 L g x o) o
theorem c7Y (l:List Gst) (g:Gst) (k:Nat) (hk:k≤l.length):gpTo l g k=Z2 l g ⟨[],false⟩ (l.take k):=by
 induction k with
 |zero=>rfl
 |succ k ih =>
  rw[a9d,ih (by omega),l6 .gst l k (by omega)]
  have e:l.take (k+1)=l.take k ++ [l[k]]:=List.take_succ_eq_append_getElem (by omega)
  rw[e]
  simp only[Z2,List.foldl_append,List.foldl_cons,List.foldl_nil]
theorem a4L (L:List Gst) (g:Gst) : ∀(l acc:List Gst),(∀x∈l,¬(x.src=g.src∧x.wlk.id=g.wlk.id))→Z2 L g ⟨acc,true⟩ l=⟨acc++l,true⟩
 |[],acc,_=>by simp[Z2]
 |x::l,acc,hl=>by
  have:=a4L L g l (acc ++ [x]) fun y hy=>hl y (List.mem_cons_of_mem _ hy)
  simp only[Z2,List.foldl_cons]at this ⊢
  rw[show T6 L g x ⟨acc,true⟩=⟨acc ++ [x],true⟩ by simp[T6,hl x (by simp)],this]
  simp
theorem a9S (L:List Gst) (g:Gst) (hL : ¬L.length<20) : ∀(l acc:List Gst),(∀x∈l,¬(x.src=g.src∧x.wlk.id=g.wlk.id))→(Z2 L g ⟨acc,false⟩ l).l=acc++l
 |[],acc,_=>by simp[Z2]
 |x::l,acc,hl=>by
  have:=a9S L g hL l (acc ++ [x]) fun y hy=>hl y (List.mem_cons_of_mem _ hy)
  simp only[Z2,List.foldl_cons]at this ⊢
  rw[show T6 L g x ⟨acc,false⟩=⟨acc ++ [x],false⟩ by simp[T6,hl x (by simp),hL],this]
  simp
def b4L (L:List Gst) (g:Gst) (o:GB):List Gst:=if o.d=false∧L.length<20 then o.l ++ [g]else o.l
theorem b2l (L:List Gst) (g:Gst) : ∀(l acc:List Gst),GSort l→b4L L g (Z2 L g ⟨acc,false⟩ l)=acc++putG (decide (L.length<20)) l g
 |[],acc,_=>by by_cases h:L.length<20<;>simp[Z2,b4L,putG,h]
 |x::l,acc,hs=>by
  obtain⟨hx,hl⟩:=List.pairwise_cons.1 hs
  by_cases h1:G0 g x=true
  ·have hne : ∀y∈l,¬(y.src=g.src∧y.wlk.id=g.wlk.id):=fun y hy=>by
    have:=hx y hy
    rw[J5]at this h1
    omega
   have hnx : ¬(x.src=g.src∧x.wlk.id=g.wlk.id):=by rw[J5]at h1;omega
   by_cases hL:L.length<20
   ·have:=a4L L g l (acc ++ [g] ++ [x]) hne
    simp only[Z2,List.foldl_cons]at this ⊢
    rw[show T6 L g x ⟨acc,false⟩=⟨acc ++ [g] ++ [x],true⟩ by simp[T6,hnx,h1,hL],this]
    simp[b4L,putG,h1,hL]
   ·have:=a9S L g hL l (acc ++ [x]) hne
    simp only[Z2,List.foldl_cons]at this ⊢
    rw[show T6 L g x ⟨acc,false⟩=⟨acc ++ [x],false⟩ by simp[T6,hnx,hL]]
    simp[b4L,putG,h1,hL,this]
  ·by_cases h2:x.src=g.src∧x.wlk.id=g.wlk.id
   ·have hne : ∀y∈l,¬(y.src=g.src∧y.wlk.id=g.wlk.id):=fun y hy=>by
     have:=hx y hy
     rw[J5]at this
     omega
    have:=a4L L g l (acc ++ [a7O x g]) hne
    simp only[Z2,List.foldl_cons]at this ⊢
    rw[show T6 L g x ⟨acc,false⟩=⟨acc ++ [a7O x g],true⟩ by simp[T6,h2,a7O],this]
    simp[b4L,putG,h1,h2]
   ·have:=b2l L g l (acc ++ [x]) hl
    simp only[Z2,List.foldl_cons]at this ⊢
    rw[show T6 L g x ⟨acc,false⟩=⟨acc ++ [x],false⟩ by simp[T6,h1,h2],this]
    simp[putG,h1,h2]
theorem c7Z {l:List Gst} {g:Gst} (hs:GSort l):c5a l g=putG (decide (l.length<20)) l g:=by
 have h1:=c7Y l g l.length (Nat.le_refl _)
 have h2:=b2l l g l [] hs
 rw[List.take_length]at h1
 rw[←h1]at h2
 simpa [c5a,b4L]using h2
theorem c0b (x:Gst) (l:List Gst) (g:Gst):T4 (x::l) g=if G0 x g=true then T4 l g+1 else 0:=by
 unfold T4
 rw[List.takeWhile_cons]
 split<;>simp
theorem b4J (room:Bool) : ∀(l:List Gst) (g:Gst),GSort l→(if T4 l g<l.length∧G0 g (nth .gst l (T4 l g))=false then
  (if(nth .gst l (T4 l g)).count<g.count then l.set (T4 l g) g else l)
 else if room=true then insL l (T4 l g) [g]else l)=putG room l g
 |[],g,_=>by simp[T4,insL,putG]
 |x::l,g,hs=>by
  obtain⟨hx,hl⟩:=List.pairwise_cons.1 hs
  have ih:=b4J room l g hl
  rw[c0b]
  by_cases h1:G0 x g=true
  ·have hn:G0 g x=false:=by
    cases hh:G0 g x with
    |false=>rfl
    |true=>rw[J5]at h1 hh;omega
   have hne : ¬(x.src=g.src∧x.wlk.id=g.wlk.id):=by rw[J5]at h1;omega
   rw[if_pos h1]
   have hnth:nth .gst (x::l) (T4 l g+1)=nth .gst l (T4 l g):=by simp[nth]
   rw[hnth]
   simp only[List.length_cons,Nat.add_lt_add_iff_right,List.set_cons_succ,insL,List.take_succ_cons,List.drop_succ_cons,List.cons_append]
   simp only[putG,hn,hne,if_false,Bool.false_eq_true]
   rw[←ih]
   simp only[insL]
   split
   ·split<;>rfl
   ·split<;>rfl
  ·rw[if_neg h1]
   have hnth:nth .gst (x::l) 0=x:=by simp[nth]
   rw[hnth]
   by_cases h2:G0 g x=true
   ·rw[if_neg (by simp[h2])]
    simp[putG,h2,insL]
   ·have he:x.src=g.src∧x.wlk.id=g.wlk.id:=by rw[J5]at h1 h2;omega
    rw[if_pos ⟨by simp,by simpa using h2⟩]
    simp only[putG,h2,he,a7O,List.set_cons_zero]
    by_cases h3:x.count<g.count<;>simp[h3]
theorem a6w {l:List Gst} {g:Gst} (hs:GSort l):a2J l g=putG (decide (l.length<20)) l g:=by
 have:=b4J (decide (l.length<20)) l g hs
 rw[←this]
 simp[a2J]
theorem c2B {m:PMap} {l:List Gst} {g:Gst} (hl:D9 m l=true) (hg:a1d m g=true):a7V m l g=a2J l g:=by
 rw[a7V,if_pos ⟨hl,hg⟩,c7Z (b2j hl),a6w (b2j hl)]
def a4T (l:List Hld) (cell:Int) (i:Nat):Bool:=decide ((nth .hld l i).state.cell<cell)
theorem d4G {l:List Hld} {cell:Int} {k:Nat} (hk:k≤l.length) (h:m8 k (a4T l cell)=true) (h2:k<l.length → ¬(nth .hld l k).state.cell<cell):a4J l cell=k:=by
 refine a8r _ _ _ hk (fun i hi hik => ?_) (fun hl => ?_)
 ·have:=(m4 _ _).1 h i hik
  rwa [a4T,l6 .hld l i hi]at this
 ·have:=h2 hl
  rw[l6 .hld l k hl]at this
  simpa using this
end Go.Mo
