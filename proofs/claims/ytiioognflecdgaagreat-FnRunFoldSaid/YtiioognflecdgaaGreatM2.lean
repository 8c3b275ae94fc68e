/-
  Plain law: in a log that fits no order stands twice.
-/
import Derived.Test.YtiioognflecdgaaGreatM1
import Derived.Test.YtiioognflecdgaaGreatS5
set_option linter.unusedVariables false
set_option linter.unusedSimpArgs false
namespace Go.Mo
open Go.Sx
def past (c:Cll) (who seq:Int):Prop := ∀v∈c.wlks,v.id=who→seq≤v.seq
def Z5:Sto:=⟨0,Q7,[]⟩
def a1J:Hld:=⟨0,0,Q7⟩
def A3 (m:PMap) (s:Sto):Bool:=decide (0≤s.age∧s.age≤900∧p9 m s.base=true∧s.recs.length≤250∧X5 m s.base s.recs=s.recs.length)
theorem v8 {m:PMap} {s:Sto}:A3 m s=true↔(0≤s.age∧s.age≤900)∧p9 m s.base=true∧s.recs.length≤250∧X5 m s.base s.recs=s.recs.length:=by simp[A3,and_assoc]
def o6 (m:PMap) (s:Sto):Cll:=a2g m s.base s.recs
def X7 (m:PMap) (s:Sto):Cll:=if A3 m s=true then o6 m s else Q7
theorem a1M {m:PMap} {s:Sto} (h:A3 m s=true):p9 m (o6 m s)=true:=c8p (v8.1 h).2.1
structure SOk where
 s:Sto
 ok:Bool
def R7 (m:PMap) (s:Sto) (age:Int):SOk :=
 if A3 m s=true∧0≤age∧age≤900 then(if age<s.age then⟨s,false⟩else⟨⟨age,s.base,s.recs⟩,true⟩)else⟨Z5,false⟩
structure SN where
 s:Sto
 n:Int
def I3 (m:PMap) (s:Sto) (age pos:Int) (r:Rec):SN :=
 if ¬age=s.age then⟨s,2⟩
 else if ¬pos=(s.recs.length:Int)∨pos=250 then⟨s,3⟩
 else if E9 m r=true∧(j8 m (o6 m s) r).ok=true then⟨⟨s.age,s.base,s.recs ++ [r]⟩,1⟩
 else⟨s,4⟩
def y4 (m:PMap) (s:Sto) (age pos:Int) (r:Rec):SN:=if A3 m s=true then I3 m s age pos r else⟨Z5,0⟩
def P1 (m:PMap) (h:Hld):Bool:=decide (1≤h.age∧h.age≤900∧0≤h.count∧h.count≤250∧p9 m h.state=true)
theorem A6 {m:PMap} {h:Hld}:P1 m h=true↔(1≤h.age∧h.age≤900)∧(0≤h.count∧h.count≤250)∧p9 m h.state=true:=by simp[P1,and_assoc]
structure HSO where
 h:Hld
 s:Sto
 ok:Bool
def G9 (m:PMap) (s:Sto) (age:Int):HSO :=
 if A3 m s=true∧1≤age∧age≤900 then(if age<s.age then⟨a1J,s,false⟩else⟨⟨age,s.recs.length,o6 m s⟩,⟨age,s.base,s.recs⟩,true⟩)else⟨a1J,Z5,false⟩
structure HSN where
 h:Hld
 s:Sto
 n:Int
 k:Int
def u3 (m:PMap) (h:Hld) (s:Sto) (r:Rec):HSN :=
 if P1 m h=true∧A3 m s=true then
  (if ¬(I3 m s h.age h.count r).n=1 then⟨h,s,(I3 m s h.age h.count r).n,0⟩
  else if(j8 m h.state r).ok=false then⟨h,s,4,0⟩
  else⟨⟨h.age,h.count+1,(j8 m h.state r).c⟩,(I3 m s h.age h.count r).s,1,(j8 m h.state r).code⟩)
 else⟨a1J,Z5,0,0⟩
theorem b4y (t:RT) {l:List t.ty} {x:t.ty} {k:Nat} (h:k<l.length):nth t (l ++ [x]) k=nth t l k:=by
 rw[l7 t l k h,l7 t _ k (by simp;omega),List.getElem_append_left h]
theorem a6n (t:RT) {l:List t.ty} {x:t.ty}:nth t (l ++ [x]) l.length=x:=by simp[nth,List.getD]
theorem a2M {m:PMap} {c:Cll} {l:List Rec} {r:Rec} : ∀ {k:Nat},k≤l.length→s9 m c (l ++ [r]) k=s9 m c l k
 | 0,_=>rfl
 |k+1,h=>by rw[P7,P7,a2M (by omega),b4y .rcd (by omega)]
theorem c4Z {m:PMap} {c:Cll} {l:List Rec} {r:Rec} {k:Nat} (h:k<l.length):M4 m c (l ++ [r]) k=M4 m c l k:=by
 unfold M4
 rw[a2M (by omega),b4y .rcd h]
theorem b7V {m:PMap} {c:Cll} {l:List Rec} (h:X5 m c l=l.length):l9 l.length (M4 m c l)=true:=by
 have:=b0S m c l
 rw[h]at this
 exact this
theorem a4r {m:PMap} {c:Cll} {l:List Rec} (h:X5 m c l=l.length):a2g m c l=s9 m c l l.length:=by rw[a2g,h]
theorem b2X {m:PMap} {c:Cll} {l:List Rec} {r:Rec} (h:X5 m c l=l.length) (hr:E9 m r=true) (ha:(j8 m (a2g m c l) r).ok=true):X5 m c (l ++ [r])=(l ++ [r]).length:=by
 have h1:=b7V h
 refine a7G rfl ?_
 rw[List.length_append,List.length_singleton,n3,Bool.and_eq_true]
 refine⟨?_,?_⟩
 ·rw[l6]at h1 ⊢
  intro i hi
  rw[c4Z hi]
  exact h1 i hi
 ·unfold M4
  rw[a2M (Nat.le_refl _),a6n .rcd,←a4r h,hr,ha]
  rfl
theorem c4W {m:PMap} {c:Cll} {l:List Rec} {r:Rec} (h:X5 m c l=l.length) (hr:E9 m r=true) (ha:(j8 m (a2g m c l) r).ok=true):a2g m c (l ++ [r])=(j8 m (a2g m c l) r).c:=by
 rw[a4r (b2X h hr ha),List.length_append,List.length_singleton,P7,a2M (Nat.le_refl _),a6n .rcd,←a4r h]
theorem a2l (m:PMap) (s:Sto) (age pos:Int) (r:Rec):((I3 m s age pos r).s=s∧((I3 m s age pos r).n=2∧age≠s.age∨(I3 m s age pos r).n=3∧age=s.age∧(pos≠s.recs.length∨pos=250)∨(I3 m s age pos r).n=4∧age=s.age ∧ ¬(E9 m r=true∧(j8 m (o6 m s) r).ok=true))) ∨
  ((I3 m s age pos r).s=⟨s.age,s.base,s.recs ++ [r]⟩∧(I3 m s age pos r).n=1∧age=s.age∧pos=s.recs.length∧pos≠250∧E9 m r=true∧(j8 m (o6 m s) r).ok=true):=by
 unfold I3
 split
 ·exact .inl ⟨rfl,.inl ⟨rfl,by assumption⟩⟩
 split
 ·rename_i h1 h2
  exact .inl ⟨rfl,.inr (.inl ⟨rfl,Classical.not_not.1 h1,h2⟩)⟩
 split
 ·rename_i h1 h2 h3
  exact .inr ⟨rfl,rfl,Classical.not_not.1 h1,by omega,by omega,h3.1,h3.2⟩
 ·rename_i h1 h2 h3
  exact .inl ⟨rfl,.inr (.inr ⟨rfl,Classical.not_not.1 h1,h3⟩)⟩
theorem apX {m:PMap} {c:Cll} {r:Rec} (hc:p9 m c=true) (hr:E9 m r=true):D9 m c r=j8 m c r:=by rw[D9,if_pos ⟨hc,hr⟩]
theorem b3G {m:PMap} {s:Sto} (h:A3 m s=true):X7 m s=o6 m s:=by rw[X7,if_pos h]
theorem a0X {m:PMap} {s:Sto} {a b:Int} {r:Rec} (h:A3 m s=true):y4 m s a b r=I3 m s a b r:=by rw[y4,if_pos h]
theorem c0v {m:PMap} {s:Sto} {a b:Int} {r:Rec} (h:A3 m s=true) (hn : ¬(y4 m s a b r).n=1):(y4 m s a b r).s=s:=by
 rw[a0X h]at *
 rcases a2l m s a b r with ⟨h1,h2⟩|⟨h1,h2,_⟩
 ·exact h1
 ·exact absurd h2 hn
theorem c9o {m:PMap} {s:Sto} {a:Int} (h:A3 m s=true) (h1:0≤a) (h2:a≤900):A3 m ⟨a,s.base,s.recs⟩=true∧X7 m ⟨a,s.base,s.recs⟩=X7 m s:=by
 have h3:=v8.1 h
 have h4:A3 m ⟨a,s.base,s.recs⟩=true:=v8.2 ⟨⟨h1,h2⟩,h3.2⟩
 exact⟨h4,by rw[b3G h,b3G h4];rfl⟩
theorem b3s {m:PMap} {h:Hld} {s:Sto} {r:Rec} (hh:P1 m h=true) (hs:A3 m s=true) (ha : ¬h.age=s.age):(u3 m h s r).h=h∧(u3 m h s r).s=s∧(u3 m h s r).n=2:=by
 have e:I3 m s h.age h.count r=⟨s,2⟩:=by rw[I3,if_pos ha]
 rw[u3,if_pos ⟨hh,hs⟩,e,if_pos (fun hh:(2:Int)=1=>by cases hh)]
 exact⟨rfl,rfl,rfl⟩
def a0o (m:PMap) (g:Gst):Bool:=decide (0≤g.count∧g.count≤250∧Q8 m g.wlk=true∧m5 m g.wlk.pos=g.src∧(N8 m g.wlk.pos 0=true∨N8 m g.wlk.pos 1=true))
def E3 (a b:Gst):Bool:=decide (a.src<b.src∨a.src=b.src∧a.wlk.id<b.wlk.id)
def a2e (m:PMap) (l:List Gst) (i:Nat):Bool:=a0o m (nth .gst l i)&&(decide (i=0)||E3 (nth .gst l (i-1)) (nth .gst l i))
def D2 (m:PMap) (l:List Gst):Bool:=decide (l.length≤20)&&l9 l.length (a2e m l)
def U1 (m:PMap) (l:List Gst):Bool:=p7 m&&D2 m l
theorem b2S {m:PMap} {l:List Gst} {k:Nat} (h:k<l.length) (hw:a0o m (nth .gst l k)=false):D2 m l=false:=by
 have:=s6 (f:=a2e m l) h (by simp[a2e,hw])
 simp[D2,this]
theorem b2R {m:PMap} {l:List Gst} {k:Nat} (h:k<l.length) (h0:0<k) (hw:E3 (nth .gst l (k-1)) (nth .gst l k)=false):D2 m l=false:=by
 have:=s6 (f:=a2e m l) h (by simp[a2e,hw];omega)
 simp[D2,this]
theorem a7E {m:PMap} {l:List Gst} (h:20<l.length):D2 m l=false:=by
 simp[D2]
 omega
theorem b7H {m:PMap} {l:List Gst} {k:Nat} (h:l9 k (a2e m l)=true) (hk:k=l.length) (hl:l.length≤20):D2 m l=true:=by
 subst hk
 simp[D2,h,hl]
def a2Z (t:Arb) (servers:Int) (i:Nat):Bool:=decide (-1≤nth .int t.servers i∧nth .int t.servers i≤servers-1∧0≤nth .int t.ages i∧nth .int t.ages i≤900∧(nth .int t.servers i = -1↔nth .int t.ages i=0))
def X3 (m:PMap) (t:Arb) (servers:Int):Bool:=decide (p7 m=true∧1≤servers∧servers≤3∧(t.servers.length:Int)=m.cells∧(t.ages.length:Int)=m.cells)
def B8 (m:PMap) (t:Arb) (servers:Int):Bool:=X3 m t servers&&l9 t.servers.length (a2Z t servers)
theorem c2E {m:PMap} {t:Arb} {servers:Int} {k:Nat} (h:k<t.servers.length) (hw:a2Z t servers k=false):B8 m t servers=false:=by
 have:=s6 (f:=a2Z t servers) h hw
 simp[B8,this]
theorem a5m {m:PMap} {t:Arb} {servers:Int} {k:Nat} (h:B8 m t servers=true) (hk:k<t.servers.length) : -1≤nth .int t.servers k∧nth .int t.servers k≤servers-1∧0≤nth .int t.ages k∧nth .int t.ages k≤900∧(nth .int t.servers k = -1↔nth .int t.ages k=0):=by
 unfold B8 at h
 rw[Bool.and_eq_true]at h
 have:=(l6 _ _).1 h.2 k hk
 simpa [a2Z]using this
theorem b1o {m:PMap} {t:Arb} {servers:Int} {k:Nat} (h:B8 m t servers=true) (hk:(k:Int)<m.cells) : -1≤nth .int t.servers k∧nth .int t.servers k≤servers-1∧0≤nth .int t.ages k∧nth .int t.ages k≤900∧(nth .int t.servers k = -1↔nth .int t.ages k=0):=by
 refine a5m h ?_
 unfold B8 at h
 rw[Bool.and_eq_true]at h
 have h1:=h.1
 simp only[X3,decide_eq_true_eq]at h1
 omega
theorem c2F {m:PMap} {t:Arb} {servers:Int} {k:Nat} (h:l9 k (a2Z t servers)=true) (hh:X3 m t servers=true) (hk:k=t.servers.length):B8 m t servers=true:=by
 subst hk
 simp[B8,h,hh]
def j9 (t:Arb) (cell:Int):Int:=if 0≤cell∧cell<(t.servers.length:Int)then nth .int t.servers cell.toNat else -1
def a2n (g:Gst):Bool:=decide (g.src=0∧g.count=0∧a3c g.wlk=true)
def G8 (m:PMap) (servers:Int) (x:Msg):Bool:=decide (
 (x.kind=1∧0≤x.dest∧x.dest≤servers-1∧x.side=0∧1≤x.n∧x.n≤900∧a1b x.ord=true∧a2Q x.pcl=true∧a2n x.gst=true) ∨
 (x.kind=2∧0≤x.dest∧x.dest≤servers-1∧x.side=0∧x.n=0∧S1 x.ord=true∧a2Q x.pcl=true∧a2n x.gst=true) ∨
 (x.kind=3∧x.dest = -1∧x.side=0∧1≤x.n∧x.n≤9∧S1 x.ord=true∧a2Q x.pcl=true∧a2n x.gst=true) ∨
 (x.kind=4∧x.dest = -1∧x.side=0∧x.n=0∧S1 x.ord=true∧a2Q x.pcl=true∧a2n x.gst=true) ∨
 (x.kind=5∧0≤x.dest∧x.dest≤servers-1∧b7 m x.cell x.side ≠ -1∧x.n=0∧a1b x.ord=true∧K0 m x.pcl=true∧a2n x.gst=true) ∨
 (x.kind=6∧0≤x.dest∧x.dest≤servers-1∧b7 m x.cell x.side ≠ -1∧1≤x.n∧x.n≤5000∧a1b x.ord=true∧a2Q x.pcl=true∧a2n x.gst=true) ∨
 (x.kind=7∧0≤x.dest∧x.dest≤servers-1∧b7 m x.cell x.side ≠ -1∧x.n=0∧a1b x.ord=true∧a2Q x.pcl=true∧a0o m x.gst=true∧x.gst.src=b7 m x.cell x.side))
def u9 (m:PMap) (servers:Int) (x:Msg):Bool:=decide (p7 m=true∧1≤servers∧servers≤3∧0≤x.cell∧x.cell<m.cells∧G8 m servers x=true)
def V4 (m:PMap) (r:Row):Bool:=decide (1≤r.who∧r.who≤9∧0≤r.cell∧r.cell<m.cells∧0≤r.seq∧r.seq≤900∧0≤r.code∧r.code≤9∧(r.busy=false→a1b r.ord=true)∧(r.busy=true→S1 r.ord=true∧r.ord.who=r.who∧r.ord.seq=r.seq+1))
def J5 (m:PMap) (l:List Row) (i:Nat):Bool:=V4 m (nth .row l i)&&(decide (i=0)||decide ((nth .row l (i-1)).who<(nth .row l i).who))
def A7 (m:PMap) (l:List Row):Bool:=p7 m&&l9 l.length (J5 m l)
theorem b7E {m:PMap} {l:List Row} {k:Nat} (h:k<l.length) (hw:V4 m (nth .row l k)=false):A7 m l=false:=by
 have:=s6 (f:=J5 m l) h (by simp[J5,hw])
 simp[A7,this]
theorem b7D {m:PMap} {l:List Row} {k:Nat} (h:k<l.length) (h0:0<k) (hw : ¬(nth .row l (k-1)).who<(nth .row l k).who):A7 m l=false:=by
 have:=s6 (f:=J5 m l) h (by simp[J5,hw];omega)
 simp[A7,this]
theorem c1X {m:PMap} {l:List Row} {k:Nat} (h:l9 k (J5 m l)=true) (hk:k=l.length) (hm:p7 m=true):A7 m l=true:=by
 subst hk
 simp[A7,h,hm]
def a6v (who:Int) (r:Row):Bool:=decide (r.who=who)
def k9 (l:List Row) (who:Int):Int:=idx (a6v who) l
def nwho (l:List Row) (who:Int) (j:Nat):Bool := !a6v who (nth .row l j)
theorem b8J {l:List Row} {who:Int} {k:Nat} (h:l9 k (nwho l who)=true) (hk:k<l.length) (hi:(nth .row l k).who=who):k9 l who=k:=by
 rw[l7 .row l k hk]at hi
 refine b0A hk (by simp[a6v,hi]) fun j hj => ?_
 have:=(l6 k _).1 h j hj
 simp only[nwho,Bool.not_eq_true']at this
 rw[l7 .row l j (by omega)]at this
 exact this
theorem b6q {l:List Row} {who:Int} {k:Nat} (h:l9 k (nwho l who)=true) (hk:k=l.length):k9 l who = -1:=by
 subst hk
 refine a2b fun j hj => ?_
 have:=(l6 _ _).1 h j hj
 simp only[nwho,Bool.not_eq_true']at this
 rw[l7 .row l j hj]at this
 exact this
theorem a1A (l:List Row) (who:Int) : -1≤k9 l who∧k9 l who<l.length:=by
 rcases I9 (a6v who) l with ⟨h,_⟩|⟨k,hk,h,_⟩
 ·unfold k9;rw[h];omega
 ·unfold k9;rw[h];omega
theorem b3Z {l:List Row} {who:Int} (h:0≤k9 l who):(nth .row l (k9 l who).toNat).who=who:=by
 rcases I9 (a6v who) l with ⟨h',_⟩|⟨k,hk,h',h2,_⟩
 ·unfold k9 at h;omega
 ·unfold k9;rw[h']
  rw[Int.toNat_natCast,l7 .row l k hk]
  simpa [a6v]using h2
theorem a7C {m:PMap} {l:List Row} (h:A7 m l=true) {k:Nat} (hk:k<l.length):V4 m (nth .row l k)=true∧(0<k→(nth .row l (k-1)).who<(nth .row l k).who):=by
 unfold A7 at h
 rw[Bool.and_eq_true]at h
 have:=(l6 _ _).1 h.2 k hk
 simp only[J5,Bool.and_eq_true,Bool.or_eq_true,decide_eq_true_eq]at this
 exact⟨this.1,fun h0=>this.2.resolve_left (by omega)⟩
theorem d0W {m:PMap} {l:List Row} (h:A7 m l=true) {k:Nat} (hk:k<l.length):0≤(nth .row l k).seq∧(nth .row l k).seq≤900:=by
 have:=(a7C h hk).1
 simp only[V4,decide_eq_true_eq]at this
 exact⟨this.2.2.2.2.1,this.2.2.2.2.2.1⟩
def seqB (l:List Row):Prop := ∀k,k<l.length→0≤(nth .row l k).seq∧(nth .row l k).seq≤900
theorem b0H {m:PMap} {l:List Row} (h:A7 m l=true):seqB l:=fun _ hk=>d0W h hk
structure BB where
 b:List Row
 ok:Bool
def b5g (l:List Row) (who kind dest n:Int):Ord:=⟨who,(nth .row l (k9 l who).toNat).seq+1,kind,dest,n⟩
def L6 (l:List Row) (who kind dest n:Int):BB :=
 if 0≤k9 l who∧(nth .row l (k9 l who).toNat).busy=false∧S1 (b5g l who kind dest n)=true then
  ⟨l.set (k9 l who).toNat ⟨(nth .row l (k9 l who).toNat).who,(nth .row l (k9 l who).toNat).cell,true,b5g l who kind dest n,(nth .row l (k9 l who).toNat).seq,(nth .row l (k9 l who).toNat).code⟩,true⟩
 else⟨l,false⟩
def a6z (m:PMap) (l:List Row) (who kind dest n:Int):BB:=if A7 m l=true then L6 l who kind dest n else⟨[],false⟩
def a2d (m:PMap) (l:List Hld) (i:Nat):Bool:=P1 m (nth .hld l i)&&(decide (i=0)||decide ((nth .hld l (i-1)).state.cell<(nth .hld l i).state.cell))
def a4x (s:Srv):Bool:=s.up||decide (s.holds.length=0∧s.n6.length=0)
def A4 (m:PMap) (s:Srv):Bool:=U1 m s.n6&&a4x s&&l9 s.holds.length (a2d m s.holds)
theorem b5I {m:PMap} {s:Srv} {k:Nat} (h:k<s.holds.length) (hw:P1 m (nth .hld s.holds k)=false):A4 m s=false:=by
 have:=s6 (f:=a2d m s.holds) h (by simp[a2d,hw])
 simp[A4,this]
theorem b5H {m:PMap} {s:Srv} {k:Nat} (h:k<s.holds.length) (h0:0<k) (hw : ¬(nth .hld s.holds (k-1)).state.cell<(nth .hld s.holds k).state.cell):A4 m s=false:=by
 have:=s6 (f:=a2d m s.holds) h (by simp[a2d,hw];omega)
 simp[A4,this]
theorem c0L {m:PMap} {s:Srv} {k:Nat} (h:l9 k (a2d m s.holds)=true) (hk:k=s.holds.length):A4 m s=(U1 m s.n6&&a4x s):=by
 subst hk
 simp[A4,h]
theorem a4O {m:PMap} {s:Srv} (h:A4 m s=true) {k:Nat} (hk:k<s.holds.length):P1 m (nth .hld s.holds k)=true:=by
 unfold A4 at h
 rw[Bool.and_eq_true]at h
 have:=(l6 _ _).1 h.2 k hk
 simp only[a2d,Bool.and_eq_true]at this
 exact this.1
def O9 (cell:Int) (h:Hld):Bool:=decide (h.state.cell=cell)
def j5 (l:List Hld) (cell:Int):Int:=idx (O9 cell) l
def a8g (l:List Hld) (cell:Int) (j:Nat):Bool := !O9 cell (nth .hld l j)
theorem c1W {l:List Hld} {cell:Int} {k:Nat} (h:l9 k (a8g l cell)=true) (hk:k<l.length) (hi:(nth .hld l k).state.cell=cell):j5 l cell=k:=by
 rw[l7 .hld l k hk]at hi
 refine b0A hk (by simp[O9,hi]) fun j hj => ?_
 have:=(l6 k _).1 h j hj
 simp only[a8g,Bool.not_eq_true']at this
 rw[l7 .hld l j (by omega)]at this
 exact this
theorem b2N {l:List Hld} {cell:Int} {k:Nat} (h:l9 k (a8g l cell)=true) (hk:k=l.length):j5 l cell = -1:=by
 subst hk
 refine a2b fun j hj => ?_
 have:=(l6 _ _).1 h j hj
 simp only[a8g,Bool.not_eq_true']at this
 rw[l7 .hld l j hj]at this
 exact this
theorem a1s (l:List Hld) (cell:Int) : -1≤j5 l cell∧j5 l cell<l.length:=by
 rcases I9 (O9 cell) l with ⟨h,_⟩|⟨k,hk,h,_⟩
 ·unfold j5;rw[h];omega
 ·unfold j5;rw[h];omega
theorem a2c {l:List Hld} {cell:Int} (h:0≤j5 l cell):(nth .hld l (j5 l cell).toNat).state.cell=cell:=by
 rcases I9 (O9 cell) l with ⟨h',_⟩|⟨k,hk,h',h2,_⟩
 ·unfold j5 at h;omega
 ·unfold j5;rw[h']
  rw[Int.toNat_natCast,l7 .hld l k hk]
  simpa [O9]using h2
def e9 (s:Srv) (cell:Int):Hld:=if 0≤j5 s.holds cell then nth .hld s.holds (j5 s.holds cell).toNat else a1J
def u5 (s:Srv) (cell:Int):Bool:=decide (0≤j5 s.holds cell)
def a1K (m:PMap) (l:List Sto) (i:Nat):Bool:=A3 m (nth .sto l i)&&decide ((nth .sto l i).base.cell=(i:Int))
def z7 (m:PMap) (l:List Sto):Bool:=decide (p7 m=true∧(l.length:Int)=m.cells)&&l9 l.length (a1K m l)
theorem b1T {m:PMap} {l:List Sto} {k:Nat} (h:k<l.length) (hw:A3 m (nth .sto l k)=false):z7 m l=false:=by
 have:=s6 (f:=a1K m l) h (by simp[a1K,hw])
 simp[z7,this]
theorem b1S {m:PMap} {l:List Sto} {k:Nat} (h:k<l.length) (hw : ¬(nth .sto l k).base.cell=(k:Int)):z7 m l=false:=by
 have:=s6 (f:=a1K m l) h (by simp[a1K,hw])
 simp[z7,this]
theorem b5z {m:PMap} {l:List Sto} {k:Nat} (h:l9 k (a1K m l)=true) (hk:k=l.length):z7 m l=decide (p7 m=true∧(l.length:Int)=m.cells):=by
 subst hk
 simp[z7,h]
def ghTo (m:PMap) (h:Hld) (side:Int) (k:Nat):List Gst:=(flt (fun w=>N8 m w.pos side) h.state.wlks k).map fun w=>⟨h.state.cell,h.count,w⟩
def n6 (m:PMap) (h:Hld) (side:Int):List Gst:=ghTo m h side h.state.wlks.length
theorem b2V (m:PMap) (h:Hld) (side:Int):ghTo m h side 0 = []:=by simp[ghTo,a6C]
theorem b7P (m:PMap) (h:Hld) (side:Int) (k:Nat):(ghTo m h side k).length≤k:=by
 simp only[ghTo,List.length_map]
 exact a8M _ _ _
theorem b7O {m:PMap} {h:Hld} {side:Int} {k:Nat} (hk:k<h.state.wlks.length) (hp:N8 m (nth .wlk h.state.wlks k).pos side=true):ghTo m h side (k+1)=ghTo m h side k ++ [⟨h.state.cell,h.count,nth .wlk h.state.wlks k⟩]:=by
 unfold ghTo
 rw[a0c .wlk _ _ _ hk,if_pos hp]
 simp
theorem c2b {m:PMap} {h:Hld} {side:Int} {k:Nat} (hk:k<h.state.wlks.length) (hp:N8 m (nth .wlk h.state.wlks k).pos side=false):ghTo m h side (k+1)=ghTo m h side k:=by
 unfold ghTo
 rw[a0c .wlk _ _ _ hk,if_neg (by simp[hp])]
def P3 (l:List Gst) (g:Gst):Nat:=(l.takeWhile fun x=>E3 x g).length
def a2L (l:List Gst) (g:Gst):List Gst :=
 if P3 l g<l.length∧E3 g (nth .gst l (P3 l g))=false then
  (if(nth .gst l (P3 l g)).count<g.count then l.set (P3 l g) g else l)
 else if l.length<20 then insL l (P3 l g) [g]else l
def a3H (l:List Hld) (cell:Int):Nat:=(l.takeWhile fun h=>decide (h.state.cell<cell)).length
def P0 (l:List Hld) (h:Hld):List Hld:=if 0≤j5 l h.state.cell then l.set (j5 l h.state.cell).toNat h else insL l (a3H l h.state.cell) [h]
def E0 (l:List Hld) (cell:Int):List Hld:=l.filter fun h=>decide (h.state.cell≠cell)
structure SH where
 srv:Srv
 stores:List Sto
 out:List Msg
structure SW where
 srv:Srv
 stores:List Sto
 n:Int
 k:Int
def b3r:Msg:=⟨0,0,0,0,0,⟨0,0,0,0,0⟩,⟨0,0,⟨0,0,0,0,0⟩,0⟩,⟨0,0,⟨0,0,0,0,0⟩⟩⟩
def u6:Ord:=⟨0,0,0,0,0⟩
def A8:Pcl:=⟨0,0,⟨0,0,0,0,0⟩,0⟩
def G5:Gst:=⟨0,0,⟨0,0,0,0,0⟩⟩
def B1 (m:PMap) (s:Srv) (stores:List Sto) (cell:Int) (r:Rec):SW :=
 let w:=u3 m (e9 s cell) (nth .sto stores cell.toNat) r
 if w.n=1 then⟨⟨s.up,P0 s.holds w.h,s.n6⟩,stores.set cell.toNat w.s,1,w.k⟩
 else if w.n=2 then⟨⟨s.up,E0 s.holds cell,s.n6⟩,stores,2,0⟩
 else⟨s,stores,w.n,0⟩
def H5 (m:PMap) (s:Srv) (stores:List Sto) (x:Msg):SH :=
 if u5 s x.cell=true∧x.n≤(e9 s x.cell).age then⟨s,stores,[]⟩
 else if x.n<(nth .sto stores x.cell.toNat).age then⟨s,stores,[]⟩
 else⟨⟨s.up,P0 s.holds ⟨x.n,(nth .sto stores x.cell.toNat).recs.length,o6 m (nth .sto stores x.cell.toNat)⟩,s.n6⟩,stores.set x.cell.toNat ⟨x.n,(nth .sto stores x.cell.toNat).base,(nth .sto stores x.cell.toNat).recs⟩,[]⟩
def a4k (x:Msg) (n:Int):Msg:=⟨3,-1,x.cell,0,n,x.ord,A8,G5⟩
def a6q (x:Msg):Msg:=⟨4,-1,x.cell,0,0,x.ord,A8,G5⟩
def V2 (m:PMap) (s:Srv) (stores:List Sto) (x:Msg):SH :=
 let c:=(e9 s x.cell).state
 let w:=P9 c.wlks x.ord.who
 if s8 c.wlks x.ord.who=false then⟨s,stores,[a6q x]⟩
 else if x.ord.seq<w.seq then⟨s,stores,[]⟩
 else if x.ord.seq=w.seq then⟨s,stores,if w.last=0 then[]else[a4k x w.last]⟩
 else
  let y:=B1 m s stores x.cell ⟨1,x.ord,0,A8,0⟩
  ⟨y.srv,y.stores,if y.n=1 then[a4k x y.k]else[]⟩
def R0 (m:PMap) (t:Arb) (x:Msg) (n:Int):List Msg :=
 if j9 t (b7 m x.cell x.side) = -1 then[]else[⟨6,j9 t (b7 m x.cell x.side),b7 m x.cell x.side,1-x.side,n,u6,A8,G5⟩]
def V1 (m:PMap) (s:Srv) (stores:List Sto) (t:Arb) (x:Msg):SH :=
 let n:=nth .int (e9 s x.cell).state.ins x.side.toNat
 if x.pcl.n<n then⟨s,stores,R0 m t x n⟩
 else
  let y:=B1 m s stores x.cell ⟨2,u6,x.side,x.pcl,0⟩
  ⟨y.srv,y.stores,if y.n=1 then R0 m t x (n+1)else[]⟩
def n5 (m:PMap) (s:Srv) (stores:List Sto) (t:Arb) (x:Msg):SH :=
 if s.up=false∨x.dest = -1 then⟨s,stores,[]⟩
 else if x.kind=1 then H5 m s stores x
 else if x.kind=7 then⟨⟨s.up,s.holds,a2L s.n6 x.gst⟩,stores,[]⟩
 else if u5 s x.cell=false then⟨s,stores,[]⟩
 else if x.kind=2 then V2 m s stores x
 else if x.kind=5 then V1 m s stores t x
 else
  let y:=B1 m s stores x.cell ⟨3,u6,x.side,A8,x.n⟩
  ⟨y.srv,y.stores,[]⟩
def E4 (m:PMap) (s:Srv) (stores:List Sto) (t:Arb) (servers:Int) (x:Msg):SH :=
 if A4 m s=true∧z7 m stores=true∧B8 m t servers=true∧u9 m servers x=true then n5 m s stores t x else⟨⟨false,[],[]⟩,[],[]⟩
def B9 (m:PMap) (t:Arb) (h:Hld) (cell:Int) (side:Int):List Msg :=
 let there:=b7 m cell side
 let server:=j9 t there
 if there = -1∨server = -1 then[]else
  (((nth .pcls h.state.outs side.toNat).take 4).map fun p=>(⟨5,server,there,1-side,0,u6,p,G5⟩:Msg))++(((n6 m h side).take 4).map fun g=>(⟨7,server,there,1-side,0,u6,A8,g⟩:Msg))
def D1 (m:PMap) (s:Srv) (t:Arb) (cell:Int):List Msg :=
 if u5 s cell=true then B9 m t (e9 s cell) cell 0++B9 m t (e9 s cell) cell 1 else[]
def rowAt (l:List Row) (who:Int):Row:=nth .row l (k9 l who).toNat
def z8 (m:PMap) (l:List Row) (x:Msg):BB :=
 let r:=rowAt l x.ord.who
 if 0≤k9 l x.ord.who∧r.busy=true∧r.ord=x.ord then
  (if x.kind=3 then⟨l.set (k9 l x.ord.who).toNat ⟨r.who,x.cell,false,u6,x.ord.seq,x.n⟩,true⟩
  else if x.kind=4∧x.cell=r.cell then⟨l.set (k9 l x.ord.who).toNat ⟨r.who,(r.cell+1).tmod m.cells,r.busy,r.ord,r.seq,r.code⟩,false⟩
  else⟨l,false⟩)
 else⟨l,false⟩
def a0S (m:PMap) (l:List Row) (servers:Int) (x:Msg):BB:=if A7 m l=true∧u9 m servers x=true then z8 m l x else⟨[],false⟩
structure MB where
 x:Msg
 ok:Bool
def U0 (l:List Row) (t:Arb) (who:Int):MB :=
 if 0≤k9 l who∧(rowAt l who).busy=true∧j9 t (rowAt l who).cell ≠ -1 then⟨⟨2,j9 t (rowAt l who).cell,(rowAt l who).cell,0,0,(rowAt l who).ord,A8,G5⟩,true⟩else⟨b3r,false⟩
def a4q (m:PMap) (l:List Row) (t:Arb) (servers:Int) (who:Int):MB:=if A7 m l=true∧B8 m t servers=true then U0 l t who else⟨b3r,false⟩
structure TB where
 t:Arb
 ok:Bool
def n4 (t:Arb) (servers cell server:Int):TB :=
 if 0≤cell∧cell<(t.servers.length:Int)∧0≤server∧server<servers∧nth .int t.ages cell.toNat≠900 then⟨⟨t.servers.set cell.toNat server,t.ages.set cell.toNat (nth .int t.ages cell.toNat+1)⟩,true⟩else⟨t,false⟩
def N5 (m:PMap) (t:Arb) (servers cell server:Int):TB:=if B8 m t servers=true then n4 t servers cell server else⟨⟨[],[]⟩,false⟩
def a0Y (w:Wld) (i:Nat):Bool:=decide ((nth .sto w.stores i).age≤nth .int w.table.ages i)
def a3T (t:Arb) (l:List Hld) (i:Nat):Bool:=decide ((nth .hld l i).age≤nth .int t.ages (nth .hld l i).state.cell.toNat)
def a2T (w:Wld) (i:Nat):Bool:=A4 w.map (nth .srv w.servers i)&&l9 (nth .srv w.servers i).holds.length (a3T w.table (nth .srv w.servers i).holds)
def a6p (w:Wld) (i:Nat):Bool:=u9 w.map w.servers.length (nth .msg w.net i)&&decide ((nth .msg w.net i).kind=1→(nth .msg w.net i).n≤nth .int w.table.ages (nth .msg w.net i).cell.toNat)
def a4Z (n:Note):Bool:=decide (1≤n.who∧n.who≤9∧1≤n.seq∧n.seq≤900∧1≤n.code∧n.code≤9)
def b9y (w:Wld) (i:Nat):Bool:=a4Z (nth .note w.notes i)
def j6 (w:Wld):Bool:=B8 w.map w.table w.servers.length&&z7 w.map w.stores&&A7 w.map w.rows&&decide (w.net.length≤40∧w.notes.length≤150) &&
 l9 w.stores.length (a0Y w)&&l9 w.servers.length (a2T w)&&l9 w.net.length (a6p w)&&l9 w.notes.length (b9y w)
def u7 (w:Wld) (l:List Msg):Wld:=⟨w.map,w.servers,w.stores,w.table,w.rows,w.net++l.take (40-w.net.length),w.notes⟩
def wCut (w:Wld) (i:Nat):Wld:=⟨w.map,w.servers,w.stores,w.table,w.rows,w.net.eraseIdx i,w.notes⟩
def a3f (w:Wld) (x:Msg):Wld :=
 let y:=z8 w.map w.rows x
 ⟨w.map,w.servers,w.stores,w.table,y.b,w.net,if y.ok=true∧w.notes.length<150 then w.notes ++ [⟨x.ord.who,x.ord.seq,x.n⟩]else w.notes⟩
def a0G (w:Wld) (x:Msg):Wld :=
 let y:=n5 w.map (nth .srv w.servers x.dest.toNat) w.stores w.table x
 u7 ⟨w.map,w.servers.set x.dest.toNat y.srv,y.stores,w.table,w.rows,w.net,w.notes⟩ y.out
def J7 (w:Wld) (i:Nat):Wld :=
 let x:=nth .msg w.net i
 if x.dest = -1 then a3f (wCut w i) x else a0G (wCut w i) x
def m9 (w:Wld) (e:Evt):Wld :=
 if e.kind=1 then
  (let y:=n4 w.table w.servers.length e.pos e.dest
  if y.ok=true then u7 ⟨w.map,w.servers,w.stores,y.t,w.rows,w.net,w.notes⟩ [⟨1,e.dest,e.pos,0,nth .int y.t.ages e.pos.toNat,u6,A8,G5⟩]else w)
 else if e.kind=2 then⟨w.map,w.servers,w.stores,w.table,(L6 w.rows e.pos e.what e.dest e.n).b,w.net,w.notes⟩
 else if e.kind=3 then(if(U0 w.rows w.table e.pos).ok=true then u7 w [(U0 w.rows w.table e.pos).x]else w)
 else if 4≤e.kind∧e.kind≤6 then
  (if 0≤e.pos∧e.pos<(w.net.length:Int)then(if e.kind=4 then J7 w e.pos.toNat else if e.kind=5 then wCut w e.pos.toNat else u7 w [nth .msg w.net e.pos.toNat])else w)
 else if 7≤e.kind∧e.kind≤9 then
  (if 0≤e.pos∧e.pos<(w.servers.length:Int)then(if e.kind=7 then u7 w (D1 w.map (nth .srv w.servers e.pos.toNat) w.table e.dest)
   else if e.kind=8 then⟨w.map,w.servers.set e.pos.toNat ⟨false,[],[]⟩,w.stores,w.table,w.rows,w.net,w.notes⟩
   else if(nth .srv w.servers e.pos.toNat).up=false then⟨w.map,w.servers.set e.pos.toNat ⟨true,[],[]⟩,w.stores,w.table,w.rows,w.net,w.notes⟩else w)else w)
 else w
def K4:Wld:=⟨⟨0,0⟩,[],[],⟨[],[]⟩,[],[],[]⟩
def m0 (w:Wld) (e:Evt):Wld:=if j6 w=true then m9 w e else K4
def a7v (l:List Gst) (g:Gst) (i:Nat):Bool:=E3 (nth .gst l i) g
theorem a6S {α : Type} (p : α → Bool) : ∀(l:List α) (k:Nat),k≤l.length→(∀i (h:i<l.length),i<k→p l[i]=true)→(∀h:k<l.length,p l[k]=false)→(l.takeWhile p).length=k
 |[],k,hk,_,_=>by simp at hk;simp[hk]
 |x::l,0,_,_,h=>by
   have:=h (by simp)
   simp at this
   simp[List.takeWhile_cons,this]
 |x::l,k+1,hk,h1,h2=>by
   have hx:=h1 0 (by simp) (by omega)
   simp at hx
   rw[List.takeWhile_cons,if_pos hx,List.length_cons,a6S p l k (by simpa using hk) (fun i hi hik=>h1 (i+1) (Nat.succ_lt_succ hi) (by omega)) (fun h=>h2 (Nat.succ_lt_succ h))]
theorem d0Z {l:List Gst} {g:Gst} {k:Nat} (hk:k≤l.length) (h:l9 k (a7v l g)=true) (h2:k<l.length→a7v l g k=false):P3 l g=k:=by
 refine a6S _ _ _ hk (fun i hi hik => ?_) (fun hl => ?_)
 ·have:=(l6 _ _).1 h i hik
  rwa [a7v,l7 .gst l i hi]at this
 ·have:=h2 hl
  rwa [a7v,l7 .gst l k hl]at this
structure GB where
 l:List Gst
 d:Bool
def P5 (l:List Gst) (g x:Gst) (o:GB):GB :=
 if x.src=g.src∧x.wlk.id=g.wlk.id then⟨o.l ++ [if x.count<g.count then g else x],true⟩
 else if o.d=false∧E3 g x=true∧l.length<20 then⟨o.l ++ [g] ++ [x],true⟩
 else⟨o.l ++ [x],o.d⟩
def gpTo (l:List Gst) (g:Gst):Nat→GB
 | 0=>⟨[],false⟩
 |k+1=>P5 l g (nth .gst l k) (gpTo l g k)
theorem c4N (l:List Gst) (g:Gst):gpTo l g 0=⟨[],false⟩:=rfl
theorem a7F (l:List Gst) (g:Gst) (k:Nat):gpTo l g (k+1)=P5 l g (nth .gst l k) (gpTo l g k):=rfl
theorem c8k (l:List Gst) (g:Gst) (k:Nat):(gpTo l g k).l.length≤k+(if(gpTo l g k).d=true then 1 else 0):=by
 induction k with
 |zero=>simp[gpTo]
 |succ k ih =>
  rw[a7F]
  unfold P5
  split
  ·simp;split at ih<;>omega
  ·split
   ·rename_i h
    simp[h.1]at ih ⊢
    omega
   ·simp
    split at ih<;>simp_all<;>omega
def c1Z (l:List Gst) (g:Gst):List Gst:=if(gpTo l g l.length).d=false∧l.length<20 then(gpTo l g l.length).l ++ [g]else(gpTo l g l.length).l
def a6A (m:PMap) (l:List Gst) (g:Gst):List Gst:=if D2 m l=true∧a0o m g=true then c1Z l g else[]
theorem Y6 {t:RT} {β : Type} (f:t.ty → β) (l:List t.ty) {k:Nat} (h:k<l.length):(l.take (k+1)).map f=(l.take k).map f ++ [f (nth t l k)]:=by
 rw[List.take_succ_eq_append_getElem h,List.map_append,l7 t l k h]
 rfl
theorem a5w {t:RT} {β : Type} (f:t.ty → β) (l:List t.ty) {k:Nat} (h:k≤l.length) (h4:k≤4) (he : ¬(k<l.length∧k<4)):(l.take k).map f=(l.take 4).map f:=by
 by_cases h5:k=4
 ·rw[h5]
 ·rw[List.take_of_length_le (by omega),List.take_of_length_le (by omega)]
def b8Y (m:PMap) (t:Arb) (cell side:Int) (p:Pcl):Msg:=⟨5,j9 t (b7 m cell side),b7 m cell side,1-side,0,u6,p,G5⟩
def b9V (m:PMap) (t:Arb) (cell side:Int) (g:Gst):Msg:=⟨7,j9 t (b7 m cell side),b7 m cell side,1-side,0,u6,A8,g⟩
def a0L (m:PMap) (t:Arb) (h:Hld) (side:Int) (k:Nat):List Msg:=((nth .pcls h.state.outs side.toNat).take k).map (b8Y m t h.state.cell side)
def a1F (m:PMap) (t:Arb) (h:Hld) (side:Int) (k:Nat):List Msg:=((n6 m h side).take k).map (b9V m t h.state.cell side)
theorem b6D (m:PMap) (t:Arb) (h:Hld) (side:Int):a0L m t h side 0 = []:=by simp[a0L]
theorem b7I (m:PMap) (t:Arb) (h:Hld) (side:Int):a1F m t h side 0 = []:=by simp[a1F]
theorem b6E (m:PMap) (t:Arb) (h:Hld) (side:Int) {k:Nat} (hk:k<(nth .pcls h.state.outs side.toNat).length):a0L m t h side (k+1)=a0L m t h side k ++ [b8Y m t h.state.cell side (nth .pcl (nth .pcls h.state.outs side.toNat) k)]:=Y6 (t := .pcl) _ _ hk
theorem b7J (m:PMap) (t:Arb) (h:Hld) (side:Int) {k:Nat} (hk:k<(n6 m h side).length):a1F m t h side (k+1)=a1F m t h side k ++ [b9V m t h.state.cell side (nth .gst (n6 m h side) k)]:=Y6 (t := .gst) _ _ hk
theorem b8X (m:PMap) (t:Arb) (h:Hld) (side:Int) {k:Nat} (hk:k≤(nth .pcls h.state.outs side.toNat).length) (h4:k≤4) (he : ¬(k<(nth .pcls h.state.outs side.toNat).length∧k<4)):a0L m t h side k=a0L m t h side 4:=a5w (t := .pcl) _ _ hk h4 he
theorem b9T (m:PMap) (t:Arb) (h:Hld) (side:Int) {k:Nat} (hk:k≤(n6 m h side).length) (h4:k≤4) (he : ¬(k<(n6 m h side).length∧k<4)):a1F m t h side k=a1F m t h side 4:=a5w (t := .gst) _ _ hk h4 he
def a2t (m:PMap) (t:Arb) (h:Hld) (side:Int):List Msg :=
 if b7 m h.state.cell side = -1∨j9 t (b7 m h.state.cell side) = -1 then[]else a0L m t h side 4++a1F m t h side 4
theorem a9P (m:PMap) (t:Arb) (h:Hld) (side:Int) (k:Nat):(a0L m t h side k).length≤k:=by simp[a0L];omega
theorem b0J (m:PMap) (t:Arb) (h:Hld) (side:Int) (k:Nat):(a1F m t h side k).length≤k:=by simp[a1F];omega
def b4z (cell:Int) (h:Hld):Bool:=decide (h.state.cell≠cell)
def P2 (l:List Hld) (cell:Int) (k:Nat):List Hld:=flt (b4z cell) l k
theorem b1D (l:List Hld) (cell:Int):P2 l cell 0 = []:=a6C _ _
theorem b4N (l:List Hld) (cell:Int) (k:Nat):(P2 l cell k).length≤k:=a8M _ _ _
theorem b4M {l:List Hld} {cell:Int} {k:Nat} (h:k<l.length) (hi:(nth .hld l k).state.cell≠cell):P2 l cell (k+1)=P2 l cell k ++ [nth .hld l k]:=by
 unfold P2
 rw[a0c .hld _ _ _ h,if_pos (by simp[b4z,hi])]
theorem b7z {l:List Hld} {cell:Int} {k:Nat} (h:k<l.length) (hi:(nth .hld l k).state.cell=cell):P2 l cell (k+1)=P2 l cell k:=by
 unfold P2
 rw[a0c .hld _ _ _ h,if_neg (by simp[b4z,hi])]
theorem b4O {l:List Hld} {cell:Int} {k:Nat} (h:k=l.length):P2 l cell k=E0 l cell:=by
 subst h
 unfold P2
 rw[a8N]
 rfl
theorem b9P (l:List Hld) (cell:Int):(E0 l cell).length≤l.length:=by
 unfold E0
 exact List.length_filter_le _ _
structure HB where
 l:List Hld
 d:Bool
def a0Q (h x:Hld) (o:HB):HB:=if o.d=false∧h.state.cell<x.state.cell then⟨o.l ++ [h] ++ [x],true⟩else⟨o.l ++ [x],o.d⟩
def hpTo (l:List Hld) (h:Hld):Nat→HB
 | 0=>⟨[],false⟩
 |k+1=>a0Q h (nth .hld l k) (hpTo l h k)
theorem c4A (l:List Hld) (h:Hld):hpTo l h 0=⟨[],false⟩:=rfl
theorem a7B (l:List Hld) (h:Hld) (k:Nat):hpTo l h (k+1)=a0Q h (nth .hld l k) (hpTo l h k):=rfl
theorem c7W (l:List Hld) (h:Hld) (k:Nat):(hpTo l h k).l.length≤k+(if(hpTo l h k).d=true then 1 else 0):=by
 induction k with
 |zero=>simp[hpTo]
 |succ k ih =>
  rw[a7B]
  unfold a0Q
  split
  ·rename_i h
   simp[h.1]at ih ⊢
   omega
  ·simp
   split at ih<;>simp_all<;>omega
def c1T (l:List Hld) (h:Hld):List Hld:=if(hpTo l h l.length).d=false then(hpTo l h l.length).l ++ [h]else(hpTo l h l.length).l
def a4o (l:List Hld) (h:Hld):List Hld:=c1T (E0 l h.state.cell) h
theorem a1N {m:PMap} {s:Srv} (h:A4 m s=true) : ∀ {i j:Nat},i<j→j<s.holds.length→(nth .hld s.holds i).state.cell<(nth .hld s.holds j).state.cell:=by
 have hs : ∀k,k<s.holds.length→0<k→(nth .hld s.holds (k-1)).state.cell<(nth .hld s.holds k).state.cell:=fun k hk h0=>by
  unfold A4 at h
  rw[Bool.and_eq_true]at h
  have:=(l6 _ _).1 h.2 k hk
  simp only[a2d,Bool.and_eq_true,Bool.or_eq_true,decide_eq_true_eq]at this
  exact this.2.resolve_left (by omega)
 intro i j hij hj
 induction j with
 |zero=>omega
 |succ j ih =>
  have h1:=hs (j+1) hj (by omega)
  simp only[Nat.add_sub_cancel]at h1
  by_cases he:i=j
  ·subst he;exact h1
  ·have:=ih (by omega) (by omega)
   omega
theorem a5x {m:PMap} {s:Srv} (h:A4 m s=true):s.holds.length≤4:=by
 by_cases h4:s.holds.length≤4
 ·exact h4
 ·exfalso
  have c:=fun k (hk:k<s.holds.length)=>(o7 (A6.1 (a4O h hk)).2.2)
  have o1:=a1N h (i:=0) (j:=1) (by omega) (by omega)
  have o2:=a1N h (i:=1) (j:=2) (by omega) (by omega)
  have o3:=a1N h (i:=2) (j:=3) (by omega) (by omega)
  have o4:=a1N h (i:=3) (j:=4) (by omega) (by omega)
  obtain⟨_,hp,c0,_⟩:=c 0 (by omega)
  obtain⟨_,_,_,c4,_⟩:=c 4 (by omega)
  obtain⟨_,h4',_,_⟩:=s0.1 hp
  omega
theorem c7U {α : Type} (p : α → Bool) (x : α) (l:List α):idx p (x::l)=if p x=true then 0 else if idx p l = -1 then -1 else idx p l+1:=by
 unfold idx
 rw[List.findIdx?_cons]
 by_cases h:p x=true
 ·simp[h]
 ·simp[h]
  cases l.findIdx? p with
  |none=>simp
  |some i =>
   have : ¬((i:Int) = -1):=by omega
   simp[this]
theorem d2U {α : Type} (p : α → Bool) (l:List α) : -1≤idx p l:=by
 unfold idx
 split<;>omega
def putH:List Hld→Hld→List Hld
 |[],h => [h]
 |x::l,h=>if h.state.cell<x.state.cell then h::x::l else if h.state.cell=x.state.cell then h::l else x::putH l h
def insH:List Hld→Hld→List Hld
 |[],h => [h]
 |x::l,h=>if h.state.cell<x.state.cell then h::x::l else x::insH l h
abbrev HSort (l:List Hld):Prop:=l.Pairwise fun a b=>a.state.cell<b.state.cell
theorem b0C {m:PMap} {s:Srv} (h:A4 m s=true):HSort s.holds:=by
 refine List.pairwise_iff_getElem.2 ?_
 intro i j hi hj hij
 have:=a1N h hij hj
 rwa [l7 .hld _ _ hi,l7 .hld _ _ hj]at this
def a2J (h:Hld) (o:HB) (l:List Hld):HB:=l.foldl (fun o x=>a0Q h x o) o
theorem c4B (l:List Hld) (h:Hld) (k:Nat) (hk:k≤l.length):hpTo l h k=a2J h ⟨[],false⟩ (l.take k):=by
 induction k with
 |zero=>rfl
 |succ k ih =>
  rw[a7B,ih (by omega),l7 .hld l k (by omega)]
  have e:l.take (k+1)=l.take k ++ [l[k]]:=List.take_succ_eq_append_getElem (by omega)
  rw[e]
  simp only[a2J,List.foldl_append,List.foldl_cons,List.foldl_nil]
theorem a8m (h:Hld) : ∀(l acc:List Hld),a2J h ⟨acc,true⟩ l=⟨acc++l,true⟩
 |[],acc=>by simp[a2J]
 |x::l,acc=>by
  have:=a8m h l (acc ++ [x])
  simp only[a2J,List.foldl_cons]at this ⊢
  rw[show a0Q h x ⟨acc,true⟩=⟨acc ++ [x],true⟩ by simp[a0Q],this]
  simp
def c1U (h:Hld) (o:HB):List Hld:=if o.d=false then o.l ++ [h]else o.l
theorem b0D (h:Hld) : ∀(l acc:List Hld),c1U h (a2J h ⟨acc,false⟩ l)=acc++insH l h
 |[],acc=>by simp[a2J,c1U,insH]
 |x::l,acc=>by
  by_cases hx:h.state.cell<x.state.cell
  ·have:=a8m h l (acc ++ [h] ++ [x])
   simp only[a2J,List.foldl_cons]at this ⊢
   rw[show a0Q h x ⟨acc,false⟩=⟨acc ++ [h] ++ [x],true⟩ by simp[a0Q,hx],this]
   simp[c1U,insH,hx]
  ·have:=b0D h l (acc ++ [x])
   simp only[a2J,List.foldl_cons]at this ⊢
   rw[show a0Q h x ⟨acc,false⟩=⟨acc ++ [x],false⟩ by simp[a0Q,hx],this]
   simp[insH,hx]
theorem c7X (l:List Hld) (h:Hld):c1T l h=insH l h:=by
 have h1:=c4B l h l.length (Nat.le_refl _)
 have h2:=b0D h l []
 rw[List.take_length]at h1
 rw[←h1]at h2
 simpa [c1T,c1U]using h2
theorem b9J {l:List Hld} {h:Hld} (hl : ∀x∈l,h.state.cell<x.state.cell):insH l h=h::l:=by
 cases l with
 |nil=>rfl
 |cons x l=>simp[insH,hl x (by simp)]
theorem a6x {l:List Hld} {c:Int} (hl : ∀x∈l,x.state.cell≠c):E0 l c=l:=by
 unfold E0
 rw[List.filter_eq_self]
 intro x hx
 simp[hl x hx]
theorem b7y : ∀ {l:List Hld} {h:Hld},HSort l→a4o l h=putH l h:=by
 intro l h hs
 unfold a4o
 rw[c7X]
 induction l with
 |nil=>rfl
 |cons x l ih =>
  obtain⟨hx,hl⟩:=List.pairwise_cons.1 hs
  by_cases h1:h.state.cell<x.state.cell
  ·rw[a6x (fun y hy => ?_)]
   ·simp[putH,insH,h1]
   ·rcases List.mem_cons.1 hy with rfl|hy
    ·omega
    ·have:=hx y hy;omega
  ·by_cases h2:h.state.cell=x.state.cell
   ·have:E0 (x::l) h.state.cell=l:=by
     rw[show E0 (x::l) h.state.cell=E0 l h.state.cell by simp[E0,h2]]
     exact a6x fun y hy=>by have:=hx y hy;omega
    rw[this,b9J (fun y hy=>by have:=hx y hy;omega)]
    simp[putH,h2]
   ·rw[show E0 (x::l) h.state.cell=x::E0 l h.state.cell by
     have : ¬x.state.cell=h.state.cell:=fun hh=>h2 hh.symm
     simp[E0,this]]
    simp[putH,insH,h1,h2,ih hl]
theorem a0R : ∀ {l:List Hld} {h:Hld},HSort l→P0 l h=putH l h:=by
 intro l h hs
 induction l with
 |nil=>simp[P0,j5,idx,insL,a3H,putH]
 |cons x l ih =>
  obtain⟨hx,hl⟩:=List.pairwise_cons.1 hs
  have hi:=c7U (O9 h.state.cell) x l
  have hge:=d2U (O9 h.state.cell) l
  by_cases h1:h.state.cell<x.state.cell
  ·have hno:j5 (x::l) h.state.cell = -1:=by
    rcases I9 (O9 h.state.cell) (x::l)with ⟨e,_⟩|⟨k,hk,e,h2,_⟩
    ·exact e
    ·exfalso
     simp only[O9,decide_eq_true_eq]at h2
     have hm:=List.getElem_mem hk
     rcases List.mem_cons.1 hm with he|he
     ·rw[he]at h2;omega
     ·have:=hx _ he;omega
   rw[P0,hno,if_neg (by omega)]
   have:a3H (x::l) h.state.cell=0:=by
    simp[a3H,List.takeWhile_cons,show ¬x.state.cell<h.state.cell by omega]
   simp[this,insL,putH,h1]
  ·by_cases h2:h.state.cell=x.state.cell
   ·have he:j5 (x::l) h.state.cell=0:=by
     unfold j5
     rw[hi,if_pos (by simp[O9,h2])]
    rw[P0,he]
    simp[putH,h2]
   ·have ih:=ih hl
    have he:j5 (x::l) h.state.cell=if j5 l h.state.cell = -1 then -1 else j5 l h.state.cell+1:=by
     unfold j5
     rw[hi,if_neg (by simp[O9];omega)]
    have hp:a3H (x::l) h.state.cell=a3H l h.state.cell+1:=by
     simp[a3H,List.takeWhile_cons,show x.state.cell<h.state.cell by omega]
    unfold P0 at ih ⊢
    have hge' : -1≤j5 l h.state.cell:=hge
    generalize j5 (x::l) h.state.cell=P at *
    generalize j5 l h.state.cell=R at *
    by_cases h0:0≤R
    ·rw[if_pos h0]at ih
     rw[if_neg (by omega)]at he
     subst he
     rw[if_pos (by omega),show(R+1).toNat=R.toNat+1 by omega,List.set_cons_succ,ih]
     simp[putH,h1,h2]
    ·rw[if_neg h0]at ih
     rw[if_pos (by omega)]at he
     subst he
     rw[if_neg (by omega),hp]
     simp only[insL,List.take_succ_cons,List.drop_succ_cons,List.cons_append]at ih ⊢
     rw[ih]
     simp[putH,h1,h2]
theorem b9O {l:List Hld} {h:Hld} (hs:HSort l):a4o l h=P0 l h:=by rw[b7y hs,a0R hs]
abbrev GSort (l:List Gst):Prop:=l.Pairwise fun a b=>E3 a b=true
theorem H3 {a b:Gst}:E3 a b=true↔a.src<b.src∨a.src=b.src∧a.wlk.id<b.wlk.id:=by simp[E3]
theorem b0K {m:PMap} {l:List Gst} (h:D2 m l=true):GSort l:=by
 have hs : ∀k,k<l.length→0<k→E3 (nth .gst l (k-1)) (nth .gst l k)=true:=fun k hk h0=>by
  unfold D2 at h
  rw[Bool.and_eq_true]at h
  have:=(l6 _ _).1 h.2 k hk
  simp only[a2e,Bool.and_eq_true,Bool.or_eq_true,decide_eq_true_eq]at this
  exact this.2.resolve_left (by omega)
 have hall : ∀j,j<l.length → ∀i,i<j→E3 (nth .gst l i) (nth .gst l j)=true:=by
  intro j
  induction j with
  |zero=>intro _ i hi;omega
  |succ j ih =>
   intro hj i hi
   have h1:=hs (j+1) hj (by omega)
   simp only[Nat.add_sub_cancel]at h1
   by_cases he:i=j
   ·subst he;exact h1
   ·have h2:=ih (by omega) i (by omega)
    rw[H3]at h1 h2 ⊢
    omega
 refine List.pairwise_iff_getElem.2 ?_
 intro i j hi hj hij
 have:=hall j hj i hij
 rwa [l7 .gst _ _ hi,l7 .gst _ _ hj]at this
def a6u (x g:Gst):Gst:=if x.count<g.count then g else x
def putG (room:Bool):List Gst→Gst→List Gst
 |[],g=>if room=true then[g]else[]
 |x::l,g=>if E3 g x=true then(if room=true then g::x::l else x::l)else if x.src=g.src∧x.wlk.id=g.wlk.id then a6u x g::l else x::putG room l g
def W3 (L:List Gst) (g:Gst) (o:GB) (l:List Gst):GB:=l.foldl (fun o x=>P5 L g x o) o
theorem c4O (l:List Gst) (g:Gst) (k:Nat) (hk:k≤l.length):gpTo l g k=W3 l g ⟨[],false⟩ (l.take k):=by
 induction k with
 |zero=>rfl
 |succ k ih =>
  rw[a7F,ih (by omega),l7 .gst l k (by omega)]
  have e:l.take (k+1)=l.take k ++ [l[k]]:=List.take_succ_eq_append_getElem (by omega)
  rw[e]
  simp only[W3,List.foldl_append,List.foldl_cons,List.foldl_nil]
theorem a3J (L:List Gst) (g:Gst) : ∀(l acc:List Gst),(∀x∈l,¬(x.src=g.src∧x.wlk.id=g.wlk.id))→W3 L g ⟨acc,true⟩ l=⟨acc++l,true⟩
 |[],acc,_=>by simp[W3]
 |x::l,acc,hl=>by
  have:=a3J L g l (acc ++ [x]) fun y hy=>hl y (List.mem_cons_of_mem _ hy)
  simp only[W3,List.foldl_cons]at this ⊢
  rw[show P5 L g x ⟨acc,true⟩=⟨acc ++ [x],true⟩ by simp[P5,hl x (by simp)],this]
  simp
theorem a8p (L:List Gst) (g:Gst) (hL : ¬L.length<20) : ∀(l acc:List Gst),(∀x∈l,¬(x.src=g.src∧x.wlk.id=g.wlk.id))→(W3 L g ⟨acc,false⟩ l).l=acc++l
 |[],acc,_=>by simp[W3]
 |x::l,acc,hl=>by
  have:=a8p L g hL l (acc ++ [x]) fun y hy=>hl y (List.mem_cons_of_mem _ hy)
  simp only[W3,List.foldl_cons]at this ⊢
  rw[show P5 L g x ⟨acc,false⟩=⟨acc ++ [x],false⟩ by simp[P5,hl x (by simp),hL],this]
  simp
def b2U (L:List Gst) (g:Gst) (o:GB):List Gst:=if o.d=false∧L.length<20 then o.l ++ [g]else o.l
theorem b0L (L:List Gst) (g:Gst) : ∀(l acc:List Gst),GSort l→b2U L g (W3 L g ⟨acc,false⟩ l)=acc++putG (decide (L.length<20)) l g
 |[],acc,_=>by by_cases h:L.length<20<;>simp[W3,b2U,putG,h]
 |x::l,acc,hs=>by
  obtain⟨hx,hl⟩:=List.pairwise_cons.1 hs
  by_cases h1:E3 g x=true
  ·have hne : ∀y∈l,¬(y.src=g.src∧y.wlk.id=g.wlk.id):=fun y hy=>by
    have:=hx y hy
    rw[H3]at this h1
    omega
   have hnx : ¬(x.src=g.src∧x.wlk.id=g.wlk.id):=by rw[H3]at h1;omega
   by_cases hL:L.length<20
   ·have:=a3J L g l (acc ++ [g] ++ [x]) hne
    simp only[W3,List.foldl_cons]at this ⊢
    rw[show P5 L g x ⟨acc,false⟩=⟨acc ++ [g] ++ [x],true⟩ by simp[P5,hnx,h1,hL],this]
    simp[b2U,putG,h1,hL]
   ·have:=a8p L g hL l (acc ++ [x]) hne
    simp only[W3,List.foldl_cons]at this ⊢
    rw[show P5 L g x ⟨acc,false⟩=⟨acc ++ [x],false⟩ by simp[P5,hnx,hL]]
    simp[b2U,putG,h1,hL,this]
  ·by_cases h2:x.src=g.src∧x.wlk.id=g.wlk.id
   ·have hne : ∀y∈l,¬(y.src=g.src∧y.wlk.id=g.wlk.id):=fun y hy=>by
     have:=hx y hy
     rw[H3]at this
     omega
    have:=a3J L g l (acc ++ [a6u x g]) hne
    simp only[W3,List.foldl_cons]at this ⊢
    rw[show P5 L g x ⟨acc,false⟩=⟨acc ++ [a6u x g],true⟩ by simp[P5,h2,a6u],this]
    simp[b2U,putG,h1,h2]
   ·have:=b0L L g l (acc ++ [x]) hl
    simp only[W3,List.foldl_cons]at this ⊢
    rw[show P5 L g x ⟨acc,false⟩=⟨acc ++ [x],false⟩ by simp[P5,h1,h2],this]
    simp[putG,h1,h2]
theorem c4P {l:List Gst} {g:Gst} (hs:GSort l):c1Z l g=putG (decide (l.length<20)) l g:=by
 have h1:=c4O l g l.length (Nat.le_refl _)
 have h2:=b0L l g l [] hs
 rw[List.take_length]at h1
 rw[←h1]at h2
 simpa [c1Z,b2U]using h2
theorem b7L (x:Gst) (l:List Gst) (g:Gst):P3 (x::l) g=if E3 x g=true then P3 l g+1 else 0:=by
 unfold P3
 rw[List.takeWhile_cons]
 split<;>simp
theorem b2T (room:Bool) : ∀(l:List Gst) (g:Gst),GSort l→(if P3 l g<l.length∧E3 g (nth .gst l (P3 l g))=false then
  (if(nth .gst l (P3 l g)).count<g.count then l.set (P3 l g) g else l)
 else if room=true then insL l (P3 l g) [g]else l)=putG room l g
 |[],g,_=>by simp[P3,insL,putG]
 |x::l,g,hs=>by
  obtain⟨hx,hl⟩:=List.pairwise_cons.1 hs
  have ih:=b2T room l g hl
  rw[b7L]
  by_cases h1:E3 x g=true
  ·have hn:E3 g x=false:=by
    cases hh:E3 g x with
    |false=>rfl
    |true=>rw[H3]at h1 hh;omega
   have hne : ¬(x.src=g.src∧x.wlk.id=g.wlk.id):=by rw[H3]at h1;omega
   rw[if_pos h1]
   have hnth:nth .gst (x::l) (P3 l g+1)=nth .gst l (P3 l g):=by simp[nth]
   rw[hnth]
   simp only[List.length_cons,Nat.add_lt_add_iff_right,List.set_cons_succ,insL,List.take_succ_cons,List.drop_succ_cons,List.cons_append]
   simp only[putG,hn,hne,if_false,Bool.false_eq_true]
   rw[←ih]
   simp only[insL]
   split
   ·split<;>rfl
   ·split<;>rfl
  ·rw[if_neg h1]
   have hnth:nth .gst (x::l) 0=x:=by simp[nth]
   rw[hnth]
   by_cases h2:E3 g x=true
   ·rw[if_neg (by simp[h2])]
    simp[putG,h2,insL]
   ·have he:x.src=g.src∧x.wlk.id=g.wlk.id:=by rw[H3]at h1 h2;omega
    rw[if_pos ⟨by simp,by simpa using h2⟩]
    simp only[putG,h2,he,a6u,List.set_cons_zero]
    by_cases h3:x.count<g.count<;>simp[h3]
theorem a5f {l:List Gst} {g:Gst} (hs:GSort l):a2L l g=putG (decide (l.length<20)) l g:=by
 have:=b2T (decide (l.length<20)) l g hs
 rw[←this]
 simp[a2L]
theorem b9U {m:PMap} {l:List Gst} {g:Gst} (hl:D2 m l=true) (hg:a0o m g=true):a6A m l g=a2L l g:=by
 rw[a6A,if_pos ⟨hl,hg⟩,c4P (b0K hl),a5f (b0K hl)]
def a3R (l:List Hld) (cell:Int) (i:Nat):Bool:=decide ((nth .hld l i).state.cell<cell)
theorem d0S {l:List Hld} {cell:Int} {k:Nat} (hk:k≤l.length) (h:l9 k (a3R l cell)=true) (h2:k<l.length → ¬(nth .hld l k).state.cell<cell):a3H l cell=k:=by
 refine a6S _ _ _ hk (fun i hi hik => ?_) (fun hl => ?_)
 ·have:=(l6 _ _).1 h i hik
  rwa [a3R,l7 .hld l i hi]at this
 ·have:=h2 hl
  rw[l7 .hld l k hl]at this
  simpa using this
end Go.Mo
