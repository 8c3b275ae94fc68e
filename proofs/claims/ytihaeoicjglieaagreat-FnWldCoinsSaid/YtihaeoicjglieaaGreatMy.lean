/- What some ends alone need. -/
import Derived.Test.YtihaeoicjglieaaGreatM1
import Derived.Test.YtihaeoicjglieaaGreatM2
import Derived.Test.YtihaeoicjglieaaGreatM3
import Derived.Test.YtihaeoicjglieaaGreatM4
import Derived.Test.YtihaeoicjglieaaGreatM5
import Derived.Test.YtihaeoicjglieaaGreatM6
import Derived.Test.YtihaeoicjglieaaGreatM7
set_option linter.unusedVariables false
set_option linter.unusedSimpArgs false
namespace Go.Sx
end Go.Sx
namespace Go.Mo
open Go.Sx
theorem d4t {m:PMap} {v:Int} {x:Msg} (hx:y5 m v x=true) (hk:x.kind=2∨x.kind=3∨x.kind=4):O2 x.ord=true:=by
 simp only[y5,H7,decide_eq_true_eq]at hx
 grind
end Go.Mo
namespace Go.Sx
end Go.Sx
namespace Go.Mo
open Go.Sx
end Go.Mo
namespace Go.Sx
end Go.Sx
namespace Go.Mo
open Go.Sx
def a5O (l:List OW) (k:Nat):List Wlk:=(l.take k).map fun x=>x.wlk
theorem c1M (l:List OW):a5O l 0 = []:=by simp[a5O]
theorem c1N {l:List OW} {k:Nat} (h:k<l.length):a5O l (k+1)=a5O l k ++ [(nth .ow l k).wlk]:=by
 unfold a5O
 rw[List.take_succ_eq_append_getElem h,List.map_append,l6 .ow l k h]
 rfl
theorem c6E {l:List OW} {k:Nat} (h:k=l.length):a5O l k=ows l:=by subst h;simp[a5O,ows]
theorem c6D (l:List OW) (k:Nat):(a5O l k).length≤k:=by simp[a5O];omega
theorem d3S {m:PMap} {l:List OW} {k:Nat} (h:k<l.length) (hw:P9 m (nth .ow l k).wlk=false):m8 l.length (owAt m l)=false:=s7 h (by simp[owAt,hw])
theorem d3R {m:PMap} {l:List OW} {k:Nat} (h:k<l.length) (h0:0<k) (hw : ¬(nth .ow l (k-1)).wlk.id<(nth .ow l k).wlk.id):m8 l.length (owAt m l)=false:=s7 h (by simp[owAt,hw];omega)
theorem b4h {o:One} {k:Nat} (h:k<o.ground.length) (hw:Y6 o k=false):a4t o=false:=s7 h hw
theorem b4i {o:One} {k:Nat} (h:m8 k (Y6 o)=true) (hk:k=o.ground.length):a4t o=true:=by subst hk;exact h
theorem b4n {o:One} (h:I3 o=true) {k:Nat} (hk:(k:Int)<o.map.cells):(0≤nth .int o.ground k∧nth .int o.ground k≤900)∧(nth .ints o.air k).length=2∧(0≤nth .int (nth .ints o.air k) 0∧nth .int (nth .ints o.air k) 0≤100000)∧(0≤nth .int (nth .ints o.air k) 1∧nth .int (nth .ints o.air k) 1≤100000):=by
 obtain⟨h1,h2,_⟩:=U0.1 h
 obtain⟨_,h4,_⟩:=O9.1 h1
 have:=(m4 _ _).1 h2 k (by omega)
 simp only[Y6,decide_eq_true_eq]at this
 exact⟨⟨this.1,this.2.1⟩,this.2.2.1,⟨this.2.2.2.1,this.2.2.2.2.1⟩,this.2.2.2.2.2⟩
theorem a7o (l:List OW) (id:Int) : -1≤m6 l id∧m6 l id<l.length:=by
 rcases F3 (isOw id) l with ⟨h,_⟩|⟨k,hk,h,_⟩
 ·unfold m6;rw[h];omega
 ·unfold m6;rw[h];omega
theorem b4m {l:List OW} {id:Int} (h:0≤m6 l id):(nth .ow l (m6 l id).toNat).wlk.id=id:=by
 rcases F3 (isOw id) l with ⟨h',_⟩|⟨k,hk,h',h2,_⟩
 ·unfold m6 at h;omega
 ·unfold m6;rw[h',Int.toNat_natCast,l6 .ow l k hk]
  simpa [isOw]using h2
theorem b1q {o:One} (h:I3 o=true) : ∀k,k≤o.wlks.length→0≤K6 o.wlks k∧K6 o.wlks k≤99 * k
 | 0,_=>by simp[K6]
 |k+1,hk=>by
  have:=b1q h k (by omega)
  have hw:=z5.1 (b6m h (k:=k) (by omega)).1
  rw[a6l]
  omega
theorem c0j {o:One} (h:I3 o=true) : ∀k:Nat,(k:Int)≤o.map.cells→0≤O5 o k∧O5 o k≤200900 * k
 | 0,_=>by simp[O5]
 |k+1,hk=>by
  have ih:=c0j h k (by omega)
  obtain⟨⟨a1,a2⟩,_,⟨a3,a4⟩,a5,a6⟩:=b4n h (k:=k) (by omega)
  rw[a3N]
  have : ∀g x y s:Int,0≤g→g≤900→0≤x→x≤100000→0≤y→y≤100000→0≤s∧s≤200900 * (k:Int)→0≤s+(g+x+y)∧s+(g+x+y)≤200900 * ((k+1:Nat):Int):=fun g x y s _ _ _ _ _ _ _=>by omega
  exact this _ _ _ _ a1 a2 a3 a4 a5 a6 ih
theorem c2x {m:PMap} {s:Srv} {st:List Sto} {t:Arb} {v:Int} {x:Msg} (hv:a5x m s st t v x) (hl : ¬(o6 m s st t x).out.length=0) (hk:(nth .msg (o6 m s st t x).out 0).kind=3) :
  s.up=true ∧ ¬x.dest = -1∧x.kind=2∧A6 s x.cell=true∧u3 (j6 s x.cell).state.wlks x.ord.who=true ∧
  (((E3 (j6 s x.cell).state.wlks x.ord.who).seq=x.ord.seq∧o6 m s st t x=⟨s,st,[a2n x (E3 (j6 s x.cell).state.wlks x.ord.who).last]⟩) ∨
   ((E3 (j6 s x.cell).state.wlks x.ord.who).seq<x.ord.seq∧(y4 m (j6 s x.cell) (n8 st x) (o7 x)).n=1∧o6 m s st t x=⟨⟨s.up,putH s.holds ⟨(j6 s x.cell).age,(j6 s x.cell).count+1,(l7 m (j6 s x.cell).state (o7 x)).c⟩,s.n9⟩,
    st.set x.cell.toNat ⟨(n8 st x).age,(n8 st x).base,(n8 st x).recs ++ [o7 x]⟩,[a2n x (l7 m (j6 s x.cell).state (o7 x)).code]⟩)):=by
 obtain⟨_,_,hall,hsort⟩:=C3.1 hv.1
 have hkk:=a3e hv.2.2.2
 by_cases hu0:s.up=false∨x.dest = -1
 ·unfold o6 at hl
  rw[if_pos hu0]at hl
  exact absurd rfl hl
 have hu:s.up=true:=by
  cases h:s.up with
  |true=>rfl
  |false=>exact absurd (.inl h) hu0
 have hd : ¬x.dest = -1:=fun h=>hu0 (.inr h)
 have e0:o6 m s st t x=if x.kind=1 then M5 m s st x
  else if x.kind=7 then⟨⟨s.up,s.holds,a2J s.n9 x.gst⟩,st,[]⟩
  else if A6 s x.cell=false then⟨s,st,[]⟩
  else if x.kind=2 then Y2 m s st x
  else if x.kind=5 then Y1 m s st t x
  else⟨(C0 m s st x.cell ⟨3,u5,x.side,y8,x.n⟩).srv,(C0 m s st x.cell ⟨3,u5,x.side,y8,x.n⟩).stores,[]⟩:=by
  unfold o6
  rw[if_neg hu0]
 rw[e0]at hl hk ⊢
 by_cases k1:x.kind=1
 ·rw[if_pos k1]at hl
  exfalso
  unfold M5 at hl
  split at hl
  ·exact hl rfl
  ·split at hl<;>exact hl rfl
 rw[if_neg k1]at hl hk ⊢
 by_cases k7:x.kind=7
 ·rw[if_pos k7]at hl
  exact absurd rfl hl
 rw[if_neg k7]at hl hk ⊢
 by_cases kh:A6 s x.cell=false
 ·rw[if_pos kh]at hl
  exact absurd rfl hl
 rw[if_neg kh]at hl hk ⊢
 have hh:A6 s x.cell=true:=by simpa using kh
 by_cases k2:x.kind=2
 ·rw[if_pos k2]at hl hk ⊢
  have er:o7 x=⟨1,x.ord,0,y8,0⟩:=by rw[o7,if_pos k2]
  unfold Y2 at hl hk ⊢
  simp only at hl hk ⊢
  by_cases hw:u3 (j6 s x.cell).state.wlks x.ord.who=false
  ·rw[if_pos hw]at hk
   exact absurd (show(4:Int)=3 from hk) (by decide)
  rw[if_neg hw]at hl hk ⊢
  refine⟨hu,hd,k2,hh,by simpa using hw,?_⟩
  by_cases q1:x.ord.seq<(E3 (j6 s x.cell).state.wlks x.ord.who).seq
  ·rw[if_pos q1]at hl
   exact absurd rfl hl
  rw[if_neg q1]at hl hk ⊢
  by_cases q2:x.ord.seq=(E3 (j6 s x.cell).state.wlks x.ord.who).seq
  ·rw[if_pos q2]at hl hk ⊢
   simp only at hl hk
   by_cases q3:(E3 (j6 s x.cell).state.wlks x.ord.who).last=0
   ·rw[if_pos q3]at hl
    exact absurd rfl hl
   ·rw[if_neg q3]
    exact .inl ⟨q2.symm,rfl⟩
  ·rw[if_neg q2]at hl hk ⊢
   rw[←er]at hl hk ⊢
   right
   refine⟨by omega,?_⟩
   rcases a9p (m:=m) (s:=s) (st:=st) (cell:=x.cell) (r:=o7 x) hsort with ⟨w1,w2,w3⟩|⟨w1,_,w3⟩|⟨w1,w2,_⟩
   ·refine⟨w2,?_⟩
    rw[w3]
    simp[n8]
   ·rw[w1]at hl
    exact absurd rfl hl
   ·simp only[if_neg w1]at hl
    exact absurd rfl hl
 ·exfalso
  rw[if_neg k2]at hl hk
  by_cases k5:x.kind=5
  ·rw[if_pos k5]at hl hk
   unfold Y1 at hl hk
   simp only at hl hk
   have hgot : ∀n,¬(U6 m t x n).length=0 → ¬(nth .msg (U6 m t x n) 0).kind=3:=by
    intro n h1 h2
    unfold U6 at h1 h2
    split at h1
    ·exact h1 rfl
    ·rename_i hq
     rw[if_neg hq]at h2
     exact absurd (show(6:Int)=3 from h2) (by decide)
   split at hl
   ·rename_i hq
    rw[if_pos hq]at hk
    exact hgot _ hl hk
   ·rename_i hq
    rw[if_neg hq]at hk
    simp only at hl hk
    split at hl
    ·rename_i hq2
     rw[if_pos hq2]at hk
     exact hgot _ hl hk
    ·exact hl rfl
  ·rw[if_neg k5]at hl
   exact hl rfl
theorem c6h {w w':Wld} (hok:j8 w=true) (hs:StepC w w'):w'.map=w.map∧Grow w.map w.stores w'.stores:=by
 cases hs with
 |hear i hi hd =>
  obtain⟨X,hX,e⟩:=heard hok hi hd
  rw[e]
  exact⟨rfl,c0d hX.stos hX.ok hX.eff⟩
 |_=>exact⟨rfl,Grow.refl _ _⟩
theorem d1j {m:PMap} {l:List Wlk} (h:A5 m l=true) {w:Wlk} (hw:w∈l):u3 l w.id=true∧E3 l w.id=w:=by
 have hs:=a8x h
 obtain⟨i,hi,e⟩:=P6 .wlk hw
 have hp:k8 l w.id=(i:Int):=by
  rcases F3 (isId w.id) l with ⟨_,hn⟩|⟨k,hk,hk1,hk2,hk3⟩
  ·have:=hn w hw
   simp[isId]at this
  ·unfold k8
   rw[hk1]
   have hkid:(nth .wlk l k).id=w.id:=by
    rw[l6 .wlk l k hk]
    simpa [isId]using hk2
   have:k=i:=by
    rcases Nat.lt_trichotomy k i with h0|h0|h0
    ·have:=hs k i h0 hi
     rw[e]at this
     omega
    ·exact h0
    ·have:=hs i k h0 hk
     rw[e]at this
     omega
   rw[this]
 constructor
 ·simp only[u3,decide_eq_true_eq,hp]
  omega
 ·rw[E3,if_pos (by rw[hp];omega),hp,Int.toNat_natCast]
  exact e
theorem d4s {m:PMap} {l:List Wlk} {i:Nat} (hi:i<m.cells.toNat):nth .sto ((List.range m.cells.toNat).map fun(i:Nat)=>P5 m (i:Int) l) i=P5 m (i:Int) l:=by
 rw[l6 .sto _ i (by simpa using hi)];simp
theorem d5e {m:PMap} {l:List Wlk} {v:Int} (h1:s0 m=true) (h4:A5 m l=true) (h2:1≤v) (h3:v≤3) (hf : ∀x∈l,x.seq=0∧x.last=0) (hl:l.length≤5):Beg l (a5Y m l v):=by
 have hok:=b3D h1 h4 h2 h3
 have he:a5Y m l v=R7 m l v:=by rw[a5Y,if_pos ⟨h1,h4,h2,h3⟩]
 rw[he]at hok ⊢
 have hsrv : ∀i,i<(R7 m l v).servers.length→nth .srv (R7 m l v).servers i=⟨true,[],[]⟩:=fun i hi=>by
  rw[l6 .srv _ i hi]
  simp[R7]
 refine⟨hok,h4,hf,hl,rfl,rfl,by simp[R7,a9a,h1,h4],fun c h0 hc => ?_,fun i hi=>by rw[hsrv i hi],⟨fun i hi h hm => ?_,fun i j c n t1 t2 => ?_⟩⟩
 ·have hi:c.toNat<m.cells.toNat:=by have:c<m.cells:=hc;omega
  have:stAt (R7 m l v).stores c=P5 m ((c.toNat:Nat):Int) l:=d4s hi
  rw[this,show((c.toNat:Nat):Int)=c by omega]
  exact⟨rfl,rfl⟩
 ·rw[hsrv i hi]at hm
  cases hm
 ·cases t1 with
  |hold hi h hm hc hn=>rw[hsrv i hi]at hm;cases hm
  |word x hx hk hd hc hn=>cases hx
  |table h0 hc hs hn =>
   exfalso
   have hc':c.toNat<m.cells.toNat:=by simpa [R7,a3U,h1]using hc
   have:nth .int (R7 m l v).table.servers c.toNat=(-1:Int):=by
    show nth .int (a3U m).servers c.toNat=(-1:Int)
    rw[a3U,if_pos h1,l6 .int _ _ (by simpa using hc')]
    simp
   rw[this]at hs
   omega
theorem c2y {m:PMap} {s:Srv} {st:List Sto} {t:Arb} {x:Msg} (hk:x.kind=1):(o6 m s st t x).out = []∧(o6 m s st t x).srv.n9=s.n9 ∧
  ((o6 m s st t x).stores=st∨(o6 m s st t x).stores=st.set x.cell.toNat ⟨x.n,(nth .sto st x.cell.toNat).base,(nth .sto st x.cell.toNat).recs⟩):=by
 unfold o6
 split
 ·exact⟨rfl,rfl,.inl rfl⟩
 try rw[if_pos hk]
 unfold M5
 split
 ·exact⟨rfl,rfl,.inl rfl⟩
 split
 ·exact⟨rfl,rfl,.inl rfl⟩
 ·exact⟨rfl,rfl,.inr rfl⟩
theorem c5g {w:Wld} (e:Evt) (hok:j8 w=true) (hf:Fence w):Fence (b9 w e):=by
 have:b9 w e=v5 w e:=by simp[b9,hok]
 rw[this]
 exact b2w hok hf (a3v w e)
theorem d2T {l:List Wlk} {w:Wld} (h:Beg l w) (c d:Int):Beg l (b9 (b9 w ⟨1,c,0,d,0⟩) ⟨4,0,0,0,0⟩):=by
 have ok1:=b0I ⟨1,c,0,d,0⟩ h.ok
 have ok2:=b0I ⟨4,0,0,0,0⟩ ok1
 have f1:=c5g ⟨1,c,0,d,0⟩ h.ok h.fence
 have f2:=c5g ⟨4,0,0,0,0⟩ ok1 f1
 have e1:b9 w ⟨1,c,0,d,0⟩=v5 w ⟨1,c,0,d,0⟩:=by simp[b9,h.ok]
 by_cases hg:(p9 w.table w.servers.length c d).ok=true
 ·have e2:b9 w ⟨1,c,0,d,0⟩=⟨w.map,w.servers,w.stores,(p9 w.table w.servers.length c d).t,w.rows,[a3j (p9 w.table w.servers.length c d).t c d],w.notes⟩:=by
   rw[e1]
   unfold v5
   rw[if_pos rfl]
   simp only[hg,if_true,v7,h.net]
   rfl
  have hgr:=a7W (n0.1 h.ok).1 hg
  generalize hT:(p9 w.table w.servers.length c d).t=T at *
  generalize hx:a3j T c d=x at *
  have xk:x.kind=1:=by rw[←hx];rfl
  have xd:x.dest=d:=by rw[←hx];rfl
  have xc:x.cell=c:=by rw[←hx];rfl
  have hd : ¬x.dest = -1:=by rw[xd];omega
  rw[e2]at ok1 f1 ok2 f2 ⊢
  generalize hw1:(⟨w.map,w.servers,w.stores,T,w.rows,[x],w.notes⟩:Wld)=w1 at *
  have n1:w1.net = [x]:=by rw[←hw1]
  have e3:b9 w1 ⟨4,0,0,0,0⟩=a1Z (wCut w1 0) x:=by
   have hn:nth .msg w1.net 0=x:=by rw[n1];rfl
   have hp:(0:Int)≤0∧(0:Int)<(w1.net.length:Int):=by rw[n1];exact⟨Int.le_refl 0,by simp⟩
   simp only[b9,ok1,if_true]
   unfold v5
   rw[if_neg (by decide),if_neg (by decide),if_neg (by decide),if_pos (by decide),if_pos hp,if_pos rfl]
   show V8 w1 0=_
   unfold V8
   rw[hn]
   simp only
   rw[if_neg hd]
  rw[e3]at ok2 f2 ⊢
  have hh := @c2y w1.map (nth .srv w1.servers x.dest.toNat) w1.stores w1.table x xk
  have e4:a1Z (wCut w1 0) x=⟨w1.map,w1.servers.set x.dest.toNat (o6 w1.map (nth .srv w1.servers x.dest.toNat) w1.stores w1.table x).srv,(o6 w1.map (nth .srv w1.servers x.dest.toNat) w1.stores w1.table x).stores,w1.table,w1.rows,[],w1.notes⟩:=by
   unfold a1Z v7 wCut
   simp only[hh.1,n1]
   rfl
  rw[e4]at ok2 f2 ⊢
  have m1:w1.map=w.map:=by rw[←hw1]
  have s1:w1.servers=w.servers:=by rw[←hw1]
  have st1:w1.stores=w.stores:=by rw[←hw1]
  refine⟨ok2,by rw[m1];exact h.all,h.fresh,h.few,rfl,by rw[←hw1];exact h.notes,by rw[←hw1];exact h.rows,fun k h0 hk => ?_,fun i hi => ?_,f2⟩
  ·have hr:=h.recs k h0 (by rw[←m1];exact hk)
   rcases hh.2.2 with e|e
   ·show(stAt (o6 w1.map (nth .srv w1.servers x.dest.toNat) w1.stores w1.table x).stores k).recs = []∧_
    rw[e,st1,m1]
    exact hr
   ·have hlen:=(D0.1 (n0.1 h.ok).2.1).2.1
    have hcl:x.cell.toNat<w1.stores.length:=by
     have ha:=E9 (n0.1 h.ok).1
     have:=hgr.2.1
     rw[st1,xc]
     omega
    show(stAt (o6 w1.map (nth .srv w1.servers x.dest.toNat) w1.stores w1.table x).stores k).recs = []∧(stAt (o6 w1.map (nth .srv w1.servers x.dest.toNat) w1.stores w1.table x).stores k).base=_
    rw[e,L8 hcl]
    by_cases hkk:k.toNat=x.cell.toNat
    ·rw[if_pos hkk]
     have:nth .sto w1.stores x.cell.toNat=stAt w.stores k:=by unfold stAt;rw[st1,hkk]
     simp only
     rw[this,m1]
     exact hr
    ·rw[if_neg hkk,st1,m1]
     exact hr
  ·have hi':i<w.servers.length:=by rw[s1]at hi;simpa using hi
   have hdn:x.dest.toNat<w1.servers.length:=by rw[s1,xd];omega
   show(nth .srv (w1.servers.set x.dest.toNat _) i).n9 = []
   rw[a1i hdn]
   split
   ·rw[hh.2.1,s1]
    exact h.n9 _ (by rw[←s1];exact hdn)
   ·rw[s1];exact h.n9 i hi'
 ·have e2:b9 w ⟨1,c,0,d,0⟩=w:=by
   rw[e1]
   unfold v5
   rw[if_pos rfl]
   simp only
   rw[if_neg hg]
  rw[e2]at ok2 f2 ⊢
  have e3:b9 w ⟨4,0,0,0,0⟩=w:=by
   have hp : ¬((0:Int)≤0∧(0:Int)<(w.net.length:Int)):=by rw[h.net];decide
   simp only[b9,h.ok,if_true]
   unfold v5
   rw[if_neg (by decide),if_neg (by decide),if_neg (by decide),if_pos (by decide),if_neg hp]
  rw[e3]
  exact h
theorem b8T {l:List OW} (h:a0f l):(l.map oid).Nodup:=by
 refine List.pairwise_map.2 (h.imp ?_)
 intro a b hab he
 simp only[oid]at he
 omega
theorem d0e {a b:List OW} (ha:a0f a) (hb:a0f b) (hp:a.Perm b):a=b :=
 List.Perm.eq_of_pairwise (le:=fun(a b:OW)=>a.wlk.id<b.wlk.id) (fun(a b:OW) _ _ (h1:a.wlk.id<b.wlk.id) (h2:b.wlk.id<a.wlk.id)=>absurd h1 (by omega)) ha hb hp
theorem b7S {T l:List OW} (hT:a0f T) (hp:T.Perm l):m9 l=T:=by
 refine d0e (M6 ?_) hT ((D1 l).trans hp.symm)
 exact((hp.map oid).nodup_iff).1 (b8T hT)
theorem a9x {a b:List OW} (hn:(a.map oid).Nodup) (hp:a.Perm b):m9 a=m9 b :=
 (b7S (M6 hn) ((D1 a).trans hp)).symm
theorem c9y {α : Type} {l:List α} {k:Nat} (h:k<l.length):l=l.take k++l[k]::l.drop (k+1):=by
 rw[←List.drop_eq_getElem_cons h,List.take_append_drop]
theorem a7k {α : Type} {l:List α} {k:Nat} (h:k<l.length):l.Perm (l[k]::(l.take k++l.drop (k+1))):=by
 conv=>lhs;rw[c9y h]
 exact List.perm_middle
theorem c3z {α : Type} {l:List α} {k:Nat} {y : α} (h:k<l.length):(l.set k y).Perm (y::(l.take k++l.drop (k+1))):=by
 rw[List.set_eq_take_append_cons_drop,if_pos h]
 exact List.perm_middle
theorem set_perm {α : Type} {l r:List α} {k:Nat} {x y : α} (h:k<l.length) (hx:l[k]=x) (hp:l.Perm (x::r)):(l.set k y).Perm (y::r):=by
 refine(c3z h).trans (List.Perm.cons y ?_)
 have:=(a7k h).symm.trans hp
 rw[hx]at this
 exact this.cons_inv
theorem c6G {l:List OW} {k:Nat} {y:OW} (h:a0f l) (hk:k<l.length) (hy:y.wlk.id=l[k].wlk.id):a0f (l.set k y):=by
 unfold a0f at *
 rw[List.pairwise_iff_getElem]at *
 intro i j hi hj hij
 simp only[List.length_set]at hi hj
 have:=h i j hi hj hij
 rw[List.getElem_set,List.getElem_set]
 split<;>split<;>rename_i e1 e2<;>(try subst e1)<;>(try subst e2)<;>(try omega)
 all_goals first|(rw[hy];exact this)|exact this
theorem a1t {l:List OW} (h:a0f l) {x:OW} (hx:x∈l):0≤m6 l x.wlk.id∧(m6 l x.wlk.id).toNat<l.length∧nth .ow l (m6 l x.wlk.id).toNat=x:=by
 have hlt:=a7o l x.wlk.id
 have h0:0≤m6 l x.wlk.id:=by
  rcases F3 (isOw x.wlk.id) l with ⟨_,h2⟩|⟨k,hk,h1,_,_⟩
  ·have:=h2 x hx
   simp[isOw]at this
  ·unfold m6;rw[h1];omega
 have hid:=b4m h0
 have hl:(m6 l x.wlk.id).toNat<l.length:=by omega
 refine⟨h0,hl,?_⟩
 have hm:nth .ow l (m6 l x.wlk.id).toNat∈l:=s4 .ow hl
 generalize nth .ow l (m6 l x.wlk.id).toNat=y at *
 unfold a0f at h
 clear hl h0 hlt
 induction l with
 |nil=>cases hx
 |cons z l ih =>
  obtain⟨hz,hl⟩:=List.pairwise_cons.1 h
  rcases List.mem_cons.1 hx with rfl|gx<;>rcases List.mem_cons.1 hm with gy|gy
  ·exact gy
  ·have:=hz y gy;omega
  ·subst gy;have:=hz x gx;omega
  ·exact ih hl gx gy
theorem c1e (t:RT) (f:t.ty→Int) {l:List t.ty} {i:Nat} (h:i<l.length):sumL f l=sumL f (l.take i)+f (nth t l i)+sumL f (l.drop (i+1)):=by
 have h1:l=l.take i++([nth t l i]++l.drop (i+1)):=by
  rw[l6 t l i h,List.singleton_append,List.getElem_cons_drop,List.take_append_drop]
 conv=>lhs;rw[h1]
 rw[X9,X9,a1z]
 omega
theorem a0L (t:RT) (f:t.ty→Int) {l:List t.ty} {i:Nat} {x:t.ty} (h:i<l.length):sumL f (l.set i x)=sumL f l-f (nth t l i)+f x:=by
 rw[c1e t f h,List.set_eq_take_append_cons_drop,if_pos h,←List.singleton_append,X9,X9,a1z]
 omega
theorem d0d {l:List Wlk} {id:Int} (h:k8 l id<0):E2 l id=l:=by
 unfold E2
 rw[List.filter_eq_self]
 intro x hx
 rcases F3 (isId id) l with ⟨_,h2⟩|⟨k,hk,h1,_⟩
 ·have:=h2 x hx
  simpa [isId]using this
 ·unfold k8 at h
  rw[h1]at h
  omega
theorem b2n : ∀ {l:List Pcl} {p:Pcl} {i:Int},l.Pairwise (fun a b=>a.n<b.n)→p∈l→p.n=i→A1 l i=p::A1 l (i+1)
 |[],p,i,_,h,_=>by cases h
 |q::l,p,i,hs,h,hi=>by
  obtain⟨hq,hl⟩:=List.pairwise_cons.1 hs
  rcases List.mem_cons.1 h with rfl|hm
  ·have e1:A1 (p::l) i=p::A1 l i:=by simp[A1,hi]
   have e2:A1 (p::l) (i+1)=A1 l (i+1):=by
    unfold A1
    rw[List.filter_cons_of_neg]
    simp only[decide_eq_true_eq]
    omega
   rw[e1,e2]
   congr 1
   unfold A1
   refine List.filter_congr fun x hx => ?_
   have:=hq x hx
   simp only[decide_eq_decide]
   omega
  ·have:=hq p hm
   have e1 : ∀j,i≤j→A1 (q::l) j=A1 l j:=fun j hj=>by
    unfold A1
    rw[List.filter_cons_of_neg]
    simp only[decide_eq_true_eq]
    omega
   rw[e1 i (Int.le_refl i),e1 (i+1) (by omega)]
   exact b2n hl hm hi
theorem c8e {l:List Pcl} {a b:Int} (h:a≤b):A1 (A1 l a) b=A1 l b:=by
 unfold A1
 rw[List.filter_filter]
 refine List.filter_congr fun x _ => ?_
 rw[Bool.eq_iff_iff]
 simp only[Bool.and_eq_true,decide_eq_true_eq]
 omega
theorem d1V {l:List Pcl} {p:Pcl} {i:Int} (h:i≤p.n):A1 (l ++ [p]) i=A1 l i ++ [p]:=by
 unfold A1
 rw[List.filter_append]
 simp[h]
theorem d0b {m:PMap} {l:List Pcl} {n:Int} (h:u6 m l n=true):l.Pairwise (fun a b=>a.n<b.n):=by
 rw[List.pairwise_iff_getElem]
 intro i j hi hj hij
 have h1:=b6e h hi
 have h2:=b6e h hj
 rw[l6 .pcl l i hi]at h1
 rw[l6 .pcl l j hj]at h2
 omega
section
variable {m:PMap} {st st':List Sto} {d:Int} {r:Rec}
theorem a3w {c s:Int} (h:b7 m c s ≠ -1):0≤c∧0≤b7 m c s:=⟨(D8 h).1,(D8 h).2.2.1⟩
theorem c5f (h:Wr m st st' d r) (ho:(cX m st' d).outs=(cX m st d).outs) (hi:(cX m st' d).ins=(cX m st d).ins) (c s:Int):fl m st' c s=fl m st c s:=by
 unfold fl
 split
 ·rfl
 ·rename_i hs
  have hn:=a3w hs
  have e1:ouX m st' c s=ouX m st c s:=by
   unfold ouX
   by_cases hc:c=d
   ·subst hc;rw[ho]
   ·rw[h.far hn.1 hc]
  have e2:inX m st' (b7 m c s) (1-s)=inX m st (b7 m c s) (1-s):=by
   unfold inX
   by_cases hc:b7 m c s=d
   ·rw[hc,hi]
   ·rw[h.far hn.2 hc]
  rw[e1,e2]
theorem c5d (h:Wr m st st' d r) {e:Int} {q:Pcl} (he:b7 m d e ≠ -1) (hl:(cX m st d).outs.length=2) (ho:(cX m st' d).outs=D5 (cX m st d) e.toNat q) (hi:(cX m st' d).ins=(cX m st d).ins)
  (hq:inX m st (b7 m d e) (1-e)≤nxX m st d e):(∀c s,¬(c=d∧s=e)→fl m st' c s=fl m st c s)∧fl m st' d e=fl m st d e ++ [⟨nxX m st d e,q.kind,q.wlk,q.j9⟩]:=by
 have h2:=K3 he
 have ins : ∀c s,b7 m c s ≠ -1→inX m st' (b7 m c s) (1-s)=inX m st (b7 m c s) (1-s):=fun c s hs=>by
  unfold inX
  by_cases hc:b7 m c s=d
  ·rw[hc,hi]
  ·rw[h.far (a3w hs).2 hc]
 constructor
 ·intro c s hne
  unfold fl
  split
  ·rfl
  ·rename_i hs
   rw[ins c s hs]
   have e1:ouX m st' c s=ouX m st c s:=by
    unfold ouX
    by_cases hc:c=d
    ·subst hc
     rw[ho]
     unfold D5
     have h3:=K3 hs
     exact n6 .pcls (by omega)
    ·rw[h.far (a3w hs).1 hc]
   rw[e1]
 ·unfold fl
  rw[if_neg he,if_neg he,ins d e he]
  have e1:ouX m st' d e=ouX m st d e ++ [⟨nxX m st d e,q.kind,q.wlk,q.j9⟩]:=by
   unfold ouX
   rw[ho]
   unfold D5
   exact l9 .pcls (by omega)
  rw[e1]
  exact d1V hq
theorem d5M (h:Wr m st st' d r) (hk:r.kind=2) (hok : ∀c,0≤c→c<m.cells→s6 m (cX m st c)=true) (hs:Sent m st (b7 m d r.side) (1-r.side) r.pcl) :
  b7 m d r.side ≠ -1∧(∀c s,¬(c=b7 m d r.side∧s=1-r.side)→fl m st' c s=fl m st c s)∧fl m st (b7 m d r.side) (1-r.side)=r.pcl::fl m st' (b7 m d r.side) (1-r.side):=by
 have hf:=h.fits
 obtain⟨hsd,hr,he⟩:=a0c hk hf
 rw[h.cok.2]at hsd
 obtain⟨r1,r2,r3,r4⟩:=R9 hr
 have hb:=z6 hsd
 have h2:=K3 hsd
 have hin:=D8 hsd
 have hself:cX m st' d=(y6 m (cX m st d) r.side.toNat r.pcl).c:=by rw[h.self,he]
 have hins:(cX m st d).ins.length=2:=(n5 h.cok.1).2.2.2.2.2.2.2.2
 have hx:b7 m (b7 m d r.side) (1-r.side)=d:=by have:=hb;grind
 have hne:b7 m d r.side≠d:=by have:=b7V hsd;intro e;rw[e]at this;exact this rfl
 have outs : ∀c s,0≤c→ouX m st' c s=ouX m st c s:=fun c s h0=>by
  unfold ouX
  by_cases hc:c=d
  ·subst hc;rw[hself,r1]
  ·rw[h.far h0 hc]
 have hn:inX m st d r.side=r.pcl.n:=r4.symm
 have hmem:r.pcl∈ouX m st (b7 m d r.side) (1-r.side):=by
  rcases hs with hs|hs
  ·rw[hx,show 1-(1-r.side)=r.side by omega,hn]at hs
   omega
  ·exact hs
 refine⟨hsd,fun c s hne2 => ?_,?_⟩
 ·unfold fl
  split
  ·rfl
  ·rename_i hcs
   rw[outs c s (a3w hcs).1]
   have e2:inX m st' (b7 m c s) (1-s)=inX m st (b7 m c s) (1-s):=by
    unfold inX
    by_cases hc:b7 m c s=d
    ·rw[hc,hself,r3]
     unfold E7
     have h3:=K3 hcs
     refine n6 .int (fun e=>hne2 ?_)
     have hss:1-s=r.side:=by omega
     have hb2:=z6 hcs
     constructor
     ·rw[←hss,←hc]
      grind
     ·omega
    ·rw[h.far (a3w hcs).2 hc]
   rw[e2]
 ·have hxe:b7 m (b7 m d r.side) (1-r.side) ≠ -1:=by rw[hx];have:=h.zero;omega
  unfold fl
  rw[if_neg hxe,if_neg hxe,hx,show 1-(1-r.side)=r.side by omega,outs _ _ hin.2.2.1]
  have e1:inX m st' d r.side=inX m st d r.side+1:=by
   unfold inX
   rw[hself,r3]
   unfold E7
   exact l9 .int (by omega)
  rw[e1]
  refine b2n (d0b (b0t (hok _ hin.2.2.1 hin.2.2.2) (s:=(1-r.side).toNat) h2.2.1)) hmem hn.symm
theorem d6S (h:Wr m st st' d r) (hk:r.kind=3) (hack:r.n≤inX m st (b7 m d r.side) (1-r.side)) (c s:Int):fl m st' c s=fl m st c s:=by
 have hf:=h.fits
 obtain⟨hsd,hr,he⟩:=a0z hk hf
 rw[h.cok.2]at hsd
 obtain⟨r1,r2,r3,r4,r5⟩:=a0m hr
 have h2:=K3 hsd
 have hl:(cX m st d).outs.length=2:=(n5 h.cok.1).2.2.2.2.2.2.1
 have hself:cX m st' d=(G9 (cX m st d) r.side.toNat r.n).c:=by rw[h.self,he]
 unfold fl
 split
 ·rfl
 ·rename_i hcs
  have e2:inX m st' (b7 m c s) (1-s)=inX m st (b7 m c s) (1-s):=by
   unfold inX
   by_cases hc:b7 m c s=d
   ·rw[hc,hself,r3]
   ·rw[h.far (a3w hcs).2 hc]
  rw[e2]
  by_cases hc:c=d
  ·subst hc
   unfold ouX
   rw[hself,r1]
   unfold R3
   have h3:=K3 hcs
   by_cases hss:s=r.side
   ·subst hss
    rw[l9 .pcls (by omega)]
    exact c8e hack
   ·rw[n6 .pcls (by omega)]
  ·unfold ouX
   rw[h.far (a3w hcs).1 hc]
end
end Go.Mo
namespace Go.Mo
open Go.Sx
theorem b6Y {ι α : Type} [BEq ι] [LawfulBEq ι] {L:List ι} (hn:L.Nodup) {d : ι} (hd:d∈L) {f f' : ι → List α} (he : ∀c∈L,c≠d→f' c=f c) : ∃R,(L.flatMap f).Perm (f d++R)∧(L.flatMap f').Perm (f' d++R):=by
 have hp:=List.perm_cons_erase hd
 have hc:(L.erase d).flatMap f'=(L.erase d).flatMap f:=by
  rw[List.flatMap_def,List.flatMap_def]
  congr 1
  refine List.map_congr_left fun c hc => ?_
  have:=(List.Nodup.mem_erase_iff hn).1 hc
  exact he c this.2 this.1
 refine⟨(L.erase d).flatMap f,?_,?_⟩
 ·have:=hp.flatMap_right f
  rwa [List.flatMap_cons]at this
 ·have:=hp.flatMap_right f'
  rwa [List.flatMap_cons,hc]at this
theorem d5t {α : Type} (p q r s:List α):((p++q)++(r++s)).Perm ((p++r)++(q++s)):=by
 rw[List.append_assoc,List.append_assoc]
 exact(List.perm_append_comm_assoc q r s).append_left p
theorem c8w {m:PMap} (h:s0 m=true):m.cells.toNat=2∨m.cells.toNat=3∨m.cells.toNat=4:=by
 have:=o8.1 h
 omega
theorem c0u {m:PMap} (h:s0 m=true):(a3S m).Nodup:=by
 unfold a3S N2
 rcases c8w h with e|e|e<;>rw[e]<;>decide
theorem c8n {m:PMap} {c s:Nat} (hc:c<m.cells.toNat) (hs:s<2):(c,s)∈a3S m:=by
 unfold a3S N2
 refine List.mem_flatMap.2 ⟨c,List.mem_range.2 hc,?_⟩
 have:s=0∨s=1:=by omega
 rcases this with rfl|rfl<;>simp
section
variable {m:PMap} {st st':List Sto} {d:Int} {r:Rec}
theorem a4U (hp:s0 m=true) (h:Wr m st st' d r) (hd:d<m.cells) {e1 e2:Int} (he:b7 m e1 e2 ≠ -1) (hfl : ∀c s,¬(c=e1∧s=e2)→fl m st' c s=fl m st c s)
  {X X' R1 Y Y' R2:List OW} (h1:(E1 (cX m st d).wlks).Perm (X++R1)) (h2:(E1 (cX m st' d).wlks).Perm (X'++R1)) (h3:(flyO (fl m st e1 e2)).Perm (Y++R2)) (h4:(flyO (fl m st' e1 e2)).Perm (Y'++R2)) :
  ∃T,(allO m st).Perm ((X++Y)++T)∧(allO m st').Perm ((X'++Y')++T):=by
 have h0:=h.zero
 have hE:=z6 he
 have hdn:((d.toNat:Nat):Int)=d:=by omega
 have hdc:d.toNat∈N2 m:=List.mem_range.2 (by omega)
 obtain⟨Ra,a1,a2⟩:=b6Y (L:=N2 m) List.nodup_range hdc (f:=fun(c:Nat)=>E1 (cX m st (c:Int)).wlks) (f':=fun(c:Nat)=>E1 (cX m st' (c:Int)).wlks) (fun c hc hne=>by
  show E1 (cX m st' (c:Int)).wlks=E1 (cX m st (c:Int)).wlks
  rw[h.far (by omega) (by omega)])
 have hn1:((e1.toNat:Nat):Int)=e1:=by omega
 have hn2:((e2.toNat:Nat):Int)=e2:=by omega
 have hec:(e1.toNat,e2.toNat)∈a3S m:=c8n (by omega) (by omega)
 obtain⟨Rb,b1,b2⟩:=b6Y (L:=a3S m) (c0u hp) hec (f:=fun(e:Nat×Nat)=>flyO (fl m st (e.1:Int) (e.2:Int))) (f':=fun(e:Nat×Nat)=>flyO (fl m st' (e.1:Int) (e.2:Int))) (fun c hc hne=>by
  show flyO (fl m st' (c.1:Int) (c.2:Int))=flyO (fl m st (c.1:Int) (c.2:Int))
  rw[hfl _ _ (fun hq=>hne (Prod.ext (by simp only;omega) (by simp only;omega)))])
 simp only[hdn,hn1,hn2]at a1 a2 b1 b2
 refine⟨(R1++Ra)++(R2++Rb),?_,?_⟩
 ·refine(a1.append b1).trans ?_
  refine((h1.append_right Ra).append (h3.append_right Rb)).trans ?_
  rw[List.append_assoc X R1 Ra,List.append_assoc Y R2 Rb]
  exact d5t _ _ _ _
 ·refine(a2.append b2).trans ?_
  refine((h2.append_right Ra).append (h4.append_right Rb)).trans ?_
  rw[List.append_assoc X' R1 Ra,List.append_assoc Y' R2 Rb]
  exact d5t _ _ _ _
theorem c6q (hp:s0 m=true) (h0:0≤d) (hd:d<m.cells) : ∃s,b7 m d s ≠ -1:=by
 have hm:=o8.1 hp
 by_cases h1:d=0
 ·refine⟨1,?_⟩
  unfold b7
  grind
 ·refine⟨0,?_⟩
  unfold b7
  grind
theorem a9k (hp:s0 m=true) (h:Wr m st st' d r) (hd:d<m.cells) (hfl : ∀c s,fl m st' c s=fl m st c s) {X X' R1:List OW} (h1:(E1 (cX m st d).wlks).Perm (X++R1)) (h2:(E1 (cX m st' d).wlks).Perm (X'++R1)) :
  ∃T,(allO m st).Perm (X++T)∧(allO m st').Perm (X'++T):=by
 obtain⟨s,hs⟩:=c6q hp h.zero hd
 obtain⟨T,t1,t2⟩:=a4U hp h hd hs (fun c s _=>hfl c s) (Y := []) (Y' := []) (R2:=flyO (fl m st d s)) h1 h2 (List.Perm.refl _) (by rw[hfl];exact List.Perm.refl _)
 rw[List.append_nil]at t1 t2
 exact⟨T,t1,t2⟩
end
theorem a2S {a b T:List OW} {x y:OW} (hn:(a.map oid).Nodup) (ha:a.Perm (x::T)) (hb:b.Perm (y::T)) (hid:y.wlk.id=x.wlk.id) :
  0≤m6 (m9 a) x.wlk.id∧(m6 (m9 a) x.wlk.id).toNat<(m9 a).length∧nth .ow (m9 a) (m6 (m9 a) x.wlk.id).toNat=x∧m9 b=(m9 a).set (m6 (m9 a) x.wlk.id).toNat y:=by
 have hs:=M6 hn
 have hp:=D1 a
 have hx:x∈m9 a:=(hp.trans ha).mem_iff.2 List.mem_cons_self
 obtain⟨p1,p2,p3⟩:=a1t hs hx
 refine⟨p1,p2,p3,?_⟩
 have hk:(m9 a)[(m6 (m9 a) x.wlk.id).toNat]=x:=(l6 .ow _ _ p2).symm.trans p3
 exact b7S (c6G hs p2 (by rw[hk,hid])) ((set_perm p2 hk (hp.trans ha)).trans hb.symm)
theorem c6p {a b T:List OW} {x x2 y y2:OW} (hn:(a.map oid).Nodup) (ha:a.Perm (x::x2::T)) (hb:b.Perm (y::y2::T)) (hid:y.wlk.id=x.wlk.id) (hid2:y2.wlk.id=x2.wlk.id) :
  0≤m6 (m9 a) x.wlk.id∧(m6 (m9 a) x.wlk.id).toNat<(m9 a).length∧nth .ow (m9 a) (m6 (m9 a) x.wlk.id).toNat=x ∧
  0≤m6 (m9 a) x2.wlk.id∧(m6 (m9 a) x2.wlk.id).toNat<(m9 a).length∧nth .ow (m9 a) (m6 (m9 a) x2.wlk.id).toNat=x2 ∧
  m9 b=((m9 a).set (m6 (m9 a) x.wlk.id).toNat y).set (m6 (m9 a) x2.wlk.id).toNat y2:=by
 have hc:(y::x2::T).Perm (x2::y::T):=List.Perm.swap _ _ _
 have h1:=a2S hn ha (List.Perm.refl (y::x2::T)) hid
 have hn2:((y::x2::T).map oid).Nodup:=by
  have:=((ha.map oid).nodup_iff).1 hn
  simp only[List.map_cons,oid,hid]at this ⊢
  exact this
 have h2:=a2S hn2 hc (hb.trans (List.Perm.swap _ _ _)) hid2
 obtain⟨p1,p2,p3,p4⟩:=h1
 obtain⟨q1,q2,q3,q4⟩:=h2
 have hx2:x2∈m9 a:=((D1 a).trans ha).mem_iff.2 (List.mem_cons_of_mem _ List.mem_cons_self)
 obtain⟨g1,g2,g3⟩:=a1t (M6 hn) hx2
 have he:m6 (m9 (y::x2::T)) x2.wlk.id=m6 (m9 a) x2.wlk.id:=by
  rw[p4]
  refine b4D (a7K _ fun z hz => ?_)
  have:nth .ow (m9 a) (m6 (m9 a) x.wlk.id).toNat=z:=by
   unfold nth List.getD
   rw[hz]
   rfl
  rw[p3]at this
  rw[←this]
  simp[isOw,hid]
 rw[he,p4]at q4
 exact⟨p1,p2,p3,g1,g2,g3,q4⟩
theorem b4c {α : Type} {n d:Nat} (hd:d<n) {f f':Nat → α} (he : ∀c,c≠d→f' c=f c):(List.range n).map f'=((List.range n).map f).set d (f' d):=by
 apply List.ext_getElem (by simp)
 intro i h1 h2
 rw[List.getElem_set]
 simp only[List.getElem_map,List.getElem_range]
 split
 ·rename_i e;rw[e]
 ·rename_i e;exact he i (fun q=>e q.symm)
end Go.Mo
namespace Go.Mo
open Go.Sx
section
variable {m:PMap} {st st':List Sto} {d:Int} {r:Rec}
theorem a4B {c s:Int} (h0:0≤c) (h1:c<m.cells) (hs:s=0∨s=1) : @Eq Int (nth .int (nth .ints (m7 m st).air c.toNat) s.toNat) (airN m st c s):=by
 rw[b0k h0 h1]
 rcases hs with rfl|rfl<;>rfl
theorem a6x (h:Wr m st st' d r) (hd:d<m.cells):(m7 m st').ground=(m7 m st).ground.set d.toNat (cX m st' d).ground:=by
 show(List.range m.cells.toNat).map (fun(c:Nat)=>(cX m st' (c:Int)).ground)=((List.range m.cells.toNat).map fun(c:Nat)=>(cX m st (c:Int)).ground).set d.toNat _
 have h0:=h.zero
 have:=b4c (n:=m.cells.toNat) (d:=d.toNat) (by omega) (f:=fun(c:Nat)=>(cX m st (c:Int)).ground) (f':=fun(c:Nat)=>(cX m st' (c:Int)).ground) (fun c hc=>by
  show(cX m st' (c:Int)).ground=(cX m st (c:Int)).ground
  rw[h.far (by omega) (by omega)])
 rw[this,c2X h0]
theorem a0U (h:Wr m st st' d r) (hd:d<m.cells) (hg:(cX m st' d).ground=(cX m st d).ground):(m7 m st').ground=(m7 m st).ground:=by
 rw[a6x h hd,hg]
 have h0:=h.zero
 apply List.ext_getElem (by simp)
 intro i h1 h2
 rw[List.getElem_set]
 split
 ·rename_i e
  subst e
  have:=a1H (m:=m) (st:=st) h0 hd
  rw[l6 .int _ _ h2]at this
  exact this.symm
 ·rfl
theorem b2T (hf : ∀c s,sumC (fl m st' c s)=sumC (fl m st c s)):(m7 m st').air=(m7 m st).air:=by
 show(N2 m).map (fun(c:Nat) => [airN m st' (c:Int) 0,airN m st' (c:Int) 1])=(N2 m).map (fun(c:Nat) => [airN m st (c:Int) 0,airN m st (c:Int) 1])
 have : ∀c s,airN m st' c s=airN m st c s:=fun c s=>by unfold airN;rw[hf]
 refine List.map_congr_left fun c _ => ?_
 rw[this,this]
theorem a8j {e1 e2 n:Int} (he:b7 m e1 e2 ≠ -1) (hs:sumC (fl m st' e1 e2)=sumC (fl m st e1 e2)+n) (hf : ∀c s,¬(c=e1∧s=e2)→fl m st' c s=fl m st c s) :
  (m7 m st').air=a3V (m7 m st).air (b7 m e1 e2) (1-e2) n:=by
 have hb:=z6 he
 have h2:=K3 he
 have hd:(b7 m e1 e2).toNat<m.cells.toNat:=by omega
 have hback:b7 m (b7 m e1 e2) (1-e2)=e1:=hb.2.2.2.2.2.2.1
 have hself:airN m st' (b7 m e1 e2) (1-e2)=airN m st (b7 m e1 e2) (1-e2)+n:=by
  unfold airN
  rw[hback,if_neg (by omega),if_neg (by omega),show 1-(1-e2)=e2 by omega,hs]
 have hoff : ∀c s,(s=0∨s=1) → ¬(c=b7 m e1 e2∧s=1-e2)→airN m st' c s=airN m st c s:=fun c s hss hne=>by
  unfold airN
  split
  ·rfl
  ·rename_i hcs
   have hb2:=z6 hcs
   rw[hf _ _ (fun hq=>hne ?_)]
   obtain⟨q1,q2⟩:=hq
   have:s=1-e2:=by omega
   refine⟨?_,this⟩
   have h7:=hb2.2.2.2.2.2.2.1
   rw[q1,q2]at h7
   exact h7.symm
 unfold a3V
 rw[a4B hb.2.2.2.2.1 hb.2.2.2.2.2.1 (by omega),b0k hb.2.2.2.2.1 hb.2.2.2.2.2.1]
 show(List.range m.cells.toNat).map (fun(c:Nat) => [airN m st' (c:Int) 0,airN m st' (c:Int) 1])=((List.range m.cells.toNat).map fun(c:Nat) => [airN m st (c:Int) 0,airN m st (c:Int) 1]).set _ _
 rw[b4c hd (f:=fun(c:Nat) => [airN m st (c:Int) 0,airN m st (c:Int) 1]) (f':=fun(c:Nat) => [airN m st' (c:Int) 0,airN m st' (c:Int) 1]) (fun c hc=>by
  show[airN m st' (c:Int) 0,airN m st' (c:Int) 1] = [airN m st (c:Int) 0,airN m st (c:Int) 1]
  rw[hoff _ 0 (.inl rfl) (fun q=>hc (by omega)),hoff _ 1 (.inr rfl) (fun q=>hc (by omega))])]
 congr 1
 show[airN m st' ((b7 m e1 e2).toNat:Int) 0,airN m st' ((b7 m e1 e2).toNat:Int) 1]=_
 rw[show(((b7 m e1 e2).toNat:Nat):Int)=b7 m e1 e2 by omega]
 have:e2=0∨e2=1:=by omega
 rcases this with rfl|rfl
 ·rw[hoff _ 0 (.inl rfl) (fun q=>by omega),show(1:Int)=1-0 by rfl,hself]
  rfl
 ·rw[hoff _ 1 (.inr rfl) (fun q=>by omega)]
  have:=hself
  rw[show(1:Int)-1=0 by rfl]at this
  rw[this]
  rfl
theorem c0H {c s:Int} (h0:0≤c) (h1:c<m.cells) (hs:s=0∨s=1):a3V (m7 m st).air c s 0=(m7 m st).air:=by
 unfold a3V
 rw[a4B h0 h1 hs,Int.add_zero]
 apply List.ext_getElem (by simp)
 intro i g1 g2
 rw[List.getElem_set]
 split
 ·rename_i e
  subst e
  have:=b0k (m:=m) (st:=st) h0 h1
  rw[l6 .ints _ _ g2]at this
  rw[l6 .ints _ _ g2,this]
  rcases hs with rfl|rfl<;>rfl
 ·rfl
end
end Go.Mo
namespace Go.Mo
open Go.Sx
theorem a3C {m:PMap} {st:List Sto} {w:List OW} {g:List Int} {a:List (List Int)} (h1:m9 (allO m st)=w) (h2:(m7 m st).ground=g) (h3:(m7 m st).air=a):m7 m st=⟨m,w,g,a⟩:=by
 rw[←h1,←h2,←h3]
 rfl
theorem b0p {a b T:List OW} {x y:OW} (ha:a.Perm (x::T)) (hb:b.Perm (y::T)) (hid:y.wlk.id=x.wlk.id):(b.map oid).Perm (a.map oid):=by
 refine(hb.map oid).trans (List.Perm.trans ?_ (ha.map oid).symm)
 simp only[List.map_cons,oid,hid]
 exact List.Perm.refl _
theorem a7S {l:List Wlk} {i:Nat} {w':Wlk} (hi:i<l.length) : ∃R,(E1 l).Perm ([⟨nth .wlk l i,true⟩]++R)∧(E1 (l.set i w')).Perm ([⟨w',true⟩]++R):=by
 refine⟨E1 (l.take i++l.drop (i+1)),?_,?_⟩
 ·have:=(a7k hi).map fun w=>(⟨w,true⟩:OW)
  rw[l6 .wlk l i hi]
  exact this
 ·exact(c3z (y:=w') hi).map fun w=>(⟨w,true⟩:OW)
theorem d1L {l:List Wlk} {i:Nat} {w:Wlk} (hs:srt l) (hi:i<l.length) (hw:w.id=(nth .wlk l i).id) : ∃R,(E1 l).Perm ([⟨nth .wlk l i,true⟩]++R)∧(E1 (E2 (l.set i w) w.id)).Perm ([]++R):=by
 refine⟨E1 (l.take i++l.drop (i+1)),?_,?_⟩
 ·have:=(a7k hi).map fun w=>(⟨w,true⟩:OW)
  rw[l6 .wlk l i hi]
  exact this
 ·have h1:=a8c (i:=i) (b0f hs hw) (by simpa using hi)
  rw[l9 .wlk hi]at h1
  rw[h1,List.take_set_of_le (Nat.le_refl i),List.drop_set_of_lt (by omega)]
  exact List.Perm.refl _
theorem d1J {l:List Wlk} {i j:Nat} {a b:Wlk} (hi:i<l.length) (hj:j<l.length) (hne:i≠j) : ∃R,(E1 l).Perm ([⟨nth .wlk l i,true⟩,⟨nth .wlk l j,true⟩]++R)∧(E1 ((l.set j b).set i a)).Perm ([⟨a,true⟩,⟨b,true⟩]++R):=by
 obtain⟨R1,p1,p2⟩:=a7S (w':=a) hi
 have hj2:j<(l.set i a).length:=by simpa using hj
 obtain⟨R2,q1,q2⟩:=a7S (l:=l.set i a) (w':=b) hj2
 rw[n6 .wlk hne]at q1
 have hx:([(⟨a,true⟩:OW)]++R1).Perm ([(⟨nth .wlk l j,true⟩:OW)]++R2):=p2.symm.trans q1
 have hset:(l.set j b).set i a=(l.set i a).set j b:=List.set_comm _ _ (fun e=>hne e.symm)
 rw[hset]
 by_cases hm:(⟨nth .wlk l j,true⟩:OW)=⟨a,true⟩
 ·
  rw[hm]at hx
  have h1:R1.Perm R2:=hx.cons_inv
  have hmem:(⟨nth .wlk l j,true⟩:OW)∈R1:=by
   have:nth .wlk l j∈l.take i++l.drop (i+1):=by
    rw[l6 .wlk l j hj]
    by_cases hlt:j<i
    ·refine List.mem_append_left _ ?_
     have:(l.take i)[j]'(by simp;omega)=l[j]:=by simp
     rw[←this]
     exact List.getElem_mem _
    ·refine List.mem_append_right _ ?_
     have:(l.drop (i+1))[j-(i+1)]'(by simp;omega)=l[j]:=by simp;congr 1;omega
     rw[←this]
     exact List.getElem_mem _
   have hR:([(⟨nth .wlk l i,true⟩:OW)]++R1).Perm ([(⟨nth .wlk l i,true⟩:OW)]++E1 (l.take i++l.drop (i+1))):=p1.symm.trans (by
    have:=(a7k hi).map fun w=>(⟨w,true⟩:OW)
    rw[l6 .wlk l i hi]
    exact this)
   exact(List.Perm.cons_inv hR).mem_iff.2 (List.mem_map.2 ⟨_,this,rfl⟩)
  obtain⟨s,t,e⟩:=List.append_of_mem hmem
  refine⟨s++t,p1.trans ?_,q2.trans ?_⟩
  ·rw[e]
   exact(List.perm_middle).cons _
  ·have h2:R2.Perm (⟨nth .wlk l j,true⟩::(s++t)):=h1.symm.trans (by rw[e];exact List.perm_middle)
   rw[hm]at h2
   exact(h2.cons _).trans (List.Perm.swap _ _ _)
 ·have hmem:(⟨a,true⟩:OW)∈R2:=by
   have:=hx.mem_iff.1 List.mem_cons_self
   rcases List.mem_cons.1 this with h|h
   ·exact absurd h.symm hm
   ·exact h
  obtain⟨s,t,e⟩:=List.append_of_mem hmem
  have h3:([(⟨nth .wlk l j,true⟩:OW)]++R2).Perm ((⟨a,true⟩:OW)::(⟨nth .wlk l j,true⟩:OW)::(s++t)):=by
   rw[e]
   exact((List.perm_middle).cons _).trans (List.Perm.swap _ _ _)
  have h4:R1.Perm (⟨nth .wlk l j,true⟩::(s++t)):=(hx.trans h3).cons_inv
  refine⟨s++t,p1.trans (h4.cons _),q2.trans ?_⟩
  rw[e]
  exact((List.perm_middle).cons _).trans (List.Perm.swap _ _ _)
section
variable {m:PMap} {st st':List Sto} {d:Int} {r:Rec}
theorem a7s (hI:OneInv m st) (h:Wr m st st' d r) (hd:d<m.cells) {i:Nat} {w':Wlk} {g:Int} (hi:i<(cX m st d).wlks.length) (hid:w'.id=(nth .wlk (cX m st d).wlks i).id)
  (hc:cX m st' d=⟨(cX m st d).cell,(cX m st d).wlks.set i w',g,(cX m st d).outs,(cX m st d).next,(cX m st d).ins⟩) :
  m7 m st'=⟨m,(m7 m st).wlks.set (m6 (m7 m st).wlks (nth .wlk (cX m st d).wlks i).id).toNat ⟨w',true⟩,(m7 m st).ground.set d.toNat g,(m7 m st).air⟩∧((allO m st').map oid).Perm ((allO m st).map oid):=by
 have hfl : ∀c s,fl m st' c s=fl m st c s:=c5f h (by rw[hc]) (by rw[hc])
 obtain⟨R,p1,p2⟩:=a7S (w':=w') hi
 obtain⟨T,t1,t2⟩:=a9k hI.plc h hd hfl p1 (by rw[hc];exact p2)
 have hs:=a2S hI.ids t1 t2 hid
 refine⟨a3C hs.2.2.2 ?_ ?_,b0p t1 t2 hid⟩
 ·rw[a6x h hd,hc]
 ·exact b2T fun c s=>by rw[hfl]
theorem d0r (hI:OneInv m st) (h:Wr m st st' d r) (hd:d<m.cells) {i j:Nat} {a b:Wlk} (hi:i<(cX m st d).wlks.length) (hj:j<(cX m st d).wlks.length) (hne:i≠j) (hid:a.id=(nth .wlk (cX m st d).wlks i).id) (hid2:b.id=(nth .wlk (cX m st d).wlks j).id)
  (hc:cX m st' d=⟨(cX m st d).cell,((cX m st d).wlks.set j b).set i a,(cX m st d).ground,(cX m st d).outs,(cX m st d).next,(cX m st d).ins⟩) :
  m7 m st'=⟨m,((m7 m st).wlks.set (m6 (m7 m st).wlks (nth .wlk (cX m st d).wlks i).id).toNat ⟨a,true⟩).set (m6 (m7 m st).wlks (nth .wlk (cX m st d).wlks j).id).toNat ⟨b,true⟩,(m7 m st).ground,(m7 m st).air⟩∧((allO m st').map oid).Perm ((allO m st).map oid):=by
 have hfl : ∀c s,fl m st' c s=fl m st c s:=c5f h (by rw[hc]) (by rw[hc])
 obtain⟨R,p1,p2⟩:=d1J (a:=a) (b:=b) hi hj hne
 obtain⟨T,t1,t2⟩:=a9k hI.plc h hd hfl p1 (by rw[hc];exact p2)
 have hs:=c6p hI.ids t1 t2 hid hid2
 refine⟨a3C hs.2.2.2.2.2.2 ?_ ?_,?_⟩
 ·exact a0U h hd (by rw[hc])
 ·exact b2T fun c s=>by rw[hfl]
 ·refine(t2.map oid).trans (List.Perm.trans ?_ (t1.map oid).symm)
  simp only[List.map_append,List.map_cons,List.map_nil,oid,hid,hid2]
  exact List.Perm.refl _
theorem d2b (p:Pcl) (l:List Pcl) (hk:p.kind≠1):flyO (l ++ [p])=flyO l:=by
 unfold flyO
 rw[List.filter_append]
 simp[isWp,hk]
theorem d1Z (p:Pcl) (l:List Pcl) (hk:p.kind=1):(flyO (l ++ [p])).Perm ([⟨p.wlk,false⟩]++flyO l):=by
 have:flyO (l ++ [p])=flyO l ++ [⟨p.wlk,false⟩]:=by
  unfold flyO
  rw[List.filter_append]
  simp[isWp,hk]
 rw[this]
 exact List.perm_append_comm
theorem c6M (hI:OneInv m st) (h:Wr m st st' d r) (hd:d<m.cells) {i:Nat} {w':Wlk} {e n:Int} (he:b7 m d e ≠ -1) (hi:i<(cX m st d).wlks.length) (hid:w'.id=(nth .wlk (cX m st d).wlks i).id)
  (hc:cX m st' d=⟨(cX m st d).cell,(cX m st d).wlks.set i w',(cX m st d).ground,D5 (cX m st d) e.toNat ⟨0,2,⟨0,0,0,0,0⟩,n⟩,H9 (cX m st d) e.toNat,(cX m st d).ins⟩) :
  m7 m st'=⟨m,(m7 m st).wlks.set (m6 (m7 m st).wlks (nth .wlk (cX m st d).wlks i).id).toNat ⟨w',true⟩,(m7 m st).ground,a3V (m7 m st).air (b7 m d e) (1-e) n⟩∧((allO m st').map oid).Perm ((allO m st).map oid):=by
 have hl:(cX m st d).outs.length=2:=(n5 (hI.cells d h.zero hd).1).2.2.2.2.2.2.1
 obtain⟨f1,f2⟩:=c5d h he hl (by rw[hc]) (by rw[hc]) (hI.seq d e he).1
 obtain⟨R,p1,p2⟩:=a7S (w':=w') hi
 obtain⟨T,t1,t2⟩:=a4U hI.plc h hd he f1 (Y := []) (Y' := []) (R2:=flyO (fl m st d e)) p1 (by rw[hc];exact p2) (List.Perm.refl _) (by rw[f2,d2b _ _ (by show(2:Int)≠1;decide)];exact List.Perm.refl _)
 rw[List.append_nil]at t1 t2
 have hs:=a2S hI.ids t1 t2 hid
 refine⟨a3C hs.2.2.2 ?_ ?_,b0p t1 t2 hid⟩
 ·exact a0U h hd (by rw[hc])
 ·refine a8j he ?_ f1
  rw[f2]
  unfold sumC
  rw[X9,a1z]
  rfl
theorem c6N (hI:OneInv m st) (h:Wr m st st' d r) (hd:d<m.cells) {i:Nat} {w w':Wlk} {e:Int} (he:b7 m d e ≠ -1) (hi:i<(cX m st d).wlks.length) (hw:w.id=(nth .wlk (cX m st d).wlks i).id) (hid:w'.id=(nth .wlk (cX m st d).wlks i).id)
  (hc:cX m st' d=⟨(cX m st d).cell,E2 ((cX m st d).wlks.set i w) w.id,(cX m st d).ground,D5 (cX m st d) e.toNat ⟨0,1,w',0⟩,H9 (cX m st d) e.toNat,(cX m st d).ins⟩) :
  m7 m st'=⟨m,(m7 m st).wlks.set (m6 (m7 m st).wlks (nth .wlk (cX m st d).wlks i).id).toNat ⟨w',false⟩,(m7 m st).ground,(m7 m st).air⟩∧((allO m st').map oid).Perm ((allO m st).map oid):=by
 have hok:=(hI.cells d h.zero hd).1
 have hl:(cX m st d).outs.length=2:=(n5 hok).2.2.2.2.2.2.1
 obtain⟨f1,f2⟩:=c5d h he hl (by rw[hc]) (by rw[hc]) (hI.seq d e he).1
 obtain⟨R,p1,p2⟩:=d1L (a9j hok) hi hw
 obtain⟨T,t1,t2⟩:=a4U hI.plc h hd he f1 (Y := []) (Y' := [⟨w',false⟩]) (R2:=flyO (fl m st d e)) p1 (by rw[hc];exact p2) (List.Perm.refl _) (by rw[f2];exact d1Z _ _ rfl)
 rw[List.append_nil]at t1
 rw[List.nil_append]at t2
 have hs:=a2S hI.ids t1 t2 hid
 refine⟨a3C hs.2.2.2 ?_ ?_,b0p t1 t2 hid⟩
 ·exact a0U h hd (by rw[hc])
 ·have:=a8j (n:=0) he (by
   rw[f2]
   unfold sumC
   rw[X9,a1z]
   rfl) f1
  rw[this]
  have hb:=z6 he
  exact c0H hb.2.2.2.2.1 hb.2.2.2.2.2.1 (by omega)
end
end Go.Mo
namespace Go.Mo
open Go.Sx
section
variable {m:PMap} {st st':List Sto} {d:Int} {r:Rec}
theorem a7T (h0:0≤d) (hd:d<m.cells) {w:Wlk} (hw:w∈(cX m st d).wlks):(⟨w,true⟩:OW)∈allO m st:=by
 refine List.mem_append_left _ (List.mem_flatMap.2 ⟨d.toNat,List.mem_range.2 (by omega),?_⟩)
 rw[c2X h0]
 exact List.mem_map.2 ⟨w,hw,rfl⟩
theorem c0e (h0:0≤d) (hd:d<m.cells):(m7 m st).ground.set d.toNat (cX m st d).ground=(m7 m st).ground:=by
 apply List.ext_getElem (by simp)
 intro i h1 h2
 rw[List.getElem_set]
 split
 ·rename_i e
  subst e
  have:=a1H (m:=m) (st:=st) h0 hd
  rw[l6 .int _ _ h2]at this
  exact this.symm
 ·rfl
theorem d6W (hI:OneInv m st) (h:Wr m st st' d r) (hd:d<m.cells) (hk:r.kind=1) :
  a4C (m7 m st) r.ord=⟨m7 m st',(J0 m (cX m st d) r.ord).code⟩∧((allO m st').map oid).Perm ((allO m st).map oid):=by
 have h0:=h.zero
 obtain⟨hfr,hc,_⟩:=a0Z hk h.fits
 have hself:cX m st' d=(J0 m (cX m st d) r.ord).c:=by rw[h.self,hc]
 have ho:O2 r.ord=true:=by
  rcases a0T h.log with ⟨_,q⟩|⟨q,_⟩|⟨q,_⟩
  ·exact q
  ·omega
  ·omega
 have hok:=(hI.cells d h0 hd).1
 have hcell:=(hI.cells d h0 hd).2
 have hpl:=X7 hfr
 have hi:=I7 hpl.1
 have hid:=id_w (a9e hfr)
 generalize hII:(k8 (cX m st d).wlks r.ord.who).toNat=i at *
 have hmem:=s4 .wlk hi
 have hwk:=L7 hok hi
 have hpm:=a1t (M6 hI.ids) ((D1 _).mem_iff.2 (a7T h0 hd hmem))
 have hpos:l8 m (nth .wlk (cX m st d).wlks i).pos=d:=by
  have:=((F4.1 hok).1 _ hmem).2
  rw[hcell]at this
  exact this
 have hL:J0 m (cX m st d) r.ord=Q8 m (cX m st d) i ⟨(nth .wlk (cX m st d).wlks i).id,(nth .wlk (cX m st d).wlks i).pos,(nth .wlk (cX m st d).wlks i).j9,r.ord.seq,(nth .wlk (cX m st d).wlks i).last⟩ r.ord:=by
  unfold J0
  rw[if_neg hpl.1]
  simp only
  rw[hII,if_neg (by omega),if_neg (by omega)]
 have hpw:m6 (m7 m st).wlks r.ord.who=m6 (m9 (allO m st)) (nth .wlk (cX m st d).wlks i).id:=by rw[hid];rfl
 have hR:a4C (m7 m st) r.ord=b9x (m7 m st) (m6 (m7 m st).wlks (nth .wlk (cX m st d).wlks i).id).toNat (nth .wlk (cX m st d).wlks i) r.ord:=by
  unfold a4C
  simp only
  rw[hpw]
  have e:nth .ow (m7 m st).wlks (m6 (m9 (allO m st)) (nth .wlk (cX m st d).wlks i).id).toNat=⟨nth .wlk (cX m st d).wlks i,true⟩:=hpm.2.2
  rw[e,if_neg (fun q=>q ⟨hpm.1,rfl⟩)]
  show(if r.ord.seq<(nth .wlk (cX m st d).wlks i).seq then _ else if r.ord.seq=(nth .wlk (cX m st d).wlks i).seq then _ else _)=_
  rw[if_neg (by omega),if_neg (by omega)]
  rfl
 rw[hR,hL]
 rw[hL]at hself
 clear hR hL hc
 have hg:=c0e (st:=st) h0 hd
 have fin : ∀code:Int,cX m st' d=(I0 (cX m st d) i ⟨(nth .wlk (cX m st d).wlks i).id,(nth .wlk (cX m st d).wlks i).pos,(nth .wlk (cX m st d).wlks i).j9,r.ord.seq,(nth .wlk (cX m st d).wlks i).last⟩ (cX m st d).ground code).c →
   oFin (m7 m st) (m6 (m7 m st).wlks (nth .wlk (cX m st d).wlks i).id).toNat (nth .wlk (cX m st d).wlks i) r.ord.seq true (m7 m st).ground (m7 m st).air code=⟨m7 m st',code⟩∧((allO m st').map oid).Perm ((allO m st).map oid):=fun code e=>by
  have:=a7s hI h hd hi (w':=⟨(nth .wlk (cX m st d).wlks i).id,(nth .wlk (cX m st d).wlks i).pos,(nth .wlk (cX m st d).wlks i).j9,r.ord.seq,code⟩) rfl e
  refine⟨?_,this.2⟩
  rw[this.1,hg]
  rfl
 have hord:=J9.1 ho
 unfold b9x
 unfold Q8 at hself ⊢
 by_cases k1:r.ord.kind=1
 ·rw[if_pos k1]
  rw[if_pos k1]at hself ⊢
  have hdst:r.ord.dest=0∨r.ord.dest=1:=by omega
  unfold c4F
  unfold a0t at hself ⊢
  simp only at hself ⊢
  have hmap:(m7 m st).map=m:=rfl
  rw[hmap]
  rw[hcell]at hself ⊢
  by_cases g1:l8 m ((nth .wlk (cX m st d).wlks i).pos+(2 * r.ord.dest-1)) = -1
  ·rw[if_pos g1]
   rw[if_pos g1]at hself ⊢
   exact fin 2 hself
  rw[if_neg g1]
  rw[if_neg g1]at hself ⊢
  by_cases g2:l8 m ((nth .wlk (cX m st d).wlks i).pos+(2 * r.ord.dest-1))=d
  ·rw[if_pos g2]at hself ⊢
   have:=a7s hI h hd hi (w':=⟨(nth .wlk (cX m st d).wlks i).id,(nth .wlk (cX m st d).wlks i).pos+(2 * r.ord.dest-1),(nth .wlk (cX m st d).wlks i).j9,r.ord.seq,1⟩) rfl hself
   refine⟨?_,this.2⟩
   rw[this.1,hg,g2,hpos]
   simp only[decide_true]
   rfl
  rw[if_neg g2]at hself ⊢
  obtain⟨s1,s2⟩:=b4T hdst g1 (by rw[hpos];omega) (by rw[hpos];exact g2)
  rw[hpos]at s1 s2
  have hnx : @LE.le Int _ (nth .int (cX m st d).next r.ord.dest.toNat) 250:=hI.next d r.ord.dest s2
  have hnx2 : ¬ @Eq Int (nth .int (cX m st d).next r.ord.dest.toNat) 5000:=fun e=>by rw[e]at hnx;exact absurd hnx (by decide)
  rw[if_neg hnx2]at hself ⊢
  have:=c6N hI h hd s2 hi (w:=⟨(nth .wlk (cX m st d).wlks i).id,(nth .wlk (cX m st d).wlks i).pos,(nth .wlk (cX m st d).wlks i).j9,r.ord.seq,(nth .wlk (cX m st d).wlks i).last⟩) (w':=⟨(nth .wlk (cX m st d).wlks i).id,(nth .wlk (cX m st d).wlks i).pos+(2 * r.ord.dest-1),(nth .wlk (cX m st d).wlks i).j9,r.ord.seq,1⟩) rfl rfl (by
   rw[hself,hid,hcell])
  refine⟨?_,this.2⟩
  rw[this.1,hpos,decide_eq_false g2]
  rfl
 rw[if_neg k1]
 rw[if_neg k1]at hself ⊢
 by_cases k2:r.ord.kind=2
 ·rw[if_pos k2]
  rw[if_pos k2]at hself ⊢
  unfold c4H
  unfold a0v at hself ⊢
  simp only at hself ⊢
  have hmap:(m7 m st).map=m:=rfl
  rw[hmap,hpos]
  by_cases g1:k8 (cX m st d).wlks r.ord.dest<0
  ·rw[if_pos g1]at hself ⊢
   rw[if_pos ?_]
   ·exact fin 4 hself
   ·rintro⟨q1,q2,q3⟩
    have hlt:=a7o (m7 m st).wlks r.ord.dest
    have hvm:nth .ow (m7 m st).wlks (m6 (m7 m st).wlks r.ord.dest).toNat∈m9 (allO m st):=s4 .ow (show(m6 (m7 m st).wlks r.ord.dest).toNat<(m7 m st).wlks.length by omega)
    obtain⟨c,c0,c1,c2,c3⟩:=(d3b hI ((D1 _).mem_iff.1 hvm)).2 q2
    rw[c3]at q3
    subst q3
    have hfd:=d1j (n5 hok).1 c2
    have hvid:=b4m q1
    rw[hvid]at hfd
    exact absurd g1 (by have:=(Q6 hfd.1).2;omega)
  rw[if_neg g1]at hself ⊢
  have hj:=I7 g1
  have hjid:=id_w (l:=(cX m st d).wlks) (id:=r.ord.dest) (by simp[u3];omega)
  generalize hJ:(k8 (cX m st d).wlks r.ord.dest).toNat=j at *
  have hjm:=s4 .wlk hj
  have hpj:=a1t (M6 hI.ids) ((D1 _).mem_iff.2 (a7T h0 hd hjm))
  have hjpos:l8 m (nth .wlk (cX m st d).wlks j).pos=d:=by
   have:=((F4.1 hok).1 _ hjm).2
   rw[hcell]at this
   exact this
  have hpj2:m6 (m7 m st).wlks r.ord.dest=m6 (m9 (allO m st)) (nth .wlk (cX m st d).wlks j).id:=by rw[hjid];rfl
  have ej:nth .ow (m7 m st).wlks (m6 (m9 (allO m st)) (nth .wlk (cX m st d).wlks j).id).toNat=⟨nth .wlk (cX m st d).wlks j,true⟩:=hpj.2.2
  rw[hpj2,ej]
  rw[if_neg (fun q=>q ⟨hpj.1,rfl,hjpos⟩)]
  by_cases g2:(nth .wlk (cX m st d).wlks i).j9<r.ord.n
  ·rw[if_pos g2]
   rw[if_pos g2]at hself ⊢
   exact fin 3 hself
  rw[if_neg g2]
  rw[if_neg g2]at hself ⊢
  by_cases g3:99<(nth .wlk (cX m st d).wlks j).j9+r.ord.n
  ·rw[if_pos g3]
   rw[if_pos g3]at hself ⊢
   exact fin 5 hself
  rw[if_neg g3]
  rw[if_neg g3]at hself ⊢
  have hne:i≠j:=fun e=>by
   subst e
   rw[hid]at hjid
   exact a1G ho k2 hjid.symm
  have:=d0r hI h hd hi hj hne (a:=⟨(nth .wlk (cX m st d).wlks i).id,(nth .wlk (cX m st d).wlks i).pos,(nth .wlk (cX m st d).wlks i).j9-r.ord.n,r.ord.seq,1⟩) (b:=⟨(nth .wlk (cX m st d).wlks j).id,(nth .wlk (cX m st d).wlks j).pos,(nth .wlk (cX m st d).wlks j).j9+r.ord.n,(nth .wlk (cX m st d).wlks j).seq,(nth .wlk (cX m st d).wlks j).last⟩) rfl rfl hself
  refine⟨?_,this.2⟩
  rw[this.1]
  rfl
 rw[if_neg k2]
 rw[if_neg k2]at hself ⊢
 have hgn:=a1H (st:=st) h0 hd
 by_cases k3:r.ord.kind=3
 ·rw[if_pos k3]
  rw[if_pos k3]at hself ⊢
  unfold c4I
  unfold a0w at hself ⊢
  simp only at hself ⊢
  have hmap:(m7 m st).map=m:=rfl
  rw[hmap,hpos]
  by_cases g2:(nth .wlk (cX m st d).wlks i).j9<r.ord.n
  ·rw[if_pos g2]
   rw[if_pos g2]at hself ⊢
   exact fin 3 hself
  rw[if_neg g2]
  rw[if_neg g2]at hself ⊢
  rw[hgn]
  by_cases g3:900<(cX m st d).ground+r.ord.n
  ·rw[if_pos g3]
   rw[if_pos g3]at hself ⊢
   exact fin 5 hself
  rw[if_neg g3]
  rw[if_neg g3]at hself ⊢
  have:=a7s hI h hd hi (w':=⟨(nth .wlk (cX m st d).wlks i).id,(nth .wlk (cX m st d).wlks i).pos,(nth .wlk (cX m st d).wlks i).j9-r.ord.n,r.ord.seq,1⟩) rfl hself
  refine⟨?_,this.2⟩
  rw[this.1]
  rfl
 rw[if_neg k3]
 rw[if_neg k3]at hself ⊢
 by_cases k4:r.ord.kind=4
 ·rw[if_pos k4]
  rw[if_pos k4]at hself ⊢
  unfold c4G
  unfold a0u at hself ⊢
  simp only at hself ⊢
  have hmap:(m7 m st).map=m:=rfl
  rw[hmap,hpos]
  rw[hgn]
  by_cases g2:(cX m st d).ground<r.ord.n
  ·rw[if_pos g2]
   rw[if_pos g2]at hself ⊢
   exact fin 6 hself
  rw[if_neg g2]
  rw[if_neg g2]at hself ⊢
  by_cases g3:99<(nth .wlk (cX m st d).wlks i).j9+r.ord.n
  ·rw[if_pos g3]
   rw[if_pos g3]at hself ⊢
   exact fin 5 hself
  rw[if_neg g3]
  rw[if_neg g3]at hself ⊢
  have:=a7s hI h hd hi (w':=⟨(nth .wlk (cX m st d).wlks i).id,(nth .wlk (cX m st d).wlks i).pos,(nth .wlk (cX m st d).wlks i).j9+r.ord.n,r.ord.seq,1⟩) rfl hself
  refine⟨?_,this.2⟩
  rw[this.1]
  rfl
 rw[if_neg k4]
 rw[if_neg k4]at hself ⊢
 by_cases k5:r.ord.kind=5
 ·rw[if_pos k5]
  rw[if_pos k5]at hself ⊢
  unfold b6D
  unfold U3 at hself ⊢
  simp only at hself ⊢
  have hmap:(m7 m st).map=m:=rfl
  rw[hmap,hpos]
  by_cases g1:J2 m (nth .wlk (cX m st d).wlks i).pos r.ord.dest=false
  ·rw[if_pos g1]
   rw[if_pos g1]at hself ⊢
   exact fin 7 hself
  rw[if_neg g1]
  rw[if_neg g1]at hself ⊢
  by_cases g2:(nth .wlk (cX m st d).wlks i).j9<r.ord.n
  ·rw[if_pos g2]
   rw[if_pos g2]at hself ⊢
   exact fin 3 hself
  rw[if_neg g2]
  rw[if_neg g2]at hself ⊢
  have he:b7 m d r.ord.dest ≠ -1:=by
   have g1:J2 m (nth .wlk (cX m st d).wlks i).pos r.ord.dest=true:=by simpa using g1
   unfold J2 at g1
   rw[hpos]at g1
   simp only[decide_eq_true_eq]at g1
   exact g1.1
  have hnx : @LE.le Int _ (nth .int (cX m st d).next r.ord.dest.toNat) 250:=hI.next d r.ord.dest he
  have hnx2 : ¬ @Eq Int (nth .int (cX m st d).next r.ord.dest.toNat) 5000:=fun e=>by rw[e]at hnx;exact absurd hnx (by decide)
  have hb:=z6 he
  have hair:=c3d hI (b7 m d r.ord.dest) (1-r.ord.dest)
  have hq : ¬(100000<airN m st (b7 m d r.ord.dest) (1-r.ord.dest)+r.ord.n):=by omega
  rw[a4B hb.2.2.2.2.1 hb.2.2.2.2.2.1 (by omega),if_neg hq]
  rw[if_neg hnx2]at hself ⊢
  have:=c6M hI h hd (n:=r.ord.n) he hi (w':=⟨(nth .wlk (cX m st d).wlks i).id,(nth .wlk (cX m st d).wlks i).pos,(nth .wlk (cX m st d).wlks i).j9-r.ord.n,r.ord.seq,1⟩) rfl hself
  refine⟨?_,this.2⟩
  rw[this.1]
  rfl
 rw[if_neg k5]
 rw[if_neg k5]at hself ⊢
 exact fin 1 hself
end
end Go.Mo
namespace Go.Mo
open Go.Sx
theorem c4g {m:PMap} {c:Cll} {s:Nat} {p:Pcl} (h:(y6 m c s p).ok=true):c.ground+p.j9≤900∧(p.kind=2→(y6 m c s p).c=⟨c.cell,c.wlks,c.ground+p.j9,c.outs,c.next,E7 c s⟩) ∧
  (¬p.kind=2→k8 c.wlks p.wlk.id<0∧l8 m p.wlk.pos=c.cell∧(y6 m c s p).c=⟨c.cell,M4 c.wlks p.wlk,c.ground,c.outs,c.next,E7 c s⟩):=by
 unfold y6 at h ⊢
 split at h
 ·cases h
 rename_i h1
 rw[if_neg h1]
 refine⟨by omega,fun hk => ?_,fun hk => ?_⟩
 ·rw[if_pos hk]
 ·rw[if_neg hk]at h ⊢
  split at h
  ·cases h
  ·rename_i h3
   rw[if_neg h3]
   exact⟨by omega,by omega,rfl⟩
theorem d1K {l:List Wlk} {w:Wlk} (h:k8 l w.id<0):(E1 (M4 l w)).Perm ([⟨w,true⟩]++E1 l):=by
 unfold M4
 rw[d0d h]
 generalize C6 l w.id=n
 unfold insL E1
 rw[List.map_append,List.map_append]
 have:(List.map (fun w=>(⟨w,true⟩:OW)) l)=List.map (fun w=>(⟨w,true⟩:OW)) (l.take n)++List.map (fun w=>(⟨w,true⟩:OW)) (l.drop n):=by
  rw[←List.map_append,List.take_append_drop]
 rw[this]
 exact List.perm_middle
theorem d2a (p:Pcl) (l:List Pcl) (hk:p.kind=1):flyO (p::l)=⟨p.wlk,false⟩::flyO l:=by
 unfold flyO
 rw[List.filter_cons_of_pos (by simp[isWp,hk])]
 rfl
theorem c8i (p:Pcl) (l:List Pcl) (hk:p.kind≠1):flyO (p::l)=flyO l:=by
 unfold flyO
 rw[List.filter_cons_of_neg (by simp[isWp,hk])]
theorem a8u (p:Pcl) (l:List Pcl):sumC (p::l)=cC p+sumC l:=by
 have:=X9 cC [p] l
 rw[a1z]at this
 exact this
section
variable {m:PMap} {st st':List Sto} {d:Int} {r:Rec}
theorem d6K (h:Wr m st st' d r) (hk:r.kind=2):I8 m r.pcl=true:=a7L h.log hk
theorem d1r (hI:OneInv m st) (h:Wr m st st' d r) (hd:d<m.cells) (hk:r.kind=2) (hs:Sent m st (b7 m d r.side) (1-r.side) r.pcl) (hw:r.pcl.kind=1) :
  a5p (m7 m st) r.pcl.wlk.id=m7 m st'∧((allO m st').map oid).Perm ((allO m st).map oid):=by
 have h0:=h.zero
 obtain⟨hsd,f1,f2⟩:=d5M h hk (fun c c0 c1=>(hI.cells c c0 c1).1) hs
 have hb:=z6 hsd
 have hback:b7 m (b7 m d r.side) (1-r.side)=d:=hb.2.2.2.2.2.2.1
 have he:b7 m (b7 m d r.side) (1-r.side) ≠ -1:=by rw[hback];omega
 obtain⟨_,hr,hc⟩:=a0c hk h.fits
 obtain⟨_,_,g3⟩:=c4g hr
 obtain⟨g4,g5,g6⟩:=g3 (by omega)
 have hself:cX m st' d=⟨(cX m st d).cell,M4 (cX m st d).wlks r.pcl.wlk,(cX m st d).ground,(cX m st d).outs,(cX m st d).next,E7 (cX m st d) r.side.toNat⟩:=by rw[h.self,hc,g6]
 obtain⟨T,t1,t2⟩:=a4U hI.plc h hd he f1 (X := []) (X' := [⟨r.pcl.wlk,true⟩]) (R1:=E1 (cX m st d).wlks) (Y := [⟨r.pcl.wlk,false⟩]) (Y' := []) (R2:=flyO (fl m st' (b7 m d r.side) (1-r.side)))
  (List.Perm.refl _) (by rw[hself];exact d1K g4) (by rw[f2,d2a _ _ hw];exact List.Perm.refl _) (List.Perm.refl _)
 rw[List.nil_append]at t1
 rw[List.append_nil]at t2
 have hss:=a2S (x:=⟨r.pcl.wlk,false⟩) (y:=⟨r.pcl.wlk,true⟩) hI.ids t1 t2 rfl
 refine⟨?_,b0p (x:=⟨r.pcl.wlk,false⟩) (y:=⟨r.pcl.wlk,true⟩) t1 t2 rfl⟩
 have hair:(m7 m st').air=(m7 m st).air:=by
  have:=a8j (n:=0) he (by
   rw[f2,a8u]
   have:cC r.pcl=0:=by unfold cC;rw[if_pos hw]
   omega) f1
  rw[this,hback,show 1-(1-r.side)=r.side by omega]
  exact c0H h0 hd hb.1
 unfold a5p
 have hp:0≤m6 (m7 m st).wlks r.pcl.wlk.id:=hss.1
 rw[if_pos hp]
 have hn:nth .ow (m7 m st).wlks (m6 (m7 m st).wlks r.pcl.wlk.id).toNat=⟨r.pcl.wlk,false⟩:=hss.2.2.1
 rw[hn]
 refine(a3C hss.2.2.2 ?_ hair).symm
 exact a0U h hd (by rw[hself])
theorem d2o (hI:OneInv m st) (h:Wr m st st' d r) (hd:d<m.cells) (hk:r.kind=2) (hs:Sent m st (b7 m d r.side) (1-r.side) r.pcl) (hw : ¬r.pcl.kind=1) :
  a5q (m7 m st) d r.side r.pcl.j9=m7 m st'∧((allO m st').map oid).Perm ((allO m st).map oid):=by
 have h0:=h.zero
 obtain⟨hsd,f1,f2⟩:=d5M h hk (fun c c0 c1=>(hI.cells c c0 c1).1) hs
 have hb:=z6 hsd
 have hback:b7 m (b7 m d r.side) (1-r.side)=d:=hb.2.2.2.2.2.2.1
 have he:b7 m (b7 m d r.side) (1-r.side) ≠ -1:=by rw[hback];omega
 obtain⟨_,hr,hc⟩:=a0c hk h.fits
 obtain⟨g1,g2,_⟩:=c4g hr
 have hpk:=I2.1 (d6K h hk)
 have hk2:r.pcl.kind=2:=by omega
 have hself:cX m st' d=⟨(cX m st d).cell,(cX m st d).wlks,(cX m st d).ground+r.pcl.j9,(cX m st d).outs,(cX m st d).next,E7 (cX m st d) r.side.toNat⟩:=by rw[h.self,hc,g2 hk2]
 obtain⟨T,t1,t2⟩:=a4U hI.plc h hd he f1 (X := []) (X' := []) (R1:=E1 (cX m st d).wlks) (Y := []) (Y' := []) (R2:=flyO (fl m st' (b7 m d r.side) (1-r.side)))
  (List.Perm.refl _) (by rw[hself];exact List.Perm.refl _) (by rw[f2,c8i _ _ hw];exact List.Perm.refl _) (List.Perm.refl _)
 rw[List.nil_append,List.nil_append]at t1 t2
 have hpm:=t1.trans t2.symm
 refine⟨?_,(hpm.map oid).symm⟩
 have hcc:cC r.pcl=r.pcl.j9:=by unfold cC;rw[if_neg hw]
 have hair:(m7 m st').air=a3V (m7 m st).air d r.side (-r.pcl.j9):=by
  have:=a8j (n := -r.pcl.j9) he (by rw[f2,a8u,hcc];omega) f1
  rw[this,hback,show 1-(1-r.side)=r.side by omega]
 have hav:r.pcl.j9≤airN m st d r.side:=by
  unfold airN
  rw[if_neg hsd,f2,a8u,hcc]
  have:=(c3r (m:=m) (l:=fl m st' (b7 m d r.side) (1-r.side)) fun p hp=>(c2J hI (c:=b7 m d r.side) (s:=1-r.side) (by rw[f2];exact List.mem_cons_of_mem _ hp)).1).1
  omega
 unfold a5q
 rw[a4B h0 hd hb.1,a1H h0 hd]
 have hmap:(m7 m st).map=m:=rfl
 rw[if_pos ⟨h0,hd,hb.1,by omega,hav,g1⟩,hmap]
 refine(a3C (a9x hI.ids hpm).symm ?_ ?_).symm
 ·rw[a6x h hd,hself]
 ·rw[hair]
  unfold a3V
  rw[a4B h0 hd hb.1,Int.sub_eq_add_neg]
theorem d5p (hI:OneInv m st) (h:Wr m st st' d r) (hd:d<m.cells) (hk:r.kind=3) (hack:r.n≤inX m st (b7 m d r.side) (1-r.side)) :
  m7 m st'=m7 m st∧((allO m st').map oid).Perm ((allO m st).map oid):=by
 have hfl:=d6S h hk hack
 obtain⟨_,hr,hc⟩:=a0z hk h.fits
 have hself:cX m st' d=(G9 (cX m st d) r.side.toNat r.n).c:=by rw[h.self,hc]
 have hw:(cX m st' d).wlks=(cX m st d).wlks∧(cX m st' d).ground=(cX m st d).ground:=by
  rw[hself]
  unfold G9
  split<;>exact⟨rfl,rfl⟩
 obtain⟨T,t1,t2⟩:=a9k hI.plc h hd hfl (X := []) (X' := []) (R1:=E1 (cX m st d).wlks) (List.Perm.refl _) (by rw[hw.1];exact List.Perm.refl _)
 rw[List.nil_append]at t1 t2
 have hpm:=t1.trans t2.symm
 refine⟨?_,(hpm.map oid).symm⟩
 exact a3C (a9x hI.ids hpm).symm (a0U h hd hw.2) (b2T fun c s=>by rw[hfl])
end
end Go.Mo
namespace Go.Mo
open Go.Sx
theorem d2r {w w':Wld} (hok:j8 w=true) (hf:Fence w) (hm:Mail w) (hs:StepC w w'):w'.map=w.map∧Did w w':=by
 cases hs with
 |hear i hi hd =>
  obtain⟨X,hX,e⟩:=heard hok hi hd
  rw[e]
  generalize nth .msg w.net i=x at *
  have hw:=a4K hf hX
  have hcs:=a2x hX.stos hX.ok
  refine⟨rfl,?_⟩
  cases hw with
  |no h=>exact .quiet h
  |yes h hkk hh hss hff =>
   have hlen:=(D0.1 hX.stos).2.1
   have h0:=h.zero
   have hlt:=h.lt
   refine .wrote x.cell (o7 x) h (by omega) (fun hk => ?_) (fun hk => ?_)
   ·have k5:x.kind=5:=by
     rcases hkk with h0|h0|h0
     ·rw[o7,if_pos h0]at hk;cases hk
     ·exact h0
     ·rw[o7,if_neg (by omega),if_neg (by omega)]at hk;cases hk
    have er:o7 x=⟨2,u5,x.side,x.pcl,0⟩:=by rw[o7,if_neg (by omega),if_pos k5]
    rw[er]
    exact hm.pcl x hX.mem k5
   ·have k6:x.kind=6:=by
     rcases hkk with h0|h0|h0
     ·rw[o7,if_pos h0]at hk;cases hk
     ·rw[o7,if_neg (by omega),if_pos h0]at hk;cases hk
     ·exact h0
    have er:o7 x=⟨3,u5,x.side,y8,x.n⟩:=by rw[o7,if_neg (by omega),if_neg (by omega)]
    rw[er]
    exact hm.got x hX.mem k6
 |_=>exact⟨rfl,.quiet (.refl _)⟩
theorem c5e {m:PMap} {st st':List Sto} (h:Lsame st st') (c s:Int):fl m st' c s=fl m st c s:=by
 unfold fl
 rw[h.ou,h.in]
theorem c0G {m:PMap} {st st':List Sto} (h:Lsame st st'):allO m st'=allO m st∧m7 m st'=m7 m st:=by
 have e:allO m st'=allO m st:=by
  unfold allO
  have e1:(fun(c:Nat)=>E1 (cX m st' (c:Int)).wlks)=(fun(c:Nat)=>E1 (cX m st (c:Int)).wlks):=funext fun c=>by rw[h.cX]
  have e2:(fun(e:Nat×Nat)=>flyO (fl m st' (e.1:Int) (e.2:Int)))=(fun(e:Nat×Nat)=>flyO (fl m st (e.1:Int) (e.2:Int))):=funext fun c=>by rw[c5e h]
  rw[e1,e2]
 refine⟨e,?_⟩
 have e3:(fun(c:Nat)=>(cX m st' (c:Int)).ground)=(fun(c:Nat)=>(cX m st (c:Int)).ground):=funext fun c=>by rw[h.cX]
 have e4 : ∀c s,airN m st' c s=airN m st c s:=fun c s=>by unfold airN;rw[c5e h]
 have e5:(fun(c:Nat) => [airN m st' (c:Int) 0,airN m st' (c:Int) 1])=(fun(c:Nat) => [airN m st (c:Int) 0,airN m st (c:Int) 1]):=funext fun c=>by rw[e4,e4]
 unfold m7
 rw[e,e3,e5]
theorem d2s {L:List Int} {w w':Wld} (hI:OneInv w.map w.stores) (hp:Pl L w.map w.stores) (h:Did w w'):Goes w.map w.stores w'.stores∧Pl L w.map w'.stores:=by
 cases h with
 |quiet h =>
  refine⟨.quiet h (c0G h).2,fun c s hcs => ?_,by rw[(c0G h).1];exact hp.ids⟩
  rw[h.nx,(h.same c).2]
  exact hp.next c s hcs
 |wrote d r h hd hin hack =>
  have next : ∀c s,b7 w.map c s ≠ -1→nxX w.map w'.stores c s≤(stAt w'.stores c).recs.length:=fun c s hcs=>by
   have h2:=K3 hcs
   have hi:=D8 hcs
   have h3:=hp.next c s hcs
   by_cases hc:c=d
   ·subst hc
    have:=h.next h2.1
    rw[h.at.2]
    simp only[List.length_append,List.length_cons,List.length_nil]
    omega
   ·have e:nxX w.map w'.stores c s=nxX w.map w.stores c s:=by unfold nxX;rw[h.far hi.1 hc]
    have:=h.zero
    rw[e,h.off (by omega)]
    exact h3
  rcases a0T h.log with ⟨hk,_⟩|⟨hk,_⟩|⟨hk,_⟩
  ·obtain⟨e,hids⟩:=d6W hI h hd hk
   exact⟨.order d r h hd hk e,next,hids.trans hp.ids⟩
  ·by_cases hw:r.pcl.kind=1
   ·obtain⟨e,hids⟩:=d1r hI h hd hk (hin hk) hw
    exact⟨.land d r h hd hk hw e,next,hids.trans hp.ids⟩
   ·obtain⟨e,hids⟩:=d2o hI h hd hk (hin hk) hw
    exact⟨.down d r h hd hk hw e,next,hids.trans hp.ids⟩
  ·obtain⟨e,hids⟩:=d5p hI h hd hk (hack hk)
   exact⟨.word d r h hd hk e,next,hids.trans hp.ids⟩
theorem b5J {l:List OW} {k:Nat} {who seq code:Int} {y:OW} (hk:k<l.length) (hy:a9Z who seq code (nth .ow l k) y):(l.set k y).length=l.length ∧ ∀i,i<l.length→a9Z who seq code (nth .ow l i) (nth .ow (l.set k y) i):=by
 refine⟨by simp,fun i hi => ?_⟩
 rw[H5 .ow hk]
 split
 ·rename_i e;rw[e];exact hy
 ·exact⟨rfl,.inl ⟨rfl,rfl⟩⟩
theorem c6O {o:One} {r:Ord} (hr:O2 r=true) (h0:0≤m6 o.wlks r.who) (hh:(nth .ow o.wlks (m6 o.wlks r.who).toNat).here=true) (hq:(nth .ow o.wlks (m6 o.wlks r.who).toNat).wlk.seq<r.seq) :
  ((a4C o r).o.wlks.length=o.wlks.length ∧ ∀i,i<o.wlks.length→a9Z r.who r.seq (a4C o r).code (nth .ow o.wlks i) (nth .ow (a4C o r).o.wlks i))∧(nth .ow (a4C o r).o.wlks (m6 o.wlks r.who).toNat).wlk.seq=r.seq:=by
 have hlt:=a7o o.wlks r.who
 have hid:=b4m h0
 have hk:(m6 o.wlks r.who).toNat<o.wlks.length:=by omega
 unfold a4C
 simp only
 rw[if_neg (fun q=>q ⟨h0,hh⟩),if_neg (by omega),if_neg (by omega)]
 generalize hK:(m6 o.wlks r.who).toNat=k at *
 generalize hX:nth .ow o.wlks k=x at *
 have fin : ∀(w:Wlk) (here:Bool) (g:List Int) (a:List (List Int)) (code:Int),w.id=x.wlk.id →
   ((oFin o k w r.seq here g a code).o.wlks.length=o.wlks.length ∧ ∀i,i<o.wlks.length→a9Z r.who r.seq (oFin o k w r.seq here g a code).code (nth .ow o.wlks i) (nth .ow (oFin o k w r.seq here g a code).o.wlks i))∧(nth .ow (oFin o k w r.seq here g a code).o.wlks k).wlk.seq=r.seq:=fun w here g a code hw =>
  ⟨b5J hk (by rw[hX];exact⟨hw,.inr ⟨hid,hq,rfl,rfl⟩⟩),by
   show(nth .ow (o.wlks.set k _) k).wlk.seq=r.seq
   rw[l9 .ow hk]⟩
 unfold b9x
 split
 ·unfold c4F
  split
  ·exact fin _ _ _ _ _ rfl
  ·exact fin _ _ _ _ _ rfl
 split
 ·rename_i k1 k2
  unfold c4H
  simp only
  split
  ·exact fin _ _ _ _ _ rfl
  split
  ·exact fin _ _ _ _ _ rfl
  split
  ·exact fin _ _ _ _ _ rfl
  rename_i g1 g2 g3
  have hj:=Classical.not_not.1 g1
  have hjl:=a7o o.wlks r.dest
  have hjid:=b4m hj.1
  have hjk:(m6 o.wlks r.dest).toNat≠k:=fun e=>by
   rw[e,hX,hid]at hjid
   exact a1G hr k2 hjid.symm
  obtain⟨s1,s2⟩:=b5J (y:=⟨⟨x.wlk.id,x.wlk.pos,x.wlk.j9-r.n,r.seq,1⟩,true⟩) (who:=r.who) (seq:=r.seq) (code:=1) hk (by rw[hX];exact⟨rfl,.inr ⟨hid,hq,rfl,rfl⟩⟩)
  refine⟨⟨by simp,fun i hi => ?_⟩,?_⟩
  rotate_left
  ·show(nth .ow ((o.wlks.set k _).set (m6 o.wlks r.dest).toNat _) k).wlk.seq=r.seq
   rw[n6 .ow hjk,l9 .ow hk]
  have hs:=s2 i hi
  show a9Z r.who r.seq 1 (nth .ow o.wlks i) (nth .ow ((o.wlks.set k _).set (m6 o.wlks r.dest).toNat _) i)
  rw[H5 .ow (show(m6 o.wlks r.dest).toNat<(o.wlks.set k ⟨⟨x.wlk.id,x.wlk.pos,x.wlk.j9-r.n,r.seq,1⟩,true⟩).length by simp;omega)]
  split
  ·rename_i e
   subst e
   exact⟨rfl,.inl ⟨rfl,rfl⟩⟩
  ·exact hs
 split
 ·unfold c4I
  simp only
  split
  ·exact fin _ _ _ _ _ rfl
  split
  ·exact fin _ _ _ _ _ rfl
  exact fin _ _ _ _ _ rfl
 split
 ·unfold c4G
  simp only
  split
  ·exact fin _ _ _ _ _ rfl
  split
  ·exact fin _ _ _ _ _ rfl
  exact fin _ _ _ _ _ rfl
 split
 ·unfold b6D
  simp only
  split
  ·exact fin _ _ _ _ _ rfl
  split
  ·exact fin _ _ _ _ _ rfl
  split
  ·exact fin _ _ _ _ _ rfl
  exact fin _ _ _ _ _ rfl
 exact fin _ _ _ _ _ rfl
theorem b9y {m:PMap} {st:List Sto} {x:OW}:x∈(m7 m st).wlks↔x∈allO m st:=(D1 _).mem_iff
theorem b6V {who seq code:Int} {a b:List OW} (hl:b.length=a.length) (h : ∀i,i<a.length→a9Z who seq code (nth .ow a i) (nth .ow b i)):Hist who seq code a b:=by
 refine⟨fun x hx => ?_,fun y hy => ?_⟩
 ·obtain⟨i,hi,rfl⟩:=a0F .ow hx
  exact⟨_,s4 .ow (show i<b.length by omega),h i hi⟩
 ·obtain⟨i,hi,rfl⟩:=a0F .ow hy
  exact⟨_,s4 .ow (show i<a.length by omega),h i (by omega)⟩
theorem a5w {who seq code:Int} {a b:List OW} (h:b=a):Hist who seq code a b:=by
 subst h
 exact b6V rfl fun i _=>⟨rfl,.inl ⟨rfl,rfl⟩⟩
theorem a3O {m:PMap} {st st':List Sto} {d:Int} {r:Rec} (hI:OneInv m st) (h:Wr m st st' d r) (hd:d<m.cells) (hk:r.kind=1) :
  O2 r.ord=true ∧ ∃w∈(cX m st d).wlks,w.id=r.ord.who∧w.seq<r.ord.seq∧0≤m6 (m7 m st).wlks r.ord.who∧nth .ow (m7 m st).wlks (m6 (m7 m st).wlks r.ord.who).toNat=⟨w,true⟩:=by
 obtain⟨hfr,_,_⟩:=a0Z hk h.fits
 have hpl:=X7 hfr
 have hi:=I7 hpl.1
 have hid:=id_w (a9e hfr)
 generalize hII:(k8 (cX m st d).wlks r.ord.who).toNat=i at *
 have hmem:=s4 .wlk hi
 have hpm:=a1t (M6 hI.ids) ((D1 _).mem_iff.2 (a7T h.zero hd hmem))
 have ho:O2 r.ord=true:=by
  rcases a0T h.log with ⟨_,q⟩|⟨q,_⟩|⟨q,_⟩
  ·exact q
  ·omega
  ·omega
 refine⟨ho,_,hmem,hid,hpl.2,?_⟩
 rw[←hid]
 exact⟨hpm.1,hpm.2.2⟩
theorem b4M {m:PMap} {st st':List Sto} (hI:OneInv m st) (h:Goes m st st'):(∃d r,Wr m st st' d r∧d<m.cells∧r.kind=1∧Hist r.ord.who r.ord.seq (J0 m (cX m st d) r.ord).code (m7 m st).wlks (m7 m st').wlks ∧ ∃y∈(m7 m st').wlks,y.wlk.id=r.ord.who∧r.ord.seq≤y.wlk.seq) ∨
  ((Lsame st st' ∨ ∃d r,Wr m st st' d r∧d<m.cells∧r.kind≠1) ∧ ∀who seq code,Hist who seq code (m7 m st).wlks (m7 m st').wlks):=by
 cases h with
 |quiet h e=>exact .inr ⟨.inl h,fun _ _ _=>a5w (by rw[e])⟩
 |word d r h hd hk e=>exact .inr ⟨.inr ⟨d,r,h,hd,by omega⟩,fun _ _ _=>a5w (by rw[e])⟩
 |order d r h hd hk e =>
  left
  obtain⟨ho,w,_,hid,hq,p0,pn⟩:=a3O hI h hd hk
  have hrel:=c6O (o:=m7 m st) ho p0 (by rw[pn]) (by rw[pn];exact hq)
  rw[e]at hrel
  have hlt:=a7o (m7 m st).wlks r.ord.who
  have hk2:(m6 (m7 m st).wlks r.ord.who).toNat<(m7 m st).wlks.length:=by omega
  have hrk:=(hrel.1.2 _ hk2).1
  rw[pn]at hrk
  refine⟨d,r,h,hd,hk,b6V hrel.1.1 hrel.1.2,_,s4 .ow (show _<(m7 m st').wlks.length by rw[hrel.1.1];exact hk2),by rw[hrk];exact hid,Int.le_of_eq hrel.2.symm⟩
 |land d r h hd hk hw e =>
  refine .inr ⟨.inr ⟨d,r,h,hd,by omega⟩,fun who seq code => ?_⟩
  rw[←e]
  unfold a5p
  split
  ·rename_i hp
   have hlt:=a7o (m7 m st).wlks r.pcl.wlk.id
   have:=b5J (l:=(m7 m st).wlks) (k:=(m6 (m7 m st).wlks r.pcl.wlk.id).toNat) (who:=who) (seq:=seq) (code:=code) (y:=⟨(nth .ow (m7 m st).wlks (m6 (m7 m st).wlks r.pcl.wlk.id).toNat).wlk,true⟩) (by omega) ⟨rfl,.inl ⟨rfl,rfl⟩⟩
   exact b6V this.1 this.2
  ·exact a5w rfl
 |down d r h hd hk hw e =>
  refine .inr ⟨.inr ⟨d,r,h,hd,by omega⟩,fun who seq code => ?_⟩
  rw[←e]
  unfold a5q
  split<;>exact a5w rfl
theorem a5W {m:PMap} {st st':List Sto} {d:Int} {r:Rec} (h:Wr m st st' d r):recX st' d (stAt st d).recs.length=r∧(stAt st' d).recs.length=(stAt st d).recs.length+1∧pfX m st' d (stAt st d).recs.length=cX m st d:=by
 refine⟨?_,?_,?_⟩
 ·unfold recX
  rw[h.at.2]
  exact b1K .rcd
 ·rw[h.at.2];simp
 ·rw[b6c h.grow (Nat.le_refl _)]
  exact b6d h.ok
theorem wr_i {m:PMap} {st st':List Sto} {d:Int} {r:Rec} (h:Wr m st st' d r) {c:Int} {i:Nat} (h0:0≤c) (hi:i<(stAt st' c).recs.length):i<(stAt st c).recs.length∨(c=d∧i=(stAt st d).recs.length):=by
 by_cases hc:c=d
 ·subst hc
  rw[(a5W h).2.1]at hi
  omega
 ·have:=h.zero
  rw[h.off (by omega)]at hi
  exact .inl hi
theorem d3Q {m:PMap} {st st':List Sto} {d:Int} {r:Rec} (h:Wr m st st' d r):pfX m st' d ((stAt st d).recs.length+1)=cX m st' d:=by
 have h1:=a5W h
 have:pfX m st' d ((stAt st d).recs.length+1)=(l7 m (pfX m st' d (stAt st d).recs.length) (recX st' d (stAt st d).recs.length)).c:=P1 _ _ _ _
 rw[this,h1.1,h1.2.2,h.self]
theorem b8Y {w w':Wld} (hok':j8 w'=true) (hI:OneInv w.map w.stores) (hI':OneInv w.map w'.stores) (hm:w'.map=w.map) (ho:Once w) (hg:Grow w.map w.stores w'.stores) (hgo:Goes w.map w.stores w'.stores)
  (htold : ∀x∈w'.net,x.kind=3→Was w.map w'.stores x.ord.who x.ord.seq x.n) (hnotes : ∀n∈w'.notes,Was w.map w'.stores n.who n.seq n.code):Once w':=by
 obtain⟨k1,k2,k3,k4,_,_⟩:=ho
 have hist:=b4M hI hgo
 have fwd : ∀x∈(m7 w.map w.stores).wlks,∃y∈(m7 w.map w'.stores).wlks,y.wlk.id=x.wlk.id∧x.wlk.seq≤y.wlk.seq:=fun x hx=>by
  rcases hist with ⟨d,r,_,_,_,hh,_⟩|⟨_,hh⟩
  ·obtain⟨y,hy,e,h2⟩:=hh.fwd x hx
   refine⟨y,hy,e,?_⟩
   rcases h2 with h2|h2
   ·exact Int.le_of_eq h2.1.symm
   ·omega
  ·obtain⟨y,hy,e,h2⟩:=(hh 0 0 0).fwd x hx
   refine⟨y,hy,e,?_⟩
   rcases h2 with h2|h2
   ·exact Int.le_of_eq h2.1.symm
   ·omega
 have kold : ∀c i,0≤c→c<w.map.cells→i<(stAt w.stores c).recs.length→(recX w'.stores c i).kind=1 → ∃x∈(m7 w.map w'.stores).wlks,x.wlk.id=(recX w'.stores c i).ord.who∧(recX w'.stores c i).ord.seq≤x.wlk.seq:=fun c i c0 c1 hi hk=>by
  rw[S1 hg hi]at hk ⊢
  obtain⟨x,hx,e1,e2⟩:=k1 c i c0 c1 hi hk
  obtain⟨y,hy,f1,f2⟩:=fwd x hx
  exact⟨y,hy,by omega,by omega⟩
 have last' : ∀y∈(m7 w.map w'.stores).wlks,y.wlk.seq=0∨Was w.map w'.stores y.wlk.id y.wlk.seq y.wlk.last:=fun y hy=>by
  rcases hist with ⟨d,r,hw,hd,hk,hh,_⟩|⟨_,hh⟩
  ·obtain⟨x,hx,e,h2⟩:=hh.bwd y hy
   rcases h2 with h2|h2
   ·rcases k3 x hx with h3|h3
    ·left;omega
    ·right
     rw[e,h2.1,h2.2]
     exact h3.grow hg
   ·right
    have hn:=a5W hw
    rw[e,h2.1,h2.2.2.1,h2.2.2.2]
    refine⟨d,(stAt w.stores d).recs.length,hw.zero,hd,by rw[hn.2.1];omega,by rw[hn.1];exact hk,by rw[hn.1],by rw[hn.1],?_⟩
    rw[hn.1,hn.2.2]
    exact(a0Z hk hw.fits).2.2
  ·obtain⟨x,hx,e,h2⟩:=(hh 0 0 0).bwd y hy
   rcases h2 with h2|h2
   ·rcases k3 x hx with h3|h3
    ·left;omega
    ·right
     rw[e,h2.1,h2.2]
     exact h3.grow hg
   ·left;omega
 have old' : ∀c,0≤c→c<w.map.cells → ∀k,k≤(stAt w'.stores c).recs.length → ∀v∈(pfX w.map w'.stores c k).wlks,v.seq=0∨Was w.map w'.stores v.id v.seq v.last:=fun c c0 c1 k hk v hv=>by
  by_cases hk2:k≤(stAt w.stores c).recs.length
  ·rw[b6c hg hk2]at hv
   rcases k4 c c0 c1 k hk2 v hv with h|h
   ·exact .inl h
   ·exact .inr (h.grow hg)
  ·have wr : ∀ {d:Int} {r:Rec},Wr w.map w.stores w'.stores d r→v.seq=0∨Was w.map w'.stores v.id v.seq v.last:=fun {d r} hw=>by
    have h0:=hw.zero
    by_cases hc:c=d
    ·subst hc
     rw[(a5W hw).2.1]at hk
     have:k=(stAt w.stores c).recs.length+1:=by omega
     subst this
     rw[d3Q hw]at hv
     exact last' ⟨v,true⟩ (b9y.2 (a7T c0 c1 hv))
    ·rw[hw.off (by omega)]at hk
     exact absurd hk hk2
   rcases b4M hI hgo with ⟨d,r,hw,_⟩|⟨hq|⟨d,r,hw,_⟩,_⟩
   ·exact wr hw
   ·rw[(hq.same c).2]at hk
    exact absurd hk hk2
   ·exact wr hw
 rcases hist with ⟨d,r,hw,hd,hk,hh,y,hy,hy1,hy2⟩|⟨hq,hh⟩
 ·have hn:=a5W hw
  have hnew : ∀c i,0≤c→c<w.map.cells→i<(stAt w.stores c).recs.length→(recX w.stores c i).kind=1→(recX w.stores c i).ord.who=r.ord.who→(recX w.stores c i).ord.seq≠r.ord.seq:=fun c i c0 c1 hi hkk e1 e2=>by
   obtain⟨x,hx,f1,f2⟩:=k1 c i c0 c1 hi hkk
   obtain⟨_,v,_,hv1,hv2,hp0,hpn⟩:=a3O hI hw hd hk
   have hpm:=a1t (M6 hI.ids) hx
   have e:x=⟨v,true⟩:=by
    have h4:=hpm.2.2
    rw[f1,e1]at h4
    exact h4.symm.trans hpn
   subst e
   have:(recX w.stores c i).ord.seq≤v.seq:=f2
   omega
  refine⟨fun c i c0 c1 hi hkk => ?_,fun c i c' i' c0 c1 d0 d1 hi hi' hkk hkk' e1 e2 => ?_,?_,?_,?_,?_⟩
  ·rw[hm]at c1 ⊢
   rcases wr_i hw c0 hi with h1|⟨rfl,rfl⟩
   ·exact kold c i c0 c1 h1 hkk
   ·rw[hn.1]
    exact⟨y,hy,hy1,hy2⟩
  ·rw[hm]at c1 d1
   rcases wr_i hw c0 hi with h1|⟨rfl,rfl⟩<;>rcases wr_i hw d0 hi' with h2|⟨rfl,rfl⟩
   ·rw[S1 hg h1]at hkk e1 e2
    rw[S1 hg h2]at hkk' e1 e2
    exact k2 c i c' i' c0 c1 d0 d1 h1 h2 hkk hkk' e1 e2
   ·rw[S1 hg h1]at hkk e1 e2
    rw[hn.1]at e1 e2
    exact absurd e2 (hnew c i c0 c1 h1 hkk e1)
   ·rw[S1 hg h2]at hkk' e1 e2
    rw[hn.1]at e1 e2
    exact absurd e2.symm (hnew c' i' d0 d1 h2 hkk' e1.symm)
   ·exact⟨rfl,rfl⟩
  ·rw[hm];exact last'
  ·rw[hm];exact old'
  ·rw[hm];exact htold
  ·rw[hm];exact hnotes
 ·
  have hi' : ∀c i,0≤c→i<(stAt w'.stores c).recs.length→(recX w'.stores c i).kind=1→i<(stAt w.stores c).recs.length:=fun c i c0 hi hkk=>by
   rcases hq with hq|⟨d,r,hw,hd,hk⟩
   ·rw[(hq.same c).2]at hi;exact hi
   ·rcases wr_i hw c0 hi with h1|⟨rfl,rfl⟩
    ·exact h1
    ·rw[(a5W hw).1]at hkk
     exact absurd hkk hk
  refine⟨fun c i c0 c1 hi hkk => ?_,fun c i c' i' c0 c1 d0 d1 hi hj hkk hkk' e1 e2 => ?_,?_,?_,?_,?_⟩
  ·rw[hm]at c1 ⊢
   exact kold c i c0 c1 (hi' c i c0 hi hkk) hkk
  ·rw[hm]at c1 d1
   have h1:=hi' c i c0 hi hkk
   have h2:=hi' c' i' d0 hj hkk'
   rw[S1 hg h1]at hkk e1 e2
   rw[S1 hg h2]at hkk' e1 e2
   exact k2 c i c' i' c0 c1 d0 d1 h1 h2 hkk hkk' e1 e2
  ·rw[hm];exact last'
  ·rw[hm];exact old'
  ·rw[hm];exact htold
  ·rw[hm];exact hnotes
theorem c8b {m:PMap} {l:List Row} {x:Msg} (h:(B2 m l x).ok=true):x.kind=3:=by
 unfold B2 at h
 simp only at h
 split at h
 ·split at h
  ·assumption
  ·split at h<;>cases h
 ·cases h
theorem d2d {l:List Wlk} {id:Int} (h:u3 l id=true):E3 l id∈l∧(E3 l id).id=id:=by
 rw[a4O h]
 exact⟨s4 .wlk (Q6 h).1,id_w h⟩
theorem c6P {w w':Wld} (hok:j8 w=true) (hok':j8 w'=true) (hf:Fence w) (hm:Mail w) (hI:OneInv w.map w.stores) (hI':OneInv w.map w'.stores) (hgo:Goes w.map w.stores w'.stores) (ho:Once w) (hs:StepC w w'):Once w':=by
 obtain⟨e1,hg⟩:=c6h hok hs
 refine b8Y hok' hI hI' e1 ho hg hgo ?_ ?_
 ·
  have quiet:(∀x∈w'.net,x.kind=3→x∈w.net) → ∀x∈w'.net,x.kind=3→Was w.map w'.stores x.ord.who x.ord.seq x.n:=fun h x hx hk=>(ho.told x (h x hx hk) hk).grow hg
  cases hs with
  |same=>exact quiet fun x hx _=>hx
  |grant cell server hgr =>
   refine quiet fun x hx hk => ?_
   rcases F9 hx with hx|hx
   ·exact hx
   ·simp only[List.mem_singleton]at hx
    subst hx
    cases hk
  |ask=>exact quiet fun x hx _=>hx
  |say who hs =>
   refine quiet fun x hx hk => ?_
   rcases F9 hx with hx|hx
   ·exact hx
   ·simp only[List.mem_singleton]at hx
    subst hx
    rw[a6T hs]at hk
    cases hk
  |gate i hi hd=>exact quiet fun x hx _=>a4S (i:=i) hx
  |lose i hi=>exact quiet fun x hx _=>a4S hx
  |twice i hi =>
   refine quiet fun x hx hk => ?_
   rcases F9 hx with hx|hx
   ·exact hx
   ·simp only[List.mem_singleton]at hx
    subst hx
    exact s4 .msg hi
  |fall i hi=>exact quiet fun x hx _=>hx
  |rise i hi hu=>exact quiet fun x hx _=>hx
  |tick i hi cell =>
   refine quiet fun x hx hk => ?_
   rcases F9 hx with hx|hx
   ·exact hx
   ·have:=a8q hx
    omega
  |hear i hi hd =>
   obtain⟨X,hX,e⟩:=heard hok hi hd
   rw[e]at hg ⊢
   clear e
   generalize nth .msg w.net i=x at *
   intro z hz hk
   rcases F9 hz with hz|hz
   ·exact(ho.told z (List.mem_of_mem_eraseIdx hz) hk).grow hg
   have hv:a5x w.map (nth .srv w.servers x.dest.toNat) w.stores w.table w.servers.length x:=⟨hX.srv,hX.stos,hX.arb,hX.ok⟩
   have hlen:=(b4F hX.srv hX.stos hX.arb hX.ok).1
   have hwr:=a4K hf hX
   rw[hX.is]at hz hg hwr
   show Was w.map X.stores z.ord.who z.ord.seq z.n
   rw[hX.is]
   have hz0:nth .msg (o6 w.map (nth .srv w.servers x.dest.toNat) w.stores w.table x).out 0=z ∧ ¬(o6 w.map (nth .srv w.servers x.dest.toNat) w.stores w.table x).out.length=0:=by
    obtain⟨j,hj,hjz⟩:=a0F .msg hz
    have:j=0:=by omega
    subst this
    exact⟨hjz,by omega⟩
   obtain⟨_,_,k2,hh,hw,hc⟩:=c2x hv hz0.2 (by rw[hz0.1];exact hk)
   have hor:=J9.1 (d4t hX.ok (.inl k2))
   obtain⟨hmem,hcc⟩:=H8 hh
   have hcs:=a2x hX.stos hX.ok
   have hcl:x.cell<w.map.cells:=by
    have:=(D0.1 hX.stos).2.1
    omega
   rcases hc with ⟨q,e⟩|⟨q,hn,e⟩
   ·rw[e]at hz hg ⊢
    simp only[List.mem_singleton]at hz
    subst hz
    obtain⟨p1,p2⟩:=a4I hf hX.lt hmem
    rw[hcc]at p1 p2
    obtain⟨f1,f2⟩:=d2d hw
    have:=ho.old x.cell hcs.1 hcl _ p2 _ (by rw[←p1];exact f1)
    rcases this with h|h
    ·omega
    ·rw[f2,q]at h
     exact h
   ·have er:o7 x=⟨1,x.ord,0,y8,0⟩:=by rw[o7,if_pos k2]
    rw[e]at hz hg hwr ⊢
    simp only[List.mem_singleton]at hz
    subst hz
    cases hwr with
    |no h =>
     exfalso
     have h3:=(h.same x.cell).2
     simp only at h3
     rw[L8 hcs.2.1,if_pos rfl]at h3
     have h4:=congrArg List.length h3
     simp only[n8,stAt,List.length_append,List.length_cons,List.length_nil]at h4
     omega
    |yes h _ _ hss _ =>
     have hnw:=a5W h
     refine⟨x.cell,(stAt w.stores x.cell).recs.length,hcs.1,hcl,?_,?_,?_,?_,?_⟩
     ·simp only at hnw ⊢
      rw[hnw.2.1];omega
     ·simp only at hnw ⊢
      rw[hnw.1,er]
     ·simp only at hnw ⊢
      rw[hnw.1,er];rfl
     ·simp only at hnw ⊢
      rw[hnw.1,er];rfl
     ·simp only at hnw ⊢
      rw[hnw.1,hnw.2.2,hss];rfl
 ·
  have quiet:w'.notes=w.notes → ∀n∈w'.notes,Was w.map w'.stores n.who n.seq n.code:=fun h n hn=>by
   rw[h]at hn
   exact(ho.notes n hn).grow hg
  cases hs with
  |gate i hi hd =>
   intro n hn
   unfold a1y wCut at hn
   simp only at hn
   split at hn
   ·rename_i hc
    rcases List.mem_append.1 hn with hn|hn
    ·exact(ho.notes n hn).grow hg
    ·simp only[List.mem_singleton]at hn
     subst hn
     exact(ho.told _ (s4 .msg hi) (c8b hc.1)).grow hg
   ·exact(ho.notes n hn).grow hg
  |hear i hi hd =>
   obtain⟨X,hX,e⟩:=heard hok hi hd
   exact quiet (by rw[e];rfl)
  |_=>exact quiet rfl
theorem a5Z {L:List Int} {f:Int→Int} {w:Wld} (hL:L.Nodup) (h:Whole L f w) (e:Evt):Whole L f (b9 w e)∧Goes w.map w.stores (b9 w e).stores∧(b9 w e).map=w.map:=by
 have hi:=b9O e h.inv
 have he:b9 w e=v5 w e:=by simp[b9,h.inv.ok]
 have hs:=a3v w e
 rw[←he]at hs
 obtain⟨e1,hd⟩:=d2r h.inv.ok h.inv.fence h.inv.mail hs
 have hI:=h.one hL
 obtain⟨hg,hp⟩:=d2s hI h.pl hd
 have hp':Pl L (b9 w e).map (b9 w e).stores:=by rw[e1];exact hp
 have hI':=b4o hi.ok hi.mail hL hp'
 refine⟨⟨hi,hp',c6P h.inv.ok hi.ok h.inv.fence h.inv.mail hI (by rw[←e1];exact hI') hg h.once hs⟩,hg,e1⟩
theorem c6w {L:List Int} {f:Int→Int} {w0 w:Wld} (hL:L.Nodup) (h0:Whole L f w0) (h:Ran w0 w):Whole L f w∧w.map=w0.map:=by
 induction h with
 |refl=>exact⟨h0,rfl⟩
 |step e _ ih =>
  have:=a5Z hL ih.1 e
  exact⟨this.1,this.2.2.trans ih.2⟩
theorem a9V {n:Nat} {p:Wlk→Int} : ∀ {l:List Wlk},(∀x∈l,0≤p x∧(p x).toNat<n)→((List.range n).flatMap fun(c:Nat)=>l.filter fun x=>decide (p x=(c:Int))).Perm l
 |[],_=>by
  have:((List.range n).flatMap fun(c:Nat)=>([]:List Wlk).filter fun x=>decide (p x=(c:Int))) = []:=by simp
  rw[this]
 |x::l,h=>by
  have ih:=a9V (n:=n) (p:=p) (l:=l) fun y hy=>h y (List.mem_cons_of_mem _ hy)
  obtain⟨h0,h1⟩:=h x List.mem_cons_self
  obtain⟨R,a1,a2⟩:=b6Y (L:=List.range n) List.nodup_range (List.mem_range.2 h1) (f:=fun(c:Nat)=>l.filter fun y=>decide (p y=(c:Int))) (f':=fun(c:Nat)=>(x::l).filter fun y=>decide (p y=(c:Int))) (fun c hc hne=>by
   show(x::l).filter _=l.filter _
   rw[List.filter_cons_of_neg]
   simp only[decide_eq_true_eq]
   omega)
  refine a2.trans ?_
  have e:(x::l).filter (fun y=>decide (p y=(((p x).toNat:Nat):Int)))=x::l.filter (fun y=>decide (p y=(((p x).toNat:Nat):Int))):=by
   rw[List.filter_cons_of_pos]
   simp only[decide_eq_true_eq]
   omega
  show((x::l).filter (fun y=>decide (p y=(((p x).toNat:Nat):Int)))++R).Perm (x::l)
  rw[e]
  exact(a1.symm.trans ih).cons x
theorem c5J {l:List Wlk} {w:Wld} (h:Beg l w):(allO w.map w.stores).Perm (E1 l):=by
 have hp:s0 w.map=true:=(D0.1 (n0.1 h.ok).2.1).1
 have hpi:=o8.1 hp
 have hcx : ∀c:Int,0≤c→c<w.map.cells→cX w.map w.stores c=⟨c,O4 w.map c l l.length,0,[[],[]],[0,0],[0,0]⟩:=fun c h0 h1=>by rw[c2Y h h0 h1,a3l hp h0 h1 h.all]
 have hfl : ∀c s,fl w.map w.stores c s = []:=fun c s=>by
  unfold fl
  split
  ·rfl
  ·rename_i hs
   have hi:=D8 hs
   have:ouX w.map w.stores c s = []:=by
    unfold ouX
    rw[hcx c hi.1 hi.2.1]
    exact d0Z _
   rw[this]
   rfl
 have e2:((a3S w.map).flatMap fun e=>flyO (fl w.map w.stores (e.1:Int) (e.2:Int))) = []:=by
  rw[List.flatMap_eq_nil_iff]
  intro e _
  rw[hfl]
  rfl
 have e1:((N2 w.map).flatMap fun(c:Nat)=>E1 (cX w.map w.stores (c:Int)).wlks)=E1 ((List.range w.map.cells.toNat).flatMap fun(c:Nat)=>l.filter fun x=>decide (l8 w.map x.pos=(c:Int))):=by
  unfold E1
  rw[List.map_flatMap]
  rw[List.flatMap_def,List.flatMap_def]
  congr 1
  refine List.map_congr_left fun c hc => ?_
  have hcn:c<w.map.cells.toNat:=List.mem_range.1 hc
  rw[hcx (c:Int) (by omega) (by omega)]
  simp only[O4,List.take_length]
  rfl
 unfold allO
 rw[e1,e2,List.append_nil]
 refine(a9V fun x hx => ?_).map _
 have hw:=z5.1 ((a1x.1 h.all).1 x hx)
 obtain⟨q1,q2,q3,q4⟩:=M8 hw.2.2.1
 have h1:l8 w.map x.pos<w.map.cells:=by
  rw[q4]
  exact Int.ediv_lt_of_lt_mul (by omega) q3
 have h0:0≤l8 w.map x.pos:=by
  rw[q4]
  exact Int.ediv_nonneg q2 (by omega)
 omega
theorem b2b {m:PMap} {l:List Wlk} (h:A5 m l=true):(l.map fun w=>w.id).Pairwise (· < ·):=List.pairwise_map.2 ((b5G l).1 (a8x h))
theorem c7J {m:PMap} {l:List Wlk} (h:A5 m l=true):(l.map fun w=>w.id).Nodup:=(b2b h).imp fun hab=>by omega
theorem c8A {l:List Wlk} {w:Wld} (h:Beg l w):Whole (l.map fun w=>w.id) (a9y w.rows) w:=by
 have hp:s0 w.map=true:=(D0.1 (n0.1 h.ok).2.1).1
 have hcx : ∀c:Int,0≤c→c<w.map.cells→cX w.map w.stores c=⟨c,O4 w.map c l l.length,0,[[],[]],[0,0],[0,0]⟩:=fun c h0 h1=>by rw[c2Y h h0 h1,a3l hp h0 h1 h.all]
 have hnr : ∀c i,0≤c→c<w.map.cells → ¬i<(stAt w.stores c).recs.length:=fun c i c0 c1=>by rw[(h.recs c c0 c1).1];simp
 have hz : ∀x∈allO w.map w.stores,x.wlk.seq=0:=fun x hx=>by
  have:=(c5J h).mem_iff.1 hx
  obtain⟨v,hv,rfl⟩:=List.mem_map.1 this
  exact(h.fresh v hv).1
 refine⟨c5I h,⟨fun c s hs => ?_,?_⟩,⟨fun c i c0 c1 hi=>absurd hi (hnr c i c0 c1),fun c i c' i' c0 c1 _ _ hi=>absurd hi (hnr c i c0 c1),fun x hx => .inl (hz x (b9y.1 hx)),fun c c0 c1 k hk v hv => ?_,fun x hx => ?_,fun n hn => ?_⟩⟩
 ·have hi:=D8 hs
  unfold nxX
  rw[hcx c hi.1 hi.2.1]
  have : @Eq Int (nth .int [0,0] s.toNat) 0:=d1a _
  rw[this]
  omega
 ·have:=(c5J h).map oid
  unfold E1 at this
  rw[List.map_map]at this
  exact this
 ·rw[(h.recs c c0 c1).1]at hk
  have hk0:k=0:=by simpa using hk
  subst hk0
  have e:pfX w.map w.stores c 0=a0x w.map c l:=(h.recs c c0 c1).2
  rw[e,a3l hp c0 c1 h.all]at hv
  simp only[O4,List.take_length]at hv
  exact .inl (h.fresh v (List.mem_filter.1 hv).1).1
 ·rw[h.net]at hx;cases hx
 ·rw[h.notes]at hn;cases hn
theorem OkOne.setW {m:PMap} {ws:List OW} {g:List Int} {a:List (List Int)} (h:OkOne m ws g a) {k:Nat} {y:OW} (hk:k<ws.length) (hid:y.wlk.id=(nth .ow ws k).wlk.id) (hok:P9 m y.wlk=true):OkOne m (ws.set k y) g a:=by
 have hids : ∀i,(nth .ow (ws.set k y) i).wlk.id=(nth .ow ws i).wlk.id:=fun i=>by
  rw[H5 .ow hk]
  split
  ·rename_i e;rw[e,hid]
  ·rfl
 refine⟨h.plc,h.gl,h.al,h.Y6,fun i hi => ?_,fun i hi h0 => ?_⟩
 ·rw[H5 .ow hk]
  split
  ·exact hok
  ·exact h.ok i (by simpa using hi)
 ·rw[hids,hids]
  exact h.sort i (by simpa using hi) h0
theorem OkOne.setG {m:PMap} {ws:List OW} {g:List Int} {a:List (List Int)} (h:OkOne m ws g a) {c:Nat} {x:Int} (hc:c<g.length) (h0:0≤x) (h1:x≤900):OkOne m ws (g.set c x) a:=by
 refine⟨h.plc,by rw[List.length_set];exact h.gl,h.al,fun i hi => ?_,h.ok,h.sort⟩
 have:=h.Y6 i (by simpa using hi)
 refine⟨?_,?_,this.2.2⟩
 ·rw[H5 .int hc]
  split
  ·exact h0
  ·exact this.1
 ·rw[H5 .int hc]
  split
  ·exact h1
  ·exact this.2.1
theorem OkOne.setA {m:PMap} {ws:List OW} {g:List Int} {a:List (List Int)} (h:OkOne m ws g a) {c s:Int} {x:Int} (hc0:0≤c) (hc:c<m.cells) (hs:s=0∨s=1) (h0:0≤x) (h1:x≤100000):OkOne m ws g (a.set c.toNat ((nth .ints a c.toNat).set s.toNat x)):=by
 have hca:c.toNat<a.length:=by have:=h.al;omega
 refine⟨h.plc,h.gl,by rw[List.length_set];exact h.al,fun i hi => ?_,h.ok,h.sort⟩
 have hp:=h.Y6 i hi
 by_cases he:i=c.toNat
 ·subst he
  have e : @Eq (List Int) (nth .ints (a.set c.toNat ((nth .ints a c.toNat).set s.toNat x)) c.toNat) ((nth .ints a c.toNat).set s.toNat x):=l9 .ints hca
  rw[e]
  obtain⟨p1,p2,p3,p4,p5,p6,p7⟩:=hp
  refine⟨p1,p2,by rw[List.length_set];exact p3,?_⟩
  rcases hs with rfl|rfl
  ·have e0 : @Eq Int (nth .int ((nth .ints a c.toNat).set (0:Int).toNat x) 0) x:=l9 .int (by show 0<_;omega)
   have e1 : @Eq Int (nth .int ((nth .ints a c.toNat).set (0:Int).toNat x) 1) (nth .int (nth .ints a c.toNat) 1):=n6 .int (by decide)
   rw[e0,e1]
   exact⟨h0,h1,p6,p7⟩
  ·have e1 : @Eq Int (nth .int ((nth .ints a c.toNat).set (1:Int).toNat x) 1) x:=l9 .int (by show 1<_;omega)
   have e0 : @Eq Int (nth .int ((nth .ints a c.toNat).set (1:Int).toNat x) 0) (nth .int (nth .ints a c.toNat) 0):=n6 .int (by decide)
   rw[e0,e1]
   exact⟨p4,p5,h0,h1⟩
 ·have e : @Eq (List Int) (nth .ints (a.set c.toNat ((nth .ints a c.toNat).set s.toNat x)) i) (nth .ints a i):=n6 .ints (fun q=>he q.symm)
  rw[e]
  exact hp
theorem c5N {a:List (List Int)} {c:Nat} {s x:Int} (hc:c<a.length) (h2:(nth .ints a c).length=2) (hs:s=0∨s=1):sumL airC (a.set c ((nth .ints a c).set s.toNat x))=sumL airC a+(x-nth .int (nth .ints a c) s.toNat):=by
 rw[a0L .ints airC hc]
 have:airC ((nth .ints a c).set s.toNat x)=airC (nth .ints a c)+(x-nth .int (nth .ints a c) s.toNat):=by
  unfold airC
  rcases hs with rfl|rfl
  ·have e0 : @Eq Int (nth .int ((nth .ints a c).set (0:Int).toNat x) 0) x:=l9 .int (by show 0<_;omega)
   have e1 : @Eq Int (nth .int ((nth .ints a c).set (0:Int).toNat x) 1) (nth .int (nth .ints a c) 1):=n6 .int (by decide)
   rw[e0,e1]
   have arith : ∀p q:Int,x+q=p+q+(x-p):=fun p q=>by omega
   exact arith _ _
  ·have e1 : @Eq Int (nth .int ((nth .ints a c).set (1:Int).toNat x) 1) x:=l9 .int (by show 1<_;omega)
   have e0 : @Eq Int (nth .int ((nth .ints a c).set (1:Int).toNat x) 0) (nth .int (nth .ints a c) 0):=n6 .int (by decide)
   rw[e0,e1]
   have arith : ∀p q:Int,p+x=p+q+(x-q):=fun p q=>by omega
   exact arith _ _
 rw[this]
 have arith : ∀S p q:Int,S-p+(p+(x-q))=S+(x-q):=fun S p q=>by omega
 exact arith _ _ _
theorem c1R {o:One} {r:Ord} (ho:I3 o=true) (hr:O2 r=true):KeepC o (a4C o r).o:=by
 have hk:=S5.1 ho
 have self:KeepC o o:=⟨ho,rfl,rfl⟩
 have hord:=J9.1 hr
 unfold a4C
 simp only
 split
 ·exact self
 rename_i g0
 have g0:=Classical.not_not.1 g0
 split
 ·exact self
 rename_i g1
 split
 ·exact self
 rename_i g2
 have hlt:=a7o o.wlks r.who
 have hid:=b4m g0.1
 have hkl:(m6 o.wlks r.who).toNat<o.wlks.length:=by omega
 have hw:=z5.1 (hk.ok _ hkl)
 generalize hK:(m6 o.wlks r.who).toNat=k at *
 generalize hX:nth .ow o.wlks k=x at *
 have hxw:nth .ow o.wlks k=x:=hX
 have hcell:=M8 hw.2.2.1
 have hcl:0≤l8 o.map x.wlk.pos∧l8 o.map x.wlk.pos<o.map.cells:=by
  have q5:=o8.1 hcell.1
  rw[hcell.2.2.2]
  exact⟨Int.ediv_nonneg hcell.2.1 (by omega),Int.ediv_lt_of_lt_mul (by omega) hcell.2.2.1⟩
 have hgl:(l8 o.map x.wlk.pos).toNat<o.ground.length:=by have:=hk.gl;omega
 have hpu:=hk.Y6 _ hgl
 have fin : ∀(w:Wlk) (here:Bool) (g:List Int) (a:List (List Int)) (code:Int),w.id=x.wlk.id→P9 o.map ⟨w.id,w.pos,w.j9,r.seq,code⟩=true→OkOne o.map o.wlks g a→w.j9-x.wlk.j9+sumL idI g+sumL airC a=sumL idI o.ground+sumL airC o.air →
   KeepC o (oFin o k w r.seq here g a code).o:=fun w here g a code hwid hwok hga ht=>by
  refine⟨S5.2 (hga.setW hkl (by rw[hxw];exact hwid) hwok),?_,rfl⟩
  unfold a2E
  show sumL owC (o.wlks.set k _)+sumL idI g+sumL airC a=_
  rw[a0L .ow owC hkl,hxw]
  show sumL owC o.wlks-x.wlk.j9+w.j9+sumL idI g+sumL airC a=sumL owC o.wlks+sumL idI o.ground+sumL airC o.air
  omega
 have fin0 : ∀(here:Bool) (code:Int),0≤code→code≤9→KeepC o (oFin o k x.wlk r.seq here o.ground o.air code).o:=fun here code c0 c1=>by
  refine fin x.wlk here o.ground o.air code rfl ?_ hk (by omega)
  rw[z5]
  exact⟨hw.1,hw.2.1,hw.2.2.1,hw.2.2.2.1,hw.2.2.2.2.1,by show 0≤r.seq;omega,by show r.seq≤900;omega,c0,c1⟩
 unfold b9x
 split
 ·unfold c4F
  split
  ·exact fin0 _ _ (by decide) (by decide)
  ·rename_i q
   refine fin _ _ _ _ _ rfl ?_ hk (by show x.wlk.j9-x.wlk.j9+_+_=_;omega)
   rw[z5]
   exact⟨hw.1,hw.2.1,q,hw.2.2.2.1,hw.2.2.2.2.1,by show 0≤r.seq;omega,by show r.seq≤900;omega,by show(0:Int)≤1;decide,by show(1:Int)≤9;decide⟩
 split
 ·rename_i k1 k2
  unfold c4H
  simp only
  split
  ·exact fin0 _ _ (by decide) (by decide)
  split
  ·exact fin0 _ _ (by decide) (by decide)
  split
  ·exact fin0 _ _ (by decide) (by decide)
  rename_i q1 q2 q3
  have hj:=Classical.not_not.1 q1
  have hjl:=a7o o.wlks r.dest
  have hjid:=b4m hj.1
  have hjk:(m6 o.wlks r.dest).toNat≠k:=fun e=>by
   rw[e,hxw,hid]at hjid
   exact a1G hr k2 hjid.symm
  have hjl2:(m6 o.wlks r.dest).toNat<o.wlks.length:=by omega
  have hv:=z5.1 (hk.ok _ hjl2)
  generalize hV:nth .ow o.wlks (m6 o.wlks r.dest).toNat=v at *
  have h1:=hk.setW hkl (y:=⟨⟨x.wlk.id,x.wlk.pos,x.wlk.j9-r.n,r.seq,1⟩,true⟩) (by rw[hxw]) (by
   rw[z5]
   exact⟨hw.1,hw.2.1,hw.2.2.1,by show 0≤x.wlk.j9-r.n;omega,by show x.wlk.j9-r.n≤99;omega,by show 0≤r.seq;omega,by show r.seq≤900;omega,by show(0:Int)≤1;decide,by show(1:Int)≤9;decide⟩)
  have hjl3:(m6 o.wlks r.dest).toNat<(o.wlks.set k ⟨⟨x.wlk.id,x.wlk.pos,x.wlk.j9-r.n,r.seq,1⟩,true⟩).length:=by simpa using hjl2
  have hnv:nth .ow (o.wlks.set k ⟨⟨x.wlk.id,x.wlk.pos,x.wlk.j9-r.n,r.seq,1⟩,true⟩) (m6 o.wlks r.dest).toNat=v:=by rw[n6 .ow (fun e=>hjk e.symm),hV]
  have h2:=h1.setW hjl3 (y:=⟨⟨v.wlk.id,v.wlk.pos,v.wlk.j9+r.n,v.wlk.seq,v.wlk.last⟩,v.here⟩) (by rw[hnv]) (by
   rw[z5]
   exact⟨hv.1,hv.2.1,hv.2.2.1,by show 0≤v.wlk.j9+r.n;omega,by show v.wlk.j9+r.n≤99;omega,hv.2.2.2.2.2⟩)
  refine⟨S5.2 h2,?_,rfl⟩
  unfold a2E
  show sumL owC ((o.wlks.set k _).set (m6 o.wlks r.dest).toNat _)+sumL idI o.ground+sumL airC o.air=_
  rw[a0L .ow owC hjl3,hnv,a0L .ow owC hkl,hxw]
  show sumL owC o.wlks-x.wlk.j9+(x.wlk.j9-r.n)-v.wlk.j9+(v.wlk.j9+r.n)+sumL idI o.ground+sumL airC o.air=sumL owC o.wlks+sumL idI o.ground+sumL airC o.air
  omega
 split
 ·unfold c4I
  simp only
  split
  ·exact fin0 _ _ (by decide) (by decide)
  split
  ·exact fin0 _ _ (by decide) (by decide)
  rename_i q1 q2
  refine fin _ _ _ _ _ rfl ?_ (hk.setG hgl (Int.add_nonneg hpu.1 (by omega)) (Int.not_lt.1 q2)) ?_
  ·rw[z5]
   exact⟨hw.1,hw.2.1,hw.2.2.1,by show 0≤x.wlk.j9-r.n;omega,by show x.wlk.j9-r.n≤99;omega,by show 0≤r.seq;omega,by show r.seq≤900;omega,by show(0:Int)≤1;decide,by show(1:Int)≤9;decide⟩
  ·rw[a0L .int idI hgl]
   show x.wlk.j9-r.n-x.wlk.j9+(sumL idI o.ground-(nth .int o.ground (l8 o.map x.wlk.pos).toNat:Int)+((nth .int o.ground (l8 o.map x.wlk.pos).toNat:Int)+r.n))+sumL airC o.air=_
   generalize (nth .int o.ground (l8 o.map x.wlk.pos).toNat:Int)=p
   omega
 split
 ·unfold c4G
  simp only
  split
  ·exact fin0 _ _ (by decide) (by decide)
  split
  ·exact fin0 _ _ (by decide) (by decide)
  rename_i q1 q2
  refine fin _ _ _ _ _ rfl ?_ (hk.setG hgl (Int.sub_nonneg.2 (Int.not_lt.1 q1)) (Int.le_trans (Int.sub_le_self _ (by omega)) hpu.2.1)) ?_
  ·rw[z5]
   exact⟨hw.1,hw.2.1,hw.2.2.1,by show 0≤x.wlk.j9+r.n;omega,by show x.wlk.j9+r.n≤99;omega,by show 0≤r.seq;omega,by show r.seq≤900;omega,by show(0:Int)≤1;decide,by show(1:Int)≤9;decide⟩
  ·rw[a0L .int idI hgl]
   show x.wlk.j9+r.n-x.wlk.j9+(sumL idI o.ground-(nth .int o.ground (l8 o.map x.wlk.pos).toNat:Int)+((nth .int o.ground (l8 o.map x.wlk.pos).toNat:Int)-r.n))+sumL airC o.air=_
   generalize (nth .int o.ground (l8 o.map x.wlk.pos).toNat:Int)=p
   omega
 split
 ·unfold b6D
  simp only
  split
  ·exact fin0 _ _ (by decide) (by decide)
  rename_i q0
  split
  ·exact fin0 _ _ (by decide) (by decide)
  split
  ·exact fin0 _ _ (by decide) (by decide)
  rename_i q1 q2
  have he:b7 o.map (l8 o.map x.wlk.pos) r.dest ≠ -1:=by
   have q0:J2 o.map x.wlk.pos r.dest=true:=by simpa using q0
   unfold J2 at q0
   simp only[decide_eq_true_eq]at q0
   exact q0.1
  have hb:=z6 he
  have hal:(b7 o.map (l8 o.map x.wlk.pos) r.dest).toNat<o.air.length:=by have:=hk.al;omega
  have hpa:=hk.Y6 (b7 o.map (l8 o.map x.wlk.pos) r.dest).toNat (by have:=hk.gl;omega)
  have hs:1-r.dest=0∨1-r.dest=1:=by omega
  have hnn : @LE.le Int _ 0 (nth .int (nth .ints o.air (b7 o.map (l8 o.map x.wlk.pos) r.dest).toNat) (1-r.dest).toNat):=by
   rcases hs with e|e<;>rw[e]
   ·exact hpa.2.2.2.1
   ·exact hpa.2.2.2.2.2.1
  refine fin _ _ _ _ _ rfl ?_ (hk.setA hb.2.2.2.2.1 hb.2.2.2.2.2.1 hs (Int.add_nonneg hnn (by omega)) (Int.not_lt.1 q2)) ?_
  ·rw[z5]
   exact⟨hw.1,hw.2.1,hw.2.2.1,by show 0≤x.wlk.j9-r.n;omega,by show x.wlk.j9-r.n≤99;omega,by show 0≤r.seq;omega,by show r.seq≤900;omega,by show(0:Int)≤1;decide,by show(1:Int)≤9;decide⟩
  ·unfold a3V
   rw[c5N hal hpa.2.2.1 hs]
   generalize (nth .int (nth .ints o.air (b7 o.map (l8 o.map x.wlk.pos) r.dest).toNat) (1-r.dest).toNat:Int)=p
   show x.wlk.j9-r.n-x.wlk.j9+sumL idI o.ground+(sumL airC o.air+(p+r.n-p))=_
   omega
 exact fin0 _ _ (by decide) (by decide)
theorem b6p {o:One} {id:Int} (ho:I3 o=true):KeepC o (a5p o id):=by
 have hk:=S5.1 ho
 unfold a5p
 split
 ·have hlt:=a7o o.wlks id
  have hkl:(m6 o.wlks id).toNat<o.wlks.length:=by omega
  refine⟨S5.2 (hk.setW hkl rfl (hk.ok _ hkl)),?_,rfl⟩
  unfold a2E
  show sumL owC (o.wlks.set (m6 o.wlks id).toNat _)+sumL idI o.ground+sumL airC o.air=_
  rw[a0L .ow owC hkl]
  show sumL owC o.wlks-(nth .ow o.wlks (m6 o.wlks id).toNat).wlk.j9+(nth .ow o.wlks (m6 o.wlks id).toNat).wlk.j9+sumL idI o.ground+sumL airC o.air=sumL owC o.wlks+sumL idI o.ground+sumL airC o.air
  omega
 ·exact⟨ho,rfl,rfl⟩
theorem b6q {o:One} {c s n:Int} (ho:I3 o=true):KeepC o (a5q o c s n):=by
 have hk:=S5.1 ho
 unfold a5q
 split
 ·rename_i h
  obtain⟨c0,c1,hs,n1,n2,n3⟩:=h
  have hgl:c.toNat<o.ground.length:=by have:=hk.gl;omega
  have hal:c.toNat<o.air.length:=by have:=hk.al;omega
  have hp:=hk.Y6 _ hgl
  have hle : @LE.le Int _ (nth .int (nth .ints o.air c.toNat) s.toNat) 100000:=by
   rcases hs with rfl|rfl
   ·exact hp.2.2.2.2.1
   ·exact hp.2.2.2.2.2.2
  refine⟨S5.2 ((hk.setG hgl (Int.add_nonneg hp.1 (by omega)) n3).setA c0 c1 hs (Int.sub_nonneg.2 n2) (Int.le_trans (Int.sub_le_self _ (by omega)) hle)),?_,rfl⟩
  unfold a2E
  simp only
  rw[c5N hal hp.2.2.1 hs,a0L .int idI hgl]
  generalize (nth .int (nth .ints o.air c.toNat) s.toNat:Int)=p
  show sumL owC o.wlks+(sumL idI o.ground-(nth .int o.ground c.toNat:Int)+((nth .int o.ground c.toNat:Int)+n))+(sumL airC o.air+(p-n-p))=_
  generalize (nth .int o.ground c.toNat:Int)=q
  omega
 ·exact⟨ho,rfl,rfl⟩
theorem c2F {m:PMap} {st st':List Sto} (hI:OneInv m st) (h:Goes m st st'):a2E (m7 m st').wlks (m7 m st').ground (m7 m st').air=a2E (m7 m st).wlks (m7 m st).ground (m7 m st).air:=by
 have ho:=d0q hI
 cases h with
 |quiet h e=>rw[e]
 |word d r h hd hk e=>rw[e]
 |land d r h hd hk hw e=>rw[←e];exact(b6p ho).tot
 |down d r h hd hk hw e=>rw[←e];exact(b6q ho).tot
 |order d r h hd hk e =>
  have:=(c1R (r:=r.ord) ho (a3O hI h hd hk).1).tot
  rw[e]at this
  exact this
def BegE (w:Wld):Prop := ∃l,Beg l w
theorem c8D {w:Wld} (h:BegE w) (c d:Int):BegE (b9 (b9 w ⟨1,c,0,d,0⟩) ⟨4,0,0,0,0⟩):=let ⟨l,h⟩:=h;⟨l,d2T h c d⟩
theorem c5K {w:Wld} (h:BegE w):j8 w=true:=let ⟨_,h⟩:=h;h.ok
def c4l (w:Wld) (l:List Evt):Wld:=l.foldl b9 w
def a1k (w:Wld) (l:List Evt) (k:Nat):Wld:=c4l w (l.take k)
theorem b6a (w:Wld) (l:List Evt):a1k w l 0=w:=rfl
theorem a7h {w:Wld} {l:List Evt} {k:Nat} (h:k<l.length):a1k w l (k+1)=b9 (a1k w l k) (nth .evt l k):=by
 unfold a1k c4l
 rw[List.take_succ_eq_append_getElem h,List.foldl_append,l6 .evt l k h]
 rfl
theorem b8L {w:Wld} {l:List Evt} {k:Nat} (h:l.length≤k):a1k w l k=c4l w l:=by
 unfold a1k
 rw[List.take_of_length_le h]
theorem d2V {w:Wld} (h:BegE w):From w:=let ⟨l,h⟩:=h;⟨l,w,h,.refl⟩
theorem c8d {w:Wld} (h:From w) (e:Evt):From (b9 w e):=let ⟨l,w0,h0,hr⟩:=h;⟨l,w0,h0,.step e hr⟩
theorem c2H {w:Wld} (h:From w) : ∃L,L.Pairwise (· < ·)∧Whole L (fun _=>0) w:=by
 obtain⟨l,w0,h0,hr⟩:=h
 have hw:=c8A h0
 have hf:a9y w0.rows=fun _=>0:=funext fun who=>c5F h0 who
 rw[hf]at hw
 exact⟨_,b2b h0.all,(c6w (c7J h0.all) hw hr).1⟩
section
variable {a b:List Sto} {k n:Nat}
end
end Go.Mo
