/-
  Plain models: the one world.
-/
import Derived.Test.YtiioognflecdgaaGreatM2
import Derived.Test.YtiioognflecdgaaGreatS5
import Derived.Test.YtiioognflecdgaaGreatM3
set_option linter.unusedVariables false
set_option linter.unusedSimpArgs false
namespace Go.Mo
open Go.Sx
def ows (l:List OW):List Wlk:=l.map fun x=>x.wlk
theorem b4j (l:List OW):(ows l).length=l.length:=by simp[ows]
theorem c1v {l:List OW} {i:Nat} (h:i<l.length):nth .wlk (ows l) i=(nth .ow l i).wlk:=by
 rw[l7 .wlk _ i (by rw[b4j];exact h),l7 .ow l i h]
 simp[ows]
def owAt (m:PMap) (l:List OW) (i:Nat):Bool:=Q8 m (nth .ow l i).wlk&&(decide (i=0)||decide ((nth .ow l (i-1)).wlk.id<(nth .ow l i).wlk.id))
theorem d0b (m:PMap) (l:List OW):z6 m (ows l)=l9 l.length (owAt m l):=by
 unfold z6
 rw[b4j]
 have : ∀k,k≤l.length→l9 k (a2S m (ows l))=l9 k (owAt m l):=by
  intro k
  induction k with
  |zero=>intro _;rfl
  |succ k ih =>
   intro hk
   rw[n3,n3,ih (by omega)]
   unfold a2S owAt
   rw[c1v (by omega)]
   by_cases h0:k=0
   ·simp[h0]
   ·rw[c1v (i:=k-1) (by omega)]
 exact this _ (Nat.le_refl _)
def a8G (o:One):Bool:=decide (p7 o.map=true∧(o.ground.length:Int)=o.map.cells∧(o.air.length:Int)=o.map.cells)
def b2v (o:One) (i:Nat):Bool:=decide (0≤nth .int o.ground i∧nth .int o.ground i≤900∧(nth .ints o.air i).length=2∧0≤nth .int (nth .ints o.air i) 0∧nth .int (nth .ints o.air i) 0≤100000∧0≤nth .int (nth .ints o.air i) 1∧nth .int (nth .ints o.air i) 1≤100000)
def b4e (o:One):Bool:=l9 o.ground.length (b2v o)
def a2X (o:One):Bool:=a8G o&&b4e o&&l9 o.wlks.length (owAt o.map o.wlks)
theorem a8b {o:One}:a8G o=true↔p7 o.map=true∧(o.ground.length:Int)=o.map.cells∧(o.air.length:Int)=o.map.cells:=by simp[a8G]
theorem a4h {o:One}:a2X o=true↔a8G o=true∧b4e o=true∧l9 o.wlks.length (owAt o.map o.wlks)=true:=by simp[a2X,and_assoc]
theorem d0h {o:One} (h:a2X o=true) {k:Nat} (hk:k<o.wlks.length):Q8 o.map (nth .ow o.wlks k).wlk=true∧(0<k→(nth .ow o.wlks (k-1)).wlk.id<(nth .ow o.wlks k).wlk.id):=by
 have:=(l6 _ _).1 (a4h.1 h).2.2 k hk
 simp only[owAt,Bool.and_eq_true,Bool.or_eq_true,decide_eq_true_eq]at this
 exact⟨this.1,fun h0=>this.2.resolve_left (by omega)⟩
def isOw (id:Int) (x:OW):Bool:=decide (x.wlk.id=id)
def a5Z (l:List OW) (id:Int):Int:=idx (isOw id) l
structure OC where
 o:One
 code:Int
def oSet (o:One) (k:Nat) (x:OW) (g:List Int) (a:List (List Int)):One:=⟨o.map,o.wlks.set k x,g,a⟩
def oFin (o:One) (k:Nat) (w:Wlk) (seq:Int) (here:Bool) (g:List Int) (a:List (List Int)) (code:Int):OC:=⟨oSet o k ⟨⟨w.id,w.pos,w.n0,seq,code⟩,here⟩ g a,code⟩
def d3n (a:List (List Int)) (d s:Int) (n:Int):List (List Int):=a.set d.toNat ((nth .ints a d.toNat).set s.toNat (nth .int (nth .ints a d.toNat) s.toNat+n))
def d3u (o:One) (k:Nat) (w:Wlk) (r:Ord):OC :=
 if m5 o.map (w.pos+(2 * r.dest-1)) = -1 then oFin o k w r.seq true o.ground o.air 2
 else oFin o k ⟨w.id,w.pos+(2 * r.dest-1),w.n0,w.seq,w.last⟩ r.seq (decide (m5 o.map (w.pos+(2 * r.dest-1))=m5 o.map w.pos)) o.ground o.air 1
def d3x (o:One) (k:Nat) (w:Wlk) (r:Ord):OC :=
 let j:=a5Z o.wlks r.dest
 let v:=nth .ow o.wlks j.toNat
 if ¬(0≤j∧v.here=true∧m5 o.map v.wlk.pos=m5 o.map w.pos)then oFin o k w r.seq true o.ground o.air 4
 else if w.n0<r.n then oFin o k w r.seq true o.ground o.air 3
 else if 99<v.wlk.n0+r.n then oFin o k w r.seq true o.ground o.air 5
 else⟨⟨o.map,(o.wlks.set k ⟨⟨w.id,w.pos,w.n0-r.n,r.seq,1⟩,true⟩).set j.toNat ⟨⟨v.wlk.id,v.wlk.pos,v.wlk.n0+r.n,v.wlk.seq,v.wlk.last⟩,v.here⟩,o.ground,o.air⟩,1⟩
def d3y (o:One) (k:Nat) (w:Wlk) (r:Ord):OC :=
 let c:=(m5 o.map w.pos).toNat
 if w.n0<r.n then oFin o k w r.seq true o.ground o.air 3
 else if 900<nth .int o.ground c+r.n then oFin o k w r.seq true o.ground o.air 5
 else oFin o k ⟨w.id,w.pos,w.n0-r.n,w.seq,w.last⟩ r.seq true (o.ground.set c (nth .int o.ground c+r.n)) o.air 1
def d3v (o:One) (k:Nat) (w:Wlk) (r:Ord):OC :=
 let c:=(m5 o.map w.pos).toNat
 if nth .int o.ground c<r.n then oFin o k w r.seq true o.ground o.air 6
 else if 99<w.n0+r.n then oFin o k w r.seq true o.ground o.air 5
 else oFin o k ⟨w.id,w.pos,w.n0+r.n,w.seq,w.last⟩ r.seq true (o.ground.set c (nth .int o.ground c-r.n)) o.air 1
def d2M (o:One) (k:Nat) (w:Wlk) (r:Ord):OC :=
 let d:=b7 o.map (m5 o.map w.pos) r.dest
 if N8 o.map w.pos r.dest=false then oFin o k w r.seq true o.ground o.air 7
 else if w.n0<r.n then oFin o k w r.seq true o.ground o.air 3
 else if 100000<nth .int (nth .ints o.air d.toNat) (1-r.dest).toNat+r.n then oFin o k w r.seq true o.ground o.air 5
 else oFin o k ⟨w.id,w.pos,w.n0-r.n,w.seq,w.last⟩ r.seq true o.ground (d3n o.air d (1-r.dest) r.n) 1
def d3w (o:One) (k:Nat) (w:Wlk) (r:Ord):OC :=
 if r.kind=1 then d3u o k w r
 else if r.kind=2 then d3x o k w r
 else if r.kind=3 then d3y o k w r
 else if r.kind=4 then d3v o k w r
 else if r.kind=5 then d2M o k w r
 else oFin o k w r.seq true o.ground o.air 1
def d3s (o:One) (r:Ord):OC :=
 let k:=a5Z o.wlks r.who
 let x:=nth .ow o.wlks k.toNat
 if ¬(0≤k∧x.here=true)then⟨o,9⟩
 else if r.seq<x.wlk.seq then⟨o,8⟩
 else if r.seq=x.wlk.seq then⟨o,x.wlk.last⟩
 else d3w o k.toNat x.wlk r
def c9t:One:=⟨⟨0,0⟩,[],[],[]⟩
def d0k (o:One) (id:Int):One:=if 0≤a5Z o.wlks id then⟨o.map,o.wlks.set (a5Z o.wlks id).toNat ⟨(nth .ow o.wlks (a5Z o.wlks id).toNat).wlk,true⟩,o.ground,o.air⟩else o
def d0l (o:One) (c s n:Int):One :=
 if 0≤c∧c<o.map.cells∧(s=0∨s=1)∧1≤n∧n≤nth .int (nth .ints o.air c.toNat) s.toNat∧nth .int o.ground c.toNat+n≤900 then
  ⟨o.map,o.wlks,o.ground.set c.toNat (nth .int o.ground c.toNat+n),o.air.set c.toNat ((nth .ints o.air c.toNat).set s.toNat (nth .int (nth .ints o.air c.toNat) s.toNat-n))⟩
 else o
def a9S (l:List OW):Nat→Int
 | 0=>0
 |k+1=>a9S l k+(nth .ow l k).wlk.n0
def b0N (o:One):Nat→Int
 | 0=>0
 |k+1=>b0N o k+(nth .int o.ground k+nth .int (nth .ints o.air k) 0+nth .int (nth .ints o.air k) 1)
def a6d (o:One):Int:=if a2X o=true then a9S o.wlks o.wlks.length+b0N o o.ground.length else 0
theorem b8Z (l:List OW):a9S l 0=0:=rfl
theorem b9a (l:List OW) (k:Nat):a9S l (k+1)=a9S l k+(nth .ow l k).wlk.n0:=rfl
theorem b9W (o:One):b0N o 0=0:=rfl
theorem b9X (o:One) (k:Nat):b0N o (k+1)=b0N o k+(nth .int o.ground k+nth .int (nth .ints o.air k) 0+nth .int (nth .ints o.air k) 1):=rfl
theorem d0i {o:One} (h:a2X o=true):o.wlks.length≤9:=by
 have h1:z6 o.map (ows o.wlks)=true:=by rw[d0b];exact(a4h.1 h).2.2
 have:=b3K (b3J h1) fun i hi=>by
  have:=I4.1 (a3X h1 hi)
  omega
 rwa [b4j]at this
theorem c6v {m:PMap} {l:List Row} (h:A7 m l=true) : ∀j i,i<j→j<l.length→(nth .row l i).who<(nth .row l j).who:=by
 rw[A7,Bool.and_eq_true]at h
 have ha:=(l6 _ _).1 h.2
 intro j
 induction j with
 |zero=>intro i hi;omega
 |succ j ih =>
  intro i hi hj
  have:=ha (j+1) hj
  simp only[J5,Bool.and_eq_true,Bool.or_eq_true,decide_eq_true_eq,Nat.add_sub_cancel]at this
  have h2:(nth .row l j).who<(nth .row l (j+1)).who:=by omega
  by_cases hij:i=j
  ·subst hij;exact h2
  ·have:=ih i (by omega) (by omega)
   omega
theorem b6B {m:PMap} {l:List Row} {who:Int} {k:Nat} (h:A7 m l=true) (hk:k<l.length) (hw:(nth .row l k).who=who):k9 l who=k:=by
 refine b8J ((l6 _ _).2 fun i hi => ?_) hk hw
 have:=c6v h k i hi hk
 simp only[nwho,a6v,Bool.not_eq_true',decide_eq_false_iff_not]
 omega
def b2P (m:PMap) (s:Srv) (st:List Sto) (t:Arb) (v:Int) (x:Msg):Prop:=A4 m s=true∧z7 m st=true∧B8 m t v=true∧u9 m v x=true
theorem b5n {m:PMap} {s:Srv} {st:List Sto} {cell:Int} {r:Rec} (hs:HSort s.holds) :
  ((B1 m s st cell r).n=1∧(u3 m (e9 s cell) (nth .sto st cell.toNat) r).n=1∧B1 m s st cell r=⟨⟨s.up,putH s.holds ⟨(e9 s cell).age,(e9 s cell).count+1,(j8 m (e9 s cell).state r).c⟩,s.n6⟩,st.set cell.toNat ⟨(nth .sto st cell.toNat).age,(nth .sto st cell.toNat).base,(nth .sto st cell.toNat).recs ++ [r]⟩,1,(j8 m (e9 s cell).state r).code⟩) ∨
  ((B1 m s st cell r).n=2∧(u3 m (e9 s cell) (nth .sto st cell.toNat) r).n=2∧B1 m s st cell r=⟨⟨s.up,E0 s.holds cell,s.n6⟩,st,2,0⟩) ∨
  ((B1 m s st cell r).n≠1∧(B1 m s st cell r).n≠2∧(B1 m s st cell r).srv=s∧(B1 m s st cell r).stores=st):=by
 unfold B1
 simp only
 by_cases h1:(u3 m (e9 s cell) (nth .sto st cell.toNat) r).n=1
 ·obtain⟨g1,g2,g3,g4,g5,g6,g7,g8,g9,g10,g11⟩:=a8S h1
  rw[if_pos h1]
  refine .inl ⟨rfl,h1,?_⟩
  rw[g9,g10,g11,a0R hs]
 ·rw[if_neg h1]
  by_cases h2:(u3 m (e9 s cell) (nth .sto st cell.toNat) r).n=2
  ·rw[if_pos h2]
   exact .inr (.inl ⟨rfl,h2,rfl⟩)
  ·rw[if_neg h2]
   exact .inr (.inr ⟨h1,h2,rfl,rfl⟩)
def P4 (t:Arb) (cell server:Int):Msg:=⟨1,server,cell,0,nth .int t.ages cell.toNat,u6,A8,G5⟩
inductive StepC (w:Wld):Wld→Prop
 |same:StepC w w
 |grant (cell server:Int) (hg:(n4 w.table w.servers.length cell server).ok=true):StepC w (u7 ⟨w.map,w.servers,w.stores,(n4 w.table w.servers.length cell server).t,w.rows,w.net,w.notes⟩ [P4 (n4 w.table w.servers.length cell server).t cell server])
 |ask (who what dest n:Int):StepC w ⟨w.map,w.servers,w.stores,w.table,(L6 w.rows who what dest n).b,w.net,w.notes⟩
 |say (who:Int) (hs:(U0 w.rows w.table who).ok=true):StepC w (u7 w [(U0 w.rows w.table who).x])
 |gate (i:Nat) (hi:i<w.net.length) (hd:(nth .msg w.net i).dest = -1):StepC w (a3f (wCut w i) (nth .msg w.net i))
 |hear (i:Nat) (hi:i<w.net.length) (hd : ¬(nth .msg w.net i).dest = -1):StepC w (a0G (wCut w i) (nth .msg w.net i))
 |lose (i:Nat) (hi:i<w.net.length):StepC w (wCut w i)
 |twice (i:Nat) (hi:i<w.net.length):StepC w (u7 w [nth .msg w.net i])
 |tick (i:Nat) (hi:i<w.servers.length) (cell:Int):StepC w (u7 w (D1 w.map (nth .srv w.servers i) w.table cell))
 |fall (i:Nat) (hi:i<w.servers.length):StepC w ⟨w.map,w.servers.set i ⟨false,[],[]⟩,w.stores,w.table,w.rows,w.net,w.notes⟩
 |rise (i:Nat) (hi:i<w.servers.length) (hu:(nth .srv w.servers i).up=false):StepC w ⟨w.map,w.servers.set i ⟨true,[],[]⟩,w.stores,w.table,w.rows,w.net,w.notes⟩
theorem a2v (w:Wld) (e:Evt):StepC w (m9 w e):=by
 unfold m9
 by_cases k1:e.kind=1
 ·rw[if_pos k1]
  simp only
  split
  ·rename_i hg
   exact .grant e.pos e.dest hg
  ·exact .same
 rw[if_neg k1]
 by_cases k2:e.kind=2
 ·rw[if_pos k2]
  exact .ask _ _ _ _
 rw[if_neg k2]
 by_cases k3:e.kind=3
 ·rw[if_pos k3]
  split
  ·rename_i hs
   exact .say _ hs
  ·exact .same
 rw[if_neg k3]
 split
 ·split
  ·rename_i hp
   have hi:e.pos.toNat<w.net.length:=by omega
   split
   ·unfold J7
    simp only
    split
    ·rename_i hd
     exact .gate _ hi hd
    ·rename_i hd
     exact .hear _ hi hd
   ·split
    ·exact .lose _ hi
    ·exact .twice _ hi
  ·exact .same
 ·split
  ·split
   ·rename_i hp
    have hi:e.pos.toNat<w.servers.length:=by omega
    split
    ·exact .tick _ hi _
    ·split
     ·exact .fall _ hi
     ·split
      ·rename_i hu
       exact .rise _ hi hu
      ·exact .same
   ·exact .same
  ·exact .same
theorem J0 {w:Wld} {l:List Msg} {x:Msg} (h:x∈(u7 w l).net):x∈w.net∨x∈l:=by
 simp only[u7,List.mem_append]at h
 exact h.imp id List.mem_of_mem_take
theorem a7J {w:Wld} {i:Nat} {x:Msg} (h:x∈(wCut w i).net):x∈w.net:=List.mem_of_mem_eraseIdx h
theorem a9h {l:List Row} {t:Arb} {who:Int} (hs:(U0 l t who).ok=true):(U0 l t who).x.kind=2:=by
 unfold U0 at hs ⊢
 split at hs
 ·rename_i hc
  rw[if_pos hc]
 ·cases hs
theorem b1P {m:PMap} {s:Srv} {t:Arb} {cell:Int} {z:Msg} (h:z∈D1 m s t cell):z.kind=5∨z.kind=7:=by
 have side : ∀sd,z∈B9 m t (e9 s cell) cell sd→z.kind=5∨z.kind=7:=fun sd hz=>by
  unfold B9 at hz
  simp only at hz
  split at hz
  ·cases hz
  ·rcases List.mem_append.1 hz with hz|hz
   ·obtain⟨_,_,rfl⟩:=List.mem_map.1 hz
    exact .inl rfl
   ·obtain⟨_,_,rfl⟩:=List.mem_map.1 hz
    exact .inr rfl
 unfold D1 at h
 split at h
 ·rcases List.mem_append.1 h with h|h
  ·exact side _ h
  ·exact side _ h
 ·cases h
theorem a0b {m:PMap} {c:Cll} {l l':List Rec} : ∀ {k:Nat},k≤l.length→s9 m c (l++l') k=s9 m c l k
 | 0,_=>rfl
 |k+1,h=>by
  have ih:=a0b (m:=m) (c:=c) (l:=l) (l':=l') (k:=k) (by omega)
  have hn:nth .rcd (l++l') k=nth .rcd l k:=by simp[nth,List.getD,List.getElem?_append_left (show k<l.length by omega)]
  simp only[s9,ih,hn]
theorem a3Y {m:PMap} {s:Sto} (h:A3 m s=true):o6 m s=s9 m s.base s.recs s.recs.length:=a4r (v8.1 h).2.2.2
def stAt (st:List Sto) (c:Int):Sto:=nth .sto st c.toNat
structure HoldInv (m:PMap) (st:List Sto) (h:Hld):Prop where
 age:h.age≤(stAt st h.state.cell).age
 zero:0≤h.count
 count:h.count≤(stAt st h.state.cell).recs.length
 state:h.state=s9 m (stAt st h.state.cell).base (stAt st h.state.cell).recs h.count.toNat
 all:h.age=(stAt st h.state.cell).age→h.count=(stAt st h.state.cell).recs.length
inductive Tok (w:Wld) (i:Nat) (c n:Int):Prop
 |hold (hi:i<w.servers.length) (h:Hld) (hm:h∈(nth .srv w.servers i).holds) (hc:h.state.cell=c) (hn:h.age=n)
 |word (x:Msg) (hx:x∈w.net) (hk:x.kind=1) (hd:x.dest=(i:Int)) (hc:x.cell=c) (hn:x.n=n)
 |table (h0:0≤c) (hc:c.toNat<w.table.servers.length) (hs : @Eq Int (nth .int w.table.servers c.toNat) (i:Int)) (hn : @Eq Int (nth .int w.table.ages c.toNat) n)
structure Fence (w:Wld):Prop where
 hold : ∀i,i<w.servers.length → ∀h∈(nth .srv w.servers i).holds,HoldInv w.map w.stores h
 one : ∀i j c n,Tok w i c n→Tok w j c n→i=j
theorem M5 {w w':Wld} (hf:Fence w) (hm:w'.map=w.map) (hs:w'.stores=w.stores) (ht:w'.table=w.table)
  (hh : ∀i,i<w'.servers.length → ∀h∈(nth .srv w'.servers i).holds,i<w.servers.length∧h∈(nth .srv w.servers i).holds)
  (hn : ∀x∈w'.net,x.kind=1→x∈w.net):Fence w':=by
 have tok : ∀i c n,Tok w' i c n→Tok w i c n:=fun i c n h=>by
  cases h with
  |hold hi h hm hc hn=>exact .hold (hh i hi h hm).1 h (hh i hi h hm).2 hc hn
  |word x hx hk hd hc hn'=>exact .word x (hn x hx hk) hk hd hc hn'
  |table h0 hc hs hn=>rw[ht]at hc hs hn;exact .table h0 hc hs hn
 refine⟨fun i hi h hm' => ?_,fun i j c n h1 h2=>hf.one i j c n (tok _ _ _ h1) (tok _ _ _ h2)⟩
 rw[hm,hs]
 exact hf.hold i (hh i hi h hm').1 h (hh i hi h hm').2
theorem c5I {w:Wld} (hok:j6 w=true) {i:Nat} {c n:Int} (h:Tok w i c n):n≤nth .int w.table.ages c.toNat:=by
 obtain⟨h1,h2,h3,h4,h5,h6,h7,h8,h9⟩:=m7.1 hok
 cases h with
 |hold hi h hm hc hn=>subst hc hn;exact(h7 _ (s7 .srv hi)).2 h hm
 |word x hx hk hd hc hn=>subst hc hn;exact(h8 x hx).2 hk
 |table h0 hc hs hn=>exact Int.le_of_eq hn.symm
theorem b7W {w:Wld} (hok:j6 w=true) (hf:Fence w) {cell server:Int} (hg:(n4 w.table w.servers.length cell server).ok=true) :
  Fence (u7 ⟨w.map,w.servers,w.stores,(n4 w.table w.servers.length cell server).t,w.rows,w.net,w.notes⟩ [P4 (n4 w.table w.servers.length cell server).t cell server]):=by
 obtain⟨h1,_⟩:=m7.1 hok
 obtain⟨g1,c1,c2,c3,c4,ge,b3,b4⟩:=a3I h1 hg
 obtain⟨l1,l2,_⟩:=B7 h1
 have hcl:cell.toNat<w.table.ages.length:=by omega
 have hcs:cell.toNat<w.table.servers.length:=by omega
 have tok : ∀i c n,Tok (u7 ⟨w.map,w.servers,w.stores,(n4 w.table w.servers.length cell server).t,w.rows,w.net,w.notes⟩ [P4 (n4 w.table w.servers.length cell server).t cell server]) i c n →
   Tok w i c n∨(c=cell ∧ @Eq Int n (nth .int w.table.ages cell.toNat+1)∧server=(i:Int)):=fun i c n h=>by
  cases h with
  |hold hi h hm hc hn=>exact .inl (.hold hi h hm hc hn)
  |word x hx hk hd hc hn =>
   rcases J0 hx with hx|hx
   ·exact .inl (.word x hx hk hd hc hn)
   ·right
    simp only[List.mem_singleton]at hx
    subst hx
    refine⟨hc.symm,?_,hd⟩
    rw[←hn]
    simp only[P4]
    rw[ge]
    exact m6 .int hcl
  |table h0 hc hs hn =>
   simp only[u7]at hc hs hn
   rw[ge]at hc hs hn
   simp only[List.length_set]at hc
   rw[I1 .int hcs]at hs
   rw[I1 .int hcl]at hn
   by_cases he:c.toNat=cell.toNat
   ·rw[if_pos he]at hs hn
    exact .inr ⟨by omega,hn.symm,hs⟩
   ·rw[if_neg he]at hs hn
    exact .inl (.table h0 hc hs hn)
 refine⟨fun i hi h hm=>hf.hold i hi h hm,fun i j c n h1 h2 => ?_⟩
 rcases tok _ _ _ h1 with t1|⟨p1,p2,p3⟩
 ·rcases tok _ _ _ h2 with t2|⟨q1,q2,q3⟩
  ·exact hf.one i j c n t1 t2
  ·have:=c5I hok t1
   rw[q1]at this
   exfalso
   rw[q2]at this
   generalize (nth .int w.table.ages cell.toNat:Int)=a at *
   omega
 ·rcases tok _ _ _ h2 with t2|⟨q1,q2,q3⟩
  ·have:=c5I hok t2
   rw[p1]at this
   exfalso
   rw[p2]at this
   generalize (nth .int w.table.ages cell.toNat:Int)=a at *
   omega
  ·omega
theorem Y8 {l:List Srv} {i j:Nat} {s:Srv} (hi:i<l.length):nth .srv (l.set i s) j=if j=i then s else nth .srv l j:=I1 .srv hi
theorem K5 {l:List Sto} {c c':Int} {s:Sto} (hc:c.toNat<l.length):stAt (l.set c.toNat s) c'=if c'.toNat=c.toNat then s else stAt l c':=by
 unfold stAt
 exact I1 .sto hc
theorem c0b {w:Wld} (hok:j6 w=true) (hf:Fence w) {k:Nat} (hk:k<w.net.length) (hd : ¬(nth .msg w.net k).dest = -1):Fence (a0G (wCut w k) (nth .msg w.net k)):=by
 obtain⟨h1,h2,h3,h4,h5,h6,h7,h8,h9⟩:=m7.1 hok
 have hxm:=s7 .msg hk
 generalize hx:nth .msg w.net k=x at *
 have hx1:=(h8 x hxm).1
 have hdd:0≤x.dest∧x.dest<w.servers.length:=by
  rcases a1Y hx1 with ⟨_,g1,g2⟩|⟨_,g⟩
  ·exact⟨g1,g2⟩
  ·exact absurd g hd
 have hdn:x.dest.toNat<w.servers.length:=by omega
 obtain⟨o1,_⟩:=h7 _ (s7 .srv hdn)
 have he:=a4p (t:=w.table) o1 h2 hx1
 have hout : ∀z∈(n5 w.map (nth .srv w.servers x.dest.toNat) w.stores w.table x).out,z.kind≠1:=fun z hz=>by
  have:=a3y hz
  omega
 have hW:a0G (wCut w k) x=u7 ⟨w.map,w.servers.set x.dest.toNat (n5 w.map (nth .srv w.servers x.dest.toNat) w.stores w.table x).srv,(n5 w.map (nth .srv w.servers x.dest.toNat) w.stores w.table x).stores,w.table,w.rows,w.net.eraseIdx k,w.notes⟩ (n5 w.map (nth .srv w.servers x.dest.toNat) w.stores w.table x).out:=rfl
 rw[hW]
 generalize hX:n5 w.map (nth .srv w.servers x.dest.toNat) w.stores w.table x=X at *
 obtain⟨s',st',out⟩:=X
 simp only at he hout ⊢
 have hcs:=a3k h2 hx1
 obtain⟨_,_,hall,hsort⟩:=y9.1 o1
 have word : ∀z∈(u7 ⟨w.map,w.servers.set x.dest.toNat s',st',w.table,w.rows,w.net.eraseIdx k,w.notes⟩ out).net,z.kind=1→z∈w.net:=fun z hz hk1=>by
  rcases J0 hz with hz|hz
  ·exact List.mem_of_mem_eraseIdx hz
  ·exact absurd hk1 (hout z hz)
 have quiet:st'=w.stores→(∀h∈s'.holds,h∈(nth .srv w.servers x.dest.toNat).holds)→Fence (u7 ⟨w.map,w.servers.set x.dest.toNat s',st',w.table,w.rows,w.net.eraseIdx k,w.notes⟩ out):=fun e1 e2=>by
  refine M5 hf rfl e1 rfl (fun i hi h hm => ?_) word
  have hi':i<w.servers.length:=by simpa [u7]using hi
  refine⟨hi',?_⟩
  simp only[u7]at hm
  rw[Y8 hdn]at hm
  split at hm
  ·rename_i hij
   rw[hij]
   exact e2 h hm
  ·exact hm
 cases he with
 |same=>exact quiet rfl fun h hm=>hm
 |ghost hu hk7=>exact quiet rfl fun h hm=>hm
 |lost hu hkk hh ha=>exact quiet rfl fun h hm=>(a8P.1 hm).1
 |grant hu hk1 hn ha =>
  have htx:Tok w x.dest.toNat x.cell x.n := .word x hxm hk1 (by omega) rfl rfl
  have hcell:(o6 w.map (n9 w.stores x)).cell=x.cell:=by rw[T5,hcs.2.2.2]
  have tok : ∀i c n,Tok (u7 ⟨w.map,w.servers.set x.dest.toNat ⟨(nth .srv w.servers x.dest.toNat).up,putH (nth .srv w.servers x.dest.toNat).holds ⟨x.n,(n9 w.stores x).recs.length,o6 w.map (n9 w.stores x)⟩,(nth .srv w.servers x.dest.toNat).n6⟩,w.stores.set x.cell.toNat ⟨x.n,(n9 w.stores x).base,(n9 w.stores x).recs⟩,w.table,w.rows,w.net.eraseIdx k,w.notes⟩ out) i c n→Tok w i c n:=fun i c n h=>by
   cases h with
   |hold hi h hm hc hn =>
    have hi':i<w.servers.length:=by simpa [u7]using hi
    simp only[u7]at hm
    rw[Y8 hdn]at hm
    split at hm
    ·rename_i hij
     rcases R9 hsort hm with rfl|⟨hm,_⟩
     ·rw[hij,←hc,←hn]
      simp only
      rw[hcell]
      exact htx
     ·exact .hold hi' h (by rw[hij];exact hm) hc hn
    ·exact .hold hi' h hm hc hn
   |word z hz hk hd hc hn=>exact .word z (word z hz hk) hk hd hc hn
   |table h0 hc hs hn=>exact .table h0 hc hs hn
  refine⟨fun i hi h hm => ?_,fun i j c n t1 t2=>hf.one i j c n (tok _ _ _ t1) (tok _ _ _ t2)⟩
  have hi':i<w.servers.length:=by simpa [u7]using hi
  have old:h∈(nth .srv w.servers i).holds→(h.state.cell=x.cell→h.age<x.n)→HoldInv w.map (w.stores.set x.cell.toNat ⟨x.n,(n9 w.stores x).base,(n9 w.stores x).recs⟩) h:=fun hm hlt=>by
   have hI:=hf.hold i hi' h hm
   have hcp:=(o7 (A6.1 ((y9.1 (h7 _ (s7 .srv hi')).1).2.2.1 h hm)).2.2)
   by_cases hcx:h.state.cell.toNat=x.cell.toNat
   ·have hcx':h.state.cell=x.cell:=by omega
    have hS:stAt (w.stores.set x.cell.toNat ⟨x.n,(n9 w.stores x).base,(n9 w.stores x).recs⟩) h.state.cell=⟨x.n,(n9 w.stores x).base,(n9 w.stores x).recs⟩:=by rw[K5 hcs.2.1,if_pos hcx]
    have hO:stAt w.stores h.state.cell=n9 w.stores x:=by rw[hcx'];rfl
    refine⟨?_,hI.zero,?_,?_,?_⟩
    ·rw[hS];exact Int.le_of_lt (hlt hcx')
    ·rw[hS,←hO];exact hI.count
    ·rw[hS,←hO];exact hI.state
    ·rw[hS];exact fun he=>absurd he (Int.ne_of_lt (hlt hcx'))
   ·have hS:stAt (w.stores.set x.cell.toNat ⟨x.n,(n9 w.stores x).base,(n9 w.stores x).recs⟩) h.state.cell=stAt w.stores h.state.cell:=by rw[K5 hcs.2.1,if_neg hcx]
    exact⟨by rw[hS];exact hI.age,hI.zero,by rw[hS];exact hI.count,by rw[hS];exact hI.state,by rw[hS];exact hI.all⟩
  simp only[u7]at hm ⊢
  rw[Y8 hdn]at hm
  split at hm
  ·rename_i hij
   rcases R9 hsort hm with rfl|⟨hm,hne⟩
   ·have hS:stAt (w.stores.set x.cell.toNat ⟨x.n,(n9 w.stores x).base,(n9 w.stores x).recs⟩) (o6 w.map (n9 w.stores x)).cell=⟨x.n,(n9 w.stores x).base,(n9 w.stores x).recs⟩:=by rw[hcell,K5 hcs.2.1,if_pos rfl]
    refine⟨by rw[hS];exact Int.le_refl _,by simp only;omega,by rw[hS];exact Int.le_refl _,?_,by rw[hS];exact fun _=>rfl⟩
    rw[hS]
    simp only[Int.toNat_natCast]
    exact a3Y hcs.2.2.1
   ·refine old (by rw[hij];exact hm) fun he=>absurd ?_ hne
    rw[he,hcell]
  ·rename_i hij
   refine old hm fun he => ?_
   have hI:=hf.hold i hi' h hm
   have hO:stAt w.stores h.state.cell=n9 w.stores x:=by rw[he];rfl
   have hle:=hI.age
   rw[hO]at hle
   rcases Int.lt_or_eq_of_le (Int.le_trans hle ha)with h0|h0
   ·exact h0
   ·exact absurd (hf.one i x.dest.toNat x.cell x.n (.hold hi' h hm he h0) htx) hij
 |write hu hkk hh ha hc hl hr ha1 ha2 hff hp =>
  obtain⟨hmem,hcc⟩:=z5 hh
  have hIH:=hf.hold _ hdn _ hmem
  have htx:Tok w x.dest.toNat x.cell (e9 (nth .srv w.servers x.dest.toNat) x.cell).age := .hold hdn _ hmem hcc rfl
  have hcell:(j8 w.map (e9 (nth .srv w.servers x.dest.toNat) x.cell).state (p5 x)).c.cell=x.cell:=by rw[P8,hcc]
  have hOH:stAt w.stores (e9 (nth .srv w.servers x.dest.toNat) x.cell).state.cell=n9 w.stores x:=by rw[hcc];rfl
  generalize hH:e9 (nth .srv w.servers x.dest.toNat) x.cell=H at *
  have tok : ∀i c n,Tok (u7 ⟨w.map,w.servers.set x.dest.toNat ⟨(nth .srv w.servers x.dest.toNat).up,putH (nth .srv w.servers x.dest.toNat).holds ⟨H.age,H.count+1,(j8 w.map H.state (p5 x)).c⟩,(nth .srv w.servers x.dest.toNat).n6⟩,w.stores.set x.cell.toNat ⟨(n9 w.stores x).age,(n9 w.stores x).base,(n9 w.stores x).recs ++ [p5 x]⟩,w.table,w.rows,w.net.eraseIdx k,w.notes⟩ out) i c n→Tok w i c n:=fun i c n h=>by
   cases h with
   |hold hi h hm hc hn =>
    have hi':i<w.servers.length:=by simpa [u7]using hi
    simp only[u7]at hm
    rw[Y8 hdn]at hm
    split at hm
    ·rename_i hij
     rcases R9 hsort hm with rfl|⟨hm,_⟩
     ·rw[hij,←hc,←hn]
      simp only
      rw[hcell]
      exact htx
     ·exact .hold hi' h (by rw[hij];exact hm) hc hn
    ·exact .hold hi' h hm hc hn
   |word z hz hk hd hc hn=>exact .word z (word z hz hk) hk hd hc hn
   |table h0 hc hs hn=>exact .table h0 hc hs hn
  refine⟨fun i hi h hm => ?_,fun i j c n t1 t2=>hf.one i j c n (tok _ _ _ t1) (tok _ _ _ t2)⟩
  have hi':i<w.servers.length:=by simpa [u7]using hi
  have old:h∈(nth .srv w.servers i).holds→(h.state.cell=x.cell→h.age≠(n9 w.stores x).age)→HoldInv w.map (w.stores.set x.cell.toNat ⟨(n9 w.stores x).age,(n9 w.stores x).base,(n9 w.stores x).recs ++ [p5 x]⟩) h:=fun hm hlt=>by
   have hI:=hf.hold i hi' h hm
   have hcp:=(o7 (A6.1 ((y9.1 (h7 _ (s7 .srv hi')).1).2.2.1 h hm)).2.2)
   by_cases hcx:h.state.cell.toNat=x.cell.toNat
   ·have hcx':h.state.cell=x.cell:=by omega
    have hS:stAt (w.stores.set x.cell.toNat ⟨(n9 w.stores x).age,(n9 w.stores x).base,(n9 w.stores x).recs ++ [p5 x]⟩) h.state.cell=⟨(n9 w.stores x).age,(n9 w.stores x).base,(n9 w.stores x).recs ++ [p5 x]⟩:=by rw[K5 hcs.2.1,if_pos hcx]
    have hO:stAt w.stores h.state.cell=n9 w.stores x:=by rw[hcx'];rfl
    have hcnt:=hI.count
    have hstt:=hI.state
    have hage:=hI.age
    rw[hO]at hcnt hstt hage
    refine⟨?_,hI.zero,?_,?_,?_⟩
    ·rw[hS];exact hage
    ·rw[hS];simp only[List.length_append,List.length_singleton];omega
    ·rw[hS]
     simp only
     rw[a0b (by have:=hI.zero;omega)]
     exact hstt
    ·rw[hS];exact fun he=>absurd he (hlt hcx')
   ·have hS:stAt (w.stores.set x.cell.toNat ⟨(n9 w.stores x).age,(n9 w.stores x).base,(n9 w.stores x).recs ++ [p5 x]⟩) h.state.cell=stAt w.stores h.state.cell:=by rw[K5 hcs.2.1,if_neg hcx]
    exact⟨by rw[hS];exact hI.age,hI.zero,by rw[hS];exact hI.count,by rw[hS];exact hI.state,by rw[hS];exact hI.all⟩
  simp only[u7]at hm ⊢
  rw[Y8 hdn]at hm
  split at hm
  ·rename_i hij
   rcases R9 hsort hm with rfl|⟨hm,hne⟩
   ·have hS:stAt (w.stores.set x.cell.toNat ⟨(n9 w.stores x).age,(n9 w.stores x).base,(n9 w.stores x).recs ++ [p5 x]⟩) (j8 w.map H.state (p5 x)).c.cell=⟨(n9 w.stores x).age,(n9 w.stores x).base,(n9 w.stores x).recs ++ [p5 x]⟩:=by rw[hcell,K5 hcs.2.1,if_pos rfl]
    have hstt:=hIH.state
    rw[hOH,hc]at hstt
    refine⟨by rw[hS];exact Int.le_of_eq ha,by have:=hIH.zero;simp only;omega,by rw[hS];simp only[List.length_append,List.length_singleton];omega,?_,by rw[hS];simp only[List.length_append,List.length_singleton];omega⟩
    rw[hS]
    simp only
    have e1:(H.count+1).toNat=(n9 w.stores x).recs.length+1:=by omega
    rw[e1]
    show _=(j8 w.map (s9 w.map (n9 w.stores x).base ((n9 w.stores x).recs ++ [p5 x]) (n9 w.stores x).recs.length) (nth .rcd ((n9 w.stores x).recs ++ [p5 x]) (n9 w.stores x).recs.length)).c
    rw[a0b (Nat.le_refl _),a6n .rcd]
    simp only[Int.toNat_natCast]at hstt
    rw[←hstt]
   ·refine old (by rw[hij];exact hm) fun he=>absurd ?_ hne
    rw[he,hcell]
  ·rename_i hij
   refine old hm fun he h0 => ?_
   rw[←ha]at h0
   exact absurd (hf.one i x.dest.toNat x.cell H.age (.hold hi' h hm he h0) htx) hij
theorem a5i {w w':Wld} (hok:j6 w=true) (hf:Fence w) (hs:StepC w w'):Fence w':=by
 have emp : ∀(i:Nat) (u:Bool),i<w.servers.length→Fence ⟨w.map,w.servers.set i ⟨u,[],[]⟩,w.stores,w.table,w.rows,w.net,w.notes⟩:=fun i u hi=>by
  refine M5 hf rfl rfl rfl (fun j hj h hm => ?_) (fun x hx _=>hx)
  simp only[List.length_set]at hj
  refine⟨hj,?_⟩
  simp only at hm
  rw[Y8 hi]at hm
  split at hm
  ·cases hm
  ·exact hm
 cases hs with
 |same=>exact hf
 |grant cell server hg=>exact b7W hok hf hg
 |ask=>exact M5 hf rfl rfl rfl (fun i hi h hm=>⟨hi,hm⟩) (fun x hx _=>hx)
 |say who hs =>
  refine M5 hf rfl rfl rfl (fun i hi h hm=>⟨hi,hm⟩) (fun x hx hk => ?_)
  rcases J0 hx with hx|hx
  ·exact hx
  ·simp only[List.mem_singleton]at hx
   subst hx
   rw[a9h hs]at hk
   cases hk
 |gate i hi hd=>exact M5 hf rfl rfl rfl (fun i hi h hm=>⟨hi,hm⟩) (fun x hx _=>a7J (i:=i) hx)
 |hear i hi hd=>exact c0b hok hf hi hd
 |lose i hi=>exact M5 hf rfl rfl rfl (fun i hi h hm=>⟨hi,hm⟩) (fun x hx _=>a7J hx)
 |twice i hi =>
  refine M5 hf rfl rfl rfl (fun i hi h hm=>⟨hi,hm⟩) (fun x hx hk => ?_)
  rcases J0 hx with hx|hx
  ·exact hx
  ·simp only[List.mem_singleton]at hx
   subst hx
   exact s7 .msg hi
 |tick i hi cell =>
  refine M5 hf rfl rfl rfl (fun i hi h hm=>⟨hi,hm⟩) (fun x hx hk => ?_)
  rcases J0 hx with hx|hx
  ·exact hx
  ·have:=b1P hx
   omega
 |fall i hi=>exact emp i false hi
 |rise i hi hu=>exact emp i true hi
structure Grow (m:PMap) (st st':List Sto):Prop where
 len:st'.length=st.length
 base : ∀c:Int,(stAt st' c).base=(stAt st c).base
 recs : ∀c:Int,∃l,(stAt st' c).recs=(stAt st c).recs++l
theorem Grow.refl (m:PMap) (st:List Sto):Grow m st st:=⟨rfl,fun _=>rfl,fun _=>⟨[],by simp⟩⟩
theorem Grow.fold {m:PMap} {st st':List Sto} (h:Grow m st st') (c:Int) {k:Nat} (hk:k≤(stAt st c).recs.length):s9 m (stAt st' c).base (stAt st' c).recs k=s9 m (stAt st c).base (stAt st c).recs k:=by
 obtain⟨l,hl⟩:=h.recs c
 rw[h.base,hl,a0b hk]
theorem Grow.le {m:PMap} {st st':List Sto} (h:Grow m st st') (c:Int):(stAt st c).recs.length≤(stAt st' c).recs.length:=by
 obtain⟨l,hl⟩:=h.recs c
 rw[hl,List.length_append]
 omega
theorem c8i {m:PMap} {s s':Srv} {st st':List Sto} {v:Int} {x:Msg} (hst:z7 m st=true) (hx:u9 m v x=true) (he:Eff m s st x s' st'):Grow m st st':=by
 have hc:=a3k hst hx
 cases he with
 |same=>exact Grow.refl _ _
 |ghost=>exact Grow.refl _ _
 |lost=>exact Grow.refl _ _
 |grant hu hk hn ha =>
  refine⟨by simp,fun c => ?_,fun c=>⟨[],?_⟩⟩
  ·rw[K5 hc.2.1]
   split
   ·rename_i h
    unfold n9 stAt
    rw[h]
   ·rfl
  ·rw[K5 hc.2.1]
   split
   ·rename_i h
    unfold n9 stAt
    rw[h]
    simp
   ·simp
 |write hu hk hh ha hcn hl hr h1 h2 hf hp =>
  refine⟨by simp,fun c => ?_,fun c => ?_⟩
  ·rw[K5 hc.2.1]
   split
   ·rename_i h
    unfold n9 stAt
    rw[h]
   ·rfl
  ·rw[K5 hc.2.1]
   split
   ·rename_i h
    refine⟨[p5 x],?_⟩
    unfold n9 stAt
    rw[h]
   ·exact⟨[],by simp⟩
structure Heard (w:Wld) (k:Nat) (x:Msg) (X:SH):Prop where
 mem:x∈w.net
 ok:u9 w.map w.servers.length x=true
 dest:0≤x.dest
 lt:x.dest.toNat<w.servers.length
 srv:A4 w.map (nth .srv w.servers x.dest.toNat)=true
 stos:z7 w.map w.stores=true
 eff:Eff w.map (nth .srv w.servers x.dest.toNat) w.stores x X.srv X.stores
 is:X=n5 w.map (nth .srv w.servers x.dest.toNat) w.stores w.table x
 arb:B8 w.map w.table w.servers.length=true
theorem heard {w:Wld} (hok:j6 w=true) {k:Nat} (hk:k<w.net.length) (hd : ¬(nth .msg w.net k).dest = -1) : ∃X,Heard w k (nth .msg w.net k) X ∧
  a0G (wCut w k) (nth .msg w.net k)=u7 ⟨w.map,w.servers.set (nth .msg w.net k).dest.toNat X.srv,X.stores,w.table,w.rows,w.net.eraseIdx k,w.notes⟩ X.out:=by
 obtain⟨h1,h2,h3,h4,h5,h6,h7,h8,h9⟩:=m7.1 hok
 have hxm:=s7 .msg hk
 have hx1:=(h8 _ hxm).1
 have hdd:0≤(nth .msg w.net k).dest∧(nth .msg w.net k).dest<w.servers.length:=by
  rcases a1Y hx1 with ⟨_,g1,g2⟩|⟨_,g⟩
  ·exact⟨g1,g2⟩
  ·exact absurd g hd
 have hdn:(nth .msg w.net k).dest.toNat<w.servers.length:=by omega
 obtain⟨o1,_⟩:=h7 _ (s7 .srv hdn)
 exact⟨n5 w.map (nth .srv w.servers (nth .msg w.net k).dest.toNat) w.stores w.table (nth .msg w.net k),⟨hxm,hx1,hdd.1,hdn,o1,h2,a4p o1 h2 hx1,rfl,h1⟩,rfl⟩
structure GhOk (m:PMap) (st:List Sto) (g:Gst):Prop where
 zero:0≤g.count
 count:g.count≤(stAt st g.src).recs.length
 mem:g.wlk∈(s9 m (stAt st g.src).base (stAt st g.src).recs g.count.toNat).wlks
theorem GhOk.grow {m:PMap} {st st':List Sto} {g:Gst} (h:GhOk m st g) (hg:Grow m st st'):GhOk m st' g :=
 ⟨h.zero,by have:=hg.le g.src;have:=h.count;omega,by rw[hg.fold g.src (by have:=h.count;have:=h.zero;omega)];exact h.mem⟩
structure Shown (w:Wld):Prop where
 srv : ∀i,i<w.servers.length → ∀g∈(nth .srv w.servers i).n6,GhOk w.map w.stores g
 net : ∀x∈w.net,x.kind=7→GhOk w.map w.stores x.gst
theorem c4R {m:PMap} {h:Hld} {sd:Int} {g:Gst} (hg:g∈n6 m h sd):g.src=h.state.cell∧g.count=h.count∧g.wlk∈h.state.wlks:=by
 unfold n6 ghTo flt at hg
 obtain⟨v,hv,rfl⟩:=List.mem_map.1 hg
 exact⟨rfl,rfl,List.mem_of_mem_take (List.mem_filter.1 hv).1⟩
theorem b8t {m:PMap} {s:Srv} {t:Arb} {cell:Int} {z:Msg} (h:z∈D1 m s t cell) (hk:z.kind=7) : ∃g∈s.holds,z.gst.src=g.state.cell∧z.gst.count=g.count∧z.gst.wlk∈g.state.wlks:=by
 unfold D1 at h
 split at h
 ·rename_i hh
  have hm:=(z5 hh).1
  have side : ∀sd,z∈B9 m t (e9 s cell) cell sd → ∃g∈s.holds,z.gst.src=g.state.cell∧z.gst.count=g.count∧z.gst.wlk∈g.state.wlks:=fun sd hz=>by
   unfold B9 at hz
   simp only at hz
   split at hz
   ·cases hz
   ·rcases List.mem_append.1 hz with hz|hz
    ·obtain⟨_,_,rfl⟩:=List.mem_map.1 hz
     cases hk
    ·obtain⟨g,hg,rfl⟩:=List.mem_map.1 hz
     exact⟨_,hm,c4R (List.mem_of_mem_take hg)⟩
  rcases List.mem_append.1 h with h|h
  ·exact side _ h
  ·exact side _ h
 ·cases h
theorem b8C {w w':Wld} (hok:j6 w=true) (hf:Fence w) (hg:Shown w) (hs:StepC w w'):Shown w':=by
 obtain⟨h1,h2,h3,h4,h5,h6,h7,h8,h9⟩:=m7.1 hok
 have emp : ∀(i:Nat) (u:Bool),i<w.servers.length→Shown ⟨w.map,w.servers.set i ⟨u,[],[]⟩,w.stores,w.table,w.rows,w.net,w.notes⟩:=fun i u hi=>by
  refine⟨fun j hj g hm => ?_,hg.net⟩
  simp only[List.length_set]at hj
  simp only at hm
  rw[Y8 hi]at hm
  split at hm
  ·cases hm
  ·exact hg.srv j hj g hm
 cases hs with
 |same=>exact hg
 |grant cell server hgr =>
  refine⟨hg.srv,fun x hx hk => ?_⟩
  rcases J0 hx with hx|hx
  ·exact hg.net x hx hk
  ·simp only[List.mem_singleton]at hx
   subst hx
   cases hk
 |ask=>exact⟨hg.srv,hg.net⟩
 |say who hs =>
  refine⟨hg.srv,fun x hx hk => ?_⟩
  rcases J0 hx with hx|hx
  ·exact hg.net x hx hk
  ·simp only[List.mem_singleton]at hx
   subst hx
   rw[a9h hs]at hk
   cases hk
 |gate i hi hd=>exact⟨hg.srv,fun x hx hk=>hg.net x (a7J (i:=i) hx) hk⟩
 |hear i hi hd =>
  obtain⟨X,hX,e⟩:=heard hok hi hd
  rw[e]
  have hgr:=c8i hX.stos hX.ok hX.eff
  have hgs:=(y9.1 hX.srv).1
  have hsort:GSort (nth .srv w.servers (nth .msg w.net i).dest.toNat).n6:=(a0T.1 hgs).2.2.2
  have hin : ∀g∈X.srv.n6,g∈(nth .srv w.servers (nth .msg w.net i).dest.toNat).n6∨((nth .msg w.net i).kind=7∧g=(nth .msg w.net i).gst):=fun g hgm=>by
   have he:=hX.eff
   generalize X.srv=s' at *
   generalize X.stores=st' at *
   cases he with
   |same=>exact .inl hgm
   |ghost hu hk =>
    simp only at hgm
    rw[a5f hsort]at hgm
    rcases a5P hgm with h|h
    ·exact .inr ⟨hk,h⟩
    ·exact .inl h
   |grant=>exact .inl hgm
   |lost=>exact .inl hgm
   |write=>exact .inl hgm
  refine⟨fun j hj g hm => ?_,fun x hx hk => ?_⟩
  ·have hj':j<w.servers.length:=by simpa [u7]using hj
   simp only[u7]at hm ⊢
   rw[Y8 hX.lt]at hm
   split at hm
   ·rcases hin g hm with h|⟨hk,rfl⟩
    ·exact(hg.srv _ hX.lt g h).grow hgr
    ·exact(hg.net _ hX.mem hk).grow hgr
   ·exact(hg.srv j hj' g hm).grow hgr
  ·rcases J0 hx with hx|hx
   ·exact(hg.net x (List.mem_of_mem_eraseIdx hx) hk).grow hgr
   ·rw[hX.is]at hx
    have:=a3y hx
    omega
 |lose i hi=>exact⟨hg.srv,fun x hx hk=>hg.net x (a7J hx) hk⟩
 |twice i hi =>
  refine⟨hg.srv,fun x hx hk => ?_⟩
  rcases J0 hx with hx|hx
  ·exact hg.net x hx hk
  ·simp only[List.mem_singleton]at hx
   subst hx
   exact hg.net _ (s7 .msg hi) hk
 |tick i hi cell =>
  refine⟨hg.srv,fun x hx hk => ?_⟩
  rcases J0 hx with hx|hx
  ·exact hg.net x hx hk
  ·obtain⟨g,hgm,e1,e2,e3⟩:=b8t hx hk
   have hI:=hf.hold i hi g hgm
   exact⟨by rw[e2];exact hI.zero,by rw[e1,e2];exact hI.count,by rw[e1,e2];have e4:=hI.state;show _∈(s9 w.map (stAt w.stores g.state.cell).base (stAt w.stores g.state.cell).recs g.count.toNat).wlks;rw[←e4];exact e3⟩
 |fall i hi=>exact emp i false hi
 |rise i hi hu=>exact emp i true hi
end Go.Mo
