/-
  Plain laws of the whole: parcels, step by step.
-/
import Derived.Test.YtmnapekfeenknaaGreatM4
import Derived.Test.YtmnapekfeenknaaGreatM3
import Derived.Test.YtmnapekfeenknaaGreatM2
import Derived.Test.YtmnapekfeenknaaGreatM1
set_option linter.unusedVariables false
set_option linter.unusedSimpArgs false
namespace Go.Mo
open Go.Sx
theorem a1q {w:Wld} (hok:m8 w=true) {c:Int} (h0:0≤c) (h1:c<w.map.cells):c.toNat<w.stores.length∧B2 w.map (stAt w.stores c)=true∧(stAt w.stores c).base.cell=c∧s5 w.map (cX w.map w.stores c)=true:=by
 obtain⟨_,h2,_⟩:=q9.1 hok
 obtain⟨_,g2,g3⟩:=D9.1 h2
 have hl:c.toNat<w.stores.length:=by omega
 have:=g3 _ hl
 exact⟨hl,this.1,by unfold stAt;rw[this.2];omega,a1Z this.1⟩
def cntN (l:List Note) (who:Int):Int:=((l.filter fun n=>decide (n.who=who)).length:Int)
structure Noted (f:Int→Int) (w:Wld):Prop where
 num : ∀i,i<w.notes.length→(nth .note w.notes i).seq=f (nth .note w.notes i).who+1+cntN (w.notes.take i) (nth .note w.notes i).who
 row:w.notes.length<150 → ∀i,i<w.rows.length→(nth .row w.rows i).seq=f (nth .row w.rows i).who+cntN w.notes (nth .row w.rows i).who
def a8W (m:PMap) (cell:Int) (w:Wlk):Bool:=decide (e8 m w.pos=cell)
def L9 (m:PMap) (cell:Int) (l:List Wlk) (k:Nat):List Wlk:=(l.take k).filter (a8W m cell)
theorem b0J (m:PMap) (cell:Int) (l:List Wlk):L9 m cell l 0 = []:=by simp[L9]
theorem b2U (m:PMap) (cell:Int) (l:List Wlk) (k:Nat):(L9 m cell l k).length≤k∧(L9 m cell l k).length≤l.length:=by
 unfold L9
 have h1:=List.length_filter_le (a8W m cell) (l.take k)
 have h2:=List.length_take_le k l
 have h3:=List.length_take_le' k l
 omega
theorem b2T {m:PMap} {cell:Int} {l:List Wlk} {k:Nat} (h:k<l.length) (hc:e8 m (nth .wlk l k).pos=cell):L9 m cell l (k+1)=L9 m cell l k ++ [nth .wlk l k]:=by
 unfold L9
 have h1:l.take (k+1)=l.take k ++ [nth .wlk l k]:=J7 .wlk h
 rw[h1,List.filter_append]
 simp[a8W,hc]
theorem b5E {m:PMap} {cell:Int} {l:List Wlk} {k:Nat} (h:k<l.length) (hc : ¬e8 m (nth .wlk l k).pos=cell):L9 m cell l (k+1)=L9 m cell l k:=by
 unfold L9
 have h1:l.take (k+1)=l.take k ++ [nth .wlk l k]:=J7 .wlk h
 rw[h1,List.filter_append]
 simp[a8W,hc]
def W8 (m:PMap) (cell:Int) (l:List Wlk):Cll:=if o9 m=true∧0≤cell∧cell<m.cells∧x7 m l=true then⟨cell,L9 m cell l l.length,0,[[],[]],[0,0],[0,0]⟩else O1
def L3 (m:PMap) (cell:Int) (l:List Wlk):Sto:=⟨0,W8 m cell l,[]⟩
def a0G (m:PMap):Arb:=if o9 m=true then⟨List.replicate m.cells.toNat (-1),List.replicate m.cells.toNat 0⟩else⟨[],[]⟩
def a0i (m:PMap) (w:Wlk):Row:=⟨w.id,e8 m w.pos,false,⟨0,0,0,0,0⟩,w.seq,w.last⟩
def a7j (m:PMap) (l:List Wlk):List Row:=if o9 m=true∧x7 m l=true then l.map (a0i m)else[]
def M8 (m:PMap) (l:List Wlk) (servers:Int):Wld:=⟨m,List.replicate servers.toNat ⟨true,[],[]⟩,(List.range m.cells.toNat).map fun(i:Nat)=>L3 m (i:Int) l,a0G m,a7j m l,[],[]⟩
def z5 (m:PMap) (l:List Wlk) (servers:Int):Wld:=if o9 m=true∧x7 m l=true∧1≤servers∧servers≤3 then M8 m l servers else R4
theorem b6G (l:List Wlk):srt l↔l.Pairwise fun a b=>a.id<b.id:=by
 rw[List.pairwise_iff_getElem]
 constructor
 ·intro h i j hi hj hij
  have:=h i j hij hj
  rwa [k9 .wlk l i hi,k9 .wlk l j hj]at this
 ·intro h i j hij hj
  have hi:i<l.length:=by omega
  have:=h i j hi hj hij
  rwa [k9 .wlk l i hi,k9 .wlk l j hj]
theorem b0Y {m:PMap} {l:List Wlk} (h:x7 m l=true):l.length≤9:=b1b (a6L h) fun i hi=>by
 have:=s8.1 (a3l h hi)
 exact⟨this.1,this.2.1⟩
theorem b6c {m:PMap} {cell:Int} {l:List Wlk} (h1:o9 m=true) (h2:0≤cell) (h3:cell<m.cells) (h4:x7 m l=true):s5 m (W8 m cell l)=true:=by
 rw[W8,if_pos ⟨h1,h2,h3,h4⟩,G7]
 have hw:=Y3.1 h4
 refine⟨fun w hm => ?_,?_,h1,h2,h3,Int.le_refl 0,by show(0:Int)≤900;decide,rfl,rfl,rfl,fun s hs => ?_⟩
 ·simp only[L9,List.take_length,List.mem_filter,a8W,decide_eq_true_eq]at hm
  exact⟨hw.1 w hm.1,hm.2⟩
 ·simp only[L9,List.take_length]
  rw[b6G]
  exact((b6G l).1 hw.2).filter _
 ·have hs2:s=0∨s=1:=by omega
  rcases hs2 with rfl|rfl<;>exact⟨by simp[u6,nth,m9,h1],by show(0:Int)≤0;decide,by show(0:Int)≤5000;decide,fun _=>⟨rfl,rfl⟩,fun p hp=>by simp[nth]at hp⟩
theorem c7g {m:PMap} {cell:Int} {l:List Wlk} (h1:o9 m=true) (h2:0≤cell) (h3:cell<m.cells) (h4:x7 m l=true):B2 m (L3 m cell l)=true:=by
 rw[z6]
 exact⟨by simp[L3],b6c h1 h2 h3 h4,by simp[L3],by simp[L3,a0L]⟩
theorem c8W {m:PMap} {l:List Wlk} (h1:o9 m=true) (h4:x7 m l=true):C4 m (a7j m l)=true:=by
 rw[a7j,if_pos ⟨h1,h4⟩,C4,Bool.and_eq_true]
 refine⟨h1,?_⟩
 rw[l8]
 intro i hi
 have hi:i<l.length:=by simpa using hi
 have hw:=Y3.1 h4
 have hn : ∀j,j<l.length→nth .row (l.map (a0i m)) j=a0i m (nth .wlk l j):=fun j hj=>by
  rw[k9 .row _ j (by simpa using hj),k9 .wlk l j hj]
  simp
 have ho:=s8.1 (hw.1 _ (s0 .wlk hi))
 have hr:a0h m (a0i m (nth .wlk l i))=true:=by
  obtain⟨q1,q2,q3,q4⟩:=C9 ho.2.2.1
  have q5:=n6.1 q1
  have hp:0≤e8 m (nth .wlk l i).pos∧e8 m (nth .wlk l i).pos<m.cells:=by
   rw[q4]
   exact⟨Int.ediv_nonneg q2 (by omega),Int.ediv_lt_of_lt_mul (by omega) q3⟩
  simp only[a0h,a0i,decide_eq_true_eq]
  exact⟨ho.1,ho.2.1,hp.1,hp.2,ho.2.2.2.2.2.1,ho.2.2.2.2.2.2.1,ho.2.2.2.2.2.2.2.1,ho.2.2.2.2.2.2.2.2,fun _=>by decide,fun h=>by cases h⟩
 rw[N1,hn i hi,hr,Bool.true_and]
 by_cases h0:i=0
 ·simp[h0]
 ·have hs:=hw.2 (i-1) i (by omega) hi
  rw[hn (i-1) (by omega)]
  simp only[a0i]
  simp[hs]
theorem c9L {m:PMap} {v:Int} (h1:o9 m=true) (h2:1≤v) (h3:v≤3):D0 m (a0G m) v=true:=by
 have hm:=n6.1 h1
 rw[a0G,if_pos h1,D0,Bool.and_eq_true]
 refine⟨by simp[a0H,h1,h2,h3];omega,?_⟩
 rw[l8]
 intro i hi
 have hi:i<m.cells.toNat:=by simp only[List.length_replicate]at hi;exact hi
 have e1:nth .int (List.replicate m.cells.toNat (-1:Int)) i=(-1:Int):=by rw[k9 .int _ i (by simpa using hi)];simp
 have e2:nth .int (List.replicate m.cells.toNat (0:Int)) i=(0:Int):=by rw[k9 .int _ i (by simpa using hi)];simp
 simp only[a4K,e1,e2,decide_eq_true_eq]
 show(-1:Int) ≤ -1∧(-1:Int)≤v-1∧(0:Int)≤0∧(0:Int)≤900∧True
 exact⟨by omega,by omega,by omega,by omega,trivial⟩
theorem c7m {m:PMap} (h1:o9 m=true):C0 m ⟨true,[],[]⟩=true:=by
 simp[C0,Z0,E8,a6s,m9,h1]
theorem a9f {m:PMap} {l:List Wlk} {v:Int} (h1:o9 m=true) (h4:x7 m l=true) (h2:1≤v) (h3:v≤3):m8 (z5 m l v)=true:=by
 rw[z5,if_pos ⟨h1,h4,h2,h3⟩,q9]
 have hv:((List.replicate v.toNat (⟨true,[],[]⟩:Srv)).length:Int)=v:=by simp;omega
 have hm:=n6.1 h1
 have hst : ∀i,i<m.cells.toNat→nth .sto ((List.range m.cells.toNat).map fun(i:Nat)=>L3 m (i:Int) l) i=L3 m (i:Int) l:=fun i hi=>by
  rw[k9 .sto _ i (by simpa using hi)];simp
 have hbase : ∀i:Nat,i<m.cells.toNat→(L3 m (i:Int) l).base.cell=(i:Int):=fun i hi=>by
  simp only[L3]
  rw[W8,if_pos ⟨h1,by omega,by omega,h4⟩]
 simp only[M8]
 rw[hv]
 refine⟨c9L h1 h2 h3,?_,c8W h1 h4,by simp,by simp,?_,?_,?_,?_⟩
 ·rw[B1,Bool.and_eq_true]
  refine⟨by simp[h1];omega,?_⟩
  rw[l8]
  intro i hi
  have hi:i<m.cells.toNat:=by simpa using hi
  rw[a3o,hst i hi,c7g h1 (by omega) (by omega) h4,hbase i hi]
  simp
 ·intro i hi
  have hi:i<m.cells.toNat:=by simpa using hi
  rw[hst i hi]
  simp only[L3]
  rw[a0G,if_pos h1]
  have e2:nth .int (List.replicate m.cells.toNat (0:Int)) i=(0:Int):=by rw[k9 .int _ i (by simpa using hi)];simp
  simp only[e2]
  exact Int.le_refl 0
 ·intro s hs
  rw[List.mem_replicate]at hs
  rw[hs.2]
  exact⟨c7m h1,fun h hh=>by cases hh⟩
 ·intro x hx;cases hx
 ·intro n hn;cases hn
theorem d7K {m:PMap} {l:List Wlk} {w:Wlk} (h:x7 m l=true) (hw:S3 m w=true):x7 m (N3 l w)=true:=by
 rw[Y3]at h ⊢
 refine⟨fun x hx => ?_,c5g h.2⟩
 rcases b6W hx with hx|rfl
 ·exact h.1 x hx
 ·exact hw
theorem d1b {m:PMap} {l:List Row} (h:C4 m l=true):l.length≤9:=by
 rw[C4,Bool.and_eq_true]at h
 have ha:=(l8 _ _).1 h.2
 have hw : ∀i,i<l.length→(i:Int)+1≤(nth .row l i).who:=by
  intro i
  induction i with
  |zero =>
   intro hi
   have:=ha 0 hi
   simp only[N1,a0h,Bool.and_eq_true,decide_eq_true_eq]at this
   omega
  |succ i ih =>
   intro hi
   have h1:=ih (by omega)
   have:=ha (i+1) hi
   simp only[N1,Bool.and_eq_true,Bool.or_eq_true,decide_eq_true_eq,Nat.add_sub_cancel]at this
   omega
 by_cases h0:l.length=0
 ·omega
 ·have h1:=hw (l.length-1) (by omega)
  have h2:=ha (l.length-1) (by omega)
  simp only[N1,a0h,Bool.and_eq_true,decide_eq_true_eq]at h2
  omega
def wP (w0 w:Wld):Prop:=(m8 w0=true→m8 w=true)∧(w=w0∨m8 w=true∨w=R4)
theorem c4l (w:Wld):wP w w:=⟨fun h=>h,.inl rfl⟩
theorem c4k {w0 w:Wld} (e:Evt) (h:wP w0 w):wP w0 (m4 w e):=by
 by_cases hw:m8 w=true
 ·have:m4 w e=y8 w e:=by simp[m4,hw]
  rw[this]
  exact⟨fun _=>(c4t hw).1,.inr (.inl (c4t hw).1)⟩
 ·have:m4 w e=R4:=by simp[m4,hw]
  rw[this]
  exact⟨fun h0=>absurd (h.1 h0) hw,.inr (.inr rfl)⟩
theorem b2l {w:Wld} (h:m8 w=true):w.rows.length≤9∧w.stores.length≤4∧1≤w.servers.length∧w.servers.length≤3:=by
 obtain⟨h1,h2,h3,h4⟩:=q9.1 h
 have:=J4 h1
 exact⟨d1b h3,b1A h2,by omega,by omega⟩
theorem d7u {w0 w:Wld} (h:wP w0 w) (h1:w0.rows.length≤20) (h2:w0.stores.length≤20):w.rows.length≤20∧w.stores.length≤20:=by
 rcases h.2 with rfl|h|rfl
 ·exact⟨h1,h2⟩
 ·have:=b2l h
  omega
 ·exact⟨by decide,by decide⟩
theorem b1C {w:Wld} (e:Evt) (h:m8 w=true):m8 (m4 w e)=true:=(c4k e (c4l w)).1 h
theorem d8h {a b:Int} {k x c:Int} (h:o9 ⟨a,b⟩=true) (h1:1≤k) (h2:k≤5) (h3:0≤x) (h4:x<a * b) (h5:0≤c) (h6:c≤99):S3 ⟨a,b⟩ ⟨k,x,c,0,0⟩=true:=by
 rw[s8]
 have hp:=n6.1 h
 refine⟨by show(1:Int)≤k;omega,by show k≤9;omega,?_,h5,h6,by show(0:Int)≤0;omega,by show(0:Int)≤900;omega,by show(0:Int)≤0;omega,by show(0:Int)≤9;omega⟩
 show e8 ⟨a,b⟩ x ≠ -1
 simp only[e8]
 rw[if_pos ⟨h,h3,h4⟩]
 have:0≤x / b:=Int.ediv_nonneg h3 (by simp only at hp;omega)
 show x / b ≠ -1
 omega
theorem d6D {x:Int} (h1:0≤x) (h2:x<6) : @LE.le Int _ 0 (nth .int [0,3,10,40,95,99] x.toNat) ∧ @LE.le Int _ (nth .int [0,3,10,40,95,99] x.toNat) 99:=by
 have:x=0∨x=1∨x=2∨x=3∨x=4∨x=5:=by omega
 rcases this with rfl|rfl|rfl|rfl|rfl|rfl<;>decide
theorem c6J {x y:Int} (h1:0≤x∧(1≤(3:Int)→x<3)) (h2:0≤y∧(1≤(2:Int)→y<2)):o9 ⟨IntKind.i64.wrap (2+x),IntKind.i64.wrap (2+y)⟩=true:=by
 rw[e9 (by omega) (by omega),e9 (by omega) (by omega),n6]
 show 2≤2+x∧2+x≤4∧2≤2+y∧2+y≤8
 omega
theorem c6I {a b k x y:Int} {l:List Wlk} (h:o9 ⟨a,b⟩=true) (hl:x7 ⟨a,b⟩ l=true) (hk:0<k) (hk5:k≤5) (hx:0≤x∧(1≤IntKind.i64.wrap (a * b)→x<IntKind.i64.wrap (a * b))) (hy:0≤y∧(1≤(6:Int)→y<6)) :
  x7 ⟨a,b⟩ (N3 l ⟨k,x,nth .int [0,3,10,40,95,99] y.toNat,0,0⟩)=true:=by
 have hm:4≤a * b∧a * b≤32:=a4g h
 rw[e9 (by omega) (by omega)]at hx
 have hc:=d6D hy.1 (hy.2 (by omega))
 exact d7K hl (d8h h (by omega) hk5 hx.1 (hx.2 (by omega)) hc.1 hc.2)
structure Beg (l:List Wlk) (w:Wld):Prop where
 ok:m8 w=true
 all:x7 w.map l=true
 fresh : ∀v∈l,v.seq=0∧v.last=0
 few:l.length≤5
 net:w.net = []
 notes:w.notes = []
 rows:w.rows=l.map (a0i w.map)
 recs : ∀c:Int,0≤c→c<w.map.cells→(stAt w.stores c).recs = []∧(stAt w.stores c).base=W8 w.map c l
 o8 : ∀i,i<w.servers.length→(nth .srv w.servers i).o8 = []
 fence:Fence w
theorem c5G {m:PMap} {l:List Wlk} {i:Nat} (hi:i<m.cells.toNat):nth .sto ((List.range m.cells.toNat).map fun(i:Nat)=>L3 m (i:Int) l) i=L3 m (i:Int) l:=by
 rw[k9 .sto _ i (by simpa using hi)];simp
inductive Ran (w0:Wld):Wld→Prop
 |refl:Ran w0 w0
 |step {w:Wld} (e:Evt) (h:Ran w0 w):Ran w0 (m4 w e)
theorem D7 {m:PMap} {c s:Int} (h:b7 m c s ≠ -1):0≤c∧c<m.cells∧0≤b7 m c s∧b7 m c s<m.cells:=by
 unfold b7 at h ⊢
 grind
theorem a1U {m:PMap} {c:Int} {l:List Wlk} (hp:o9 m=true) (h0:0≤c) (h1:c<m.cells) (hl:x7 m l=true):W8 m c l=⟨c,L9 m c l l.length,0,[[],[]],[0,0],[0,0]⟩:=by
 rw[W8,if_pos ⟨hp,h0,h1,hl⟩]
theorem c5E (t:Nat) : @Eq (List Pcl) (nth .pcls [[],[]] t) []:=by
 match t with
 | 0=>rfl
 | 1=>rfl
 |n+2=>simp[nth,RT.dflt]
structure Inv (f:Int→Int) (w:Wld):Prop where
 ok:m8 w=true
 fence:Fence w
 shown:Shown w
 mail:Mail w
 noted:Noted f w
def ahO (w x:OW):Bool:=decide (x.wlk.id≤w.wlk.id)
def putO (l:List OW) (w:OW):List OW:=l.takeWhile (ahO w)++w::l.dropWhile (ahO w)
def n4 (l:List OW):List OW:=l.foldl putO []
def Z9 (l:List OW):Prop:=l.Pairwise fun a b=>a.wlk.id<b.wlk.id
def oid (x:OW):Int:=x.wlk.id
theorem a3y (l:List OW) (w:OW):(putO l w).Perm (w::l):=by
 unfold putO
 exact List.perm_middle.trans (by rw[List.takeWhile_append_dropWhile])
theorem b3l : ∀(l a:List OW),(l.foldl putO a).Perm (l++a)
 |[],a=>List.Perm.refl _
 |w::l,a=>by
  rw[List.foldl_cons]
  refine(b3l l (putO a w)).trans ?_
  refine((a3y a w).append_left l).trans ?_
  exact List.perm_middle
theorem C8 (l:List OW):(n4 l).Perm l:=by
 have:=b3l l []
 rwa [List.append_nil]at this
theorem c7C {l:List OW} {w:OW} (h:Z9 l) (hn : ∀x∈l,x.wlk.id≠w.wlk.id):Z9 (putO l w):=by
 induction l with
 |nil=>simp[putO,Z9]
 |cons y l ih =>
  obtain⟨hy,hl⟩:=List.pairwise_cons.1 h
  by_cases hh:y.wlk.id≤w.wlk.id
  ·have e:putO (y::l) w=y::putO l w:=by simp[putO,ahO,hh]
   rw[e]
   refine List.pairwise_cons.2 ⟨fun x hx => ?_,ih hl fun x hx=>hn x (List.mem_cons_of_mem _ hx)⟩
   rcases List.mem_cons.1 ((a3y l w).mem_iff.1 hx)with rfl|hx
   ·have:=hn y List.mem_cons_self
    omega
   ·exact hy x hx
  ·have e:putO (y::l) w=w::y::l:=by simp[putO,ahO,hh]
   rw[e]
   refine List.pairwise_cons.2 ⟨fun x hx => ?_,h⟩
   rcases List.mem_cons.1 hx with rfl|hx
   ·omega
   ·have:=hy x hx
    omega
theorem b3k : ∀(l a:List OW),Z9 a→((l++a).map oid).Nodup→Z9 (l.foldl putO a)
 |[],a,h,_=>h
 |w::l,a,h,hn=>by
  rw[List.foldl_cons]
  simp only[List.cons_append,List.map_cons,List.nodup_cons,List.map_append,List.mem_append,List.mem_map,not_or,not_exists,not_and]at hn
  refine b3k l (putO a w) (c7C h fun x hx=>hn.1.2 x hx) ?_
  have hp:((l++putO a w).map oid).Perm ((w::(l++a)).map oid):=(((a3y a w).append_left l).trans List.perm_middle).map oid
  refine hp.nodup_iff.2 ?_
  simp only[List.map_cons,List.nodup_cons,List.map_append,List.mem_append,List.mem_map,not_or,not_exists,not_and]
  exact hn
theorem L4 {l:List OW} (hn:(l.map oid).Nodup):Z9 (n4 l):=b3k l [] (by simp[Z9]) (by simpa using hn)
theorem b9O {a b:List OW} (ha:Z9 a) (hb:Z9 b) (hp:a.Perm b):a=b :=
 List.Perm.eq_of_pairwise (le:=fun(a b:OW)=>a.wlk.id<b.wlk.id) (fun(a b:OW) _ _ (h1:a.wlk.id<b.wlk.id) (h2:b.wlk.id<a.wlk.id)=>absurd h1 (by omega)) ha hb hp
def sumL {α : Type} (f : α → Int) (l:List α):Int:=(l.map f).sum
def sumK {α : Type} (f : α → Int) (l:List α) (k:Nat):Int:=sumL f (l.take k)
theorem a0c {α : Type} (f : α → Int) (l r:List α):sumL f (l++r)=sumL f l+sumL f r:=by simp[sumL]
theorem a1X {α : Type} (f : α → Int) (x : α):sumL f [x]=f x:=by simp[sumL]
theorem a9k {α : Type} (f : α → Int) (l:List α):sumK f l 0=0:=by simp[sumK,sumL]
theorem a9l (t:RT) (f:t.ty→Int) {l:List t.ty} {k:Nat} (h:k<l.length):sumK f l (k+1)=sumK f l k+f (nth t l k):=by
 unfold sumK
 rw[M6 t l k h,a0c,a1X]
theorem b1z {α : Type} (f : α → Int) {l:List α} {k:Nat} (h:k=l.length):sumK f l k=sumL f l:=by subst h;simp[sumK]
theorem b6z {α : Type} {f : α → Int} {B:Int} : ∀ {l:List α},(∀x∈l,0≤f x∧f x≤B)→0≤sumL f l∧sumL f l≤l.length * B
 |[],_=>by simp[sumL]
 |x::r,h=>by
  have h1:=b6z (l:=r) fun y hy=>h y (List.mem_cons_of_mem _ hy)
  have h2:=h x (List.mem_cons_self ..)
  have h3:sumL f (x::r)=f x+sumL f r:=by simp[sumL]
  rw[h3,List.length_cons]
  have h4:((r.length+1:Nat):Int) * B=r.length * B+B:=by
   rw[Int.natCast_add,Int.add_mul]
   simp
  rw[h4]
  omega
theorem c2a (t:RT) (f:t.ty→Int) {l:List t.ty} {i:Nat} (h:i<l.length):sumL f l=sumL f (l.take i)+f (nth t l i)+sumL f (l.drop (i+1)):=by
 have h1:l=l.take i++([nth t l i]++l.drop (i+1)):=by
  rw[k9 t l i h,List.singleton_append,List.getElem_cons_drop,List.take_append_drop]
 conv=>lhs;rw[h1]
 rw[a0c,a0c,a1X]
 omega
theorem a1g (t:RT) (f:t.ty→Int) {l:List t.ty} {i:Nat} {x:t.ty} (h:i<l.length):sumL f (l.set i x)=sumL f l-f (nth t l i)+f x:=by
 rw[c2a t f h,List.set_eq_take_append_cons_drop,if_pos h,←List.singleton_append,a0c,a0c,a1X]
 omega
def fl (m:PMap) (st:List Sto) (c s:Int):List Pcl:=if b7 m c s = -1 then[]else A3 (ouX m st c s) (inX m st (b7 m c s) (1-s))
def isWp (p:Pcl):Bool:=decide (p.kind=1)
def flyO (l:List Pcl):List OW:=(l.filter isWp).map fun p=>⟨p.wlk,false⟩
def y7 (l:List Wlk):List OW:=l.map fun w=>⟨w,true⟩
def I9 (m:PMap):List Nat:=List.range m.cells.toNat
def a3f (m:PMap):List (Nat×Nat):=(I9 m).flatMap fun c => [(c,0),(c,1)]
def allO (m:PMap) (st:List Sto):List OW:=(I9 m).flatMap (fun(c:Nat)=>y7 (cX m st (c:Int)).wlks)++(a3f m).flatMap fun e=>flyO (fl m st (e.1:Int) (e.2:Int))
def cC (p:Pcl):Int:=if p.kind=1 then 0 else p.j8
def sumC (l:List Pcl):Int:=sumL cC l
def airN (m:PMap) (st:List Sto) (d s:Int):Int:=if b7 m d s = -1 then 0 else sumC (fl m st (b7 m d s) (1-s))
def m6 (m:PMap) (st:List Sto):One:=⟨m,n4 (allO m st),(I9 m).map fun(c:Nat)=>(cX m st (c:Int)).ground,(I9 m).map fun(c:Nat) => [airN m st (c:Int) 0,airN m st (c:Int) 1]⟩
def oneOf (w:Wld):One:=if m8 w=true then m6 w.map w.stores else a2u
theorem b1o {m:PMap} {c:Cll} (h:s5 m c=true) {s:Nat} (hs:s<2):u6 m (nth .pcls c.outs s) (nth .int c.next s)=true:=((G7.1 h).2.2.2.2.2.2.2.2.2.2 s hs).1
section
variable {m:PMap} {st st':List Sto} {d:Int} {r:Rec}
theorem Wr.far (h:Wr m st st' d r) {c:Int} (h0:0≤c) (hc:c≠d):cX m st' c=cX m st c:=h.other (by have:=h.zero;omega)
end
end Go.Mo
namespace Go.Mo
open Go.Sx
def a3b (m:PMap) (st:List Sto) (k:Nat):List OW:=(List.range k).flatMap fun(c:Nat)=>y7 (cX m st (c:Int)).wlks
def flyE (m:PMap) (st:List Sto) (c:Nat):List OW:=flyO (fl m st (c:Int) 0)++flyO (fl m st (c:Int) 1)
def a8O (m:PMap) (st:List Sto) (k:Nat):List OW:=(List.range k).flatMap (flyE m st)
def accH (m:PMap) (st:List Sto) (k j:Nat):List OW:=a3b m st k++y7 ((cX m st (k:Int)).wlks.take j)
def accF (m:PMap) (st:List Sto) (i s j:Nat):List OW :=
 a3b m st m.cells.toNat++a8O m st i++if s=0 then flyO ((fl m st (i:Int) 0).take j)else flyO (fl m st (i:Int) 0)++flyO ((fl m st (i:Int) 1).take j)
section
variable {m:PMap} {st:List Sto} {i s j k:Nat}
theorem b0M:a3b m st (k+1)=a3b m st k++y7 (cX m st (k:Int)).wlks:=by
 unfold a3b
 rw[List.range_succ,List.flatMap_append]
 simp
theorem b3n:a8O m st (k+1)=a8O m st k++flyE m st k:=by
 unfold a8O
 rw[List.range_succ,List.flatMap_append]
 simp
theorem d6M:allO m st=a3b m st m.cells.toNat++a8O m st m.cells.toNat:=by
 unfold allO a3b a8O a3f I9
 congr 1
 rw[List.flatMap_assoc]
 congr 1
 funext c
 simp[flyE]
theorem b6k:accH m st 0 0 = []:=by simp[accH,a3b,y7]
theorem b6l (h:j<(cX m st (k:Int)).wlks.length):accH m st k (j+1)=accH m st k j ++ [⟨nth .wlk (cX m st (k:Int)).wlks j,true⟩]:=by
 unfold accH y7
 rw[M6 .wlk _ j h,List.map_append,List.append_assoc]
 rfl
theorem c1M (h:j=(cX m st (k:Int)).wlks.length):accH m st k j=accH m st (k+1) 0:=by
 subst h
 unfold accH
 rw[b0M]
 simp[y7]
theorem c1L:accH m st m.cells.toNat 0=accF m st 0 0 0:=by simp[accH,accF,y7,a8O,flyO]
theorem a0O (l:List OW) (x:OW):n4 (l ++ [x])=putO (n4 l) x:=by simp[n4,List.foldl_append]
theorem a1K (l:List OW):(n4 l).length=l.length:=(C8 l).length_eq
theorem c1j {l:List Pcl} (h:j<l.length) (hk:(nth .pcl l j).kind=1):flyO (l.take (j+1))=flyO (l.take j) ++ [⟨(nth .pcl l j).wlk,false⟩]:=by
 unfold flyO
 rw[M6 .pcl l j h,List.filter_append,List.map_append]
 simp[isWp,hk]
theorem b5U {l:List Pcl} (h:j<l.length) (hk : ¬(nth .pcl l j).kind=1):flyO (l.take (j+1))=flyO (l.take j):=by
 unfold flyO
 rw[M6 .pcl l j h,List.filter_append,List.map_append]
 simp[isWp,hk]
theorem s01 (hs:s<2):s=0∧(s:Int)=0∨s=1∧(s:Int)=1:=by omega
theorem b3Y (hs:s<2) (h:j<(fl m st (i:Int) (s:Int)).length) (hk:(nth .pcl (fl m st (i:Int) (s:Int)) j).kind=1):accF m st i s (j+1)=accF m st i s j ++ [⟨(nth .pcl (fl m st (i:Int) (s:Int)) j).wlk,false⟩]:=by
 unfold accF
 rcases s01 hs with ⟨h1,h2⟩|⟨h1,h2⟩
 ·rw[h2]at h hk ⊢
  rw[if_pos h1,if_pos h1,c1j h hk]
  simp only[List.append_assoc]
 ·rw[h2]at h hk ⊢
  rw[if_neg (by omega),if_neg (by omega),c1j h hk]
  simp only[List.append_assoc]
theorem b0e (hs:s<2) (h:j<(fl m st (i:Int) (s:Int)).length) (hk : ¬(nth .pcl (fl m st (i:Int) (s:Int)) j).kind=1):accF m st i s (j+1)=accF m st i s j:=by
 unfold accF
 rcases s01 hs with ⟨h1,h2⟩|⟨h1,h2⟩
 ·rw[h2]at h hk
  rw[if_pos h1,if_pos h1,b5U h hk]
 ·rw[h2]at h hk
  rw[if_neg (by omega),if_neg (by omega),b5U h hk]
theorem b3X (h:j=(fl m st (i:Int) 0).length):accF m st i 0 j=accF m st i 1 0:=by
 subst h
 simp[accF,flyO]
theorem b3W (h:j=(fl m st (i:Int) 1).length):accF m st i 1 j=accF m st (i+1) 0 0:=by
 subst h
 unfold accF
 rw[b3n]
 simp[flyE,flyO]
theorem b4a:accF m st m.cells.toNat 0 0=allO m st:=by
 rw[d6M]
 simp[accF,flyO]
end
def O3 (m:PMap) (st:List Sto) (k:Nat):List Cll:=(List.range k).map fun(c:Nat)=>cX m st (c:Int)
def V8 (m:PMap) (st:List Sto) (k:Nat):List Int:=(List.range k).map fun(c:Nat)=>(cX m st (c:Int)).ground
theorem b4g {m:PMap} {st:List Sto} {k:Nat}:O3 m st (k+1)=O3 m st k ++ [cX m st (k:Int)]:=by simp[O3,List.range_succ]
theorem b4t {m:PMap} {st:List Sto} {k:Nat}:V8 m st (k+1)=V8 m st k ++ [(cX m st (k:Int)).ground]:=by simp[V8,List.range_succ]
theorem a1A {m:PMap} {st:List Sto} {k:Nat}:(O3 m st k).length=k:=by simp[O3]
theorem a4w {m:PMap} {st:List Sto} {k:Nat}:(V8 m st k).length=k:=by simp[V8]
theorem b6D {m:PMap} {st:List Sto} {k i:Nat} (h:i<k):nth .cll (O3 m st k) i=cX m st (i:Int):=by
 rw[k9 .cll _ i (by rw[a1A];exact h)]
 simp[O3]
def got (m:PMap) (st:List Sto) (i s j:Nat) (c u:Int):Int :=
 if c<(i:Int)∨c=(i:Int)∧u<(s:Int)then sumC (fl m st c u)else if c=(i:Int)∧u=(s:Int)then sumC ((fl m st c u).take j)else 0
def entA (m:PMap) (st:List Sto) (i s j:Nat) (d t:Int):Int:=if b7 m d t = -1 then 0 else got m st i s j (b7 m d t) (1-t)
def airA (m:PMap) (st:List Sto) (i s j:Nat):List (List Int):=(I9 m).map fun(d:Nat) => [entA m st i s j (d:Int) 0,entA m st i s j (d:Int) 1]
def airZ (k:Nat):List (List Int):=List.replicate k [0,0]
section
variable {m:PMap} {st:List Sto} {i s j k:Nat}
theorem c9M:airZ (k+1)=airZ k ++ [[0,0]]:=by simp[airZ,List.replicate_succ']
theorem a2q:(airA m st i s j).length=m.cells.toNat:=by simp[airA,I9]
theorem b3Q:(airZ k).length=k:=by simp[airZ]
theorem b4E {l:List Pcl} (h:j<l.length):sumC (l.take (j+1))=sumC (l.take j)+cC (nth .pcl l j):=by
 unfold sumC
 rw[M6 .pcl l j h,a0c,a1X]
theorem b3U {i s j i' s' j':Nat} (h : ∀c u:Int,0≤c→c<m.cells→0≤u→u≤1→got m st i s j c u=got m st i' s' j' c u):airA m st i s j=airA m st i' s' j':=by
 have e : ∀d t:Int,0≤t→t≤1→entA m st i s j d t=entA m st i' s' j' d t:=by
  intro d t h0 h1
  unfold entA
  split
  ·rfl
  ·rename_i hd
   have:=D7 hd
   exact h _ _ this.2.2.1 this.2.2.2 (by omega) (by omega)
 unfold airA
 congr 1
 funext d
 rw[e _ 0 (by omega) (by omega),e _ 1 (by omega) (by omega)]
theorem b3S (h:j=(fl m st (i:Int) 0).length):airA m st i 0 j=airA m st i 1 0:=by
 subst h
 refine b3U fun c u _ _ h0 h1 => ?_
 unfold got
 by_cases hc:c=(i:Int)
 ·subst hc
  have:u=0∨u=1:=by omega
  rcases this with rfl|rfl
  ·simp[sumC,sumL]
  ·simp[sumC,sumL]
 ·simp[hc]
theorem b3R (h:j=(fl m st (i:Int) 1).length):airA m st i 1 j=airA m st (i+1) 0 0:=by
 subst h
 refine b3U fun c u _ _ h0 h1 => ?_
 unfold got
 by_cases hc:c=(i:Int)
 ·subst hc
  have:u=0∨u=1:=by omega
  rcases this with rfl|rfl
  ·rw[if_pos (by omega),if_pos (by omega)]
  ·rw[if_neg (by omega),if_pos (by omega),if_pos (by omega)]
   simp
 ·by_cases h2:c<(i:Int)
  ·rw[if_pos (by omega),if_pos (by omega)]
  ·rw[if_neg (by omega),if_neg (by omega),if_neg (by omega)]
   split
   ·simp[sumC,sumL]
   ·rfl
theorem c9N:airA m st 0 0 0=airZ m.cells.toNat:=by
 have e : ∀d t:Int,0≤t→t≤1→entA m st 0 0 0 d t=0:=by
  intro d t h0 h1
  unfold entA
  split
  ·rfl
  ·rename_i hd
   have:=D7 hd
   unfold got
   rw[if_neg (by omega)]
   split<;>simp[sumC,sumL]
 unfold airA airZ I9
 refine List.ext_getElem (by simp) fun a h1 h2 => ?_
 simp[e]
theorem d4E:airA m st m.cells.toNat 0 0=(I9 m).map fun(c:Nat) => [airN m st (c:Int) 0,airN m st (c:Int) 1]:=by
 have e : ∀d t:Int,entA m st m.cells.toNat 0 0 d t=airN m st d t:=by
  intro d t
  unfold entA airN
  split
  ·rfl
  ·rename_i hd
   have:=D7 hd
   unfold got
   rw[if_pos (by omega)]
 unfold airA
 congr 1
 funext d
 rw[e,e]
theorem b3T (hs:s<2) (h:j<(fl m st (i:Int) (s:Int)).length) (hk:(nth .pcl (fl m st (i:Int) (s:Int)) j).kind=1):airA m st i s (j+1)=airA m st i s j:=by
 refine b3U fun c u _ _ h0 h1 => ?_
 unfold got
 split
 ·rfl
 ·split
  ·rename_i hc
   obtain⟨rfl,rfl⟩:=hc
   rw[b4E h]
   simp[cC,hk]
  ·rfl
theorem b3r {d t:Int} (h : ¬(b7 m d t=(i:Int)∧1-t=(s:Int))) (j':Nat):entA m st i s j' d t=entA m st i s j d t:=by
 unfold entA got
 split
 ·rfl
 ·simp only[if_neg h]
theorem c1o {d t:Int} (hd:b7 m d t ≠ -1) (h1:b7 m d t=(i:Int)) (h2:1-t=(s:Int)):entA m st i s j d t=sumC ((fl m st (i:Int) (s:Int)).take j):=by
 unfold entA got
 rw[if_neg hd,if_neg (by omega),if_pos ⟨h1,h2⟩,h1,h2]
theorem a5I {d:Nat} (h:(d:Int)<m.cells):nth .ints (airA m st i s j) d = [entA m st i s j (d:Int) 0,entA m st i s j (d:Int) 1]:=by
 have hl:d<(airA m st i s j).length:=by rw[a2q];omega
 rw[k9 .ints _ d hl]
 simp[airA,I9]
theorem b0c (hs:s<2) (hd:b7 m (i:Int) (s:Int) ≠ -1) (h:j<(fl m st (i:Int) (s:Int)).length) :
  airA m st i s (j+1)=(airA m st i s j).set (b7 m (i:Int) (s:Int)).toNat ((nth .ints (airA m st i s j) (b7 m (i:Int) (s:Int)).toNat).set (1-(s:Int)).toNat (nth .int (nth .ints (airA m st i s j) (b7 m (i:Int) (s:Int)).toNat) (1-(s:Int)).toNat+cC (nth .pcl (fl m st (i:Int) (s:Int)) j))):=by
 have hb:=v7 hd
 have hi:=D7 hd
 have hD:(((b7 m (i:Int) (s:Int)).toNat:Nat):Int)=b7 m (i:Int) (s:Int):=by omega
 have hn:nth .ints (airA m st i s j) (b7 m (i:Int) (s:Int)).toNat = [entA m st i s j (b7 m (i:Int) (s:Int)) 0,entA m st i s j (b7 m (i:Int) (s:Int)) 1]:=by
  rw[a5I (by omega),hD]
 have hn':nth .ints (airA m st i s (j+1)) (b7 m (i:Int) (s:Int)).toNat = [entA m st i s (j+1) (b7 m (i:Int) (s:Int)) 0,entA m st i s (j+1) (b7 m (i:Int) (s:Int)) 1]:=by
  rw[a5I (by omega),hD]
 have hback:=hb.2.2.2.2.2.2.1
 refine List.ext_getElem (by simp[a2q]) fun d h1 h2 => ?_
 have hdl:(d:Int)<m.cells:=by rw[a2q]at h1;omega
 by_cases hdd:(b7 m (i:Int) (s:Int)).toNat=d
 ·rw[List.getElem_set,if_pos hdd,←k9 .ints _ d h1]
  subst hdd
  rw[hn,hn']
  have hT:entA m st i s (j+1) (b7 m (i:Int) (s:Int)) (1-(s:Int))=entA m st i s j (b7 m (i:Int) (s:Int)) (1-(s:Int))+cC (nth .pcl (fl m st (i:Int) (s:Int)) j):=by
   have hne:b7 m (b7 m (i:Int) (s:Int)) (1-(s:Int)) ≠ -1:=by omega
   rw[c1o hne hback (by omega),c1o hne hback (by omega),b4E h]
  have hS:entA m st i s (j+1) (b7 m (i:Int) (s:Int)) (s:Int)=entA m st i s j (b7 m (i:Int) (s:Int)) (s:Int):=b3r (by omega) (j+1)
  generalize b7 m (i:Int) (s:Int)=D at *
  generalize cC (nth .pcl (fl m st (i:Int) (s:Int)) j)=v at *
  rcases s01 hs with ⟨hs1,hs2⟩|⟨hs1,hs2⟩
  ·rw[hs2]at hT hS
   simp only[hs2]at hT ⊢
   rw[show(1:Int)-0=1 by omega]at hT ⊢
   rw[hT,hS]
   rfl
  ·rw[hs2]at hT hS
   simp only[hs2]at hT ⊢
   rw[show(1:Int)-1=0 by omega]at hT ⊢
   rw[hT,hS]
   rfl
 ·rw[List.getElem_set,if_neg hdd,←k9 .ints _ d h1,←k9 .ints _ d (by rw[a2q]at h1 ⊢;exact h1),a5I hdl,a5I hdl]
  have ne : ∀t:Int,¬(b7 m (d:Int) t=(i:Int)∧1-t=(s:Int)):=by
   rintro t ⟨ht1,ht2⟩
   have hq:b7 m (d:Int) t ≠ -1:=by omega
   have:=(v7 hq).2.2.2.2.2.2.1
   rw[ht1,ht2]at this
   omega
  rw[b3r (ne 0) (j+1),b3r (ne 1) (j+1)]
end
theorem d3A {m:PMap} {st:List Sto} (hok : ∀c:Int,0≤c→c<m.cells→s5 m (cX m st c)=true) (c s:Int):(fl m st c s).length≤5000 ∧ ∀p∈fl m st c s,J8 m p=true:=by
 unfold fl
 split
 ·simp
 ·rename_i hd
  have hi:=D7 hd
  have hs:=(H6 hd).1
  have h:=b1o (hok c hi.1 hi.2.1) hs
  have hl:((nth .pcls (cX m st c).outs s.toNat).length:Int)≤5000:=by
   simp only[u6,Bool.and_eq_true,decide_eq_true_eq]at h
   omega
  refine⟨Nat.le_trans (List.length_filter_le _ _) (by unfold ouX;omega),fun p hp => ?_⟩
  have hp:=(List.mem_filter.1 hp).1
  obtain⟨k,hk,rfl⟩:=a1b .pcl hp
  simp only[u6,Bool.and_eq_true]at h
  have:=(l8 _ _).1 h.2 k hk
  simp only[a3B,Bool.and_eq_true]at this
  exact this.1
theorem d9i {m:PMap} {p:Pcl} (h:J8 m p=true):0≤cC p∧cC p≤9:=by
 have:=J1.1 h
 unfold cC
 split<;>omega
theorem b8y {m:PMap} {l:List Pcl} (h : ∀p∈l,J8 m p=true) (hl:l.length≤5000):0≤sumC l∧sumC l≤45000:=by
 have:=b6z (f:=cC) (B:=9) fun p hp=>d9i (h p hp)
 unfold sumC
 omega
theorem d8x {m:PMap} {st:List Sto} {i s j:Nat} (hok : ∀c:Int,0≤c→c<m.cells→s5 m (cX m st c)=true) (c u:Int):0≤got m st i s j c u∧got m st i s j c u≤45000:=by
 have hf:=d3A hok c u
 unfold got
 split
 ·exact b8y hf.2 hf.1
 ·split
  ·exact b8y (fun p hp=>hf.2 p (List.mem_of_mem_take hp)) (by rw[List.length_take];omega)
  ·omega
theorem b1p {m:PMap} {st:List Sto} {i s j:Nat} (hok : ∀c:Int,0≤c→c<m.cells→s5 m (cX m st c)=true) {d u:Nat} (hd:(d:Int)<m.cells) (hu:u<2) :
  (nth .ints (airA m st i s j) d).length=2∧0≤nth .int (nth .ints (airA m st i s j) d) u∧nth .int (nth .ints (airA m st i s j) d) u≤45000:=by
 rw[a5I hd]
 have e : ∀t:Int,0≤entA m st i s j (d:Int) t∧entA m st i s j (d:Int) t≤45000:=by
  intro t
  unfold entA
  split
  ·omega
  ·exact d8x hok _ _
 refine⟨rfl,?_⟩
 rcases s01 hu with ⟨h,_⟩|⟨h,_⟩<;>subst h
 ·exact e 0
 ·exact e 1
end Go.Mo
