/-
  Plain models of the program's functions, with no program in sight: a1B, walkers.
-/
import Derived.Test.YtiioognflecdgaaGreatS4e
import Derived.Test.YtiioognflecdgaaGreatS5
set_option linter.unusedVariables false
set_option linter.unusedSimpArgs false
namespace Go.Mo
open Go.Sx
theorem okI {n:Int} (h:OkA (.int .i64 fun _=>n)) : -9223372036854775808≤n∧n≤9223372036854775807:=by
 cases h with
 |int _ _ h1 h2=>exact⟨h1,h2⟩
theorem okL {t:RT} {l:List t.ty} (h:OkA (.list t fun _=>l)) (ht:t.O8=false:=by rfl):l.length≤140737488355328:=by
 cases h with
 |list _ _ h1 _ =>
  exact Nat.le_trans (Nat.le_mul_of_pos_right l.length (b3h t ht)) h1.1
theorem okB {t:RT} {l:List t.ty} (h:OkA (.list t fun _=>l)):l.length * t.bytes≤140737488355328:=by
 cases h with
 |list _ _ h1 _=>exact h1.1
theorem a0x {k:Nat} (h:0<k) (h2:k≤140737488355328):IntKind.i64.wrap ((k:Int)-1)=((k-1:Nat):Int):=by
 rw[b8 (by omega) (by omega)];omega
theorem j4 {k:Nat} (h2:k≤140737488355328):IntKind.i64.wrap ((k:Int)+1)=((k+1:Nat):Int):=by
 rw[b8 (by omega) (by omega)];omega
def l9 (k:Nat) (f:Nat→Bool):Bool:=(List.range k).all f
theorem n8 (f:Nat→Bool):l9 0 f=true:=rfl
theorem n3 (k:Nat) (f:Nat→Bool):l9 (k+1) f=(l9 k f&&f k):=by
 simp[l9,List.range_succ]
theorem l6 (k:Nat) (f:Nat→Bool):l9 k f=true ↔ ∀i,i<k→f i=true:=by
 simp[l9]
theorem s6 {k n:Nat} {f:Nat→Bool} (h:k<n) (hf:f k=false):l9 n f=false:=by
 cases ha:l9 n f with
 |false=>rfl
 |true=>rw[(l6 n f).1 ha k h]at hf;cases hf
theorem c6A {a b:Int} (h0:0≤a) (h1:a≤9223372036854775807) (hb:0<b):IntKind.i64.wrap (a.tdiv b)=a / b:=by
 rw[Int.tdiv_eq_ediv_of_nonneg h0]
 have h2:a / b≤a:=Int.ediv_le_self b h0
 have h3:0≤a / b:=Int.ediv_nonneg h0 (by omega)
 exact b8 (by omega) (by omega)
def inR (n a b:Int):Bool:=decide (a≤n∧n≤b)
def p7 (m:PMap):Bool:=decide (2≤m.cells∧m.cells≤4∧2≤m.width∧m.width≤8)
def m5 (m:PMap) (p:Int):Int:=if p7 m=true∧0≤p∧p<m.cells * m.width then p / m.width else -1
def b7 (m:PMap) (c s:Int):Int :=
 if p7 m=true∧0≤c∧c<m.cells then(if s=0∧0<c then c-1 else if s=1∧c+1<m.cells then c+1 else -1)else -1
def N8 (m:PMap) (p s:Int):Bool :=
 decide (b7 m (m5 m p) s ≠ -1∧p=(if s=0 then m5 m p * m.width else m5 m p * m.width+m.width-1))
theorem s0 {m:PMap}:p7 m=true↔2≤m.cells∧m.cells≤4∧2≤m.width∧m.width≤8:=by simp[p7]
theorem a4f {m:PMap} (h:p7 m=true):4≤m.cells * m.width∧m.cells * m.width≤32:=by
 rw[s0]at h
 obtain⟨h1,h2,h3,h4⟩:=h
 constructor
 ·have:=Int.mul_le_mul h1 h3 (by omega) (by omega);omega
 ·have:=Int.mul_le_mul h2 h4 (by omega) (by omega);omega
theorem H9 {m:PMap} {c s:Int} (h:b7 m c s ≠ -1):p7 m=true∧0≤c∧c<m.cells∧(s=0∧0<c∨s=1∧c+1<m.cells):=by
 unfold b7 at h
 split at h
 ·rename_i h1
  refine⟨h1.1,h1.2.1,h1.2.2,?_⟩
  split at h
  ·exact .inl (by assumption)
  ·split at h
   ·exact .inr (by assumption)
   ·exact absurd rfl h
 ·exact absurd rfl h
theorem O5 {m:PMap} {p:Int} (h:m5 m p ≠ -1):p7 m=true∧0≤p∧p<m.cells * m.width∧m5 m p=p / m.width:=by
 unfold m5 at h ⊢
 split at h
 ·rename_i h1
  rw[if_pos h1]
  exact⟨h1.1,h1.2.1,h1.2.2,rfl⟩
 ·exact absurd rfl h
theorem b6A {m:PMap} {p:Int} (h:m5 m p ≠ -1):0≤m5 m p * m.width∧m5 m p * m.width≤p:=by
 obtain⟨h1,h2,h3,h4⟩:=O5 h
 rw[s0]at h1
 rw[h4]
 have h5:0≤p / m.width:=Int.ediv_nonneg h2 (by omega)
 exact⟨Int.mul_nonneg h5 (by omega),Int.ediv_mul_le p (by omega)⟩
theorem d1i {m:PMap} {p s:Int} (h:b7 m (m5 m p) s ≠ -1):m5 m (p+(2 * s-1))≠m5 m p↔p=(if s=0 then m5 m p * m.width else m5 m p * m.width+m.width-1):=by
 obtain⟨h1,h2,h3,h4⟩:=H9 h
 have h5:m5 m p ≠ -1:=by omega
 obtain⟨_,h6,h7,h8⟩:=O5 h5
 rw[s0]at h1
 obtain⟨c,w⟩:=m
 simp only at *
 have hw:w=2∨w=3∨w=4∨w=5∨w=6∨w=7∨w=8:=by omega
 have hok:p7 ⟨c,w⟩=true:=by rw[s0];exact h1
 have hc : ∀q,m5 ⟨c,w⟩ q=if 0≤q∧q<c * w then q / w else -1:=fun q=>by simp[m5,hok]
 rw[h8]at h2 h3 h4 ⊢
 rw[hc]
 clear h hok hc h5 h8
 rcases hw with rfl|rfl|rfl|rfl|rfl|rfl|rfl<;>(rcases h4 with ⟨rfl,h4⟩|⟨rfl,h4⟩<;>simp only[Int.reduceMul,Int.reduceSub,if_true,if_neg (show ¬((1:Int)=0) by decide)]<;>split<;>omega)
def a6Q (w:Wlk):Bool:=decide (1≤w.id∧w.id≤9∧0≤w.n0∧w.n0≤99∧0≤w.seq∧w.seq≤900∧0≤w.last∧w.last≤9)
def Q8 (m:PMap) (w:Wlk):Bool:=decide (1≤w.id∧w.id≤9∧m5 m w.pos ≠ -1∧0≤w.n0∧w.n0≤99∧0≤w.seq∧w.seq≤900∧0≤w.last∧w.last≤9)
def a2S (m:PMap) (l:List Wlk) (i:Nat):Bool:=Q8 m (nth .wlk l i)&&(decide (i=0)||decide ((nth .wlk l (i-1)).id<(nth .wlk l i).id))
def z6 (m:PMap) (l:List Wlk):Bool:=l9 l.length (a2S m l)
theorem a8T {m:PMap} {l:List Wlk} {k:Nat} (h:k<l.length) (hw:Q8 m (nth .wlk l k)=false):z6 m l=false:=s6 h (by simp[a2S,hw])
theorem a7O {m:PMap} {l:List Wlk} {k:Nat} (h:k<l.length) (h0:0<k) (hw:(nth .wlk l k).id≤(nth .wlk l (k-1)).id):z6 m l=false:=s6 h (by
 have : ¬(nth .wlk l (k-1)).id<(nth .wlk l k).id:=by omega
 have h1 : ¬k=0:=by omega
 simp[a2S,this,h1])
def flt {α : Type} (p : α → Bool) (l:List α) (k:Nat):List α := (l.take k).filter p
theorem a6C {α : Type} (p : α → Bool) (l:List α):flt p l 0 = []:=by simp[flt]
theorem a8N {α : Type} (p : α → Bool) (l:List α):flt p l l.length=l.filter p:=by simp[flt]
theorem a8M {α : Type} (p : α → Bool) (l:List α) (k:Nat):(flt p l k).length≤k:=by
 unfold flt
 exact Nat.le_trans (List.length_filter_le _ _) (by simp;omega)
theorem a0c (t:RT) (p:t.ty→Bool) (l:List t.ty) (k:Nat) (h:k<l.length):flt p l (k+1)=if p (nth t l k)=true then flt p l k ++ [nth t l k]else flt p l k:=by
 unfold flt
 rw[List.take_succ_eq_append_getElem h,List.filter_append,l7 t l k h]
 cases hp:p l[k]<;>simp[hp]
def F6 (l:List Wlk) (id:Int):List Wlk:=l.filter fun w=>decide (w.id≠id)
def O1 (l:List Wlk) (id:Int) (k:Nat):List Wlk:=flt (fun w=>decide (w.id≠id)) l k
theorem a4w (l:List Wlk) (id:Int):O1 l id 0 = []:=a6C _ _
theorem a5t {l:List Wlk} {id:Int} {k:Nat} (h:k=l.length):O1 l id k=F6 l id:=by subst h;exact a8N _ _
theorem a5s (l:List Wlk) (id:Int) (k:Nat):(O1 l id k).length≤k:=a8M _ _ _
theorem a5r {l:List Wlk} {id:Int} {k:Nat} (h:k<l.length) (hn:(nth .wlk l k).id≠id):O1 l id (k+1)=O1 l id k ++ [nth .wlk l k]:=by
 unfold O1
 rw[a0c .wlk _ _ _ h,if_pos (by simpa using hn)]
theorem a7N {l:List Wlk} {id:Int} {k:Nat} (h:k<l.length) (hn:(nth .wlk l k).id=id):O1 l id (k+1)=O1 l id k:=by
 unfold O1
 rw[a0c .wlk _ _ _ h,if_neg (by simp[hn])]
def idx {α : Type} (p : α → Bool) (l:List α):Int:=match l.findIdx? p with
 |some i=>(i:Int)
 |none => -1
theorem b0A {α : Type} {p : α → Bool} {l:List α} {k:Nat} (h:k<l.length) (hp:p l[k]=true) (hn : ∀j (hj:j<k),p (l[j]'(by omega))=false):idx p l=k:=by
 have:l.findIdx? p=some k:=by
  rw[List.findIdx?_eq_some_iff_getElem]
  exact⟨h,hp,fun j hj=>by simp[hn j hj]⟩
 simp[idx,this]
theorem a2b {α : Type} {p : α → Bool} {l:List α} (hn : ∀j (hj:j<l.length),p l[j]=false):idx p l = -1:=by
 have:l.findIdx? p=none:=by
  rw[List.findIdx?_eq_none_iff]
  intro x hx
  obtain⟨j,hj,rfl⟩:=List.getElem_of_mem hx
  exact hn j hj
 simp[idx,this]
theorem I9 {α : Type} (p : α → Bool) (l:List α):idx p l = -1∧(∀x∈l,p x=false) ∨ ∃k,∃h:k<l.length,idx p l=(k:Int)∧p l[k]=true ∧ ∀j (hj:j<k),p (l[j]'(by omega))=false:=by
 unfold idx
 cases hf:l.findIdx? p with
 |none =>
  rw[List.findIdx?_eq_none_iff]at hf
  exact .inl ⟨rfl,fun x hx=>by simpa using hf x hx⟩
 |some k =>
  rw[List.findIdx?_eq_some_iff_getElem]at hf
  obtain⟨h,h1,h2⟩:=hf
  exact .inr ⟨k,h,rfl,h1,fun j hj=>by simpa using h2 j hj⟩
def isId (id:Int) (w:Wlk):Bool:=decide (w.id=id)
def k8 (l:List Wlk) (id:Int):Int:=idx (isId id) l
def nid (l:List Wlk) (id:Int) (j:Nat):Bool := !isId id (nth .wlk l j)
theorem b6C {l:List Wlk} {id:Int} {k:Nat} (h:l9 k (nid l id)=true) (hk:k<l.length) (hi:(nth .wlk l k).id=id):k8 l id=k:=by
 rw[l7 .wlk l k hk]at hi
 refine b0A hk (by simp[isId,hi]) fun j hj => ?_
 have:=(l6 k _).1 h j hj
 simp only[nid,Bool.not_eq_true']at this
 rw[l7 .wlk l j (by omega)]at this
 exact this
theorem a9O {l:List Wlk} {id:Int} {k:Nat} (h:l9 k (nid l id)=true) (hk:k=l.length):k8 l id = -1:=by
 subst hk
 refine a2b fun j hj => ?_
 have:=(l6 _ _).1 h j hj
 simp only[nid,Bool.not_eq_true']at this
 rw[l7 .wlk l j hj]at this
 exact this
theorem O6 (l:List Wlk) (id:Int) : -1≤k8 l id∧k8 l id<l.length:=by
 rcases I9 (isId id) l with ⟨h,_⟩|⟨k,hk,h,_⟩
 ·unfold k8;rw[h];omega
 ·unfold k8;rw[h];omega
theorem a5V {l:List Wlk} {id:Int} (h:0≤k8 l id):(nth .wlk l (k8 l id).toNat).id=id:=by
 rcases I9 (isId id) l with ⟨h',_⟩|⟨k,hk,h',h2,_⟩
 ·unfold k8 at h;omega
 ·unfold k8;rw[h']
  rw[Int.toNat_natCast,l7 .wlk l k hk]
  simpa [isId]using h2
def P9 (l:List Wlk) (id:Int):Wlk:=if 0≤k8 l id then nth .wlk l (k8 l id).toNat else⟨0,0,0,0,0⟩
def s8 (l:List Wlk) (id:Int):Bool:=decide (0≤k8 l id)
def S1 (o:Ord):Bool:=decide (1≤o.who∧o.who≤9∧1≤o.seq∧o.seq≤900 ∧
 ((o.kind=1∧0≤o.dest∧o.dest≤1∧o.n=0)∨(o.kind=2∧1≤o.dest∧o.dest≤9∧o.dest≠o.who∧1≤o.n∧o.n≤9)∨((o.kind=3∨o.kind=4)∧o.dest=0∧1≤o.n∧o.n≤9) ∨
  (o.kind=5∧0≤o.dest∧o.dest≤1∧1≤o.n∧o.n≤9)∨(o.kind=6∧o.dest=0∧o.n=0)))
def a3c (w:Wlk):Bool:=decide (w.id=0∧w.pos=0∧w.n0=0∧w.seq=0∧w.last=0)
def a7l (p:Pcl):Bool:=decide (0≤p.n∧p.n≤4999∧(p.kind=1∧p.n0=0∨p.kind=2∧a3c p.wlk=true∧1≤p.n0∧p.n0≤9))
def K0 (m:PMap) (p:Pcl):Bool:=decide (p7 m=true∧0≤p.n∧p.n≤4999∧(p.kind=1∧Q8 m p.wlk=true∧p.n0=0∨p.kind=2∧a3c p.wlk=true∧1≤p.n0∧p.n0≤9))
def a2V (m:PMap) (l:List Pcl) (next:Int) (i:Nat):Bool:=K0 m (nth .pcl l i)&&decide ((nth .pcl l i).n=next-l.length+i)
def u0 (m:PMap) (l:List Pcl) (next:Int):Bool:=decide (p7 m=true∧0≤next∧next≤5000∧(l.length:Int)≤next)&&l9 l.length (a2V m l next)
theorem a4A {m:PMap} {l:List Pcl} {next:Int} {k:Nat} (h:k<l.length) (hw:K0 m (nth .pcl l k)=false):u0 m l next=false:=by
 have:=s6 (f:=a2V m l next) h (by simp[a2V,hw])
 simp[u0,this]
theorem a3w {m:PMap} {l:List Pcl} {next:Int} {k:Nat} (h:k<l.length) (hw : ¬(nth .pcl l k).n=next-l.length+k):u0 m l next=false:=by
 have:=s6 (f:=a2V m l next) h (by simp[a2V,hw])
 simp[u0,this]
def Z1 (l:List Pcl) (n:Int):List Pcl:=l.filter fun p=>decide (n≤p.n)
def L3 (l:List Pcl) (n:Int) (k:Nat):List Pcl:=flt (fun p=>decide (n≤p.n)) l k
theorem a3x (l:List Pcl) (n:Int):L3 l n 0 = []:=a6C _ _
theorem a4D {l:List Pcl} {n:Int} {k:Nat} (h:k=l.length):L3 l n k=Z1 l n:=by subst h;exact a8N _ _
theorem a4C (l:List Pcl) (n:Int) (k:Nat):(L3 l n k).length≤k:=a8M _ _ _
theorem a4B {l:List Pcl} {n:Int} {k:Nat} (h:k<l.length) (hn:n≤(nth .pcl l k).n):L3 l n (k+1)=L3 l n k ++ [nth .pcl l k]:=by
 unfold L3
 rw[a0c .pcl _ _ _ h,if_pos (by simpa using hn)]
theorem a5X {l:List Pcl} {n:Int} {k:Nat} (h:k<l.length) (hn:(nth .pcl l k).n<n):L3 l n (k+1)=L3 l n k:=by
 unfold L3
 rw[a0c .pcl _ _ _ h,if_neg (by simpa using hn)]
structure CllB (c:Cll):Prop where
 w:c.wlks.length * 40≤140737488355328
 o:c.outs.length * 24≤140737488355328
 oi : ∀i,i<c.outs.length→(nth .pcls c.outs i).length * 64≤140737488355328
 n:c.next.length * 8≤140737488355328
 i:c.ins.length * 8≤140737488355328
 cell : -9223372036854775808≤c.cell∧c.cell≤9223372036854775807
 ground : -9223372036854775808≤c.ground∧c.ground≤9223372036854775807
theorem a8e {c:Cll} (h : ∀a∈(PT.row .cll).encA (fun _=>c),OkA a):CllB c:=by
 have h1:=okI (h _ (.head _))
 have h2:=okB (h _ (.tail _ (.head _)))
 have h3:=okI (h _ (.tail _ (.tail _ (.head _))))
 have h4:=h _ (.tail _ (.tail _ (.tail _ (.head _))))
 have h5:=okB (h _ (.tail _ (.tail _ (.tail _ (.tail _ (.head _))))))
 have h6:=okB (h _ (.tail _ (.tail _ (.tail _ (.tail _ (.tail _ (.head _)))))))
 refine⟨h2,okB h4,fun i hi => ?_,h5,h6,h1,h3⟩
 cases h4 with
 |list _ _ _ g =>
  have:=g i 0 _ hi rfl
  exact okB this
theorem a0y (t:RT) (l:List t.ty) (k:Nat) (h:k<l.length):l.take (k+1)=l.take k ++ [nth t l k]:=by
 rw[List.take_succ_eq_append_getElem h,l7 t l k h]
def pre {α : Type} (l:List α) (k:Nat):List α := l.take k
theorem Z8 {α : Type} (l:List α):pre l 0 = []:=by simp[pre]
theorem a1i {α : Type} {l:List α} {k:Nat} (h:k=l.length):pre l k=l:=by subst h;simp[pre]
theorem J1 (t:RT) {l:List t.ty} {k:Nat} (h:k<l.length):pre l (k+1)=pre l k ++ [nth t l k]:=a0y t l k h
theorem a1h {α : Type} (l:List α) (k:Nat):(pre l k).length≤k:=by simp[pre];omega
def a1j (m:PMap) (there:Int) (l:List Pcl) (i:Nat):Bool:=decide ((nth .pcl l i).kind=1→m5 m (nth .pcl l i).wlk.pos=there)
def V3 (m:PMap) (c:Cll) (s:Nat):Bool:=decide (u0 m (nth .pcls c.outs s) (nth .int c.next s)=true∧0≤nth .int c.ins s∧nth .int c.ins s≤5000∧(b7 m c.cell s = -1→nth .int c.next s=0∧nth .int c.ins s=0))
def K7 (m:PMap) (c:Cll) (s:Nat):Bool:=V3 m c s&&l9 (nth .pcls c.outs s).length (a1j m (b7 m c.cell s) (nth .pcls c.outs s))
def a2R (m:PMap) (c:Cll) (i:Nat):Bool:=decide (m5 m (nth .wlk c.wlks i).pos=c.cell)
def Z3 (m:PMap) (c:Cll):Bool:=decide (z6 m c.wlks=true∧p7 m=true∧0≤c.cell∧c.cell<m.cells∧0≤c.ground∧c.ground≤900∧c.outs.length=2∧c.next.length=2∧c.ins.length=2)
def p9 (m:PMap) (c:Cll):Bool:=Z3 m c&&l9 c.wlks.length (a2R m c)&&l9 2 (K7 m c)
theorem b1f {m:PMap} {c:Cll} {k:Nat} (h:k<c.wlks.length) (hw : ¬m5 m (nth .wlk c.wlks k).pos=c.cell):p9 m c=false:=by
 have:=s6 (f:=a2R m c) h (by simp[a2R,hw])
 simp[p9,this]
theorem b1e {m:PMap} {c:Cll} {k:Nat} (h:k<2) (hw:K7 m c k=false):p9 m c=false:=by
 have:=s6 (f:=K7 m c) h hw
 simp[p9,this]
theorem a8t {m:PMap} {c:Cll} {s k:Nat} (h:k<(nth .pcls c.outs s).length) (h1:(nth .pcl (nth .pcls c.outs s) k).kind=1) (hw : ¬m5 m (nth .pcl (nth .pcls c.outs s) k).wlk.pos=b7 m c.cell s):K7 m c s=false:=by
 have:=s6 (f:=a1j m (b7 m c.cell s) (nth .pcls c.outs s)) h (by simp[a1j,h1,hw])
 simp[K7,this]
theorem b1z {m:PMap} {l:List Pcl} {n:Int} (h:u0 m l n=true):(l.length:Int)≤n:=by
 simp[u0]at h
 omega
theorem b1F {m:PMap} {c:Cll} {s:Nat} (h:V3 m c s=true) (hn:b7 m c.cell s = -1):K7 m c s=true:=by
 have h':=h
 simp only[V3,decide_eq_true_eq]at h'
 obtain⟨h1,_,_,h4⟩:=h'
 have h5:=b1z h1
 have h6 : @Eq Int (nth .int c.next s) 0:=(h4 hn).1
 rw[h6]at h5
 have:(nth .pcls c.outs s).length=0:=by omega
 simp[K7,h,this,n8]
def c0O (m:PMap) (c:Cll) (s k:Nat):Prop:=s<2∧Z3 m c=true∧l9 c.wlks.length (a2R m c)=true∧l9 s (K7 m c)=true∧V3 m c s=true∧k≤(nth .pcls c.outs s).length∧l9 k (a1j m (b7 m c.cell s) (nth .pcls c.outs s))=true
theorem a5k {m:PMap} {c:Cll} (h:p9 m c=true):Z3 m c=true∧l9 c.wlks.length (a2R m c)=true∧l9 2 (K7 m c)=true:=by
 simpa [p9,and_assoc]using h
theorem o7 {m:PMap} {c:Cll} (h:p9 m c=true):z6 m c.wlks=true∧p7 m=true∧0≤c.cell∧c.cell<m.cells∧0≤c.ground∧c.ground≤900∧c.outs.length=2∧c.next.length=2∧c.ins.length=2:=by
 have:=(a5k h).1
 simpa [Z3]using this
theorem I4 {m:PMap} {w:Wlk}:Q8 m w=true↔(1≤w.id∧w.id≤9∧m5 m w.pos ≠ -1∧0≤w.n0∧w.n0≤99∧0≤w.seq∧w.seq≤900∧0≤w.last∧w.last≤9):=by simp[Q8]
theorem a3X {m:PMap} {l:List Wlk} (h:z6 m l=true) {i:Nat} (hi:i<l.length):Q8 m (nth .wlk l i)=true:=by
 have:=(l6 _ _).1 h i hi
 simp[a2S]at this
 exact this.1
theorem b6z {m:PMap} {p:Int} (h:m5 m p ≠ -1):0≤p∧p<32:=by
 obtain⟨h1,h2,h3,_⟩:=O5 h
 have:=(a4f h1).2
 omega
theorem L7 {m:PMap} {c:Cll} (h:p9 m c=true) {i:Nat} (hi:i<c.wlks.length) :
  (1≤(nth .wlk c.wlks i).id∧(nth .wlk c.wlks i).id≤9)∧(0≤(nth .wlk c.wlks i).pos∧(nth .wlk c.wlks i).pos<32)∧(0≤(nth .wlk c.wlks i).n0∧(nth .wlk c.wlks i).n0≤99) ∧
   (0≤(nth .wlk c.wlks i).seq∧(nth .wlk c.wlks i).seq≤900)∧(0≤(nth .wlk c.wlks i).last∧(nth .wlk c.wlks i).last≤9)∧m5 m (nth .wlk c.wlks i).pos=c.cell:=by
 obtain⟨h1,h2,_⟩:=a5k h
 have h3:=I4.1 (a3X (o7 h).1 hi)
 have h4:=(l6 _ _).1 h2 i hi
 simp[a2R]at h4
 have h5:=b6z h3.2.2.1
 exact⟨⟨h3.1,h3.2.1⟩,h5,⟨h3.2.2.2.1,h3.2.2.2.2.1⟩,⟨h3.2.2.2.2.2.1,h3.2.2.2.2.2.2.1⟩,h3.2.2.2.2.2.2.2,h4⟩
theorem C6 {m:PMap} {c:Cll} (h:p9 m c=true) {s:Nat} (hs:s<2) :
  (0≤nth .int c.next s∧nth .int c.next s≤5000)∧(0≤nth .int c.ins s∧nth .int c.ins s≤5000)∧((nth .pcls c.outs s).length:Int)≤nth .int c.next s∧u0 m (nth .pcls c.outs s) (nth .int c.next s)=true:=by
 obtain⟨_,_,h3⟩:=a5k h
 have h4:=(l6 _ _).1 h3 s hs
 simp only[K7,V3,Bool.and_eq_true,decide_eq_true_eq]at h4
 have h5:=h4.1.1
 simp only[u0,Bool.and_eq_true,decide_eq_true_eq]at h5
 exact⟨⟨h5.1.2.1,h5.1.2.2.1⟩,⟨h4.1.2.1,h4.1.2.2.1⟩,h5.1.2.2.2,h4.1.1⟩
theorem N4 {o:Ord}:S1 o=true↔(1≤o.who∧o.who≤9∧1≤o.seq∧o.seq≤900 ∧
 ((o.kind=1∧0≤o.dest∧o.dest≤1∧o.n=0)∨(o.kind=2∧1≤o.dest∧o.dest≤9∧o.dest≠o.who∧1≤o.n∧o.n≤9)∨((o.kind=3∨o.kind=4)∧o.dest=0∧1≤o.n∧o.n≤9) ∨
  (o.kind=5∧0≤o.dest∧o.dest≤1∧1≤o.n∧o.n≤9)∨(o.kind=6∧o.dest=0∧o.n=0))):=by simp[S1]
theorem m6 (t:RT) {l:List t.ty} {i:Nat} {x:t.ty} (h:i<l.length):nth t (l.set i x) i=x:=by
 simp[nth,List.getD,h]
theorem q9 (t:RT) {l:List t.ty} {i j:Nat} {x:t.ty} (h:i≠j):nth t (l.set i x) j=nth t l j:=by
 simp[nth,List.getD,List.getElem?_set_ne h]
theorem B4 (t:RT) (l:Th (List t.ty)) (i:Th Int) (e:Th t.ty) (u:Unit):B5 t l i e u=(l ()).set (i ()).toNat (e ()):=rfl
theorem L0 {l:List Wlk} {id:Int} (h : ¬k8 l id<0):(k8 l id).toNat<l.length:=by
 have:=O6 l id
 omega
theorem a3v {l:List Wlk} {a b:Int} (ha : ¬k8 l a<0) (hb : ¬k8 l b<0) (h:b≠a):(k8 l a).toNat≠(k8 l b).toNat:=by
 intro he
 have h1:=a5V (l:=l) (id:=a) (by omega)
 have h2:=a5V (l:=l) (id:=b) (by omega)
 rw[he,h2]at h1
 exact h h1
theorem a6b {o:Ord} (h:S1 o=true) (h2:o.kind=2):o.dest≠o.who:=by
 rw[N4]at h
 omega
theorem a6V {m:PMap} {c:Cll} {o:Ord} {i:Nat} (h:p9 m c=true) (hi:i<c.wlks.length) (ho:S1 o=true) (hk:o.kind=1):IntKind.i64.wrap ((nth .wlk c.wlks i).pos+(2 * o.dest-1))=(nth .wlk c.wlks i).pos+(2 * o.dest-1):=by
 have h1:=L7 h hi
 rw[N4]at ho
 exact b8 (by omega) (by omega)
theorem a5B {α : Type} {l:List α} {i j:Nat} {a b c : α} (h:i≠j):((l.set i a).set j b).set i c=(l.set j b).set i c:=by
 rw[List.set_comm _ _ h,List.set_set]
theorem c4z {α : Type} {p : α → Bool} : ∀ {l k:List α},l.map p=k.map p→idx p l=idx p k:=by
 intro l k h
 have h2 : ∀(l:List α),l.findIdx? p=(l.map p).findIdx? id:=by
  intro l
  induction l with
  |nil=>rfl
  |cons x r ih=>simp only[List.map_cons,List.findIdx?_cons,id,ih]
 unfold idx
 rw[h2 l,h2 k,h]
theorem b4F {α β : Type} (f : α → β) {l:List α} {i:Nat} {x : α} (h : ∀y,l[i]? = some y→f x=f y):(l.set i x).map f=l.map f:=by
 apply List.ext_getElem?
 intro j
 by_cases hj:i=j
 ·subst hj
  simp only[List.getElem?_map,List.getElem?_set_self']
  cases hy:l[i]? with
  |none=>simp
  |some y=>simp[h y hy]
 ·simp[List.getElem?_set_ne hj]
theorem a4g {l:List Wlk} {i:Nat} {w:Wlk} {id:Int} (h:w.id=(nth .wlk l i).id):k8 (l.set i w) id=k8 l id:=by
 unfold k8
 refine c4z (b4F _ fun y hy => ?_)
 have:nth .wlk l i=y:=by simp[nth,List.getD,hy]
 rw[this]at h
 simp[isId,h]
structure CD where
 c:Cll
 code:Int
def F8 (c:Cll) (i:Nat) (w:Wlk) (g:Int) (code:Int):CD:=⟨⟨c.cell,c.wlks.set i ⟨w.id,w.pos,w.n0,w.seq,code⟩,g,c.outs,c.next,c.ins⟩,code⟩
def H6 (c:Cll) (s:Nat) (p:Pcl):List (List Pcl):=c.outs.set s (nth .pcls c.outs s ++ [⟨nth .int c.next s,p.kind,p.wlk,p.n0⟩])
def H7 (c:Cll) (s:Nat):List Int:=c.next.set s (nth .int c.next s+1)
def a0i (m:PMap) (c:Cll) (i:Nat) (w:Wlk) (o:Ord):CD :=
 if m5 m (w.pos+(2 * o.dest-1)) = -1 then F8 c i w c.ground 2
 else if m5 m (w.pos+(2 * o.dest-1))=c.cell then F8 c i ⟨w.id,w.pos+(2 * o.dest-1),w.n0,w.seq,w.last⟩ c.ground 1
 else if nth .int c.next o.dest.toNat=5000 then F8 c i w c.ground 2
 else⟨⟨c.cell,F6 (c.wlks.set i w) o.who,c.ground,H6 c o.dest.toNat ⟨0,1,⟨w.id,w.pos+(2 * o.dest-1),w.n0,w.seq,1⟩,0⟩,H7 c o.dest.toNat,c.ins⟩,1⟩
def a0k (c:Cll) (i:Nat) (w:Wlk) (o:Ord):CD :=
 if k8 c.wlks o.dest<0 then F8 c i w c.ground 4
 else if w.n0<o.n then F8 c i w c.ground 3
 else if 99<(nth .wlk c.wlks (k8 c.wlks o.dest).toNat).n0+o.n then F8 c i w c.ground 5
 else
  let v:=nth .wlk c.wlks (k8 c.wlks o.dest).toNat
  ⟨⟨c.cell,(c.wlks.set (k8 c.wlks o.dest).toNat ⟨v.id,v.pos,v.n0+o.n,v.seq,v.last⟩).set i ⟨w.id,w.pos,w.n0-o.n,w.seq,1⟩,c.ground,c.outs,c.next,c.ins⟩,1⟩
def a0l (c:Cll) (i:Nat) (w:Wlk) (o:Ord):CD :=
 if w.n0<o.n then F8 c i w c.ground 3 else if 900<c.ground+o.n then F8 c i w c.ground 5 else F8 c i ⟨w.id,w.pos,w.n0-o.n,w.seq,w.last⟩ (c.ground+o.n) 1
def a0j (c:Cll) (i:Nat) (w:Wlk) (o:Ord):CD :=
 if c.ground<o.n then F8 c i w c.ground 6 else if 99<w.n0+o.n then F8 c i w c.ground 5 else F8 c i ⟨w.id,w.pos,w.n0+o.n,w.seq,w.last⟩ (c.ground-o.n) 1
def S7 (m:PMap) (c:Cll) (i:Nat) (w:Wlk) (o:Ord):CD :=
 if N8 m w.pos o.dest=false then F8 c i w c.ground 7
 else if w.n0<o.n then F8 c i w c.ground 3
 else if nth .int c.next o.dest.toNat=5000 then F8 c i w c.ground 5
 else⟨⟨c.cell,c.wlks.set i ⟨w.id,w.pos,w.n0-o.n,w.seq,1⟩,c.ground,H6 c o.dest.toNat ⟨0,2,⟨0,0,0,0,0⟩,o.n⟩,H7 c o.dest.toNat,c.ins⟩,1⟩
def R4 (m:PMap) (c:Cll) (i:Nat) (w:Wlk) (o:Ord):CD :=
 if o.kind=1 then a0i m c i w o
 else if o.kind=2 then a0k c i w o
 else if o.kind=3 then a0l c i w o
 else if o.kind=4 then a0j c i w o
 else if o.kind=5 then S7 m c i w o
 else F8 c i w c.ground 1
def K3 (m:PMap) (c:Cll) (o:Ord):CD :=
 if k8 c.wlks o.who<0 then⟨c,9⟩
 else
  let w:=nth .wlk c.wlks (k8 c.wlks o.who).toNat
  if o.seq<w.seq then⟨c,8⟩
  else if o.seq=w.seq then⟨c,w.last⟩
  else R4 m c (k8 c.wlks o.who).toNat ⟨w.id,w.pos,w.n0,o.seq,w.last⟩ o
def Q7:Cll:=⟨0,[],0,[],[],[]⟩
def S5 (id:Int) (w:Wlk):Bool:=decide (id<w.id)
def nab (l:List Wlk) (id:Int) (j:Nat):Bool := !S5 id (nth .wlk l j)
def C5 (l:List Wlk) (id:Int):Nat:=if idx (S5 id) l<0 then l.length else(idx (S5 id) l).toNat
def O0 (l:List Wlk) (w:Wlk):List Wlk:=insL (F6 l w.id) (C5 (F6 l w.id) w.id) [w]
theorem b8k (l:List Wlk) (id:Int) : -1≤idx (S5 id) l∧idx (S5 id) l<l.length:=by
 rcases I9 (S5 id) l with ⟨h,_⟩|⟨k,hk,h,_⟩<;>rw[h]<;>omega
theorem a7j (l:List Wlk) (id:Int):C5 l id≤l.length:=by
 have:=b8k l id
 unfold C5
 split<;>omega
theorem b8l {l:List Wlk} {id:Int} {k:Nat} (h:l9 k (nab l id)=true) (hk:k<l.length) (hi:id<(nth .wlk l k).id):idx (S5 id) l=k:=by
 rw[l7 .wlk l k hk]at hi
 refine b0A hk (by simp[S5,hi]) fun j hj => ?_
 have:=(l6 k _).1 h j hj
 simp only[nab,Bool.not_eq_true']at this
 rw[l7 .wlk l j (by omega)]at this
 exact this
theorem c0y {l:List Wlk} {id:Int} {k:Nat} (h:l9 k (nab l id)=true) (hk:k=l.length):idx (S5 id) l = -1:=by
 subst hk
 refine a2b fun j hj => ?_
 have:=(l6 _ _).1 h j hj
 simp only[nab,Bool.not_eq_true']at this
 rw[l7 .wlk l j hj]at this
 exact this
def M0 (l:List Wlk) (w:Wlk) (k:Nat):List Wlk:=if C5 l w.id<k then insL (l.take k) (C5 l w.id) [w]else l.take k
def y6 (l:List Wlk) (w:Wlk) (k:Nat):Bool:=decide (C5 l w.id<k)
theorem b8N (l:List Wlk) (w:Wlk):M0 l w 0 = []:=by simp[M0]
theorem c3t (l:List Wlk) (w:Wlk) (k:Nat):(M0 l w k).length≤k+1:=by
 unfold M0
 split
 ·simp[insL];omega
 ·simp;omega
theorem b8O {l:List Wlk} {w:Wlk} {k:Nat} (h:y6 l w k=false):(M0 l w k).length≤k:=by
 simp only[y6,decide_eq_false_iff_not]at h
 unfold M0
 rw[if_neg h,List.length_take]
 omega
theorem a4M {l:List Wlk} {k:Nat} (h:k<l.length):l.take (k+1)=l.take k ++ [nth .wlk l k]:=a0y .wlk l k h
theorem b6v {l:List Wlk} {w:Wlk} {k:Nat} (h:k<l.length) (hd:y6 l w k=true):M0 l w (k+1)=M0 l w k ++ [nth .wlk l k]:=by
 simp only[y6,decide_eq_true_eq]at hd
 unfold M0
 rw[if_pos (by omega),if_pos hd,a4M h]
 simp only[insL]
 rw[List.take_append_of_le_length (by rw[List.length_take];omega),List.drop_append_of_le_length (by rw[List.length_take];omega)]
 simp
theorem b8P {l:List Wlk} {w:Wlk} {k:Nat} (h:k<l.length) (hd:y6 l w k=false) (hi:w.id<(nth .wlk l k).id):C5 l w.id=k→M0 l w (k+1)=M0 l w k ++ [w] ++ [nth .wlk l k]:=by
 intro hp
 unfold M0
 rw[if_pos (by omega),if_neg (by omega),a4M h,hp]
 simp only[insL]
 rw[List.take_append_of_le_length (by rw[List.length_take];omega),List.drop_append_of_le_length (by rw[List.length_take];omega)]
 simp[List.take_take]
theorem b4c {l:List Wlk} {w:Wlk} {k:Nat} (h:k<l.length) (hp : ¬C5 l w.id<k+1):M0 l w (k+1)=M0 l w k ++ [nth .wlk l k]:=by
 unfold M0
 rw[if_neg hp,if_neg (by omega),a4M h]
theorem c1N {l:List Wlk} {id:Int} {k:Nat} (hk:k≤l.length) : ¬C5 l id<k→l9 k (nab l id)=true:=by
 intro h
 rw[l6]
 intro j hj
 simp only[nab,Bool.not_eq_true']
 rcases I9 (S5 id) l with ⟨_,h2⟩|⟨i,hi,h1,h2,h3⟩
 ·rw[l7 .wlk l j (by omega)]
  exact h2 _ (List.getElem_mem _)
 ·unfold C5 at h
  rw[h1,if_neg (by omega)]at h
  rw[l7 .wlk l j (by omega)]
  exact h3 j (by omega)
theorem b6w {l:List Wlk} {w:Wlk} {k:Nat} (h:k<l.length) (hd:y6 l w k=false) (hi:w.id<(nth .wlk l k).id):C5 l w.id=k:=by
 simp only[y6,decide_eq_false_iff_not]at hd
 have:=b8l (c1N (by omega) hd) h hi
 unfold C5
 rw[this,if_neg (by omega)]
 rfl
theorem b8S {l:List Wlk} {w:Wlk} {k:Nat} (h:k<l.length) (hd:y6 l w k=false) (hi : ¬w.id<(nth .wlk l k).id) : ¬C5 l w.id<k+1:=by
 simp only[y6,decide_eq_false_iff_not]at hd
 intro hlt
 have he:C5 l w.id=k:=by omega
 rcases I9 (S5 w.id) l with ⟨h1,h2⟩|⟨i,hi',h1,h2,h3⟩
 ·unfold C5 at he
  rw[h1]at he
  simp at he
  omega
 ·unfold C5 at he
  rw[h1,if_neg (by omega)]at he
  have:i=k:=by omega
  subst this
  rw[l7 .wlk l i h]at hi
  simp[S5]at h2
  exact hi h2
theorem a7V {l:List Wlk} {w:Wlk} {k:Nat} (h:k<l.length) (hd:y6 l w k=false) (hi:w.id<(nth .wlk l k).id):M0 l w (k+1)=M0 l w k ++ [w] ++ [nth .wlk l k]∧y6 l w (k+1)=true:=by
 have hp:=b6w h hd hi
 exact⟨b8P h hd hi hp,by simp[y6,hp]⟩
theorem a7U {l:List Wlk} {w:Wlk} {k:Nat} (h:k<l.length) (hd:y6 l w k=false) (hi : ¬w.id<(nth .wlk l k).id):M0 l w (k+1)=M0 l w k ++ [nth .wlk l k]∧y6 l w (k+1)=false:=by
 have hp:=b8S h hd hi
 exact⟨b4c h hp,by simp[y6];omega⟩
theorem a7T {l:List Wlk} {w:Wlk} {k:Nat} (h:k<l.length) (hd:y6 l w k=true):M0 l w (k+1)=M0 l w k ++ [nth .wlk l k]∧y6 l w (k+1)=true:=by
 refine⟨b6v h hd,?_⟩
 simp only[y6,decide_eq_true_eq]at hd ⊢
 omega
theorem b8R {l:List Wlk} {w:Wlk} {k:Nat} (h:k=l.length) (hd:y6 l w k=true):M0 l w k=insL l (C5 l w.id) [w]:=by
 simp only[y6,decide_eq_true_eq]at hd
 subst h
 unfold M0
 rw[if_pos hd]
 simp
theorem b8Q {l:List Wlk} {w:Wlk} {k:Nat} (h:k=l.length) (hd:y6 l w k=false):M0 l w k ++ [w]=insL l (C5 l w.id) [w]:=by
 simp only[y6,decide_eq_false_iff_not]at hd
 have h2:=a7j l w.id
 have h3:C5 l w.id=l.length:=by omega
 subst h
 unfold M0
 rw[if_neg hd,h3]
 simp[insL]
theorem b1y {l:List Wlk} {w:Wlk} {k:Nat} (h:k<l.length) (hd:y6 l w k=false) (hi:w.id<(nth .wlk l k).id):y6 l w (k+1)=true:=(a7V h hd hi).2
theorem b1x {l:List Wlk} {w:Wlk} {k:Nat} (h:k<l.length) (hd:y6 l w k=false) (hi : ¬w.id<(nth .wlk l k).id):y6 l w (k+1)=false:=(a7U h hd hi).2
theorem b1w {l:List Wlk} {w:Wlk} {k:Nat} (h:k<l.length) (hd:y6 l w k=true):y6 l w (k+1)=true:=(a7T h hd).2
theorem b4d (l:List Wlk) (w:Wlk):y6 l w 0=false:=by simp[y6]
theorem b1K (l:List Wlk) (w:Wlk):O0 l w=insL (F6 l w.id) (C5 (F6 l w.id) w.id) [w]:=rfl
theorem a2p (l:List Wlk) (id:Int):(F6 l id).length≤l.length:=List.length_filter_le _ _
theorem a4L (l:List Wlk) (w:Wlk):(O0 l w).length≤l.length+1:=by
 have:=a2p l w.id
 rw[O0,b0z (a7j _ _)]
 simp;omega
def a1b (o:Ord):Bool:=decide (o.who=0∧o.seq=0∧o.kind=0∧o.dest=0∧o.n=0)
def a2Q (p:Pcl):Bool:=decide (p.n=0∧p.kind=0∧a3c p.wlk=true∧p.n0=0)
def a4c (r:Rec):Bool:=decide ((r.kind=1∧S1 r.ord=true∧r.side=0∧a2Q r.pcl=true∧r.n=0)∨(r.kind=2∧(r.side=0∨r.side=1)∧a1b r.ord=true∧r.n=0) ∨
 (r.kind=3∧(r.side=0∨r.side=1)∧1≤r.n∧r.n≤5000∧a1b r.ord=true∧a2Q r.pcl=true))
def E9 (m:PMap) (r:Rec):Bool:=decide (p7 m=true∧a4c r=true∧(r.kind=2→K0 m r.pcl=true))
theorem Q2 {m:PMap} {p:Pcl}:K0 m p=true↔p7 m=true∧0≤p.n∧p.n≤4999∧(p.kind=1∧Q8 m p.wlk=true∧p.n0=0∨p.kind=2∧a3c p.wlk=true∧1≤p.n0∧p.n0≤9):=by simp[K0]
theorem c3x {m:PMap} {p:Pcl} (h:K0 m p=true):p7 m=true:=by simp[K0]at h;exact h.1
def L8 (c:Cll) (o:Ord):Bool:=s8 c.wlks o.who&&decide ((P9 c.wlks o.who).seq<o.seq)
structure CB where
 c:Cll
 ok:Bool
def J4 (c:Cll) (s:Nat):List Int:=c.ins.set s (nth .int c.ins s+1)
def y7 (m:PMap) (c:Cll) (s:Nat) (p:Pcl):CB :=
 if ¬p.n=nth .int c.ins s∨900<c.ground+p.n0 then⟨c,false⟩
 else if p.kind=2 then⟨⟨c.cell,c.wlks,c.ground+p.n0,c.outs,c.next,J4 c s⟩,true⟩
 else if 0≤k8 c.wlks p.wlk.id ∨ ¬m5 m p.wlk.pos=c.cell then⟨c,false⟩
 else⟨⟨c.cell,O0 c.wlks p.wlk,c.ground,c.outs,c.next,J4 c s⟩,true⟩
theorem c8g {m:PMap} {c:Cll} {p:Pcl} (h:p9 m c=true) (hp:K0 m p=true):IntKind.i64.wrap (c.ground+p.n0)=c.ground+p.n0:=by
 have h1:=o7 h
 rw[Q2]at hp
 exact b8 (by omega) (by omega)
theorem c1q {m:PMap} {c:Cll} {s:Nat} {p:Pcl} (h:(y7 m c s p).ok=false):(y7 m c s p).c=c:=by
 unfold y7 at *
 split at * <;> (try split at *)<;>(try split at *)<;>simp_all
def Q1 (c:Cll) (s:Nat) (n:Int):List (List Pcl):=c.outs.set s (Z1 (nth .pcls c.outs s) n)
def H0 (c:Cll) (s:Nat) (n:Int):CB :=
 if nth .int c.next s<n∨n≤nth .int c.next s-(nth .pcls c.outs s).length then⟨c,false⟩else⟨⟨c.cell,c.wlks,c.ground,Q1 c s n,c.next,c.ins⟩,true⟩
theorem c6y {c:Cll} {s:Nat} {n:Int} (h:(H0 c s n).ok=false):(H0 c s n).c=c:=by
 unfold H0 at *
 split at * <;> simp_all
theorem T8 {m:PMap} {l:List Pcl} {n:Int} (h:u0 m l n=true) (h0:0<l.length):(nth .pcl l 0).n=n-l.length:=by
 simp only[u0,Bool.and_eq_true]at h
 have:=(l6 _ _).1 h.2 0 h0
 simp[a2V]at this
 exact this.2
structure AP where
 c:Cll
 code:Int
 ok:Bool
def j8 (m:PMap) (c:Cll) (r:Rec):AP :=
 if r.kind=1 then(if L8 c r.ord=true then⟨(K3 m c r.ord).c,(K3 m c r.ord).code,true⟩else⟨c,0,false⟩)
 else if b7 m c.cell r.side = -1 then⟨c,0,false⟩
 else if r.kind=2 then⟨(y7 m c r.side.toNat r.pcl).c,0,(y7 m c r.side.toNat r.pcl).ok⟩
 else⟨(H0 c r.side.toNat r.n).c,0,(H0 c r.side.toNat r.n).ok⟩
def L9 (m:PMap) (c:Cll) (r:Rec):AP:=if E9 m r=true then j8 m c r else⟨c,0,false⟩
def D9 (m:PMap) (c:Cll) (r:Rec):AP:=if p9 m c=true∧E9 m r=true then j8 m c r else⟨Q7,0,false⟩
def srt (l:List Wlk):Prop := ∀i j,i<j→j<l.length→(nth .wlk l i).id<(nth .wlk l j).id
theorem b3J {m:PMap} {l:List Wlk} (h:z6 m l=true):srt l:=by
 intro i j hij
 induction j with
 |zero=>omega
 |succ j ih =>
  intro hj
  have h1:=(l6 _ _).1 h (j+1) hj
  simp only[a2S,Bool.and_eq_true,Bool.or_eq_true,decide_eq_true_eq,Nat.add_sub_cancel]at h1
  have h2:(nth .wlk l j).id<(nth .wlk l (j+1)).id:=h1.2.resolve_left (by omega)
  rcases Nat.lt_or_ge i j with h3|h3
  ·exact Int.lt_trans (ih h3 (by omega)) h2
  ·have:i=j:=by omega
   subst this
   exact h2
theorem b3I {l:List Wlk} {i:Nat} {w:Wlk} (h:srt l) (hw:w.id=(nth .wlk l i).id):srt (l.set i w):=by
 have hid : ∀j,(nth .wlk (l.set i w) j).id=(nth .wlk l j).id:=fun j=>by
  by_cases hj:i=j
  ·subst hj
   by_cases hi:i<l.length
   ·rw[m6 .wlk hi,hw]
   ·rw[List.set_eq_of_length_le (by omega)]
  ·rw[q9 .wlk hj]
 intro a b hab hb
 rw[hid,hid]
 rw[List.length_set]at hb
 exact h a b hab hb
theorem b4R {l:List Wlk} {i:Nat} (h:srt l) (hi:i<l.length):F6 l (nth .wlk l i).id=l.take i++l.drop (i+1):=by
 have h1 : ∀p:Wlk→Bool,l.filter p=(l.take i++(nth .wlk l i::l.drop (i+1))).filter p:=fun p=>by
  rw[l7 .wlk l i hi,List.getElem_cons_drop,List.take_append_drop]
 unfold F6
 rw[h1,List.filter_append,List.filter_cons]
 have ha:(l.take i).filter (fun w=>decide (w.id≠(nth .wlk l i).id))=l.take i:=by
  rw[List.filter_eq_self]
  intro x hx
  obtain⟨j,hj,rfl⟩:=List.getElem_of_mem hx
  rw[List.length_take]at hj
  have:=h j i (by omega) hi
  rw[l7 .wlk l j (by omega)]at this
  simp only[List.getElem_take,ne_eq,decide_eq_true_eq]
  omega
 have hb:(l.drop (i+1)).filter (fun w=>decide (w.id≠(nth .wlk l i).id))=l.drop (i+1):=by
  rw[List.filter_eq_self]
  intro x hx
  obtain⟨j,hj,rfl⟩:=List.getElem_of_mem hx
  rw[List.length_drop]at hj
  have:=h i (i+1+j) (by omega) (by omega)
  rw[l7 .wlk l (i+1+j) (by omega)]at this
  simp only[List.getElem_drop,ne_eq,decide_eq_true_eq]
  omega
 rw[ha,hb]
 simp
theorem c9W {l:List Wlk} {i:Nat} {w:Wlk} (h:srt l) (hi:i<l.length) (hw:w.id=(nth .wlk l i).id):O0 l w=l.set i w:=by
 unfold O0
 rw[hw,b4R h hi]
 have hl:(l.take i++l.drop (i+1)).length=l.length-1:=by simp;omega
 have hpos:C5 (l.take i++l.drop (i+1)) (nth .wlk l i).id=i:=by
  have hb : ∀j,j<i→S5 (nth .wlk l i).id (nth .wlk (l.take i++l.drop (i+1)) j)=false:=fun j hj=>by
   have h1:nth .wlk (l.take i++l.drop (i+1)) j=nth .wlk l j:=by
    rw[l7 .wlk _ j (by rw[hl];omega),l7 .wlk l j (by omega),List.getElem_append_left (by rw[List.length_take];omega),List.getElem_take]
   rw[h1]
   have:=h j i hj hi
   simp only[S5,decide_eq_false_iff_not]
   omega
  by_cases he:i+1<l.length
  ·have h1:nth .wlk (l.take i++l.drop (i+1)) i=nth .wlk l (i+1):=by
    rw[l7 .wlk _ i (by rw[hl];omega),l7 .wlk l (i+1) he,List.getElem_append_right (by rw[List.length_take];omega),List.getElem_drop]
    congr 1
    rw[List.length_take];omega
   have h2:=h i (i+1) (by omega) he
   have:idx (S5 (nth .wlk l i).id) (l.take i++l.drop (i+1))=i:=by
    refine b0A (by rw[hl];omega) ?_ fun j hj => ?_
    ·rw[←l7 .wlk _ i (by rw[hl];omega),h1]
     simpa [S5]using h2
    ·rw[←l7 .wlk _ j (by rw[hl];omega)]
     exact hb j hj
   unfold C5
   rw[this,if_neg (by omega)]
   rfl
  ·have:idx (S5 (nth .wlk l i).id) (l.take i++l.drop (i+1)) = -1:=by
    refine a2b fun j hj => ?_
    rw[←l7 .wlk _ j hj]
    rw[hl]at hj
    exact hb j (by omega)
   unfold C5
   rw[this,if_pos (by omega),hl]
   omega
 rw[hpos]
 unfold insL
 rw[List.take_append_of_le_length (by rw[List.length_take];omega),List.take_take,Nat.min_self,List.drop_append_of_le_length (by rw[List.length_take];omega)]
 rw[show(l.take i).drop i = []from List.drop_eq_nil_of_le (by rw[List.length_take];omega),List.nil_append,List.set_eq_take_append_cons_drop,if_pos hi]
 simp
theorem R3 {l:List Wlk} {id:Int} (h:s8 l id=true):(k8 l id).toNat<l.length∧0≤k8 l id:=by
 simp only[s8,decide_eq_true_eq]at h
 have:=O6 l id
 omega
theorem b4P {l:List Wlk} {id:Int}:s8 l id=false↔k8 l id<0:=by
 simp only[s8,decide_eq_false_iff_not]
 omega
theorem a5g {l:List Wlk} {id:Int} (h:s8 l id=true):P9 l id=nth .wlk l (k8 l id).toNat:=by
 unfold P9
 rw[if_pos (R3 h).2]
theorem id_w {l:List Wlk} {id:Int} (h:s8 l id=true):(nth .wlk l (k8 l id).toNat).id=id:=a5V (R3 h).2
theorem c1r {l:List Wlk} {who:Int} {w:Wlk} (hs:srt l) (h:s8 l who=true) (hw:w.id=who):O0 l w=l.set (k8 l who).toNat w :=
 c9W hs (R3 h).1 (by rw[hw,id_w h])
theorem V7 {l:List Wlk} {who x:Int} {a:Wlk} (h:s8 l who=true) (ha:a.id=who):k8 (l.set (k8 l who).toNat a) x=k8 l x:=a4g (by rw[ha,id_w h])
theorem a5e {l:List Wlk} {who x:Int} {a:Wlk} (h:s8 l who=true) (ha:a.id=who):s8 (l.set (k8 l who).toNat a) x=s8 l x:=by
 unfold s8
 rw[V7 h ha]
theorem b3H {l:List Wlk} {who:Int} {a:Wlk} (hs:srt l) (h:s8 l who=true) (ha:a.id=who):srt (l.set (k8 l who).toNat a):=b3I hs (by rw[ha,id_w h])
theorem d1d {l:List Wlk} {who:Int} {a:Wlk} (h:s8 l who=true) (ha:a.id=who):P9 (l.set (k8 l who).toNat a) who=a:=by
 rw[a5g (by rw[a5e h ha];exact h),V7 h ha,m6 .wlk (R3 h).1]
theorem d2r {l:List Wlk} {who:Int} {a w:Wlk} (hs:srt l) (h:s8 l who=true) (ha:a.id=who) (hw:w.id=who):O0 (l.set (k8 l who).toNat a) w=l.set (k8 l who).toNat w:=by
 rw[c1r (b3H hs h ha) (by rw[a5e h ha];exact h) hw,V7 h ha,List.set_set]
theorem ne_w {l:List Wlk} {who to:Int} (h:s8 l who=true) (ht:s8 l to=true) (hne:to≠who):(k8 l who).toNat≠(k8 l to).toNat:=by
 have h1:=(R3 h).2
 have h2:=(R3 ht).2
 exact a3v (by omega) (by omega) hne
theorem d3a {l:List Wlk} {who to:Int} {a:Wlk} (h:s8 l who=true) (ht:s8 l to=true) (hne:to≠who) (ha:a.id=who):P9 (l.set (k8 l who).toNat a) to=nth .wlk l (k8 l to).toNat:=by
 rw[a5g (by rw[a5e h ha];exact ht),V7 h ha,q9 .wlk (ne_w h ht hne)]
theorem d3r {l:List Wlk} {who to:Int} {a v:Wlk} (hs:srt l) (h:s8 l who=true) (ht:s8 l to=true) (ha:a.id=who) (hv:v.id=to):O0 (l.set (k8 l who).toNat a) v=(l.set (k8 l who).toNat a).set (k8 l to).toNat v:=by
 rw[c1r (b3H hs h ha) (by rw[a5e h ha];exact ht) hv,V7 h ha]
theorem a9N {l:List Wlk} {who to x:Int} {a b:Wlk} (h:s8 l who=true) (ht:s8 l to=true) (ha:a.id=who) (hb:b.id=to):k8 ((l.set (k8 l who).toNat a).set (k8 l to).toNat b) x=k8 l x:=by
 have h2:s8 (l.set (k8 l who).toNat a) to=true:=by rw[a5e h ha];exact ht
 have h3:=V7 (x:=x) h2 hb
 rw[V7 h ha,V7 h ha]at h3
 exact h3
theorem b9R {l:List Wlk} {who to x:Int} {a b:Wlk} (h:s8 l who=true) (ht:s8 l to=true) (ha:a.id=who) (hb:b.id=to):s8 ((l.set (k8 l who).toNat a).set (k8 l to).toNat b) x=s8 l x:=by
 unfold s8
 rw[a9N h ht ha hb]
theorem d2k {l:List Wlk} {who to:Int} {a b:Wlk} (hs:srt l) (h:s8 l who=true) (ht:s8 l to=true) (ha:a.id=who) (hb:b.id=to):srt ((l.set (k8 l who).toNat a).set (k8 l to).toNat b):=by
 have h2:s8 (l.set (k8 l who).toNat a) to=true:=by rw[a5e h ha];exact ht
 have h3:=b3H (b3H hs h ha) h2 hb
 rw[V7 h ha]at h3
 exact h3
theorem d1c {l:List Wlk} {who to:Int} {a b:Wlk} (h:s8 l who=true) (ht:s8 l to=true) (hne:to≠who) (ha:a.id=who) (hb:b.id=to):P9 ((l.set (k8 l who).toNat a).set (k8 l to).toNat b) who=a:=by
 rw[a5g (by rw[b9R h ht ha hb];exact h),a9N h ht ha hb,q9 .wlk (ne_w h ht hne).symm,m6 .wlk (R3 h).1]
theorem d2q {l:List Wlk} {who to:Int} {a b w:Wlk} (hs:srt l) (h:s8 l who=true) (ht:s8 l to=true) (hne:to≠who) (ha:a.id=who) (hb:b.id=to) (hw:w.id=who) :
  O0 ((l.set (k8 l who).toNat a).set (k8 l to).toNat b) w=(l.set (k8 l to).toNat b).set (k8 l who).toNat w:=by
 rw[c1r (d2k hs h ht ha hb) (by rw[b9R h ht ha hb];exact h) hw,a9N h ht ha hb,a5B (ne_w h ht hne)]
theorem b8y {m:PMap} {c:Cll} {o:Ord} {i:Nat} (h:p9 m c=true) (hi:i<c.wlks.length) (hd:o.dest=0):IntKind.i64.wrap ((nth .wlk c.wlks i).pos-1)=(nth .wlk c.wlks i).pos+(2 * o.dest-1):=by
 have h1:=L7 h hi
 rw[b8 (by omega) (by omega)]
 omega
theorem b8x {m:PMap} {c:Cll} {o:Ord} {i:Nat} (h:p9 m c=true) (hi:i<c.wlks.length) (ho:S1 o=true) (hk:o.kind=1) (hd : ¬o.dest=0):IntKind.i64.wrap ((nth .wlk c.wlks i).pos+1)=(nth .wlk c.wlks i).pos+(2 * o.dest-1):=by
 have h1:=L7 h hi
 rw[N4]at ho
 rw[b8 (by omega) (by omega)]
 omega
theorem d0V (l:List Wlk) (id:Int):s8 (F6 l id) id=false:=by
 rw[b4P]
 have:idx (isId id) (F6 l id) = -1:=by
  refine a2b fun j hj => ?_
  have h1 : ∀w∈F6 l id,isId id w=false:=fun w hw=>by
   simp only[F6,List.mem_filter,decide_eq_true_eq]at hw
   simpa [isId]using hw.2
  exact h1 _ (List.getElem_mem hj)
 unfold k8
 rw[this]
 omega
theorem b3K {l:List Wlk} (h:srt l) (h1 : ∀i,i<l.length→1≤(nth .wlk l i).id∧(nth .wlk l i).id≤9):l.length≤9:=by
 have hg : ∀i,i<l.length→(i:Int)+1≤(nth .wlk l i).id:=by
  intro i
  induction i with
  |zero=>intro hi;have:=(h1 0 hi).1;simpa using this
  |succ i ih =>
   intro hi
   have h2:=ih (by omega)
   have h3:=h i (i+1) (by omega) hi
   push_cast
   omega
 rcases Nat.lt_or_ge 9 l.length with hlt|hge
 ·have h2:=hg (l.length-1) (by omega)
  have h3:=(h1 (l.length-1) (by omega)).2
  omega
 ·exact hge
theorem b3d {m:PMap} {c:Cll} (h:p9 m c=true):srt c.wlks:=b3J (o7 h).1
theorem Q6 {m:PMap} {c:Cll} (h:p9 m c=true):c.wlks.length≤9:=b3K (b3d h) fun i hi=>(L7 h hi).1
theorem N3 {r:Rec}:a4c r=true↔((r.kind=1∧S1 r.ord=true∧r.side=0∧(r.pcl.n=0∧r.pcl.kind=0∧(r.pcl.wlk.id=0∧r.pcl.wlk.pos=0∧r.pcl.wlk.n0=0∧r.pcl.wlk.seq=0∧r.pcl.wlk.last=0)∧r.pcl.n0=0)∧r.n=0) ∨
  (r.kind=2∧(r.side=0∨r.side=1)∧(r.ord.who=0∧r.ord.seq=0∧r.ord.kind=0∧r.ord.dest=0∧r.ord.n=0)∧r.n=0) ∨
  (r.kind=3∧(r.side=0∨r.side=1)∧1≤r.n∧r.n≤5000∧(r.ord.who=0∧r.ord.seq=0∧r.ord.kind=0∧r.ord.dest=0∧r.ord.n=0)∧(r.pcl.n=0∧r.pcl.kind=0∧(r.pcl.wlk.id=0∧r.pcl.wlk.pos=0∧r.pcl.wlk.n0=0∧r.pcl.wlk.seq=0∧r.pcl.wlk.last=0)∧r.pcl.n0=0))):=by
 simp[a4c,a1b,a2Q,a3c]
theorem s7 (t:RT) {l:List t.ty} {i:Nat} (h:i<l.length):nth t l i∈l:=by rw[l7 t l i h];exact List.getElem_mem h
theorem a4l (t:RT) {l:List t.ty} {x:t.ty} (h:x∈l) : ∃i,i<l.length∧nth t l i=x:=by
 obtain⟨i,hi,rfl⟩:=List.getElem_of_mem h
 exact⟨i,hi,l7 t l i hi⟩
def ids (a b:Wlk):Prop:=a.id<b.id
theorem c6c {l:List Wlk}:srt l↔l.Pairwise ids:=by
 rw[List.pairwise_iff_getElem]
 constructor
 ·intro h i j hi hj hij
  have:=h i j hij hj
  rw[l7 .wlk l i hi,l7 .wlk l j hj]at this
  exact this
 ·intro h i j hij hj
  rw[l7 .wlk l i (by omega),l7 .wlk l j hj]
  exact h i j (by omega) hj hij
theorem a2q {m:PMap} {l:List Wlk}:z6 m l=true↔(∀w∈l,Q8 m w=true)∧srt l:=by
 constructor
 ·intro h
  refine⟨fun w hw => ?_,b3J h⟩
  obtain⟨i,hi,rfl⟩:=a4l .wlk hw
  exact a3X h hi
 ·rintro⟨h1,h2⟩
  unfold z6
  rw[l6]
  intro i hi
  simp only[a2S,Bool.and_eq_true,Bool.or_eq_true,decide_eq_true_eq]
  refine⟨h1 _ (s7 .wlk hi),?_⟩
  rcases Nat.eq_zero_or_pos i with h0|h0
  ·exact .inl h0
  ·exact .inr (h2 (i-1) i (by omega) hi)
def b5P (m:PMap) (cell:Int) (l:List Pcl) (n i:Int) (s:Nat):Prop :=
 u0 m l n=true∧0≤i∧i≤5000∧(b7 m cell s = -1→n=0∧i=0) ∧ ∀p∈l,p.kind=1→m5 m p.wlk.pos=b7 m cell s
theorem b8e {m:PMap} {c:Cll} {s:Nat}:K7 m c s=true↔b5P m c.cell (nth .pcls c.outs s) (nth .int c.next s) (nth .int c.ins s) s:=by
 simp only[K7,V3,b5P,Bool.and_eq_true,decide_eq_true_eq,l6,a1j]
 constructor
 ·rintro⟨⟨h1,h2,h3,h4⟩,h5⟩
  refine⟨h1,h2,h3,h4,fun p hp hk => ?_⟩
  obtain⟨i,hi,rfl⟩:=a4l .pcl hp
  exact h5 i hi hk
 ·rintro⟨h1,h2,h3,h4,h5⟩
  exact⟨⟨h1,h2,h3,h4⟩,fun i hi hk=>h5 _ (s7 .pcl hi) hk⟩
theorem F4 {m:PMap} {c:Cll}:p9 m c=true↔(∀w∈c.wlks,Q8 m w=true∧m5 m w.pos=c.cell)∧srt c.wlks∧p7 m=true∧0≤c.cell∧c.cell<m.cells∧0≤c.ground∧c.ground≤900∧c.outs.length=2∧c.next.length=2∧c.ins.length=2 ∧
  ∀s,s<2→b5P m c.cell (nth .pcls c.outs s) (nth .int c.next s) (nth .int c.ins s) s:=by
 simp only[p9,Z3,Bool.and_eq_true,decide_eq_true_eq,l6,a2q,a2R,b8e]
 constructor
 ·rintro⟨⟨⟨⟨h1,h2⟩,h3,h4,h5,h6,h7,h8,h9,h10⟩,h11⟩,h12⟩
  refine⟨fun w hw=>⟨h1 w hw,?_⟩,h2,h3,h4,h5,h6,h7,h8,h9,h10,h12⟩
  obtain⟨i,hi,rfl⟩:=a4l .wlk hw
  exact h11 i hi
 ·rintro⟨h1,h2,h3,h4,h5,h6,h7,h8,h9,h10,h12⟩
  exact⟨⟨⟨⟨fun w hw=>(h1 w hw).1,h2⟩,h3,h4,h5,h6,h7,h8,h9,h10⟩,fun i hi=>(h1 _ (s7 .wlk hi)).2⟩,h12⟩
theorem J9 {m:PMap} {l:List Pcl} {n:Int}:u0 m l n=true↔p7 m=true∧0≤n∧n≤5000∧(l.length:Int)≤n ∧ ∀i,i<l.length→K0 m (nth .pcl l i)=true∧(nth .pcl l i).n=n-l.length+i:=by
 simp[u0,l6,a2V,and_assoc]
theorem b0k (t:RT) {l r:List t.ty} {i:Nat} (h:i<l.length):nth t (l++r) i=nth t l i:=by
 rw[l7 t (l++r) i (by rw[List.length_append];omega),l7 t l i h,List.getElem_append_left h]
theorem b9w (t:RT) {l:List t.ty} {x:t.ty}:nth t (l ++ [x]) l.length=x:=by
 rw[l7 t (l ++ [x]) l.length (by simp)]
 simp
theorem c4k (t:RT) {l:List t.ty} {k i:Nat} (h:k+i<l.length):nth t (l.drop k) i=nth t l (k+i):=by
 rw[l7 t (l.drop k) i (by rw[List.length_drop];omega),l7 t l (k+i) h,List.getElem_drop]
theorem a9Q {m:PMap} {l:List Pcl} {n:Int} {p:Pcl} (h:u0 m l n=true) (hn:n<5000) (hp:K0 m p=true) (he:p.n=n):u0 m (l ++ [p]) (n+1)=true:=by
 rw[J9]at h ⊢
 obtain⟨h1,h2,h3,h4,h5⟩:=h
 have hl:(l ++ [p]).length=l.length+1:=by simp
 refine⟨h1,by omega,by omega,by rw[hl];omega,fun i hi => ?_⟩
 rw[hl]at hi ⊢
 by_cases hlt:i<l.length
 ·rw[b0k .pcl hlt]
  have:=h5 i hlt
  refine⟨this.1,by rw[this.2];omega⟩
 ·have:i=l.length:=by omega
  subst this
  have he2:nth .pcl (l ++ [p]) l.length=p:=b9w .pcl
  rw[he2]
  exact⟨hp,by rw[he];omega⟩
theorem a9R {m:PMap} {l:List Pcl} {n:Int} {k:Nat} (h:u0 m l n=true) (hk:k≤l.length):u0 m (l.drop k) n=true:=by
 rw[J9]at h ⊢
 obtain⟨h1,h2,h3,h4,h5⟩:=h
 have hl:(l.drop k).length=l.length-k:=List.length_drop
 refine⟨h1,h2,h3,by rw[hl];omega,fun i hi => ?_⟩
 rw[hl]at hi ⊢
 rw[c4k .pcl (by omega)]
 have:=h5 (k+i) (by omega)
 refine⟨this.1,by rw[this.2];omega⟩
theorem b2W : ∀(l:List Pcl) (b x:Int),(∀i,i<l.length→(nth .pcl l i).n=b+i)→b≤x→Z1 l x=l.drop (x-b).toNat
 |[],b,x,_,_=>by simp[Z1]
 |p::r,b,x,h,hx=>by
  have h0:p.n=b:=by simpa [nth]using h 0 (by simp)
  have hr : ∀i,i<r.length→(nth .pcl r i).n=(b+1)+i:=fun i hi=>by
   have:=h (i+1) (by simpa using hi)
   have he:nth .pcl (p::r) (i+1)=nth .pcl r i:=by simp[nth]
   rw[he]at this
   rw[this]
   omega
  by_cases hlt:b<x
  ·have ih:=b2W r (b+1) x hr (by omega)
   have e1:(x-b).toNat=(x-(b+1)).toNat+1:=by omega
   rw[e1,List.drop_succ_cons,←ih]
   simp only[Z1]
   rw[List.filter_cons_of_neg]
   simp;omega
  ·have e1:(x-b).toNat=0:=by omega
   rw[e1,List.drop_zero]
   unfold Z1
   rw[List.filter_eq_self]
   intro q hq
   obtain⟨i,hi,rfl⟩:=a4l .pcl hq
   rw[h i hi]
   simp;omega
theorem a5W {m:PMap} {l:List Pcl} {n x:Int} (h:u0 m l n=true) (hx:n-l.length≤x):Z1 l x=l.drop (x-(n-l.length)).toNat :=
 b2W l (n-l.length) x (fun i hi=>(((J9.1 h).2.2.2.2 i hi).2)) hx
theorem a9d {l:List Wlk} (h:srt l) (p:Wlk→Bool):srt (l.filter p):=by
 rw[c6c]at *
 exact h.filter p
theorem d2s {l:List Wlk} {w:Wlk} (h:srt l) (hn : ∀x∈l,x.id≠w.id):srt (insL l (C5 l w.id) [w]):=by
 have hle:=a7j l w.id
 have h1 : ∀x∈l.take (C5 l w.id),x.id<w.id:=fun x hx=>by
  have hxl:=List.mem_of_mem_take hx
  obtain⟨j,hj,rfl⟩:=List.getElem_of_mem hx
  rw[List.length_take]at hj
  have:=(l6 _ _).1 (c1N hle (Nat.lt_irrefl (C5 l w.id))) j (by omega)
  rw[List.getElem_take]at hxl ⊢
  simp only[nab,S5,Bool.not_eq_true',decide_eq_false_iff_not]at this
  rw[l7 .wlk l j (by omega)]at this
  have:=hn _ hxl
  omega
 have h2 : ∀x∈l.drop (C5 l w.id),w.id<x.id:=fun x hx=>by
  obtain⟨j,hj,rfl⟩:=List.getElem_of_mem hx
  rw[List.length_drop]at hj
  rcases I9 (S5 w.id) l with ⟨h3,_⟩|⟨i,hi,h3,h4,_⟩
  ·unfold C5 at hj
   rw[h3]at hj
   simp at hj
  ·have he:C5 l w.id=i:=by
    unfold C5
    rw[h3,if_neg (by omega)]
    rfl
   simp only[S5,decide_eq_true_eq]at h4
   rw[List.getElem_drop]
   simp only[he]
   rcases Nat.eq_zero_or_pos j with h0|h0
   ·subst h0;exact h4
   ·have:=h i (i+j) (by omega) (by omega)
    rw[l7 .wlk l i hi,l7 .wlk l (i+j) (by omega)]at this
    omega
 rw[c6c]at h ⊢
 unfold insL
 rw[List.pairwise_append]
 refine⟨h.sublist (List.take_sublist _ _),?_,fun a ha b hb => ?_⟩
 ·simp only[List.cons_append,List.nil_append,List.pairwise_cons]
  exact⟨fun b hb=>h2 b hb,h.sublist (List.drop_sublist _ _)⟩
 ·simp only[List.cons_append,List.nil_append,List.mem_cons]at hb
  rcases hb with rfl|hb
  ·exact h1 a ha
  ·exact Int.lt_trans (h1 a ha) (h2 b hb)
theorem c7C {α : Type} {l m:List α} {n:Nat} {x : α} (h:x∈insL l n m):x∈l∨x∈m:=by
 simp only[insL,List.mem_append]at h
 rcases h with h|h|h
 ·exact .inl (List.mem_of_mem_take h)
 ·exact .inr h
 ·exact .inl (List.mem_of_mem_drop h)
theorem b4k {l:List Wlk} {id:Int} {x:Wlk} (h:x∈F6 l id):x∈l∧x.id≠id:=by
 simpa [F6]using h
theorem c1s {l:List Wlk} {w:Wlk} (h:srt l):srt (O0 l w):=d2s (a9d h _) fun x hx=>(b4k hx).2
theorem b4b {l:List Wlk} {w x:Wlk} (h:x∈O0 l w):x∈l∨x=w:=by
 rcases c7C h with h|h
 ·exact .inl (b4k h).1
 ·exact .inr (by simpa using h)
theorem c0Q {l:List Wlk} {i:Nat} {w x:Wlk} (h:x∈l.set i w):x∈l∨x=w:=List.mem_or_eq_of_mem_set h
theorem b8E {m:PMap} {c:Cll} {i:Nat} {w:Wlk} {g:Int} (h:p9 m c=true) (hw:w.id=(nth .wlk c.wlks i).id) (hok:Q8 m w=true) (hp:m5 m w.pos=c.cell) (hg:0≤g∧g≤900):p9 m ⟨c.cell,c.wlks.set i w,g,c.outs,c.next,c.ins⟩=true:=by
 rw[F4]at h ⊢
 obtain⟨h1,h2,h3,h4,h5,_,_,h8⟩:=h
 refine⟨fun x hx => ?_,b3I h2 hw,h3,h4,h5,hg.1,hg.2,h8⟩
 rcases c0Q hx with hx|rfl
 ·exact h1 x hx
 ·exact⟨hok,hp⟩
theorem d2Q {x:Int} (h:x≤5000) (h2 : ¬x=5000):x<5000:=by omega
theorem c7G {x:Int} (h:x≤5000) (h2 : ¬x=5000):x≤4999:=by omega
theorem le_succ {a b:Int} (h:a=b) (h2:a≤4999):b+1≤5000:=by omega
theorem d0B {b:Int} (h:0≤b):0≤b+1:=by omega
theorem b2a {m:PMap} {c:Cll} {s:Nat} {p:Pcl} (h:p9 m c=true) (hs:s<2) (hn : ¬nth .int c.next s=5000) (hp:K0 m ⟨nth .int c.next s,p.kind,p.wlk,p.n0⟩=true) (hsd : ¬b7 m c.cell s = -1) (hk:p.kind=1→m5 m p.wlk.pos=b7 m c.cell s) :
  (H6 c s p).length=2∧(H7 c s).length=2 ∧ ∀s',s'<2→b5P m c.cell (nth .pcls (H6 c s p) s') (nth .int (H7 c s) s') (nth .int c.ins s') s':=by
 have hside:=C6 h hs
 rw[F4]at h
 obtain⟨_,_,_,_,_,_,_,ho,hnx,hi,hsb⟩:=h
 refine⟨by simp[H6,ho],by simp[H7,hnx],fun s' hs' => ?_⟩
 have hb:=hsb s' hs'
 unfold H6 H7
 by_cases he:s=s'
 ·subst he
  rw[m6 .pcls (by omega),m6 .int (by omega)]
  obtain⟨b1,b2,b3,b4,b5⟩:=hb
  refine⟨a9Q b1 (d2Q hside.1.2 hn) hp rfl,b2,b3,fun hh=>absurd hh hsd,fun q hq hqk => ?_⟩
  ·simp only[List.mem_append,List.mem_singleton]at hq
   rcases hq with hq|rfl
   ·exact b5 q hq hqk
   ·exact hk hqk
 ·rw[q9 .pcls he,q9 .int he]
  exact hb
theorem c5b {m:PMap} {p d:Int} (hd:d=0∨d=1) (h1 : ¬m5 m (p+(2 * d-1)) = -1) (h0 : ¬m5 m p = -1) (h2 : ¬m5 m (p+(2 * d-1))=m5 m p):m5 m (p+(2 * d-1))=b7 m (m5 m p) d ∧ ¬b7 m (m5 m p) d = -1:=by
 obtain⟨g1,g2,g3,g4⟩:=O5 h1
 obtain⟨_,k2,k3,k4⟩:=O5 h0
 have hok:=g1
 rw[s0]at g1
 obtain⟨c,w⟩:=m
 simp only at *
 have hw:w=2∨w=3∨w=4∨w=5∨w=6∨w=7∨w=8:=by omega
 rw[g4,k4]at h2
 rw[g4,k4]
 unfold b7
 simp only[hok,true_and]
 clear g4 k4 h1 h0
 rcases hw with rfl|rfl|rfl|rfl|rfl|rfl|rfl<;>rcases hd with rfl|rfl<;>refine⟨?_,?_⟩<;>(repeat' split)<;>omega
theorem c8W {m:PMap} {c:Cll} {o:Ord} (h:p9 m c=true) (ho:S1 o=true):p9 m (K3 m c o).c=true:=by
 have hoi:=N4.1 ho
 unfold K3
 split
 ·exact h
 rename_i hneg
 have hlt:=L0 hneg
 have hid:=a5V (l:=c.wlks) (id:=o.who) (by omega)
 generalize hi:(k8 c.wlks o.who).toNat=i at *
 have hwb:=L7 h hlt
 have hwok:=(F4.1 h).1 _ (s7 .wlk hlt)
 have hwi:=I4.1 hwok.1
 have hf:=o7 h
 simp only
 generalize hw:nth .wlk c.wlks i=w at *
 split
 ·exact h
 split
 ·exact h
 rename_i hs1 hs2
 have stay : ∀(pos n0 last g:Int),m5 m pos=c.cell→0≤n0∧n0≤99→0≤last∧last≤9→0≤g∧g≤900→p9 m ⟨c.cell,c.wlks.set i ⟨w.id,pos,n0,o.seq,last⟩,g,c.outs,c.next,c.ins⟩=true:=by
  intro pos n0 last g hp hc hl hg
  refine b8E h (by rw[hw]) ?_ hp hg
  rw[I4]
  simp only
  exact⟨hwi.1,hwi.2.1,by rw[hp];omega,hc.1,hc.2,by omega,by omega,hl.1,hl.2⟩
 have hwc:m5 m w.pos=c.cell:=hwok.2
 have hco:0≤w.n0∧w.n0≤99:=⟨hwi.2.2.2.1,hwi.2.2.2.2.1⟩
 have hgr:0≤c.ground∧c.ground≤900:=⟨hf.2.2.2.2.1,hf.2.2.2.2.2.1⟩
 have fin : ∀code,0≤code∧code≤9→p9 m (F8 c i ⟨w.id,w.pos,w.n0,o.seq,w.last⟩ c.ground code).c=true:=fun code hc=>stay _ _ _ _ hwc hco hc hgr
 unfold R4
 split
 ·unfold a0i
  simp only
  split
  ·exact fin 2 (by omega)
  split
  ·rename_i h2
   exact stay _ _ _ _ h2 hco (by omega) hgr
  split
  ·exact fin 2 (by omega)
  rename_i e1 e2 e3
  have hd:o.dest=0∨o.dest=1:=by omega
  obtain⟨g1,g2⟩:=c5b (m:=m) (p:=w.pos) hd e1 (by rw[hwc];omega) (by rw[hwc];exact e2)
  rw[hwc]at g1 g2
  have hdd:((o.dest.toNat:Nat):Int)=o.dest:=by omega
  have hside:=C6 h (s:=o.dest.toNat) (by omega)
  obtain⟨s1,s2,s3⟩:=b2a (p:=⟨0,1,⟨w.id,w.pos+(2 * o.dest-1),w.n0,o.seq,1⟩,0⟩) h (s:=o.dest.toNat) (by omega) e3 (by
   rw[Q2]
   refine⟨hf.2.1,hside.1.1,c7G hside.1.2 e3,.inl ⟨rfl,?_,rfl⟩⟩
   ·rw[I4]
    exact⟨hwi.1,hwi.2.1,e1,hco.1,hco.2,by show 0≤o.seq;omega,by show o.seq≤900;omega,by show(0:Int)≤1;omega,by show(1:Int)≤9;omega⟩) (by rw[hdd];exact g2) (fun _=>by rw[hdd];exact g1)
  rw[F4]at h ⊢
  obtain⟨h1,h2,h3,h4,h5,h6,h7,h8,h9,h10,h11⟩:=h
  refine⟨fun x hx => ?_,a9d (b3I h2 (by rw[hw])) _,h3,h4,h5,h6,h7,s1,s2,h10,s3⟩
  obtain⟨hx1,hx2⟩:=b4k hx
  rcases c0Q hx1 with hx1|rfl
  ·exact h1 x hx1
  ·exact absurd hid hx2
 split
 ·unfold a0k
  simp only
  split
  ·exact fin 4 (by omega)
  split
  ·exact fin 3 (by omega)
  split
  ·exact fin 5 (by omega)
  rename_i e1 e2 e3
  have hlj:=L0 e1
  have hne:o.dest≠o.who:=by omega
  have hij:=a3v hneg e1 hne
  rw[hi]at hij
  generalize hj:(k8 c.wlks o.dest).toNat=j at *
  have hvok:=(F4.1 h).1 _ (s7 .wlk hlj)
  have hvi:=I4.1 hvok.1
  have h':=b8E (i:=j) (w:=⟨(nth .wlk c.wlks j).id,(nth .wlk c.wlks j).pos,(nth .wlk c.wlks j).n0+o.n,(nth .wlk c.wlks j).seq,(nth .wlk c.wlks j).last⟩) h rfl (by
   rw[I4]
   simp only
   exact⟨hvi.1,hvi.2.1,hvi.2.2.1,by omega,by omega,hvi.2.2.2.2.2⟩) hvok.2 hgr
  refine b8E (i:=i) (w:=⟨w.id,w.pos,w.n0-o.n,o.seq,1⟩) h' (by simp only;rw[q9 .wlk (Ne.symm hij),hw]) (by
   rw[I4]
   simp only
   exact⟨hwi.1,hwi.2.1,hwi.2.2.1,by omega,by omega,by omega,by omega,by omega,by omega⟩) hwc hgr
 split
 ·unfold a0l
  simp only
  split
  ·exact fin 3 (by omega)
  split
  ·exact fin 5 (by omega)
  exact stay w.pos (w.n0-o.n) 1 (c.ground+o.n) hwc (by omega) (by omega) (by omega)
 split
 ·unfold a0j
  simp only
  split
  ·exact fin 6 (by omega)
  split
  ·exact fin 5 (by omega)
  exact stay w.pos (w.n0+o.n) 1 (c.ground-o.n) hwc (by omega) (by omega) (by omega)
 split
 ·unfold S7
  simp only
  split
  ·exact fin 7 (by omega)
  split
  ·exact fin 3 (by omega)
  split
  ·exact fin 5 (by omega)
  rename_i e1 e2 e3
  have he:N8 m w.pos o.dest=true:=by simpa using e1
  simp only[N8,decide_eq_true_eq]at he
  have hdd:((o.dest.toNat:Nat):Int)=o.dest:=by omega
  have hside:=C6 h (s:=o.dest.toNat) (by omega)
  obtain⟨s1,s2,s3⟩:=b2a (p:=⟨0,2,⟨0,0,0,0,0⟩,o.n⟩) h (s:=o.dest.toNat) (by omega) e3 (by
   rw[Q2]
   exact⟨hf.2.1,hside.1.1,c7G hside.1.2 e3,.inr ⟨rfl,(show a3c ⟨0,0,0,0,0⟩=true by decide),(by show 1≤o.n;omega),(by show o.n≤9;omega)⟩⟩) (by rw[hdd,←hwc];exact he.1) (fun hk=>by cases hk)
  have h':=stay w.pos (w.n0-o.n) 1 c.ground hwc (by omega) (by omega) hgr
  rw[F4]at h' ⊢
  obtain⟨h1,h2,h3,h4,h5,h6,h7,h8,h9,h10,h11⟩:=h'
  exact⟨h1,h2,h3,h4,h5,h6,h7,s1,s2,h10,s3⟩
 ·exact fin 1 (by omega)
theorem c0k {m:PMap} {c:Cll} {s:Nat} {p:Pcl} (h:p9 m c=true) (hp:K0 m p=true) (hs : ¬b7 m c.cell s = -1):p9 m (y7 m c s p).c=true:=by
 have hs2:s<2:=by
  have:=(H9 hs).2.2.2
  omega
 have hpc:0≤p.n∧p.n≤4999∧(p.kind=1∧Q8 m p.wlk=true∧p.n0=0∨p.kind=2∧1≤p.n0∧p.n0≤9):=by
  simp only[K0,decide_eq_true_eq]at hp
  refine⟨hp.2.1,hp.2.2.1,hp.2.2.2.imp id fun h=>⟨h.1,h.2.2.1,h.2.2.2⟩⟩
 have hins : ¬(¬p.n=nth .int c.ins s)→(J4 c s).length=2 ∧ ∀s',s'<2→b5P m c.cell (nth .pcls c.outs s') (nth .int c.next s') (nth .int (J4 c s) s') s':=by
  intro hn
  obtain⟨_,_,_,_,_,_,_,ho,hnx,hi,hsb⟩:=F4.1 h
  refine⟨by simp[J4,hi],fun s' hs' => ?_⟩
  obtain⟨b1,b2,b3,b4,b5⟩:=hsb s' hs'
  unfold J4
  by_cases he:s=s'
  ·subst he
   rw[m6 .int (by omega)]
   exact⟨b1,d0B b2,le_succ (by simpa using hn) hpc.2.1,fun hh=>absurd hh hs,b5⟩
  ·rw[q9 .int he]
   exact⟨b1,b2,b3,b4,b5⟩
 unfold y7
 split
 ·exact h
 rename_i e1
 obtain⟨i1,i2⟩:=hins (fun hh=>e1 (.inl hh))
 split
 ·rw[F4]at h ⊢
  obtain⟨h1,h2,h3,h4,h5,h6,h7,h8,h9,h10,h11⟩:=h
  exact⟨h1,h2,h3,h4,h5,by show 0≤c.ground+p.n0;omega,by show c.ground+p.n0≤900;omega,h8,h9,i1,i2⟩
 split
 ·exact h
 ·rename_i e2 e3
  have hw:Q8 m p.wlk=true:=by
   rcases hpc.2.2 with ⟨_,h2,_⟩|⟨h2,_⟩
   ·exact h2
   ·exact absurd h2 e2
  have hpos:m5 m p.wlk.pos=c.cell:=by
   rcases Decidable.em (m5 m p.wlk.pos=c.cell)with h2|h2
   ·exact h2
   ·exact absurd (.inr h2) e3
  rw[F4]at h ⊢
  obtain⟨h1,h2,h3,h4,h5,h6,h7,h8,h9,h10,h11⟩:=h
  refine⟨fun x hx => ?_,c1s h2,h3,h4,h5,h6,h7,h8,h9,i1,i2⟩
  rcases b4b hx with hx|rfl
  ·exact h1 x hx
  ·exact⟨hw,hpos⟩
theorem c5i {m:PMap} {c:Cll} {s:Nat} {n:Int} (h:p9 m c=true) (hs:s<2):p9 m (H0 c s n).c=true:=by
 unfold H0
 split
 ·exact h
 ·rename_i e1
  rw[F4]at h ⊢
  obtain⟨h1,h2,h3,h4,h5,h6,h7,h8,h9,h10,h11⟩:=h
  refine⟨h1,h2,h3,h4,h5,h6,h7,by simp[Q1,h8],h9,h10,fun s' hs' => ?_⟩
  obtain⟨b1,b2,b3,b4,b5⟩:=h11 s' hs'
  simp only[Q1]
  by_cases he:s=s'
  ·subst he
   rw[m6 .pcls (by omega)]
   have hle : ¬(nth .int c.next s<n) ∧ ¬(n≤nth .int c.next s-(nth .pcls c.outs s).length):=⟨fun hh=>e1 (.inl hh),fun hh=>e1 (.inr hh)⟩
   have hd:=a5W (x:=n) b1 (by have:=hle.2;omega)
   refine⟨?_,b2,b3,b4,fun p hp=>b5 p ((List.mem_filter.1 hp).1)⟩
   rw[hd]
   have e2 : ¬ @LT.lt Int _ (nth .int c.next s) n:=hle.1
   refine a9R b1 ?_
   have e3:=(J9.1 b1).2.2.2.1
   have e4 : @LE.le Int _ ((nth .pcls c.outs s).length:Int) (nth .int c.next s):=e3
   generalize ((nth .pcls c.outs s).length)=L at *
   generalize (nth .int c.next s:Int)=N at *
   omega
  ·rw[q9 .pcls he]
   exact⟨b1,b2,b3,b4,b5⟩
theorem a1w {m:PMap} {c:Cll} {r:Rec} (h:p9 m c=true) (hr:E9 m r=true):p9 m (j8 m c r).c=true:=by
 simp only[E9,decide_eq_true_eq]at hr
 obtain⟨_,h2,h3⟩:=hr
 rw[N3]at h2
 unfold j8
 split
 ·split
  ·exact c8W h (by
    rcases h2 with h2|h2|h2
    ·exact h2.2.1
    ·omega
    ·omega)
  ·exact h
 split
 ·exact h
 rename_i hk hsd
 have hss:(r.side.toNat:Int)=r.side:=by omega
 split
 ·rename_i hk2
  exact c0k h (h3 hk2) (by rw[hss];exact hsd)
 ·exact c5i h (by omega)
end Go.Mo
namespace Go.Sx
def St.fgs (σ : St):List Nat→St
 |[] => σ
 |k::ks=>(σ.fg k).fgs ks
end Go.Sx
namespace Go.Mo
open Go.Sx
def s9 (m:PMap) (c:Cll) (l:List Rec):Nat→Cll
 | 0=>c
 |k+1=>(j8 m (s9 m c l k) (nth .rcd l k)).c
theorem a8q (m:PMap) (c:Cll) (l:List Rec):s9 m c l 0=c:=rfl
theorem P7 (m:PMap) (c:Cll) (l:List Rec) (k:Nat):s9 m c l (k+1)=(j8 m (s9 m c l k) (nth .rcd l k)).c:=rfl
def M4 (m:PMap) (c:Cll) (l:List Rec) (k:Nat):Bool:=E9 m (nth .rcd l k)&&(j8 m (s9 m c l k) (nth .rcd l k)).ok
def X5 (m:PMap) (c:Cll) (l:List Rec):Nat:=((List.range l.length).find? fun k => !M4 m c l k).getD l.length
def a2g (m:PMap) (c:Cll) (l:List Rec):Cll:=s9 m c l (X5 m c l)
theorem a6B {m:PMap} {c:Cll} {l:List Rec} (h:p9 m c=true) : ∀ {k:Nat},l9 k (M4 m c l)=true→p9 m (s9 m c l k)=true
 | 0,_=>h
 |k+1,hk=>by
  rw[n3,Bool.and_eq_true]at hk
  simp only[M4,Bool.and_eq_true]at hk
  exact a1w (a6B h hk.1) hk.2.1
theorem b7U {m:PMap} {c:Cll} {l:List Rec} {k:Nat} (hk:k<l.length) (h:l9 k (M4 m c l)=true) (hf:M4 m c l k=false):X5 m c l=k:=by
 unfold X5
 have h1:(List.range l.length).find? (fun k => !M4 m c l k)=some k:=List.find?_range_eq_some.2 ⟨by simp[hf],by simpa using hk,fun j hj=>by simp[(l6 _ _).1 h j hj]⟩
 rw[h1]
 rfl
theorem a7G {m:PMap} {c:Cll} {l:List Rec} {k:Nat} (hk:k=l.length) (h:l9 k (M4 m c l)=true):X5 m c l=k:=by
 subst hk
 unfold X5
 have h1:(List.range l.length).find? (fun k => !M4 m c l k)=none:=List.find?_eq_none.2 fun j hj=>by simpa using(l6 _ _).1 h j (by simpa using hj)
 rw[h1]
 rfl
theorem b0S (m:PMap) (c:Cll) (l:List Rec):l9 (X5 m c l) (M4 m c l)=true:=by
 rw[l6]
 intro j hj
 unfold X5 at hj
 cases h:(List.range l.length).find? fun k => !M4 m c l k with
 |none =>
  rw[h]at hj
  simp at hj
  have:=List.find?_eq_none.1 h j (by simpa using hj)
  simpa using this
 |some k =>
  rw[h]at hj
  simp at hj
  have h2:=(List.find?_range_eq_some.1 h).2.2 j hj
  simpa using h2
theorem c8p {m:PMap} {c:Cll} {l:List Rec} (h:p9 m c=true):p9 m (a2g m c l)=true:=a6B h (b0S m c l)
theorem c4T {c:Cll} {o:Ord} (h:L8 c o=true):s8 c.wlks o.who=true:=by
 simp only[L8,Bool.and_eq_true]at h
 exact h.1
theorem a1t {c:Cll} {o:Ord} (h:L8 c o=true) : ¬k8 c.wlks o.who<0∧(nth .wlk c.wlks (k8 c.wlks o.who).toNat).seq<o.seq:=by
 have h1:=c4T h
 have h2:=R3 h1
 simp only[L8,Bool.and_eq_true,decide_eq_true_eq]at h
 rw[a5g h1]at h
 exact⟨by omega,h.2⟩
structure CN where
 c:Cll
 n:Int
def V9 (m:PMap) (c:Cll) (l:List Rec):CN:=if p9 m c=true∧l.length≤250 then⟨a2g m c l,X5 m c l⟩else⟨Q7,0⟩
theorem b0r {m:PMap} {r:Rec} (h:E9 m r=true) (hk:r.kind=1):S1 r.ord=true:=by
 simp only[E9,decide_eq_true_eq]at h
 have:=N3.1 h.2.1
 rcases this with h|h|h
 ·exact h.2.1
 ·omega
 ·omega
theorem b0q {m:PMap} {r:Rec} (h:E9 m r=true) (hk:r.kind=2):K0 m r.pcl=true:=by
 simp only[E9,decide_eq_true_eq]at h
 exact h.2.2 hk
def small (b:List Wlk) (d:List (List Pcl)):Prop:=b.length≤1000 ∧ ∀i,(nth .pcls d i).length≤5000
end Go.Mo
