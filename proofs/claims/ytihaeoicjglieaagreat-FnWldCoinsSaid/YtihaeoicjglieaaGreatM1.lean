/-
  Plain models of the program's functions, with no program in sight: a2D, walkers.
-/
import Derived.Test.YtihaeoicjglieaaGreatS4e
import Derived.Test.YtihaeoicjglieaaGreatS5
set_option linter.unusedVariables false
set_option linter.unusedSimpArgs false
namespace Go.Mo
open Go.Sx
theorem okI {n:Int} (h:OkA (.int .i64 fun _=>n)) : -9223372036854775808≤n∧n≤9223372036854775807:=by
 cases h with
 |int _ _ h1 h2=>exact⟨h1,h2⟩
theorem okL {t:RT} {l:List t.ty} (h:OkA (.list t fun _=>l)) (ht:t.S7=false:=by rfl):l.length≤140737488355328:=by
 cases h with
 |list _ _ h1 _ =>
  exact Nat.le_trans (Nat.le_mul_of_pos_right l.length (b5a t ht)) h1.1
theorem okB {t:RT} {l:List t.ty} (h:OkA (.list t fun _=>l)):l.length * t.bytes≤140737488355328:=by
 cases h with
 |list _ _ h1 _=>exact h1.1
theorem a0g {k:Nat} (h:0<k) (h2:k≤140737488355328):IntKind.i64.wrap ((k:Int)-1)=((k-1:Nat):Int):=by
 rw[e8 (by omega) (by omega)];omega
theorem j3 {k:Nat} (h2:k≤140737488355328):IntKind.i64.wrap ((k:Int)+1)=((k+1:Nat):Int):=by
 rw[e8 (by omega) (by omega)];omega
def m8 (k:Nat) (f:Nat→Bool):Bool:=(List.range k).all f
theorem n7 (f:Nat→Bool):m8 0 f=true:=rfl
theorem n4 (k:Nat) (f:Nat→Bool):m8 (k+1) f=(m8 k f&&f k):=by
 simp[m8,List.range_succ]
theorem m4 (k:Nat) (f:Nat→Bool):m8 k f=true ↔ ∀i,i<k→f i=true:=by
 simp[m8]
theorem s7 {k n:Nat} {f:Nat→Bool} (h:k<n) (hf:f k=false):m8 n f=false:=by
 cases ha:m8 n f with
 |false=>rfl
 |true=>rw[(m4 n f).1 ha k h]at hf;cases hf
theorem c9W {a b:Int} (h0:0≤a) (h1:a≤9223372036854775807) (hb:0<b):IntKind.i64.wrap (a.tdiv b)=a / b:=by
 rw[Int.tdiv_eq_ediv_of_nonneg h0]
 have h2:a / b≤a:=Int.ediv_le_self b h0
 have h3:0≤a / b:=Int.ediv_nonneg h0 (by omega)
 exact e8 (by omega) (by omega)
def inR (n a b:Int):Bool:=decide (a≤n∧n≤b)
def s0 (m:PMap):Bool:=decide (2≤m.cells∧m.cells≤4∧2≤m.width∧m.width≤8)
def l8 (m:PMap) (p:Int):Int:=if s0 m=true∧0≤p∧p<m.cells * m.width then p / m.width else -1
def b7 (m:PMap) (c s:Int):Int :=
 if s0 m=true∧0≤c∧c<m.cells then(if s=0∧0<c then c-1 else if s=1∧c+1<m.cells then c+1 else -1)else -1
def J2 (m:PMap) (p s:Int):Bool :=
 decide (b7 m (l8 m p) s ≠ -1∧p=(if s=0 then l8 m p * m.width else l8 m p * m.width+m.width-1))
theorem o8 {m:PMap}:s0 m=true↔2≤m.cells∧m.cells≤4∧2≤m.width∧m.width≤8:=by simp[s0]
theorem a5l {m:PMap} (h:s0 m=true):4≤m.cells * m.width∧m.cells * m.width≤32:=by
 rw[o8]at h
 obtain⟨h1,h2,h3,h4⟩:=h
 constructor
 ·have:=Int.mul_le_mul h1 h3 (by omega) (by omega);omega
 ·have:=Int.mul_le_mul h2 h4 (by omega) (by omega);omega
theorem K5 {m:PMap} {c s:Int} (h:b7 m c s ≠ -1):s0 m=true∧0≤c∧c<m.cells∧(s=0∧0<c∨s=1∧c+1<m.cells):=by
 unfold b7 at h
 split at h
 ·rename_i h1
  refine⟨h1.1,h1.2.1,h1.2.2,?_⟩
  split at h
  ·exact .inl (by assumption)
  ·split at h
   ·exact .inr (by assumption)
   ·exact absurd rfl h
 ·exact absurd rfl h
theorem M8 {m:PMap} {p:Int} (h:l8 m p ≠ -1):s0 m=true∧0≤p∧p<m.cells * m.width∧l8 m p=p / m.width:=by
 unfold l8 at h ⊢
 split at h
 ·rename_i h1
  rw[if_pos h1]
  exact⟨h1.1,h1.2.1,h1.2.2,rfl⟩
 ·exact absurd rfl h
theorem b8K {m:PMap} {p:Int} (h:l8 m p ≠ -1):0≤l8 m p * m.width∧l8 m p * m.width≤p:=by
 obtain⟨h1,h2,h3,h4⟩:=M8 h
 rw[o8]at h1
 rw[h4]
 have h5:0≤p / m.width:=Int.ediv_nonneg h2 (by omega)
 exact⟨Int.mul_nonneg h5 (by omega),Int.ediv_mul_le p (by omega)⟩
theorem d4Y {m:PMap} {p s:Int} (h:b7 m (l8 m p) s ≠ -1):l8 m (p+(2 * s-1))≠l8 m p↔p=(if s=0 then l8 m p * m.width else l8 m p * m.width+m.width-1):=by
 obtain⟨h1,h2,h3,h4⟩:=K5 h
 have h5:l8 m p ≠ -1:=by omega
 obtain⟨_,h6,h7,h8⟩:=M8 h5
 rw[o8]at h1
 obtain⟨c,w⟩:=m
 simp only at *
 have hw:w=2∨w=3∨w=4∨w=5∨w=6∨w=7∨w=8:=by omega
 have hok:s0 ⟨c,w⟩=true:=by rw[o8];exact h1
 have hc : ∀q,l8 ⟨c,w⟩ q=if 0≤q∧q<c * w then q / w else -1:=fun q=>by simp[l8,hok]
 rw[h8]at h2 h3 h4 ⊢
 rw[hc]
 clear h hok hc h5 h8
 rcases hw with rfl|rfl|rfl|rfl|rfl|rfl|rfl<;>(rcases h4 with ⟨rfl,h4⟩|⟨rfl,h4⟩<;>simp only[Int.reduceMul,Int.reduceSub,if_true,if_neg (show ¬((1:Int)=0) by decide)]<;>split<;>omega)
def a8o (w:Wlk):Bool:=decide (1≤w.id∧w.id≤9∧0≤w.j9∧w.j9≤99∧0≤w.seq∧w.seq≤900∧0≤w.last∧w.last≤9)
def P9 (m:PMap) (w:Wlk):Bool:=decide (1≤w.id∧w.id≤9∧l8 m w.pos ≠ -1∧0≤w.j9∧w.j9≤99∧0≤w.seq∧w.seq≤900∧0≤w.last∧w.last≤9)
def a3Z (m:PMap) (l:List Wlk) (i:Nat):Bool:=P9 m (nth .wlk l i)&&(decide (i=0)||decide ((nth .wlk l (i-1)).id<(nth .wlk l i).id))
def A5 (m:PMap) (l:List Wlk):Bool:=m8 l.length (a3Z m l)
theorem b0y {m:PMap} {l:List Wlk} {k:Nat} (h:k<l.length) (hw:P9 m (nth .wlk l k)=false):A5 m l=false:=s7 h (by simp[a3Z,hw])
theorem a9t {m:PMap} {l:List Wlk} {k:Nat} (h:k<l.length) (h0:0<k) (hw:(nth .wlk l k).id≤(nth .wlk l (k-1)).id):A5 m l=false:=s7 h (by
 have : ¬(nth .wlk l (k-1)).id<(nth .wlk l k).id:=by omega
 have h1 : ¬k=0:=by omega
 simp[a3Z,this,h1])
def flt {α : Type} (p : α → Bool) (l:List α) (k:Nat):List α := (l.take k).filter p
theorem a7Z {α : Type} (p : α → Bool) (l:List α):flt p l 0 = []:=by simp[flt]
theorem b0r {α : Type} (p : α → Bool) (l:List α):flt p l l.length=l.filter p:=by simp[flt]
theorem b0q {α : Type} (p : α → Bool) (l:List α) (k:Nat):(flt p l k).length≤k:=by
 unfold flt
 exact Nat.le_trans (List.length_filter_le _ _) (by simp;omega)
theorem a0W (t:RT) (p:t.ty→Bool) (l:List t.ty) (k:Nat) (h:k<l.length):flt p l (k+1)=if p (nth t l k)=true then flt p l k ++ [nth t l k]else flt p l k:=by
 unfold flt
 rw[List.take_succ_eq_append_getElem h,List.filter_append,l6 t l k h]
 cases hp:p l[k]<;>simp[hp]
def E2 (l:List Wlk) (id:Int):List Wlk:=l.filter fun w=>decide (w.id≠id)
def R6 (l:List Wlk) (id:Int) (k:Nat):List Wlk:=flt (fun w=>decide (w.id≠id)) l k
theorem a5G (l:List Wlk) (id:Int):R6 l id 0 = []:=a7Z _ _
theorem a6J {l:List Wlk} {id:Int} {k:Nat} (h:k=l.length):R6 l id k=E2 l id:=by subst h;exact b0r _ _
theorem a6I (l:List Wlk) (id:Int) (k:Nat):(R6 l id k).length≤k:=b0q _ _ _
theorem a6H {l:List Wlk} {id:Int} {k:Nat} (h:k<l.length) (hn:(nth .wlk l k).id≠id):R6 l id (k+1)=R6 l id k ++ [nth .wlk l k]:=by
 unfold R6
 rw[a0W .wlk _ _ _ h,if_pos (by simpa using hn)]
theorem a9s {l:List Wlk} {id:Int} {k:Nat} (h:k<l.length) (hn:(nth .wlk l k).id=id):R6 l id (k+1)=R6 l id k:=by
 unfold R6
 rw[a0W .wlk _ _ _ h,if_neg (by simp[hn])]
def idx {α : Type} (p : α → Bool) (l:List α):Int:=match l.findIdx? p with
 |some i=>(i:Int)
 |none => -1
theorem b1Z {α : Type} {p : α → Bool} {l:List α} {k:Nat} (h:k<l.length) (hp:p l[k]=true) (hn : ∀j (hj:j<k),p (l[j]'(by omega))=false):idx p l=k:=by
 have:l.findIdx? p=some k:=by
  rw[List.findIdx?_eq_some_iff_getElem]
  exact⟨h,hp,fun j hj=>by simp[hn j hj]⟩
 simp[idx,this]
theorem a3f {α : Type} {p : α → Bool} {l:List α} (hn : ∀j (hj:j<l.length),p l[j]=false):idx p l = -1:=by
 have:l.findIdx? p=none:=by
  rw[List.findIdx?_eq_none_iff]
  intro x hx
  obtain⟨j,hj,rfl⟩:=List.getElem_of_mem hx
  exact hn j hj
 simp[idx,this]
theorem F3 {α : Type} (p : α → Bool) (l:List α):idx p l = -1∧(∀x∈l,p x=false) ∨ ∃k,∃h:k<l.length,idx p l=(k:Int)∧p l[k]=true ∧ ∀j (hj:j<k),p (l[j]'(by omega))=false:=by
 unfold idx
 cases hf:l.findIdx? p with
 |none =>
  rw[List.findIdx?_eq_none_iff]at hf
  exact .inl ⟨rfl,fun x hx=>by simpa using hf x hx⟩
 |some k =>
  rw[List.findIdx?_eq_some_iff_getElem]at hf
  obtain⟨h,h1,h2⟩:=hf
  exact .inr ⟨k,h,rfl,h1,fun j hj=>by simpa using h2 j hj⟩
def isId (id:Int) (w:Wlk):Bool:=decide (w.id=id)
def k8 (l:List Wlk) (id:Int):Int:=idx (isId id) l
def nid (l:List Wlk) (id:Int) (j:Nat):Bool := !isId id (nth .wlk l j)
theorem b8O {l:List Wlk} {id:Int} {k:Nat} (h:m8 k (nid l id)=true) (hk:k<l.length) (hi:(nth .wlk l k).id=id):k8 l id=k:=by
 rw[l6 .wlk l k hk]at hi
 refine b1Z hk (by simp[isId,hi]) fun j hj => ?_
 have:=(m4 k _).1 h j hj
 simp only[nid,Bool.not_eq_true']at this
 rw[l6 .wlk l j (by omega)]at this
 exact this
theorem b1l {l:List Wlk} {id:Int} {k:Nat} (h:m8 k (nid l id)=true) (hk:k=l.length):k8 l id = -1:=by
 subst hk
 refine a3f fun j hj => ?_
 have:=(m4 _ _).1 h j hj
 simp only[nid,Bool.not_eq_true']at this
 rw[l6 .wlk l j hj]at this
 exact this
theorem S4 (l:List Wlk) (id:Int) : -1≤k8 l id∧k8 l id<l.length:=by
 rcases F3 (isId id) l with ⟨h,_⟩|⟨k,hk,h,_⟩
 ·unfold k8;rw[h];omega
 ·unfold k8;rw[h];omega
theorem a7j {l:List Wlk} {id:Int} (h:0≤k8 l id):(nth .wlk l (k8 l id).toNat).id=id:=by
 rcases F3 (isId id) l with ⟨h',_⟩|⟨k,hk,h',h2,_⟩
 ·unfold k8 at h;omega
 ·unfold k8;rw[h']
  rw[Int.toNat_natCast,l6 .wlk l k hk]
  simpa [isId]using h2
def E3 (l:List Wlk) (id:Int):Wlk:=if 0≤k8 l id then nth .wlk l (k8 l id).toNat else⟨0,0,0,0,0⟩
def u3 (l:List Wlk) (id:Int):Bool:=decide (0≤k8 l id)
def O2 (o:Ord):Bool:=decide (1≤o.who∧o.who≤9∧1≤o.seq∧o.seq≤900 ∧
 ((o.kind=1∧0≤o.dest∧o.dest≤1∧o.n=0)∨(o.kind=2∧1≤o.dest∧o.dest≤9∧o.dest≠o.who∧1≤o.n∧o.n≤9)∨((o.kind=3∨o.kind=4)∧o.dest=0∧1≤o.n∧o.n≤9) ∨
  (o.kind=5∧0≤o.dest∧o.dest≤1∧1≤o.n∧o.n≤9)∨(o.kind=6∧o.dest=0∧o.n=0)))
def a4e (w:Wlk):Bool:=decide (w.id=0∧w.pos=0∧w.j9=0∧w.seq=0∧w.last=0)
def a8M (p:Pcl):Bool:=decide (0≤p.n∧p.n≤4999∧(p.kind=1∧p.j9=0∨p.kind=2∧a4e p.wlk=true∧1≤p.j9∧p.j9≤9))
def I8 (m:PMap) (p:Pcl):Bool:=decide (s0 m=true∧0≤p.n∧p.n≤4999∧(p.kind=1∧P9 m p.wlk=true∧p.j9=0∨p.kind=2∧a4e p.wlk=true∧1≤p.j9∧p.j9≤9))
def a2X (m:PMap) (l:List Pcl) (next:Int) (i:Nat):Bool:=I8 m (nth .pcl l i)&&decide ((nth .pcl l i).n=next-l.length+i)
def u6 (m:PMap) (l:List Pcl) (next:Int):Bool:=decide (s0 m=true∧0≤next∧next≤5000∧(l.length:Int)≤next)&&m8 l.length (a2X m l next)
theorem a5K {m:PMap} {l:List Pcl} {next:Int} {k:Nat} (h:k<l.length) (hw:I8 m (nth .pcl l k)=false):u6 m l next=false:=by
 have:=s7 (f:=a2X m l next) h (by simp[a2X,hw])
 simp[u6,this]
theorem a4x {m:PMap} {l:List Pcl} {next:Int} {k:Nat} (h:k<l.length) (hw : ¬(nth .pcl l k).n=next-l.length+k):u6 m l next=false:=by
 have:=s7 (f:=a2X m l next) h (by simp[a2X,hw])
 simp[u6,this]
def A1 (l:List Pcl) (n:Int):List Pcl:=l.filter fun p=>decide (n≤p.n)
def O1 (l:List Pcl) (n:Int) (k:Nat):List Pcl:=flt (fun p=>decide (n≤p.n)) l k
theorem a4y (l:List Pcl) (n:Int):O1 l n 0 = []:=a7Z _ _
theorem a5N {l:List Pcl} {n:Int} {k:Nat} (h:k=l.length):O1 l n k=A1 l n:=by subst h;exact b0r _ _
theorem a5M (l:List Pcl) (n:Int) (k:Nat):(O1 l n k).length≤k:=b0q _ _ _
theorem a5L {l:List Pcl} {n:Int} {k:Nat} (h:k<l.length) (hn:n≤(nth .pcl l k).n):O1 l n (k+1)=O1 l n k ++ [nth .pcl l k]:=by
 unfold O1
 rw[a0W .pcl _ _ _ h,if_pos (by simpa using hn)]
theorem a7m {l:List Pcl} {n:Int} {k:Nat} (h:k<l.length) (hn:(nth .pcl l k).n<n):O1 l n (k+1)=O1 l n k:=by
 unfold O1
 rw[a0W .pcl _ _ _ h,if_neg (by simpa using hn)]
structure CllB (c:Cll):Prop where
 w:c.wlks.length * 40≤140737488355328
 o:c.outs.length * 24≤140737488355328
 oi : ∀i,i<c.outs.length→(nth .pcls c.outs i).length * 64≤140737488355328
 n:c.next.length * 8≤140737488355328
 i:c.ins.length * 8≤140737488355328
 cell : -9223372036854775808≤c.cell∧c.cell≤9223372036854775807
 ground : -9223372036854775808≤c.ground∧c.ground≤9223372036854775807
theorem a9J {c:Cll} (h : ∀a∈(PT.row .cll).encA (fun _=>c),OkA a):CllB c:=by
 have h1:=okI (h _ (.head _))
 have h2:=okB (h _ (.tail _ (.head _)))
 have h3:=okI (h _ (.tail _ (.tail _ (.head _))))
 have h4:=h _ (.tail _ (.tail _ (.tail _ (.head _))))
 have h5:=okB (h _ (.tail _ (.tail _ (.tail _ (.tail _ (.head _))))))
 have h6:=okB (h _ (.tail _ (.tail _ (.tail _ (.tail _ (.tail _ (.head _)))))))
 refine⟨h2,okB h4,fun i hi => ?_,h5,h6,h1,h3⟩
 cases h4 with
 |list _ _ _ g =>
  have:=g i 0 _ hi rfl
  exact okB this
theorem J6 (t:RT) (l:List t.ty) (k:Nat) (h:k<l.length):l.take (k+1)=l.take k ++ [nth t l k]:=by
 rw[List.take_succ_eq_append_getElem h,l6 t l k h]
def pre {α : Type} (l:List α) (k:Nat):List α := l.take k
theorem a0Q {α : Type} (l:List α):pre l 0 = []:=by simp[pre]
theorem a2g {α : Type} {l:List α} {k:Nat} (h:k=l.length):pre l k=l:=by subst h;simp[pre]
theorem M0 (t:RT) {l:List t.ty} {k:Nat} (h:k<l.length):pre l (k+1)=pre l k ++ [nth t l k]:=J6 t l k h
theorem a2f {α : Type} (l:List α) (k:Nat):(pre l k).length≤k:=by simp[pre];omega
def a2i (m:PMap) (there:Int) (l:List Pcl) (i:Nat):Bool:=decide ((nth .pcl l i).kind=1→l8 m (nth .pcl l i).wlk.pos=there)
def Y3 (m:PMap) (c:Cll) (s:Nat):Bool:=decide (u6 m (nth .pcls c.outs s) (nth .int c.next s)=true∧0≤nth .int c.ins s∧nth .int c.ins s≤5000∧(b7 m c.cell s = -1→nth .int c.next s=0∧nth .int c.ins s=0))
def N4 (m:PMap) (c:Cll) (s:Nat):Bool:=Y3 m c s&&m8 (nth .pcls c.outs s).length (a2i m (b7 m c.cell s) (nth .pcls c.outs s))
def a3Y (m:PMap) (c:Cll) (i:Nat):Bool:=decide (l8 m (nth .wlk c.wlks i).pos=c.cell)
def a0H (m:PMap) (c:Cll):Bool:=decide (A5 m c.wlks=true∧s0 m=true∧0≤c.cell∧c.cell<m.cells∧0≤c.ground∧c.ground≤900∧c.outs.length=2∧c.next.length=2∧c.ins.length=2)
def s6 (m:PMap) (c:Cll):Bool:=a0H m c&&m8 c.wlks.length (a3Y m c)&&m8 2 (N4 m c)
theorem b2J {m:PMap} {c:Cll} {k:Nat} (h:k<c.wlks.length) (hw : ¬l8 m (nth .wlk c.wlks k).pos=c.cell):s6 m c=false:=by
 have:=s7 (f:=a3Y m c) h (by simp[a3Y,hw])
 simp[s6,this]
theorem b2I {m:PMap} {c:Cll} {k:Nat} (h:k<2) (hw:N4 m c k=false):s6 m c=false:=by
 have:=s7 (f:=N4 m c) h hw
 simp[s6,this]
theorem a9X {m:PMap} {c:Cll} {s k:Nat} (h:k<(nth .pcls c.outs s).length) (h1:(nth .pcl (nth .pcls c.outs s) k).kind=1) (hw : ¬l8 m (nth .pcl (nth .pcls c.outs s) k).wlk.pos=b7 m c.cell s):N4 m c s=false:=by
 have:=s7 (f:=a2i m (b7 m c.cell s) (nth .pcls c.outs s)) h (by simp[a2i,h1,hw])
 simp[N4,this]
theorem b3o {m:PMap} {l:List Pcl} {n:Int} (h:u6 m l n=true):(l.length:Int)≤n:=by
 simp[u6]at h
 omega
theorem b3x {m:PMap} {c:Cll} {s:Nat} (h:Y3 m c s=true) (hn:b7 m c.cell s = -1):N4 m c s=true:=by
 have h':=h
 simp only[Y3,decide_eq_true_eq]at h'
 obtain⟨h1,_,_,h4⟩:=h'
 have h5:=b3o h1
 have h6 : @Eq Int (nth .int c.next s) 0:=(h4 hn).1
 rw[h6]at h5
 have:(nth .pcls c.outs s).length=0:=by omega
 simp[N4,h,this,n7]
def c3x (m:PMap) (c:Cll) (s k:Nat):Prop:=s<2∧a0H m c=true∧m8 c.wlks.length (a3Y m c)=true∧m8 s (N4 m c)=true∧Y3 m c s=true∧k≤(nth .pcls c.outs s).length∧m8 k (a2i m (b7 m c.cell s) (nth .pcls c.outs s))=true
theorem a6B {m:PMap} {c:Cll} (h:s6 m c=true):a0H m c=true∧m8 c.wlks.length (a3Y m c)=true∧m8 2 (N4 m c)=true:=by
 simpa [s6,and_assoc]using h
theorem n5 {m:PMap} {c:Cll} (h:s6 m c=true):A5 m c.wlks=true∧s0 m=true∧0≤c.cell∧c.cell<m.cells∧0≤c.ground∧c.ground≤900∧c.outs.length=2∧c.next.length=2∧c.ins.length=2:=by
 have:=(a6B h).1
 simpa [a0H]using this
theorem z5 {m:PMap} {w:Wlk}:P9 m w=true↔(1≤w.id∧w.id≤9∧l8 m w.pos ≠ -1∧0≤w.j9∧w.j9≤99∧0≤w.seq∧w.seq≤900∧0≤w.last∧w.last≤9):=by simp[P9]
theorem a5b {m:PMap} {l:List Wlk} (h:A5 m l=true) {i:Nat} (hi:i<l.length):P9 m (nth .wlk l i)=true:=by
 have:=(m4 _ _).1 h i hi
 simp[a3Z]at this
 exact this.1
theorem b8J {m:PMap} {p:Int} (h:l8 m p ≠ -1):0≤p∧p<32:=by
 obtain⟨h1,h2,h3,_⟩:=M8 h
 have:=(a5l h1).2
 omega
theorem L7 {m:PMap} {c:Cll} (h:s6 m c=true) {i:Nat} (hi:i<c.wlks.length) :
  (1≤(nth .wlk c.wlks i).id∧(nth .wlk c.wlks i).id≤9)∧(0≤(nth .wlk c.wlks i).pos∧(nth .wlk c.wlks i).pos<32)∧(0≤(nth .wlk c.wlks i).j9∧(nth .wlk c.wlks i).j9≤99) ∧
   (0≤(nth .wlk c.wlks i).seq∧(nth .wlk c.wlks i).seq≤900)∧(0≤(nth .wlk c.wlks i).last∧(nth .wlk c.wlks i).last≤9)∧l8 m (nth .wlk c.wlks i).pos=c.cell:=by
 obtain⟨h1,h2,_⟩:=a6B h
 have h3:=z5.1 (a5b (n5 h).1 hi)
 have h4:=(m4 _ _).1 h2 i hi
 simp[a3Y]at h4
 have h5:=b8J h3.2.2.1
 exact⟨⟨h3.1,h3.2.1⟩,h5,⟨h3.2.2.2.1,h3.2.2.2.2.1⟩,⟨h3.2.2.2.2.2.1,h3.2.2.2.2.2.2.1⟩,h3.2.2.2.2.2.2.2,h4⟩
theorem D3 {m:PMap} {c:Cll} (h:s6 m c=true) {s:Nat} (hs:s<2) :
  (0≤nth .int c.next s∧nth .int c.next s≤5000)∧(0≤nth .int c.ins s∧nth .int c.ins s≤5000)∧((nth .pcls c.outs s).length:Int)≤nth .int c.next s∧u6 m (nth .pcls c.outs s) (nth .int c.next s)=true:=by
 obtain⟨_,_,h3⟩:=a6B h
 have h4:=(m4 _ _).1 h3 s hs
 simp only[N4,Y3,Bool.and_eq_true,decide_eq_true_eq]at h4
 have h5:=h4.1.1
 simp only[u6,Bool.and_eq_true,decide_eq_true_eq]at h5
 exact⟨⟨h5.1.2.1,h5.1.2.2.1⟩,⟨h4.1.2.1,h4.1.2.2.1⟩,h5.1.2.2.2,h4.1.1⟩
theorem J9 {o:Ord}:O2 o=true↔(1≤o.who∧o.who≤9∧1≤o.seq∧o.seq≤900 ∧
 ((o.kind=1∧0≤o.dest∧o.dest≤1∧o.n=0)∨(o.kind=2∧1≤o.dest∧o.dest≤9∧o.dest≠o.who∧1≤o.n∧o.n≤9)∨((o.kind=3∨o.kind=4)∧o.dest=0∧1≤o.n∧o.n≤9) ∨
  (o.kind=5∧0≤o.dest∧o.dest≤1∧1≤o.n∧o.n≤9)∨(o.kind=6∧o.dest=0∧o.n=0))):=by simp[O2]
theorem l9 (t:RT) {l:List t.ty} {i:Nat} {x:t.ty} (h:i<l.length):nth t (l.set i x) i=x:=by
 simp[nth,List.getD,h]
theorem n6 (t:RT) {l:List t.ty} {i j:Nat} {x:t.ty} (h:i≠j):nth t (l.set i x) j=nth t l j:=by
 simp[nth,List.getD,List.getElem?_set_ne h]
theorem B3 (t:RT) (l:Th (List t.ty)) (i:Th Int) (e:Th t.ty) (u:Unit):C1 t l i e u=(l ()).set (i ()).toNat (e ()):=rfl
theorem I7 {l:List Wlk} {id:Int} (h : ¬k8 l id<0):(k8 l id).toNat<l.length:=by
 have:=S4 l id
 omega
theorem a4w {l:List Wlk} {a b:Int} (ha : ¬k8 l a<0) (hb : ¬k8 l b<0) (h:b≠a):(k8 l a).toNat≠(k8 l b).toNat:=by
 intro he
 have h1:=a7j (l:=l) (id:=a) (by omega)
 have h2:=a7j (l:=l) (id:=b) (by omega)
 rw[he,h2]at h1
 exact h h1
theorem a1G {o:Ord} (h:O2 o=true) (h2:o.kind=2):o.dest≠o.who:=by
 rw[J9]at h
 omega
theorem a8v {m:PMap} {c:Cll} {o:Ord} {i:Nat} (h:s6 m c=true) (hi:i<c.wlks.length) (ho:O2 o=true) (hk:o.kind=1):IntKind.i64.wrap ((nth .wlk c.wlks i).pos+(2 * o.dest-1))=(nth .wlk c.wlks i).pos+(2 * o.dest-1):=by
 have h1:=L7 h hi
 rw[J9]at ho
 exact e8 (by omega) (by omega)
theorem a6Q {α : Type} {l:List α} {i j:Nat} {a b c : α} (h:i≠j):((l.set i a).set j b).set i c=(l.set j b).set i c:=by
 rw[List.set_comm _ _ h,List.set_set]
theorem b4D {α : Type} {p : α → Bool} : ∀ {l k:List α},l.map p=k.map p→idx p l=idx p k:=by
 intro l k h
 have h2 : ∀(l:List α),l.findIdx? p=(l.map p).findIdx? id:=by
  intro l
  induction l with
  |nil=>rfl
  |cons x r ih=>simp only[List.map_cons,List.findIdx?_cons,id,ih]
 unfold idx
 rw[h2 l,h2 k,h]
theorem a7K {α β : Type} (f : α → β) {l:List α} {i:Nat} {x : α} (h : ∀y,l[i]? = some y→f x=f y):(l.set i x).map f=l.map f:=by
 apply List.ext_getElem?
 intro j
 by_cases hj:i=j
 ·subst hj
  simp only[List.getElem?_map,List.getElem?_set_self']
  cases hy:l[i]? with
  |none=>simp
  |some y=>simp[h y hy]
 ·simp[List.getElem?_set_ne hj]
theorem a5m {l:List Wlk} {i:Nat} {w:Wlk} {id:Int} (h:w.id=(nth .wlk l i).id):k8 (l.set i w) id=k8 l id:=by
 unfold k8
 refine b4D (a7K _ fun y hy => ?_)
 have:nth .wlk l i=y:=by simp[nth,List.getD,hy]
 rw[this]at h
 simp[isId,h]
structure CD where
 c:Cll
 code:Int
def I0 (c:Cll) (i:Nat) (w:Wlk) (g:Int) (code:Int):CD:=⟨⟨c.cell,c.wlks.set i ⟨w.id,w.pos,w.j9,w.seq,code⟩,g,c.outs,c.next,c.ins⟩,code⟩
def D5 (c:Cll) (s:Nat) (p:Pcl):List (List Pcl):=c.outs.set s (nth .pcls c.outs s ++ [⟨nth .int c.next s,p.kind,p.wlk,p.j9⟩])
def H9 (c:Cll) (s:Nat):List Int:=c.next.set s (nth .int c.next s+1)
def a0t (m:PMap) (c:Cll) (i:Nat) (w:Wlk) (o:Ord):CD :=
 if l8 m (w.pos+(2 * o.dest-1)) = -1 then I0 c i w c.ground 2
 else if l8 m (w.pos+(2 * o.dest-1))=c.cell then I0 c i ⟨w.id,w.pos+(2 * o.dest-1),w.j9,w.seq,w.last⟩ c.ground 1
 else if nth .int c.next o.dest.toNat=5000 then I0 c i w c.ground 2
 else⟨⟨c.cell,E2 (c.wlks.set i w) o.who,c.ground,D5 c o.dest.toNat ⟨0,1,⟨w.id,w.pos+(2 * o.dest-1),w.j9,w.seq,1⟩,0⟩,H9 c o.dest.toNat,c.ins⟩,1⟩
def a0v (c:Cll) (i:Nat) (w:Wlk) (o:Ord):CD :=
 if k8 c.wlks o.dest<0 then I0 c i w c.ground 4
 else if w.j9<o.n then I0 c i w c.ground 3
 else if 99<(nth .wlk c.wlks (k8 c.wlks o.dest).toNat).j9+o.n then I0 c i w c.ground 5
 else
  let v:=nth .wlk c.wlks (k8 c.wlks o.dest).toNat
  ⟨⟨c.cell,(c.wlks.set (k8 c.wlks o.dest).toNat ⟨v.id,v.pos,v.j9+o.n,v.seq,v.last⟩).set i ⟨w.id,w.pos,w.j9-o.n,w.seq,1⟩,c.ground,c.outs,c.next,c.ins⟩,1⟩
def a0w (c:Cll) (i:Nat) (w:Wlk) (o:Ord):CD :=
 if w.j9<o.n then I0 c i w c.ground 3 else if 900<c.ground+o.n then I0 c i w c.ground 5 else I0 c i ⟨w.id,w.pos,w.j9-o.n,w.seq,w.last⟩ (c.ground+o.n) 1
def a0u (c:Cll) (i:Nat) (w:Wlk) (o:Ord):CD :=
 if c.ground<o.n then I0 c i w c.ground 6 else if 99<w.j9+o.n then I0 c i w c.ground 5 else I0 c i ⟨w.id,w.pos,w.j9+o.n,w.seq,w.last⟩ (c.ground-o.n) 1
def U3 (m:PMap) (c:Cll) (i:Nat) (w:Wlk) (o:Ord):CD :=
 if J2 m w.pos o.dest=false then I0 c i w c.ground 7
 else if w.j9<o.n then I0 c i w c.ground 3
 else if nth .int c.next o.dest.toNat=5000 then I0 c i w c.ground 5
 else⟨⟨c.cell,c.wlks.set i ⟨w.id,w.pos,w.j9-o.n,w.seq,1⟩,c.ground,D5 c o.dest.toNat ⟨0,2,⟨0,0,0,0,0⟩,o.n⟩,H9 c o.dest.toNat,c.ins⟩,1⟩
def Q8 (m:PMap) (c:Cll) (i:Nat) (w:Wlk) (o:Ord):CD :=
 if o.kind=1 then a0t m c i w o
 else if o.kind=2 then a0v c i w o
 else if o.kind=3 then a0w c i w o
 else if o.kind=4 then a0u c i w o
 else if o.kind=5 then U3 m c i w o
 else I0 c i w c.ground 1
def J0 (m:PMap) (c:Cll) (o:Ord):CD :=
 if k8 c.wlks o.who<0 then⟨c,9⟩
 else
  let w:=nth .wlk c.wlks (k8 c.wlks o.who).toNat
  if o.seq<w.seq then⟨c,8⟩
  else if o.seq=w.seq then⟨c,w.last⟩
  else Q8 m c (k8 c.wlks o.who).toNat ⟨w.id,w.pos,w.j9,o.seq,w.last⟩ o
def U4:Cll:=⟨0,[],0,[],[],[]⟩
def V5 (id:Int) (w:Wlk):Bool:=decide (id<w.id)
def nab (l:List Wlk) (id:Int) (j:Nat):Bool := !V5 id (nth .wlk l j)
def C6 (l:List Wlk) (id:Int):Nat:=if idx (V5 id) l<0 then l.length else(idx (V5 id) l).toNat
def M4 (l:List Wlk) (w:Wlk):List Wlk:=insL (E2 l w.id) (C6 (E2 l w.id) w.id) [w]
theorem c0T (l:List Wlk) (id:Int) : -1≤idx (V5 id) l∧idx (V5 id) l<l.length:=by
 rcases F3 (V5 id) l with ⟨h,_⟩|⟨k,hk,h,_⟩<;>rw[h]<;>omega
theorem a8J (l:List Wlk) (id:Int):C6 l id≤l.length:=by
 have:=c0T l id
 unfold C6
 split<;>omega
theorem c0U {l:List Wlk} {id:Int} {k:Nat} (h:m8 k (nab l id)=true) (hk:k<l.length) (hi:id<(nth .wlk l k).id):idx (V5 id) l=k:=by
 rw[l6 .wlk l k hk]at hi
 refine b1Z hk (by simp[V5,hi]) fun j hj => ?_
 have:=(m4 k _).1 h j hj
 simp only[nab,Bool.not_eq_true']at this
 rw[l6 .wlk l j (by omega)]at this
 exact this
theorem c3i {l:List Wlk} {id:Int} {k:Nat} (h:m8 k (nab l id)=true) (hk:k=l.length):idx (V5 id) l = -1:=by
 subst hk
 refine a3f fun j hj => ?_
 have:=(m4 _ _).1 h j hj
 simp only[nab,Bool.not_eq_true']at this
 rw[l6 .wlk l j hj]at this
 exact this
def O8 (l:List Wlk) (w:Wlk) (k:Nat):List Wlk:=if C6 l w.id<k then insL (l.take k) (C6 l w.id) [w]else l.take k
def A7 (l:List Wlk) (w:Wlk) (k:Nat):Bool:=decide (C6 l w.id<k)
theorem c1A (l:List Wlk) (w:Wlk):O8 l w 0 = []:=by simp[O8]
theorem c6z (l:List Wlk) (w:Wlk) (k:Nat):(O8 l w k).length≤k+1:=by
 unfold O8
 split
 ·simp[insL];omega
 ·simp;omega
theorem c1B {l:List Wlk} {w:Wlk} {k:Nat} (h:A7 l w k=false):(O8 l w k).length≤k:=by
 simp only[A7,decide_eq_false_iff_not]at h
 unfold O8
 rw[if_neg h,List.length_take]
 omega
theorem a6a {l:List Wlk} {k:Nat} (h:k<l.length):l.take (k+1)=l.take k ++ [nth .wlk l k]:=J6 .wlk l k h
theorem b8C {l:List Wlk} {w:Wlk} {k:Nat} (h:k<l.length) (hd:A7 l w k=true):O8 l w (k+1)=O8 l w k ++ [nth .wlk l k]:=by
 simp only[A7,decide_eq_true_eq]at hd
 unfold O8
 rw[if_pos (by omega),if_pos hd,a6a h]
 simp only[insL]
 rw[List.take_append_of_le_length (by rw[List.length_take];omega),List.drop_append_of_le_length (by rw[List.length_take];omega)]
 simp
theorem c1C {l:List Wlk} {w:Wlk} {k:Nat} (h:k<l.length) (hd:A7 l w k=false) (hi:w.id<(nth .wlk l k).id):C6 l w.id=k→O8 l w (k+1)=O8 l w k ++ [w] ++ [nth .wlk l k]:=by
 intro hp
 unfold O8
 rw[if_pos (by omega),if_neg (by omega),a6a h,hp]
 simp only[insL]
 rw[List.take_append_of_le_length (by rw[List.length_take];omega),List.drop_append_of_le_length (by rw[List.length_take];omega)]
 simp[List.take_take]
theorem b5Y {l:List Wlk} {w:Wlk} {k:Nat} (h:k<l.length) (hp : ¬C6 l w.id<k+1):O8 l w (k+1)=O8 l w k ++ [nth .wlk l k]:=by
 unfold O8
 rw[if_neg hp,if_neg (by omega),a6a h]
theorem c4N {l:List Wlk} {id:Int} {k:Nat} (hk:k≤l.length) : ¬C6 l id<k→m8 k (nab l id)=true:=by
 intro h
 rw[m4]
 intro j hj
 simp only[nab,Bool.not_eq_true']
 rcases F3 (V5 id) l with ⟨_,h2⟩|⟨i,hi,h1,h2,h3⟩
 ·rw[l6 .wlk l j (by omega)]
  exact h2 _ (List.getElem_mem _)
 ·unfold C6 at h
  rw[h1,if_neg (by omega)]at h
  rw[l6 .wlk l j (by omega)]
  exact h3 j (by omega)
theorem b8H {l:List Wlk} {w:Wlk} {k:Nat} (h:k<l.length) (hd:A7 l w k=false) (hi:w.id<(nth .wlk l k).id):C6 l w.id=k:=by
 simp only[A7,decide_eq_false_iff_not]at hd
 have:=c0U (c4N (by omega) hd) h hi
 unfold C6
 rw[this,if_neg (by omega)]
 rfl
theorem c1G {l:List Wlk} {w:Wlk} {k:Nat} (h:k<l.length) (hd:A7 l w k=false) (hi : ¬w.id<(nth .wlk l k).id) : ¬C6 l w.id<k+1:=by
 simp only[A7,decide_eq_false_iff_not]at hd
 intro hlt
 have he:C6 l w.id=k:=by omega
 rcases F3 (V5 w.id) l with ⟨h1,h2⟩|⟨i,hi',h1,h2,h3⟩
 ·unfold C6 at he
  rw[h1]at he
  simp at he
  omega
 ·unfold C6 at he
  rw[h1,if_neg (by omega)]at he
  have:i=k:=by omega
  subst this
  rw[l6 .wlk l i h]at hi
  simp[V5]at h2
  exact hi h2
theorem a9B {l:List Wlk} {w:Wlk} {k:Nat} (h:k<l.length) (hd:A7 l w k=false) (hi:w.id<(nth .wlk l k).id):O8 l w (k+1)=O8 l w k ++ [w] ++ [nth .wlk l k]∧A7 l w (k+1)=true:=by
 have hp:=b8H h hd hi
 exact⟨c1C h hd hi hp,by simp[A7,hp]⟩
theorem a9A {l:List Wlk} {w:Wlk} {k:Nat} (h:k<l.length) (hd:A7 l w k=false) (hi : ¬w.id<(nth .wlk l k).id):O8 l w (k+1)=O8 l w k ++ [nth .wlk l k]∧A7 l w (k+1)=false:=by
 have hp:=c1G h hd hi
 exact⟨b5Y h hp,by simp[A7];omega⟩
theorem a9z {l:List Wlk} {w:Wlk} {k:Nat} (h:k<l.length) (hd:A7 l w k=true):O8 l w (k+1)=O8 l w k ++ [nth .wlk l k]∧A7 l w (k+1)=true:=by
 refine⟨b8C h hd,?_⟩
 simp only[A7,decide_eq_true_eq]at hd ⊢
 omega
theorem c1E {l:List Wlk} {w:Wlk} {k:Nat} (h:k=l.length) (hd:A7 l w k=true):O8 l w k=insL l (C6 l w.id) [w]:=by
 simp only[A7,decide_eq_true_eq]at hd
 subst h
 unfold O8
 rw[if_pos hd]
 simp
theorem c1D {l:List Wlk} {w:Wlk} {k:Nat} (h:k=l.length) (hd:A7 l w k=false):O8 l w k ++ [w]=insL l (C6 l w.id) [w]:=by
 simp only[A7,decide_eq_false_iff_not]at hd
 have h2:=a8J l w.id
 have h3:C6 l w.id=l.length:=by omega
 subst h
 unfold O8
 rw[if_neg hd,h3]
 simp[insL]
theorem b3m {l:List Wlk} {w:Wlk} {k:Nat} (h:k<l.length) (hd:A7 l w k=false) (hi:w.id<(nth .wlk l k).id):A7 l w (k+1)=true:=(a9B h hd hi).2
theorem b3l {l:List Wlk} {w:Wlk} {k:Nat} (h:k<l.length) (hd:A7 l w k=false) (hi : ¬w.id<(nth .wlk l k).id):A7 l w (k+1)=false:=(a9A h hd hi).2
theorem b3k {l:List Wlk} {w:Wlk} {k:Nat} (h:k<l.length) (hd:A7 l w k=true):A7 l w (k+1)=true:=(a9z h hd).2
theorem b5Z (l:List Wlk) (w:Wlk):A7 l w 0=false:=by simp[A7]
theorem b3B (l:List Wlk) (w:Wlk):M4 l w=insL (E2 l w.id) (C6 (E2 l w.id) w.id) [w]:=rfl
theorem a3s (l:List Wlk) (id:Int):(E2 l id).length≤l.length:=List.length_filter_le _ _
theorem a5X (l:List Wlk) (w:Wlk):(M4 l w).length≤l.length+1:=by
 have:=a3s l w.id
 rw[M4,b1Y (a8J _ _)]
 simp;omega
def a1X (o:Ord):Bool:=decide (o.who=0∧o.seq=0∧o.kind=0∧o.dest=0∧o.n=0)
def a3W (p:Pcl):Bool:=decide (p.n=0∧p.kind=0∧a4e p.wlk=true∧p.j9=0)
def a5i (r:Rec):Bool:=decide ((r.kind=1∧O2 r.ord=true∧r.side=0∧a3W r.pcl=true∧r.n=0)∨(r.kind=2∧(r.side=0∨r.side=1)∧a1X r.ord=true∧r.n=0) ∨
 (r.kind=3∧(r.side=0∨r.side=1)∧1≤r.n∧r.n≤5000∧a1X r.ord=true∧a3W r.pcl=true))
def H4 (m:PMap) (r:Rec):Bool:=decide (s0 m=true∧a5i r=true∧(r.kind=2→I8 m r.pcl=true))
theorem I2 {m:PMap} {p:Pcl}:I8 m p=true↔s0 m=true∧0≤p.n∧p.n≤4999∧(p.kind=1∧P9 m p.wlk=true∧p.j9=0∨p.kind=2∧a4e p.wlk=true∧1≤p.j9∧p.j9≤9):=by simp[I8]
theorem c6C {m:PMap} {p:Pcl} (h:I8 m p=true):s0 m=true:=by simp[I8]at h;exact h.1
def O6 (c:Cll) (o:Ord):Bool:=u3 c.wlks o.who&&decide ((E3 c.wlks o.who).seq<o.seq)
structure CB where
 c:Cll
 ok:Bool
def E7 (c:Cll) (s:Nat):List Int:=c.ins.set s (nth .int c.ins s+1)
def y6 (m:PMap) (c:Cll) (s:Nat) (p:Pcl):CB :=
 if ¬p.n=nth .int c.ins s∨900<c.ground+p.j9 then⟨c,false⟩
 else if p.kind=2 then⟨⟨c.cell,c.wlks,c.ground+p.j9,c.outs,c.next,E7 c s⟩,true⟩
 else if 0≤k8 c.wlks p.wlk.id ∨ ¬l8 m p.wlk.pos=c.cell then⟨c,false⟩
 else⟨⟨c.cell,M4 c.wlks p.wlk,c.ground,c.outs,c.next,E7 c s⟩,true⟩
theorem d1O {m:PMap} {c:Cll} {p:Pcl} (h:s6 m c=true) (hp:I8 m p=true):IntKind.i64.wrap (c.ground+p.j9)=c.ground+p.j9:=by
 have h1:=n5 h
 rw[I2]at hp
 exact e8 (by omega) (by omega)
theorem c4f {m:PMap} {c:Cll} {s:Nat} {p:Pcl} (h:(y6 m c s p).ok=false):(y6 m c s p).c=c:=by
 unfold y6 at *
 split at * <;> (try split at *)<;>(try split at *)<;>simp_all
def R3 (c:Cll) (s:Nat) (n:Int):List (List Pcl):=c.outs.set s (A1 (nth .pcls c.outs s) n)
def G9 (c:Cll) (s:Nat) (n:Int):CB :=
 if nth .int c.next s<n∨n≤nth .int c.next s-(nth .pcls c.outs s).length then⟨c,false⟩else⟨⟨c.cell,c.wlks,c.ground,R3 c s n,c.next,c.ins⟩,true⟩
theorem c9U {c:Cll} {s:Nat} {n:Int} (h:(G9 c s n).ok=false):(G9 c s n).c=c:=by
 unfold G9 at *
 split at * <;> simp_all
theorem W6 {m:PMap} {l:List Pcl} {n:Int} (h:u6 m l n=true) (h0:0<l.length):(nth .pcl l 0).n=n-l.length:=by
 simp only[u6,Bool.and_eq_true]at h
 have:=(m4 _ _).1 h.2 0 h0
 simp[a2X]at this
 exact this.2
structure AP where
 c:Cll
 code:Int
 ok:Bool
def l7 (m:PMap) (c:Cll) (r:Rec):AP :=
 if r.kind=1 then(if O6 c r.ord=true then⟨(J0 m c r.ord).c,(J0 m c r.ord).code,true⟩else⟨c,0,false⟩)
 else if b7 m c.cell r.side = -1 then⟨c,0,false⟩
 else if r.kind=2 then⟨(y6 m c r.side.toNat r.pcl).c,0,(y6 m c r.side.toNat r.pcl).ok⟩
 else⟨(G9 c r.side.toNat r.n).c,0,(G9 c r.side.toNat r.n).ok⟩
def O7 (m:PMap) (c:Cll) (r:Rec):AP:=if H4 m r=true then l7 m c r else⟨c,0,false⟩
def F5 (m:PMap) (c:Cll) (r:Rec):AP:=if s6 m c=true∧H4 m r=true then l7 m c r else⟨U4,0,false⟩
def srt (l:List Wlk):Prop := ∀i j,i<j→j<l.length→(nth .wlk l i).id<(nth .wlk l j).id
theorem a8x {m:PMap} {l:List Wlk} (h:A5 m l=true):srt l:=by
 intro i j hij
 induction j with
 |zero=>omega
 |succ j ih =>
  intro hj
  have h1:=(m4 _ _).1 h (j+1) hj
  simp only[a3Z,Bool.and_eq_true,Bool.or_eq_true,decide_eq_true_eq,Nat.add_sub_cancel]at h1
  have h2:(nth .wlk l j).id<(nth .wlk l (j+1)).id:=h1.2.resolve_left (by omega)
  rcases Nat.lt_or_ge i j with h3|h3
  ·exact Int.lt_trans (ih h3 (by omega)) h2
  ·have:i=j:=by omega
   subst this
   exact h2
theorem b0f {l:List Wlk} {i:Nat} {w:Wlk} (h:srt l) (hw:w.id=(nth .wlk l i).id):srt (l.set i w):=by
 have hid : ∀j,(nth .wlk (l.set i w) j).id=(nth .wlk l j).id:=fun j=>by
  by_cases hj:i=j
  ·subst hj
   by_cases hi:i<l.length
   ·rw[l9 .wlk hi,hw]
   ·rw[List.set_eq_of_length_le (by omega)]
  ·rw[n6 .wlk hj]
 intro a b hab hb
 rw[hid,hid]
 rw[List.length_set]at hb
 exact h a b hab hb
theorem a8c {l:List Wlk} {i:Nat} (h:srt l) (hi:i<l.length):E2 l (nth .wlk l i).id=l.take i++l.drop (i+1):=by
 have h1 : ∀p:Wlk→Bool,l.filter p=(l.take i++(nth .wlk l i::l.drop (i+1))).filter p:=fun p=>by
  rw[l6 .wlk l i hi,List.getElem_cons_drop,List.take_append_drop]
 unfold E2
 rw[h1,List.filter_append,List.filter_cons]
 have ha:(l.take i).filter (fun w=>decide (w.id≠(nth .wlk l i).id))=l.take i:=by
  rw[List.filter_eq_self]
  intro x hx
  obtain⟨j,hj,rfl⟩:=List.getElem_of_mem hx
  rw[List.length_take]at hj
  have:=h j i (by omega) hi
  rw[l6 .wlk l j (by omega)]at this
  simp only[List.getElem_take,ne_eq,decide_eq_true_eq]
  omega
 have hb:(l.drop (i+1)).filter (fun w=>decide (w.id≠(nth .wlk l i).id))=l.drop (i+1):=by
  rw[List.filter_eq_self]
  intro x hx
  obtain⟨j,hj,rfl⟩:=List.getElem_of_mem hx
  rw[List.length_drop]at hj
  have:=h i (i+1+j) (by omega) (by omega)
  rw[l6 .wlk l (i+1+j) (by omega)]at this
  simp only[List.getElem_drop,ne_eq,decide_eq_true_eq]
  omega
 rw[ha,hb]
 simp
theorem d3L {l:List Wlk} {i:Nat} {w:Wlk} (h:srt l) (hi:i<l.length) (hw:w.id=(nth .wlk l i).id):M4 l w=l.set i w:=by
 unfold M4
 rw[hw,a8c h hi]
 have hl:(l.take i++l.drop (i+1)).length=l.length-1:=by simp;omega
 have hpos:C6 (l.take i++l.drop (i+1)) (nth .wlk l i).id=i:=by
  have hb : ∀j,j<i→V5 (nth .wlk l i).id (nth .wlk (l.take i++l.drop (i+1)) j)=false:=fun j hj=>by
   have h1:nth .wlk (l.take i++l.drop (i+1)) j=nth .wlk l j:=by
    rw[l6 .wlk _ j (by rw[hl];omega),l6 .wlk l j (by omega),List.getElem_append_left (by rw[List.length_take];omega),List.getElem_take]
   rw[h1]
   have:=h j i hj hi
   simp only[V5,decide_eq_false_iff_not]
   omega
  by_cases he:i+1<l.length
  ·have h1:nth .wlk (l.take i++l.drop (i+1)) i=nth .wlk l (i+1):=by
    rw[l6 .wlk _ i (by rw[hl];omega),l6 .wlk l (i+1) he,List.getElem_append_right (by rw[List.length_take];omega),List.getElem_drop]
    congr 1
    rw[List.length_take];omega
   have h2:=h i (i+1) (by omega) he
   have:idx (V5 (nth .wlk l i).id) (l.take i++l.drop (i+1))=i:=by
    refine b1Z (by rw[hl];omega) ?_ fun j hj => ?_
    ·rw[←l6 .wlk _ i (by rw[hl];omega),h1]
     simpa [V5]using h2
    ·rw[←l6 .wlk _ j (by rw[hl];omega)]
     exact hb j hj
   unfold C6
   rw[this,if_neg (by omega)]
   rfl
  ·have:idx (V5 (nth .wlk l i).id) (l.take i++l.drop (i+1)) = -1:=by
    refine a3f fun j hj => ?_
    rw[←l6 .wlk _ j hj]
    rw[hl]at hj
    exact hb j (by omega)
   unfold C6
   rw[this,if_pos (by omega),hl]
   omega
 rw[hpos]
 unfold insL
 rw[List.take_append_of_le_length (by rw[List.length_take];omega),List.take_take,Nat.min_self,List.drop_append_of_le_length (by rw[List.length_take];omega)]
 rw[show(l.take i).drop i = []from List.drop_eq_nil_of_le (by rw[List.length_take];omega),List.nil_append,List.set_eq_take_append_cons_drop,if_pos hi]
 simp
theorem Q6 {l:List Wlk} {id:Int} (h:u3 l id=true):(k8 l id).toNat<l.length∧0≤k8 l id:=by
 simp only[u3,decide_eq_true_eq]at h
 have:=S4 l id
 omega
theorem b6W {l:List Wlk} {id:Int}:u3 l id=false↔k8 l id<0:=by
 simp only[u3,decide_eq_false_iff_not]
 omega
theorem a4O {l:List Wlk} {id:Int} (h:u3 l id=true):E3 l id=nth .wlk l (k8 l id).toNat:=by
 unfold E3
 rw[if_pos (Q6 h).2]
theorem id_w {l:List Wlk} {id:Int} (h:u3 l id=true):(nth .wlk l (k8 l id).toNat).id=id:=a7j (Q6 h).2
theorem c4i {l:List Wlk} {who:Int} {w:Wlk} (hs:srt l) (h:u3 l who=true) (hw:w.id=who):M4 l w=l.set (k8 l who).toNat w :=
 d3L hs (Q6 h).1 (by rw[hw,id_w h])
theorem Y7 {l:List Wlk} {who x:Int} {a:Wlk} (h:u3 l who=true) (ha:a.id=who):k8 (l.set (k8 l who).toNat a) x=k8 l x:=a5m (by rw[ha,id_w h])
theorem a6v {l:List Wlk} {who x:Int} {a:Wlk} (h:u3 l who=true) (ha:a.id=who):u3 (l.set (k8 l who).toNat a) x=u3 l x:=by
 unfold u3
 rw[Y7 h ha]
theorem b5E {l:List Wlk} {who:Int} {a:Wlk} (hs:srt l) (h:u3 l who=true) (ha:a.id=who):srt (l.set (k8 l who).toNat a):=b0f hs (by rw[ha,id_w h])
theorem d4S {l:List Wlk} {who:Int} {a:Wlk} (h:u3 l who=true) (ha:a.id=who):E3 (l.set (k8 l who).toNat a) who=a:=by
 rw[a4O (by rw[a6v h ha];exact h),Y7 h ha,l9 .wlk (Q6 h).1]
theorem d6f {l:List Wlk} {who:Int} {a w:Wlk} (hs:srt l) (h:u3 l who=true) (ha:a.id=who) (hw:w.id=who):M4 (l.set (k8 l who).toNat a) w=l.set (k8 l who).toNat w:=by
 rw[c4i (b5E hs h ha) (by rw[a6v h ha];exact h) hw,Y7 h ha,List.set_set]
theorem ne_w {l:List Wlk} {who to:Int} (h:u3 l who=true) (ht:u3 l to=true) (hne:to≠who):(k8 l who).toNat≠(k8 l to).toNat:=by
 have h1:=(Q6 h).2
 have h2:=(Q6 ht).2
 exact a4w (by omega) (by omega) hne
theorem d6T {l:List Wlk} {who to:Int} {a:Wlk} (h:u3 l who=true) (ht:u3 l to=true) (hne:to≠who) (ha:a.id=who):E3 (l.set (k8 l who).toNat a) to=nth .wlk l (k8 l to).toNat:=by
 rw[a4O (by rw[a6v h ha];exact ht),Y7 h ha,n6 .wlk (ne_w h ht hne)]
theorem d7j {l:List Wlk} {who to:Int} {a v:Wlk} (hs:srt l) (h:u3 l who=true) (ht:u3 l to=true) (ha:a.id=who) (hv:v.id=to):M4 (l.set (k8 l who).toNat a) v=(l.set (k8 l who).toNat a).set (k8 l to).toNat v:=by
 rw[c4i (b5E hs h ha) (by rw[a6v h ha];exact ht) hv,Y7 h ha]
theorem b1k {l:List Wlk} {who to x:Int} {a b:Wlk} (h:u3 l who=true) (ht:u3 l to=true) (ha:a.id=who) (hb:b.id=to):k8 ((l.set (k8 l who).toNat a).set (k8 l to).toNat b) x=k8 l x:=by
 have h2:u3 (l.set (k8 l who).toNat a) to=true:=by rw[a6v h ha];exact ht
 have h3:=Y7 (x:=x) h2 hb
 rw[Y7 h ha,Y7 h ha]at h3
 exact h3
theorem c2z {l:List Wlk} {who to x:Int} {a b:Wlk} (h:u3 l who=true) (ht:u3 l to=true) (ha:a.id=who) (hb:b.id=to):u3 ((l.set (k8 l who).toNat a).set (k8 l to).toNat b) x=u3 l x:=by
 unfold u3
 rw[b1k h ht ha hb]
theorem d6d {l:List Wlk} {who to:Int} {a b:Wlk} (hs:srt l) (h:u3 l who=true) (ht:u3 l to=true) (ha:a.id=who) (hb:b.id=to):srt ((l.set (k8 l who).toNat a).set (k8 l to).toNat b):=by
 have h2:u3 (l.set (k8 l who).toNat a) to=true:=by rw[a6v h ha];exact ht
 have h3:=b5E (b5E hs h ha) h2 hb
 rw[Y7 h ha]at h3
 exact h3
theorem d4R {l:List Wlk} {who to:Int} {a b:Wlk} (h:u3 l who=true) (ht:u3 l to=true) (hne:to≠who) (ha:a.id=who) (hb:b.id=to):E3 ((l.set (k8 l who).toNat a).set (k8 l to).toNat b) who=a:=by
 rw[a4O (by rw[c2z h ht ha hb];exact h),b1k h ht ha hb,n6 .wlk (ne_w h ht hne).symm,l9 .wlk (Q6 h).1]
theorem d6e {l:List Wlk} {who to:Int} {a b w:Wlk} (hs:srt l) (h:u3 l who=true) (ht:u3 l to=true) (hne:to≠who) (ha:a.id=who) (hb:b.id=to) (hw:w.id=who) :
  M4 ((l.set (k8 l who).toNat a).set (k8 l to).toNat b) w=(l.set (k8 l to).toNat b).set (k8 l who).toNat w:=by
 rw[c4i (d6d hs h ht ha hb) (by rw[c2z h ht ha hb];exact h) hw,b1k h ht ha hb,a6Q (ne_w h ht hne)]
theorem c1i {m:PMap} {c:Cll} {o:Ord} {i:Nat} (h:s6 m c=true) (hi:i<c.wlks.length) (hd:o.dest=0):IntKind.i64.wrap ((nth .wlk c.wlks i).pos-1)=(nth .wlk c.wlks i).pos+(2 * o.dest-1):=by
 have h1:=L7 h hi
 rw[e8 (by omega) (by omega)]
 omega
theorem c1h {m:PMap} {c:Cll} {o:Ord} {i:Nat} (h:s6 m c=true) (hi:i<c.wlks.length) (ho:O2 o=true) (hk:o.kind=1) (hd : ¬o.dest=0):IntKind.i64.wrap ((nth .wlk c.wlks i).pos+1)=(nth .wlk c.wlks i).pos+(2 * o.dest-1):=by
 have h1:=L7 h hi
 rw[J9]at ho
 rw[e8 (by omega) (by omega)]
 omega
theorem d4J (l:List Wlk) (id:Int):u3 (E2 l id) id=false:=by
 rw[b6W]
 have:idx (isId id) (E2 l id) = -1:=by
  refine a3f fun j hj => ?_
  have h1 : ∀w∈E2 l id,isId id w=false:=fun w hw=>by
   simp only[E2,List.mem_filter,decide_eq_true_eq]at hw
   simpa [isId]using hw.2
  exact h1 _ (List.getElem_mem hj)
 unfold k8
 rw[this]
 omega
theorem b5F {l:List Wlk} (h:srt l) (h1 : ∀i,i<l.length→1≤(nth .wlk l i).id∧(nth .wlk l i).id≤9):l.length≤9:=by
 have hg : ∀i,i<l.length→(i:Int)+1≤(nth .wlk l i).id:=by
  intro i
  induction i with
  |zero=>intro hi;have:=(h1 0 hi).1;simpa using this
  |succ i ih =>
   intro hi
   have h2:=ih (by omega)
   have h3:=h i (i+1) (by omega) hi
   push_cast
   omega
 rcases Nat.lt_or_ge 9 l.length with hlt|hge
 ·have h2:=hg (l.length-1) (by omega)
  have h3:=(h1 (l.length-1) (by omega)).2
  omega
 ·exact hge
theorem a9j {m:PMap} {c:Cll} (h:s6 m c=true):srt c.wlks:=a8x (n5 h).1
theorem Q3 {m:PMap} {c:Cll} (h:s6 m c=true):c.wlks.length≤9:=b5F (a9j h) fun i hi=>(L7 h hi).1
theorem Q2 {r:Rec}:a5i r=true↔((r.kind=1∧O2 r.ord=true∧r.side=0∧(r.pcl.n=0∧r.pcl.kind=0∧(r.pcl.wlk.id=0∧r.pcl.wlk.pos=0∧r.pcl.wlk.j9=0∧r.pcl.wlk.seq=0∧r.pcl.wlk.last=0)∧r.pcl.j9=0)∧r.n=0) ∨
  (r.kind=2∧(r.side=0∨r.side=1)∧(r.ord.who=0∧r.ord.seq=0∧r.ord.kind=0∧r.ord.dest=0∧r.ord.n=0)∧r.n=0) ∨
  (r.kind=3∧(r.side=0∨r.side=1)∧1≤r.n∧r.n≤5000∧(r.ord.who=0∧r.ord.seq=0∧r.ord.kind=0∧r.ord.dest=0∧r.ord.n=0)∧(r.pcl.n=0∧r.pcl.kind=0∧(r.pcl.wlk.id=0∧r.pcl.wlk.pos=0∧r.pcl.wlk.j9=0∧r.pcl.wlk.seq=0∧r.pcl.wlk.last=0)∧r.pcl.j9=0))):=by
 simp[a5i,a1X,a3W,a4e]
theorem s4 (t:RT) {l:List t.ty} {i:Nat} (h:i<l.length):nth t l i∈l:=by rw[l6 t l i h];exact List.getElem_mem h
theorem a0F (t:RT) {l:List t.ty} {x:t.ty} (h:x∈l) : ∃i,i<l.length∧nth t l i=x:=by
 obtain⟨i,hi,rfl⟩:=List.getElem_of_mem h
 exact⟨i,hi,l6 t l i hi⟩
def ids (a b:Wlk):Prop:=a.id<b.id
theorem c9x {l:List Wlk}:srt l↔l.Pairwise ids:=by
 rw[List.pairwise_iff_getElem]
 constructor
 ·intro h i j hi hj hij
  have:=h i j hij hj
  rw[l6 .wlk l i hi,l6 .wlk l j hj]at this
  exact this
 ·intro h i j hij hj
  rw[l6 .wlk l i (by omega),l6 .wlk l j hj]
  exact h i j (by omega) hj hij
theorem a1x {m:PMap} {l:List Wlk}:A5 m l=true↔(∀w∈l,P9 m w=true)∧srt l:=by
 constructor
 ·intro h
  refine⟨fun w hw => ?_,a8x h⟩
  obtain⟨i,hi,rfl⟩:=a0F .wlk hw
  exact a5b h hi
 ·rintro⟨h1,h2⟩
  unfold A5
  rw[m4]
  intro i hi
  simp only[a3Z,Bool.and_eq_true,Bool.or_eq_true,decide_eq_true_eq]
  refine⟨h1 _ (s4 .wlk hi),?_⟩
  rcases Nat.eq_zero_or_pos i with h0|h0
  ·exact .inl h0
  ·exact .inr (h2 (i-1) i (by omega) hi)
def b7W (m:PMap) (cell:Int) (l:List Pcl) (n i:Int) (s:Nat):Prop :=
 u6 m l n=true∧0≤i∧i≤5000∧(b7 m cell s = -1→n=0∧i=0) ∧ ∀p∈l,p.kind=1→l8 m p.wlk.pos=b7 m cell s
theorem c0B {m:PMap} {c:Cll} {s:Nat}:N4 m c s=true↔b7W m c.cell (nth .pcls c.outs s) (nth .int c.next s) (nth .int c.ins s) s:=by
 simp only[N4,Y3,b7W,Bool.and_eq_true,decide_eq_true_eq,m4,a2i]
 constructor
 ·rintro⟨⟨h1,h2,h3,h4⟩,h5⟩
  refine⟨h1,h2,h3,h4,fun p hp hk => ?_⟩
  obtain⟨i,hi,rfl⟩:=a0F .pcl hp
  exact h5 i hi hk
 ·rintro⟨h1,h2,h3,h4,h5⟩
  exact⟨⟨h1,h2,h3,h4⟩,fun i hi hk=>h5 _ (s4 .pcl hi) hk⟩
theorem F4 {m:PMap} {c:Cll}:s6 m c=true↔(∀w∈c.wlks,P9 m w=true∧l8 m w.pos=c.cell)∧srt c.wlks∧s0 m=true∧0≤c.cell∧c.cell<m.cells∧0≤c.ground∧c.ground≤900∧c.outs.length=2∧c.next.length=2∧c.ins.length=2 ∧
  ∀s,s<2→b7W m c.cell (nth .pcls c.outs s) (nth .int c.next s) (nth .int c.ins s) s:=by
 simp only[s6,a0H,Bool.and_eq_true,decide_eq_true_eq,m4,a1x,a3Y,c0B]
 constructor
 ·rintro⟨⟨⟨⟨h1,h2⟩,h3,h4,h5,h6,h7,h8,h9,h10⟩,h11⟩,h12⟩
  refine⟨fun w hw=>⟨h1 w hw,?_⟩,h2,h3,h4,h5,h6,h7,h8,h9,h10,h12⟩
  obtain⟨i,hi,rfl⟩:=a0F .wlk hw
  exact h11 i hi
 ·rintro⟨h1,h2,h3,h4,h5,h6,h7,h8,h9,h10,h12⟩
  exact⟨⟨⟨⟨fun w hw=>(h1 w hw).1,h2⟩,h3,h4,h5,h6,h7,h8,h9,h10⟩,fun i hi=>(h1 _ (s4 .wlk hi)).2⟩,h12⟩
theorem N0 {m:PMap} {l:List Pcl} {n:Int}:u6 m l n=true↔s0 m=true∧0≤n∧n≤5000∧(l.length:Int)≤n ∧ ∀i,i<l.length→I8 m (nth .pcl l i)=true∧(nth .pcl l i).n=n-l.length+i:=by
 simp[u6,m4,a2X,and_assoc]
theorem b1J (t:RT) {l r:List t.ty} {i:Nat} (h:i<l.length):nth t (l++r) i=nth t l i:=by
 rw[l6 t (l++r) i (by rw[List.length_append];omega),l6 t l i h,List.getElem_append_left h]
theorem b1K (t:RT) {l:List t.ty} {x:t.ty}:nth t (l ++ [x]) l.length=x:=by
 rw[l6 t (l ++ [x]) l.length (by simp)]
 simp
theorem c7r (t:RT) {l:List t.ty} {k i:Nat} (h:k+i<l.length):nth t (l.drop k) i=nth t l (k+i):=by
 rw[l6 t (l.drop k) i (by rw[List.length_drop];omega),l6 t l (k+i) h,List.getElem_drop]
theorem b1o {m:PMap} {l:List Pcl} {n:Int} {p:Pcl} (h:u6 m l n=true) (hn:n<5000) (hp:I8 m p=true) (he:p.n=n):u6 m (l ++ [p]) (n+1)=true:=by
 rw[N0]at h ⊢
 obtain⟨h1,h2,h3,h4,h5⟩:=h
 have hl:(l ++ [p]).length=l.length+1:=by simp
 refine⟨h1,by omega,by omega,by rw[hl];omega,fun i hi => ?_⟩
 rw[hl]at hi ⊢
 by_cases hlt:i<l.length
 ·rw[b1J .pcl hlt]
  have:=h5 i hlt
  refine⟨this.1,by rw[this.2];omega⟩
 ·have:i=l.length:=by omega
  subst this
  have he2:nth .pcl (l ++ [p]) l.length=p:=b1K .pcl
  rw[he2]
  exact⟨hp,by rw[he];omega⟩
theorem b1p {m:PMap} {l:List Pcl} {n:Int} {k:Nat} (h:u6 m l n=true) (hk:k≤l.length):u6 m (l.drop k) n=true:=by
 rw[N0]at h ⊢
 obtain⟨h1,h2,h3,h4,h5⟩:=h
 have hl:(l.drop k).length=l.length-k:=List.length_drop
 refine⟨h1,h2,h3,by rw[hl];omega,fun i hi => ?_⟩
 rw[hl]at hi ⊢
 rw[c7r .pcl (by omega)]
 have:=h5 (k+i) (by omega)
 refine⟨this.1,by rw[this.2];omega⟩
theorem b4O : ∀(l:List Pcl) (b x:Int),(∀i,i<l.length→(nth .pcl l i).n=b+i)→b≤x→A1 l x=l.drop (x-b).toNat
 |[],b,x,_,_=>by simp[A1]
 |p::r,b,x,h,hx=>by
  have h0:p.n=b:=by simpa [nth]using h 0 (by simp)
  have hr : ∀i,i<r.length→(nth .pcl r i).n=(b+1)+i:=fun i hi=>by
   have:=h (i+1) (by simpa using hi)
   have he:nth .pcl (p::r) (i+1)=nth .pcl r i:=by simp[nth]
   rw[he]at this
   rw[this]
   omega
  by_cases hlt:b<x
  ·have ih:=b4O r (b+1) x hr (by omega)
   have e1:(x-b).toNat=(x-(b+1)).toNat+1:=by omega
   rw[e1,List.drop_succ_cons,←ih]
   simp only[A1]
   rw[List.filter_cons_of_neg]
   simp;omega
  ·have e1:(x-b).toNat=0:=by omega
   rw[e1,List.drop_zero]
   unfold A1
   rw[List.filter_eq_self]
   intro q hq
   obtain⟨i,hi,rfl⟩:=a0F .pcl hq
   rw[h i hi]
   simp;omega
theorem a7l {m:PMap} {l:List Pcl} {n x:Int} (h:u6 m l n=true) (hx:n-l.length≤x):A1 l x=l.drop (x-(n-l.length)).toNat :=
 b4O l (n-l.length) x (fun i hi=>(((N0.1 h).2.2.2.2 i hi).2)) hx
theorem b0K {l:List Wlk} (h:srt l) (p:Wlk→Bool):srt (l.filter p):=by
 rw[c9x]at *
 exact h.filter p
theorem d6g {l:List Wlk} {w:Wlk} (h:srt l) (hn : ∀x∈l,x.id≠w.id):srt (insL l (C6 l w.id) [w]):=by
 have hle:=a8J l w.id
 have h1 : ∀x∈l.take (C6 l w.id),x.id<w.id:=fun x hx=>by
  have hxl:=List.mem_of_mem_take hx
  obtain⟨j,hj,rfl⟩:=List.getElem_of_mem hx
  rw[List.length_take]at hj
  have:=(m4 _ _).1 (c4N hle (Nat.lt_irrefl (C6 l w.id))) j (by omega)
  rw[List.getElem_take]at hxl ⊢
  simp only[nab,V5,Bool.not_eq_true',decide_eq_false_iff_not]at this
  rw[l6 .wlk l j (by omega)]at this
  have:=hn _ hxl
  omega
 have h2 : ∀x∈l.drop (C6 l w.id),w.id<x.id:=fun x hx=>by
  obtain⟨j,hj,rfl⟩:=List.getElem_of_mem hx
  rw[List.length_drop]at hj
  rcases F3 (V5 w.id) l with ⟨h3,_⟩|⟨i,hi,h3,h4,_⟩
  ·unfold C6 at hj
   rw[h3]at hj
   simp at hj
  ·have he:C6 l w.id=i:=by
    unfold C6
    rw[h3,if_neg (by omega)]
    rfl
   simp only[V5,decide_eq_true_eq]at h4
   rw[List.getElem_drop]
   simp only[he]
   rcases Nat.eq_zero_or_pos j with h0|h0
   ·subst h0;exact h4
   ·have:=h i (i+j) (by omega) (by omega)
    rw[l6 .wlk l i hi,l6 .wlk l (i+j) (by omega)]at this
    omega
 rw[c9x]at h ⊢
 unfold insL
 rw[List.pairwise_append]
 refine⟨h.sublist (List.take_sublist _ _),?_,fun a ha b hb => ?_⟩
 ·simp only[List.cons_append,List.nil_append,List.pairwise_cons]
  exact⟨fun b hb=>h2 b hb,h.sublist (List.drop_sublist _ _)⟩
 ·simp only[List.cons_append,List.nil_append,List.mem_cons]at hb
  rcases hb with rfl|hb
  ·exact h1 a ha
  ·exact Int.lt_trans (h1 a ha) (h2 b hb)
theorem d1i {α : Type} {l m:List α} {n:Nat} {x : α} (h:x∈insL l n m):x∈l∨x∈m:=by
 simp only[insL,List.mem_append]at h
 rcases h with h|h|h
 ·exact .inl (List.mem_of_mem_take h)
 ·exact .inr h
 ·exact .inl (List.mem_of_mem_drop h)
theorem b6j {l:List Wlk} {id:Int} {x:Wlk} (h:x∈E2 l id):x∈l∧x.id≠id:=by
 simpa [E2]using h
theorem c4j {l:List Wlk} {w:Wlk} (h:srt l):srt (M4 l w):=d6g (b0K h _) fun x hx=>(b6j hx).2
theorem b5X {l:List Wlk} {w x:Wlk} (h:x∈M4 l w):x∈l∨x=w:=by
 rcases d1i h with h|h
 ·exact .inl (b6j h).1
 ·exact .inr (by simpa using h)
theorem c3A {l:List Wlk} {i:Nat} {w x:Wlk} (h:x∈l.set i w):x∈l∨x=w:=List.mem_or_eq_of_mem_set h
theorem c1r {m:PMap} {c:Cll} {i:Nat} {w:Wlk} {g:Int} (h:s6 m c=true) (hw:w.id=(nth .wlk c.wlks i).id) (hok:P9 m w=true) (hp:l8 m w.pos=c.cell) (hg:0≤g∧g≤900):s6 m ⟨c.cell,c.wlks.set i w,g,c.outs,c.next,c.ins⟩=true:=by
 rw[F4]at h ⊢
 obtain⟨h1,h2,h3,h4,h5,_,_,h8⟩:=h
 refine⟨fun x hx => ?_,b0f h2 hw,h3,h4,h5,hg.1,hg.2,h8⟩
 rcases c3A hx with hx|rfl
 ·exact h1 x hx
 ·exact⟨hok,hp⟩
theorem d6G {x:Int} (h:x≤5000) (h2 : ¬x=5000):x<5000:=by omega
theorem d1q {x:Int} (h:x≤5000) (h2 : ¬x=5000):x≤4999:=by omega
theorem le_succ {a b:Int} (h:a=b) (h2:a≤4999):b+1≤5000:=by omega
theorem d4r {b:Int} (h:0≤b):0≤b+1:=by omega
theorem b3P {m:PMap} {c:Cll} {s:Nat} {p:Pcl} (h:s6 m c=true) (hs:s<2) (hn : ¬nth .int c.next s=5000) (hp:I8 m ⟨nth .int c.next s,p.kind,p.wlk,p.j9⟩=true) (hsd : ¬b7 m c.cell s = -1) (hk:p.kind=1→l8 m p.wlk.pos=b7 m c.cell s) :
  (D5 c s p).length=2∧(H9 c s).length=2 ∧ ∀s',s'<2→b7W m c.cell (nth .pcls (D5 c s p) s') (nth .int (H9 c s) s') (nth .int c.ins s') s':=by
 have hside:=D3 h hs
 rw[F4]at h
 obtain⟨_,_,_,_,_,_,_,ho,hnx,hi,hsb⟩:=h
 refine⟨by simp[D5,ho],by simp[H9,hnx],fun s' hs' => ?_⟩
 have hb:=hsb s' hs'
 unfold D5 H9
 by_cases he:s=s'
 ·subst he
  rw[l9 .pcls (by omega),l9 .int (by omega)]
  obtain⟨b1,b2,b3,b4,b5⟩:=hb
  refine⟨b1o b1 (d6G hside.1.2 hn) hp rfl,b2,b3,fun hh=>absurd hh hsd,fun q hq hqk => ?_⟩
  ·simp only[List.mem_append,List.mem_singleton]at hq
   rcases hq with hq|rfl
   ·exact b5 q hq hqk
   ·exact hk hqk
 ·rw[n6 .pcls he,n6 .int he]
  exact hb
theorem b4T {m:PMap} {p d:Int} (hd:d=0∨d=1) (h1 : ¬l8 m (p+(2 * d-1)) = -1) (h0 : ¬l8 m p = -1) (h2 : ¬l8 m (p+(2 * d-1))=l8 m p):l8 m (p+(2 * d-1))=b7 m (l8 m p) d ∧ ¬b7 m (l8 m p) d = -1:=by
 obtain⟨g1,g2,g3,g4⟩:=M8 h1
 obtain⟨_,k2,k3,k4⟩:=M8 h0
 have hok:=g1
 rw[o8]at g1
 obtain⟨c,w⟩:=m
 simp only at *
 have hw:w=2∨w=3∨w=4∨w=5∨w=6∨w=7∨w=8:=by omega
 rw[g4,k4]at h2
 rw[g4,k4]
 unfold b7
 simp only[hok,true_and]
 clear g4 k4 h1 h0
 rcases hw with rfl|rfl|rfl|rfl|rfl|rfl|rfl<;>rcases hd with rfl|rfl<;>refine⟨?_,?_⟩<;>(repeat' split)<;>omega
theorem d2P {m:PMap} {c:Cll} {o:Ord} (h:s6 m c=true) (ho:O2 o=true):s6 m (J0 m c o).c=true:=by
 have hoi:=J9.1 ho
 unfold J0
 split
 ·exact h
 rename_i hneg
 have hlt:=I7 hneg
 have hid:=a7j (l:=c.wlks) (id:=o.who) (by omega)
 generalize hi:(k8 c.wlks o.who).toNat=i at *
 have hwb:=L7 h hlt
 have hwok:=(F4.1 h).1 _ (s4 .wlk hlt)
 have hwi:=z5.1 hwok.1
 have hf:=n5 h
 simp only
 generalize hw:nth .wlk c.wlks i=w at *
 split
 ·exact h
 split
 ·exact h
 rename_i hs1 hs2
 have stay : ∀(pos j9 last g:Int),l8 m pos=c.cell→0≤j9∧j9≤99→0≤last∧last≤9→0≤g∧g≤900→s6 m ⟨c.cell,c.wlks.set i ⟨w.id,pos,j9,o.seq,last⟩,g,c.outs,c.next,c.ins⟩=true:=by
  intro pos j9 last g hp hc hl hg
  refine c1r h (by rw[hw]) ?_ hp hg
  rw[z5]
  simp only
  exact⟨hwi.1,hwi.2.1,by rw[hp];omega,hc.1,hc.2,by omega,by omega,hl.1,hl.2⟩
 have hwc:l8 m w.pos=c.cell:=hwok.2
 have hco:0≤w.j9∧w.j9≤99:=⟨hwi.2.2.2.1,hwi.2.2.2.2.1⟩
 have hgr:0≤c.ground∧c.ground≤900:=⟨hf.2.2.2.2.1,hf.2.2.2.2.2.1⟩
 have fin : ∀code,0≤code∧code≤9→s6 m (I0 c i ⟨w.id,w.pos,w.j9,o.seq,w.last⟩ c.ground code).c=true:=fun code hc=>stay _ _ _ _ hwc hco hc hgr
 unfold Q8
 split
 ·unfold a0t
  simp only
  split
  ·exact fin 2 (by omega)
  split
  ·rename_i h2
   exact stay _ _ _ _ h2 hco (by omega) hgr
  split
  ·exact fin 2 (by omega)
  rename_i e1 e2 e3
  have hd:o.dest=0∨o.dest=1:=by omega
  obtain⟨g1,g2⟩:=b4T (m:=m) (p:=w.pos) hd e1 (by rw[hwc];omega) (by rw[hwc];exact e2)
  rw[hwc]at g1 g2
  have hdd:((o.dest.toNat:Nat):Int)=o.dest:=by omega
  have hside:=D3 h (s:=o.dest.toNat) (by omega)
  obtain⟨s1,s2,s3⟩:=b3P (p:=⟨0,1,⟨w.id,w.pos+(2 * o.dest-1),w.j9,o.seq,1⟩,0⟩) h (s:=o.dest.toNat) (by omega) e3 (by
   rw[I2]
   refine⟨hf.2.1,hside.1.1,d1q hside.1.2 e3,.inl ⟨rfl,?_,rfl⟩⟩
   ·rw[z5]
    exact⟨hwi.1,hwi.2.1,e1,hco.1,hco.2,by show 0≤o.seq;omega,by show o.seq≤900;omega,by show(0:Int)≤1;omega,by show(1:Int)≤9;omega⟩) (by rw[hdd];exact g2) (fun _=>by rw[hdd];exact g1)
  rw[F4]at h ⊢
  obtain⟨h1,h2,h3,h4,h5,h6,h7,h8,h9,h10,h11⟩:=h
  refine⟨fun x hx => ?_,b0K (b0f h2 (by rw[hw])) _,h3,h4,h5,h6,h7,s1,s2,h10,s3⟩
  obtain⟨hx1,hx2⟩:=b6j hx
  rcases c3A hx1 with hx1|rfl
  ·exact h1 x hx1
  ·exact absurd hid hx2
 split
 ·unfold a0v
  simp only
  split
  ·exact fin 4 (by omega)
  split
  ·exact fin 3 (by omega)
  split
  ·exact fin 5 (by omega)
  rename_i e1 e2 e3
  have hlj:=I7 e1
  have hne:o.dest≠o.who:=by omega
  have hij:=a4w hneg e1 hne
  rw[hi]at hij
  generalize hj:(k8 c.wlks o.dest).toNat=j at *
  have hvok:=(F4.1 h).1 _ (s4 .wlk hlj)
  have hvi:=z5.1 hvok.1
  have h':=c1r (i:=j) (w:=⟨(nth .wlk c.wlks j).id,(nth .wlk c.wlks j).pos,(nth .wlk c.wlks j).j9+o.n,(nth .wlk c.wlks j).seq,(nth .wlk c.wlks j).last⟩) h rfl (by
   rw[z5]
   simp only
   exact⟨hvi.1,hvi.2.1,hvi.2.2.1,by omega,by omega,hvi.2.2.2.2.2⟩) hvok.2 hgr
  refine c1r (i:=i) (w:=⟨w.id,w.pos,w.j9-o.n,o.seq,1⟩) h' (by simp only;rw[n6 .wlk (Ne.symm hij),hw]) (by
   rw[z5]
   simp only
   exact⟨hwi.1,hwi.2.1,hwi.2.2.1,by omega,by omega,by omega,by omega,by omega,by omega⟩) hwc hgr
 split
 ·unfold a0w
  simp only
  split
  ·exact fin 3 (by omega)
  split
  ·exact fin 5 (by omega)
  exact stay w.pos (w.j9-o.n) 1 (c.ground+o.n) hwc (by omega) (by omega) (by omega)
 split
 ·unfold a0u
  simp only
  split
  ·exact fin 6 (by omega)
  split
  ·exact fin 5 (by omega)
  exact stay w.pos (w.j9+o.n) 1 (c.ground-o.n) hwc (by omega) (by omega) (by omega)
 split
 ·unfold U3
  simp only
  split
  ·exact fin 7 (by omega)
  split
  ·exact fin 3 (by omega)
  split
  ·exact fin 5 (by omega)
  rename_i e1 e2 e3
  have he:J2 m w.pos o.dest=true:=by simpa using e1
  simp only[J2,decide_eq_true_eq]at he
  have hdd:((o.dest.toNat:Nat):Int)=o.dest:=by omega
  have hside:=D3 h (s:=o.dest.toNat) (by omega)
  obtain⟨s1,s2,s3⟩:=b3P (p:=⟨0,2,⟨0,0,0,0,0⟩,o.n⟩) h (s:=o.dest.toNat) (by omega) e3 (by
   rw[I2]
   exact⟨hf.2.1,hside.1.1,d1q hside.1.2 e3,.inr ⟨rfl,(show a4e ⟨0,0,0,0,0⟩=true by decide),(by show 1≤o.n;omega),(by show o.n≤9;omega)⟩⟩) (by rw[hdd,←hwc];exact he.1) (fun hk=>by cases hk)
  have h':=stay w.pos (w.j9-o.n) 1 c.ground hwc (by omega) (by omega) hgr
  rw[F4]at h' ⊢
  obtain⟨h1,h2,h3,h4,h5,h6,h7,h8,h9,h10,h11⟩:=h'
  exact⟨h1,h2,h3,h4,h5,h6,h7,s1,s2,h10,s3⟩
 ·exact fin 1 (by omega)
theorem c2V {m:PMap} {c:Cll} {s:Nat} {p:Pcl} (h:s6 m c=true) (hp:I8 m p=true) (hs : ¬b7 m c.cell s = -1):s6 m (y6 m c s p).c=true:=by
 have hs2:s<2:=by
  have:=(K5 hs).2.2.2
  omega
 have hpc:0≤p.n∧p.n≤4999∧(p.kind=1∧P9 m p.wlk=true∧p.j9=0∨p.kind=2∧1≤p.j9∧p.j9≤9):=by
  simp only[I8,decide_eq_true_eq]at hp
  refine⟨hp.2.1,hp.2.2.1,hp.2.2.2.imp id fun h=>⟨h.1,h.2.2.1,h.2.2.2⟩⟩
 have hins : ¬(¬p.n=nth .int c.ins s)→(E7 c s).length=2 ∧ ∀s',s'<2→b7W m c.cell (nth .pcls c.outs s') (nth .int c.next s') (nth .int (E7 c s) s') s':=by
  intro hn
  obtain⟨_,_,_,_,_,_,_,ho,hnx,hi,hsb⟩:=F4.1 h
  refine⟨by simp[E7,hi],fun s' hs' => ?_⟩
  obtain⟨b1,b2,b3,b4,b5⟩:=hsb s' hs'
  unfold E7
  by_cases he:s=s'
  ·subst he
   rw[l9 .int (by omega)]
   exact⟨b1,d4r b2,le_succ (by simpa using hn) hpc.2.1,fun hh=>absurd hh hs,b5⟩
  ·rw[n6 .int he]
   exact⟨b1,b2,b3,b4,b5⟩
 unfold y6
 split
 ·exact h
 rename_i e1
 obtain⟨i1,i2⟩:=hins (fun hh=>e1 (.inl hh))
 split
 ·rw[F4]at h ⊢
  obtain⟨h1,h2,h3,h4,h5,h6,h7,h8,h9,h10,h11⟩:=h
  exact⟨h1,h2,h3,h4,h5,by show 0≤c.ground+p.j9;omega,by show c.ground+p.j9≤900;omega,h8,h9,i1,i2⟩
 split
 ·exact h
 ·rename_i e2 e3
  have hw:P9 m p.wlk=true:=by
   rcases hpc.2.2 with ⟨_,h2,_⟩|⟨h2,_⟩
   ·exact h2
   ·exact absurd h2 e2
  have hpos:l8 m p.wlk.pos=c.cell:=by
   rcases Decidable.em (l8 m p.wlk.pos=c.cell)with h2|h2
   ·exact h2
   ·exact absurd (.inr h2) e3
  rw[F4]at h ⊢
  obtain⟨h1,h2,h3,h4,h5,h6,h7,h8,h9,h10,h11⟩:=h
  refine⟨fun x hx => ?_,c4j h2,h3,h4,h5,h6,h7,h8,h9,i1,i2⟩
  rcases b5X hx with hx|rfl
  ·exact h1 x hx
  ·exact⟨hw,hpos⟩
theorem c8u {m:PMap} {c:Cll} {s:Nat} {n:Int} (h:s6 m c=true) (hs:s<2):s6 m (G9 c s n).c=true:=by
 unfold G9
 split
 ·exact h
 ·rename_i e1
  rw[F4]at h ⊢
  obtain⟨h1,h2,h3,h4,h5,h6,h7,h8,h9,h10,h11⟩:=h
  refine⟨h1,h2,h3,h4,h5,h6,h7,by simp[R3,h8],h9,h10,fun s' hs' => ?_⟩
  obtain⟨b1,b2,b3,b4,b5⟩:=h11 s' hs'
  simp only[R3]
  by_cases he:s=s'
  ·subst he
   rw[l9 .pcls (by omega)]
   have hle : ¬(nth .int c.next s<n) ∧ ¬(n≤nth .int c.next s-(nth .pcls c.outs s).length):=⟨fun hh=>e1 (.inl hh),fun hh=>e1 (.inr hh)⟩
   have hd:=a7l (x:=n) b1 (by have:=hle.2;omega)
   refine⟨?_,b2,b3,b4,fun p hp=>b5 p ((List.mem_filter.1 hp).1)⟩
   rw[hd]
   have e2 : ¬ @LT.lt Int _ (nth .int c.next s) n:=hle.1
   refine b1p b1 ?_
   have e3:=(N0.1 b1).2.2.2.1
   have e4 : @LE.le Int _ ((nth .pcls c.outs s).length:Int) (nth .int c.next s):=e3
   generalize ((nth .pcls c.outs s).length)=L at *
   generalize (nth .int c.next s:Int)=N at *
   omega
  ·rw[n6 .pcls he]
   exact⟨b1,b2,b3,b4,b5⟩
theorem a2v {m:PMap} {c:Cll} {r:Rec} (h:s6 m c=true) (hr:H4 m r=true):s6 m (l7 m c r).c=true:=by
 simp only[H4,decide_eq_true_eq]at hr
 obtain⟨_,h2,h3⟩:=hr
 rw[Q2]at h2
 unfold l7
 split
 ·split
  ·exact d2P h (by
    rcases h2 with h2|h2|h2
    ·exact h2.2.1
    ·omega
    ·omega)
  ·exact h
 split
 ·exact h
 rename_i hk hsd
 have hss:(r.side.toNat:Int)=r.side:=by omega
 split
 ·rename_i hk2
  exact c2V h (h3 hk2) (by rw[hss];exact hsd)
 ·exact c8u h (by omega)
end Go.Mo
namespace Go.Sx
def St.fgs (σ : St):List Nat→St
 |[] => σ
 |k::ks=>(σ.fg k).fgs ks
end Go.Sx
namespace Go.Mo
open Go.Sx
def v8 (m:PMap) (c:Cll) (l:List Rec):Nat→Cll
 | 0=>c
 |k+1=>(l7 m (v8 m c l k) (nth .rcd l k)).c
theorem a9T (m:PMap) (c:Cll) (l:List Rec):v8 m c l 0=c:=rfl
theorem P1 (m:PMap) (c:Cll) (l:List Rec) (k:Nat):v8 m c l (k+1)=(l7 m (v8 m c l k) (nth .rcd l k)).c:=rfl
def P2 (m:PMap) (c:Cll) (l:List Rec) (k:Nat):Bool:=H4 m (nth .rcd l k)&&(l7 m (v8 m c l k) (nth .rcd l k)).ok
def a0e (m:PMap) (c:Cll) (l:List Rec):Nat:=((List.range l.length).find? fun k => !P2 m c l k).getD l.length
def a3k (m:PMap) (c:Cll) (l:List Rec):Cll:=v8 m c l (a0e m c l)
theorem a7X {m:PMap} {c:Cll} {l:List Rec} (h:s6 m c=true) : ∀ {k:Nat},m8 k (P2 m c l)=true→s6 m (v8 m c l k)=true
 | 0,_=>h
 |k+1,hk=>by
  rw[n4,Bool.and_eq_true]at hk
  simp only[P2,Bool.and_eq_true]at hk
  exact a2v (a7X h hk.1) hk.2.1
theorem c0m {m:PMap} {c:Cll} {l:List Rec} {k:Nat} (hk:k<l.length) (h:m8 k (P2 m c l)=true) (hf:P2 m c l k=false):a0e m c l=k:=by
 unfold a0e
 have h1:(List.range l.length).find? (fun k => !P2 m c l k)=some k:=List.find?_range_eq_some.2 ⟨by simp[hf],by simpa using hk,fun j hj=>by simp[(m4 _ _).1 h j hj]⟩
 rw[h1]
 rfl
theorem a9f {m:PMap} {c:Cll} {l:List Rec} {k:Nat} (hk:k=l.length) (h:m8 k (P2 m c l)=true):a0e m c l=k:=by
 subst hk
 unfold a0e
 have h1:(List.range l.length).find? (fun k => !P2 m c l k)=none:=List.find?_eq_none.2 fun j hj=>by simpa using(m4 _ _).1 h j (by simpa using hj)
 rw[h1]
 rfl
theorem b2s (m:PMap) (c:Cll) (l:List Rec):m8 (a0e m c l) (P2 m c l)=true:=by
 rw[m4]
 intro j hj
 unfold a0e at hj
 cases h:(List.range l.length).find? fun k => !P2 m c l k with
 |none =>
  rw[h]at hj
  simp at hj
  have:=List.find?_eq_none.1 h j (by simpa using hj)
  simpa using this
 |some k =>
  rw[h]at hj
  simp at hj
  have h2:=(List.find?_range_eq_some.1 h).2.2 j hj
  simpa using h2
theorem d1Y {m:PMap} {c:Cll} {l:List Rec} (h:s6 m c=true):s6 m (a3k m c l)=true:=a7X h (b2s m c l)
theorem a9e {c:Cll} {o:Ord} (h:O6 c o=true):u3 c.wlks o.who=true:=by
 simp only[O6,Bool.and_eq_true]at h
 exact h.1
theorem X7 {c:Cll} {o:Ord} (h:O6 c o=true) : ¬k8 c.wlks o.who<0∧(nth .wlk c.wlks (k8 c.wlks o.who).toNat).seq<o.seq:=by
 have h1:=a9e h
 have h2:=Q6 h1
 simp only[O6,Bool.and_eq_true,decide_eq_true_eq]at h
 rw[a4O h1]at h
 exact⟨by omega,h.2⟩
structure CN where
 c:Cll
 n:Int
def V6 (m:PMap) (c:Cll) (l:List Rec):CN:=if s6 m c=true∧l.length≤250 then⟨a3k m c l,a0e m c l⟩else⟨U4,0⟩
theorem b1R {m:PMap} {r:Rec} (h:H4 m r=true) (hk:r.kind=1):O2 r.ord=true:=by
 simp only[H4,decide_eq_true_eq]at h
 have:=Q2.1 h.2.1
 rcases this with h|h|h
 ·exact h.2.1
 ·omega
 ·omega
theorem a7L {m:PMap} {r:Rec} (h:H4 m r=true) (hk:r.kind=2):I8 m r.pcl=true:=by
 simp only[H4,decide_eq_true_eq]at h
 exact h.2.2 hk
def small (b:List Wlk) (d:List (List Pcl)):Prop:=b.length≤1000 ∧ ∀i,(nth .pcls d i).length≤5000
theorem a5d {b:List Wlk} (h:b.length≤1000):small b []:=⟨h,fun i=>by simp[nth,RT.dflt]⟩
theorem c6r {b:List Wlk} (h:b.length≤1000):small b [[],[]]:=⟨h,fun i=>by
 match i with
 | 0=>simp[nth]
 | 1=>simp[nth]
 |(n+2)=>simp[nth,RT.dflt]⟩
end Go.Mo
