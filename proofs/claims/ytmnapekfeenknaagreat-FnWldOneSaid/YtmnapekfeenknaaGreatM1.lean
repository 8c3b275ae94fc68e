/-
  Plain models of the program's functions, with no program in sight: a2X, walkers.
-/
import Derived.Test.YtmnapekfeenknaaGreatS4e
import Derived.Test.YtmnapekfeenknaaGreatS5
set_option linter.unusedVariables false
set_option linter.unusedSimpArgs false
namespace Go.Mo
open Go.Sx
theorem okI {n:Int} (h:OkA (.int .i64 fun _=>n)) : -9223372036854775808≤n∧n≤9223372036854775807:=by
 cases h with
 |int _ _ h1 h2=>exact⟨h1,h2⟩
theorem okL {t:RT} {l:List t.ty} (h:OkA (.list t fun _=>l)) (ht:t.V4=false:=by rfl):l.length≤140737488355328:=by
 cases h with
 |list _ _ h1 _ =>
  exact Nat.le_trans (Nat.le_mul_of_pos_right l.length (b6e t ht)) h1.1
theorem okB {t:RT} {l:List t.ty} (h:OkA (.list t fun _=>l)):l.length * t.bytes≤140737488355328:=by
 cases h with
 |list _ _ h1 _=>exact h1.1
theorem Z1 {k:Nat} (h:0<k) (h2:k≤140737488355328):IntKind.i64.wrap ((k:Int)-1)=((k-1:Nat):Int):=by
 rw[e9 (by omega) (by omega)];omega
theorem j4 {k:Nat} (h2:k≤140737488355328):IntKind.i64.wrap ((k:Int)+1)=((k+1:Nat):Int):=by
 rw[e9 (by omega) (by omega)];omega
def m9 (k:Nat) (f:Nat→Bool):Bool:=(List.range k).all f
theorem n8 (f:Nat→Bool):m9 0 f=true:=rfl
theorem n5 (k:Nat) (f:Nat→Bool):m9 (k+1) f=(m9 k f&&f k):=by
 simp[m9,List.range_succ]
theorem l8 (k:Nat) (f:Nat→Bool):m9 k f=true ↔ ∀i,i<k→f i=true:=by
 simp[m9]
theorem s7 {k n:Nat} {f:Nat→Bool} (h:k<n) (hf:f k=false):m9 n f=false:=by
 cases ha:m9 n f with
 |false=>rfl
 |true=>rw[(l8 n f).1 ha k h]at hf;cases hf
theorem d1g {a b:Int} (h0:0≤a) (h1:a≤9223372036854775807) (hb:0<b):IntKind.i64.wrap (a.tdiv b)=a / b:=by
 rw[Int.tdiv_eq_ediv_of_nonneg h0]
 have h2:a / b≤a:=Int.ediv_le_self b h0
 have h3:0≤a / b:=Int.ediv_nonneg h0 (by omega)
 exact e9 (by omega) (by omega)
def inR (n a b:Int):Bool:=decide (a≤n∧n≤b)
def o9 (m:PMap):Bool:=decide (2≤m.cells∧m.cells≤4∧2≤m.width∧m.width≤8)
def e8 (m:PMap) (p:Int):Int:=if o9 m=true∧0≤p∧p<m.cells * m.width then p / m.width else -1
def b7 (m:PMap) (c s:Int):Int :=
 if o9 m=true∧0≤c∧c<m.cells then(if s=0∧0<c then c-1 else if s=1∧c+1<m.cells then c+1 else -1)else -1
def B4 (m:PMap) (p s:Int):Bool :=
 decide (b7 m (e8 m p) s ≠ -1∧p=(if s=0 then e8 m p * m.width else e8 m p * m.width+m.width-1))
theorem n6 {m:PMap}:o9 m=true↔2≤m.cells∧m.cells≤4∧2≤m.width∧m.width≤8:=by simp[o9]
theorem a4g {m:PMap} (h:o9 m=true):4≤m.cells * m.width∧m.cells * m.width≤32:=by
 rw[n6]at h
 obtain⟨h1,h2,h3,h4⟩:=h
 constructor
 ·have:=Int.mul_le_mul h1 h3 (by omega) (by omega);omega
 ·have:=Int.mul_le_mul h2 h4 (by omega) (by omega);omega
theorem L7 {m:PMap} {c s:Int} (h:b7 m c s ≠ -1):o9 m=true∧0≤c∧c<m.cells∧(s=0∧0<c∨s=1∧c+1<m.cells):=by
 unfold b7 at h
 split at h
 ·rename_i h1
  refine⟨h1.1,h1.2.1,h1.2.2,?_⟩
  split at h
  ·exact .inl (by assumption)
  ·split at h
   ·exact .inr (by assumption)
   ·exact absurd rfl h
 ·exact absurd rfl h
theorem C9 {m:PMap} {p:Int} (h:e8 m p ≠ -1):o9 m=true∧0≤p∧p<m.cells * m.width∧e8 m p=p / m.width:=by
 unfold e8 at h ⊢
 split at h
 ·rename_i h1
  rw[if_pos h1]
  exact⟨h1.1,h1.2.1,h1.2.2,rfl⟩
 ·exact absurd rfl h
theorem b9E {m:PMap} {p:Int} (h:e8 m p ≠ -1):0≤e8 m p * m.width∧e8 m p * m.width≤p:=by
 obtain⟨h1,h2,h3,h4⟩:=C9 h
 rw[n6]at h1
 rw[h4]
 have h5:0≤p / m.width:=Int.ediv_nonneg h2 (by omega)
 exact⟨Int.mul_nonneg h5 (by omega),Int.ediv_mul_le p (by omega)⟩
theorem d6z {m:PMap} {p s:Int} (h:b7 m (e8 m p) s ≠ -1):e8 m (p+(2 * s-1))≠e8 m p↔p=(if s=0 then e8 m p * m.width else e8 m p * m.width+m.width-1):=by
 obtain⟨h1,h2,h3,h4⟩:=L7 h
 have h5:e8 m p ≠ -1:=by omega
 obtain⟨_,h6,h7,h8⟩:=C9 h5
 rw[n6]at h1
 obtain⟨c,w⟩:=m
 simp only at *
 have hw:w=2∨w=3∨w=4∨w=5∨w=6∨w=7∨w=8:=by omega
 have hok:o9 ⟨c,w⟩=true:=by rw[n6];exact h1
 have hc : ∀q,e8 ⟨c,w⟩ q=if 0≤q∧q<c * w then q / w else -1:=fun q=>by simp[e8,hok]
 rw[h8]at h2 h3 h4 ⊢
 rw[hc]
 clear h hok hc h5 h8
 rcases hw with rfl|rfl|rfl|rfl|rfl|rfl|rfl<;>(rcases h4 with ⟨rfl,h4⟩|⟨rfl,h4⟩<;>simp only[Int.reduceMul,Int.reduceSub,if_true,if_neg (show ¬((1:Int)=0) by decide)]<;>split<;>omega)
def a9e (w:Wlk):Bool:=decide (1≤w.id∧w.id≤9∧0≤w.j8∧w.j8≤99∧0≤w.seq∧w.seq≤900∧0≤w.last∧w.last≤9)
def S3 (m:PMap) (w:Wlk):Bool:=decide (1≤w.id∧w.id≤9∧e8 m w.pos ≠ -1∧0≤w.j8∧w.j8≤99∧0≤w.seq∧w.seq≤900∧0≤w.last∧w.last≤9)
def a4H (m:PMap) (l:List Wlk) (i:Nat):Bool:=S3 m (nth .wlk l i)&&(decide (i=0)||decide ((nth .wlk l (i-1)).id<(nth .wlk l i).id))
def x7 (m:PMap) (l:List Wlk):Bool:=m9 l.length (a4H m l)
theorem b1t {m:PMap} {l:List Wlk} {k:Nat} (h:k<l.length) (hw:S3 m (nth .wlk l k)=false):x7 m l=false:=s7 h (by simp[a4H,hw])
theorem b0k {m:PMap} {l:List Wlk} {k:Nat} (h:k<l.length) (h0:0<k) (hw:(nth .wlk l k).id≤(nth .wlk l (k-1)).id):x7 m l=false:=s7 h (by
 have : ¬(nth .wlk l (k-1)).id<(nth .wlk l k).id:=by omega
 have h1 : ¬k=0:=by omega
 simp[a4H,this,h1])
def flt {α : Type} (p : α → Bool) (l:List α) (k:Nat):List α := (l.take k).filter p
theorem a8P {α : Type} (p : α → Bool) (l:List α):flt p l 0 = []:=by simp[flt]
theorem b1m {α : Type} (p : α → Bool) (l:List α):flt p l l.length=l.filter p:=by simp[flt]
theorem b1l {α : Type} (p : α → Bool) (l:List α) (k:Nat):(flt p l k).length≤k:=by
 unfold flt
 exact Nat.le_trans (List.length_filter_le _ _) (by simp;omega)
theorem a1o (t:RT) (p:t.ty→Bool) (l:List t.ty) (k:Nat) (h:k<l.length):flt p l (k+1)=if p (nth t l k)=true then flt p l k ++ [nth t l k]else flt p l k:=by
 unfold flt
 rw[List.take_succ_eq_append_getElem h,List.filter_append,k9 t l k h]
 cases hp:p l[k]<;>simp[hp]
def F4 (l:List Wlk) (id:Int):List Wlk:=l.filter fun w=>decide (w.id≠id)
def U2 (l:List Wlk) (id:Int) (k:Nat):List Wlk:=flt (fun w=>decide (w.id≠id)) l k
theorem a6r (l:List Wlk) (id:Int):U2 l id 0 = []:=a8P _ _
theorem a7z {l:List Wlk} {id:Int} {k:Nat} (h:k=l.length):U2 l id k=F4 l id:=by subst h;exact b1m _ _
theorem a7y (l:List Wlk) (id:Int) (k:Nat):(U2 l id k).length≤k:=b1l _ _ _
theorem a7x {l:List Wlk} {id:Int} {k:Nat} (h:k<l.length) (hn:(nth .wlk l k).id≠id):U2 l id (k+1)=U2 l id k ++ [nth .wlk l k]:=by
 unfold U2
 rw[a1o .wlk _ _ _ h,if_pos (by simpa using hn)]
theorem b0j {l:List Wlk} {id:Int} {k:Nat} (h:k<l.length) (hn:(nth .wlk l k).id=id):U2 l id (k+1)=U2 l id k:=by
 unfold U2
 rw[a1o .wlk _ _ _ h,if_neg (by simp[hn])]
def idx {α : Type} (p : α → Bool) (l:List α):Int:=match l.findIdx? p with
 |some i=>(i:Int)
 |none => -1
theorem a7g {α : Type} {p : α → Bool} {l:List α} {k:Nat} (h:k<l.length) (hp:p l[k]=true) (hn : ∀j (hj:j<k),p (l[j]'(by omega))=false):idx p l=k:=by
 have:l.findIdx? p=some k:=by
  rw[List.findIdx?_eq_some_iff_getElem]
  exact⟨h,hp,fun j hj=>by simp[hn j hj]⟩
 simp[idx,this]
theorem a1l {α : Type} {p : α → Bool} {l:List α} (hn : ∀j (hj:j<l.length),p l[j]=false):idx p l = -1:=by
 have:l.findIdx? p=none:=by
  rw[List.findIdx?_eq_none_iff]
  intro x hx
  obtain⟨j,hj,rfl⟩:=List.getElem_of_mem hx
  exact hn j hj
 simp[idx,this]
theorem C6 {α : Type} (p : α → Bool) (l:List α):idx p l = -1∧(∀x∈l,p x=false) ∨ ∃k,∃h:k<l.length,idx p l=(k:Int)∧p l[k]=true ∧ ∀j (hj:j<k),p (l[j]'(by omega))=false:=by
 unfold idx
 cases hf:l.findIdx? p with
 |none =>
  rw[List.findIdx?_eq_none_iff]at hf
  exact .inl ⟨rfl,fun x hx=>by simpa using hf x hx⟩
 |some k =>
  rw[List.findIdx?_eq_some_iff_getElem]at hf
  obtain⟨h,h1,h2⟩:=hf
  exact .inr ⟨k,h,rfl,h1,fun j hj=>by simpa using h2 j hj⟩
def isId (id:Int) (w:Wlk):Bool:=decide (w.id=id)
def l6 (l:List Wlk) (id:Int):Int:=idx (isId id) l
def nid (l:List Wlk) (id:Int) (j:Nat):Bool := !isId id (nth .wlk l j)
theorem b9H {l:List Wlk} {id:Int} {k:Nat} (h:m9 k (nid l id)=true) (hk:k<l.length) (hi:(nth .wlk l k).id=id):l6 l id=k:=by
 rw[k9 .wlk l k hk]at hi
 refine a7g hk (by simp[isId,hi]) fun j hj => ?_
 have:=(l8 k _).1 h j hj
 simp only[nid,Bool.not_eq_true']at this
 rw[k9 .wlk l j (by omega)]at this
 exact this
theorem b2d {l:List Wlk} {id:Int} {k:Nat} (h:m9 k (nid l id)=true) (hk:k=l.length):l6 l id = -1:=by
 subst hk
 refine a1l fun j hj => ?_
 have:=(l8 _ _).1 h j hj
 simp only[nid,Bool.not_eq_true']at this
 rw[k9 .wlk l j hj]at this
 exact this
theorem Q0 (l:List Wlk) (id:Int) : -1≤l6 l id∧l6 l id<l.length:=by
 rcases C6 (isId id) l with ⟨h,_⟩|⟨k,hk,h,_⟩
 ·unfold l6;rw[h];omega
 ·unfold l6;rw[h];omega
theorem a7Z {l:List Wlk} {id:Int} (h:0≤l6 l id):(nth .wlk l (l6 l id).toNat).id=id:=by
 rcases C6 (isId id) l with ⟨h',_⟩|⟨k,hk,h',h2,_⟩
 ·unfold l6 at h;omega
 ·unfold l6;rw[h']
  rw[Int.toNat_natCast,k9 .wlk l k hk]
  simpa [isId]using h2
def F5 (l:List Wlk) (id:Int):Wlk:=if 0≤l6 l id then nth .wlk l (l6 l id).toNat else⟨0,0,0,0,0⟩
def u4 (l:List Wlk) (id:Int):Bool:=decide (0≤l6 l id)
def y9 (o:Ord):Bool:=decide (1≤o.who∧o.who≤9∧1≤o.seq∧o.seq≤900 ∧
 ((o.kind=1∧0≤o.dest∧o.dest≤1∧o.n=0)∨(o.kind=2∧1≤o.dest∧o.dest≤9∧o.dest≠o.who∧1≤o.n∧o.n≤9)∨((o.kind=3∨o.kind=4)∧o.dest=0∧1≤o.n∧o.n≤9) ∨
  (o.kind=5∧0≤o.dest∧o.dest≤1∧1≤o.n∧o.n≤9)∨(o.kind=6∧o.dest=0∧o.n=0)))
def a4M (w:Wlk):Bool:=decide (w.id=0∧w.pos=0∧w.j8=0∧w.seq=0∧w.last=0)
def a9z (p:Pcl):Bool:=decide (0≤p.n∧p.n≤4999∧(p.kind=1∧p.j8=0∨p.kind=2∧a4M p.wlk=true∧1≤p.j8∧p.j8≤9))
def J8 (m:PMap) (p:Pcl):Bool:=decide (o9 m=true∧0≤p.n∧p.n≤4999∧(p.kind=1∧S3 m p.wlk=true∧p.j8=0∨p.kind=2∧a4M p.wlk=true∧1≤p.j8∧p.j8≤9))
def a3B (m:PMap) (l:List Pcl) (next:Int) (i:Nat):Bool:=J8 m (nth .pcl l i)&&decide ((nth .pcl l i).n=next-l.length+i)
def u6 (m:PMap) (l:List Pcl) (next:Int):Bool:=decide (o9 m=true∧0≤next∧next≤5000∧(l.length:Int)≤next)&&m9 l.length (a3B m l next)
theorem a6v {m:PMap} {l:List Pcl} {next:Int} {k:Nat} (h:k<l.length) (hw:J8 m (nth .pcl l k)=false):u6 m l next=false:=by
 have:=s7 (f:=a3B m l next) h (by simp[a3B,hw])
 simp[u6,this]
theorem a5f {m:PMap} {l:List Pcl} {next:Int} {k:Nat} (h:k<l.length) (hw : ¬(nth .pcl l k).n=next-l.length+k):u6 m l next=false:=by
 have:=s7 (f:=a3B m l next) h (by simp[a3B,hw])
 simp[u6,this]
def A3 (l:List Pcl) (n:Int):List Pcl:=l.filter fun p=>decide (n≤p.n)
def Q1 (l:List Pcl) (n:Int) (k:Nat):List Pcl:=flt (fun p=>decide (n≤p.n)) l k
theorem a5g (l:List Pcl) (n:Int):Q1 l n 0 = []:=a8P _ _
theorem a6y {l:List Pcl} {n:Int} {k:Nat} (h:k=l.length):Q1 l n k=A3 l n:=by subst h;exact b1m _ _
theorem a6x (l:List Pcl) (n:Int) (k:Nat):(Q1 l n k).length≤k:=b1l _ _ _
theorem a6w {l:List Pcl} {n:Int} {k:Nat} (h:k<l.length) (hn:n≤(nth .pcl l k).n):Q1 l n (k+1)=Q1 l n k ++ [nth .pcl l k]:=by
 unfold Q1
 rw[a1o .pcl _ _ _ h,if_pos (by simpa using hn)]
theorem a8c {l:List Pcl} {n:Int} {k:Nat} (h:k<l.length) (hn:(nth .pcl l k).n<n):Q1 l n (k+1)=Q1 l n k:=by
 unfold Q1
 rw[a1o .pcl _ _ _ h,if_neg (by simpa using hn)]
structure CllB (c:Cll):Prop where
 w:c.wlks.length * 40≤140737488355328
 o:c.outs.length * 24≤140737488355328
 oi : ∀i,i<c.outs.length→(nth .pcls c.outs i).length * 64≤140737488355328
 n:c.next.length * 8≤140737488355328
 i:c.ins.length * 8≤140737488355328
 cell : -9223372036854775808≤c.cell∧c.cell≤9223372036854775807
 ground : -9223372036854775808≤c.ground∧c.ground≤9223372036854775807
theorem b2A {c:Cll} (h : ∀a∈(PT.row .cll).encA (fun _=>c),OkA a):CllB c:=by
 have h1:=okI (h _ (.head _))
 have h2:=okB (h _ (.tail _ (.head _)))
 have h3:=okI (h _ (.tail _ (.tail _ (.head _))))
 have h4:=h _ (.tail _ (.tail _ (.tail _ (.head _))))
 have h5:=okB (h _ (.tail _ (.tail _ (.tail _ (.tail _ (.head _))))))
 have h6:=okB (h _ (.tail _ (.tail _ (.tail _ (.tail _ (.tail _ (.head _)))))))
 refine⟨h2,okB h4,fun i hi => ?_,h5,h6,h1,h3⟩
 cases h4 with
 |list _ _ _ g =>
  have:=g i 0 _ hi rfl
  exact okB this
theorem M6 (t:RT) (l:List t.ty) (k:Nat) (h:k<l.length):l.take (k+1)=l.take k ++ [nth t l k]:=by
 rw[List.take_succ_eq_append_getElem h,k9 t l k h]
def pre {α : Type} (l:List α) (k:Nat):List α := l.take k
theorem X4 {α : Type} (l:List α):pre l 0 = []:=by simp[pre]
theorem a1a {α : Type} {l:List α} {k:Nat} (h:k=l.length):pre l k=l:=by subst h;simp[pre]
theorem J7 (t:RT) {l:List t.ty} {k:Nat} (h:k<l.length):pre l (k+1)=pre l k ++ [nth t l k]:=M6 t l k h
theorem a0Z {α : Type} (l:List α) (k:Nat):(pre l k).length≤k:=by simp[pre];omega
def a2C (m:PMap) (there:Int) (l:List Pcl) (i:Nat):Bool:=decide ((nth .pcl l i).kind=1→e8 m (nth .pcl l i).wlk.pos=there)
def a0g (m:PMap) (c:Cll) (s:Nat):Bool:=decide (u6 m (nth .pcls c.outs s) (nth .int c.next s)=true∧0≤nth .int c.ins s∧nth .int c.ins s≤5000∧(b7 m c.cell s = -1→nth .int c.next s=0∧nth .int c.ins s=0))
def O0 (m:PMap) (c:Cll) (s:Nat):Bool:=a0g m c s&&m9 (nth .pcls c.outs s).length (a2C m (b7 m c.cell s) (nth .pcls c.outs s))
def a4G (m:PMap) (c:Cll) (i:Nat):Bool:=decide (e8 m (nth .wlk c.wlks i).pos=c.cell)
def a1d (m:PMap) (c:Cll):Bool:=decide (x7 m c.wlks=true∧o9 m=true∧0≤c.cell∧c.cell<m.cells∧0≤c.ground∧c.ground≤900∧c.outs.length=2∧c.next.length=2∧c.ins.length=2)
def s5 (m:PMap) (c:Cll):Bool:=a1d m c&&m9 c.wlks.length (a4G m c)&&m9 2 (O0 m c)
theorem b3F {m:PMap} {c:Cll} {k:Nat} (h:k<c.wlks.length) (hw : ¬e8 m (nth .wlk c.wlks k).pos=c.cell):s5 m c=false:=by
 have:=s7 (f:=a4G m c) h (by simp[a4G,hw])
 simp[s5,this]
theorem b3E {m:PMap} {c:Cll} {k:Nat} (h:k<2) (hw:O0 m c k=false):s5 m c=false:=by
 have:=s7 (f:=O0 m c) h hw
 simp[s5,this]
theorem b0R {m:PMap} {c:Cll} {s k:Nat} (h:k<(nth .pcls c.outs s).length) (h1:(nth .pcl (nth .pcls c.outs s) k).kind=1) (hw : ¬e8 m (nth .pcl (nth .pcls c.outs s) k).wlk.pos=b7 m c.cell s):O0 m c s=false:=by
 have:=s7 (f:=a2C m (b7 m c.cell s) (nth .pcls c.outs s)) h (by simp[a2C,h1,hw])
 simp[O0,this]
theorem b4m {m:PMap} {l:List Pcl} {n:Int} (h:u6 m l n=true):(l.length:Int)≤n:=by
 simp[u6]at h
 omega
theorem b4v {m:PMap} {c:Cll} {s:Nat} (h:a0g m c s=true) (hn:b7 m c.cell s = -1):O0 m c s=true:=by
 have h':=h
 simp only[a0g,decide_eq_true_eq]at h'
 obtain⟨h1,_,_,h4⟩:=h'
 have h5:=b4m h1
 have h6 : @Eq Int (nth .int c.next s) 0:=(h4 hn).1
 rw[h6]at h5
 have:(nth .pcls c.outs s).length=0:=by omega
 simp[O0,h,this,n8]
def c4z (m:PMap) (c:Cll) (s k:Nat):Prop:=s<2∧a1d m c=true∧m9 c.wlks.length (a4G m c)=true∧m9 s (O0 m c)=true∧a0g m c s=true∧k≤(nth .pcls c.outs s).length∧m9 k (a2C m (b7 m c.cell s) (nth .pcls c.outs s))=true
theorem a7r {m:PMap} {c:Cll} (h:s5 m c=true):a1d m c=true∧m9 c.wlks.length (a4G m c)=true∧m9 2 (O0 m c)=true:=by
 simpa [s5,and_assoc]using h
theorem o7 {m:PMap} {c:Cll} (h:s5 m c=true):x7 m c.wlks=true∧o9 m=true∧0≤c.cell∧c.cell<m.cells∧0≤c.ground∧c.ground≤900∧c.outs.length=2∧c.next.length=2∧c.ins.length=2:=by
 have:=(a7r h).1
 simpa [a1d]using this
theorem s8 {m:PMap} {w:Wlk}:S3 m w=true↔(1≤w.id∧w.id≤9∧e8 m w.pos ≠ -1∧0≤w.j8∧w.j8≤99∧0≤w.seq∧w.seq≤900∧0≤w.last∧w.last≤9):=by simp[S3]
theorem a3l {m:PMap} {l:List Wlk} (h:x7 m l=true) {i:Nat} (hi:i<l.length):S3 m (nth .wlk l i)=true:=by
 have:=(l8 _ _).1 h i hi
 simp[a4H]at this
 exact this.1
theorem b9D {m:PMap} {p:Int} (h:e8 m p ≠ -1):0≤p∧p<32:=by
 obtain⟨h1,h2,h3,_⟩:=C9 h
 have:=(a4g h1).2
 omega
theorem K9 {m:PMap} {c:Cll} (h:s5 m c=true) {i:Nat} (hi:i<c.wlks.length) :
  (1≤(nth .wlk c.wlks i).id∧(nth .wlk c.wlks i).id≤9)∧(0≤(nth .wlk c.wlks i).pos∧(nth .wlk c.wlks i).pos<32)∧(0≤(nth .wlk c.wlks i).j8∧(nth .wlk c.wlks i).j8≤99) ∧
   (0≤(nth .wlk c.wlks i).seq∧(nth .wlk c.wlks i).seq≤900)∧(0≤(nth .wlk c.wlks i).last∧(nth .wlk c.wlks i).last≤9)∧e8 m (nth .wlk c.wlks i).pos=c.cell:=by
 obtain⟨h1,h2,_⟩:=a7r h
 have h3:=s8.1 (a3l (o7 h).1 hi)
 have h4:=(l8 _ _).1 h2 i hi
 simp[a4G]at h4
 have h5:=b9D h3.2.2.1
 exact⟨⟨h3.1,h3.2.1⟩,h5,⟨h3.2.2.2.1,h3.2.2.2.2.1⟩,⟨h3.2.2.2.2.2.1,h3.2.2.2.2.2.2.1⟩,h3.2.2.2.2.2.2.2,h4⟩
theorem E1 {m:PMap} {c:Cll} (h:s5 m c=true) {s:Nat} (hs:s<2) :
  (0≤nth .int c.next s∧nth .int c.next s≤5000)∧(0≤nth .int c.ins s∧nth .int c.ins s≤5000)∧((nth .pcls c.outs s).length:Int)≤nth .int c.next s∧u6 m (nth .pcls c.outs s) (nth .int c.next s)=true:=by
 obtain⟨_,_,h3⟩:=a7r h
 have h4:=(l8 _ _).1 h3 s hs
 simp only[O0,a0g,Bool.and_eq_true,decide_eq_true_eq]at h4
 have h5:=h4.1.1
 simp only[u6,Bool.and_eq_true,decide_eq_true_eq]at h5
 exact⟨⟨h5.1.2.1,h5.1.2.2.1⟩,⟨h4.1.2.1,h4.1.2.2.1⟩,h5.1.2.2.2,h4.1.1⟩
theorem G6 {o:Ord}:y9 o=true↔(1≤o.who∧o.who≤9∧1≤o.seq∧o.seq≤900 ∧
 ((o.kind=1∧0≤o.dest∧o.dest≤1∧o.n=0)∨(o.kind=2∧1≤o.dest∧o.dest≤9∧o.dest≠o.who∧1≤o.n∧o.n≤9)∨((o.kind=3∨o.kind=4)∧o.dest=0∧1≤o.n∧o.n≤9) ∨
  (o.kind=5∧0≤o.dest∧o.dest≤1∧1≤o.n∧o.n≤9)∨(o.kind=6∧o.dest=0∧o.n=0))):=by simp[y9]
theorem j9 (t:RT) {l:List t.ty} {i:Nat} {x:t.ty} (h:i<l.length):nth t (l.set i x) i=x:=by
 simp[nth,List.getD,h]
theorem m5 (t:RT) {l:List t.ty} {i j:Nat} {x:t.ty} (h:i≠j):nth t (l.set i x) j=nth t l j:=by
 simp[nth,List.getD,List.getElem?_set_ne h]
theorem z8 (t:RT) (l:Th (List t.ty)) (i:Th Int) (e:Th t.ty) (u:Unit):C5 t l i e u=(l ()).set (i ()).toNat (e ()):=rfl
theorem F6 {l:List Wlk} {id:Int} (h : ¬l6 l id<0):(l6 l id).toNat<l.length:=by
 have:=Q0 l id
 omega
theorem a3A {l:List Wlk} {a b:Int} (ha : ¬l6 l a<0) (hb : ¬l6 l b<0) (h:b≠a):(l6 l a).toNat≠(l6 l b).toNat:=by
 intro he
 have h1:=a7Z (l:=l) (id:=a) (by omega)
 have h2:=a7Z (l:=l) (id:=b) (by omega)
 rw[he,h2]at h1
 exact h h1
theorem a0l {o:Ord} (h:y9 o=true) (h2:o.kind=2):o.dest≠o.who:=by
 rw[G6]at h
 omega
theorem a5O {m:PMap} {c:Cll} {o:Ord} {i:Nat} (h:s5 m c=true) (hi:i<c.wlks.length) (ho:y9 o=true) (hk:o.kind=1):IntKind.i64.wrap ((nth .wlk c.wlks i).pos+(2 * o.dest-1))=(nth .wlk c.wlks i).pos+(2 * o.dest-1):=by
 have h1:=K9 h hi
 rw[G6]at ho
 exact e9 (by omega) (by omega)
theorem a2a {α : Type} {l:List α} {i j:Nat} {a b c : α} (h:i≠j):((l.set i a).set j b).set i c=(l.set j b).set i c:=by
 rw[List.set_comm _ _ h,List.set_set]
theorem b5F {α : Type} {p : α → Bool} : ∀ {l k:List α},l.map p=k.map p→idx p l=idx p k:=by
 intro l k h
 have h2 : ∀(l:List α),l.findIdx? p=(l.map p).findIdx? id:=by
  intro l
  induction l with
  |nil=>rfl
  |cons x r ih=>simp only[List.map_cons,List.findIdx?_cons,id,ih]
 unfold idx
 rw[h2 l,h2 k,h]
theorem a8A {α β : Type} (f : α → β) {l:List α} {i:Nat} {x : α} (h : ∀y,l[i]? = some y→f x=f y):(l.set i x).map f=l.map f:=by
 apply List.ext_getElem?
 intro j
 by_cases hj:i=j
 ·subst hj
  simp only[List.getElem?_map,List.getElem?_set_self']
  cases hy:l[i]? with
  |none=>simp
  |some y=>simp[h y hy]
 ·simp[List.getElem?_set_ne hj]
theorem a3z {l:List Wlk} {i:Nat} {w:Wlk} {id:Int} (h:w.id=(nth .wlk l i).id):l6 (l.set i w) id=l6 l id:=by
 unfold l6
 refine b5F (a8A _ fun y hy => ?_)
 have:nth .wlk l i=y:=by simp[nth,List.getD,hy]
 rw[this]at h
 simp[isId,h]
structure CD where
 c:Cll
 code:Int
def I1 (c:Cll) (i:Nat) (w:Wlk) (g:Int) (code:Int):CD:=⟨⟨c.cell,c.wlks.set i ⟨w.id,w.pos,w.j8,w.seq,code⟩,g,c.outs,c.next,c.ins⟩,code⟩
def D2 (c:Cll) (s:Nat) (p:Pcl):List (List Pcl):=c.outs.set s (nth .pcls c.outs s ++ [⟨nth .int c.next s,p.kind,p.wlk,p.j8⟩])
def H7 (c:Cll) (s:Nat):List Int:=c.next.set s (nth .int c.next s+1)
def a0z (m:PMap) (c:Cll) (i:Nat) (w:Wlk) (o:Ord):CD :=
 if e8 m (w.pos+(2 * o.dest-1)) = -1 then I1 c i w c.ground 2
 else if e8 m (w.pos+(2 * o.dest-1))=c.cell then I1 c i ⟨w.id,w.pos+(2 * o.dest-1),w.j8,w.seq,w.last⟩ c.ground 1
 else if nth .int c.next o.dest.toNat=5000 then I1 c i w c.ground 2
 else⟨⟨c.cell,F4 (c.wlks.set i w) o.who,c.ground,D2 c o.dest.toNat ⟨0,1,⟨w.id,w.pos+(2 * o.dest-1),w.j8,w.seq,1⟩,0⟩,H7 c o.dest.toNat,c.ins⟩,1⟩
def a0B (c:Cll) (i:Nat) (w:Wlk) (o:Ord):CD :=
 if l6 c.wlks o.dest<0 then I1 c i w c.ground 4
 else if w.j8<o.n then I1 c i w c.ground 3
 else if 99<(nth .wlk c.wlks (l6 c.wlks o.dest).toNat).j8+o.n then I1 c i w c.ground 5
 else
  let v:=nth .wlk c.wlks (l6 c.wlks o.dest).toNat
  ⟨⟨c.cell,(c.wlks.set (l6 c.wlks o.dest).toNat ⟨v.id,v.pos,v.j8+o.n,v.seq,v.last⟩).set i ⟨w.id,w.pos,w.j8-o.n,w.seq,1⟩,c.ground,c.outs,c.next,c.ins⟩,1⟩
def a0C (c:Cll) (i:Nat) (w:Wlk) (o:Ord):CD :=
 if w.j8<o.n then I1 c i w c.ground 3 else if 900<c.ground+o.n then I1 c i w c.ground 5 else I1 c i ⟨w.id,w.pos,w.j8-o.n,w.seq,w.last⟩ (c.ground+o.n) 1
def a0A (c:Cll) (i:Nat) (w:Wlk) (o:Ord):CD :=
 if c.ground<o.n then I1 c i w c.ground 6 else if 99<w.j8+o.n then I1 c i w c.ground 5 else I1 c i ⟨w.id,w.pos,w.j8+o.n,w.seq,w.last⟩ (c.ground-o.n) 1
def U0 (m:PMap) (c:Cll) (i:Nat) (w:Wlk) (o:Ord):CD :=
 if B4 m w.pos o.dest=false then I1 c i w c.ground 7
 else if w.j8<o.n then I1 c i w c.ground 3
 else if nth .int c.next o.dest.toNat=5000 then I1 c i w c.ground 5
 else⟨⟨c.cell,c.wlks.set i ⟨w.id,w.pos,w.j8-o.n,w.seq,1⟩,c.ground,D2 c o.dest.toNat ⟨0,2,⟨0,0,0,0,0⟩,o.n⟩,H7 c o.dest.toNat,c.ins⟩,1⟩
def S1 (m:PMap) (c:Cll) (i:Nat) (w:Wlk) (o:Ord):CD :=
 if o.kind=1 then a0z m c i w o
 else if o.kind=2 then a0B c i w o
 else if o.kind=3 then a0C c i w o
 else if o.kind=4 then a0A c i w o
 else if o.kind=5 then U0 m c i w o
 else I1 c i w c.ground 1
def I8 (m:PMap) (c:Cll) (o:Ord):CD :=
 if l6 c.wlks o.who<0 then⟨c,9⟩
 else
  let w:=nth .wlk c.wlks (l6 c.wlks o.who).toNat
  if o.seq<w.seq then⟨c,8⟩
  else if o.seq=w.seq then⟨c,w.last⟩
  else S1 m c (l6 c.wlks o.who).toNat ⟨w.id,w.pos,w.j8,o.seq,w.last⟩ o
def O1:Cll:=⟨0,[],0,[],[],[]⟩
def a4C (m:PMap) (c:Cll) (o:Ord):CD:=if s5 m c=true∧y9 o=true then I8 m c o else⟨O1,0⟩
def X8 (id:Int) (w:Wlk):Bool:=decide (id<w.id)
def nab (l:List Wlk) (id:Int) (j:Nat):Bool := !X8 id (nth .wlk l j)
def D4 (l:List Wlk) (id:Int):Nat:=if idx (X8 id) l<0 then l.length else(idx (X8 id) l).toNat
def N3 (l:List Wlk) (w:Wlk):List Wlk:=insL (F4 l w.id) (D4 (F4 l w.id) w.id) [w]
theorem c1P (l:List Wlk) (id:Int) : -1≤idx (X8 id) l∧idx (X8 id) l<l.length:=by
 rcases C6 (X8 id) l with ⟨h,_⟩|⟨k,hk,h,_⟩<;>rw[h]<;>omega
theorem a9w (l:List Wlk) (id:Int):D4 l id≤l.length:=by
 have:=c1P l id
 unfold D4
 split<;>omega
theorem c1Q {l:List Wlk} {id:Int} {k:Nat} (h:m9 k (nab l id)=true) (hk:k<l.length) (hi:id<(nth .wlk l k).id):idx (X8 id) l=k:=by
 rw[k9 .wlk l k hk]at hi
 refine a7g hk (by simp[X8,hi]) fun j hj => ?_
 have:=(l8 k _).1 h j hj
 simp only[nab,Bool.not_eq_true']at this
 rw[k9 .wlk l j (by omega)]at this
 exact this
theorem c4h {l:List Wlk} {id:Int} {k:Nat} (h:m9 k (nab l id)=true) (hk:k=l.length):idx (X8 id) l = -1:=by
 subst hk
 refine a1l fun j hj => ?_
 have:=(l8 _ _).1 h j hj
 simp only[nab,Bool.not_eq_true']at this
 rw[k9 .wlk l j hj]at this
 exact this
def Q7 (l:List Wlk) (w:Wlk) (k:Nat):List Wlk:=if D4 l w.id<k then insL (l.take k) (D4 l w.id) [w]else l.take k
def A9 (l:List Wlk) (w:Wlk) (k:Nat):Bool:=decide (D4 l w.id<k)
theorem c2y (l:List Wlk) (w:Wlk):Q7 l w 0 = []:=by simp[Q7]
theorem c7B (l:List Wlk) (w:Wlk) (k:Nat):(Q7 l w k).length≤k+1:=by
 unfold Q7
 split
 ·simp[insL];omega
 ·simp;omega
theorem c2z {l:List Wlk} {w:Wlk} {k:Nat} (h:A9 l w k=false):(Q7 l w k).length≤k:=by
 simp only[A9,decide_eq_false_iff_not]at h
 unfold Q7
 rw[if_neg h,List.length_take]
 omega
theorem a6I {l:List Wlk} {k:Nat} (h:k<l.length):l.take (k+1)=l.take k ++ [nth .wlk l k]:=M6 .wlk l k h
theorem b9w {l:List Wlk} {w:Wlk} {k:Nat} (h:k<l.length) (hd:A9 l w k=true):Q7 l w (k+1)=Q7 l w k ++ [nth .wlk l k]:=by
 simp only[A9,decide_eq_true_eq]at hd
 unfold Q7
 rw[if_pos (by omega),if_pos hd,a6I h]
 simp only[insL]
 rw[List.take_append_of_le_length (by rw[List.length_take];omega),List.drop_append_of_le_length (by rw[List.length_take];omega)]
 simp
theorem c2A {l:List Wlk} {w:Wlk} {k:Nat} (h:k<l.length) (hd:A9 l w k=false) (hi:w.id<(nth .wlk l k).id):D4 l w.id=k→Q7 l w (k+1)=Q7 l w k ++ [w] ++ [nth .wlk l k]:=by
 intro hp
 unfold Q7
 rw[if_pos (by omega),if_neg (by omega),a6I h,hp]
 simp only[insL]
 rw[List.take_append_of_le_length (by rw[List.length_take];omega),List.drop_append_of_le_length (by rw[List.length_take];omega)]
 simp[List.take_take]
theorem b6X {l:List Wlk} {w:Wlk} {k:Nat} (h:k<l.length) (hp : ¬D4 l w.id<k+1):Q7 l w (k+1)=Q7 l w k ++ [nth .wlk l k]:=by
 unfold Q7
 rw[if_neg hp,if_neg (by omega),a6I h]
theorem c5J {l:List Wlk} {id:Int} {k:Nat} (hk:k≤l.length) : ¬D4 l id<k→m9 k (nab l id)=true:=by
 intro h
 rw[l8]
 intro j hj
 simp only[nab,Bool.not_eq_true']
 rcases C6 (X8 id) l with ⟨_,h2⟩|⟨i,hi,h1,h2,h3⟩
 ·rw[k9 .wlk l j (by omega)]
  exact h2 _ (List.getElem_mem _)
 ·unfold D4 at h
  rw[h1,if_neg (by omega)]at h
  rw[k9 .wlk l j (by omega)]
  exact h3 j (by omega)
theorem b9B {l:List Wlk} {w:Wlk} {k:Nat} (h:k<l.length) (hd:A9 l w k=false) (hi:w.id<(nth .wlk l k).id):D4 l w.id=k:=by
 simp only[A9,decide_eq_false_iff_not]at hd
 have:=c1Q (c5J (by omega) hd) h hi
 unfold D4
 rw[this,if_neg (by omega)]
 rfl
theorem c2E {l:List Wlk} {w:Wlk} {k:Nat} (h:k<l.length) (hd:A9 l w k=false) (hi : ¬w.id<(nth .wlk l k).id) : ¬D4 l w.id<k+1:=by
 simp only[A9,decide_eq_false_iff_not]at hd
 intro hlt
 have he:D4 l w.id=k:=by omega
 rcases C6 (X8 w.id) l with ⟨h1,h2⟩|⟨i,hi',h1,h2,h3⟩
 ·unfold D4 at he
  rw[h1]at he
  simp at he
  omega
 ·unfold D4 at he
  rw[h1,if_neg (by omega)]at he
  have:i=k:=by omega
  subst this
  rw[k9 .wlk l i h]at hi
  simp[X8]at h2
  exact hi h2
theorem b0u {l:List Wlk} {w:Wlk} {k:Nat} (h:k<l.length) (hd:A9 l w k=false) (hi:w.id<(nth .wlk l k).id):Q7 l w (k+1)=Q7 l w k ++ [w] ++ [nth .wlk l k]∧A9 l w (k+1)=true:=by
 have hp:=b9B h hd hi
 exact⟨c2A h hd hi hp,by simp[A9,hp]⟩
theorem b0t {l:List Wlk} {w:Wlk} {k:Nat} (h:k<l.length) (hd:A9 l w k=false) (hi : ¬w.id<(nth .wlk l k).id):Q7 l w (k+1)=Q7 l w k ++ [nth .wlk l k]∧A9 l w (k+1)=false:=by
 have hp:=c2E h hd hi
 exact⟨b6X h hp,by simp[A9];omega⟩
theorem b0s {l:List Wlk} {w:Wlk} {k:Nat} (h:k<l.length) (hd:A9 l w k=true):Q7 l w (k+1)=Q7 l w k ++ [nth .wlk l k]∧A9 l w (k+1)=true:=by
 refine⟨b9w h hd,?_⟩
 simp only[A9,decide_eq_true_eq]at hd ⊢
 omega
theorem c2C {l:List Wlk} {w:Wlk} {k:Nat} (h:k=l.length) (hd:A9 l w k=true):Q7 l w k=insL l (D4 l w.id) [w]:=by
 simp only[A9,decide_eq_true_eq]at hd
 subst h
 unfold Q7
 rw[if_pos hd]
 simp
theorem c2B {l:List Wlk} {w:Wlk} {k:Nat} (h:k=l.length) (hd:A9 l w k=false):Q7 l w k ++ [w]=insL l (D4 l w.id) [w]:=by
 simp only[A9,decide_eq_false_iff_not]at hd
 have h2:=a9w l w.id
 have h3:D4 l w.id=l.length:=by omega
 subst h
 unfold Q7
 rw[if_neg hd,h3]
 simp[insL]
theorem b4k {l:List Wlk} {w:Wlk} {k:Nat} (h:k<l.length) (hd:A9 l w k=false) (hi:w.id<(nth .wlk l k).id):A9 l w (k+1)=true:=(b0u h hd hi).2
theorem b4j {l:List Wlk} {w:Wlk} {k:Nat} (h:k<l.length) (hd:A9 l w k=false) (hi : ¬w.id<(nth .wlk l k).id):A9 l w (k+1)=false:=(b0t h hd hi).2
theorem b4i {l:List Wlk} {w:Wlk} {k:Nat} (h:k<l.length) (hd:A9 l w k=true):A9 l w (k+1)=true:=(b0s h hd).2
theorem b6Y (l:List Wlk) (w:Wlk):A9 l w 0=false:=by simp[A9]
theorem b4z (l:List Wlk) (w:Wlk):N3 l w=insL (F4 l w.id) (D4 (F4 l w.id) w.id) [w]:=rfl
theorem a3U (l:List Wlk) (id:Int):(F4 l id).length≤l.length:=List.length_filter_le _ _
theorem a6H (l:List Wlk) (w:Wlk):(N3 l w).length≤l.length+1:=by
 have:=a3U l w.id
 rw[N3,b2S (a9w _ _)]
 simp;omega
def a2v (o:Ord):Bool:=decide (o.who=0∧o.seq=0∧o.kind=0∧o.dest=0∧o.n=0)
def a4F (p:Pcl):Bool:=decide (p.n=0∧p.kind=0∧a4M p.wlk=true∧p.j8=0)
def a5T (r:Rec):Bool:=decide ((r.kind=1∧y9 r.ord=true∧r.side=0∧a4F r.pcl=true∧r.n=0)∨(r.kind=2∧(r.side=0∨r.side=1)∧a2v r.ord=true∧r.n=0) ∨
 (r.kind=3∧(r.side=0∨r.side=1)∧1≤r.n∧r.n≤5000∧a2v r.ord=true∧a4F r.pcl=true))
def I4 (m:PMap) (r:Rec):Bool:=decide (o9 m=true∧a5T r=true∧(r.kind=2→J8 m r.pcl=true))
theorem J1 {m:PMap} {p:Pcl}:J8 m p=true↔o9 m=true∧0≤p.n∧p.n≤4999∧(p.kind=1∧S3 m p.wlk=true∧p.j8=0∨p.kind=2∧a4M p.wlk=true∧1≤p.j8∧p.j8≤9):=by simp[J8]
theorem c7I {m:PMap} {p:Pcl} (h:J8 m p=true):o9 m=true:=by simp[J8]at h;exact h.1
def Q5 (c:Cll) (o:Ord):Bool:=u4 c.wlks o.who&&decide ((F5 c.wlks o.who).seq<o.seq)
structure CB where
 c:Cll
 ok:Bool
def G0 (c:Cll) (s:Nat):List Int:=c.ins.set s (nth .int c.ins s+1)
def y4 (m:PMap) (c:Cll) (s:Nat) (p:Pcl):CB :=
 if ¬p.n=nth .int c.ins s∨900<c.ground+p.j8 then⟨c,false⟩
 else if p.kind=2 then⟨⟨c.cell,c.wlks,c.ground+p.j8,c.outs,c.next,G0 c s⟩,true⟩
 else if 0≤l6 c.wlks p.wlk.id ∨ ¬e8 m p.wlk.pos=c.cell then⟨c,false⟩
 else⟨⟨c.cell,N3 c.wlks p.wlk,c.ground,c.outs,c.next,G0 c s⟩,true⟩
theorem d3l {m:PMap} {c:Cll} {p:Pcl} (h:s5 m c=true) (hp:J8 m p=true):IntKind.i64.wrap (c.ground+p.j8)=c.ground+p.j8:=by
 have h1:=o7 h
 rw[J1]at hp
 exact e9 (by omega) (by omega)
theorem c5d {m:PMap} {c:Cll} {s:Nat} {p:Pcl} (h:(y4 m c s p).ok=false):(y4 m c s p).c=c:=by
 unfold y4 at *
 split at * <;> (try split at *)<;>(try split at *)<;>simp_all
def T9 (c:Cll) (s:Nat) (n:Int):List (List Pcl):=c.outs.set s (A3 (nth .pcls c.outs s) n)
def I0 (c:Cll) (s:Nat) (n:Int):CB :=
 if nth .int c.next s<n∨n≤nth .int c.next s-(nth .pcls c.outs s).length then⟨c,false⟩else⟨⟨c.cell,c.wlks,c.ground,T9 c s n,c.next,c.ins⟩,true⟩
theorem d1e {c:Cll} {s:Nat} {n:Int} (h:(I0 c s n).ok=false):(I0 c s n).c=c:=by
 unfold I0 at *
 split at * <;> simp_all
theorem Y7 {m:PMap} {l:List Pcl} {n:Int} (h:u6 m l n=true) (h0:0<l.length):(nth .pcl l 0).n=n-l.length:=by
 simp only[u6,Bool.and_eq_true]at h
 have:=(l8 _ _).1 h.2 0 h0
 simp[a3B]at this
 exact this.2
structure AP where
 c:Cll
 code:Int
 ok:Bool
def m0 (m:PMap) (c:Cll) (r:Rec):AP :=
 if r.kind=1 then(if Q5 c r.ord=true then⟨(I8 m c r.ord).c,(I8 m c r.ord).code,true⟩else⟨c,0,false⟩)
 else if b7 m c.cell r.side = -1 then⟨c,0,false⟩
 else if r.kind=2 then⟨(y4 m c r.side.toNat r.pcl).c,0,(y4 m c r.side.toNat r.pcl).ok⟩
 else⟨(I0 c r.side.toNat r.n).c,0,(I0 c r.side.toNat r.n).ok⟩
def Q6 (m:PMap) (c:Cll) (r:Rec):AP:=if I4 m r=true then m0 m c r else⟨c,0,false⟩
def T4 (m:PMap) (c:Cll) (r:Rec):AP:=if s5 m c=true∧I4 m r=true then m0 m c r else⟨O1,0,false⟩
def srt (l:List Wlk):Prop := ∀i j,i<j→j<l.length→(nth .wlk l i).id<(nth .wlk l j).id
theorem a6L {m:PMap} {l:List Wlk} (h:x7 m l=true):srt l:=by
 intro i j hij
 induction j with
 |zero=>omega
 |succ j ih =>
  intro hj
  have h1:=(l8 _ _).1 h (j+1) hj
  simp only[a4H,Bool.and_eq_true,Bool.or_eq_true,decide_eq_true_eq,Nat.add_sub_cancel]at h1
  have h2:(nth .wlk l j).id<(nth .wlk l (j+1)).id:=h1.2.resolve_left (by omega)
  rcases Nat.lt_or_ge i j with h3|h3
  ·exact Int.lt_trans (ih h3 (by omega)) h2
  ·have:i=j:=by omega
   subst this
   exact h2
theorem b1a {l:List Wlk} {i:Nat} {w:Wlk} (h:srt l) (hw:w.id=(nth .wlk l i).id):srt (l.set i w):=by
 have hid : ∀j,(nth .wlk (l.set i w) j).id=(nth .wlk l j).id:=fun j=>by
  by_cases hj:i=j
  ·subst hj
   by_cases hi:i<l.length
   ·rw[j9 .wlk hi,hw]
   ·rw[List.set_eq_of_length_le (by omega)]
  ·rw[m5 .wlk hj]
 intro a b hab hb
 rw[hid,hid]
 rw[List.length_set]at hb
 exact h a b hab hb
theorem a8S {l:List Wlk} {i:Nat} (h:srt l) (hi:i<l.length):F4 l (nth .wlk l i).id=l.take i++l.drop (i+1):=by
 have h1 : ∀p:Wlk→Bool,l.filter p=(l.take i++(nth .wlk l i::l.drop (i+1))).filter p:=fun p=>by
  rw[k9 .wlk l i hi,List.getElem_cons_drop,List.take_append_drop]
 unfold F4
 rw[h1,List.filter_append,List.filter_cons]
 have ha:(l.take i).filter (fun w=>decide (w.id≠(nth .wlk l i).id))=l.take i:=by
  rw[List.filter_eq_self]
  intro x hx
  obtain⟨j,hj,rfl⟩:=List.getElem_of_mem hx
  rw[List.length_take]at hj
  have:=h j i (by omega) hi
  rw[k9 .wlk l j (by omega)]at this
  simp only[List.getElem_take,ne_eq,decide_eq_true_eq]
  omega
 have hb:(l.drop (i+1)).filter (fun w=>decide (w.id≠(nth .wlk l i).id))=l.drop (i+1):=by
  rw[List.filter_eq_self]
  intro x hx
  obtain⟨j,hj,rfl⟩:=List.getElem_of_mem hx
  rw[List.length_drop]at hj
  have:=h i (i+1+j) (by omega) (by omega)
  rw[k9 .wlk l (i+1+j) (by omega)]at this
  simp only[List.getElem_drop,ne_eq,decide_eq_true_eq]
  omega
 rw[ha,hb]
 simp
theorem d5i {l:List Wlk} {i:Nat} {w:Wlk} (h:srt l) (hi:i<l.length) (hw:w.id=(nth .wlk l i).id):N3 l w=l.set i w:=by
 unfold N3
 rw[hw,a8S h hi]
 have hl:(l.take i++l.drop (i+1)).length=l.length-1:=by simp;omega
 have hpos:D4 (l.take i++l.drop (i+1)) (nth .wlk l i).id=i:=by
  have hb : ∀j,j<i→X8 (nth .wlk l i).id (nth .wlk (l.take i++l.drop (i+1)) j)=false:=fun j hj=>by
   have h1:nth .wlk (l.take i++l.drop (i+1)) j=nth .wlk l j:=by
    rw[k9 .wlk _ j (by rw[hl];omega),k9 .wlk l j (by omega),List.getElem_append_left (by rw[List.length_take];omega),List.getElem_take]
   rw[h1]
   have:=h j i hj hi
   simp only[X8,decide_eq_false_iff_not]
   omega
  by_cases he:i+1<l.length
  ·have h1:nth .wlk (l.take i++l.drop (i+1)) i=nth .wlk l (i+1):=by
    rw[k9 .wlk _ i (by rw[hl];omega),k9 .wlk l (i+1) he,List.getElem_append_right (by rw[List.length_take];omega),List.getElem_drop]
    congr 1
    rw[List.length_take];omega
   have h2:=h i (i+1) (by omega) he
   have:idx (X8 (nth .wlk l i).id) (l.take i++l.drop (i+1))=i:=by
    refine a7g (by rw[hl];omega) ?_ fun j hj => ?_
    ·rw[←k9 .wlk _ i (by rw[hl];omega),h1]
     simpa [X8]using h2
    ·rw[←k9 .wlk _ j (by rw[hl];omega)]
     exact hb j hj
   unfold D4
   rw[this,if_neg (by omega)]
   rfl
  ·have:idx (X8 (nth .wlk l i).id) (l.take i++l.drop (i+1)) = -1:=by
    refine a1l fun j hj => ?_
    rw[←k9 .wlk _ j hj]
    rw[hl]at hj
    exact hb j (by omega)
   unfold D4
   rw[this,if_pos (by omega),hl]
   omega
 rw[hpos]
 unfold insL
 rw[List.take_append_of_le_length (by rw[List.length_take];omega),List.take_take,Nat.min_self,List.drop_append_of_le_length (by rw[List.length_take];omega)]
 rw[show(l.take i).drop i = []from List.drop_eq_nil_of_le (by rw[List.length_take];omega),List.nil_append,List.set_eq_take_append_cons_drop,if_pos hi]
 simp
theorem T6 {l:List Wlk} {id:Int} (h:u4 l id=true):(l6 l id).toNat<l.length∧0≤l6 l id:=by
 simp only[u4,decide_eq_true_eq]at h
 have:=Q0 l id
 omega
theorem b7P {l:List Wlk} {id:Int}:u4 l id=false↔l6 l id<0:=by
 simp only[u4,decide_eq_false_iff_not]
 omega
theorem a5z {l:List Wlk} {id:Int} (h:u4 l id=true):F5 l id=nth .wlk l (l6 l id).toNat:=by
 unfold F5
 rw[if_pos (T6 h).2]
theorem id_w {l:List Wlk} {id:Int} (h:u4 l id=true):(nth .wlk l (l6 l id).toNat).id=id:=a7Z (T6 h).2
theorem c5f {l:List Wlk} {who:Int} {w:Wlk} (hs:srt l) (h:u4 l who=true) (hw:w.id=who):N3 l w=l.set (l6 l who).toNat w :=
 d5i hs (T6 h).1 (by rw[hw,id_w h])
theorem a0k {l:List Wlk} {who x:Int} {a:Wlk} (h:u4 l who=true) (ha:a.id=who):l6 (l.set (l6 l who).toNat a) x=l6 l x:=a3z (by rw[ha,id_w h])
theorem a7i {l:List Wlk} {who x:Int} {a:Wlk} (h:u4 l who=true) (ha:a.id=who):u4 (l.set (l6 l who).toNat a) x=u4 l x:=by
 unfold u4
 rw[a0k h ha]
theorem b6F {l:List Wlk} {who:Int} {a:Wlk} (hs:srt l) (h:u4 l who=true) (ha:a.id=who):srt (l.set (l6 l who).toNat a):=b1a hs (by rw[ha,id_w h])
theorem d6t {l:List Wlk} {who:Int} {a:Wlk} (h:u4 l who=true) (ha:a.id=who):F5 (l.set (l6 l who).toNat a) who=a:=by
 rw[a5z (by rw[a7i h ha];exact h),a0k h ha,j9 .wlk (T6 h).1]
theorem d7I {l:List Wlk} {who:Int} {a w:Wlk} (hs:srt l) (h:u4 l who=true) (ha:a.id=who) (hw:w.id=who):N3 (l.set (l6 l who).toNat a) w=l.set (l6 l who).toNat w:=by
 rw[c5f (b6F hs h ha) (by rw[a7i h ha];exact h) hw,a0k h ha,List.set_set]
theorem ne_w {l:List Wlk} {who to:Int} (h:u4 l who=true) (ht:u4 l to=true) (hne:to≠who):(l6 l who).toNat≠(l6 l to).toNat:=by
 have h1:=(T6 h).2
 have h2:=(T6 ht).2
 exact a3A (by omega) (by omega) hne
theorem d8C {l:List Wlk} {who to:Int} {a:Wlk} (h:u4 l who=true) (ht:u4 l to=true) (hne:to≠who) (ha:a.id=who):F5 (l.set (l6 l who).toNat a) to=nth .wlk l (l6 l to).toNat:=by
 rw[a5z (by rw[a7i h ha];exact ht),a0k h ha,m5 .wlk (ne_w h ht hne)]
theorem d8X {l:List Wlk} {who to:Int} {a v:Wlk} (hs:srt l) (h:u4 l who=true) (ht:u4 l to=true) (ha:a.id=who) (hv:v.id=to):N3 (l.set (l6 l who).toNat a) v=(l.set (l6 l who).toNat a).set (l6 l to).toNat v:=by
 rw[c5f (b6F hs h ha) (by rw[a7i h ha];exact ht) hv,a0k h ha]
theorem b2c {l:List Wlk} {who to x:Int} {a b:Wlk} (h:u4 l who=true) (ht:u4 l to=true) (ha:a.id=who) (hb:b.id=to):l6 ((l.set (l6 l who).toNat a).set (l6 l to).toNat b) x=l6 l x:=by
 have h2:u4 (l.set (l6 l who).toNat a) to=true:=by rw[a7i h ha];exact ht
 have h3:=a0k (x:=x) h2 hb
 rw[a0k h ha,a0k h ha]at h3
 exact h3
theorem c3y {l:List Wlk} {who to x:Int} {a b:Wlk} (h:u4 l who=true) (ht:u4 l to=true) (ha:a.id=who) (hb:b.id=to):u4 ((l.set (l6 l who).toNat a).set (l6 l to).toNat b) x=u4 l x:=by
 unfold u4
 rw[b2c h ht ha hb]
theorem d7G {l:List Wlk} {who to:Int} {a b:Wlk} (hs:srt l) (h:u4 l who=true) (ht:u4 l to=true) (ha:a.id=who) (hb:b.id=to):srt ((l.set (l6 l who).toNat a).set (l6 l to).toNat b):=by
 have h2:u4 (l.set (l6 l who).toNat a) to=true:=by rw[a7i h ha];exact ht
 have h3:=b6F (b6F hs h ha) h2 hb
 rw[a0k h ha]at h3
 exact h3
theorem d6s {l:List Wlk} {who to:Int} {a b:Wlk} (h:u4 l who=true) (ht:u4 l to=true) (hne:to≠who) (ha:a.id=who) (hb:b.id=to):F5 ((l.set (l6 l who).toNat a).set (l6 l to).toNat b) who=a:=by
 rw[a5z (by rw[c3y h ht ha hb];exact h),b2c h ht ha hb,m5 .wlk (ne_w h ht hne).symm,j9 .wlk (T6 h).1]
theorem d7H {l:List Wlk} {who to:Int} {a b w:Wlk} (hs:srt l) (h:u4 l who=true) (ht:u4 l to=true) (hne:to≠who) (ha:a.id=who) (hb:b.id=to) (hw:w.id=who) :
  N3 ((l.set (l6 l who).toNat a).set (l6 l to).toNat b) w=(l.set (l6 l to).toNat b).set (l6 l who).toNat w:=by
 rw[c5f (d7G hs h ht ha hb) (by rw[c3y h ht ha hb];exact h) hw,b2c h ht ha hb,a2a (ne_w h ht hne)]
theorem c2e {m:PMap} {c:Cll} {o:Ord} {i:Nat} (h:s5 m c=true) (hi:i<c.wlks.length) (hd:o.dest=0):IntKind.i64.wrap ((nth .wlk c.wlks i).pos-1)=(nth .wlk c.wlks i).pos+(2 * o.dest-1):=by
 have h1:=K9 h hi
 rw[e9 (by omega) (by omega)]
 omega
theorem c2d {m:PMap} {c:Cll} {o:Ord} {i:Nat} (h:s5 m c=true) (hi:i<c.wlks.length) (ho:y9 o=true) (hk:o.kind=1) (hd : ¬o.dest=0):IntKind.i64.wrap ((nth .wlk c.wlks i).pos+1)=(nth .wlk c.wlks i).pos+(2 * o.dest-1):=by
 have h1:=K9 h hi
 rw[G6]at ho
 rw[e9 (by omega) (by omega)]
 omega
theorem d6k (l:List Wlk) (id:Int):u4 (F4 l id) id=false:=by
 rw[b7P]
 have:idx (isId id) (F4 l id) = -1:=by
  refine a1l fun j hj => ?_
  have h1 : ∀w∈F4 l id,isId id w=false:=fun w hw=>by
   simp only[F4,List.mem_filter,decide_eq_true_eq]at hw
   simpa [isId]using hw.2
  exact h1 _ (List.getElem_mem hj)
 unfold l6
 rw[this]
 omega
theorem b1b {l:List Wlk} (h:srt l) (h1 : ∀i,i<l.length→1≤(nth .wlk l i).id∧(nth .wlk l i).id≤9):l.length≤9:=by
 have hg : ∀i,i<l.length→(i:Int)+1≤(nth .wlk l i).id:=by
  intro i
  induction i with
  |zero=>intro hi;have:=(h1 0 hi).1;simpa using this
  |succ i ih =>
   intro hi
   have h2:=ih (by omega)
   have h3:=h i (i+1) (by omega) hi
   push_cast
   omega
 rcases Nat.lt_or_ge 9 l.length with hlt|hge
 ·have h2:=hg (l.length-1) (by omega)
  have h3:=(h1 (l.length-1) (by omega)).2
  omega
 ·exact hge
theorem b0a {m:PMap} {c:Cll} (h:s5 m c=true):srt c.wlks:=a6L (o7 h).1
theorem Z7 {m:PMap} {c:Cll} (h:s5 m c=true):c.wlks.length≤9:=b1b (b0a h) fun i hi=>(K9 h hi).1
theorem S7 {r:Rec}:a5T r=true↔((r.kind=1∧y9 r.ord=true∧r.side=0∧(r.pcl.n=0∧r.pcl.kind=0∧(r.pcl.wlk.id=0∧r.pcl.wlk.pos=0∧r.pcl.wlk.j8=0∧r.pcl.wlk.seq=0∧r.pcl.wlk.last=0)∧r.pcl.j8=0)∧r.n=0) ∨
  (r.kind=2∧(r.side=0∨r.side=1)∧(r.ord.who=0∧r.ord.seq=0∧r.ord.kind=0∧r.ord.dest=0∧r.ord.n=0)∧r.n=0) ∨
  (r.kind=3∧(r.side=0∨r.side=1)∧1≤r.n∧r.n≤5000∧(r.ord.who=0∧r.ord.seq=0∧r.ord.kind=0∧r.ord.dest=0∧r.ord.n=0)∧(r.pcl.n=0∧r.pcl.kind=0∧(r.pcl.wlk.id=0∧r.pcl.wlk.pos=0∧r.pcl.wlk.j8=0∧r.pcl.wlk.seq=0∧r.pcl.wlk.last=0)∧r.pcl.j8=0))):=by
 simp[a5T,a2v,a4F,a4M]
theorem s0 (t:RT) {l:List t.ty} {i:Nat} (h:i<l.length):nth t l i∈l:=by rw[k9 t l i h];exact List.getElem_mem h
theorem a1b (t:RT) {l:List t.ty} {x:t.ty} (h:x∈l) : ∃i,i<l.length∧nth t l i=x:=by
 obtain⟨i,hi,rfl⟩:=List.getElem_of_mem h
 exact⟨i,hi,k9 t l i hi⟩
def ids (a b:Wlk):Prop:=a.id<b.id
theorem d0G {l:List Wlk}:srt l↔l.Pairwise ids:=by
 rw[List.pairwise_iff_getElem]
 constructor
 ·intro h i j hi hj hij
  have:=h i j hij hj
  rw[k9 .wlk l i hi,k9 .wlk l j hj]at this
  exact this
 ·intro h i j hij hj
  rw[k9 .wlk l i (by omega),k9 .wlk l j hj]
  exact h i j (by omega) hj hij
theorem Y3 {m:PMap} {l:List Wlk}:x7 m l=true↔(∀w∈l,S3 m w=true)∧srt l:=by
 constructor
 ·intro h
  refine⟨fun w hw => ?_,a6L h⟩
  obtain⟨i,hi,rfl⟩:=a1b .wlk hw
  exact a3l h hi
 ·rintro⟨h1,h2⟩
  unfold x7
  rw[l8]
  intro i hi
  simp only[a4H,Bool.and_eq_true,Bool.or_eq_true,decide_eq_true_eq]
  refine⟨h1 _ (s0 .wlk hi),?_⟩
  rcases Nat.eq_zero_or_pos i with h0|h0
  ·exact .inl h0
  ·exact .inr (h2 (i-1) i (by omega) hi)
def b8R (m:PMap) (cell:Int) (l:List Pcl) (n i:Int) (s:Nat):Prop :=
 u6 m l n=true∧0≤i∧i≤5000∧(b7 m cell s = -1→n=0∧i=0) ∧ ∀p∈l,p.kind=1→e8 m p.wlk.pos=b7 m cell s
theorem c1y {m:PMap} {c:Cll} {s:Nat}:O0 m c s=true↔b8R m c.cell (nth .pcls c.outs s) (nth .int c.next s) (nth .int c.ins s) s:=by
 simp only[O0,a0g,b8R,Bool.and_eq_true,decide_eq_true_eq,l8,a2C]
 constructor
 ·rintro⟨⟨h1,h2,h3,h4⟩,h5⟩
  refine⟨h1,h2,h3,h4,fun p hp hk => ?_⟩
  obtain⟨i,hi,rfl⟩:=a1b .pcl hp
  exact h5 i hi hk
 ·rintro⟨h1,h2,h3,h4,h5⟩
  exact⟨⟨h1,h2,h3,h4⟩,fun i hi hk=>h5 _ (s0 .pcl hi) hk⟩
theorem G7 {m:PMap} {c:Cll}:s5 m c=true↔(∀w∈c.wlks,S3 m w=true∧e8 m w.pos=c.cell)∧srt c.wlks∧o9 m=true∧0≤c.cell∧c.cell<m.cells∧0≤c.ground∧c.ground≤900∧c.outs.length=2∧c.next.length=2∧c.ins.length=2 ∧
  ∀s,s<2→b8R m c.cell (nth .pcls c.outs s) (nth .int c.next s) (nth .int c.ins s) s:=by
 simp only[s5,a1d,Bool.and_eq_true,decide_eq_true_eq,l8,Y3,a4G,c1y]
 constructor
 ·rintro⟨⟨⟨⟨h1,h2⟩,h3,h4,h5,h6,h7,h8,h9,h10⟩,h11⟩,h12⟩
  refine⟨fun w hw=>⟨h1 w hw,?_⟩,h2,h3,h4,h5,h6,h7,h8,h9,h10,h12⟩
  obtain⟨i,hi,rfl⟩:=a1b .wlk hw
  exact h11 i hi
 ·rintro⟨h1,h2,h3,h4,h5,h6,h7,h8,h9,h10,h12⟩
  exact⟨⟨⟨⟨fun w hw=>(h1 w hw).1,h2⟩,h3,h4,h5,h6,h7,h8,h9,h10⟩,fun i hi=>(h1 _ (s0 .wlk hi)).2⟩,h12⟩
theorem N6 {m:PMap} {l:List Pcl} {n:Int}:u6 m l n=true↔o9 m=true∧0≤n∧n≤5000∧(l.length:Int)≤n ∧ ∀i,i<l.length→J8 m (nth .pcl l i)=true∧(nth .pcl l i).n=n-l.length+i:=by
 simp[u6,l8,a3B,and_assoc]
theorem b2B (t:RT) {l r:List t.ty} {i:Nat} (h:i<l.length):nth t (l++r) i=nth t l i:=by
 rw[k9 t (l++r) i (by rw[List.length_append];omega),k9 t l i h,List.getElem_append_left h]
theorem b2C (t:RT) {l:List t.ty} {x:t.ty}:nth t (l ++ [x]) l.length=x:=by
 rw[k9 t (l ++ [x]) l.length (by simp)]
 simp
theorem c8A (t:RT) {l:List t.ty} {k i:Nat} (h:k+i<l.length):nth t (l.drop k) i=nth t l (k+i):=by
 rw[k9 t (l.drop k) i (by rw[List.length_drop];omega),k9 t l (k+i) h,List.getElem_drop]
theorem b2g {m:PMap} {l:List Pcl} {n:Int} {p:Pcl} (h:u6 m l n=true) (hn:n<5000) (hp:J8 m p=true) (he:p.n=n):u6 m (l ++ [p]) (n+1)=true:=by
 rw[N6]at h ⊢
 obtain⟨h1,h2,h3,h4,h5⟩:=h
 have hl:(l ++ [p]).length=l.length+1:=by simp
 refine⟨h1,by omega,by omega,by rw[hl];omega,fun i hi => ?_⟩
 rw[hl]at hi ⊢
 by_cases hlt:i<l.length
 ·rw[b2B .pcl hlt]
  have:=h5 i hlt
  refine⟨this.1,by rw[this.2];omega⟩
 ·have:i=l.length:=by omega
  subst this
  have he2:nth .pcl (l ++ [p]) l.length=p:=b2C .pcl
  rw[he2]
  exact⟨hp,by rw[he];omega⟩
theorem b2h {m:PMap} {l:List Pcl} {n:Int} {k:Nat} (h:u6 m l n=true) (hk:k≤l.length):u6 m (l.drop k) n=true:=by
 rw[N6]at h ⊢
 obtain⟨h1,h2,h3,h4,h5⟩:=h
 have hl:(l.drop k).length=l.length-k:=List.length_drop
 refine⟨h1,h2,h3,by rw[hl];omega,fun i hi => ?_⟩
 rw[hl]at hi ⊢
 rw[c8A .pcl (by omega)]
 have:=h5 (k+i) (by omega)
 refine⟨this.1,by rw[this.2];omega⟩
theorem b5R : ∀(l:List Pcl) (b x:Int),(∀i,i<l.length→(nth .pcl l i).n=b+i)→b≤x→A3 l x=l.drop (x-b).toNat
 |[],b,x,_,_=>by simp[A3]
 |p::r,b,x,h,hx=>by
  have h0:p.n=b:=by simpa [nth]using h 0 (by simp)
  have hr : ∀i,i<r.length→(nth .pcl r i).n=(b+1)+i:=fun i hi=>by
   have:=h (i+1) (by simpa using hi)
   have he:nth .pcl (p::r) (i+1)=nth .pcl r i:=by simp[nth]
   rw[he]at this
   rw[this]
   omega
  by_cases hlt:b<x
  ·have ih:=b5R r (b+1) x hr (by omega)
   have e1:(x-b).toNat=(x-(b+1)).toNat+1:=by omega
   rw[e1,List.drop_succ_cons,←ih]
   simp only[A3]
   rw[List.filter_cons_of_neg]
   simp;omega
  ·have e1:(x-b).toNat=0:=by omega
   rw[e1,List.drop_zero]
   unfold A3
   rw[List.filter_eq_self]
   intro q hq
   obtain⟨i,hi,rfl⟩:=a1b .pcl hq
   rw[h i hi]
   simp;omega
theorem a8b {m:PMap} {l:List Pcl} {n x:Int} (h:u6 m l n=true) (hx:n-l.length≤x):A3 l x=l.drop (x-(n-l.length)).toNat :=
 b5R l (n-l.length) x (fun i hi=>(((N6.1 h).2.2.2.2 i hi).2)) hx
theorem b1E {l:List Wlk} (h:srt l) (p:Wlk→Bool):srt (l.filter p):=by
 rw[d0G]at *
 exact h.filter p
theorem d7J {l:List Wlk} {w:Wlk} (h:srt l) (hn : ∀x∈l,x.id≠w.id):srt (insL l (D4 l w.id) [w]):=by
 have hle:=a9w l w.id
 have h1 : ∀x∈l.take (D4 l w.id),x.id<w.id:=fun x hx=>by
  have hxl:=List.mem_of_mem_take hx
  obtain⟨j,hj,rfl⟩:=List.getElem_of_mem hx
  rw[List.length_take]at hj
  have:=(l8 _ _).1 (c5J hle (Nat.lt_irrefl (D4 l w.id))) j (by omega)
  rw[List.getElem_take]at hxl ⊢
  simp only[nab,X8,Bool.not_eq_true',decide_eq_false_iff_not]at this
  rw[k9 .wlk l j (by omega)]at this
  have:=hn _ hxl
  omega
 have h2 : ∀x∈l.drop (D4 l w.id),w.id<x.id:=fun x hx=>by
  obtain⟨j,hj,rfl⟩:=List.getElem_of_mem hx
  rw[List.length_drop]at hj
  rcases C6 (X8 w.id) l with ⟨h3,_⟩|⟨i,hi,h3,h4,_⟩
  ·unfold D4 at hj
   rw[h3]at hj
   simp at hj
  ·have he:D4 l w.id=i:=by
    unfold D4
    rw[h3,if_neg (by omega)]
    rfl
   simp only[X8,decide_eq_true_eq]at h4
   rw[List.getElem_drop]
   simp only[he]
   rcases Nat.eq_zero_or_pos j with h0|h0
   ·subst h0;exact h4
   ·have:=h i (i+j) (by omega) (by omega)
    rw[k9 .wlk l i hi,k9 .wlk l (i+j) (by omega)]at this
    omega
 rw[d0G]at h ⊢
 unfold insL
 rw[List.pairwise_append]
 refine⟨h.sublist (List.take_sublist _ _),?_,fun a ha b hb => ?_⟩
 ·simp only[List.cons_append,List.nil_append,List.pairwise_cons]
  exact⟨fun b hb=>h2 b hb,h.sublist (List.drop_sublist _ _)⟩
 ·simp only[List.cons_append,List.nil_append,List.mem_cons]at hb
  rcases hb with rfl|hb
  ·exact h1 a ha
  ·exact Int.lt_trans (h1 a ha) (h2 b hb)
theorem d2E {α : Type} {l m:List α} {n:Nat} {x : α} (h:x∈insL l n m):x∈l∨x∈m:=by
 simp only[insL,List.mem_append]at h
 rcases h with h|h|h
 ·exact .inl (List.mem_of_mem_take h)
 ·exact .inr h
 ·exact .inl (List.mem_of_mem_drop h)
theorem b7h {l:List Wlk} {id:Int} {x:Wlk} (h:x∈F4 l id):x∈l∧x.id≠id:=by
 simpa [F4]using h
theorem c5g {l:List Wlk} {w:Wlk} (h:srt l):srt (N3 l w):=d7J (b1E h _) fun x hx=>(b7h hx).2
theorem b6W {l:List Wlk} {w x:Wlk} (h:x∈N3 l w):x∈l∨x=w:=by
 rcases d2E h with h|h
 ·exact .inl (b7h h).1
 ·exact .inr (by simpa using h)
theorem c4C {l:List Wlk} {i:Nat} {w x:Wlk} (h:x∈l.set i w):x∈l∨x=w:=List.mem_or_eq_of_mem_set h
theorem c2n {m:PMap} {c:Cll} {i:Nat} {w:Wlk} {g:Int} (h:s5 m c=true) (hw:w.id=(nth .wlk c.wlks i).id) (hok:S3 m w=true) (hp:e8 m w.pos=c.cell) (hg:0≤g∧g≤900):s5 m ⟨c.cell,c.wlks.set i w,g,c.outs,c.next,c.ins⟩=true:=by
 rw[G7]at h ⊢
 obtain⟨h1,h2,h3,h4,h5,_,_,h8⟩:=h
 refine⟨fun x hx => ?_,b1a h2 hw,h3,h4,h5,hg.1,hg.2,h8⟩
 rcases c4C hx with hx|rfl
 ·exact h1 x hx
 ·exact⟨hok,hp⟩
theorem d8m {x:Int} (h:x≤5000) (h2 : ¬x=5000):x<5000:=by omega
theorem d2L {x:Int} (h:x≤5000) (h2 : ¬x=5000):x≤4999:=by omega
theorem le_succ {a b:Int} (h:a=b) (h2:a≤4999):b+1≤5000:=by omega
theorem d5P {b:Int} (h:0≤b):0≤b+1:=by omega
theorem b4M {m:PMap} {c:Cll} {s:Nat} {p:Pcl} (h:s5 m c=true) (hs:s<2) (hn : ¬nth .int c.next s=5000) (hp:J8 m ⟨nth .int c.next s,p.kind,p.wlk,p.j8⟩=true) (hsd : ¬b7 m c.cell s = -1) (hk:p.kind=1→e8 m p.wlk.pos=b7 m c.cell s) :
  (D2 c s p).length=2∧(H7 c s).length=2 ∧ ∀s',s'<2→b8R m c.cell (nth .pcls (D2 c s p) s') (nth .int (H7 c s) s') (nth .int c.ins s') s':=by
 have hside:=E1 h hs
 rw[G7]at h
 obtain⟨_,_,_,_,_,_,_,ho,hnx,hi,hsb⟩:=h
 refine⟨by simp[D2,ho],by simp[H7,hnx],fun s' hs' => ?_⟩
 have hb:=hsb s' hs'
 unfold D2 H7
 by_cases he:s=s'
 ·subst he
  rw[j9 .pcls (by omega),j9 .int (by omega)]
  obtain⟨b1,b2,b3,b4,b5⟩:=hb
  refine⟨b2g b1 (d8m hside.1.2 hn) hp rfl,b2,b3,fun hh=>absurd hh hsd,fun q hq hqk => ?_⟩
  ·simp only[List.mem_append,List.mem_singleton]at hq
   rcases hq with hq|rfl
   ·exact b5 q hq hqk
   ·exact hk hqk
 ·rw[m5 .pcls he,m5 .int he]
  exact hb
theorem b5W {m:PMap} {p d:Int} (hd:d=0∨d=1) (h1 : ¬e8 m (p+(2 * d-1)) = -1) (h0 : ¬e8 m p = -1) (h2 : ¬e8 m (p+(2 * d-1))=e8 m p):e8 m (p+(2 * d-1))=b7 m (e8 m p) d ∧ ¬b7 m (e8 m p) d = -1:=by
 obtain⟨g1,g2,g3,g4⟩:=C9 h1
 obtain⟨_,k2,k3,k4⟩:=C9 h0
 have hok:=g1
 rw[n6]at g1
 obtain⟨c,w⟩:=m
 simp only at *
 have hw:w=2∨w=3∨w=4∨w=5∨w=6∨w=7∨w=8:=by omega
 rw[g4,k4]at h2
 rw[g4,k4]
 unfold b7
 simp only[hok,true_and]
 clear g4 k4 h1 h0
 rcases hw with rfl|rfl|rfl|rfl|rfl|rfl|rfl<;>rcases hd with rfl|rfl<;>refine⟨?_,?_⟩<;>(repeat' split)<;>omega
theorem c1z {m:PMap} {c:Cll} {o:Ord} (h:s5 m c=true) (ho:y9 o=true):s5 m (I8 m c o).c=true:=by
 have hoi:=G6.1 ho
 unfold I8
 split
 ·exact h
 rename_i hneg
 have hlt:=F6 hneg
 have hid:=a7Z (l:=c.wlks) (id:=o.who) (by omega)
 generalize hi:(l6 c.wlks o.who).toNat=i at *
 have hwb:=K9 h hlt
 have hwok:=(G7.1 h).1 _ (s0 .wlk hlt)
 have hwi:=s8.1 hwok.1
 have hf:=o7 h
 simp only
 generalize hw:nth .wlk c.wlks i=w at *
 split
 ·exact h
 split
 ·exact h
 rename_i hs1 hs2
 have stay : ∀(pos j8 last g:Int),e8 m pos=c.cell→0≤j8∧j8≤99→0≤last∧last≤9→0≤g∧g≤900→s5 m ⟨c.cell,c.wlks.set i ⟨w.id,pos,j8,o.seq,last⟩,g,c.outs,c.next,c.ins⟩=true:=by
  intro pos j8 last g hp hc hl hg
  refine c2n h (by rw[hw]) ?_ hp hg
  rw[s8]
  simp only
  exact⟨hwi.1,hwi.2.1,by rw[hp];omega,hc.1,hc.2,by omega,by omega,hl.1,hl.2⟩
 have hwc:e8 m w.pos=c.cell:=hwok.2
 have hco:0≤w.j8∧w.j8≤99:=⟨hwi.2.2.2.1,hwi.2.2.2.2.1⟩
 have hgr:0≤c.ground∧c.ground≤900:=⟨hf.2.2.2.2.1,hf.2.2.2.2.2.1⟩
 have fin : ∀code,0≤code∧code≤9→s5 m (I1 c i ⟨w.id,w.pos,w.j8,o.seq,w.last⟩ c.ground code).c=true:=fun code hc=>stay _ _ _ _ hwc hco hc hgr
 unfold S1
 split
 ·unfold a0z
  simp only
  split
  ·exact fin 2 (by omega)
  split
  ·rename_i h2
   exact stay _ _ _ _ h2 hco (by omega) hgr
  split
  ·exact fin 2 (by omega)
  rename_i e1 e2 e3
  have hd:o.dest=0∨o.dest=1:=by omega
  obtain⟨g1,g2⟩:=b5W (m:=m) (p:=w.pos) hd e1 (by rw[hwc];omega) (by rw[hwc];exact e2)
  rw[hwc]at g1 g2
  have hdd:((o.dest.toNat:Nat):Int)=o.dest:=by omega
  have hside:=E1 h (s:=o.dest.toNat) (by omega)
  obtain⟨s1,s2,s3⟩:=b4M (p:=⟨0,1,⟨w.id,w.pos+(2 * o.dest-1),w.j8,o.seq,1⟩,0⟩) h (s:=o.dest.toNat) (by omega) e3 (by
   rw[J1]
   refine⟨hf.2.1,hside.1.1,d2L hside.1.2 e3,.inl ⟨rfl,?_,rfl⟩⟩
   ·rw[s8]
    exact⟨hwi.1,hwi.2.1,e1,hco.1,hco.2,by show 0≤o.seq;omega,by show o.seq≤900;omega,by show(0:Int)≤1;omega,by show(1:Int)≤9;omega⟩) (by rw[hdd];exact g2) (fun _=>by rw[hdd];exact g1)
  rw[G7]at h ⊢
  obtain⟨h1,h2,h3,h4,h5,h6,h7,h8,h9,h10,h11⟩:=h
  refine⟨fun x hx => ?_,b1E (b1a h2 (by rw[hw])) _,h3,h4,h5,h6,h7,s1,s2,h10,s3⟩
  obtain⟨hx1,hx2⟩:=b7h hx
  rcases c4C hx1 with hx1|rfl
  ·exact h1 x hx1
  ·exact absurd hid hx2
 split
 ·unfold a0B
  simp only
  split
  ·exact fin 4 (by omega)
  split
  ·exact fin 3 (by omega)
  split
  ·exact fin 5 (by omega)
  rename_i e1 e2 e3
  have hlj:=F6 e1
  have hne:o.dest≠o.who:=by omega
  have hij:=a3A hneg e1 hne
  rw[hi]at hij
  generalize hj:(l6 c.wlks o.dest).toNat=j at *
  have hvok:=(G7.1 h).1 _ (s0 .wlk hlj)
  have hvi:=s8.1 hvok.1
  have h':=c2n (i:=j) (w:=⟨(nth .wlk c.wlks j).id,(nth .wlk c.wlks j).pos,(nth .wlk c.wlks j).j8+o.n,(nth .wlk c.wlks j).seq,(nth .wlk c.wlks j).last⟩) h rfl (by
   rw[s8]
   simp only
   exact⟨hvi.1,hvi.2.1,hvi.2.2.1,by omega,by omega,hvi.2.2.2.2.2⟩) hvok.2 hgr
  refine c2n (i:=i) (w:=⟨w.id,w.pos,w.j8-o.n,o.seq,1⟩) h' (by simp only;rw[m5 .wlk (Ne.symm hij),hw]) (by
   rw[s8]
   simp only
   exact⟨hwi.1,hwi.2.1,hwi.2.2.1,by omega,by omega,by omega,by omega,by omega,by omega⟩) hwc hgr
 split
 ·unfold a0C
  simp only
  split
  ·exact fin 3 (by omega)
  split
  ·exact fin 5 (by omega)
  exact stay w.pos (w.j8-o.n) 1 (c.ground+o.n) hwc (by omega) (by omega) (by omega)
 split
 ·unfold a0A
  simp only
  split
  ·exact fin 6 (by omega)
  split
  ·exact fin 5 (by omega)
  exact stay w.pos (w.j8+o.n) 1 (c.ground-o.n) hwc (by omega) (by omega) (by omega)
 split
 ·unfold U0
  simp only
  split
  ·exact fin 7 (by omega)
  split
  ·exact fin 3 (by omega)
  split
  ·exact fin 5 (by omega)
  rename_i e1 e2 e3
  have he:B4 m w.pos o.dest=true:=by simpa using e1
  simp only[B4,decide_eq_true_eq]at he
  have hdd:((o.dest.toNat:Nat):Int)=o.dest:=by omega
  have hside:=E1 h (s:=o.dest.toNat) (by omega)
  obtain⟨s1,s2,s3⟩:=b4M (p:=⟨0,2,⟨0,0,0,0,0⟩,o.n⟩) h (s:=o.dest.toNat) (by omega) e3 (by
   rw[J1]
   exact⟨hf.2.1,hside.1.1,d2L hside.1.2 e3,.inr ⟨rfl,(show a4M ⟨0,0,0,0,0⟩=true by decide),(by show 1≤o.n;omega),(by show o.n≤9;omega)⟩⟩) (by rw[hdd,←hwc];exact he.1) (fun hk=>by cases hk)
  have h':=stay w.pos (w.j8-o.n) 1 c.ground hwc (by omega) (by omega) hgr
  rw[G7]at h' ⊢
  obtain⟨h1,h2,h3,h4,h5,h6,h7,h8,h9,h10,h11⟩:=h'
  exact⟨h1,h2,h3,h4,h5,h6,h7,s1,s2,h10,s3⟩
 ·exact fin 1 (by omega)
theorem c3U {m:PMap} {c:Cll} {s:Nat} {p:Pcl} (h:s5 m c=true) (hp:J8 m p=true) (hs : ¬b7 m c.cell s = -1):s5 m (y4 m c s p).c=true:=by
 have hs2:s<2:=by
  have:=(L7 hs).2.2.2
  omega
 have hpc:0≤p.n∧p.n≤4999∧(p.kind=1∧S3 m p.wlk=true∧p.j8=0∨p.kind=2∧1≤p.j8∧p.j8≤9):=by
  simp only[J8,decide_eq_true_eq]at hp
  refine⟨hp.2.1,hp.2.2.1,hp.2.2.2.imp id fun h=>⟨h.1,h.2.2.1,h.2.2.2⟩⟩
 have hins : ¬(¬p.n=nth .int c.ins s)→(G0 c s).length=2 ∧ ∀s',s'<2→b8R m c.cell (nth .pcls c.outs s') (nth .int c.next s') (nth .int (G0 c s) s') s':=by
  intro hn
  obtain⟨_,_,_,_,_,_,_,ho,hnx,hi,hsb⟩:=G7.1 h
  refine⟨by simp[G0,hi],fun s' hs' => ?_⟩
  obtain⟨b1,b2,b3,b4,b5⟩:=hsb s' hs'
  unfold G0
  by_cases he:s=s'
  ·subst he
   rw[j9 .int (by omega)]
   exact⟨b1,d5P b2,le_succ (by simpa using hn) hpc.2.1,fun hh=>absurd hh hs,b5⟩
  ·rw[m5 .int he]
   exact⟨b1,b2,b3,b4,b5⟩
 unfold y4
 split
 ·exact h
 rename_i e1
 obtain⟨i1,i2⟩:=hins (fun hh=>e1 (.inl hh))
 split
 ·rw[G7]at h ⊢
  obtain⟨h1,h2,h3,h4,h5,h6,h7,h8,h9,h10,h11⟩:=h
  exact⟨h1,h2,h3,h4,h5,by show 0≤c.ground+p.j8;omega,by show c.ground+p.j8≤900;omega,h8,h9,i1,i2⟩
 split
 ·exact h
 ·rename_i e2 e3
  have hw:S3 m p.wlk=true:=by
   rcases hpc.2.2 with ⟨_,h2,_⟩|⟨h2,_⟩
   ·exact h2
   ·exact absurd h2 e2
  have hpos:e8 m p.wlk.pos=c.cell:=by
   rcases Decidable.em (e8 m p.wlk.pos=c.cell)with h2|h2
   ·exact h2
   ·exact absurd (.inr h2) e3
  rw[G7]at h ⊢
  obtain⟨h1,h2,h3,h4,h5,h6,h7,h8,h9,h10,h11⟩:=h
  refine⟨fun x hx => ?_,c5g h2,h3,h4,h5,h6,h7,h8,h9,i1,i2⟩
  rcases b6W hx with hx|rfl
  ·exact h1 x hx
  ·exact⟨hw,hpos⟩
theorem c9B {m:PMap} {c:Cll} {s:Nat} {n:Int} (h:s5 m c=true) (hs:s<2):s5 m (I0 c s n).c=true:=by
 unfold I0
 split
 ·exact h
 ·rename_i e1
  rw[G7]at h ⊢
  obtain⟨h1,h2,h3,h4,h5,h6,h7,h8,h9,h10,h11⟩:=h
  refine⟨h1,h2,h3,h4,h5,h6,h7,by simp[T9,h8],h9,h10,fun s' hs' => ?_⟩
  obtain⟨b1,b2,b3,b4,b5⟩:=h11 s' hs'
  simp only[T9]
  by_cases he:s=s'
  ·subst he
   rw[j9 .pcls (by omega)]
   have hle : ¬(nth .int c.next s<n) ∧ ¬(n≤nth .int c.next s-(nth .pcls c.outs s).length):=⟨fun hh=>e1 (.inl hh),fun hh=>e1 (.inr hh)⟩
   have hd:=a8b (x:=n) b1 (by have:=hle.2;omega)
   refine⟨?_,b2,b3,b4,fun p hp=>b5 p ((List.mem_filter.1 hp).1)⟩
   rw[hd]
   have e2 : ¬ @LT.lt Int _ (nth .int c.next s) n:=hle.1
   refine b2h b1 ?_
   have e3:=(N6.1 b1).2.2.2.1
   have e4 : @LE.le Int _ ((nth .pcls c.outs s).length:Int) (nth .int c.next s):=e3
   generalize ((nth .pcls c.outs s).length)=L at *
   generalize (nth .int c.next s:Int)=N at *
   omega
  ·rw[m5 .pcls he]
   exact⟨b1,b2,b3,b4,b5⟩
theorem a5F {m:PMap} {c:Cll} {r:Rec} (h:s5 m c=true) (hr:I4 m r=true):s5 m (m0 m c r).c=true:=by
 simp only[I4,decide_eq_true_eq]at hr
 obtain⟨_,h2,h3⟩:=hr
 rw[S7]at h2
 unfold m0
 split
 ·split
  ·exact c1z h (by
    rcases h2 with h2|h2|h2
    ·exact h2.2.1
    ·omega
    ·omega)
  ·exact h
 split
 ·exact h
 rename_i hk hsd
 have hss:(r.side.toNat:Int)=r.side:=by omega
 split
 ·rename_i hk2
  exact c3U h (h3 hk2) (by rw[hss];exact hsd)
 ·exact c9B h (by omega)
end Go.Mo
namespace Go.Sx
def St.fgs (σ : St):List Nat→St
 |[] => σ
 |k::ks=>(σ.fg k).fgs ks
end Go.Sx
namespace Go.Mo
open Go.Sx
def v8 (m:PMap) (c:Cll) (l:List Rec):Nat→Cll
 | 0=>c
 |k+1=>(m0 m (v8 m c l k) (nth .rcd l k)).c
theorem b0O (m:PMap) (c:Cll) (l:List Rec):v8 m c l 0=c:=rfl
theorem Q9 (m:PMap) (c:Cll) (l:List Rec) (k:Nat):v8 m c l (k+1)=(m0 m (v8 m c l k) (nth .rcd l k)).c:=rfl
def R0 (m:PMap) (c:Cll) (l:List Rec) (k:Nat):Bool:=I4 m (nth .rcd l k)&&(m0 m (v8 m c l k) (nth .rcd l k)).ok
def a0L (m:PMap) (c:Cll) (l:List Rec):Nat:=((List.range l.length).find? fun k => !R0 m c l k).getD l.length
def a3P (m:PMap) (c:Cll) (l:List Rec):Cll:=v8 m c l (a0L m c l)
theorem a8N {m:PMap} {c:Cll} {l:List Rec} (h:s5 m c=true) : ∀ {k:Nat},m9 k (R0 m c l)=true→s5 m (v8 m c l k)=true
 | 0,_=>h
 |k+1,hk=>by
  rw[n5,Bool.and_eq_true]at hk
  simp only[R0,Bool.and_eq_true]at hk
  exact a5F (a8N h hk.1) hk.2.1
theorem c1i {m:PMap} {c:Cll} {l:List Rec} {k:Nat} (hk:k<l.length) (h:m9 k (R0 m c l)=true) (hf:R0 m c l k=false):a0L m c l=k:=by
 unfold a0L
 have h1:(List.range l.length).find? (fun k => !R0 m c l k)=some k:=List.find?_range_eq_some.2 ⟨by simp[hf],by simpa using hk,fun j hj=>by simp[(l8 _ _).1 h j hj]⟩
 rw[h1]
 rfl
theorem a9T {m:PMap} {c:Cll} {l:List Rec} {k:Nat} (hk:k=l.length) (h:m9 k (R0 m c l)=true):a0L m c l=k:=by
 subst hk
 unfold a0L
 have h1:(List.range l.length).find? (fun k => !R0 m c l k)=none:=List.find?_eq_none.2 fun j hj=>by simpa using(l8 _ _).1 h j (by simpa using hj)
 rw[h1]
 rfl
theorem b3m (m:PMap) (c:Cll) (l:List Rec):m9 (a0L m c l) (R0 m c l)=true:=by
 rw[l8]
 intro j hj
 unfold a0L at hj
 cases h:(List.range l.length).find? fun k => !R0 m c l k with
 |none =>
  rw[h]at hj
  simp at hj
  have:=List.find?_eq_none.1 h j (by simpa using hj)
  simpa using this
 |some k =>
  rw[h]at hj
  simp at hj
  have h2:=(List.find?_range_eq_some.1 h).2.2 j hj
  simpa using h2
theorem d3w {m:PMap} {c:Cll} {l:List Rec} (h:s5 m c=true):s5 m (a3P m c l)=true:=a8N h (b3m m c l)
theorem a9S {c:Cll} {o:Ord} (h:Q5 c o=true):u4 c.wlks o.who=true:=by
 simp only[Q5,Bool.and_eq_true]at h
 exact h.1
theorem Z6 {c:Cll} {o:Ord} (h:Q5 c o=true) : ¬l6 c.wlks o.who<0∧(nth .wlk c.wlks (l6 c.wlks o.who).toNat).seq<o.seq:=by
 have h1:=a9S h
 have h2:=T6 h1
 simp only[Q5,Bool.and_eq_true,decide_eq_true_eq]at h
 rw[a5z h1]at h
 exact⟨by omega,h.2⟩
structure CN where
 c:Cll
 n:Int
def Y1 (m:PMap) (c:Cll) (l:List Rec):CN:=if s5 m c=true∧l.length≤250 then⟨a3P m c l,a0L m c l⟩else⟨O1,0⟩
theorem b2I {m:PMap} {r:Rec} (h:I4 m r=true) (hk:r.kind=1):y9 r.ord=true:=by
 simp only[I4,decide_eq_true_eq]at h
 have:=S7.1 h.2.1
 rcases this with h|h|h
 ·exact h.2.1
 ·omega
 ·omega
theorem a8B {m:PMap} {r:Rec} (h:I4 m r=true) (hk:r.kind=2):J8 m r.pcl=true:=by
 simp only[I4,decide_eq_true_eq]at h
 exact h.2.2 hk
def small (b:List Wlk) (d:List (List Pcl)):Prop:=b.length≤1000 ∧ ∀i,(nth .pcls d i).length≤5000
theorem a7q {m:PMap} {c:Cll} {o:Ord} (h:s5 m c=true) (ho:y9 o=true):s5 m (a4C m c o).c=true:=by
 unfold a4C
 rw[if_pos ⟨h,ho⟩]
 exact c1z h ho
end Go.Mo
