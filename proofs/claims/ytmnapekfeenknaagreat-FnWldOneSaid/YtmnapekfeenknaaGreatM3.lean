/-
  Plain laws: holds and o8 that stand in order; put and let go of, both ways are one.
-/
import Derived.Test.YtmnapekfeenknaaGreatM2
import Derived.Test.YtmnapekfeenknaaGreatS4e
set_option linter.unusedVariables false
set_option linter.unusedSimpArgs false
namespace Go.Mo
open Go.Sx
theorem d3a {α : Type} (p : α → Bool) (x : α) (l:List α):idx p (x::l)=if p x=true then 0 else if idx p l = -1 then -1 else idx p l+1:=by
 unfold idx
 rw[List.findIdx?_cons]
 by_cases h:p x=true
 ·simp[h]
 ·simp[h]
  cases l.findIdx? p with
  |none=>simp
  |some i =>
   have : ¬((i:Int) = -1):=by omega
   simp[this]
theorem d8s {α : Type} (p : α → Bool) (l:List α) : -1≤idx p l:=by
 unfold idx
 split<;>omega
def putH:List Hld→Hld→List Hld
 |[],h => [h]
 |x::l,h=>if h.state.cell<x.state.cell then h::x::l else if h.state.cell=x.state.cell then h::l else x::putH l h
def insH:List Hld→Hld→List Hld
 |[],h => [h]
 |x::l,h=>if h.state.cell<x.state.cell then h::x::l else x::insH l h
abbrev HSort (l:List Hld):Prop:=l.Pairwise fun a b=>a.state.cell<b.state.cell
theorem b2W {m:PMap} {s:Srv} (h:C0 m s=true):HSort s.holds:=by
 refine List.pairwise_iff_getElem.2 ?_
 intro i j hi hj hij
 have:=a3r h hij hj
 rwa [k9 .hld _ _ hi,k9 .hld _ _ hj]at this
def a4t (h:Hld) (o:HB) (l:List Hld):HB:=l.foldl (fun o x=>a2k h x o) o
theorem c8T (l:List Hld) (h:Hld) (k:Nat) (hk:k≤l.length):hpTo l h k=a4t h ⟨[],false⟩ (l.take k):=by
 induction k with
 |zero=>rfl
 |succ k ih =>
  rw[a9N,ih (by omega),k9 .hld l k (by omega)]
  have e:l.take (k+1)=l.take k ++ [l[k]]:=List.take_succ_eq_append_getElem (by omega)
  rw[e]
  simp only[a4t,List.foldl_append,List.foldl_cons,List.foldl_nil]
theorem b0K (h:Hld) : ∀(l acc:List Hld),a4t h ⟨acc,true⟩ l=⟨acc++l,true⟩
 |[],acc=>by simp[a4t]
 |x::l,acc=>by
  have:=b0K h l (acc ++ [x])
  simp only[a4t,List.foldl_cons]at this ⊢
  rw[show a2k h x ⟨acc,true⟩=⟨acc ++ [x],true⟩ by simp[a2k],this]
  simp
def c5S (h:Hld) (o:HB):List Hld:=if o.d=false then o.l ++ [h]else o.l
theorem b2X (h:Hld) : ∀(l acc:List Hld),c5S h (a4t h ⟨acc,false⟩ l)=acc++insH l h
 |[],acc=>by simp[a4t,c5S,insH]
 |x::l,acc=>by
  by_cases hx:h.state.cell<x.state.cell
  ·have:=b0K h l (acc ++ [h] ++ [x])
   simp only[a4t,List.foldl_cons]at this ⊢
   rw[show a2k h x ⟨acc,false⟩=⟨acc ++ [h] ++ [x],true⟩ by simp[a2k,hx],this]
   simp[c5S,insH,hx]
  ·have:=b2X h l (acc ++ [x])
   simp only[a4t,List.foldl_cons]at this ⊢
   rw[show a2k h x ⟨acc,false⟩=⟨acc ++ [x],false⟩ by simp[a2k,hx],this]
   simp[insH,hx]
theorem d3d (l:List Hld) (h:Hld):c5R l h=insH l h:=by
 have h1:=c8T l h l.length (Nat.le_refl _)
 have h2:=b2X h l []
 rw[List.take_length]at h1
 rw[←h1]at h2
 simpa [c5R,c5S]using h2
theorem c3s {l:List Hld} {h:Hld} (hl : ∀x∈l,h.state.cell<x.state.cell):insH l h=h::l:=by
 cases l with
 |nil=>rfl
 |cons x l=>simp[insH,hl x (by simp)]
theorem a8G {l:List Hld} {c:Int} (hl : ∀x∈l,x.state.cell≠c):G9 l c=l:=by
 unfold G9
 rw[List.filter_eq_self]
 intro x hx
 simp[hl x hx]
theorem c0M : ∀ {l:List Hld} {h:Hld},HSort l→a6e l h=putH l h:=by
 intro l h hs
 unfold a6e
 rw[d3d]
 induction l with
 |nil=>rfl
 |cons x l ih =>
  obtain⟨hx,hl⟩:=List.pairwise_cons.1 hs
  by_cases h1:h.state.cell<x.state.cell
  ·rw[a8G (fun y hy => ?_)]
   ·simp[putH,insH,h1]
   ·rcases List.mem_cons.1 hy with rfl|hy
    ·omega
    ·have:=hx y hy;omega
  ·by_cases h2:h.state.cell=x.state.cell
   ·have:G9 (x::l) h.state.cell=l:=by
     rw[show G9 (x::l) h.state.cell=G9 l h.state.cell by simp[G9,h2]]
     exact a8G fun y hy=>by have:=hx y hy;omega
    rw[this,c3s (fun y hy=>by have:=hx y hy;omega)]
    simp[putH,h2]
   ·rw[show G9 (x::l) h.state.cell=x::G9 l h.state.cell by
     have : ¬x.state.cell=h.state.cell:=fun hh=>h2 hh.symm
     simp[G9,this]]
    simp[putH,insH,h1,h2,ih hl]
theorem a4u : ∀ {l:List Hld} {h:Hld},HSort l→Y8 l h=putH l h:=by
 intro l h hs
 induction l with
 |nil=>simp[Y8,k8,idx,insL,a5t,putH]
 |cons x l ih =>
  obtain⟨hx,hl⟩:=List.pairwise_cons.1 hs
  have hi:=d3a (a0r h.state.cell) x l
  have hge:=d8s (a0r h.state.cell) l
  by_cases h1:h.state.cell<x.state.cell
  ·have hno:k8 (x::l) h.state.cell = -1:=by
    rcases C6 (a0r h.state.cell) (x::l)with ⟨e,_⟩|⟨k,hk,e,h2,_⟩
    ·exact e
    ·exfalso
     simp only[a0r,decide_eq_true_eq]at h2
     have hm:=List.getElem_mem hk
     rcases List.mem_cons.1 hm with he|he
     ·rw[he]at h2;omega
     ·have:=hx _ he;omega
   rw[Y8,hno,if_neg (by omega)]
   have:a5t (x::l) h.state.cell=0:=by
    simp[a5t,List.takeWhile_cons,show ¬x.state.cell<h.state.cell by omega]
   simp[this,insL,putH,h1]
  ·by_cases h2:h.state.cell=x.state.cell
   ·have he:k8 (x::l) h.state.cell=0:=by
     unfold k8
     rw[hi,if_pos (by simp[a0r,h2])]
    rw[Y8,he]
    simp[putH,h2]
   ·have ih:=ih hl
    have he:k8 (x::l) h.state.cell=if k8 l h.state.cell = -1 then -1 else k8 l h.state.cell+1:=by
     unfold k8
     rw[hi,if_neg (by simp[a0r];omega)]
    have hp:a5t (x::l) h.state.cell=a5t l h.state.cell+1:=by
     simp[a5t,List.takeWhile_cons,show x.state.cell<h.state.cell by omega]
    unfold Y8 at ih ⊢
    have hge' : -1≤k8 l h.state.cell:=hge
    generalize k8 (x::l) h.state.cell=P at *
    generalize k8 l h.state.cell=R at *
    by_cases h0:0≤R
    ·rw[if_pos h0]at ih
     rw[if_neg (by omega)]at he
     subst he
     rw[if_pos (by omega),show(R+1).toNat=R.toNat+1 by omega,List.set_cons_succ,ih]
     simp[putH,h1,h2]
    ·rw[if_neg h0]at ih
     rw[if_pos (by omega)]at he
     subst he
     rw[if_neg (by omega),hp]
     simp only[insL,List.take_succ_cons,List.drop_succ_cons,List.cons_append]at ih ⊢
     rw[ih]
     simp[putH,h1,h2]
theorem c3u {l:List Hld} {h:Hld} (hs:HSort l):a6e l h=Y8 l h:=by rw[c0M hs,a4u hs]
abbrev GSort (l:List Gst):Prop:=l.Pairwise fun a b=>H4 a b=true
theorem K5 {a b:Gst}:H4 a b=true↔a.src<b.src∨a.src=b.src∧a.wlk.id<b.wlk.id:=by simp[H4]
theorem b3d {m:PMap} {l:List Gst} (h:E8 m l=true):GSort l:=by
 have hs : ∀k,k<l.length→0<k→H4 (nth .gst l (k-1)) (nth .gst l k)=true:=fun k hk h0=>by
  unfold E8 at h
  rw[Bool.and_eq_true]at h
  have:=(l8 _ _).1 h.2 k hk
  simp only[a3N,Bool.and_eq_true,Bool.or_eq_true,decide_eq_true_eq]at this
  exact this.2.resolve_left (by omega)
 have hall : ∀j,j<l.length → ∀i,i<j→H4 (nth .gst l i) (nth .gst l j)=true:=by
  intro j
  induction j with
  |zero=>intro _ i hi;omega
  |succ j ih =>
   intro hj i hi
   have h1:=hs (j+1) hj (by omega)
   simp only[Nat.add_sub_cancel]at h1
   by_cases he:i=j
   ·subst he;exact h1
   ·have h2:=ih (by omega) i (by omega)
    rw[K5]at h1 h2 ⊢
    omega
 refine List.pairwise_iff_getElem.2 ?_
 intro i j hi hj hij
 have:=hall j hj i hij
 rwa [k9 .gst _ _ hi,k9 .gst _ _ hj]at this
def a8E (x g:Gst):Gst:=if x.count<g.count then g else x
def putG (room:Bool):List Gst→Gst→List Gst
 |[],g=>if room=true then[g]else[]
 |x::l,g=>if H4 g x=true then(if room=true then g::x::l else x::l)else if x.src=g.src∧x.wlk.id=g.wlk.id then a8E x g::l else x::putG room l g
def a0t (L:List Gst) (g:Gst) (o:GB) (l:List Gst):GB:=l.foldl (fun o x=>V9 L g x o) o
theorem c9c (l:List Gst) (g:Gst) (k:Nat) (hk:k≤l.length):gpTo l g k=a0t l g ⟨[],false⟩ (l.take k):=by
 induction k with
 |zero=>rfl
 |succ k ih =>
  rw[a9R,ih (by omega),k9 .gst l k (by omega)]
  have e:l.take (k+1)=l.take k ++ [l[k]]:=List.take_succ_eq_append_getElem (by omega)
  rw[e]
  simp only[a0t,List.foldl_append,List.foldl_cons,List.foldl_nil]
theorem a5v (L:List Gst) (g:Gst) : ∀(l acc:List Gst),(∀x∈l,¬(x.src=g.src∧x.wlk.id=g.wlk.id))→a0t L g ⟨acc,true⟩ l=⟨acc++l,true⟩
 |[],acc,_=>by simp[a0t]
 |x::l,acc,hl=>by
  have:=a5v L g l (acc ++ [x]) fun y hy=>hl y (List.mem_cons_of_mem _ hy)
  simp only[a0t,List.foldl_cons]at this ⊢
  rw[show V9 L g x ⟨acc,true⟩=⟨acc ++ [x],true⟩ by simp[V9,hl x (by simp)],this]
  simp
theorem b0N (L:List Gst) (g:Gst) (hL : ¬L.length<20) : ∀(l acc:List Gst),(∀x∈l,¬(x.src=g.src∧x.wlk.id=g.wlk.id))→(a0t L g ⟨acc,false⟩ l).l=acc++l
 |[],acc,_=>by simp[a0t]
 |x::l,acc,hl=>by
  have:=b0N L g hL l (acc ++ [x]) fun y hy=>hl y (List.mem_cons_of_mem _ hy)
  simp only[a0t,List.foldl_cons]at this ⊢
  rw[show V9 L g x ⟨acc,false⟩=⟨acc ++ [x],false⟩ by simp[V9,hl x (by simp),hL],this]
  simp
def b5O (L:List Gst) (g:Gst) (o:GB):List Gst:=if o.d=false∧L.length<20 then o.l ++ [g]else o.l
theorem b3f (L:List Gst) (g:Gst) : ∀(l acc:List Gst),GSort l→b5O L g (a0t L g ⟨acc,false⟩ l)=acc++putG (decide (L.length<20)) l g
 |[],acc,_=>by by_cases h:L.length<20<;>simp[a0t,b5O,putG,h]
 |x::l,acc,hs=>by
  obtain⟨hx,hl⟩:=List.pairwise_cons.1 hs
  by_cases h1:H4 g x=true
  ·have hne : ∀y∈l,¬(y.src=g.src∧y.wlk.id=g.wlk.id):=fun y hy=>by
    have:=hx y hy
    rw[K5]at this h1
    omega
   have hnx : ¬(x.src=g.src∧x.wlk.id=g.wlk.id):=by rw[K5]at h1;omega
   by_cases hL:L.length<20
   ·have:=a5v L g l (acc ++ [g] ++ [x]) hne
    simp only[a0t,List.foldl_cons]at this ⊢
    rw[show V9 L g x ⟨acc,false⟩=⟨acc ++ [g] ++ [x],true⟩ by simp[V9,hnx,h1,hL],this]
    simp[b5O,putG,h1,hL]
   ·have:=b0N L g hL l (acc ++ [x]) hne
    simp only[a0t,List.foldl_cons]at this ⊢
    rw[show V9 L g x ⟨acc,false⟩=⟨acc ++ [x],false⟩ by simp[V9,hnx,hL]]
    simp[b5O,putG,h1,hL,this]
  ·by_cases h2:x.src=g.src∧x.wlk.id=g.wlk.id
   ·have hne : ∀y∈l,¬(y.src=g.src∧y.wlk.id=g.wlk.id):=fun y hy=>by
     have:=hx y hy
     rw[K5]at this
     omega
    have:=a5v L g l (acc ++ [a8E x g]) hne
    simp only[a0t,List.foldl_cons]at this ⊢
    rw[show V9 L g x ⟨acc,false⟩=⟨acc ++ [a8E x g],true⟩ by simp[V9,h2,a8E],this]
    simp[b5O,putG,h1,h2]
   ·have:=b3f L g l (acc ++ [x]) hl
    simp only[a0t,List.foldl_cons]at this ⊢
    rw[show V9 L g x ⟨acc,false⟩=⟨acc ++ [x],false⟩ by simp[V9,h1,h2],this]
    simp[putG,h1,h2]
theorem c9d {l:List Gst} {g:Gst} (hs:GSort l):c5Y l g=putG (decide (l.length<20)) l g:=by
 have h1:=c9c l g l.length (Nat.le_refl _)
 have h2:=b3f l g l [] hs
 rw[List.take_length]at h1
 rw[←h1]at h2
 simpa [c5Y,b5O]using h2
theorem c0W (x:Gst) (l:List Gst) (g:Gst):V7 (x::l) g=if H4 x g=true then V7 l g+1 else 0:=by
 unfold V7
 rw[List.takeWhile_cons]
 split<;>simp
theorem b5N (room:Bool) : ∀(l:List Gst) (g:Gst),GSort l→(if V7 l g<l.length∧H4 g (nth .gst l (V7 l g))=false then
  (if(nth .gst l (V7 l g)).count<g.count then l.set (V7 l g) g else l)
 else if room=true then insL l (V7 l g) [g]else l)=putG room l g
 |[],g,_=>by simp[V7,insL,putG]
 |x::l,g,hs=>by
  obtain⟨hx,hl⟩:=List.pairwise_cons.1 hs
  have ih:=b5N room l g hl
  rw[c0W]
  by_cases h1:H4 x g=true
  ·have hn:H4 g x=false:=by
    cases hh:H4 g x with
    |false=>rfl
    |true=>rw[K5]at h1 hh;omega
   have hne : ¬(x.src=g.src∧x.wlk.id=g.wlk.id):=by rw[K5]at h1;omega
   rw[if_pos h1]
   have hnth:nth .gst (x::l) (V7 l g+1)=nth .gst l (V7 l g):=by simp[nth]
   rw[hnth]
   simp only[List.length_cons,Nat.add_lt_add_iff_right,List.set_cons_succ,insL,List.take_succ_cons,List.drop_succ_cons,List.cons_append]
   simp only[putG,hn,hne,if_false,Bool.false_eq_true]
   rw[←ih]
   simp only[insL]
   split
   ·split<;>rfl
   ·split<;>rfl
  ·rw[if_neg h1]
   have hnth:nth .gst (x::l) 0=x:=by simp[nth]
   rw[hnth]
   by_cases h2:H4 g x=true
   ·rw[if_neg (by simp[h2])]
    simp[putG,h2,insL]
   ·have he:x.src=g.src∧x.wlk.id=g.wlk.id:=by rw[K5]at h1 h2;omega
    rw[if_pos ⟨by simp,by simpa using h2⟩]
    simp only[putG,h2,he,a8E,List.set_cons_zero]
    by_cases h3:x.count<g.count<;>simp[h3]
theorem a7k {l:List Gst} {g:Gst} (hs:GSort l):a3d l g=putG (decide (l.length<20)) l g:=by
 have:=b5N (decide (l.length<20)) l g hs
 rw[←this]
 simp[a3d]
theorem c3A {m:PMap} {l:List Gst} {g:Gst} (hl:E8 m l=true) (hg:a1x m g=true):a8K m l g=a3d l g:=by
 rw[a8K,if_pos ⟨hl,hg⟩,c9d (b3d hl),a7k (b3d hl)]
end Go.Mo
namespace Go.Sx
end Go.Sx
namespace Go.Mo
open Go.Sx
def b2E (w:Wld):Bool:=decide (w.net.length≤40)&&m9 w.net.length (a8x w)
def a5q (l:List Note) (i:Nat):Bool:=a7a (nth .note l i)
def a8w (l:List Note):Bool:=decide (l.length≤150)&&m9 l.length (a5q l)
def a9n (w:Wld):Bool:=m9 w.servers.length (a4I w)
theorem a1V {f:Nat→Bool} {k n:Nat} (h:m9 k f=true) (hk:k=n):m9 n f=true:=by subst hk;exact h
theorem b4K {w:Wld} {k:Nat} (h:k<w.servers.length) (hw:C0 w.map (nth .srv w.servers k)=false):m9 w.servers.length (a4I w)=false :=
 s7 h (by simp[a4I,hw])
theorem b4J {w:Wld} {k j:Nat} (h:k<w.servers.length) (hj:j<(nth .srv w.servers k).holds.length) (hw:a5J w.table (nth .srv w.servers k).holds j=false):m9 w.servers.length (a4I w)=false :=
 s7 h (by rw[a4I,s7 hj hw,Bool.and_false])
theorem b8M {w:Wld} {k j:Nat} (h1:C0 w.map (nth .srv w.servers k)=true) (h2:m9 j (a5J w.table (nth .srv w.servers k).holds)=true) (hj:j=(nth .srv w.servers k).holds.length):a4I w k=true:=by
 subst hj
 simp[a4I,h1,h2]
theorem b8A {w:Wld} {k:Nat} (h:k<w.stores.length) (hw:a2r w k=false):m9 w.stores.length (a2r w)=false:=s7 h hw
theorem c5I {w:Wld} {k:Nat} (h:k<w.net.length) (hw:a8x w k=false):m9 w.net.length (a8x w)=false:=s7 h hw
theorem b5w {l:List Note} {k:Nat} (h:k<l.length) (hw:a5q l k=false):m9 l.length (a5q l)=false:=s7 h hw
theorem c8B (w:Wld):m9 w.notes.length (c3g w)=m9 w.notes.length (a5q w.notes):=rfl
theorem c5T {m:PMap} {s:Srv} {k:Nat} (h:C0 m s=true) (hk:k<s.holds.length):0≤(nth .hld s.holds k).state.cell∧(nth .hld s.holds k).state.cell<m.cells:=by
 have:=o7 (C2.1 (a6K h hk)).2.2
 exact⟨this.2.2.1,this.2.2.2.1⟩
theorem b2F {m:PMap} {v:Int} {x:Msg} (h:y5 m v x=true):0≤x.cell∧x.cell<m.cells:=by
 simp only[y5,decide_eq_true_eq]at h
 exact⟨h.2.2.2.1,h.2.2.2.2.1⟩
theorem J4 {m:PMap} {t:Arb} {v:Int} (h:D0 m t v=true):(t.servers.length:Int)=m.cells∧(t.ages.length:Int)=m.cells∧o9 m=true∧1≤v∧v≤3:=by
 unfold D0 at h
 rw[Bool.and_eq_true]at h
 have h1:=h.1
 simp only[a0H,decide_eq_true_eq]at h1
 exact⟨h1.2.2.2.1,h1.2.2.2.2,h1.1,h1.2.1,h1.2.2.1⟩
theorem a3n {m:PMap} {l:List Sto} (h:B1 m l=true):(l.length:Int)=m.cells∧o9 m=true:=by
 unfold B1 at h
 rw[Bool.and_eq_true]at h
 have h1:=h.1
 simp only[decide_eq_true_eq]at h1
 exact⟨h1.2,h1.1⟩
theorem b1A {m:PMap} {l:List Sto} (h:B1 m l=true):l.length≤4:=by
 obtain⟨h1,h2⟩:=a3n h
 obtain⟨_,h3,_⟩:=n6.1 h2
 omega
def a7A (w:Wld):Bool:=D0 w.map w.table w.servers.length&&B1 w.map w.stores&&C4 w.map w.rows&&m9 w.stores.length (a2r w)&&a9n w&&b2E w&&a8w w.notes
theorem b4A (w:Wld):m8 w=a7A w:=by
 simp only[m8,a7A,a9n,b2E,a8w,c8B]
 by_cases h1:w.net.length≤40<;>by_cases h2:w.notes.length≤150<;>simp[h1,h2]
theorem R7 (t:RT) {l:List t.ty} {x:t.ty} (h:x∈l) : ∃i,i<l.length∧nth t l i=x:=by
 obtain⟨i,hi,he⟩:=List.getElem_of_mem h
 exact⟨i,hi,by rw[k9 t l i hi];exact he⟩
theorem c0V {m:PMap} {l:List Gst}:E8 m l=true↔l.length≤20∧(∀g∈l,a1x m g=true)∧GSort l:=by
 constructor
 ·intro h
  refine⟨?_,fun g hg => ?_,b3d h⟩
  ·simp only[E8,Bool.and_eq_true,decide_eq_true_eq]at h;exact h.1
  ·obtain⟨i,hi,rfl⟩:=R7 .gst hg
   simp only[E8,Bool.and_eq_true]at h
   have:=(l8 _ _).1 h.2 i hi
   simp only[a3N,Bool.and_eq_true]at this
   exact this.1
 ·rintro⟨h1,h2,h3⟩
  simp only[E8,Bool.and_eq_true,decide_eq_true_eq]
  refine⟨h1,(l8 _ _).2 fun i hi => ?_⟩
  simp only[a3N,Bool.and_eq_true,Bool.or_eq_true,decide_eq_true_eq]
  refine⟨h2 _ (s0 .gst hi),?_⟩
  by_cases h0:i=0
  ·exact .inl h0
  ·right
   have:=List.pairwise_iff_getElem.1 h3 (i-1) i (by omega) hi (by omega)
   rwa [k9 .gst _ _ hi,k9 .gst _ _ (by omega)]
theorem a4v {m:PMap} {l:List Gst}:Z0 m l=true↔o9 m=true∧l.length≤20∧(∀g∈l,a1x m g=true)∧GSort l:=by
 rw[Z0,Bool.and_eq_true,c0V]
theorem E5 {m:PMap} {s:Srv}:C0 m s=true↔Z0 m s.o8=true∧a6s s=true∧(∀h∈s.holds,V5 m h=true)∧HSort s.holds:=by
 constructor
 ·intro h
  refine⟨?_,?_,fun g hg => ?_,b2W h⟩
  ·simp only[C0,Bool.and_eq_true]at h;exact h.1.1
  ·simp only[C0,Bool.and_eq_true]at h;exact h.1.2
  ·obtain⟨i,hi,rfl⟩:=R7 .hld hg
   exact a6K h hi
 ·rintro⟨h1,h2,h3,h4⟩
  simp only[C0,Bool.and_eq_true]
  refine⟨⟨h1,h2⟩,(l8 _ _).2 fun i hi => ?_⟩
  simp only[a3M,Bool.and_eq_true,Bool.or_eq_true,decide_eq_true_eq]
  refine⟨h3 _ (s0 .hld hi),?_⟩
  by_cases h0:i=0
  ·exact .inl h0
  ·right
   have:=List.pairwise_iff_getElem.1 h4 (i-1) i (by omega) hi (by omega)
   rwa [k9 .hld _ _ hi,k9 .hld _ _ (by omega)]
theorem D9 {m:PMap} {l:List Sto}:B1 m l=true↔o9 m=true∧(l.length:Int)=m.cells ∧ ∀i,i<l.length→B2 m (nth .sto l i)=true∧(nth .sto l i).base.cell=(i:Int):=by
 simp only[B1,Bool.and_eq_true,decide_eq_true_eq,and_assoc]
 refine and_congr_right fun _=>and_congr_right fun _ => ?_
 rw[l8]
 simp only[a3o,Bool.and_eq_true,decide_eq_true_eq]
theorem a3s {s:Srv}:a6s s=true↔(s.up=true∨s.holds = []∧s.o8 = []):=by
 simp[a6s]
theorem X3 : ∀ {l:List Hld} {h x:Hld},HSort l→x∈putH l h→x=h∨x∈l∧x.state.cell≠h.state.cell
 |[],h,x,_,hx=>by simp[putH]at hx;exact .inl hx
 |y::l,h,x,hs,hx=>by
  obtain⟨hy,hl⟩:=List.pairwise_cons.1 hs
  simp only[putH]at hx
  split at hx
  ·rename_i h1
   rcases List.mem_cons.1 hx with rfl|hx
   ·exact .inl rfl
   ·right
    refine⟨hx,?_⟩
    rcases List.mem_cons.1 hx with rfl|hx
    ·omega
    ·have:=hy x hx;omega
  ·split at hx
   ·rename_i h1 h2
    rcases List.mem_cons.1 hx with rfl|hx
    ·exact .inl rfl
    ·have:=hy x hx
     exact .inr ⟨List.mem_cons_of_mem _ hx,by omega⟩
   ·rename_i h1 h2
    rcases List.mem_cons.1 hx with rfl|hx
    ·exact .inr ⟨List.mem_cons_self,by omega⟩
    ·rcases X3 hl hx with rfl|⟨h3,h4⟩
     ·exact .inl rfl
     ·exact .inr ⟨List.mem_cons_of_mem _ h3,h4⟩
theorem a9y : ∀ {l:List Hld} {h:Hld},HSort l→HSort (putH l h)
 |[],h,_=>by simp[putH]
 |y::l,h,hs=>by
  obtain⟨hy,hl⟩:=List.pairwise_cons.1 hs
  simp only[putH]
  split
  ·rename_i h1
   refine List.pairwise_cons.2 ⟨fun x hx => ?_,hs⟩
   rcases List.mem_cons.1 hx with rfl|hx
   ·exact h1
   ·have:=hy x hx;omega
  ·split
   ·rename_i h1 h2
    refine List.pairwise_cons.2 ⟨fun x hx => ?_,hl⟩
    have:=hy x hx;omega
   ·rename_i h1 h2
    refine List.pairwise_cons.2 ⟨fun x hx => ?_,a9y hl⟩
    rcases X3 hl hx with rfl|⟨h3,_⟩
    ·omega
    ·exact hy x h3
theorem b8a {l:List Hld} {c:Int} {x:Hld}:x∈G9 l c↔x∈l∧x.state.cell≠c:=by simp[G9]
theorem d3T {l:List Hld} {c:Int} (h:HSort l):HSort (G9 l c):=List.Pairwise.filter _ h
theorem I6 {s:Srv} {c:Int} (h:z7 s c=true):j6 s c∈s.holds∧(j6 s c).state.cell=c:=by
 simp only[z7,decide_eq_true_eq]at h
 have hlt:=a2M s.holds c
 rw[j6,if_pos h]
 exact⟨s0 .hld (by omega),a3L h⟩
theorem a7U {room:Bool} : ∀ {l:List Gst} {g x:Gst},x∈putG room l g→x=g∨x∈l
 |[],g,x,h=>by
  simp only[putG]at h
  split at h
  ·exact .inl (by simpa using h)
  ·simp at h
 |y::l,g,x,h=>by
  simp only[putG]at h
  split at h
  ·split at h
   ·rcases List.mem_cons.1 h with rfl|h
    ·exact .inl rfl
    ·exact .inr h
   ·exact .inr h
  ·split at h
   ·rcases List.mem_cons.1 h with rfl|h
    ·unfold a8E
     split
     ·exact .inl rfl
     ·exact .inr List.mem_cons_self
    ·exact .inr (List.mem_cons_of_mem _ h)
   ·rcases List.mem_cons.1 h with rfl|h
    ·exact .inr List.mem_cons_self
    ·rcases a7U h with h|h
     ·exact .inl h
     ·exact .inr (List.mem_cons_of_mem _ h)
theorem c8G (x g:Gst) (he:x.src=g.src∧x.wlk.id=g.wlk.id):(a8E x g).src=g.src∧(a8E x g).wlk.id=g.wlk.id:=by
 unfold a8E
 split
 ·exact⟨rfl,rfl⟩
 ·exact he
theorem b5g {room:Bool} : ∀ {l:List Gst} {g:Gst},GSort l→GSort (putG room l g)
 |[],g,_=>by simp only[putG];split<;>simp
 |y::l,g,hs=>by
  obtain⟨hy,hl⟩:=List.pairwise_cons.1 hs
  simp only[putG]
  split
  ·rename_i h1
   split
   ·refine List.pairwise_cons.2 ⟨fun x hx => ?_,hs⟩
    rcases List.mem_cons.1 hx with rfl|hx
    ·exact h1
    ·have:=hy x hx
     rw[K5]at *
     omega
   ·exact hs
  ·split
   ·rename_i h1 h2
    refine List.pairwise_cons.2 ⟨fun x hx => ?_,hl⟩
    have:=hy x hx
    have hk:=c8G y g h2
    rw[K5]at *
    omega
   ·rename_i h1 h2
    refine List.pairwise_cons.2 ⟨fun x hx => ?_,b5g hl⟩
    rcases a7U hx with rfl|h3
    ·rw[K5]at *
     omega
    ·exact hy x h3
theorem b9C {room:Bool} : ∀(l:List Gst) (g:Gst),(putG room l g).length≤l.length+(if room=true then 1 else 0)
 |[],g=>by simp only[putG];split<;>simp
 |y::l,g=>by
  have:=b9C (room:=room) l g
  simp only[putG]
  split
  ·split<;>simp
  ·split
   ·simp
   ·simp only[List.length_cons];omega
theorem c8Z {m:PMap} {l:List Gst} {g:Gst} (hl:Z0 m l=true) (hg:a1x m g=true):Z0 m (a3d l g)=true:=by
 obtain⟨h1,h2,h3,h4⟩:=a4v.1 hl
 rw[a7k h4]
 refine a4v.2 ⟨h1,?_,fun x hx => ?_,b5g h4⟩
 ·have:=b9C (room:=decide (l.length<20)) l g
  by_cases h5:l.length<20
  ·rw[decide_eq_true h5,if_pos rfl]at this
   rw[decide_eq_true h5]
   omega
  ·rw[decide_eq_false h5]at this ⊢
   simp at this
   omega
 ·rcases a7U hx with rfl|hx
  ·exact hg
  ·exact h3 x hx
theorem b1s {m:PMap} {h:Hld} {s:Sto} {r:Rec} (hn:(x9 m h s r).n=1) :
  V5 m h=true∧B2 m s=true∧h.age=s.age∧h.count=s.recs.length∧h.count<250∧I4 m r=true∧(m0 m (r9 m s) r).ok=true∧(m0 m h.state r).ok=true ∧
  (x9 m h s r).h=⟨h.age,h.count+1,(m0 m h.state r).c⟩∧(x9 m h s r).s=⟨s.age,s.base,s.recs ++ [r]⟩∧(x9 m h s r).k=(m0 m h.state r).code:=by
 unfold x9 at *
 split at hn
 ·rename_i hc
  rw[if_pos hc]
  split at hn
  ·rename_i h1
   exact absurd hn h1
  split at hn
  ·cases hn
  ·rename_i h1 h2
   rw[if_neg h1,if_neg h2]
   have h1:(M3 m s h.age h.count r).n=1:=Classical.not_not.1 h1
   have hl:=(z6.1 hc.2).2.2.1
   rcases a3Q m s h.age h.count r with ⟨_,h3⟩|⟨h3,h4,h5,h6,h7,h8,h9⟩
   ·omega
   ·exact⟨hc.1,hc.2,h5,h6,by omega,h8,h9,by simpa using h2,rfl,h3,rfl⟩
 ·cases hn
theorem c6T {m:PMap} {h:Hld} {s:Sto} {r:Rec} (hh:V5 m h=true) (hs:B2 m s=true):(x9 m h s r).n=2↔h.age≠s.age:=by
 constructor
 ·intro hn he
  unfold x9 at hn
  rw[if_pos ⟨hh,hs⟩]at hn
  split at hn
  ·rcases a3Q m s h.age h.count r with ⟨_,h2⟩|⟨_,h2,_⟩
   ·have hn:(M3 m s h.age h.count r).n=2:=hn
    omega
   ·have hn:(M3 m s h.age h.count r).n=2:=hn
    omega
  split at hn
  ·cases hn
  ·cases hn
 ·intro he
  exact(b6r hh hs he).2.2
theorem a9M (m:PMap) (c:Cll) (i:Nat) (w:Wlk) (o:Ord):(S1 m c i w o).c.cell=c.cell:=by
 unfold S1 a0z a0B a0C a0A U0
 repeat' split
 all_goals rfl
theorem d6B (m:PMap) (c:Cll) (o:Ord):(I8 m c o).c.cell=c.cell:=by
 unfold I8
 split
 ·rfl
 ·simp only
  split
  ·rfl
  ·split
   ·rfl
   ·exact a9M m c _ _ o
theorem a0T (m:PMap) (c:Cll) (r:Rec):(m0 m c r).c.cell=c.cell:=by
 unfold m0
 split
 ·split
  ·exact d6B m c r.ord
  ·rfl
 ·split
  ·rfl
  ·split
   ·simp only[y4]
    split
    ·rfl
    ·split
     ·rfl
     ·split<;>rfl
   ·simp only[I0]
    split<;>rfl
theorem b0P (m:PMap) (c:Cll) (l:List Rec) : ∀k,(v8 m c l k).cell=c.cell
 | 0=>rfl
 |k+1=>by rw[Q9,a0T,b0P m c l k]
theorem a0N (m:PMap) (s:Sto):(r9 m s).cell=s.base.cell:=b0P m s.base s.recs _
def p9 (x:Msg):Rec:=if x.kind=2 then⟨1,x.ord,0,A2,0⟩else if x.kind=5 then⟨2,x6,x.side,x.pcl,0⟩else⟨3,x6,x.side,A2,x.n⟩
def o6 (st:List Sto) (x:Msg):Sto:=nth .sto st x.cell.toNat
inductive Eff (m:PMap) (s:Srv) (st:List Sto) (x:Msg):Srv→List Sto→Prop
 |same:Eff m s st x s st
 |ghost (hu:s.up=true) (hk:x.kind=7):Eff m s st x ⟨s.up,s.holds,a3d s.o8 x.gst⟩ st
 |grant (hu:s.up=true) (hk:x.kind=1) (hn:z7 s x.cell=true→(j6 s x.cell).age<x.n) (ha:(o6 st x).age≤x.n) :
   Eff m s st x ⟨s.up,putH s.holds ⟨x.n,(o6 st x).recs.length,r9 m (o6 st x)⟩,s.o8⟩ (st.set x.cell.toNat ⟨x.n,(o6 st x).base,(o6 st x).recs⟩)
 |lost (hu:s.up=true) (hk:x.kind=2∨x.kind=5∨x.kind=6) (hh:z7 s x.cell=true) (ha:(j6 s x.cell).age≠(o6 st x).age):Eff m s st x ⟨s.up,G9 s.holds x.cell,s.o8⟩ st
 |write (hu:s.up=true) (hk:x.kind=2∨x.kind=5∨x.kind=6) (hh:z7 s x.cell=true) (ha:(j6 s x.cell).age=(o6 st x).age) (hc:(j6 s x.cell).count=(o6 st x).recs.length) (hl:(j6 s x.cell).count<250)
   (hr:I4 m (p9 x)=true) (h1:(m0 m (r9 m (o6 st x)) (p9 x)).ok=true) (h2:(m0 m (j6 s x.cell).state (p9 x)).ok=true)
   (hf:x.kind=2→u4 (j6 s x.cell).state.wlks x.ord.who=true∧(F5 (j6 s x.cell).state.wlks x.ord.who).seq<x.ord.seq)
   (hp:x.kind=5→nth .int (j6 s x.cell).state.ins x.side.toNat≤x.pcl.n) :
   Eff m s st x ⟨s.up,putH s.holds ⟨(j6 s x.cell).age,(j6 s x.cell).count+1,(m0 m (j6 s x.cell).state (p9 x)).c⟩,s.o8⟩ (st.set x.cell.toNat ⟨(o6 st x).age,(o6 st x).base,(o6 st x).recs ++ [p9 x]⟩)
theorem a2R {m:PMap} {st:List Sto} {v:Int} {x:Msg} (h:B1 m st=true) (hx:y5 m v x=true):0≤x.cell∧x.cell.toNat<st.length∧B2 m (o6 st x)=true∧(o6 st x).base.cell=x.cell:=by
 obtain⟨h1,h2⟩:=b2F hx
 obtain⟨h3,h4,h5⟩:=D9.1 h
 have hl:x.cell.toNat<st.length:=by omega
 obtain⟨h6,h7⟩:=h5 _ hl
 exact⟨h1,hl,h6,by rw[o6,h7];omega⟩
theorem a3J {m:PMap} {v:Int} {x:Msg} (hx:y5 m v x=true):(x.kind=1∨x.kind=2∨x.kind=5∨x.kind=6∨x.kind=7)∧0≤x.dest∧x.dest<v∨(x.kind=3∨x.kind=4)∧x.dest = -1:=by
 simp only[y5,J2,decide_eq_true_eq]at hx
 omega
theorem a0d {m:PMap} {s:Srv} {st:List Sto} {v:Int} {x:Msg} (hs:C0 m s=true) (hst:B1 m st=true) (hx:y5 m v x=true) (hu:s.up=true) (hk:x.kind=2∨x.kind=5∨x.kind=6) (hh:z7 s x.cell=true)
  (hf:x.kind=2→u4 (j6 s x.cell).state.wlks x.ord.who=true∧(F5 (j6 s x.cell).state.wlks x.ord.who).seq<x.ord.seq)
  (hp:x.kind=5→nth .int (j6 s x.cell).state.ins x.side.toNat≤x.pcl.n) :
  Eff m s st x (C7 m s st x.cell (p9 x)).srv (C7 m s st x.cell (p9 x)).stores ∧
  ((C7 m s st x.cell (p9 x)).n=1→(C7 m s st x.cell (p9 x)).k=(m0 m (j6 s x.cell).state (p9 x)).code∧(C7 m s st x.cell (p9 x)).stores=st.set x.cell.toNat ⟨(o6 st x).age,(o6 st x).base,(o6 st x).recs ++ [p9 x]⟩ ∧
   (j6 s x.cell).age=(o6 st x).age∧(j6 s x.cell).count=(o6 st x).recs.length∧(m0 m (j6 s x.cell).state (p9 x)).ok=true∧(m0 m (r9 m (o6 st x)) (p9 x)).ok=true∧I4 m (p9 x)=true):=by
 obtain⟨_,_,hso,_⟩:=a2R hst hx
 obtain⟨hm,_⟩:=I6 hh
 obtain⟨_,_,hall,hsort⟩:=E5.1 hs
 have hho:=hall _ hm
 unfold C7
 simp only
 rw[a4u hsort]
 split
 ·rename_i hn
  obtain⟨g1,g2,g3,g4,g5,g6,g7,g8,g9,g10,g11⟩:=b1s hn
  refine⟨?_,fun _=>⟨g11,by rw[g10];rfl,g3,g4,g8,g7,g6⟩⟩
  have:=Eff.write hu hk hh g3 g4 g5 g6 g7 g8 hf hp
  rw[g9,g10]
  exact this
 ·split
  ·rename_i hn1 hn
   exact⟨.lost hu hk hh ((c6T hho hso).1 hn),fun h=>by cases h⟩
  ·rename_i hn1 hn2
   exact⟨.same,fun h=>absurd h hn1⟩
theorem a9O {m:PMap} {s:Srv} {st:List Sto} {t:Arb} {v:Int} {x:Msg} (hs:C0 m s=true) (hst:B1 m st=true) (hx:y5 m v x=true):Eff m s st x (r8 m s st t x).srv (r8 m s st t x).stores:=by
 obtain⟨_,_,_,hsort⟩:=E5.1 hs
 unfold r8
 split
 ·exact .same
 rename_i hu0
 have hu:s.up=true:=by
  cases h:s.up with
  |true=>rfl
  |false=>exact absurd (.inl h) hu0
 have hkk:=a3J hx
 have hd : ¬x.dest = -1:=fun h=>hu0 (.inr h)
 split
 ·rename_i hk
  unfold N4
  split
  ·exact .same
  rename_i hn
  split
  ·exact .same
  rename_i ha
  rw[a4u hsort]
  refine .grant hu hk (fun hh => ?_) ?_
  ·exact Int.not_le.1 fun hle=>hn ⟨hh,hle⟩
  ·exact Int.not_lt.1 ha
 split
 ·rename_i hk1 hk
  exact .ghost hu hk
 split
 ·exact .same
 rename_i hk1 hk7 hno
 have hh:z7 s x.cell=true:=by simpa using hno
 split
 ·rename_i hk
  unfold a0f
  simp only
  split
  ·exact .same
  rename_i hw
  split
  ·exact .same
  rename_i hq1
  split
  ·exact .same
  rename_i hq2
  have e:p9 x=⟨1,x.ord,0,A2,0⟩:=by rw[p9,if_pos hk]
  rw[←e]
  exact(a0d hs hst hx hu (.inl hk) hh (fun _=>⟨by simpa using hw,by omega⟩) (fun h=>by omega)).1
 split
 ·rename_i hk2 hk
  unfold a0e
  simp only
  split
  ·exact .same
  rename_i hq
  have e:p9 x=⟨2,x6,x.side,x.pcl,0⟩:=by rw[p9,if_neg hk2,if_pos hk]
  rw[←e]
  exact(a0d hs hst hx hu (.inr (.inl hk)) hh (fun h=>by omega) (fun _=>Int.not_lt.1 hq)).1
 ·rename_i hk2 hk5
  have e:p9 x=⟨3,x6,x.side,A2,x.n⟩:=by rw[p9,if_neg hk2,if_neg hk5]
  simp only
  rw[←e]
  have hk6:x.kind=6:=by omega
  exact(a0d hs hst hx hu (.inr (.inr hk6)) hh (fun h=>by omega) (fun h=>by omega)).1
theorem C3 (t:RT) {l:List t.ty} {i j:Nat} {x:t.ty} (hi:i<l.length):nth t (l.set i x) j=if j=i then x else nth t l j:=by
 by_cases h:j=i
 ·subst h
  rw[if_pos rfl,j9 t hi]
 ·rw[if_neg h,m5 t (fun hh=>h hh.symm)]
theorem b8z {m:PMap} {st:List Sto} {i:Nat} {s:Sto} (h:B1 m st=true) (hi:i<st.length) (hs:B2 m s=true) (hb:s.base=(nth .sto st i).base):B1 m (st.set i s)=true:=by
 obtain⟨h1,h2,h3⟩:=D9.1 h
 refine D9.2 ⟨h1,by simpa using h2,fun j hj => ?_⟩
 rw[List.length_set]at hj
 rw[C3 .sto hi]
 split
 ·rename_i he
  subst he
  exact⟨hs,by rw[hb];exact(h3 j hi).2⟩
 ·exact h3 j hj
theorem d4Y {m:PMap} {s:Sto} {r:Rec} (h:B2 m s=true) (hl:(s.recs.length:Int)<250) (hr:I4 m r=true) (ha:(m0 m (r9 m s) r).ok=true):B2 m ⟨s.age,s.base,s.recs ++ [r]⟩=true:=by
 obtain⟨h1,h2,h3,h4⟩:=z6.1 h
 refine z6.2 ⟨h1,h2,?_,b5S h4 hr ha⟩
 simp
 omega
theorem d3I {m:PMap} {s s':Srv} {st st':List Sto} {v:Int} {x:Msg} (hs:C0 m s=true) (hst:B1 m st=true) (hx:y5 m v x=true) (he:Eff m s st x s' st'):C0 m s'=true∧B1 m st'=true∧st'.length=st.length∧s'.up=s.up:=by
 obtain⟨hc0,hcl,hso,hbc⟩:=a2R hst hx
 obtain⟨hg,hup,hh,hso2⟩:=E5.1 hs
 cases he with
 |same=>exact⟨hs,hst,rfl,rfl⟩
 |ghost hu hk =>
  have hgo:a1x m x.gst=true:=by
   simp only[y5,J2,decide_eq_true_eq]at hx
   grind
  exact⟨E5.2 ⟨c8Z hg hgo,a3s.2 (.inl hu),hh,hso2⟩,hst,rfl,rfl⟩
 |grant hu hk hn ha =>
  have hxn:1≤x.n∧x.n≤900:=by
   simp only[y5,J2,decide_eq_true_eq]at hx
   omega
  obtain⟨g1,g2⟩:=d4F (m:=m) (s:=o6 st x) (a:=x.n) hso (by omega) (by omega)
  refine⟨E5.2 ⟨hg,a3s.2 (.inl hu),fun h hm => ?_,a9y hso2⟩,b8z hst hcl g1 rfl,by simp,rfl⟩
  rcases X3 hso2 hm with rfl|⟨h1,_⟩
  ·have hl:=(z6.1 hso).2.2.1
   exact C2.2 ⟨hxn,⟨by simp,by simp;omega⟩,a1Z hso⟩
  ·exact hh _ h1
 |lost hu hk hh2 ha=>exact⟨E5.2 ⟨hg,a3s.2 (.inl hu),fun h hm=>hh _ (b8a.1 hm).1,d3T hso2⟩,hst,rfl,rfl⟩
 |write hu hk hh2 ha hc hl hr h1 h2 hf hp =>
  obtain⟨hm1,hm2⟩:=I6 hh2
  obtain⟨o1,o2,o3⟩:=C2.1 (hh _ hm1)
  refine⟨E5.2 ⟨hg,a3s.2 (.inl hu),fun h hm => ?_,a9y hso2⟩,b8z hst hcl (d4Y hso (by omega) hr h1) rfl,by simp,rfl⟩
  rcases X3 hso2 hm with rfl|⟨h3,_⟩
  ·exact C2.2 ⟨o1,⟨by simp only;omega,by simp only;omega⟩,a5F o3 hr⟩
  ·exact hh _ h3
theorem a4E {m:PMap} {t:Arb} {v:Int} (h:D0 m t v=true) (c:Int) (hne:n7 t c ≠ -1):0≤n7 t c∧n7 t c<v∧0≤c∧c<m.cells:=by
 have hl:=J4 h
 unfold n7 at *
 split at hne
 ·rename_i hc
  rw[if_pos hc]
  obtain⟨g1,g2,_⟩:=a7t h (k:=c.toNat) (by omega)
  have g1 : @LE.le Int _ (-1) (nth .int t.servers c.toNat):=g1
  have g2 : @LE.le Int _ (nth .int t.servers c.toNat) (v-1):=g2
  have hne : ¬ @Eq Int (nth .int t.servers c.toNat) (-1):=fun hh=>hne hh
  have : @LE.le Int _ 0 (nth .int t.servers c.toNat) ∧ @LT.lt Int _ (nth .int t.servers c.toNat) v:=⟨by omega,by omega⟩
  exact⟨this.1,this.2,hc.1,by omega⟩
 ·exact absurd rfl hne
theorem v7 {m:PMap} {c s:Int} (h:b7 m c s ≠ -1):(s=0∨s=1)∧o9 m=true∧0≤c∧c<m.cells∧0≤b7 m c s∧b7 m c s<m.cells∧b7 m (b7 m c s) (1-s)=c∧b7 m c s=c+(2 * s-1):=by
 obtain⟨h1,h2,h3,h4⟩:=L7 h
 have e:b7 m c s=c+(2 * s-1):=by
  rcases h4 with ⟨rfl,h5⟩|⟨rfl,h5⟩
  ·rw[b7,if_pos ⟨h1,h2,h3⟩,if_pos ⟨rfl,h5⟩];omega
  ·rw[b7,if_pos ⟨h1,h2,h3⟩,if_neg (by omega),if_pos ⟨rfl,h5⟩];omega
 rcases h4 with ⟨rfl,h5⟩|⟨rfl,h5⟩
 ·refine⟨.inl rfl,h1,h2,h3,by omega,by omega,?_,e⟩
  rw[e,b7,if_pos ⟨h1,by omega,by omega⟩,if_neg (by omega),if_pos ⟨by omega,by omega⟩]
  omega
 ·refine⟨.inr rfl,h1,h2,h3,by omega,by omega,?_,e⟩
  rw[e,b7,if_pos ⟨h1,by omega,by omega⟩,if_pos ⟨by omega,by omega⟩]
  omega
theorem c8J (m:PMap) (c:Cll) (i:Nat) (w:Wlk) (o:Ord):1≤(S1 m c i w o).code∧(S1 m c i w o).code≤7:=by
 unfold S1 a0z a0B a0C a0A U0
 repeat' split
 all_goals(simp[I1])
theorem d6A {m:PMap} {c:Cll} {o:Ord} (h:Q5 c o=true):1≤(I8 m c o).code∧(I8 m c o).code≤7:=by
 obtain⟨h1,h2⟩:=Z6 h
 rw[I8,if_neg h1]
 simp only
 rw[if_neg (by omega),if_neg (by omega)]
 exact c8J m c _ _ o
theorem b1r:a2v x6=true∧a4F A2=true∧a3S K0=true:=by decide
theorem c4n {m:PMap} {v:Int} {x:Msg} {n:Int} (hx:y5 m v x=true) (hk:x.kind=2) (h1:1≤n) (h2:n≤9):y5 m v (a2G x n)=true:=by
 obtain⟨z1,z2,z3⟩:=b1r
 simp only[y5,J2,decide_eq_true_eq,a2G]at hx ⊢
 grind
theorem d6H {m:PMap} {v:Int} {x:Msg} (hx:y5 m v x=true) (hk:x.kind=2):y5 m v (a8y x)=true:=by
 obtain⟨z1,z2,z3⟩:=b1r
 simp only[y5,J2,decide_eq_true_eq,a8y]at hx ⊢
 grind
theorem a3I {m:PMap} {v:Int} {x:Msg} (hx:y5 m v x=true) (hk:x.kind=5∨x.kind=6∨x.kind=7):b7 m x.cell x.side ≠ -1:=by
 simp only[y5,J2,decide_eq_true_eq]at hx
 grind
theorem c5K {m:PMap} {v:Int} {x:Msg} (hx:y5 m v x=true) (hk:x.kind=5):J8 m x.pcl=true:=by
 simp only[y5,J2,decide_eq_true_eq]at hx
 grind
theorem d3p {m:PMap} {t:Arb} {v:Int} {x:Msg} {n:Int} (ht:D0 m t v=true) (hx:y5 m v x=true) (hk:x.kind=5) (h1:1≤n) (h2:n≤5000) : ∀z∈W7 m t x n,y5 m v z=true:=by
 intro z hz
 unfold W7 at hz
 split at hz
 ·simp at hz
 rename_i hne
 simp only[List.mem_singleton]at hz
 subst hz
 have hsd:=a3I hx (.inl hk)
 obtain⟨g1,g2,g3,g4,g5,g6,g7,g8⟩:=v7 hsd
 obtain⟨a1,a2,a3,a4⟩:=a4E ht _ hne
 obtain⟨z1,z2,z3⟩:=b1r
 obtain⟨_,_,_,l1,l2⟩:=J4 ht
 have g9:b7 m (b7 m x.cell x.side) (1-x.side) ≠ -1:=by omega
 have g10:n7 t (b7 m x.cell x.side)≤v-1:=by omega
 clear g7 g8 hne hsd ht hx hk
 generalize b7 m x.cell x.side=d at *
 generalize n7 t d=y at *
 simp only[y5,J2,decide_eq_true_eq]
 grind
theorem c5Z (m:PMap) (t:Arb) (x:Msg) (n:Int):(W7 m t x n).length≤1:=by
 unfold W7
 split<;>simp
theorem c3r {m:PMap} {c:Cll} (h:s5 m c=true) {s:Nat} (hs:s<2) : @LE.le Int _ 0 (nth .int c.ins s) ∧ @LE.le Int _ (nth .int c.ins s) 5000:=by
 exact⟨(E1 h hs).2.1.1,(E1 h hs).2.1.2⟩
theorem d1f {m:PMap} {c:Cll} {s:Nat} {p:Pcl} (hs:s<c.ins.length) (h:(y4 m c s p).ok=true) : @Eq Int (nth .int (y4 m c s p).c.ins s) (nth .int c.ins s+1) ∧ @Eq Int p.n (nth .int c.ins s):=by
 unfold y4 at *
 split at h
 ·cases h
 rename_i h1
 rw[if_neg h1]
 have hpn : @Eq Int p.n (nth .int c.ins s):=Classical.not_not.1 fun hh=>h1 (.inl hh)
 split at h
 ·rename_i h2
  rw[if_pos h2]
  exact⟨j9 .int hs,hpn⟩
 split at h
 ·cases h
 rename_i h2 h3
 rw[if_neg h2,if_neg h3]
 exact⟨j9 .int hs,hpn⟩
theorem b5J {m:PMap} {s:Srv} {st:List Sto} {t:Arb} {v:Int} {x:Msg} (hs:C0 m s=true) (hst:B1 m st=true) (ht:D0 m t v=true) (hx:y5 m v x=true) :
  (r8 m s st t x).out.length≤1 ∧ ∀z∈(r8 m s st t x).out,y5 m v z=true:=by
 have nil:(([]:List Msg)).length≤1 ∧ ∀z∈([]:List Msg),y5 m v z=true:=⟨by simp,by simp⟩
 have one : ∀y:Msg,y5 m v y=true→([y]:List Msg).length≤1 ∧ ∀z ∈ [y],y5 m v z=true:=fun y hy=>⟨by simp,fun z hz=>by simp at hz;subst hz;exact hy⟩
 obtain⟨_,_,hall,_⟩:=E5.1 hs
 unfold r8
 split
 ·exact nil
 rename_i hu0
 have hu:s.up=true:=by
  cases h:s.up with
  |true=>rfl
  |false=>exact absurd (.inl h) hu0
 split
 ·unfold N4
  split
  ·exact nil
  split
  ·exact nil
  ·exact nil
 split
 ·exact nil
 split
 ·exact nil
 rename_i hk1 hk7 hno
 have hh:z7 s x.cell=true:=by simpa using hno
 obtain⟨hm,hmc⟩:=I6 hh
 have hco:=(C2.1 (hall _ hm)).2.2
 split
 ·rename_i hk
  unfold a0f
  simp only
  split
  ·exact one _ (d6H hx hk)
  rename_i hw
  split
  ·exact nil
  rename_i hq1
  split
  ·rename_i hq2
   split
   ·exact nil
   ·rename_i hl0
    have hw':u4 (j6 s x.cell).state.wlks x.ord.who=true:=by simpa using hw
    have hf:=a5z hw'
    have hwo:=K9 hco (T6 hw').1
    refine one _ (c4n hx hk ?_ ?_)
    ·rw[hf]at hl0 ⊢
     omega
    ·rw[hf]
     omega
  rename_i hq2
  have e:p9 x=⟨1,x.ord,0,A2,0⟩:=by rw[p9,if_pos hk]
  rw[←e]
  have hw':u4 (j6 s x.cell).state.wlks x.ord.who=true:=by simpa using hw
  have W:=(a0d hs hst hx hu (.inl hk) hh (fun _=>⟨hw',by omega⟩) (fun h=>by omega)).2
  split
  ·rename_i hn
   obtain⟨g1,_,_,_,g2,_⟩:=W hn
   have hfr:Q5 (j6 s x.cell).state x.ord=true:=by
    simp only[Q5,Bool.and_eq_true,decide_eq_true_eq]
    exact⟨hw',by omega⟩
   have hcode:(m0 m (j6 s x.cell).state (p9 x)).code=(I8 m (j6 s x.cell).state x.ord).code:=by
    rw[e,m0,if_pos rfl,if_pos hfr]
   have:=d6A (m:=m) hfr
   refine one _ (c4n hx hk ?_ ?_)
   ·rw[g1,hcode];omega
   ·rw[g1,hcode];omega
  ·exact nil
 split
 ·rename_i hk2 hk
  have hsd:=a3I hx (.inl hk)
  obtain⟨s1,_⟩:=v7 hsd
  have hs2:x.side.toNat<2:=by omega
  have hii:=c3r hco hs2
  have hpp:=J1.1 (c5K hx hk)
  unfold a0e
  simp only
  split
  ·rename_i hq
   have hq : @LT.lt Int _ x.pcl.n (nth .int (j6 s x.cell).state.ins x.side.toNat):=hq
   exact⟨c5Z _ _ _ _,d3p ht hx hk (by omega) (by omega)⟩
  rename_i hq
  have e:p9 x=⟨2,x6,x.side,x.pcl,0⟩:=by rw[p9,if_neg hk2,if_pos hk]
  rw[←e]
  have W:=(a0d hs hst hx hu (.inr (.inl hk)) hh (fun h=>by omega) (fun _=>Int.not_lt.1 hq)).2
  split
  ·rename_i hn
   obtain⟨_,_,_,_,g2,_,g3⟩:=W hn
   have hok2:=a5F hco g3
   have happ:m0 m (j6 s x.cell).state (p9 x)=⟨(y4 m (j6 s x.cell).state x.side.toNat x.pcl).c,0,(y4 m (j6 s x.cell).state x.side.toNat x.pcl).ok⟩:=by
    rw[e,m0,if_neg (by simp),if_neg (by rw[hmc];exact hsd),if_pos rfl]
   rw[happ]at g2 hok2
   have hl2:=(o7 hco).2.2.2.2.2.2.2.2
   have hri:=d1f (s:=x.side.toNat) (by omega) g2
   have hi2:=c3r hok2 hs2
   simp only at hi2
   exact⟨c5Z _ _ _ _,d3p ht hx hk (by omega) (by omega)⟩
  ·exact nil
 ·exact nil
theorem c1a {m:PMap} {t:Arb} {x z:Msg} {n:Int} (h:z∈W7 m t x n):z.kind=6:=by
 unfold W7 at h
 split at h
 ·simp at h
 ·simp at h;rw[h]
theorem a8e {m:PMap} {s:Srv} {st:List Sto} {t:Arb} {x z:Msg} (h:z∈(r8 m s st t x).out):z.kind=3∨z.kind=4∨z.kind=6:=by
 unfold r8 at h
 split at h
 ·simp at h
 split at h
 ·unfold N4 at h
  split at h
  ·simp at h
  split at h
  ·simp at h
  ·simp at h
 split at h
 ·simp at h
 split at h
 ·simp at h
 split at h
 ·unfold a0f at h
  simp only at h
  split at h
  ·simp at h;rw[h];exact .inr (.inl rfl)
  split at h
  ·simp at h
  split at h
  ·split at h
   ·simp at h
   ·simp at h;rw[h];exact .inl rfl
  split at h
  ·simp at h;rw[h];exact .inl rfl
  ·simp at h
 split at h
 ·unfold a0e at h
  simp only at h
  split at h
  ·exact .inr (.inr (c1a h))
  split at h
  ·exact .inr (.inr (c1a h))
  ·simp at h
 ·simp at h
theorem q9 {w:Wld}:m8 w=true↔D0 w.map w.table w.servers.length=true∧B1 w.map w.stores=true∧C4 w.map w.rows=true∧w.net.length≤40∧w.notes.length≤150 ∧
  (∀i,i<w.stores.length→(nth .sto w.stores i).age≤nth .int w.table.ages i)∧(∀s∈w.servers,C0 w.map s=true ∧ ∀h∈s.holds,h.age≤nth .int w.table.ages h.state.cell.toNat) ∧
  (∀x∈w.net,y5 w.map w.servers.length x=true∧(x.kind=1→x.n≤nth .int w.table.ages x.cell.toNat)) ∧ ∀n∈w.notes,a7a n=true:=by
 simp only[m8,Bool.and_eq_true,decide_eq_true_eq,and_assoc]
 refine and_congr_right fun _=>and_congr_right fun _=>and_congr_right fun _=>and_congr_right fun _=>and_congr_right fun _ => ?_
 refine and_congr ?_ (and_congr ?_ (and_congr ?_ ?_))
 ·rw[l8];simp only[a2r,decide_eq_true_eq]
 ·rw[l8]
  simp only[a4I,Bool.and_eq_true,l8,a5J,decide_eq_true_eq]
  constructor
  ·intro h s hs
   obtain⟨i,hi,rfl⟩:=R7 .srv hs
   refine⟨(h i hi).1,fun g hg => ?_⟩
   obtain⟨j,hj,rfl⟩:=R7 .hld hg
   exact(h i hi).2 j hj
  ·intro h i hi
   have:=h _ (s0 .srv hi)
   exact⟨this.1,fun j hj=>this.2 _ (s0 .hld hj)⟩
 ·rw[l8]
  simp only[a8x,Bool.and_eq_true,decide_eq_true_eq]
  constructor
  ·intro h s hs
   obtain⟨i,hi,rfl⟩:=R7 .msg hs
   exact h i hi
  ·intro h i hi
   exact h _ (s0 .msg hi)
 ·rw[l8]
  simp only[c3g]
  constructor
  ·intro h s hs
   obtain⟨i,hi,rfl⟩:=R7 .note hs
   exact h i hi
  ·intro h i hi
   exact h _ (s0 .note hi)
theorem a7G {w:Wld} {l:List Msg} (h:m8 w=true) (hl : ∀x∈l,y5 w.map w.servers.length x=true∧(x.kind=1→x.n≤nth .int w.table.ages x.cell.toNat)):m8 (x8 w l)=true:=by
 obtain⟨h1,h2,h3,h4,h5,h6,h7,h8,h9⟩:=q9.1 h
 refine q9.2 ⟨h1,h2,h3,?_,h5,h6,h7,fun x hx => ?_,h9⟩
 ·simp only[x8,List.length_append,List.length_take];omega
 ·simp only[x8,List.mem_append]at hx
  rcases hx with hx|hx
  ·exact h8 x hx
  ·exact hl x (List.mem_of_mem_take hx)
theorem d4k {w:Wld} {i:Nat} (h:m8 w=true):m8 (wCut w i)=true:=by
 obtain⟨h1,h2,h3,h4,h5,h6,h7,h8,h9⟩:=q9.1 h
 refine q9.2 ⟨h1,h2,h3,?_,h5,h6,h7,fun x hx=>h8 x (List.mem_of_mem_eraseIdx hx),h9⟩
 have:=List.length_eraseIdx_le w.net i
 simp only[wCut];omega
theorem d3J {m:PMap} {s s':Srv} {st st':List Sto} {v:Int} {x:Msg} {A:List Int} (hs:C0 m s=true) (hst:B1 m st=true) (hx:y5 m v x=true) (he:Eff m s st x s' st') (hA:(A.length:Int)=m.cells)
  (h1 : ∀i,i<st.length→(nth .sto st i).age≤nth .int A i) (h2 : ∀h∈s.holds,h.age≤nth .int A h.state.cell.toNat) (h3:x.kind=1→x.n≤nth .int A x.cell.toNat) :
  (∀i,i<st'.length→(nth .sto st' i).age≤nth .int A i) ∧ ∀h∈s'.holds,h.age≤nth .int A h.state.cell.toNat:=by
 obtain⟨hc0,hcl,hso,hbc⟩:=a2R hst hx
 obtain⟨hg,hup,hh,hso2⟩:=E5.1 hs
 cases he with
 |same=>exact⟨h1,h2⟩
 |ghost hu hk=>exact⟨h1,h2⟩
 |grant hu hk hn ha =>
  refine⟨fun i hi => ?_,fun h hm => ?_⟩
  ·rw[List.length_set]at hi
   rw[C3 .sto hcl]
   split
   ·rename_i he;subst he;exact h3 hk
   ·exact h1 i hi
  ·rcases X3 hso2 hm with rfl|⟨h5,_⟩
   ·simp only
    rw[a0N,hbc]
    exact h3 hk
   ·exact h2 h h5
 |lost hu hk hh2 ha=>exact⟨h1,fun h hm=>h2 h (b8a.1 hm).1⟩
 |write hu hk hh2 ha hc hl hr g1 g2 hf hp =>
  obtain⟨hm1,hm2⟩:=I6 hh2
  refine⟨fun i hi => ?_,fun h hm => ?_⟩
  ·rw[List.length_set]at hi
   rw[C3 .sto hcl]
   split
   ·rename_i he;subst he;exact h1 _ hcl
   ·exact h1 i hi
  ·rcases X3 hso2 hm with rfl|⟨h5,_⟩
   ·simp only
    rw[a0T]
    exact h2 _ hm1
   ·exact h2 h h5
theorem d6j {w:Wld} {x:Msg} (h:m8 w=true) (hx:y5 w.map w.servers.length x=true) (hx2:x.kind=1→x.n≤nth .int w.table.ages x.cell.toNat) (hd:x.dest ≠ -1):m8 (a3m w x)=true∧(a3m w x).servers.length=w.servers.length:=by
 obtain⟨h1,h2,h3,h4,h5,h6,h7,h8,h9⟩:=q9.1 h
 have hdd:0≤x.dest∧x.dest<w.servers.length:=by
  rcases a3J hx with ⟨_,g1,g2⟩|⟨_,g⟩
  ·exact⟨g1,g2⟩
  ·exact absurd g hd
 have hdn:x.dest.toNat<w.servers.length:=by omega
 obtain⟨o1,o2⟩:=h7 _ (s0 .srv hdn)
 have he:=a9O (t:=w.table) o1 h2 hx
 obtain⟨e1,e2,e3,e4⟩:=d3I o1 h2 hx he
 obtain⟨_,hal,_⟩:=J4 h1
 obtain⟨a1,a2⟩:=d3J o1 h2 hx he hal h6 o2 hx2
 refine⟨?_,by simp[a3m,x8]⟩
 unfold a3m
 simp only
 refine a7G ?_ fun z hz => ?_
 ·refine q9.2 ⟨by simpa using h1,e2,h3,h4,h5,a1,fun s hs => ?_,by simpa using h8,h9⟩
  rcases List.mem_or_eq_of_mem_set hs with hs|rfl
  ·exact h7 s hs
  ·exact⟨e1,a2⟩
 ·have ho:=(b5J o1 h2 h1 hx).2 z hz
  refine⟨by simpa using ho,fun hk => ?_⟩
  have:=a8e hz
  omega
theorem b7Q {m:PMap} {l:List Row} {i:Nat} {r:Row} (h:C4 m l=true) (hi:i<l.length) (hr:a0h m r=true) (hw:r.who=(nth .row l i).who):C4 m (l.set i r)=true:=by
 have h0:=h
 unfold C4 at h ⊢
 rw[Bool.and_eq_true]at h ⊢
 refine⟨h.1,(l8 _ _).2 fun j hj => ?_⟩
 rw[List.length_set]at hj
 obtain⟨h1,h2⟩:=a9P h0 hj
 have hwho : ∀k,(nth .row (l.set i r) k).who=(nth .row l k).who:=fun k=>by
  rw[C3 .row hi]
  split
  ·rename_i he;subst he;exact hw
  ·rfl
 simp only[N1,Bool.and_eq_true,Bool.or_eq_true,decide_eq_true_eq,hwho]
 refine⟨?_,?_⟩
 ·rw[C3 .row hi]
  split
  ·exact hr
  ·exact h1
 ·by_cases hj0:j=0
  ·exact .inl hj0
  ·exact .inr (h2 (by omega))
theorem c2u {m:PMap} {l:List Row} {who:Int} (h:C4 m l=true) (hp:0≤m7 l who):a0h m (rowAt l who)=true∧(rowAt l who).who=who∧(m7 l who).toNat<l.length:=by
 have hlt:=a2W l who
 have hl:(m7 l who).toNat<l.length:=by omega
 exact⟨(a9P h hl).1,b6T hp,hl⟩
theorem d6m {m:PMap} {l:List Row} (h:C4 m l=true):o9 m=true:=by
 unfold C4 at h
 rw[Bool.and_eq_true]at h
 exact h.1
theorem a1N {m:PMap} {r:Row}:a0h m r=true↔(1≤r.who∧r.who≤9∧0≤r.cell∧r.cell<m.cells∧0≤r.seq∧r.seq≤900∧0≤r.code∧r.code≤9)∧(r.busy=false→a2v r.ord=true)∧(r.busy=true→y9 r.ord=true∧r.ord.who=r.who∧r.ord.seq=r.seq+1):=by
 simp only[a0h,decide_eq_true_eq]
 constructor
 ·rintro⟨a,b,c,d,e,f,g,h,i,j⟩
  exact⟨⟨a,b,c,d,e,f,g,h⟩,i,j⟩
 ·rintro⟨⟨a,b,c,d,e,f,g,h⟩,i,j⟩
  exact⟨a,b,c,d,e,f,g,h,i,j⟩
theorem d4q {c n:Int} (h0:0≤c) (h1:c<n) (h2:n≤4):0≤(c+1).tmod n∧(c+1).tmod n<n:=by
 constructor
 ·exact Int.tmod_nonneg _ (by omega)
 ·have:=Int.tmod_lt_of_pos (c+1) (show 0<n by omega)
  omega
theorem b3b {m:PMap} {l:List Row} {v:Int} {x:Msg} (h:C4 m l=true) (hx:y5 m v x=true):C4 m (B5 m l x).b=true∧(B5 m l x).b.length=l.length ∧
  ((B5 m l x).ok=true→x.kind=3∧0≤m7 l x.ord.who∧(rowAt l x.ord.who).busy=true∧(rowAt l x.ord.who).ord=x.ord∧a7a ⟨x.ord.who,x.ord.seq,x.n⟩=true):=by
 unfold B5
 simp only
 split
 ·rename_i hc
  obtain⟨hp,hb,ho⟩:=hc
  obtain⟨r1,r2,r3⟩:=c2u h hp
  obtain⟨g1,g2,g3⟩:=a1N.1 r1
  obtain⟨g4,g5,g6⟩:=g3 hb
  rw[ho]at g4 g6
  obtain⟨m1,m2⟩:=b2F hx
  have hpl:=n6.1 (d6m h)
  split
  ·rename_i hk
   have hn:1≤x.n∧x.n≤9:=by
    simp only[y5,J2,decide_eq_true_eq]at hx
    grind
   have hoo:=G6.1 g4
   refine⟨b7Q h r3 (a1N.2 ⟨⟨by simp only;omega,by simp only;omega,m1,m2,by simp only;omega,by simp only;omega,by simp only;omega,hn.2⟩,fun _=>b1r.1,fun hh=>by cases hh⟩) rfl,by simp,fun _=>⟨hk,hp,hb,ho,?_⟩⟩
   simp only[a7a,decide_eq_true_eq]
   omega
  ·split
   ·rename_i hk
    have hcr:=d4q g1.2.2.1 g1.2.2.2.1 (by omega)
    refine⟨b7Q h r3 (a1N.2 ⟨⟨g1.1,g1.2.1,hcr.1,hcr.2,g1.2.2.2.2⟩,g2,g3⟩) rfl,by simp,fun hh=>by cases hh⟩
   ·exact⟨h,rfl,fun hh=>by cases hh⟩
 ·exact⟨h,rfl,fun hh=>by cases hh⟩
theorem c8X {m:PMap} {l:List Row} {who kind dest n:Int} (h:C4 m l=true):C4 m (T7 l who kind dest n).b=true∧(T7 l who kind dest n).b.length=l.length:=by
 unfold T7
 split
 ·rename_i hc
  obtain⟨hp,hb,ho⟩:=hc
  obtain⟨r1,r2,r3⟩:=c2u h hp
  have r1:a0h m (nth .row l (m7 l who).toNat)=true:=r1
  have r2:(nth .row l (m7 l who).toNat).who=who:=r2
  obtain⟨g1,g2,g3⟩:=a1N.1 r1
  exact⟨b7Q h r3 (a1N.2 ⟨g1,(fun hh=>by cases hh),fun _=>⟨ho,r2.symm,rfl⟩⟩) rfl,by simp⟩
 ·exact⟨h,rfl⟩
theorem c8V {m:PMap} {l:List Row} {t:Arb} {v who:Int} (h:C4 m l=true) (ht:D0 m t v=true) (hs:(Y9 l t who).ok=true):y5 m v (Y9 l t who).x=true∧(Y9 l t who).x.kind=2:=by
 unfold Y9 at *
 split at hs
 ·rename_i hc
  rw[if_pos hc]
  obtain⟨hp,hb,ho⟩:=hc
  obtain⟨r1,r2,r3⟩:=c2u h hp
  obtain⟨g1,g2,g3⟩:=a1N.1 r1
  obtain⟨a1,a2,a3,a4⟩:=a4E ht _ ho
  obtain⟨z1,z2,z3⟩:=b1r
  obtain⟨_,_,l0,l1,l2⟩:=J4 ht
  have g4:=(g3 hb).1
  refine⟨?_,rfl⟩
  have a2':n7 t (rowAt l who).cell≤v-1:=by omega
  generalize n7 t (rowAt l who).cell=y at *
  simp only[y5,J2,decide_eq_true_eq]
  grind
 ·cases hs
theorem a8L {m:PMap} {t:Arb} {v cell server:Int} (ht:D0 m t v=true) (hg:(s6 t v cell server).ok=true) :
  D0 m (s6 t v cell server).t v=true∧0≤cell∧cell<m.cells∧0≤server∧server<v∧(s6 t v cell server).t=⟨t.servers.set cell.toNat server,t.ages.set cell.toNat (nth .int t.ages cell.toNat+1)⟩ ∧
  @LE.le Int _ 0 (nth .int t.ages cell.toNat) ∧ @LT.lt Int _ (nth .int t.ages cell.toNat) 900:=by
 unfold s6 at *
 split at hg
 ·rename_i hc
  rw[if_pos hc]
  obtain⟨c1,c2,c3,c4,c5⟩:=hc
  obtain⟨l1,l2,l3,l4,l5⟩:=J4 ht
  obtain⟨b1,b2,b3,b4,b5⟩:=a7t ht (k:=cell.toNat) (by omega)
  have b3 : @LE.le Int _ 0 (nth .int t.ages cell.toNat):=b3
  have b4 : @LE.le Int _ (nth .int t.ages cell.toNat) 900:=b4
  have c5 : ¬ @Eq Int (nth .int t.ages cell.toNat) 900:=c5
  refine⟨?_,c1,by omega,c3,c4,rfl,b3,by omega⟩
  unfold D0
  rw[Bool.and_eq_true]
  refine⟨by simp only[a0H,decide_eq_true_eq,List.length_set];exact⟨l3,l4,l5,l1,l2⟩,(l8 _ _).2 fun k hk => ?_⟩
  rw[List.length_set]at hk
  have hk2:cell.toNat<t.ages.length:=by omega
  have hk3:cell.toNat<t.servers.length:=by omega
  obtain⟨d1,d2,d3,d4,d5⟩:=a7t ht hk
  simp only[a4K,decide_eq_true_eq]
  rw[C3 .int hk3,C3 .int hk2]
  by_cases he:k=cell.toNat
  ·simp only[if_pos he]
   have : ∀a:Int,0≤a→a≤900 → ¬a=900 → -1≤server∧server≤v-1∧0≤a+1∧a+1≤900∧(server = -1↔a+1=0):=fun a h1 h2 h3=>⟨by omega,by omega,by omega,by omega,by omega⟩
   exact this _ b3 b4 c5
  ·simp only[if_neg he]
   exact⟨d1,d2,d3,d4,d5⟩
 ·cases hg
theorem c4d {m:PMap} {t:Arb} {v cell server:Int} (ht:D0 m t v=true) (hg:(s6 t v cell server).ok=true) (i:Nat) : @LE.le Int _ (nth .int t.ages i) (nth .int (s6 t v cell server).t.ages i):=by
 obtain⟨_,c1,c2,_,_,e,b3,b4⟩:=a8L ht hg
 obtain⟨_,l2,_⟩:=J4 ht
 rw[e]
 simp only
 rw[C3 .int (by omega)]
 split
 ·rename_i he
  subst he
  have : ∀a:Int,a≤a+1:=fun a=>by omega
  exact this _
 ·exact Int.le_refl _
theorem d4T {m:PMap} {s:Srv} {t:Arb} {v cell:Int} (hs:C0 m s=true) (ht:D0 m t v=true) : ∀z∈E7 m s t cell,y5 m v z=true∧(z.kind=5∨z.kind=7):=by
 intro z hz
 unfold E7 at hz
 split at hz
 rotate_left
 ·simp at hz
 rename_i hh
 obtain⟨hm,hc⟩:=I6 hh
 have hho:=(E5.1 hs).2.2.1 _ hm
 generalize j6 s cell=h at *
 have hco:=(C2.1 hho).2.2
 have hcf:=o7 hco
 obtain⟨z1,z2,z3⟩:=b1r
 obtain⟨_,_,l0,l1,l2⟩:=J4 ht
 have go : ∀side:Nat,side<2 → ∀z∈D1 m t h cell side,y5 m v z=true∧(z.kind=5∨z.kind=7):=by
  intro side hsd z hz
  unfold D1 at hz
  simp only at hz
  split at hz
  ·simp at hz
  rename_i hne
  have hn1:b7 m cell side ≠ -1:=fun e=>hne (.inl e)
  have hn2:n7 t (b7 m cell side) ≠ -1:=fun e=>hne (.inr e)
  obtain⟨g1,g2,g3,g4,g5,g6,g7,g8⟩:=v7 hn1
  obtain⟨a1,a2,a3,a4⟩:=a4E ht _ hn2
  have g9:b7 m (b7 m cell side) (1-side) ≠ -1:=by omega
  have a5:n7 t (b7 m cell side)≤v-1:=by omega
  rcases List.mem_append.1 hz with hz|hz
  ·obtain⟨p,hp,rfl⟩:=List.mem_map.1 hz
   refine⟨?_,.inl rfl⟩
   have hpo:J8 m p=true:=by
    have hp:=List.mem_of_mem_take hp
    have hl:=(E1 hco hsd).2.2.2
    rw[Int.toNat_natCast]at hp
    obtain⟨i,hi,rfl⟩:=R7 .pcl hp
    exact((N6.1 hl).2.2.2.2 i hi).1
   clear hn1 hn2 hne g7 g8 hz
   generalize b7 m cell side=d at *
   generalize n7 t d=y at *
   simp only[y5,J2,decide_eq_true_eq]
   grind
  ·obtain⟨g,hg,rfl⟩:=List.mem_map.1 hz
   refine⟨?_,.inr rfl⟩
   have hg:=List.mem_of_mem_take hg
   unfold o8 ghTo at hg
   obtain⟨w,hw,rfl⟩:=List.mem_map.1 hg
   rw[b1m]at hw
   obtain⟨hw1,hw2⟩:=List.mem_filter.1 hw
   have hwo:=(G7.1 hco).1 w hw1
   have hgo:a1x m ⟨h.state.cell,h.count,w⟩=true:=by
    obtain⟨_,k1,_⟩:=C2.1 hho
    simp only[a1x,decide_eq_true_eq]
    refine⟨k1.1,k1.2,hwo.1,hwo.2,?_⟩
    rcases g1 with g1|g1
    ·rw[g1]at hw2;exact .inl hw2
    ·rw[g1]at hw2;exact .inr hw2
   have hsrc:h.state.cell=b7 m (b7 m cell side) (1-side):=by rw[g7,hc]
   clear hn1 hn2 hne g7 g8 hz hw hg
   generalize b7 m cell side=d at *
   generalize n7 t d=y at *
   simp only[y5,J2,decide_eq_true_eq]
   grind
 rcases List.mem_append.1 hz with hz|hz
 ·exact go 0 (by omega) z hz
 ·exact go 1 (by omega) z hz
theorem c4t {w:Wld} {e:Evt} (h:m8 w=true):m8 (y8 w e)=true∧(y8 w e).servers.length=w.servers.length∧(y8 w e).map=w.map:=by
 obtain⟨h1,h2,h3,h4,h5,h6,h7,h8,h9⟩:=q9.1 h
 have plain : ∀z:Msg,z.kind≠1→(z.kind=1→z.n≤nth .int w.table.ages z.cell.toNat):=fun z hz hk=>absurd hk hz
 unfold y8
 split
 ·simp only
  split
  ·rename_i hg
   obtain⟨g1,c1,c2,c3,c4,ge,b3,b4⟩:=a8L h1 hg
   have hmono:=c4d h1 hg
   obtain⟨l1,l2,l3,l4,l5⟩:=J4 h1
   refine⟨a7G (q9.2 ⟨g1,h2,h3,h4,h5,fun i hi=>Int.le_trans (h6 i hi) (hmono i),fun s hs=>⟨(h7 s hs).1,fun x hx=>Int.le_trans ((h7 s hs).2 x hx) (hmono _)⟩,fun x hx=>⟨(h8 x hx).1,fun hk=>Int.le_trans ((h8 x hx).2 hk) (hmono _)⟩,h9⟩) fun x hx => ?_,by simp[x8],rfl⟩
   simp only[List.mem_singleton]at hx
   subst hx
   refine⟨?_,fun _=>Int.le_refl _⟩
   obtain⟨z1,z2,z3⟩:=b1r
   have hn : @LE.le Int _ 1 (nth .int (s6 w.table w.servers.length e.pos e.dest).t.ages e.pos.toNat) ∧ @LE.le Int _ (nth .int (s6 w.table w.servers.length e.pos e.dest).t.ages e.pos.toNat) 900:=by
    rw[ge]
    simp only
    rw[j9 .int (by omega)]
    have : ∀a:Int,0≤a→a<900→1≤a+1∧a+1≤900:=fun a _ _=>by omega
    exact this _ b3 b4
   have hd:e.dest≤(w.servers.length:Int)-1:=by omega
   generalize nth .int (s6 w.table w.servers.length e.pos e.dest).t.ages e.pos.toNat=y at *
   simp only[y5,J2,decide_eq_true_eq]
   grind
  ·exact⟨h,rfl,rfl⟩
 split
 ·have hg := @c8X w.map w.rows e.pos e.what e.dest e.n h3
  exact⟨q9.2 ⟨h1,h2,hg.1,h4,h5,h6,h7,h8,h9⟩,rfl,rfl⟩
 split
 ·split
  ·rename_i hs
   obtain⟨g1,g2⟩:=c8V h3 h1 hs
   exact⟨a7G h fun x hx=>by
    simp only[List.mem_singleton]at hx
    subst hx
    exact⟨g1,plain _ (by omega)⟩,by simp[x8],rfl⟩
  ·exact⟨h,rfl,rfl⟩
 split
 ·split
  ·rename_i hp
   have hpl:e.pos.toNat<w.net.length:=by omega
   have hx:=h8 _ (s0 .msg hpl)
   split
   ·unfold a0a
    simp only
    have hc := @d4k w e.pos.toNat h
    split
    ·unfold a1W
     simp only
     obtain⟨c1,c2,c3,c4,c5,c6,c7,c8,c9⟩:=q9.1 hc
     obtain⟨g1,g2,g3⟩:=b3b c3 (by simpa [wCut]using hx.1)
     refine⟨q9.2 ⟨c1,c2,g1,c4,?_,c6,c7,c8,?_⟩,rfl,rfl⟩
     ·simp only
      split
      ·rename_i hh
       simp only[List.length_append,List.length_singleton]
       omega
      ·exact c5
     ·intro n hn
      simp only at hn
      split at hn
      ·rename_i hh
       rcases List.mem_append.1 hn with hn|hn
       ·exact c9 n hn
       ·simp only[List.mem_singleton]at hn
        subst hn
        exact(g3 hh.1).2.2.2.2
      ·exact c9 n hn
    ·rename_i hd
     obtain⟨g1,g2⟩:=d6j hc (by simpa [wCut]using hx.1) (by simpa [wCut]using hx.2) hd
     exact⟨g1,by rw[g2];rfl,rfl⟩
   split
   ·exact⟨d4k h,rfl,rfl⟩
   ·exact⟨a7G h fun x hx'=>by
     simp only[List.mem_singleton]at hx'
     subst hx'
     exact hx,by simp[x8],rfl⟩
  ·exact⟨h,rfl,rfl⟩
 split
 ·split
  ·rename_i hp
   have hpl:e.pos.toNat<w.servers.length:=by omega
   have hz : ∀b:Bool,C0 w.map ⟨b,[],[]⟩=true:=fun b=>E5.2 ⟨a4v.2 ⟨(J4 h1).2.2.1,by simp,by simp,by simp⟩,a3s.2 (.inr ⟨rfl,rfl⟩),by simp,by simp⟩
   have life : ∀b:Bool,m8 ⟨w.map,w.servers.set e.pos.toNat ⟨b,[],[]⟩,w.stores,w.table,w.rows,w.net,w.notes⟩=true:=fun b=>q9.2 ⟨by simpa using h1,h2,h3,h4,h5,h6,fun s hs=>by
    rcases List.mem_or_eq_of_mem_set hs with hs|rfl
    ·exact h7 s hs
    ·exact⟨hz b,by simp⟩,by simpa using h8,h9⟩
   split
   ·have ht := @d4T w.map (nth .srv w.servers e.pos.toNat) w.table w.servers.length e.dest (h7 _ (s0 .srv hpl)).1 h1
    exact⟨a7G h fun x hx=>⟨(ht x hx).1,plain _ (by have:=(ht x hx).2;omega)⟩,by simp[x8],rfl⟩
   split
   ·exact⟨life false,by simp,rfl⟩
   split
   ·exact⟨life true,by simp,rfl⟩
   ·exact⟨h,rfl,rfl⟩
  ·exact⟨h,rfl,rfl⟩
 ·exact⟨h,rfl,rfl⟩
end Go.Mo
namespace Go.Sx
inductive ImpB (P Q:Prop):Prop where
 |mk (h:P→Q):ImpB P Q
theorem ImpB.out {P Q:Prop} (h:ImpB P Q):P→Q:=let ⟨h⟩:=h;h
inductive MeasB (a b:Th Nat):Prop where
 |mk (h:a ()<b ()):MeasB a b
theorem MeasB.out {a b:Th Nat} (h:MeasB a b):a ()<b ():=let ⟨h⟩:=h;h
theorem LoopIn.wb {A:Ann} {σ0 σ : St} (i:A.ι) (hc:A.cond σ0 i ()) (hm:l9 σ (A.st σ0 i)):LoopIn A σ0 σ := ⟨i,hc,hm⟩
theorem LoopBack.wb {A:Ann} {σ0 σ : St} {i:A.ι} (i':A.ι) (hc:A.cond σ0 i' ()) (hd:MeasB (A.meas σ0 i') (A.meas σ0 i)) (hm:l9 σ (A.st σ0 i')):LoopBack A σ0 i σ := ⟨i',hc,hd.out,hm⟩
def d8S (c:C):C:=match c with
 | .att (.list _ _) => .unk
 | .att a => .att a
 | .ptr k v j => .ptr k v j
 |_ => .unk
def d7x (c:Ch):Ch:=match c with
 | .var bx cs => .var bx (cs.map d8S)
 |c=>c
def c1Z:Hp→Hp
 | .leaf => .leaf
 | .node e l r => .node (e.1,d7x e.2) (c1Z l) (c1Z r)
def d8R (v:V):V:=match v with
 | .one (.ptr k v j) => .one (.ptr k v j)
 |_ => .one .unk
def b6w:Tr V→Tr V
 | .leaf => .leaf
 | .node v l r => .node (d8R v) (b6w l) (b6w r)
def St.thin (σ : St) (kv:Nat):St:=⟨σ.tm,(c1Z σ.hp).set kv (σ.hp.get kv),σ.up.map b6w⟩
def St.only (σ : St) (ds:List Nat):St:=⟨ds.foldr (fun d t=>t.set d (σ.tm.get d)) .leaf,σ.hp,σ.up⟩
def St.pk (σ : St) (d:Nat):Nat:=match σ.tm.get d with
 | .one (.ptr k _ _)=>k
 |_=>0
def ownK (c:C):Nat:=match c with
 | .own k _=>k
 |_=>0
def St.okC (σ : St) (k j:Nat):Nat:=match(σ.hp.get k).2 with
 | .var _ cs=>ownK ((cs[j]?).getD .unk)
 |_=>0
def St.okT (σ : St) (d:Nat):Nat:=match σ.tm.get d with
 | .one c=>ownK c
 |_=>0
def b7C:Th (List Msg):=fun _ => []
def c3Y (t:RT) (l:Th (List t.ty)):Th (List Msg):=match t,l with
 | .msg,l=>l
 |_,_=>b7C
def d8J (c:Ch):Th (List Msg):=match c with
 | .row _ _ t l=>c3Y t l
 | .ro t l=>c3Y t l
 |_=>b7C
def St.rowM (σ : St) (k:Nat):Th (List Msg):=d8J (σ.hp.get k).2
def d8L (σ : St) (c:C):Th (List Msg):=match c with
 | .att (.list t l)=>c3Y t l
 | .own k _ => σ.rowM k
 |_=>b7C
def St.tmM (σ : St) (d:Nat):Th (List Msg):=match σ.tm.get d with
 | .one c=>d8L σ c
 |_=>b7C
def G8:Th Int:=fun _=>0
def St.tmI (σ : St) (d:Nat):Th Int:=match σ.tm.get d with
 | .one (.att (.int _ n))=>n
 |_=>G8
end Go.Sx
namespace Go.Mo
open Go.Sx
def a1p (l:List Msg) (i:Nat) (k:Nat):List Msg:=(l.take k).eraseIdx i
theorem c3S (l:List Msg) (i:Nat):a1p l i 0 = []:=by simp[a1p]
theorem b6a (l:List Msg) (i:Nat):a1p l i l.length=l.eraseIdx i:=by simp[a1p]
theorem c9y (l:List Msg) (i k:Nat):(a1p l i k).length≤k:=by
 unfold a1p
 have:=List.length_eraseIdx_le (l.take k) i
 have h2:=List.length_take_le k l
 omega
theorem d4l {l:List Msg} {i k:Nat} (h:k<l.length) (hne : ¬k=i):a1p l i (k+1)=a1p l i k ++ [nth .msg l k]:=by
 unfold a1p
 have h1:l.take (k+1)=l.take k ++ [nth .msg l k]:=J7 .msg h
 rw[h1]
 have h2:(l.take k).length=k:=by simp;omega
 by_cases h3:i<k
 ·rw[List.eraseIdx_append_of_lt_length (by omega)]
 ·rw[List.eraseIdx_append_of_length_le (by omega),List.eraseIdx_of_length_le (by simp;omega),List.eraseIdx_of_length_le (by omega)]
theorem c9x {l:List Msg} {i k:Nat} (h:k<l.length) (hne:k=i):a1p l i (k+1)=a1p l i k:=by
 unfold a1p
 subst hne
 have h1:l.take (k+1)=l.take k ++ [nth .msg l k]:=J7 .msg h
 have h2:(l.take k).length=k:=by simp;omega
 rw[h1,List.eraseIdx_append_of_length_le (by omega),List.eraseIdx_of_length_le (l:=l.take k) (by omega),h2,Nat.sub_self]
 simp
end Go.Mo
namespace Go.Sx
theorem LoopIn.wf {A:Ann} {σ0 σ : St} (f:St→A.ι) (hc:A.cond σ0 (f σ) ()) (hm:l9 σ (A.st σ0 (f σ))):LoopIn A σ0 σ := ⟨f σ,hc,hm⟩
theorem LoopBack.wf {A:Ann} {σ0 σ : St} {i:A.ι} (f:St→A.ι) (hc:A.cond σ0 (f σ) ()) (hd:MeasB (A.meas σ0 (f σ)) (A.meas σ0 i)) (hm:l9 σ (A.st σ0 (f σ))):LoopBack A σ0 i σ := ⟨f σ,hc,hd.out,hm⟩
def asI (c:C):Th Int:=match c with
 | .att (.int _ n)=>n
 |_=>G8
def r7:Th Bool:=fun _=>false
def asB (c:C):Th Bool:=match c with
 | .att (.bool b)=>fun _=>b.val
 |_=>r7
def a7b (t:RT):Th (List t.ty):=fun _ => []
def asL (t:RT) (c:C):Th (List t.ty):=match c with
 | .att (.list t' l)=>if h:t'=t then W6 h l else a7b t
 |_=>a7b t
def St.ce (σ : St) (k j:Nat):C:=match(σ.hp.get k).2 with
 | .var _ cs=>(cs[j]?).getD .unk
 |_ => .unk
def chL (t:RT) (c:Ch):Th (List t.ty):=match c with
 | .row _ _ t' l=>if h:t'=t then W6 h l else a7b t
 | .ro t' l=>if h:t'=t then W6 h l else a7b t
 |_=>a7b t
def St.rowL (t:RT) (σ : St) (k:Nat):Th (List t.ty):=chL t (σ.hp.get k).2
def d8Y (a b:Th Int) (c:Th Bool) (d e f g h i j:Th Int):Th Row:=fun _=>⟨a (),b (),c (),⟨d (),e (),f (),g (),h ()⟩,i (),j ()⟩
def d7f (σ : St) (k:Nat):Th Row:=d8Y (asI (σ.ce k 0)) (asI (σ.ce k 1)) (asB (σ.ce k 2)) (asI (σ.ce k 3)) (asI (σ.ce k 4)) (asI (σ.ce k 5)) (asI (σ.ce k 6)) (asI (σ.ce k 7)) (asI (σ.ce k 8)) (asI (σ.ce k 9))
def d2D (a b:Th Int) (c:Th (List Srv)) (d:Th (List Sto)) (e f:Th (List Int)) (g:Th (List Row)) (h:Th (List Msg)) (i:Th (List Note)):Th Wld:=fun _=>⟨⟨a (),b ()⟩,c (),d (),⟨e (),f ()⟩,g (),h (),i ()⟩
def b0r (σ : St) (k:Nat):Th Wld:=d2D (asI (σ.ce k 0)) (asI (σ.ce k 1)) (asL .srv (σ.ce k 2)) (asL .sto (σ.ce k 3)) (asL .int (σ.ce k 4)) (asL .int (σ.ce k 5)) (asL .row (σ.ce k 6)) (asL .msg (σ.ce k 7)) (asL .note (σ.ce k 8))
def St.a4D (σ : St) (k:Nat):Nat→List A→St
 |_,[] => σ
 |j,a::r=>(σ.u9 k j (.att a)).a4D k (j+1) r
end Go.Sx
namespace Go.Mo
open Go.Sx
end Go.Mo
