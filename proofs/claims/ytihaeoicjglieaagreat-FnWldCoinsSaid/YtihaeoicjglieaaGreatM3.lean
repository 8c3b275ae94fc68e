/-
  Plain models: is a world ok.
-/
import Derived.Test.YtihaeoicjglieaaGreatM2
import Derived.Test.YtihaeoicjglieaaGreatS4e
import Derived.Test.YtihaeoicjglieaaGreatM1
set_option linter.unusedVariables false
set_option linter.unusedSimpArgs false
namespace Go.Sx
end Go.Sx
namespace Go.Mo
open Go.Sx
def b1N (w:Wld):Bool:=decide (w.net.length≤40)&&m8 w.net.length (a7H w)
def a4G (l:List Note) (i:Nat):Bool:=a6p (nth .note l i)
def a7G (l:List Note):Bool:=decide (l.length≤150)&&m8 l.length (a4G l)
def a8w (w:Wld):Bool:=m8 w.servers.length (a4a w)
theorem a1w {f:Nat→Bool} {k n:Nat} (h:m8 k f=true) (hk:k=n):m8 n f=true:=by subst hk;exact h
theorem b3N {w:Wld} {k:Nat} (h:k<w.servers.length) (hw:B5 w.map (nth .srv w.servers k)=false):m8 w.servers.length (a4a w)=false :=
 s7 h (by simp[a4a,hw])
theorem b3M {w:Wld} {k j:Nat} (h:k<w.servers.length) (hj:j<(nth .srv w.servers k).holds.length) (hw:a4W w.table (nth .srv w.servers k).holds j=false):m8 w.servers.length (a4a w)=false :=
 s7 h (by rw[a4a,s7 hj hw,Bool.and_false])
theorem b7P {w:Wld} {k j:Nat} (h1:B5 w.map (nth .srv w.servers k)=true) (h2:m8 j (a4W w.table (nth .srv w.servers k).holds)=true) (hj:j=(nth .srv w.servers k).holds.length):a4a w k=true:=by
 subst hj
 simp[a4a,h1,h2]
theorem b7E {w:Wld} {k:Nat} (h:k<w.stores.length) (hw:a1U w k=false):m8 w.stores.length (a1U w)=false:=s7 h hw
theorem c4M {w:Wld} {k:Nat} (h:k<w.net.length) (hw:a7H w k=false):m8 w.net.length (a7H w)=false:=s7 h hw
theorem b4w {l:List Note} {k:Nat} (h:k<l.length) (hw:a4G l k=false):m8 l.length (a4G l)=false:=s7 h hw
theorem c7s (w:Wld):m8 w.notes.length (c2g w)=m8 w.notes.length (a4G w.notes):=rfl
theorem c4W {m:PMap} {s:Srv} {k:Nat} (h:B5 m s=true) (hk:k<s.holds.length):0≤(nth .hld s.holds k).state.cell∧(nth .hld s.holds k).state.cell<m.cells:=by
 have:=n5 (B7.1 (a6c h hk)).2.2
 exact⟨this.2.2.1,this.2.2.2.1⟩
theorem b1O {m:PMap} {v:Int} {x:Msg} (h:y5 m v x=true):0≤x.cell∧x.cell<m.cells:=by
 simp only[y5,decide_eq_true_eq]at h
 exact⟨h.2.2.2.1,h.2.2.2.2.1⟩
theorem E9 {m:PMap} {t:Arb} {v:Int} (h:C2 m t v=true):(t.servers.length:Int)=m.cells∧(t.ages.length:Int)=m.cells∧s0 m=true∧1≤v∧v≤3:=by
 unfold C2 at h
 rw[Bool.and_eq_true]at h
 have h1:=h.1
 simp only[a0b,decide_eq_true_eq]at h1
 exact⟨h1.2.2.2.1,h1.2.2.2.2,h1.1,h1.2.1,h1.2.2.1⟩
theorem a1A {m:PMap} {l:List Sto} (h:A9 m l=true):(l.length:Int)=m.cells∧s0 m=true:=by
 unfold A9 at h
 rw[Bool.and_eq_true]at h
 have h1:=h.1
 simp only[decide_eq_true_eq]at h1
 exact⟨h1.2,h1.1⟩
theorem b0F {m:PMap} {l:List Sto} (h:A9 m l=true):l.length≤4:=by
 obtain⟨h1,h2⟩:=a1A h
 obtain⟨_,h3,_⟩:=o8.1 h2
 omega
def a6K (w:Wld):Bool:=C2 w.map w.table w.servers.length&&A9 w.map w.stores&&B9 w.map w.rows&&m8 w.stores.length (a1U w)&&a8w w&&b1N w&&a7G w.notes
theorem b3C (w:Wld):j8 w=a6K w:=by
 simp only[j8,a6K,a8w,b1N,a7G,c7s]
 by_cases h1:w.net.length≤40<;>by_cases h2:w.notes.length≤150<;>simp[h1,h2]
theorem P6 (t:RT) {l:List t.ty} {x:t.ty} (h:x∈l) : ∃i,i<l.length∧nth t l i=x:=by
 obtain⟨i,hi,he⟩:=List.getElem_of_mem h
 exact⟨i,hi,by rw[l6 t l i hi];exact he⟩
theorem c0a {m:PMap} {l:List Gst}:D9 m l=true↔l.length≤20∧(∀g∈l,a1d m g=true)∧GSort l:=by
 constructor
 ·intro h
  refine⟨?_,fun g hg => ?_,b2j h⟩
  ·simp only[D9,Bool.and_eq_true,decide_eq_true_eq]at h;exact h.1
  ·obtain⟨i,hi,rfl⟩:=P6 .gst hg
   simp only[D9,Bool.and_eq_true]at h
   have:=(m4 _ _).1 h.2 i hi
   simp only[a3i,Bool.and_eq_true]at this
   exact this.1
 ·rintro⟨h1,h2,h3⟩
  simp only[D9,Bool.and_eq_true,decide_eq_true_eq]
  refine⟨h1,(m4 _ _).2 fun i hi => ?_⟩
  simp only[a3i,Bool.and_eq_true,Bool.or_eq_true,decide_eq_true_eq]
  refine⟨h2 _ (s4 .gst hi),?_⟩
  by_cases h0:i=0
  ·exact .inl h0
  ·right
   have:=List.pairwise_iff_getElem.1 h3 (i-1) i (by omega) hi (by omega)
   rwa [l6 .gst _ _ hi,l6 .gst _ _ (by omega)]
theorem a1O {m:PMap} {l:List Gst}:W9 m l=true↔s0 m=true∧l.length≤20∧(∀g∈l,a1d m g=true)∧GSort l:=by
 rw[W9,Bool.and_eq_true,c0a]
theorem C3 {m:PMap} {s:Srv}:B5 m s=true↔W9 m s.n9=true∧a5H s=true∧(∀h∈s.holds,S8 m h=true)∧HSort s.holds:=by
 constructor
 ·intro h
  refine⟨?_,?_,fun g hg => ?_,b2c h⟩
  ·simp only[B5,Bool.and_eq_true]at h;exact h.1.1
  ·simp only[B5,Bool.and_eq_true]at h;exact h.1.2
  ·obtain⟨i,hi,rfl⟩:=P6 .hld hg
   exact a6c h hi
 ·rintro⟨h1,h2,h3,h4⟩
  simp only[B5,Bool.and_eq_true]
  refine⟨⟨h1,h2⟩,(m4 _ _).2 fun i hi => ?_⟩
  simp only[a3h,Bool.and_eq_true,Bool.or_eq_true,decide_eq_true_eq]
  refine⟨h3 _ (s4 .hld hi),?_⟩
  by_cases h0:i=0
  ·exact .inl h0
  ·right
   have:=List.pairwise_iff_getElem.1 h4 (i-1) i (by omega) hi (by omega)
   rwa [l6 .hld _ _ hi,l6 .hld _ _ (by omega)]
theorem D0 {m:PMap} {l:List Sto}:A9 m l=true↔s0 m=true∧(l.length:Int)=m.cells ∧ ∀i,i<l.length→B1 m (nth .sto l i)=true∧(nth .sto l i).base.cell=(i:Int):=by
 simp only[A9,Bool.and_eq_true,decide_eq_true_eq,and_assoc]
 refine and_congr_right fun _=>and_congr_right fun _ => ?_
 rw[m4]
 simp only[a2O,Bool.and_eq_true,decide_eq_true_eq]
theorem a2R {s:Srv}:a5H s=true↔(s.up=true∨s.holds = []∧s.n9 = []):=by
 simp[a5H]
theorem V1 : ∀ {l:List Hld} {h x:Hld},HSort l→x∈putH l h→x=h∨x∈l∧x.state.cell≠h.state.cell
 |[],h,x,_,hx=>by simp[putH]at hx;exact .inl hx
 |y::l,h,x,hs,hx=>by
  obtain⟨hy,hl⟩:=List.pairwise_cons.1 hs
  simp only[putH]at hx
  split at hx
  ·rename_i h1
   rcases List.mem_cons.1 hx with rfl|hx
   ·exact .inl rfl
   ·right
    refine⟨hx,?_⟩
    rcases List.mem_cons.1 hx with rfl|hx
    ·omega
    ·have:=hy x hx;omega
  ·split at hx
   ·rename_i h1 h2
    rcases List.mem_cons.1 hx with rfl|hx
    ·exact .inl rfl
    ·have:=hy x hx
     exact .inr ⟨List.mem_cons_of_mem _ hx,by omega⟩
   ·rename_i h1 h2
    rcases List.mem_cons.1 hx with rfl|hx
    ·exact .inr ⟨List.mem_cons_self,by omega⟩
    ·rcases V1 hl hx with rfl|⟨h3,h4⟩
     ·exact .inl rfl
     ·exact .inr ⟨List.mem_cons_of_mem _ h3,h4⟩
theorem a8L : ∀ {l:List Hld} {h:Hld},HSort l→HSort (putH l h)
 |[],h,_=>by simp[putH]
 |y::l,h,hs=>by
  obtain⟨hy,hl⟩:=List.pairwise_cons.1 hs
  simp only[putH]
  split
  ·rename_i h1
   refine List.pairwise_cons.2 ⟨fun x hx => ?_,hs⟩
   rcases List.mem_cons.1 hx with rfl|hx
   ·exact h1
   ·have:=hy x hx;omega
  ·split
   ·rename_i h1 h2
    refine List.pairwise_cons.2 ⟨fun x hx => ?_,hl⟩
    have:=hy x hx;omega
   ·rename_i h1 h2
    refine List.pairwise_cons.2 ⟨fun x hx => ?_,a8L hl⟩
    rcases V1 hl hx with rfl|⟨h3,_⟩
    ·omega
    ·exact hy x h3
theorem b7h {l:List Hld} {c:Int} {x:Hld}:x∈F6 l c↔x∈l∧x.state.cell≠c:=by simp[F6]
theorem d2u {l:List Hld} {c:Int} (h:HSort l):HSort (F6 l c):=List.Pairwise.filter _ h
theorem H8 {s:Srv} {c:Int} (h:A6 s c=true):j6 s c∈s.holds∧(j6 s c).state.cell=c:=by
 simp only[A6,decide_eq_true_eq]at h
 have hlt:=a3K s.holds c
 rw[j6,if_pos h]
 exact⟨s4 .hld (by omega),a3g h⟩
theorem a7d {room:Bool} : ∀ {l:List Gst} {g x:Gst},x∈putG room l g→x=g∨x∈l
 |[],g,x,h=>by
  simp only[putG]at h
  split at h
  ·exact .inl (by simpa using h)
  ·simp at h
 |y::l,g,x,h=>by
  simp only[putG]at h
  split at h
  ·split at h
   ·rcases List.mem_cons.1 h with rfl|h
    ·exact .inl rfl
    ·exact .inr h
   ·exact .inr h
  ·split at h
   ·rcases List.mem_cons.1 h with rfl|h
    ·unfold a7O
     split
     ·exact .inl rfl
     ·exact .inr List.mem_cons_self
    ·exact .inr (List.mem_cons_of_mem _ h)
   ·rcases List.mem_cons.1 h with rfl|h
    ·exact .inr List.mem_cons_self
    ·rcases a7d h with h|h
     ·exact .inl h
     ·exact .inr (List.mem_cons_of_mem _ h)
theorem c7y (x g:Gst) (he:x.src=g.src∧x.wlk.id=g.wlk.id):(a7O x g).src=g.src∧(a7O x g).wlk.id=g.wlk.id:=by
 unfold a7O
 split
 ·exact⟨rfl,rfl⟩
 ·exact he
theorem b4f {room:Bool} : ∀ {l:List Gst} {g:Gst},GSort l→GSort (putG room l g)
 |[],g,_=>by simp only[putG];split<;>simp
 |y::l,g,hs=>by
  obtain⟨hy,hl⟩:=List.pairwise_cons.1 hs
  simp only[putG]
  split
  ·rename_i h1
   split
   ·refine List.pairwise_cons.2 ⟨fun x hx => ?_,hs⟩
    rcases List.mem_cons.1 hx with rfl|hx
    ·exact h1
    ·have:=hy x hx
     rw[J5]at *
     omega
   ·exact hs
  ·split
   ·rename_i h1 h2
    refine List.pairwise_cons.2 ⟨fun x hx => ?_,hl⟩
    have:=hy x hx
    have hk:=c7y y g h2
    rw[J5]at *
    omega
   ·rename_i h1 h2
    refine List.pairwise_cons.2 ⟨fun x hx => ?_,b4f hl⟩
    rcases a7d hx with rfl|h3
    ·rw[J5]at *
     omega
    ·exact hy x h3
theorem b8I {room:Bool} : ∀(l:List Gst) (g:Gst),(putG room l g).length≤l.length+(if room=true then 1 else 0)
 |[],g=>by simp only[putG];split<;>simp
 |y::l,g=>by
  have:=b8I (room:=room) l g
  simp only[putG]
  split
  ·split<;>simp
  ·split
   ·simp
   ·simp only[List.length_cons];omega
theorem c7T {m:PMap} {l:List Gst} {g:Gst} (hl:W9 m l=true) (hg:a1d m g=true):W9 m (a2J l g)=true:=by
 obtain⟨h1,h2,h3,h4⟩:=a1O.1 hl
 rw[a6w h4]
 refine a1O.2 ⟨h1,?_,fun x hx => ?_,b4f h4⟩
 ·have:=b8I (room:=decide (l.length<20)) l g
  by_cases h5:l.length<20
  ·rw[decide_eq_true h5,if_pos rfl]at this
   rw[decide_eq_true h5]
   omega
  ·rw[decide_eq_false h5]at this ⊢
   simp at this
   omega
 ·rcases a7d hx with rfl|hx
  ·exact hg
  ·exact h3 x hx
theorem b0x {m:PMap} {h:Hld} {s:Sto} {r:Rec} (hn:(y4 m h s r).n=1) :
  S8 m h=true∧B1 m s=true∧h.age=s.age∧h.count=s.recs.length∧h.count<250∧H4 m r=true∧(l7 m (q9 m s) r).ok=true∧(l7 m h.state r).ok=true ∧
  (y4 m h s r).h=⟨h.age,h.count+1,(l7 m h.state r).c⟩∧(y4 m h s r).s=⟨s.age,s.base,s.recs ++ [r]⟩∧(y4 m h s r).k=(l7 m h.state r).code:=by
 unfold y4 at *
 split at hn
 ·rename_i hc
  rw[if_pos hc]
  split at hn
  ·rename_i h1
   exact absurd hn h1
  split at hn
  ·cases hn
  ·rename_i h1 h2
   rw[if_neg h1,if_neg h2]
   have h1:(L4 m s h.age h.count r).n=1:=Classical.not_not.1 h1
   have hl:=(y7.1 hc.2).2.2.1
   rcases a3n m s h.age h.count r with ⟨_,h3⟩|⟨h3,h4,h5,h6,h7,h8,h9⟩
   ·omega
   ·exact⟨hc.1,hc.2,h5,h6,by omega,h8,h9,by simpa using h2,rfl,h3,rfl⟩
 ·cases hn
theorem c5S {m:PMap} {h:Hld} {s:Sto} {r:Rec} (hh:S8 m h=true) (hs:B1 m s=true):(y4 m h s r).n=2↔h.age≠s.age:=by
 constructor
 ·intro hn he
  unfold y4 at hn
  rw[if_pos ⟨hh,hs⟩]at hn
  split at hn
  ·rcases a3n m s h.age h.count r with ⟨_,h2⟩|⟨_,h2,_⟩
   ·have hn:(L4 m s h.age h.count r).n=2:=hn
    omega
   ·have hn:(L4 m s h.age h.count r).n=2:=hn
    omega
  split at hn
  ·cases hn
  ·cases hn
 ·intro he
  exact(b5o hh hs he).2.2
theorem a8W (m:PMap) (c:Cll) (i:Nat) (w:Wlk) (o:Ord):(Q8 m c i w o).c.cell=c.cell:=by
 unfold Q8 a0t a0v a0w a0u U3
 repeat' split
 all_goals rfl
theorem d5a (m:PMap) (c:Cll) (o:Ord):(J0 m c o).c.cell=c.cell:=by
 unfold J0
 split
 ·rfl
 ·simp only
  split
  ·rfl
  ·split
   ·rfl
   ·exact a8W m c _ _ o
theorem a0y (m:PMap) (c:Cll) (r:Rec):(l7 m c r).c.cell=c.cell:=by
 unfold l7
 split
 ·split
  ·exact d5a m c r.ord
  ·rfl
 ·split
  ·rfl
  ·split
   ·simp only[y6]
    split
    ·rfl
    ·split
     ·rfl
     ·split<;>rfl
   ·simp only[G9]
    split<;>rfl
theorem a9U (m:PMap) (c:Cll) (l:List Rec) : ∀k,(v8 m c l k).cell=c.cell
 | 0=>rfl
 |k+1=>by rw[P1,a0y,a9U m c l k]
theorem a0i (m:PMap) (s:Sto):(q9 m s).cell=s.base.cell:=a9U m s.base s.recs _
def o7 (x:Msg):Rec:=if x.kind=2 then⟨1,x.ord,0,y8,0⟩else if x.kind=5 then⟨2,u5,x.side,x.pcl,0⟩else⟨3,u5,x.side,y8,x.n⟩
def n8 (st:List Sto) (x:Msg):Sto:=nth .sto st x.cell.toNat
inductive Eff (m:PMap) (s:Srv) (st:List Sto) (x:Msg):Srv→List Sto→Prop
 |same:Eff m s st x s st
 |ghost (hu:s.up=true) (hk:x.kind=7):Eff m s st x ⟨s.up,s.holds,a2J s.n9 x.gst⟩ st
 |grant (hu:s.up=true) (hk:x.kind=1) (hn:A6 s x.cell=true→(j6 s x.cell).age<x.n) (ha:(n8 st x).age≤x.n) :
   Eff m s st x ⟨s.up,putH s.holds ⟨x.n,(n8 st x).recs.length,q9 m (n8 st x)⟩,s.n9⟩ (st.set x.cell.toNat ⟨x.n,(n8 st x).base,(n8 st x).recs⟩)
 |lost (hu:s.up=true) (hk:x.kind=2∨x.kind=5∨x.kind=6) (hh:A6 s x.cell=true) (ha:(j6 s x.cell).age≠(n8 st x).age):Eff m s st x ⟨s.up,F6 s.holds x.cell,s.n9⟩ st
 |write (hu:s.up=true) (hk:x.kind=2∨x.kind=5∨x.kind=6) (hh:A6 s x.cell=true) (ha:(j6 s x.cell).age=(n8 st x).age) (hc:(j6 s x.cell).count=(n8 st x).recs.length) (hl:(j6 s x.cell).count<250)
   (hr:H4 m (o7 x)=true) (h1:(l7 m (q9 m (n8 st x)) (o7 x)).ok=true) (h2:(l7 m (j6 s x.cell).state (o7 x)).ok=true)
   (hf:x.kind=2→u3 (j6 s x.cell).state.wlks x.ord.who=true∧(E3 (j6 s x.cell).state.wlks x.ord.who).seq<x.ord.seq)
   (hp:x.kind=5→nth .int (j6 s x.cell).state.ins x.side.toNat≤x.pcl.n) :
   Eff m s st x ⟨s.up,putH s.holds ⟨(j6 s x.cell).age,(j6 s x.cell).count+1,(l7 m (j6 s x.cell).state (o7 x)).c⟩,s.n9⟩ (st.set x.cell.toNat ⟨(n8 st x).age,(n8 st x).base,(n8 st x).recs ++ [o7 x]⟩)
theorem a2x {m:PMap} {st:List Sto} {v:Int} {x:Msg} (h:A9 m st=true) (hx:y5 m v x=true):0≤x.cell∧x.cell.toNat<st.length∧B1 m (n8 st x)=true∧(n8 st x).base.cell=x.cell:=by
 obtain⟨h1,h2⟩:=b1O hx
 obtain⟨h3,h4,h5⟩:=D0.1 h
 have hl:x.cell.toNat<st.length:=by omega
 obtain⟨h6,h7⟩:=h5 _ hl
 exact⟨h1,hl,h6,by rw[n8,h7];omega⟩
theorem a3e {m:PMap} {v:Int} {x:Msg} (hx:y5 m v x=true):(x.kind=1∨x.kind=2∨x.kind=5∨x.kind=6∨x.kind=7)∧0≤x.dest∧x.dest<v∨(x.kind=3∨x.kind=4)∧x.dest = -1:=by
 simp only[y5,H7,decide_eq_true_eq]at hx
 omega
theorem Y0 {m:PMap} {s:Srv} {st:List Sto} {v:Int} {x:Msg} (hs:B5 m s=true) (hst:A9 m st=true) (hx:y5 m v x=true) (hu:s.up=true) (hk:x.kind=2∨x.kind=5∨x.kind=6) (hh:A6 s x.cell=true)
  (hf:x.kind=2→u3 (j6 s x.cell).state.wlks x.ord.who=true∧(E3 (j6 s x.cell).state.wlks x.ord.who).seq<x.ord.seq)
  (hp:x.kind=5→nth .int (j6 s x.cell).state.ins x.side.toNat≤x.pcl.n) :
  Eff m s st x (C0 m s st x.cell (o7 x)).srv (C0 m s st x.cell (o7 x)).stores ∧
  ((C0 m s st x.cell (o7 x)).n=1→(C0 m s st x.cell (o7 x)).k=(l7 m (j6 s x.cell).state (o7 x)).code∧(C0 m s st x.cell (o7 x)).stores=st.set x.cell.toNat ⟨(n8 st x).age,(n8 st x).base,(n8 st x).recs ++ [o7 x]⟩ ∧
   (j6 s x.cell).age=(n8 st x).age∧(j6 s x.cell).count=(n8 st x).recs.length∧(l7 m (j6 s x.cell).state (o7 x)).ok=true∧(l7 m (q9 m (n8 st x)) (o7 x)).ok=true∧H4 m (o7 x)=true):=by
 obtain⟨_,_,hso,_⟩:=a2x hst hx
 obtain⟨hm,_⟩:=H8 hh
 obtain⟨_,_,hall,hsort⟩:=C3.1 hs
 have hho:=hall _ hm
 unfold C0
 simp only
 rw[a3L hsort]
 split
 ·rename_i hn
  obtain⟨g1,g2,g3,g4,g5,g6,g7,g8,g9,g10,g11⟩:=b0x hn
  refine⟨?_,fun _=>⟨g11,by rw[g10];rfl,g3,g4,g8,g7,g6⟩⟩
  have:=Eff.write hu hk hh g3 g4 g5 g6 g7 g8 hf hp
  rw[g9,g10]
  exact this
 ·split
  ·rename_i hn1 hn
   exact⟨.lost hu hk hh ((c5S hho hso).1 hn),fun h=>by cases h⟩
  ·rename_i hn1 hn2
   exact⟨.same,fun h=>absurd h hn1⟩
theorem a8Y {m:PMap} {s:Srv} {st:List Sto} {t:Arb} {v:Int} {x:Msg} (hs:B5 m s=true) (hst:A9 m st=true) (hx:y5 m v x=true):Eff m s st x (o6 m s st t x).srv (o6 m s st t x).stores:=by
 obtain⟨_,_,_,hsort⟩:=C3.1 hs
 unfold o6
 split
 ·exact .same
 rename_i hu0
 have hu:s.up=true:=by
  cases h:s.up with
  |true=>rfl
  |false=>exact absurd (.inl h) hu0
 have hkk:=a3e hx
 have hd : ¬x.dest = -1:=fun h=>hu0 (.inr h)
 split
 ·rename_i hk
  unfold M5
  split
  ·exact .same
  rename_i hn
  split
  ·exact .same
  rename_i ha
  rw[a3L hsort]
  refine .grant hu hk (fun hh => ?_) ?_
  ·exact Int.not_le.1 fun hle=>hn ⟨hh,hle⟩
  ·exact Int.not_lt.1 ha
 split
 ·rename_i hk1 hk
  exact .ghost hu hk
 split
 ·exact .same
 rename_i hk1 hk7 hno
 have hh:A6 s x.cell=true:=by simpa using hno
 split
 ·rename_i hk
  unfold Y2
  simp only
  split
  ·exact .same
  rename_i hw
  split
  ·exact .same
  rename_i hq1
  split
  ·exact .same
  rename_i hq2
  have e:o7 x=⟨1,x.ord,0,y8,0⟩:=by rw[o7,if_pos hk]
  rw[←e]
  exact(Y0 hs hst hx hu (.inl hk) hh (fun _=>⟨by simpa using hw,by omega⟩) (fun h=>by omega)).1
 split
 ·rename_i hk2 hk
  unfold Y1
  simp only
  split
  ·exact .same
  rename_i hq
  have e:o7 x=⟨2,u5,x.side,x.pcl,0⟩:=by rw[o7,if_neg hk2,if_pos hk]
  rw[←e]
  exact(Y0 hs hst hx hu (.inr (.inl hk)) hh (fun h=>by omega) (fun _=>Int.not_lt.1 hq)).1
 ·rename_i hk2 hk5
  have e:o7 x=⟨3,u5,x.side,y8,x.n⟩:=by rw[o7,if_neg hk2,if_neg hk5]
  simp only
  rw[←e]
  have hk6:x.kind=6:=by omega
  exact(Y0 hs hst hx hu (.inr (.inr hk6)) hh (fun h=>by omega) (fun h=>by omega)).1
theorem H5 (t:RT) {l:List t.ty} {i j:Nat} {x:t.ty} (hi:i<l.length):nth t (l.set i x) j=if j=i then x else nth t l j:=by
 by_cases h:j=i
 ·subst h
  rw[if_pos rfl,l9 t hi]
 ·rw[if_neg h,n6 t (fun hh=>h hh.symm)]
theorem b7D {m:PMap} {st:List Sto} {i:Nat} {s:Sto} (h:A9 m st=true) (hi:i<st.length) (hs:B1 m s=true) (hb:s.base=(nth .sto st i).base):A9 m (st.set i s)=true:=by
 obtain⟨h1,h2,h3⟩:=D0.1 h
 refine D0.2 ⟨h1,by simpa using h2,fun j hj => ?_⟩
 rw[List.length_set]at hj
 rw[H5 .sto hi]
 split
 ·rename_i he
  subst he
  exact⟨hs,by rw[hb];exact(h3 j hi).2⟩
 ·exact h3 j hj
theorem d3z {m:PMap} {s:Sto} {r:Rec} (h:B1 m s=true) (hl:(s.recs.length:Int)<250) (hr:H4 m r=true) (ha:(l7 m (q9 m s) r).ok=true):B1 m ⟨s.age,s.base,s.recs ++ [r]⟩=true:=by
 obtain⟨h1,h2,h3,h4⟩:=y7.1 h
 refine y7.2 ⟨h1,h2,?_,b4P h4 hr ha⟩
 simp
 omega
theorem d2m {m:PMap} {s s':Srv} {st st':List Sto} {v:Int} {x:Msg} (hs:B5 m s=true) (hst:A9 m st=true) (hx:y5 m v x=true) (he:Eff m s st x s' st'):B5 m s'=true∧A9 m st'=true∧st'.length=st.length∧s'.up=s.up:=by
 obtain⟨hc0,hcl,hso,hbc⟩:=a2x hst hx
 obtain⟨hg,hup,hh,hso2⟩:=C3.1 hs
 cases he with
 |same=>exact⟨hs,hst,rfl,rfl⟩
 |ghost hu hk =>
  have hgo:a1d m x.gst=true:=by
   simp only[y5,H7,decide_eq_true_eq]at hx
   grind
  exact⟨C3.2 ⟨c7T hg hgo,a2R.2 (.inl hu),hh,hso2⟩,hst,rfl,rfl⟩
 |grant hu hk hn ha =>
  have hxn:1≤x.n∧x.n≤900:=by
   simp only[y5,H7,decide_eq_true_eq]at hx
   omega
  obtain⟨g1,g2⟩:=d3f (m:=m) (s:=n8 st x) (a:=x.n) hso (by omega) (by omega)
  refine⟨C3.2 ⟨hg,a2R.2 (.inl hu),fun h hm => ?_,a8L hso2⟩,b7D hst hcl g1 rfl,by simp,rfl⟩
  rcases V1 hso2 hm with rfl|⟨h1,_⟩
  ·have hl:=(y7.1 hso).2.2.1
   exact B7.2 ⟨hxn,⟨by simp,by simp;omega⟩,a1C hso⟩
  ·exact hh _ h1
 |lost hu hk hh2 ha=>exact⟨C3.2 ⟨hg,a2R.2 (.inl hu),fun h hm=>hh _ (b7h.1 hm).1,d2u hso2⟩,hst,rfl,rfl⟩
 |write hu hk hh2 ha hc hl hr h1 h2 hf hp =>
  obtain⟨hm1,hm2⟩:=H8 hh2
  obtain⟨o1,o2,o3⟩:=B7.1 (hh _ hm1)
  refine⟨C3.2 ⟨hg,a2R.2 (.inl hu),fun h hm => ?_,a8L hso2⟩,b7D hst hcl (d3z hso (by omega) hr h1) rfl,by simp,rfl⟩
  rcases V1 hso2 hm with rfl|⟨h3,_⟩
  ·exact B7.2 ⟨o1,⟨by simp only;omega,by simp only;omega⟩,a2v o3 hr⟩
  ·exact hh _ h3
theorem a3T {m:PMap} {t:Arb} {v:Int} (h:C2 m t v=true) (c:Int) (hne:o9 t c ≠ -1):0≤o9 t c∧o9 t c<v∧0≤c∧c<m.cells:=by
 have hl:=E9 h
 unfold o9 at *
 split at hne
 ·rename_i hc
  rw[if_pos hc]
  obtain⟨g1,g2,_⟩:=a6D h (k:=c.toNat) (by omega)
  have g1 : @LE.le Int _ (-1) (nth .int t.servers c.toNat):=g1
  have g2 : @LE.le Int _ (nth .int t.servers c.toNat) (v-1):=g2
  have hne : ¬ @Eq Int (nth .int t.servers c.toNat) (-1):=fun hh=>hne hh
  have : @LE.le Int _ 0 (nth .int t.servers c.toNat) ∧ @LT.lt Int _ (nth .int t.servers c.toNat) v:=⟨by omega,by omega⟩
  exact⟨this.1,this.2,hc.1,by omega⟩
 ·exact absurd rfl hne
theorem z6 {m:PMap} {c s:Int} (h:b7 m c s ≠ -1):(s=0∨s=1)∧s0 m=true∧0≤c∧c<m.cells∧0≤b7 m c s∧b7 m c s<m.cells∧b7 m (b7 m c s) (1-s)=c∧b7 m c s=c+(2 * s-1):=by
 obtain⟨h1,h2,h3,h4⟩:=K5 h
 have e:b7 m c s=c+(2 * s-1):=by
  rcases h4 with ⟨rfl,h5⟩|⟨rfl,h5⟩
  ·rw[b7,if_pos ⟨h1,h2,h3⟩,if_pos ⟨rfl,h5⟩];omega
  ·rw[b7,if_pos ⟨h1,h2,h3⟩,if_neg (by omega),if_pos ⟨rfl,h5⟩];omega
 rcases h4 with ⟨rfl,h5⟩|⟨rfl,h5⟩
 ·refine⟨.inl rfl,h1,h2,h3,by omega,by omega,?_,e⟩
  rw[e,b7,if_pos ⟨h1,by omega,by omega⟩,if_neg (by omega),if_pos ⟨by omega,by omega⟩]
  omega
 ·refine⟨.inr rfl,h1,h2,h3,by omega,by omega,?_,e⟩
  rw[e,b7,if_pos ⟨h1,by omega,by omega⟩,if_pos ⟨by omega,by omega⟩]
  omega
theorem c7z (m:PMap) (c:Cll) (i:Nat) (w:Wlk) (o:Ord):1≤(Q8 m c i w o).code∧(Q8 m c i w o).code≤7:=by
 unfold Q8 a0t a0v a0w a0u U3
 repeat' split
 all_goals(simp[I0])
theorem d4Z {m:PMap} {c:Cll} {o:Ord} (h:O6 c o=true):1≤(J0 m c o).code∧(J0 m c o).code≤7:=by
 obtain⟨h1,h2⟩:=X7 h
 rw[J0,if_neg h1]
 simp only
 rw[if_neg (by omega),if_neg (by omega)]
 exact c7z m c _ _ o
theorem b0w:a1X u5=true∧a3W y8=true∧a3p F8=true:=by decide
theorem c3o {m:PMap} {v:Int} {x:Msg} {n:Int} (hx:y5 m v x=true) (hk:x.kind=2) (h1:1≤n) (h2:n≤9):y5 m v (a2n x n)=true:=by
 obtain⟨z1,z2,z3⟩:=b0w
 simp only[y5,H7,decide_eq_true_eq,a2n]at hx ⊢
 grind
theorem d5f {m:PMap} {v:Int} {x:Msg} (hx:y5 m v x=true) (hk:x.kind=2):y5 m v (a7I x)=true:=by
 obtain⟨z1,z2,z3⟩:=b0w
 simp only[y5,H7,decide_eq_true_eq,a7I]at hx ⊢
 grind
theorem a3d {m:PMap} {v:Int} {x:Msg} (hx:y5 m v x=true) (hk:x.kind=5∨x.kind=6∨x.kind=7):b7 m x.cell x.side ≠ -1:=by
 simp only[y5,H7,decide_eq_true_eq]at hx
 grind
theorem c4O {m:PMap} {v:Int} {x:Msg} (hx:y5 m v x=true) (hk:x.kind=5):I8 m x.pcl=true:=by
 simp only[y5,H7,decide_eq_true_eq]at hx
 grind
theorem d1S {m:PMap} {t:Arb} {v:Int} {x:Msg} {n:Int} (ht:C2 m t v=true) (hx:y5 m v x=true) (hk:x.kind=5) (h1:1≤n) (h2:n≤5000) : ∀z∈U6 m t x n,y5 m v z=true:=by
 intro z hz
 unfold U6 at hz
 split at hz
 ·simp at hz
 rename_i hne
 simp only[List.mem_singleton]at hz
 subst hz
 have hsd:=a3d hx (.inl hk)
 obtain⟨g1,g2,g3,g4,g5,g6,g7,g8⟩:=z6 hsd
 obtain⟨a1,a2,a3,a4⟩:=a3T ht _ hne
 obtain⟨z1,z2,z3⟩:=b0w
 obtain⟨_,_,_,l1,l2⟩:=E9 ht
 have g9:b7 m (b7 m x.cell x.side) (1-x.side) ≠ -1:=by omega
 have g10:o9 t (b7 m x.cell x.side)≤v-1:=by omega
 clear g7 g8 hne hsd ht hx hk
 generalize b7 m x.cell x.side=d at *
 generalize o9 t d=y at *
 simp only[y5,H7,decide_eq_true_eq]
 grind
theorem c5b (m:PMap) (t:Arb) (x:Msg) (n:Int):(U6 m t x n).length≤1:=by
 unfold U6
 split<;>simp
theorem c2o {m:PMap} {c:Cll} (h:s6 m c=true) {s:Nat} (hs:s<2) : @LE.le Int _ 0 (nth .int c.ins s) ∧ @LE.le Int _ (nth .int c.ins s) 5000:=by
 exact⟨(D3 h hs).2.1.1,(D3 h hs).2.1.2⟩
theorem c9V {m:PMap} {c:Cll} {s:Nat} {p:Pcl} (hs:s<c.ins.length) (h:(y6 m c s p).ok=true) : @Eq Int (nth .int (y6 m c s p).c.ins s) (nth .int c.ins s+1) ∧ @Eq Int p.n (nth .int c.ins s):=by
 unfold y6 at *
 split at h
 ·cases h
 rename_i h1
 rw[if_neg h1]
 have hpn : @Eq Int p.n (nth .int c.ins s):=Classical.not_not.1 fun hh=>h1 (.inl hh)
 split at h
 ·rename_i h2
  rw[if_pos h2]
  exact⟨l9 .int hs,hpn⟩
 split at h
 ·cases h
 rename_i h2 h3
 rw[if_neg h2,if_neg h3]
 exact⟨l9 .int hs,hpn⟩
theorem b4F {m:PMap} {s:Srv} {st:List Sto} {t:Arb} {v:Int} {x:Msg} (hs:B5 m s=true) (hst:A9 m st=true) (ht:C2 m t v=true) (hx:y5 m v x=true) :
  (o6 m s st t x).out.length≤1 ∧ ∀z∈(o6 m s st t x).out,y5 m v z=true:=by
 have nil:(([]:List Msg)).length≤1 ∧ ∀z∈([]:List Msg),y5 m v z=true:=⟨by simp,by simp⟩
 have one : ∀y:Msg,y5 m v y=true→([y]:List Msg).length≤1 ∧ ∀z ∈ [y],y5 m v z=true:=fun y hy=>⟨by simp,fun z hz=>by simp at hz;subst hz;exact hy⟩
 obtain⟨_,_,hall,_⟩:=C3.1 hs
 unfold o6
 split
 ·exact nil
 rename_i hu0
 have hu:s.up=true:=by
  cases h:s.up with
  |true=>rfl
  |false=>exact absurd (.inl h) hu0
 split
 ·unfold M5
  split
  ·exact nil
  split
  ·exact nil
  ·exact nil
 split
 ·exact nil
 split
 ·exact nil
 rename_i hk1 hk7 hno
 have hh:A6 s x.cell=true:=by simpa using hno
 obtain⟨hm,hmc⟩:=H8 hh
 have hco:=(B7.1 (hall _ hm)).2.2
 split
 ·rename_i hk
  unfold Y2
  simp only
  split
  ·exact one _ (d5f hx hk)
  rename_i hw
  split
  ·exact nil
  rename_i hq1
  split
  ·rename_i hq2
   split
   ·exact nil
   ·rename_i hl0
    have hw':u3 (j6 s x.cell).state.wlks x.ord.who=true:=by simpa using hw
    have hf:=a4O hw'
    have hwo:=L7 hco (Q6 hw').1
    refine one _ (c3o hx hk ?_ ?_)
    ·rw[hf]at hl0 ⊢
     omega
    ·rw[hf]
     omega
  rename_i hq2
  have e:o7 x=⟨1,x.ord,0,y8,0⟩:=by rw[o7,if_pos hk]
  rw[←e]
  have hw':u3 (j6 s x.cell).state.wlks x.ord.who=true:=by simpa using hw
  have W:=(Y0 hs hst hx hu (.inl hk) hh (fun _=>⟨hw',by omega⟩) (fun h=>by omega)).2
  split
  ·rename_i hn
   obtain⟨g1,_,_,_,g2,_⟩:=W hn
   have hfr:O6 (j6 s x.cell).state x.ord=true:=by
    simp only[O6,Bool.and_eq_true,decide_eq_true_eq]
    exact⟨hw',by omega⟩
   have hcode:(l7 m (j6 s x.cell).state (o7 x)).code=(J0 m (j6 s x.cell).state x.ord).code:=by
    rw[e,l7,if_pos rfl,if_pos hfr]
   have:=d4Z (m:=m) hfr
   refine one _ (c3o hx hk ?_ ?_)
   ·rw[g1,hcode];omega
   ·rw[g1,hcode];omega
  ·exact nil
 split
 ·rename_i hk2 hk
  have hsd:=a3d hx (.inl hk)
  obtain⟨s1,_⟩:=z6 hsd
  have hs2:x.side.toNat<2:=by omega
  have hii:=c2o hco hs2
  have hpp:=I2.1 (c4O hx hk)
  unfold Y1
  simp only
  split
  ·rename_i hq
   have hq : @LT.lt Int _ x.pcl.n (nth .int (j6 s x.cell).state.ins x.side.toNat):=hq
   exact⟨c5b _ _ _ _,d1S ht hx hk (by omega) (by omega)⟩
  rename_i hq
  have e:o7 x=⟨2,u5,x.side,x.pcl,0⟩:=by rw[o7,if_neg hk2,if_pos hk]
  rw[←e]
  have W:=(Y0 hs hst hx hu (.inr (.inl hk)) hh (fun h=>by omega) (fun _=>Int.not_lt.1 hq)).2
  split
  ·rename_i hn
   obtain⟨_,_,_,_,g2,_,g3⟩:=W hn
   have hok2:=a2v hco g3
   have happ:l7 m (j6 s x.cell).state (o7 x)=⟨(y6 m (j6 s x.cell).state x.side.toNat x.pcl).c,0,(y6 m (j6 s x.cell).state x.side.toNat x.pcl).ok⟩:=by
    rw[e,l7,if_neg (by simp),if_neg (by rw[hmc];exact hsd),if_pos rfl]
   rw[happ]at g2 hok2
   have hl2:=(n5 hco).2.2.2.2.2.2.2.2
   have hri:=c9V (s:=x.side.toNat) (by omega) g2
   have hi2:=c2o hok2 hs2
   simp only at hi2
   exact⟨c5b _ _ _ _,d1S ht hx hk (by omega) (by omega)⟩
  ·exact nil
 ·exact nil
theorem c0f {m:PMap} {t:Arb} {x z:Msg} {n:Int} (h:z∈U6 m t x n):z.kind=6:=by
 unfold U6 at h
 split at h
 ·simp at h
 ·simp at h;rw[h]
theorem a7p {m:PMap} {s:Srv} {st:List Sto} {t:Arb} {x z:Msg} (h:z∈(o6 m s st t x).out):z.kind=3∨z.kind=4∨z.kind=6:=by
 unfold o6 at h
 split at h
 ·simp at h
 split at h
 ·unfold M5 at h
  split at h
  ·simp at h
  split at h
  ·simp at h
  ·simp at h
 split at h
 ·simp at h
 split at h
 ·simp at h
 split at h
 ·unfold Y2 at h
  simp only at h
  split at h
  ·simp at h;rw[h];exact .inr (.inl rfl)
  split at h
  ·simp at h
  split at h
  ·split at h
   ·simp at h
   ·simp at h;rw[h];exact .inl rfl
  split at h
  ·simp at h;rw[h];exact .inl rfl
  ·simp at h
 split at h
 ·unfold Y1 at h
  simp only at h
  split at h
  ·exact .inr (.inr (c0f h))
  split at h
  ·exact .inr (.inr (c0f h))
  ·simp at h
 ·simp at h
theorem n0 {w:Wld}:j8 w=true↔C2 w.map w.table w.servers.length=true∧A9 w.map w.stores=true∧B9 w.map w.rows=true∧w.net.length≤40∧w.notes.length≤150 ∧
  (∀i,i<w.stores.length→(nth .sto w.stores i).age≤nth .int w.table.ages i)∧(∀s∈w.servers,B5 w.map s=true ∧ ∀h∈s.holds,h.age≤nth .int w.table.ages h.state.cell.toNat) ∧
  (∀x∈w.net,y5 w.map w.servers.length x=true∧(x.kind=1→x.n≤nth .int w.table.ages x.cell.toNat)) ∧ ∀n∈w.notes,a6p n=true:=by
 simp only[j8,Bool.and_eq_true,decide_eq_true_eq,and_assoc]
 refine and_congr_right fun _=>and_congr_right fun _=>and_congr_right fun _=>and_congr_right fun _=>and_congr_right fun _ => ?_
 refine and_congr ?_ (and_congr ?_ (and_congr ?_ ?_))
 ·rw[m4];simp only[a1U,decide_eq_true_eq]
 ·rw[m4]
  simp only[a4a,Bool.and_eq_true,m4,a4W,decide_eq_true_eq]
  constructor
  ·intro h s hs
   obtain⟨i,hi,rfl⟩:=P6 .srv hs
   refine⟨(h i hi).1,fun g hg => ?_⟩
   obtain⟨j,hj,rfl⟩:=P6 .hld hg
   exact(h i hi).2 j hj
  ·intro h i hi
   have:=h _ (s4 .srv hi)
   exact⟨this.1,fun j hj=>this.2 _ (s4 .hld hj)⟩
 ·rw[m4]
  simp only[a7H,Bool.and_eq_true,decide_eq_true_eq]
  constructor
  ·intro h s hs
   obtain⟨i,hi,rfl⟩:=P6 .msg hs
   exact h i hi
  ·intro h i hi
   exact h _ (s4 .msg hi)
 ·rw[m4]
  simp only[c2g]
  constructor
  ·intro h s hs
   obtain⟨i,hi,rfl⟩:=P6 .note hs
   exact h i hi
  ·intro h i hi
   exact h _ (s4 .note hi)
theorem a6R {w:Wld} {l:List Msg} (h:j8 w=true) (hl : ∀x∈l,y5 w.map w.servers.length x=true∧(x.kind=1→x.n≤nth .int w.table.ages x.cell.toNat)):j8 (v7 w l)=true:=by
 obtain⟨h1,h2,h3,h4,h5,h6,h7,h8,h9⟩:=n0.1 h
 refine n0.2 ⟨h1,h2,h3,?_,h5,h6,h7,fun x hx => ?_,h9⟩
 ·simp only[v7,List.length_append,List.length_take];omega
 ·simp only[v7,List.mem_append]at hx
  rcases hx with hx|hx
  ·exact h8 x hx
  ·exact hl x (List.mem_of_mem_take hx)
theorem d2L {w:Wld} {i:Nat} (h:j8 w=true):j8 (wCut w i)=true:=by
 obtain⟨h1,h2,h3,h4,h5,h6,h7,h8,h9⟩:=n0.1 h
 refine n0.2 ⟨h1,h2,h3,?_,h5,h6,h7,fun x hx=>h8 x (List.mem_of_mem_eraseIdx hx),h9⟩
 have:=List.length_eraseIdx_le w.net i
 simp only[wCut];omega
theorem d2n {m:PMap} {s s':Srv} {st st':List Sto} {v:Int} {x:Msg} {A:List Int} (hs:B5 m s=true) (hst:A9 m st=true) (hx:y5 m v x=true) (he:Eff m s st x s' st') (hA:(A.length:Int)=m.cells)
  (h1 : ∀i,i<st.length→(nth .sto st i).age≤nth .int A i) (h2 : ∀h∈s.holds,h.age≤nth .int A h.state.cell.toNat) (h3:x.kind=1→x.n≤nth .int A x.cell.toNat) :
  (∀i,i<st'.length→(nth .sto st' i).age≤nth .int A i) ∧ ∀h∈s'.holds,h.age≤nth .int A h.state.cell.toNat:=by
 obtain⟨hc0,hcl,hso,hbc⟩:=a2x hst hx
 obtain⟨hg,hup,hh,hso2⟩:=C3.1 hs
 cases he with
 |same=>exact⟨h1,h2⟩
 |ghost hu hk=>exact⟨h1,h2⟩
 |grant hu hk hn ha =>
  refine⟨fun i hi => ?_,fun h hm => ?_⟩
  ·rw[List.length_set]at hi
   rw[H5 .sto hcl]
   split
   ·rename_i he;subst he;exact h3 hk
   ·exact h1 i hi
  ·rcases V1 hso2 hm with rfl|⟨h5,_⟩
   ·simp only
    rw[a0i,hbc]
    exact h3 hk
   ·exact h2 h h5
 |lost hu hk hh2 ha=>exact⟨h1,fun h hm=>h2 h (b7h.1 hm).1⟩
 |write hu hk hh2 ha hc hl hr g1 g2 hf hp =>
  obtain⟨hm1,hm2⟩:=H8 hh2
  refine⟨fun i hi => ?_,fun h hm => ?_⟩
  ·rw[List.length_set]at hi
   rw[H5 .sto hcl]
   split
   ·rename_i he;subst he;exact h1 _ hcl
   ·exact h1 i hi
  ·rcases V1 hso2 hm with rfl|⟨h5,_⟩
   ·simp only
    rw[a0y]
    exact h2 _ hm1
   ·exact h2 h h5
theorem d4I {w:Wld} {x:Msg} (h:j8 w=true) (hx:y5 w.map w.servers.length x=true) (hx2:x.kind=1→x.n≤nth .int w.table.ages x.cell.toNat) (hd:x.dest ≠ -1):j8 (a1Z w x)=true∧(a1Z w x).servers.length=w.servers.length:=by
 obtain⟨h1,h2,h3,h4,h5,h6,h7,h8,h9⟩:=n0.1 h
 have hdd:0≤x.dest∧x.dest<w.servers.length:=by
  rcases a3e hx with ⟨_,g1,g2⟩|⟨_,g⟩
  ·exact⟨g1,g2⟩
  ·exact absurd g hd
 have hdn:x.dest.toNat<w.servers.length:=by omega
 obtain⟨o1,o2⟩:=h7 _ (s4 .srv hdn)
 have he:=a8Y (t:=w.table) o1 h2 hx
 obtain⟨e1,e2,e3,e4⟩:=d2m o1 h2 hx he
 obtain⟨_,hal,_⟩:=E9 h1
 obtain⟨a1,a2⟩:=d2n o1 h2 hx he hal h6 o2 hx2
 refine⟨?_,by simp[a1Z,v7]⟩
 unfold a1Z
 simp only
 refine a6R ?_ fun z hz => ?_
 ·refine n0.2 ⟨by simpa using h1,e2,h3,h4,h5,a1,fun s hs => ?_,by simpa using h8,h9⟩
  rcases List.mem_or_eq_of_mem_set hs with hs|rfl
  ·exact h7 s hs
  ·exact⟨e1,a2⟩
 ·have ho:=(b4F o1 h2 h1 hx).2 z hz
  refine⟨by simpa using ho,fun hk => ?_⟩
  have:=a7p hz
  omega
theorem b6X {m:PMap} {l:List Row} {i:Nat} {r:Row} (h:B9 m l=true) (hi:i<l.length) (hr:Y4 m r=true) (hw:r.who=(nth .row l i).who):B9 m (l.set i r)=true:=by
 have h0:=h
 unfold B9 at h ⊢
 rw[Bool.and_eq_true]at h ⊢
 refine⟨h.1,(m4 _ _).2 fun j hj => ?_⟩
 rw[List.length_set]at hj
 obtain⟨h1,h2⟩:=a8Z h0 hj
 have hwho : ∀k,(nth .row (l.set i r) k).who=(nth .row l k).who:=fun k=>by
  rw[H5 .row hi]
  split
  ·rename_i he;subst he;exact hw
  ·rfl
 simp only[M1,Bool.and_eq_true,Bool.or_eq_true,decide_eq_true_eq,hwho]
 refine⟨?_,?_⟩
 ·rw[H5 .row hi]
  split
  ·exact hr
  ·exact h1
 ·by_cases hj0:j=0
  ·exact .inl hj0
  ·exact .inr (h2 (by omega))
theorem c1w {m:PMap} {l:List Row} {who:Int} (h:B9 m l=true) (hp:0≤m5 l who):Y4 m (rowAt l who)=true∧(rowAt l who).who=who∧(m5 l who).toNat<l.length:=by
 have hlt:=a2C l who
 have hl:(m5 l who).toNat<l.length:=by omega
 exact⟨(a8Z h hl).1,b5W hp,hl⟩
theorem d4L {m:PMap} {l:List Row} (h:B9 m l=true):s0 m=true:=by
 unfold B9 at h
 rw[Bool.and_eq_true]at h
 exact h.1
theorem a1r {m:PMap} {r:Row}:Y4 m r=true↔(1≤r.who∧r.who≤9∧0≤r.cell∧r.cell<m.cells∧0≤r.seq∧r.seq≤900∧0≤r.code∧r.code≤9)∧(r.busy=false→a1X r.ord=true)∧(r.busy=true→O2 r.ord=true∧r.ord.who=r.who∧r.ord.seq=r.seq+1):=by
 simp only[Y4,decide_eq_true_eq]
 constructor
 ·rintro⟨a,b,c,d,e,f,g,h,i,j⟩
  exact⟨⟨a,b,c,d,e,f,g,h⟩,i,j⟩
 ·rintro⟨⟨a,b,c,d,e,f,g,h⟩,i,j⟩
  exact⟨a,b,c,d,e,f,g,h,i,j⟩
theorem d2S {c n:Int} (h0:0≤c) (h1:c<n) (h2:n≤4):0≤(c+1).tmod n∧(c+1).tmod n<n:=by
 constructor
 ·exact Int.tmod_nonneg _ (by omega)
 ·have:=Int.tmod_lt_of_pos (c+1) (show 0<n by omega)
  omega
theorem b2h {m:PMap} {l:List Row} {v:Int} {x:Msg} (h:B9 m l=true) (hx:y5 m v x=true):B9 m (B2 m l x).b=true∧(B2 m l x).b.length=l.length ∧
  ((B2 m l x).ok=true→x.kind=3∧0≤m5 l x.ord.who∧(rowAt l x.ord.who).busy=true∧(rowAt l x.ord.who).ord=x.ord∧a6p ⟨x.ord.who,x.ord.seq,x.n⟩=true):=by
 unfold B2
 simp only
 split
 ·rename_i hc
  obtain⟨hp,hb,ho⟩:=hc
  obtain⟨r1,r2,r3⟩:=c1w h hp
  obtain⟨g1,g2,g3⟩:=a1r.1 r1
  obtain⟨g4,g5,g6⟩:=g3 hb
  rw[ho]at g4 g6
  obtain⟨m1,m2⟩:=b1O hx
  have hpl:=o8.1 (d4L h)
  split
  ·rename_i hk
   have hn:1≤x.n∧x.n≤9:=by
    simp only[y5,H7,decide_eq_true_eq]at hx
    grind
   have hoo:=J9.1 g4
   refine⟨b6X h r3 (a1r.2 ⟨⟨by simp only;omega,by simp only;omega,m1,m2,by simp only;omega,by simp only;omega,by simp only;omega,hn.2⟩,fun _=>b0w.1,fun hh=>by cases hh⟩) rfl,by simp,fun _=>⟨hk,hp,hb,ho,?_⟩⟩
   simp only[a6p,decide_eq_true_eq]
   omega
  ·split
   ·rename_i hk
    have hcr:=d2S g1.2.2.1 g1.2.2.2.1 (by omega)
    refine⟨b6X h r3 (a1r.2 ⟨⟨g1.1,g1.2.1,hcr.1,hcr.2,g1.2.2.2.2⟩,g2,g3⟩) rfl,by simp,fun hh=>by cases hh⟩
   ·exact⟨h,rfl,fun hh=>by cases hh⟩
 ·exact⟨h,rfl,fun hh=>by cases hh⟩
theorem c7R {m:PMap} {l:List Row} {who kind dest n:Int} (h:B9 m l=true):B9 m (Q7 l who kind dest n).b=true∧(Q7 l who kind dest n).b.length=l.length:=by
 unfold Q7
 split
 ·rename_i hc
  obtain⟨hp,hb,ho⟩:=hc
  obtain⟨r1,r2,r3⟩:=c1w h hp
  have r1:Y4 m (nth .row l (m5 l who).toNat)=true:=r1
  have r2:(nth .row l (m5 l who).toNat).who=who:=r2
  obtain⟨g1,g2,g3⟩:=a1r.1 r1
  exact⟨b6X h r3 (a1r.2 ⟨g1,(fun hh=>by cases hh),fun _=>⟨ho,r2.symm,rfl⟩⟩) rfl,by simp⟩
 ·exact⟨h,rfl⟩
theorem c7P {m:PMap} {l:List Row} {t:Arb} {v who:Int} (h:B9 m l=true) (ht:C2 m t v=true) (hs:(W8 l t who).ok=true):y5 m v (W8 l t who).x=true∧(W8 l t who).x.kind=2:=by
 unfold W8 at *
 split at hs
 ·rename_i hc
  rw[if_pos hc]
  obtain⟨hp,hb,ho⟩:=hc
  obtain⟨r1,r2,r3⟩:=c1w h hp
  obtain⟨g1,g2,g3⟩:=a1r.1 r1
  obtain⟨a1,a2,a3,a4⟩:=a3T ht _ ho
  obtain⟨z1,z2,z3⟩:=b0w
  obtain⟨_,_,l0,l1,l2⟩:=E9 ht
  have g4:=(g3 hb).1
  refine⟨?_,rfl⟩
  have a2':o9 t (rowAt l who).cell≤v-1:=by omega
  generalize o9 t (rowAt l who).cell=y at *
  simp only[y5,H7,decide_eq_true_eq]
  grind
 ·cases hs
theorem a7W {m:PMap} {t:Arb} {v cell server:Int} (ht:C2 m t v=true) (hg:(p9 t v cell server).ok=true) :
  C2 m (p9 t v cell server).t v=true∧0≤cell∧cell<m.cells∧0≤server∧server<v∧(p9 t v cell server).t=⟨t.servers.set cell.toNat server,t.ages.set cell.toNat (nth .int t.ages cell.toNat+1)⟩ ∧
  @LE.le Int _ 0 (nth .int t.ages cell.toNat) ∧ @LT.lt Int _ (nth .int t.ages cell.toNat) 900:=by
 unfold p9 at *
 split at hg
 ·rename_i hc
  rw[if_pos hc]
  obtain⟨c1,c2,c3,c4,c5⟩:=hc
  obtain⟨l1,l2,l3,l4,l5⟩:=E9 ht
  obtain⟨b1,b2,b3,b4,b5⟩:=a6D ht (k:=cell.toNat) (by omega)
  have b3 : @LE.le Int _ 0 (nth .int t.ages cell.toNat):=b3
  have b4 : @LE.le Int _ (nth .int t.ages cell.toNat) 900:=b4
  have c5 : ¬ @Eq Int (nth .int t.ages cell.toNat) 900:=c5
  refine⟨?_,c1,by omega,c3,c4,rfl,b3,by omega⟩
  unfold C2
  rw[Bool.and_eq_true]
  refine⟨by simp only[a0b,decide_eq_true_eq,List.length_set];exact⟨l3,l4,l5,l1,l2⟩,(m4 _ _).2 fun k hk => ?_⟩
  rw[List.length_set]at hk
  have hk2:cell.toNat<t.ages.length:=by omega
  have hk3:cell.toNat<t.servers.length:=by omega
  obtain⟨d1,d2,d3,d4,d5⟩:=a6D ht hk
  simp only[a4c,decide_eq_true_eq]
  rw[H5 .int hk3,H5 .int hk2]
  by_cases he:k=cell.toNat
  ·simp only[if_pos he]
   have : ∀a:Int,0≤a→a≤900 → ¬a=900 → -1≤server∧server≤v-1∧0≤a+1∧a+1≤900∧(server = -1↔a+1=0):=fun a h1 h2 h3=>⟨by omega,by omega,by omega,by omega,by omega⟩
   exact this _ b3 b4 c5
  ·simp only[if_neg he]
   exact⟨d1,d2,d3,d4,d5⟩
 ·cases hg
theorem c3e {m:PMap} {t:Arb} {v cell server:Int} (ht:C2 m t v=true) (hg:(p9 t v cell server).ok=true) (i:Nat) : @LE.le Int _ (nth .int t.ages i) (nth .int (p9 t v cell server).t.ages i):=by
 obtain⟨_,c1,c2,_,_,e,b3,b4⟩:=a7W ht hg
 obtain⟨_,l2,_⟩:=E9 ht
 rw[e]
 simp only
 rw[H5 .int (by omega)]
 split
 ·rename_i he
  subst he
  have : ∀a:Int,a≤a+1:=fun a=>by omega
  exact this _
 ·exact Int.le_refl _
theorem d3t {m:PMap} {s:Srv} {t:Arb} {v cell:Int} (hs:B5 m s=true) (ht:C2 m t v=true) : ∀z∈D7 m s t cell,y5 m v z=true∧(z.kind=5∨z.kind=7):=by
 intro z hz
 unfold D7 at hz
 split at hz
 rotate_left
 ·simp at hz
 rename_i hh
 obtain⟨hm,hc⟩:=H8 hh
 have hho:=(C3.1 hs).2.2.1 _ hm
 generalize j6 s cell=h at *
 have hco:=(B7.1 hho).2.2
 have hcf:=n5 hco
 obtain⟨z1,z2,z3⟩:=b0w
 obtain⟨_,_,l0,l1,l2⟩:=E9 ht
 have go : ∀side:Nat,side<2 → ∀z∈C4 m t h cell side,y5 m v z=true∧(z.kind=5∨z.kind=7):=by
  intro side hsd z hz
  unfold C4 at hz
  simp only at hz
  split at hz
  ·simp at hz
  rename_i hne
  have hn1:b7 m cell side ≠ -1:=fun e=>hne (.inl e)
  have hn2:o9 t (b7 m cell side) ≠ -1:=fun e=>hne (.inr e)
  obtain⟨g1,g2,g3,g4,g5,g6,g7,g8⟩:=z6 hn1
  obtain⟨a1,a2,a3,a4⟩:=a3T ht _ hn2
  have g9:b7 m (b7 m cell side) (1-side) ≠ -1:=by omega
  have a5:o9 t (b7 m cell side)≤v-1:=by omega
  rcases List.mem_append.1 hz with hz|hz
  ·obtain⟨p,hp,rfl⟩:=List.mem_map.1 hz
   refine⟨?_,.inl rfl⟩
   have hpo:I8 m p=true:=by
    have hp:=List.mem_of_mem_take hp
    have hl:=(D3 hco hsd).2.2.2
    rw[Int.toNat_natCast]at hp
    obtain⟨i,hi,rfl⟩:=P6 .pcl hp
    exact((N0.1 hl).2.2.2.2 i hi).1
   clear hn1 hn2 hne g7 g8 hz
   generalize b7 m cell side=d at *
   generalize o9 t d=y at *
   simp only[y5,H7,decide_eq_true_eq]
   grind
  ·obtain⟨g,hg,rfl⟩:=List.mem_map.1 hz
   refine⟨?_,.inr rfl⟩
   have hg:=List.mem_of_mem_take hg
   unfold n9 ghTo at hg
   obtain⟨w,hw,rfl⟩:=List.mem_map.1 hg
   rw[b0r]at hw
   obtain⟨hw1,hw2⟩:=List.mem_filter.1 hw
   have hwo:=(F4.1 hco).1 w hw1
   have hgo:a1d m ⟨h.state.cell,h.count,w⟩=true:=by
    obtain⟨_,k1,_⟩:=B7.1 hho
    simp only[a1d,decide_eq_true_eq]
    refine⟨k1.1,k1.2,hwo.1,hwo.2,?_⟩
    rcases g1 with g1|g1
    ·rw[g1]at hw2;exact .inl hw2
    ·rw[g1]at hw2;exact .inr hw2
   have hsrc:h.state.cell=b7 m (b7 m cell side) (1-side):=by rw[g7,hc]
   clear hn1 hn2 hne g7 g8 hz hw hg
   generalize b7 m cell side=d at *
   generalize o9 t d=y at *
   simp only[y5,H7,decide_eq_true_eq]
   grind
 rcases List.mem_append.1 hz with hz|hz
 ·exact go 0 (by omega) z hz
 ·exact go 1 (by omega) z hz
theorem b5B {w:Wld} {e:Evt} (h:j8 w=true):j8 (v5 w e)=true∧(v5 w e).servers.length=w.servers.length∧(v5 w e).map=w.map:=by
 obtain⟨h1,h2,h3,h4,h5,h6,h7,h8,h9⟩:=n0.1 h
 have plain : ∀z:Msg,z.kind≠1→(z.kind=1→z.n≤nth .int w.table.ages z.cell.toNat):=fun z hz hk=>absurd hk hz
 unfold v5
 split
 ·simp only
  split
  ·rename_i hg
   obtain⟨g1,c1,c2,c3,c4,ge,b3,b4⟩:=a7W h1 hg
   have hmono:=c3e h1 hg
   obtain⟨l1,l2,l3,l4,l5⟩:=E9 h1
   refine⟨a6R (n0.2 ⟨g1,h2,h3,h4,h5,fun i hi=>Int.le_trans (h6 i hi) (hmono i),fun s hs=>⟨(h7 s hs).1,fun x hx=>Int.le_trans ((h7 s hs).2 x hx) (hmono _)⟩,fun x hx=>⟨(h8 x hx).1,fun hk=>Int.le_trans ((h8 x hx).2 hk) (hmono _)⟩,h9⟩) fun x hx => ?_,by simp[v7],rfl⟩
   simp only[List.mem_singleton]at hx
   subst hx
   refine⟨?_,fun _=>Int.le_refl _⟩
   obtain⟨z1,z2,z3⟩:=b0w
   have hn : @LE.le Int _ 1 (nth .int (p9 w.table w.servers.length e.pos e.dest).t.ages e.pos.toNat) ∧ @LE.le Int _ (nth .int (p9 w.table w.servers.length e.pos e.dest).t.ages e.pos.toNat) 900:=by
    rw[ge]
    simp only
    rw[l9 .int (by omega)]
    have : ∀a:Int,0≤a→a<900→1≤a+1∧a+1≤900:=fun a _ _=>by omega
    exact this _ b3 b4
   have hd:e.dest≤(w.servers.length:Int)-1:=by omega
   generalize nth .int (p9 w.table w.servers.length e.pos e.dest).t.ages e.pos.toNat=y at *
   simp only[y5,H7,decide_eq_true_eq]
   grind
  ·exact⟨h,rfl,rfl⟩
 split
 ·have hg := @c7R w.map w.rows e.pos e.what e.dest e.n h3
  exact⟨n0.2 ⟨h1,h2,hg.1,h4,h5,h6,h7,h8,h9⟩,rfl,rfl⟩
 split
 ·split
  ·rename_i hs
   obtain⟨g1,g2⟩:=c7P h3 h1 hs
   exact⟨a6R h fun x hx=>by
    simp only[List.mem_singleton]at hx
    subst hx
    exact⟨g1,plain _ (by omega)⟩,by simp[v7],rfl⟩
  ·exact⟨h,rfl,rfl⟩
 split
 ·split
  ·rename_i hp
   have hpl:e.pos.toNat<w.net.length:=by omega
   have hx:=h8 _ (s4 .msg hpl)
   split
   ·unfold V8
    simp only
    have hc := @d2L w e.pos.toNat h
    split
    ·unfold a1y
     simp only
     obtain⟨c1,c2,c3,c4,c5,c6,c7,c8,c9⟩:=n0.1 hc
     obtain⟨g1,g2,g3⟩:=b2h c3 (by simpa [wCut]using hx.1)
     refine⟨n0.2 ⟨c1,c2,g1,c4,?_,c6,c7,c8,?_⟩,rfl,rfl⟩
     ·simp only
      split
      ·rename_i hh
       simp only[List.length_append,List.length_singleton]
       omega
      ·exact c5
     ·intro n hn
      simp only at hn
      split at hn
      ·rename_i hh
       rcases List.mem_append.1 hn with hn|hn
       ·exact c9 n hn
       ·simp only[List.mem_singleton]at hn
        subst hn
        exact(g3 hh.1).2.2.2.2
      ·exact c9 n hn
    ·rename_i hd
     obtain⟨g1,g2⟩:=d4I hc (by simpa [wCut]using hx.1) (by simpa [wCut]using hx.2) hd
     exact⟨g1,by rw[g2];rfl,rfl⟩
   split
   ·exact⟨d2L h,rfl,rfl⟩
   ·exact⟨a6R h fun x hx'=>by
     simp only[List.mem_singleton]at hx'
     subst hx'
     exact hx,by simp[v7],rfl⟩
  ·exact⟨h,rfl,rfl⟩
 split
 ·split
  ·rename_i hp
   have hpl:e.pos.toNat<w.servers.length:=by omega
   have hz : ∀b:Bool,B5 w.map ⟨b,[],[]⟩=true:=fun b=>C3.2 ⟨a1O.2 ⟨(E9 h1).2.2.1,by simp,by simp,by simp⟩,a2R.2 (.inr ⟨rfl,rfl⟩),by simp,by simp⟩
   have life : ∀b:Bool,j8 ⟨w.map,w.servers.set e.pos.toNat ⟨b,[],[]⟩,w.stores,w.table,w.rows,w.net,w.notes⟩=true:=fun b=>n0.2 ⟨by simpa using h1,h2,h3,h4,h5,h6,fun s hs=>by
    rcases List.mem_or_eq_of_mem_set hs with hs|rfl
    ·exact h7 s hs
    ·exact⟨hz b,by simp⟩,by simpa using h8,h9⟩
   split
   ·have ht := @d3t w.map (nth .srv w.servers e.pos.toNat) w.table w.servers.length e.dest (h7 _ (s4 .srv hpl)).1 h1
    exact⟨a6R h fun x hx=>⟨(ht x hx).1,plain _ (by have:=(ht x hx).2;omega)⟩,by simp[v7],rfl⟩
   split
   ·exact⟨life false,by simp,rfl⟩
   split
   ·exact⟨life true,by simp,rfl⟩
   ·exact⟨h,rfl,rfl⟩
  ·exact⟨h,rfl,rfl⟩
 ·exact⟨h,rfl,rfl⟩
end Go.Mo
namespace Go.Sx
inductive ImpB (P Q:Prop):Prop where
 |mk (h:P→Q):ImpB P Q
theorem ImpB.out {P Q:Prop} (h:ImpB P Q):P→Q:=let ⟨h⟩:=h;h
inductive MeasB (a b:Th Nat):Prop where
 |mk (h:a ()<b ()):MeasB a b
theorem MeasB.out {a b:Th Nat} (h:MeasB a b):a ()<b ():=let ⟨h⟩:=h;h
theorem LoopIn.wb {A:Ann} {σ0 σ : St} (i:A.ι) (hc:A.cond σ0 i ()) (hm:m0 σ (A.st σ0 i)):LoopIn A σ0 σ := ⟨i,hc,hm⟩
theorem LoopBack.wb {A:Ann} {σ0 σ : St} {i:A.ι} (i':A.ι) (hc:A.cond σ0 i' ()) (hd:MeasB (A.meas σ0 i') (A.meas σ0 i)) (hm:m0 σ (A.st σ0 i')):LoopBack A σ0 i σ := ⟨i',hc,hd.out,hm⟩
def d7g (c:C):C:=match c with
 | .att (.list _ _) => .unk
 | .att a => .att a
 | .ptr k v j => .ptr k v j
 |_ => .unk
def d5V (c:Ch):Ch:=match c with
 | .var bx cs => .var bx (cs.map d7g)
 |c=>c
def c1d:Hp→Hp
 | .leaf => .leaf
 | .node e l r => .node (e.1,d5V e.2) (c1d l) (c1d r)
def d7f (v:V):V:=match v with
 | .one (.ptr k v j) => .one (.ptr k v j)
 |_ => .one .unk
def b5u:Tr V→Tr V
 | .leaf => .leaf
 | .node v l r => .node (d7f v) (b5u l) (b5u r)
def St.thin (σ : St) (kv:Nat):St:=⟨σ.tm,(c1d σ.hp).set kv (σ.hp.get kv),σ.up.map b5u⟩
def St.only (σ : St) (ds:List Nat):St:=⟨ds.foldr (fun d t=>t.set d (σ.tm.get d)) .leaf,σ.hp,σ.up⟩
def St.pk (σ : St) (d:Nat):Nat:=match σ.tm.get d with
 | .one (.ptr k _ _)=>k
 |_=>0
def ownK (c:C):Nat:=match c with
 | .own k _=>k
 |_=>0
def St.okC (σ : St) (k j:Nat):Nat:=match(σ.hp.get k).2 with
 | .var _ cs=>ownK ((cs[j]?).getD .unk)
 |_=>0
def St.okT (σ : St) (d:Nat):Nat:=match σ.tm.get d with
 | .one c=>ownK c
 |_=>0
def b6H:Th (List Msg):=fun _ => []
def c2Z (t:RT) (l:Th (List t.ty)):Th (List Msg):=match t,l with
 | .msg,l=>l
 |_,_=>b6H
def d6Z (c:Ch):Th (List Msg):=match c with
 | .row _ _ t l=>c2Z t l
 | .ro t l=>c2Z t l
 |_=>b6H
def St.rowM (σ : St) (k:Nat):Th (List Msg):=d6Z (σ.hp.get k).2
def d7b (σ : St) (c:C):Th (List Msg):=match c with
 | .att (.list t l)=>c2Z t l
 | .own k _ => σ.rowM k
 |_=>b6H
def St.tmM (σ : St) (d:Nat):Th (List Msg):=match σ.tm.get d with
 | .one c=>d7b σ c
 |_=>b6H
def L0:Th Int:=fun _=>0
def St.tmI (σ : St) (d:Nat):Th Int:=match σ.tm.get d with
 | .one (.att (.int _ n))=>n
 |_=>L0
end Go.Sx
namespace Go.Mo
open Go.Sx
def a0X (l:List Msg) (i:Nat) (k:Nat):List Msg:=(l.take k).eraseIdx i
theorem c2U (l:List Msg) (i:Nat):a0X l i 0 = []:=by simp[a0X]
theorem b4W (l:List Msg) (i:Nat):a0X l i l.length=l.eraseIdx i:=by simp[a0X]
theorem c8s (l:List Msg) (i k:Nat):(a0X l i k).length≤k:=by
 unfold a0X
 have:=List.length_eraseIdx_le (l.take k) i
 have h2:=List.length_take_le k l
 omega
theorem d2M {l:List Msg} {i k:Nat} (h:k<l.length) (hne : ¬k=i):a0X l i (k+1)=a0X l i k ++ [nth .msg l k]:=by
 unfold a0X
 have h1:l.take (k+1)=l.take k ++ [nth .msg l k]:=M0 .msg h
 rw[h1]
 have h2:(l.take k).length=k:=by simp;omega
 by_cases h3:i<k
 ·rw[List.eraseIdx_append_of_lt_length (by omega)]
 ·rw[List.eraseIdx_append_of_length_le (by omega),List.eraseIdx_of_length_le (by simp;omega),List.eraseIdx_of_length_le (by omega)]
theorem c8r {l:List Msg} {i k:Nat} (h:k<l.length) (hne:k=i):a0X l i (k+1)=a0X l i k:=by
 unfold a0X
 subst hne
 have h1:l.take (k+1)=l.take k ++ [nth .msg l k]:=M0 .msg h
 have h2:(l.take k).length=k:=by simp;omega
 rw[h1,List.eraseIdx_append_of_length_le (by omega),List.eraseIdx_of_length_le (l:=l.take k) (by omega),h2,Nat.sub_self]
 simp
end Go.Mo
namespace Go.Sx
theorem LoopIn.wf {A:Ann} {σ0 σ : St} (f:St→A.ι) (hc:A.cond σ0 (f σ) ()) (hm:m0 σ (A.st σ0 (f σ))):LoopIn A σ0 σ := ⟨f σ,hc,hm⟩
theorem LoopBack.wf {A:Ann} {σ0 σ : St} {i:A.ι} (f:St→A.ι) (hc:A.cond σ0 (f σ) ()) (hd:MeasB (A.meas σ0 (f σ)) (A.meas σ0 i)) (hm:m0 σ (A.st σ0 (f σ))):LoopBack A σ0 i σ := ⟨f σ,hc,hd.out,hm⟩
def asI (c:C):Th Int:=match c with
 | .att (.int _ n)=>n
 |_=>L0
def s5:Th Bool:=fun _=>false
def asB (c:C):Th Bool:=match c with
 | .att (.bool b)=>fun _=>b.val
 |_=>s5
def a6q (t:RT):Th (List t.ty):=fun _ => []
def asL (t:RT) (c:C):Th (List t.ty):=match c with
 | .att (.list t' l)=>if h:t'=t then U5 h l else a6q t
 |_=>a6q t
def St.ce (σ : St) (k j:Nat):C:=match(σ.hp.get k).2 with
 | .var _ cs=>(cs[j]?).getD .unk
 |_ => .unk
def chL (t:RT) (c:Ch):Th (List t.ty):=match c with
 | .row _ _ t' l=>if h:t'=t then U5 h l else a6q t
 | .ro t' l=>if h:t'=t then U5 h l else a6q t
 |_=>a6q t
def St.rowL (t:RT) (σ : St) (k:Nat):Th (List t.ty):=chL t (σ.hp.get k).2
def d7m (a b:Th Int) (c:Th Bool) (d e f g h i j:Th Int):Th Row:=fun _=>⟨a (),b (),c (),⟨d (),e (),f (),g (),h ()⟩,i (),j ()⟩
def d5D (σ : St) (k:Nat):Th Row:=d7m (asI (σ.ce k 0)) (asI (σ.ce k 1)) (asB (σ.ce k 2)) (asI (σ.ce k 3)) (asI (σ.ce k 4)) (asI (σ.ce k 5)) (asI (σ.ce k 6)) (asI (σ.ce k 7)) (asI (σ.ce k 8)) (asI (σ.ce k 9))
def a5Q (a b:Th Int) (c:Th (List Srv)) (d:Th (List Sto)) (e f:Th (List Int)) (g:Th (List Row)) (h:Th (List Msg)) (i:Th (List Note)):Th Wld:=fun _=>⟨⟨a (),b ()⟩,c (),d (),⟨e (),f ()⟩,g (),h (),i ()⟩
def X3 (σ : St) (k:Nat):Th Wld:=a5Q (asI (σ.ce k 0)) (asI (σ.ce k 1)) (asL .srv (σ.ce k 2)) (asL .sto (σ.ce k 3)) (asL .int (σ.ce k 4)) (asL .int (σ.ce k 5)) (asL .row (σ.ce k 6)) (asL .msg (σ.ce k 7)) (asL .note (σ.ce k 8))
def St.a2M (σ : St) (k:Nat):Nat→List A→St
 |_,[] => σ
 |j,a::r=>(σ.u7 k j (.att a)).a2M k (j+1) r
end Go.Sx
namespace Go.Mo
open Go.Sx
def a8g (m:PMap) (cell:Int) (w:Wlk):Bool:=decide (l8 m w.pos=cell)
def O4 (m:PMap) (cell:Int) (l:List Wlk) (k:Nat):List Wlk:=(l.take k).filter (a8g m cell)
theorem b9P (m:PMap) (cell:Int) (l:List Wlk):O4 m cell l 0 = []:=by simp[O4]
theorem c2r (m:PMap) (cell:Int) (l:List Wlk) (k:Nat):(O4 m cell l k).length≤k∧(O4 m cell l k).length≤l.length:=by
 unfold O4
 have h1:=List.length_filter_le (a8g m cell) (l.take k)
 have h2:=List.length_take_le k l
 have h3:=List.length_take_le' k l
 omega
theorem c2q {m:PMap} {cell:Int} {l:List Wlk} {k:Nat} (h:k<l.length) (hc:l8 m (nth .wlk l k).pos=cell):O4 m cell l (k+1)=O4 m cell l k ++ [nth .wlk l k]:=by
 unfold O4
 have h1:l.take (k+1)=l.take k ++ [nth .wlk l k]:=M0 .wlk h
 rw[h1,List.filter_append]
 simp[a8g,hc]
theorem c7I {m:PMap} {cell:Int} {l:List Wlk} {k:Nat} (h:k<l.length) (hc : ¬l8 m (nth .wlk l k).pos=cell):O4 m cell l (k+1)=O4 m cell l k:=by
 unfold O4
 have h1:l.take (k+1)=l.take k ++ [nth .wlk l k]:=M0 .wlk h
 rw[h1,List.filter_append]
 simp[a8g,hc]
def a0x (m:PMap) (cell:Int) (l:List Wlk):Cll:=if s0 m=true∧0≤cell∧cell<m.cells∧A5 m l=true then⟨cell,O4 m cell l l.length,0,[[],[]],[0,0],[0,0]⟩else U4
def P5 (m:PMap) (cell:Int) (l:List Wlk):Sto:=⟨0,a0x m cell l,[]⟩
def a3U (m:PMap):Arb:=if s0 m=true then⟨List.replicate m.cells.toNat (-1),List.replicate m.cells.toNat 0⟩else⟨[],[]⟩
def a1b (m:PMap) (w:Wlk):Row:=⟨w.id,l8 m w.pos,false,⟨0,0,0,0,0⟩,w.seq,w.last⟩
def a9a (m:PMap) (l:List Wlk):List Row:=if s0 m=true∧A5 m l=true then l.map (a1b m)else[]
def R7 (m:PMap) (l:List Wlk) (servers:Int):Wld:=⟨m,List.replicate servers.toNat ⟨true,[],[]⟩,(List.range m.cells.toNat).map fun(i:Nat)=>P5 m (i:Int) l,a3U m,a9a m l,[],[]⟩
def a5Y (m:PMap) (l:List Wlk) (servers:Int):Wld:=if s0 m=true∧A5 m l=true∧1≤servers∧servers≤3 then R7 m l servers else a1f
theorem b5G (l:List Wlk):srt l↔l.Pairwise fun a b=>a.id<b.id:=by
 rw[List.pairwise_iff_getElem]
 constructor
 ·intro h i j hi hj hij
  have:=h i j hij hj
  rwa [l6 .wlk l i hi,l6 .wlk l j hj]at this
 ·intro h i j hij hj
  have hi:i<l.length:=by omega
  have:=h i j hi hj hij
  rwa [l6 .wlk l i hi,l6 .wlk l j hj]
theorem b5p {m:PMap} {l:List Wlk} (h:A5 m l=true):l.length≤9:=b5F (a8x h) fun i hi=>by
 have:=z5.1 (a5b h hi)
 exact⟨this.1,this.2.1⟩
theorem b4Y {m:PMap} {cell:Int} {l:List Wlk} (h1:s0 m=true) (h2:0≤cell) (h3:cell<m.cells) (h4:A5 m l=true):s6 m (a0x m cell l)=true:=by
 rw[a0x,if_pos ⟨h1,h2,h3,h4⟩,F4]
 have hw:=a1x.1 h4
 refine⟨fun w hm => ?_,?_,h1,h2,h3,Int.le_refl 0,by show(0:Int)≤900;decide,rfl,rfl,rfl,fun s hs => ?_⟩
 ·simp only[O4,List.take_length,List.mem_filter,a8g,decide_eq_true_eq]at hm
  exact⟨hw.1 w hm.1,hm.2⟩
 ·simp only[O4,List.take_length]
  rw[b5G]
  exact((b5G l).1 hw.2).filter _
 ·have hs2:s=0∨s=1:=by omega
  rcases hs2 with rfl|rfl<;>exact⟨by simp[u6,nth,m8,h1],by show(0:Int)≤0;decide,by show(0:Int)≤5000;decide,fun _=>⟨rfl,rfl⟩,fun p hp=>by simp[nth]at hp⟩
theorem c6f {m:PMap} {cell:Int} {l:List Wlk} (h1:s0 m=true) (h2:0≤cell) (h3:cell<m.cells) (h4:A5 m l=true):B1 m (P5 m cell l)=true:=by
 rw[y7]
 exact⟨by simp[P5],b4Y h1 h2 h3 h4,by simp[P5],by simp[P5,a0e]⟩
theorem c7Q {m:PMap} {l:List Wlk} (h1:s0 m=true) (h4:A5 m l=true):B9 m (a9a m l)=true:=by
 rw[a9a,if_pos ⟨h1,h4⟩,B9,Bool.and_eq_true]
 refine⟨h1,?_⟩
 rw[m4]
 intro i hi
 have hi:i<l.length:=by simpa using hi
 have hw:=a1x.1 h4
 have hn : ∀j,j<l.length→nth .row (l.map (a1b m)) j=a1b m (nth .wlk l j):=fun j hj=>by
  rw[l6 .row _ j (by simpa using hj),l6 .wlk l j hj]
  simp
 have ho:=z5.1 (hw.1 _ (s4 .wlk hi))
 have hr:Y4 m (a1b m (nth .wlk l i))=true:=by
  obtain⟨q1,q2,q3,q4⟩:=M8 ho.2.2.1
  have q5:=o8.1 q1
  have hp:0≤l8 m (nth .wlk l i).pos∧l8 m (nth .wlk l i).pos<m.cells:=by
   rw[q4]
   exact⟨Int.ediv_nonneg q2 (by omega),Int.ediv_lt_of_lt_mul (by omega) q3⟩
  simp only[Y4,a1b,decide_eq_true_eq]
  exact⟨ho.1,ho.2.1,hp.1,hp.2,ho.2.2.2.2.2.1,ho.2.2.2.2.2.2.1,ho.2.2.2.2.2.2.2.1,ho.2.2.2.2.2.2.2.2,fun _=>by decide,fun h=>by cases h⟩
 rw[M1,hn i hi,hr,Bool.true_and]
 by_cases h0:i=0
 ·simp[h0]
 ·have hs:=hw.2 (i-1) i (by omega) hi
  rw[hn (i-1) (by omega)]
  simp only[a1b]
  simp[hs]
theorem c8E {m:PMap} {v:Int} (h1:s0 m=true) (h2:1≤v) (h3:v≤3):C2 m (a3U m) v=true:=by
 have hm:=o8.1 h1
 rw[a3U,if_pos h1,C2,Bool.and_eq_true]
 refine⟨by simp[a0b,h1,h2,h3];omega,?_⟩
 rw[m4]
 intro i hi
 have hi:i<m.cells.toNat:=by simp only[List.length_replicate]at hi;exact hi
 have e1:nth .int (List.replicate m.cells.toNat (-1:Int)) i=(-1:Int):=by rw[l6 .int _ i (by simpa using hi)];simp
 have e2:nth .int (List.replicate m.cells.toNat (0:Int)) i=(0:Int):=by rw[l6 .int _ i (by simpa using hi)];simp
 simp only[a4c,e1,e2,decide_eq_true_eq]
 show(-1:Int) ≤ -1∧(-1:Int)≤v-1∧(0:Int)≤0∧(0:Int)≤900∧True
 exact⟨by omega,by omega,by omega,by omega,trivial⟩
theorem c6l {m:PMap} (h1:s0 m=true):B5 m ⟨true,[],[]⟩=true:=by
 simp[B5,W9,D9,a5H,m8,h1]
theorem b3D {m:PMap} {l:List Wlk} {v:Int} (h1:s0 m=true) (h4:A5 m l=true) (h2:1≤v) (h3:v≤3):j8 (a5Y m l v)=true:=by
 rw[a5Y,if_pos ⟨h1,h4,h2,h3⟩,n0]
 have hv:((List.replicate v.toNat (⟨true,[],[]⟩:Srv)).length:Int)=v:=by simp;omega
 have hm:=o8.1 h1
 have hst : ∀i,i<m.cells.toNat→nth .sto ((List.range m.cells.toNat).map fun(i:Nat)=>P5 m (i:Int) l) i=P5 m (i:Int) l:=fun i hi=>by
  rw[l6 .sto _ i (by simpa using hi)];simp
 have hbase : ∀i:Nat,i<m.cells.toNat→(P5 m (i:Int) l).base.cell=(i:Int):=fun i hi=>by
  simp only[P5]
  rw[a0x,if_pos ⟨h1,by omega,by omega,h4⟩]
 simp only[R7]
 rw[hv]
 refine⟨c8E h1 h2 h3,?_,c7Q h1 h4,by simp,by simp,?_,?_,?_,?_⟩
 ·rw[A9,Bool.and_eq_true]
  refine⟨by simp[h1];omega,?_⟩
  rw[m4]
  intro i hi
  have hi:i<m.cells.toNat:=by simpa using hi
  rw[a2O,hst i hi,c6f h1 (by omega) (by omega) h4,hbase i hi]
  simp
 ·intro i hi
  have hi:i<m.cells.toNat:=by simpa using hi
  rw[hst i hi]
  simp only[P5]
  rw[a3U,if_pos h1]
  have e2:nth .int (List.replicate m.cells.toNat (0:Int)) i=(0:Int):=by rw[l6 .int _ i (by simpa using hi)];simp
  simp only[e2]
  exact Int.le_refl 0
 ·intro s hs
  rw[List.mem_replicate]at hs
  rw[hs.2]
  exact⟨c6l h1,fun h hh=>by cases hh⟩
 ·intro x hx;cases hx
 ·intro n hn;cases hn
theorem tm {a n:Int} (ha:0≤a) (hn:1≤n):0≤a.tmod n∧a.tmod n<n:=by
 rw[Int.tmod_eq_emod_of_nonneg ha]
 exact⟨Int.emod_nonneg _ (by omega),Int.emod_lt_of_pos _ (by omega)⟩
theorem td {a n:Int} (ha:0≤a) (hn:1≤n):0≤a.tdiv n∧a.tdiv n≤a:=by
 rw[Int.tdiv_eq_ediv_of_nonneg ha]
 exact⟨Int.ediv_nonneg ha (by omega),Int.ediv_le_self n ha⟩
theorem xorw {a b:Int} (ha:0≤a) (ha2:a<9223372036854775808) (hb:0≤b) (hb2:b<9223372036854775808):0≤IntKind.i64.wrap (((BitVec.ofInt IntKind.i64.bits a ^^^ BitVec.ofInt IntKind.i64.bits b).toNat:Nat):Int):=by
 have h1 : ∀x:Int,0≤x→x<9223372036854775808→(BitVec.ofInt IntKind.i64.bits x).toNat<2 ^ 63:=fun x h0 h2=>by
  rw[BitVec.toNat_ofInt]
  have:IntKind.i64.bits=64:=rfl
  rw[this]
  omega
 have h2:(BitVec.ofInt IntKind.i64.bits a ^^^ BitVec.ofInt IntKind.i64.bits b).toNat<2 ^ 63:=by
  rw[BitVec.toNat_xor]
  exact Nat.xor_lt_two_pow (h1 a ha ha2) (h1 b hb hb2)
 rw[e8 (by omega) (by omega)]
 omega
theorem d6y {l:List Int} (h:OkA (.list .byte fun _=>l)) : ∀i,i<l.length → @LE.le Int _ 0 (nth .byte l i) ∧ @LE.le Int _ (nth .byte l i) 255:=by
 cases h with
 |list _ _ _ g =>
  intro i hi
  have:=g i 0 _ hi rfl
  cases this with
  |int _ _ h1 h2=>exact⟨h1,h2⟩
theorem d0a {L p b1 b2 n:Int} (hL:1≤L) (hp0:0≤p) (hp:p≤1000000001000) (h1:0≤b1∧b1≤255) (h2:0≤b2∧b2≤255) (hn:1≤n) (x:Int)
  (hx:x=IntKind.i64.wrap (IntKind.i64.wrap (IntKind.i64.wrap (IntKind.i64.wrap (b1 * 131)+IntKind.i64.wrap (b2 * 1117))+IntKind.i64.wrap (p * 29))+IntKind.i64.wrap (IntKind.i64.wrap (p.tdiv L) * 53))) :
  0≤(IntKind.i64.wrap (((BitVec.ofInt IntKind.i64.bits x ^^^ BitVec.ofInt IntKind.i64.bits (IntKind.i64.wrap (x.tdiv 64))).toNat:Nat):Int)).tmod n∧(IntKind.i64.wrap (((BitVec.ofInt IntKind.i64.bits x ^^^ BitVec.ofInt IntKind.i64.bits (IntKind.i64.wrap (x.tdiv 64))).toNat:Nat):Int)).tmod n<n:=by
 have hd:=td hp0 hL
 generalize hdd:p.tdiv L=d at *
 rw[e8 (n:=b1 * 131) (by omega) (by omega),e8 (n:=b2 * 1117) (by omega) (by omega),e8 (n:=b1 * 131+b2 * 1117) (by omega) (by omega),e8 (n:=p * 29) (by omega) (by omega),e8 (n:=d) (by omega) (by omega),e8 (n:=d * 53) (by omega) (by omega),
  e8 (n:=b1 * 131+b2 * 1117+p * 29) (by omega) (by omega),e8 (n:=b1 * 131+b2 * 1117+p * 29+d * 53) (by omega) (by omega)]at hx
 have hx0:0≤x:=by omega
 have hx1:x<9223372036854775808:=by omega
 have hd2:=td hx0 (show(1:Int)≤64 by omega)
 rw[e8 (n:=x.tdiv 64) (by omega) (by omega)]
 exact tm (xorw hx0 hx1 hd2.1 (by omega)) hn
theorem d6h {m:PMap} {l:List Wlk} {w:Wlk} (h:A5 m l=true) (hw:P9 m w=true):A5 m (M4 l w)=true:=by
 rw[a1x]at h ⊢
 refine⟨fun x hx => ?_,c4j h.2⟩
 rcases b5X hx with hx|rfl
 ·exact h.1 x hx
 ·exact hw
theorem c9P {m:PMap} {l:List Row} (h:B9 m l=true):l.length≤9:=by
 rw[B9,Bool.and_eq_true]at h
 have ha:=(m4 _ _).1 h.2
 have hw : ∀i,i<l.length→(i:Int)+1≤(nth .row l i).who:=by
  intro i
  induction i with
  |zero =>
   intro hi
   have:=ha 0 hi
   simp only[M1,Y4,Bool.and_eq_true,decide_eq_true_eq]at this
   omega
  |succ i ih =>
   intro hi
   have h1:=ih (by omega)
   have:=ha (i+1) hi
   simp only[M1,Bool.and_eq_true,Bool.or_eq_true,decide_eq_true_eq,Nat.add_sub_cancel]at this
   omega
 by_cases h0:l.length=0
 ·omega
 ·have h1:=hw (l.length-1) (by omega)
  have h2:=ha (l.length-1) (by omega)
  simp only[M1,Y4,Bool.and_eq_true,decide_eq_true_eq]at h2
  omega
def wP (w0 w:Wld):Prop:=(j8 w0=true→j8 w=true)∧(w=w0∨j8 w=true∨w=a1f)
theorem c3m (w:Wld):wP w w:=⟨fun h=>h,.inl rfl⟩
theorem c3l {w0 w:Wld} (e:Evt) (h:wP w0 w):wP w0 (b9 w e):=by
 by_cases hw:j8 w=true
 ·have:b9 w e=v5 w e:=by simp[b9,hw]
  rw[this]
  exact⟨fun _=>(b5B hw).1,.inr (.inl (b5B hw).1)⟩
 ·have:b9 w e=a1f:=by simp[b9,hw]
  rw[this]
  exact⟨fun h0=>absurd (h.1 h0) hw,.inr (.inr rfl)⟩
theorem a6n {w:Wld} (h:j8 w=true):w.rows.length≤9∧w.stores.length≤4∧1≤w.servers.length∧w.servers.length≤3:=by
 obtain⟨h1,h2,h3,h4⟩:=n0.1 h
 have:=E9 h1
 exact⟨c9P h3,b0F h2,by omega,by omega⟩
theorem d5S {w0 w:Wld} (h:wP w0 w) (h1:w0.rows.length≤20) (h2:w0.stores.length≤20):w.rows.length≤20∧w.stores.length≤20:=by
 rcases h.2 with rfl|h|rfl
 ·exact⟨h1,h2⟩
 ·have:=a6n h
  omega
 ·exact⟨by decide,by decide⟩
theorem b0I {w:Wld} (e:Evt) (h:j8 w=true):j8 (b9 w e)=true:=(c3l e (c3m w)).1 h
def begC (a b:Th Int) (l:Th (List Wlk)) (k q:Th Int) (p:Int):Th Prop:=fun _=>s0 ⟨a (),b ()⟩=true∧A5 ⟨a (),b ()⟩ (l ())=true∧0≤k ()∧k ()≤5∧p≤q ()∧q ()≤p+3+2 * (5-k ())
theorem d6C {a b:Int} {k x c:Int} (h:s0 ⟨a,b⟩=true) (h1:1≤k) (h2:k≤5) (h3:0≤x) (h4:x<a * b) (h5:0≤c) (h6:c≤99):P9 ⟨a,b⟩ ⟨k,x,c,0,0⟩=true:=by
 rw[z5]
 have hp:=o8.1 h
 refine⟨by show(1:Int)≤k;omega,by show k≤9;omega,?_,h5,h6,by show(0:Int)≤0;omega,by show(0:Int)≤900;omega,by show(0:Int)≤0;omega,by show(0:Int)≤9;omega⟩
 show l8 ⟨a,b⟩ x ≠ -1
 simp only[l8]
 rw[if_pos ⟨h,h3,h4⟩]
 have:0≤x / b:=Int.ediv_nonneg h3 (by simp only at hp;omega)
 show x / b ≠ -1
 omega
theorem d5c {x:Int} (h1:0≤x) (h2:x<6) : @LE.le Int _ 0 (nth .int [0,3,10,40,95,99] x.toNat) ∧ @LE.le Int _ (nth .int [0,3,10,40,95,99] x.toNat) 99:=by
 have:x=0∨x=1∨x=2∨x=3∨x=4∨x=5:=by omega
 rcases this with rfl|rfl|rfl|rfl|rfl|rfl<;>decide
theorem d4v {x y:Int} (h1:0≤x) (h2:x<5) (h3:0≤y) (h4:y<60) : @LE.le Int _ (nth .int [0,10,20,40,y] x.toNat) 60:=by
 have:x=0∨x=1∨x=2∨x=3∨x=4:=by omega
 rcases this with rfl|rfl|rfl|rfl|rfl
 ·show(0:Int)≤60;decide
 ·show(10:Int)≤60;decide
 ·show(20:Int)≤60;decide
 ·show(40:Int)≤60;decide
 ·show y≤60
  omega
theorem c5H {x y:Int} (h1:0≤x∧(1≤(3:Int)→x<3)) (h2:0≤y∧(1≤(2:Int)→y<2)):s0 ⟨IntKind.i64.wrap (2+x),IntKind.i64.wrap (2+y)⟩=true:=by
 rw[e8 (by omega) (by omega),e8 (by omega) (by omega),o8]
 show 2≤2+x∧2+x≤4∧2≤2+y∧2+y≤8
 omega
theorem c5G {a b k x y:Int} {l:List Wlk} (h:s0 ⟨a,b⟩=true) (hl:A5 ⟨a,b⟩ l=true) (hk:0<k) (hk5:k≤5) (hx:0≤x∧(1≤IntKind.i64.wrap (a * b)→x<IntKind.i64.wrap (a * b))) (hy:0≤y∧(1≤(6:Int)→y<6)) :
  A5 ⟨a,b⟩ (M4 l ⟨k,x,nth .int [0,3,10,40,95,99] y.toNat,0,0⟩)=true:=by
 have hm:4≤a * b∧a * b≤32:=a5l h
 rw[e8 (by omega) (by omega)]at hx
 have hc:=d5c hy.1 (hy.2 (by omega))
 exact d6h hl (d6C h (by omega) hk5 hx.1 (hx.2 (by omega)) hc.1 hc.2)
end Go.Mo
