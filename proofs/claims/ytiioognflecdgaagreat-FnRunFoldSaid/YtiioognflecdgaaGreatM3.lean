/-
  Plain models: is a world ok.
-/
import Derived.Test.YtiioognflecdgaaGreatM2
import Derived.Test.YtiioognflecdgaaGreatS4e
import Derived.Test.YtiioognflecdgaaGreatM1
set_option linter.unusedVariables false
set_option linter.unusedSimpArgs false
namespace Go.Sx
end Go.Sx
namespace Go.Mo
open Go.Sx
def b0m (w:Wld):Bool:=decide (w.net.length≤40)&&l9 w.net.length (a6p w)
def a3F (l:List Note) (i:Nat):Bool:=a4Z (nth .note l i)
def a6o (l:List Note):Bool:=decide (l.length≤150)&&l9 l.length (a3F l)
def a6X (w:Wld):Bool:=l9 w.servers.length (a2T w)
theorem a2k {f:Nat→Bool} {k n:Nat} (h:l9 k f=true) (hk:k=n):l9 n f=true:=by subst hk;exact h
theorem b1W {w:Wld} {k:Nat} (h:k<w.servers.length) (hw:A4 w.map (nth .srv w.servers k)=false):l9 w.servers.length (a2T w)=false :=
 s6 h (by simp[a2T,hw])
theorem b1V {w:Wld} {k j:Nat} (h:k<w.servers.length) (hj:j<(nth .srv w.servers k).holds.length) (hw:a3T w.table (nth .srv w.servers k).holds j=false):l9 w.servers.length (a2T w)=false :=
 s6 h (by rw[a2T,s6 hj hw,Bool.and_false])
theorem b5J {w:Wld} {k j:Nat} (h1:A4 w.map (nth .srv w.servers k)=true) (h2:l9 j (a3T w.table (nth .srv w.servers k).holds)=true) (hj:j=(nth .srv w.servers k).holds.length):a2T w k=true:=by
 subst hj
 simp[a2T,h1,h2]
theorem b5y {w:Wld} {k:Nat} (h:k<w.stores.length) (hw:a0Y w k=false):l9 w.stores.length (a0Y w)=false:=s6 h hw
theorem c1M {w:Wld} {k:Nat} (h:k<w.net.length) (hw:a6p w k=false):l9 w.net.length (a6p w)=false:=s6 h hw
theorem b2F {l:List Note} {k:Nat} (h:k<l.length) (hw:a3F l k=false):l9 l.length (a3F l)=false:=s6 h hw
theorem c4l (w:Wld):l9 w.notes.length (b9y w)=l9 w.notes.length (a3F w.notes):=rfl
theorem c1V {m:PMap} {s:Srv} {k:Nat} (h:A4 m s=true) (hk:k<s.holds.length):0≤(nth .hld s.holds k).state.cell∧(nth .hld s.holds k).state.cell<m.cells:=by
 have:=o7 (A6.1 (a4O h hk)).2.2
 exact⟨this.2.2.1,this.2.2.2.1⟩
theorem b0n {m:PMap} {v:Int} {x:Msg} (h:u9 m v x=true):0≤x.cell∧x.cell<m.cells:=by
 simp only[u9,decide_eq_true_eq]at h
 exact⟨h.2.2.2.1,h.2.2.2.2.1⟩
theorem B7 {m:PMap} {t:Arb} {v:Int} (h:B8 m t v=true):(t.servers.length:Int)=m.cells∧(t.ages.length:Int)=m.cells∧p7 m=true∧1≤v∧v≤3:=by
 unfold B8 at h
 rw[Bool.and_eq_true]at h
 have h1:=h.1
 simp only[X3,decide_eq_true_eq]at h1
 exact⟨h1.2.2.2.1,h1.2.2.2.2,h1.1,h1.2.1,h1.2.2.1⟩
theorem a3j {m:PMap} {l:List Sto} (h:z7 m l=true):(l.length:Int)=m.cells∧p7 m=true:=by
 unfold z7 at h
 rw[Bool.and_eq_true]at h
 have h1:=h.1
 simp only[decide_eq_true_eq]at h1
 exact⟨h1.2,h1.1⟩
theorem a9a {m:PMap} {l:List Sto} (h:z7 m l=true):l.length≤4:=by
 obtain⟨h1,h2⟩:=a3j h
 obtain⟨_,h3,_⟩:=s0.1 h2
 omega
def a5u (w:Wld):Bool:=B8 w.map w.table w.servers.length&&z7 w.map w.stores&&A7 w.map w.rows&&l9 w.stores.length (a0Y w)&&a6X w&&b0m w&&a6o w.notes
theorem b1L (w:Wld):j6 w=a5u w:=by
 simp only[j6,a5u,a6X,b0m,a6o,c4l]
 by_cases h1:w.net.length≤40<;>by_cases h2:w.notes.length≤150<;>simp[h1,h2]
theorem O7 (t:RT) {l:List t.ty} {x:t.ty} (h:x∈l) : ∃i,i<l.length∧nth t l i=x:=by
 obtain⟨i,hi,he⟩:=List.getElem_of_mem h
 exact⟨i,hi,by rw[l7 t l i hi];exact he⟩
theorem b7K {m:PMap} {l:List Gst}:D2 m l=true↔l.length≤20∧(∀g∈l,a0o m g=true)∧GSort l:=by
 constructor
 ·intro h
  refine⟨?_,fun g hg => ?_,b0K h⟩
  ·simp only[D2,Bool.and_eq_true,decide_eq_true_eq]at h;exact h.1
  ·obtain⟨i,hi,rfl⟩:=O7 .gst hg
   simp only[D2,Bool.and_eq_true]at h
   have:=(l6 _ _).1 h.2 i hi
   simp only[a2e,Bool.and_eq_true]at this
   exact this.1
 ·rintro⟨h1,h2,h3⟩
  simp only[D2,Bool.and_eq_true,decide_eq_true_eq]
  refine⟨h1,(l6 _ _).2 fun i hi => ?_⟩
  simp only[a2e,Bool.and_eq_true,Bool.or_eq_true,decide_eq_true_eq]
  refine⟨h2 _ (s7 .gst hi),?_⟩
  by_cases h0:i=0
  ·exact .inl h0
  ·right
   have:=List.pairwise_iff_getElem.1 h3 (i-1) i (by omega) hi (by omega)
   rwa [l7 .gst _ _ hi,l7 .gst _ _ (by omega)]
theorem a0T {m:PMap} {l:List Gst}:U1 m l=true↔p7 m=true∧l.length≤20∧(∀g∈l,a0o m g=true)∧GSort l:=by
 rw[U1,Bool.and_eq_true,b7K]
theorem y9 {m:PMap} {s:Srv}:A4 m s=true↔U1 m s.n6=true∧a4x s=true∧(∀h∈s.holds,P1 m h=true)∧HSort s.holds:=by
 constructor
 ·intro h
  refine⟨?_,?_,fun g hg => ?_,b0C h⟩
  ·simp only[A4,Bool.and_eq_true]at h;exact h.1.1
  ·simp only[A4,Bool.and_eq_true]at h;exact h.1.2
  ·obtain⟨i,hi,rfl⟩:=O7 .hld hg
   exact a4O h hi
 ·rintro⟨h1,h2,h3,h4⟩
  simp only[A4,Bool.and_eq_true]
  refine⟨⟨h1,h2⟩,(l6 _ _).2 fun i hi => ?_⟩
  simp only[a2d,Bool.and_eq_true,Bool.or_eq_true,decide_eq_true_eq]
  refine⟨h3 _ (s7 .hld hi),?_⟩
  by_cases h0:i=0
  ·exact .inl h0
  ·right
   have:=List.pairwise_iff_getElem.1 h4 (i-1) i (by omega) hi (by omega)
   rwa [l7 .hld _ _ hi,l7 .hld _ _ (by omega)]
theorem C4 {m:PMap} {l:List Sto}:z7 m l=true↔p7 m=true∧(l.length:Int)=m.cells ∧ ∀i,i<l.length→A3 m (nth .sto l i)=true∧(nth .sto l i).base.cell=(i:Int):=by
 simp only[z7,Bool.and_eq_true,decide_eq_true_eq,and_assoc]
 refine and_congr_right fun _=>and_congr_right fun _ => ?_
 rw[l6]
 simp only[a1K,Bool.and_eq_true,decide_eq_true_eq]
theorem a0z {s:Srv}:a4x s=true↔(s.up=true∨s.holds = []∧s.n6 = []):=by
 simp[a4x]
theorem R9 : ∀ {l:List Hld} {h x:Hld},HSort l→x∈putH l h→x=h∨x∈l∧x.state.cell≠h.state.cell
 |[],h,x,_,hx=>by simp[putH]at hx;exact .inl hx
 |y::l,h,x,hs,hx=>by
  obtain⟨hy,hl⟩:=List.pairwise_cons.1 hs
  simp only[putH]at hx
  split at hx
  ·rename_i h1
   rcases List.mem_cons.1 hx with rfl|hx
   ·exact .inl rfl
   ·right
    refine⟨hx,?_⟩
    rcases List.mem_cons.1 hx with rfl|hx
    ·omega
    ·have:=hy x hx;omega
  ·split at hx
   ·rename_i h1 h2
    rcases List.mem_cons.1 hx with rfl|hx
    ·exact .inl rfl
    ·have:=hy x hx
     exact .inr ⟨List.mem_cons_of_mem _ hx,by omega⟩
   ·rename_i h1 h2
    rcases List.mem_cons.1 hx with rfl|hx
    ·exact .inr ⟨List.mem_cons_self,by omega⟩
    ·rcases R9 hl hx with rfl|⟨h3,h4⟩
     ·exact .inl rfl
     ·exact .inr ⟨List.mem_cons_of_mem _ h3,h4⟩
theorem a7k : ∀ {l:List Hld} {h:Hld},HSort l→HSort (putH l h)
 |[],h,_=>by simp[putH]
 |y::l,h,hs=>by
  obtain⟨hy,hl⟩:=List.pairwise_cons.1 hs
  simp only[putH]
  split
  ·rename_i h1
   refine List.pairwise_cons.2 ⟨fun x hx => ?_,hs⟩
   rcases List.mem_cons.1 hx with rfl|hx
   ·exact h1
   ·have:=hy x hx;omega
  ·split
   ·rename_i h1 h2
    refine List.pairwise_cons.2 ⟨fun x hx => ?_,hl⟩
    have:=hy x hx;omega
   ·rename_i h1 h2
    refine List.pairwise_cons.2 ⟨fun x hx => ?_,a7k hl⟩
    rcases R9 hl hx with rfl|⟨h3,_⟩
    ·omega
    ·exact hy x h3
theorem a8P {l:List Hld} {c:Int} {x:Hld}:x∈E0 l c↔x∈l∧x.state.cell≠c:=by simp[E0]
theorem c8B {l:List Hld} {c:Int} (h:HSort l):HSort (E0 l c):=List.Pairwise.filter _ h
theorem z5 {s:Srv} {c:Int} (h:u5 s c=true):e9 s c∈s.holds∧(e9 s c).state.cell=c:=by
 simp only[u5,decide_eq_true_eq]at h
 have hlt:=a1s s.holds c
 rw[e9,if_pos h]
 exact⟨s7 .hld (by omega),a2c h⟩
theorem a5P {room:Bool} : ∀ {l:List Gst} {g x:Gst},x∈putG room l g→x=g∨x∈l
 |[],g,x,h=>by
  simp only[putG]at h
  split at h
  ·exact .inl (by simpa using h)
  ·simp at h
 |y::l,g,x,h=>by
  simp only[putG]at h
  split at h
  ·split at h
   ·rcases List.mem_cons.1 h with rfl|h
    ·exact .inl rfl
    ·exact .inr h
   ·exact .inr h
  ·split at h
   ·rcases List.mem_cons.1 h with rfl|h
    ·unfold a6u
     split
     ·exact .inl rfl
     ·exact .inr List.mem_cons_self
    ·exact .inr (List.mem_cons_of_mem _ h)
   ·rcases List.mem_cons.1 h with rfl|h
    ·exact .inr List.mem_cons_self
    ·rcases a5P h with h|h
     ·exact .inl h
     ·exact .inr (List.mem_cons_of_mem _ h)
theorem c4o (x g:Gst) (he:x.src=g.src∧x.wlk.id=g.wlk.id):(a6u x g).src=g.src∧(a6u x g).wlk.id=g.wlk.id:=by
 unfold a6u
 split
 ·exact⟨rfl,rfl⟩
 ·exact he
theorem b2u {room:Bool} : ∀ {l:List Gst} {g:Gst},GSort l→GSort (putG room l g)
 |[],g,_=>by simp only[putG];split<;>simp
 |y::l,g,hs=>by
  obtain⟨hy,hl⟩:=List.pairwise_cons.1 hs
  simp only[putG]
  split
  ·rename_i h1
   split
   ·refine List.pairwise_cons.2 ⟨fun x hx => ?_,hs⟩
    rcases List.mem_cons.1 hx with rfl|hx
    ·exact h1
    ·have:=hy x hx
     rw[H3]at *
     omega
   ·exact hs
  ·split
   ·rename_i h1 h2
    refine List.pairwise_cons.2 ⟨fun x hx => ?_,hl⟩
    have:=hy x hx
    have hk:=c4o y g h2
    rw[H3]at *
    omega
   ·rename_i h1 h2
    refine List.pairwise_cons.2 ⟨fun x hx => ?_,b2u hl⟩
    rcases a5P hx with rfl|h3
    ·rw[H3]at *
     omega
    ·exact hy x h3
theorem b6y {room:Bool} : ∀(l:List Gst) (g:Gst),(putG room l g).length≤l.length+(if room=true then 1 else 0)
 |[],g=>by simp only[putG];split<;>simp
 |y::l,g=>by
  have:=b6y (room:=room) l g
  simp only[putG]
  split
  ·split<;>simp
  ·split
   ·simp
   ·simp only[List.length_cons];omega
theorem c4L {m:PMap} {l:List Gst} {g:Gst} (hl:U1 m l=true) (hg:a0o m g=true):U1 m (a2L l g)=true:=by
 obtain⟨h1,h2,h3,h4⟩:=a0T.1 hl
 rw[a5f h4]
 refine a0T.2 ⟨h1,?_,fun x hx => ?_,b2u h4⟩
 ·have:=b6y (room:=decide (l.length<20)) l g
  by_cases h5:l.length<20
  ·rw[decide_eq_true h5,if_pos rfl]at this
   rw[decide_eq_true h5]
   omega
  ·rw[decide_eq_false h5]at this ⊢
   simp at this
   omega
 ·rcases a5P hx with rfl|hx
  ·exact hg
  ·exact h3 x hx
theorem a8S {m:PMap} {h:Hld} {s:Sto} {r:Rec} (hn:(u3 m h s r).n=1) :
  P1 m h=true∧A3 m s=true∧h.age=s.age∧h.count=s.recs.length∧h.count<250∧E9 m r=true∧(j8 m (o6 m s) r).ok=true∧(j8 m h.state r).ok=true ∧
  (u3 m h s r).h=⟨h.age,h.count+1,(j8 m h.state r).c⟩∧(u3 m h s r).s=⟨s.age,s.base,s.recs ++ [r]⟩∧(u3 m h s r).k=(j8 m h.state r).code:=by
 unfold u3 at *
 split at hn
 ·rename_i hc
  rw[if_pos hc]
  split at hn
  ·rename_i h1
   exact absurd hn h1
  split at hn
  ·cases hn
  ·rename_i h1 h2
   rw[if_neg h1,if_neg h2]
   have h1:(I3 m s h.age h.count r).n=1:=Classical.not_not.1 h1
   have hl:=(v8.1 hc.2).2.2.1
   rcases a2l m s h.age h.count r with ⟨_,h3⟩|⟨h3,h4,h5,h6,h7,h8,h9⟩
   ·omega
   ·exact⟨hc.1,hc.2,h5,h6,by omega,h8,h9,by simpa using h2,rfl,h3,rfl⟩
 ·cases hn
theorem c2L {m:PMap} {h:Hld} {s:Sto} {r:Rec} (hh:P1 m h=true) (hs:A3 m s=true):(u3 m h s r).n=2↔h.age≠s.age:=by
 constructor
 ·intro hn he
  unfold u3 at hn
  rw[if_pos ⟨hh,hs⟩]at hn
  split at hn
  ·rcases a2l m s h.age h.count r with ⟨_,h2⟩|⟨_,h2,_⟩
   ·have hn:(I3 m s h.age h.count r).n=2:=hn
    omega
   ·have hn:(I3 m s h.age h.count r).n=2:=hn
    omega
  split at hn
  ·cases hn
  ·cases hn
 ·intro he
  exact(b3s hh hs he).2.2
theorem a7y (m:PMap) (c:Cll) (i:Nat) (w:Wlk) (o:Ord):(R4 m c i w o).c.cell=c.cell:=by
 unfold R4 a0i a0k a0l a0j S7
 repeat' split
 all_goals rfl
theorem d1k (m:PMap) (c:Cll) (o:Ord):(K3 m c o).c.cell=c.cell:=by
 unfold K3
 split
 ·rfl
 ·simp only
  split
  ·rfl
  ·split
   ·rfl
   ·exact a7y m c _ _ o
theorem P8 (m:PMap) (c:Cll) (r:Rec):(j8 m c r).c.cell=c.cell:=by
 unfold j8
 split
 ·split
  ·exact d1k m c r.ord
  ·rfl
 ·split
  ·rfl
  ·split
   ·simp only[y7]
    split
    ·rfl
    ·split
     ·rfl
     ·split<;>rfl
   ·simp only[H0]
    split<;>rfl
theorem a8r (m:PMap) (c:Cll) (l:List Rec) : ∀k,(s9 m c l k).cell=c.cell
 | 0=>rfl
 |k+1=>by rw[P7,P8,a8r m c l k]
theorem T5 (m:PMap) (s:Sto):(o6 m s).cell=s.base.cell:=a8r m s.base s.recs _
def p5 (x:Msg):Rec:=if x.kind=2 then⟨1,x.ord,0,A8,0⟩else if x.kind=5 then⟨2,u6,x.side,x.pcl,0⟩else⟨3,u6,x.side,A8,x.n⟩
def n9 (st:List Sto) (x:Msg):Sto:=nth .sto st x.cell.toNat
inductive Eff (m:PMap) (s:Srv) (st:List Sto) (x:Msg):Srv→List Sto→Prop
 |same:Eff m s st x s st
 |ghost (hu:s.up=true) (hk:x.kind=7):Eff m s st x ⟨s.up,s.holds,a2L s.n6 x.gst⟩ st
 |grant (hu:s.up=true) (hk:x.kind=1) (hn:u5 s x.cell=true→(e9 s x.cell).age<x.n) (ha:(n9 st x).age≤x.n) :
   Eff m s st x ⟨s.up,putH s.holds ⟨x.n,(n9 st x).recs.length,o6 m (n9 st x)⟩,s.n6⟩ (st.set x.cell.toNat ⟨x.n,(n9 st x).base,(n9 st x).recs⟩)
 |lost (hu:s.up=true) (hk:x.kind=2∨x.kind=5∨x.kind=6) (hh:u5 s x.cell=true) (ha:(e9 s x.cell).age≠(n9 st x).age):Eff m s st x ⟨s.up,E0 s.holds x.cell,s.n6⟩ st
 |write (hu:s.up=true) (hk:x.kind=2∨x.kind=5∨x.kind=6) (hh:u5 s x.cell=true) (ha:(e9 s x.cell).age=(n9 st x).age) (hc:(e9 s x.cell).count=(n9 st x).recs.length) (hl:(e9 s x.cell).count<250)
   (hr:E9 m (p5 x)=true) (h1:(j8 m (o6 m (n9 st x)) (p5 x)).ok=true) (h2:(j8 m (e9 s x.cell).state (p5 x)).ok=true)
   (hf:x.kind=2→s8 (e9 s x.cell).state.wlks x.ord.who=true∧(P9 (e9 s x.cell).state.wlks x.ord.who).seq<x.ord.seq)
   (hp:x.kind=5→nth .int (e9 s x.cell).state.ins x.side.toNat≤x.pcl.n) :
   Eff m s st x ⟨s.up,putH s.holds ⟨(e9 s x.cell).age,(e9 s x.cell).count+1,(j8 m (e9 s x.cell).state (p5 x)).c⟩,s.n6⟩ (st.set x.cell.toNat ⟨(n9 st x).age,(n9 st x).base,(n9 st x).recs ++ [p5 x]⟩)
theorem a3k {m:PMap} {st:List Sto} {v:Int} {x:Msg} (h:z7 m st=true) (hx:u9 m v x=true):0≤x.cell∧x.cell.toNat<st.length∧A3 m (n9 st x)=true∧(n9 st x).base.cell=x.cell:=by
 obtain⟨h1,h2⟩:=b0n hx
 obtain⟨h3,h4,h5⟩:=C4.1 h
 have hl:x.cell.toNat<st.length:=by omega
 obtain⟨h6,h7⟩:=h5 _ hl
 exact⟨h1,hl,h6,by rw[n9,h7];omega⟩
theorem a1Y {m:PMap} {v:Int} {x:Msg} (hx:u9 m v x=true):(x.kind=1∨x.kind=2∨x.kind=5∨x.kind=6∨x.kind=7)∧0≤x.dest∧x.dest<v∨(x.kind=3∨x.kind=4)∧x.dest = -1:=by
 simp only[u9,G8,decide_eq_true_eq]at hx
 omega
theorem V0 {m:PMap} {s:Srv} {st:List Sto} {v:Int} {x:Msg} (hs:A4 m s=true) (hst:z7 m st=true) (hx:u9 m v x=true) (hu:s.up=true) (hk:x.kind=2∨x.kind=5∨x.kind=6) (hh:u5 s x.cell=true)
  (hf:x.kind=2→s8 (e9 s x.cell).state.wlks x.ord.who=true∧(P9 (e9 s x.cell).state.wlks x.ord.who).seq<x.ord.seq)
  (hp:x.kind=5→nth .int (e9 s x.cell).state.ins x.side.toNat≤x.pcl.n) :
  Eff m s st x (B1 m s st x.cell (p5 x)).srv (B1 m s st x.cell (p5 x)).stores ∧
  ((B1 m s st x.cell (p5 x)).n=1→(B1 m s st x.cell (p5 x)).k=(j8 m (e9 s x.cell).state (p5 x)).code∧(B1 m s st x.cell (p5 x)).stores=st.set x.cell.toNat ⟨(n9 st x).age,(n9 st x).base,(n9 st x).recs ++ [p5 x]⟩ ∧
   (e9 s x.cell).age=(n9 st x).age∧(e9 s x.cell).count=(n9 st x).recs.length∧(j8 m (e9 s x.cell).state (p5 x)).ok=true∧(j8 m (o6 m (n9 st x)) (p5 x)).ok=true∧E9 m (p5 x)=true):=by
 obtain⟨_,_,hso,_⟩:=a3k hst hx
 obtain⟨hm,_⟩:=z5 hh
 obtain⟨_,_,hall,hsort⟩:=y9.1 hs
 have hho:=hall _ hm
 unfold B1
 simp only
 rw[a0R hsort]
 split
 ·rename_i hn
  obtain⟨g1,g2,g3,g4,g5,g6,g7,g8,g9,g10,g11⟩:=a8S hn
  refine⟨?_,fun _=>⟨g11,by rw[g10];rfl,g3,g4,g8,g7,g6⟩⟩
  have:=Eff.write hu hk hh g3 g4 g5 g6 g7 g8 hf hp
  rw[g9,g10]
  exact this
 ·split
  ·rename_i hn1 hn
   exact⟨.lost hu hk hh ((c2L hho hso).1 hn),fun h=>by cases h⟩
  ·rename_i hn1 hn2
   exact⟨.same,fun h=>absurd h hn1⟩
theorem a4p {m:PMap} {s:Srv} {st:List Sto} {t:Arb} {v:Int} {x:Msg} (hs:A4 m s=true) (hst:z7 m st=true) (hx:u9 m v x=true):Eff m s st x (n5 m s st t x).srv (n5 m s st t x).stores:=by
 obtain⟨_,_,_,hsort⟩:=y9.1 hs
 unfold n5
 split
 ·exact .same
 rename_i hu0
 have hu:s.up=true:=by
  cases h:s.up with
  |true=>rfl
  |false=>exact absurd (.inl h) hu0
 have hkk:=a1Y hx
 have hd : ¬x.dest = -1:=fun h=>hu0 (.inr h)
 split
 ·rename_i hk
  unfold H5
  split
  ·exact .same
  rename_i hn
  split
  ·exact .same
  rename_i ha
  rw[a0R hsort]
  refine .grant hu hk (fun hh => ?_) ?_
  ·exact Int.not_le.1 fun hle=>hn ⟨hh,hle⟩
  ·exact Int.not_lt.1 ha
 split
 ·rename_i hk1 hk
  exact .ghost hu hk
 split
 ·exact .same
 rename_i hk1 hk7 hno
 have hh:u5 s x.cell=true:=by simpa using hno
 split
 ·rename_i hk
  unfold V2
  simp only
  split
  ·exact .same
  rename_i hw
  split
  ·exact .same
  rename_i hq1
  split
  ·exact .same
  rename_i hq2
  have e:p5 x=⟨1,x.ord,0,A8,0⟩:=by rw[p5,if_pos hk]
  rw[←e]
  exact(V0 hs hst hx hu (.inl hk) hh (fun _=>⟨by simpa using hw,by omega⟩) (fun h=>by omega)).1
 split
 ·rename_i hk2 hk
  unfold V1
  simp only
  split
  ·exact .same
  rename_i hq
  have e:p5 x=⟨2,u6,x.side,x.pcl,0⟩:=by rw[p5,if_neg hk2,if_pos hk]
  rw[←e]
  exact(V0 hs hst hx hu (.inr (.inl hk)) hh (fun h=>by omega) (fun _=>Int.not_lt.1 hq)).1
 ·rename_i hk2 hk5
  have e:p5 x=⟨3,u6,x.side,A8,x.n⟩:=by rw[p5,if_neg hk2,if_neg hk5]
  simp only
  rw[←e]
  have hk6:x.kind=6:=by omega
  exact(V0 hs hst hx hu (.inr (.inr hk6)) hh (fun h=>by omega) (fun h=>by omega)).1
theorem I1 (t:RT) {l:List t.ty} {i j:Nat} {x:t.ty} (hi:i<l.length):nth t (l.set i x) j=if j=i then x else nth t l j:=by
 by_cases h:j=i
 ·subst h
  rw[if_pos rfl,m6 t hi]
 ·rw[if_neg h,q9 t (fun hh=>h hh.symm)]
theorem b5x {m:PMap} {st:List Sto} {i:Nat} {s:Sto} (h:z7 m st=true) (hi:i<st.length) (hs:A3 m s=true) (hb:s.base=(nth .sto st i).base):z7 m (st.set i s)=true:=by
 obtain⟨h1,h2,h3⟩:=C4.1 h
 refine C4.2 ⟨h1,by simpa using h2,fun j hj => ?_⟩
 rw[List.length_set]at hj
 rw[I1 .sto hi]
 split
 ·rename_i he
  subst he
  exact⟨hs,by rw[hb];exact(h3 j hi).2⟩
 ·exact h3 j hj
theorem c9J {m:PMap} {s:Sto} {r:Rec} (h:A3 m s=true) (hl:(s.recs.length:Int)<250) (hr:E9 m r=true) (ha:(j8 m (o6 m s) r).ok=true):A3 m ⟨s.age,s.base,s.recs ++ [r]⟩=true:=by
 obtain⟨h1,h2,h3,h4⟩:=v8.1 h
 refine v8.2 ⟨h1,h2,?_,b2X h4 hr ha⟩
 simp
 omega
theorem c8x {m:PMap} {s s':Srv} {st st':List Sto} {v:Int} {x:Msg} (hs:A4 m s=true) (hst:z7 m st=true) (hx:u9 m v x=true) (he:Eff m s st x s' st'):A4 m s'=true∧z7 m st'=true∧st'.length=st.length∧s'.up=s.up:=by
 obtain⟨hc0,hcl,hso,hbc⟩:=a3k hst hx
 obtain⟨hg,hup,hh,hso2⟩:=y9.1 hs
 cases he with
 |same=>exact⟨hs,hst,rfl,rfl⟩
 |ghost hu hk =>
  have hgo:a0o m x.gst=true:=by
   simp only[u9,G8,decide_eq_true_eq]at hx
   grind
  exact⟨y9.2 ⟨c4L hg hgo,a0z.2 (.inl hu),hh,hso2⟩,hst,rfl,rfl⟩
 |grant hu hk hn ha =>
  have hxn:1≤x.n∧x.n≤900:=by
   simp only[u9,G8,decide_eq_true_eq]at hx
   omega
  obtain⟨g1,g2⟩:=c9o (m:=m) (s:=n9 st x) (a:=x.n) hso (by omega) (by omega)
  refine⟨y9.2 ⟨hg,a0z.2 (.inl hu),fun h hm => ?_,a7k hso2⟩,b5x hst hcl g1 rfl,by simp,rfl⟩
  rcases R9 hso2 hm with rfl|⟨h1,_⟩
  ·have hl:=(v8.1 hso).2.2.1
   exact A6.2 ⟨hxn,⟨by simp,by simp;omega⟩,a1M hso⟩
  ·exact hh _ h1
 |lost hu hk hh2 ha=>exact⟨y9.2 ⟨hg,a0z.2 (.inl hu),fun h hm=>hh _ (a8P.1 hm).1,c8B hso2⟩,hst,rfl,rfl⟩
 |write hu hk hh2 ha hc hl hr h1 h2 hf hp =>
  obtain⟨hm1,hm2⟩:=z5 hh2
  obtain⟨o1,o2,o3⟩:=A6.1 (hh _ hm1)
  refine⟨y9.2 ⟨hg,a0z.2 (.inl hu),fun h hm => ?_,a7k hso2⟩,b5x hst hcl (c9J hso (by omega) hr h1) rfl,by simp,rfl⟩
  rcases R9 hso2 hm with rfl|⟨h3,_⟩
  ·exact A6.2 ⟨o1,⟨by simp only;omega,by simp only;omega⟩,a1w o3 hr⟩
  ·exact hh _ h3
theorem a2P {m:PMap} {t:Arb} {v:Int} (h:B8 m t v=true) (c:Int) (hne:j9 t c ≠ -1):0≤j9 t c∧j9 t c<v∧0≤c∧c<m.cells:=by
 have hl:=B7 h
 unfold j9 at *
 split at hne
 ·rename_i hc
  rw[if_pos hc]
  obtain⟨g1,g2,_⟩:=a5m h (k:=c.toNat) (by omega)
  have g1 : @LE.le Int _ (-1) (nth .int t.servers c.toNat):=g1
  have g2 : @LE.le Int _ (nth .int t.servers c.toNat) (v-1):=g2
  have hne : ¬ @Eq Int (nth .int t.servers c.toNat) (-1):=fun hh=>hne hh
  have : @LE.le Int _ 0 (nth .int t.servers c.toNat) ∧ @LT.lt Int _ (nth .int t.servers c.toNat) v:=⟨by omega,by omega⟩
  exact⟨this.1,this.2,hc.1,by omega⟩
 ·exact absurd rfl hne
theorem I6 {m:PMap} {c s:Int} (h:b7 m c s ≠ -1):(s=0∨s=1)∧p7 m=true∧0≤c∧c<m.cells∧0≤b7 m c s∧b7 m c s<m.cells∧b7 m (b7 m c s) (1-s)=c∧b7 m c s=c+(2 * s-1):=by
 obtain⟨h1,h2,h3,h4⟩:=H9 h
 have e:b7 m c s=c+(2 * s-1):=by
  rcases h4 with ⟨rfl,h5⟩|⟨rfl,h5⟩
  ·rw[b7,if_pos ⟨h1,h2,h3⟩,if_pos ⟨rfl,h5⟩];omega
  ·rw[b7,if_pos ⟨h1,h2,h3⟩,if_neg (by omega),if_pos ⟨rfl,h5⟩];omega
 rcases h4 with ⟨rfl,h5⟩|⟨rfl,h5⟩
 ·refine⟨.inl rfl,h1,h2,h3,by omega,by omega,?_,e⟩
  rw[e,b7,if_pos ⟨h1,by omega,by omega⟩,if_neg (by omega),if_pos ⟨by omega,by omega⟩]
  omega
 ·refine⟨.inr rfl,h1,h2,h3,by omega,by omega,?_,e⟩
  rw[e,b7,if_pos ⟨h1,by omega,by omega⟩,if_pos ⟨by omega,by omega⟩]
  omega
theorem c4p (m:PMap) (c:Cll) (i:Nat) (w:Wlk) (o:Ord):1≤(R4 m c i w o).code∧(R4 m c i w o).code≤7:=by
 unfold R4 a0i a0k a0l a0j S7
 repeat' split
 all_goals(simp[F8])
theorem d1j {m:PMap} {c:Cll} {o:Ord} (h:L8 c o=true):1≤(K3 m c o).code∧(K3 m c o).code≤7:=by
 obtain⟨h1,h2⟩:=a1t h
 rw[K3,if_neg h1]
 simp only
 rw[if_neg (by omega),if_neg (by omega)]
 exact c4p m c _ _ o
theorem a8Q:a1b u6=true∧a2Q A8=true∧a2n G5=true:=by decide
theorem c0D {m:PMap} {v:Int} {x:Msg} {n:Int} (hx:u9 m v x=true) (hk:x.kind=2) (h1:1≤n) (h2:n≤9):u9 m v (a4k x n)=true:=by
 obtain⟨z1,z2,z3⟩:=a8Q
 simp only[u9,G8,decide_eq_true_eq,a4k]at hx ⊢
 grind
theorem d1r {m:PMap} {v:Int} {x:Msg} (hx:u9 m v x=true) (hk:x.kind=2):u9 m v (a6q x)=true:=by
 obtain⟨z1,z2,z3⟩:=a8Q
 simp only[u9,G8,decide_eq_true_eq,a6q]at hx ⊢
 grind
theorem a1X {m:PMap} {v:Int} {x:Msg} (hx:u9 m v x=true) (hk:x.kind=5∨x.kind=6∨x.kind=7):b7 m x.cell x.side ≠ -1:=by
 simp only[u9,G8,decide_eq_true_eq]at hx
 grind
theorem c1O {m:PMap} {v:Int} {x:Msg} (hx:u9 m v x=true) (hk:x.kind=5):K0 m x.pcl=true:=by
 simp only[u9,G8,decide_eq_true_eq]at hx
 grind
theorem c8l {m:PMap} {t:Arb} {v:Int} {x:Msg} {n:Int} (ht:B8 m t v=true) (hx:u9 m v x=true) (hk:x.kind=5) (h1:1≤n) (h2:n≤5000) : ∀z∈R0 m t x n,u9 m v z=true:=by
 intro z hz
 unfold R0 at hz
 split at hz
 ·simp at hz
 rename_i hne
 simp only[List.mem_singleton]at hz
 subst hz
 have hsd:=a1X hx (.inl hk)
 obtain⟨g1,g2,g3,g4,g5,g6,g7,g8⟩:=I6 hsd
 obtain⟨a1,a2,a3,a4⟩:=a2P ht _ hne
 obtain⟨z1,z2,z3⟩:=a8Q
 obtain⟨_,_,_,l1,l2⟩:=B7 ht
 have g9:b7 m (b7 m x.cell x.side) (1-x.side) ≠ -1:=by omega
 have g10:j9 t (b7 m x.cell x.side)≤v-1:=by omega
 clear g7 g8 hne hsd ht hx hk
 generalize b7 m x.cell x.side=d at *
 generalize j9 t d=y at *
 simp only[u9,G8,decide_eq_true_eq]
 grind
theorem c2a (m:PMap) (t:Arb) (x:Msg) (n:Int):(R0 m t x n).length≤1:=by
 unfold R0
 split<;>simp
theorem b9I {m:PMap} {c:Cll} (h:p9 m c=true) {s:Nat} (hs:s<2) : @LE.le Int _ 0 (nth .int c.ins s) ∧ @LE.le Int _ (nth .int c.ins s) 5000:=by
 exact⟨(C6 h hs).2.1.1,(C6 h hs).2.1.2⟩
theorem c6z {m:PMap} {c:Cll} {s:Nat} {p:Pcl} (hs:s<c.ins.length) (h:(y7 m c s p).ok=true) : @Eq Int (nth .int (y7 m c s p).c.ins s) (nth .int c.ins s+1) ∧ @Eq Int p.n (nth .int c.ins s):=by
 unfold y7 at *
 split at h
 ·cases h
 rename_i h1
 rw[if_neg h1]
 have hpn : @Eq Int p.n (nth .int c.ins s):=Classical.not_not.1 fun hh=>h1 (.inl hh)
 split at h
 ·rename_i h2
  rw[if_pos h2]
  exact⟨m6 .int hs,hpn⟩
 split at h
 ·cases h
 rename_i h2 h3
 rw[if_neg h2,if_neg h3]
 exact⟨m6 .int hs,hpn⟩
theorem c4E {m:PMap} {s:Srv} {st:List Sto} {t:Arb} {v:Int} {x:Msg} (hs:A4 m s=true) (hst:z7 m st=true) (ht:B8 m t v=true) (hx:u9 m v x=true) :
  (n5 m s st t x).out.length≤1 ∧ ∀z∈(n5 m s st t x).out,u9 m v z=true:=by
 have nil:(([]:List Msg)).length≤1 ∧ ∀z∈([]:List Msg),u9 m v z=true:=⟨by simp,by simp⟩
 have one : ∀y:Msg,u9 m v y=true→([y]:List Msg).length≤1 ∧ ∀z ∈ [y],u9 m v z=true:=fun y hy=>⟨by simp,fun z hz=>by simp at hz;subst hz;exact hy⟩
 obtain⟨_,_,hall,_⟩:=y9.1 hs
 unfold n5
 split
 ·exact nil
 rename_i hu0
 have hu:s.up=true:=by
  cases h:s.up with
  |true=>rfl
  |false=>exact absurd (.inl h) hu0
 split
 ·unfold H5
  split
  ·exact nil
  split
  ·exact nil
  ·exact nil
 split
 ·exact nil
 split
 ·exact nil
 rename_i hk1 hk7 hno
 have hh:u5 s x.cell=true:=by simpa using hno
 obtain⟨hm,hmc⟩:=z5 hh
 have hco:=(A6.1 (hall _ hm)).2.2
 split
 ·rename_i hk
  unfold V2
  simp only
  split
  ·exact one _ (d1r hx hk)
  rename_i hw
  split
  ·exact nil
  rename_i hq1
  split
  ·rename_i hq2
   split
   ·exact nil
   ·rename_i hl0
    have hw':s8 (e9 s x.cell).state.wlks x.ord.who=true:=by simpa using hw
    have hf:=a5g hw'
    have hwo:=L7 hco (R3 hw').1
    refine one _ (c0D hx hk ?_ ?_)
    ·rw[hf]at hl0 ⊢
     omega
    ·rw[hf]
     omega
  rename_i hq2
  have e:p5 x=⟨1,x.ord,0,A8,0⟩:=by rw[p5,if_pos hk]
  rw[←e]
  have hw':s8 (e9 s x.cell).state.wlks x.ord.who=true:=by simpa using hw
  have W:=(V0 hs hst hx hu (.inl hk) hh (fun _=>⟨hw',by omega⟩) (fun h=>by omega)).2
  split
  ·rename_i hn
   obtain⟨g1,_,_,_,g2,_⟩:=W hn
   have hfr:L8 (e9 s x.cell).state x.ord=true:=by
    simp only[L8,Bool.and_eq_true,decide_eq_true_eq]
    exact⟨hw',by omega⟩
   have hcode:(j8 m (e9 s x.cell).state (p5 x)).code=(K3 m (e9 s x.cell).state x.ord).code:=by
    rw[e,j8,if_pos rfl,if_pos hfr]
   have:=d1j (m:=m) hfr
   refine one _ (c0D hx hk ?_ ?_)
   ·rw[g1,hcode];omega
   ·rw[g1,hcode];omega
  ·exact nil
 split
 ·rename_i hk2 hk
  have hsd:=a1X hx (.inl hk)
  obtain⟨s1,_⟩:=I6 hsd
  have hs2:x.side.toNat<2:=by omega
  have hii:=b9I hco hs2
  have hpp:=Q2.1 (c1O hx hk)
  unfold V1
  simp only
  split
  ·rename_i hq
   have hq : @LT.lt Int _ x.pcl.n (nth .int (e9 s x.cell).state.ins x.side.toNat):=hq
   exact⟨c2a _ _ _ _,c8l ht hx hk (by omega) (by omega)⟩
  rename_i hq
  have e:p5 x=⟨2,u6,x.side,x.pcl,0⟩:=by rw[p5,if_neg hk2,if_pos hk]
  rw[←e]
  have W:=(V0 hs hst hx hu (.inr (.inl hk)) hh (fun h=>by omega) (fun _=>Int.not_lt.1 hq)).2
  split
  ·rename_i hn
   obtain⟨_,_,_,_,g2,_,g3⟩:=W hn
   have hok2:=a1w hco g3
   have happ:j8 m (e9 s x.cell).state (p5 x)=⟨(y7 m (e9 s x.cell).state x.side.toNat x.pcl).c,0,(y7 m (e9 s x.cell).state x.side.toNat x.pcl).ok⟩:=by
    rw[e,j8,if_neg (by simp),if_neg (by rw[hmc];exact hsd),if_pos rfl]
   rw[happ]at g2 hok2
   have hl2:=(o7 hco).2.2.2.2.2.2.2.2
   have hri:=c6z (s:=x.side.toNat) (by omega) g2
   have hi2:=b9I hok2 hs2
   simp only at hi2
   exact⟨c2a _ _ _ _,c8l ht hx hk (by omega) (by omega)⟩
  ·exact nil
 ·exact nil
theorem b7N {m:PMap} {t:Arb} {x z:Msg} {n:Int} (h:z∈R0 m t x n):z.kind=6:=by
 unfold R0 at h
 split at h
 ·simp at h
 ·simp at h;rw[h]
theorem a3y {m:PMap} {s:Srv} {st:List Sto} {t:Arb} {x z:Msg} (h:z∈(n5 m s st t x).out):z.kind=3∨z.kind=4∨z.kind=6:=by
 unfold n5 at h
 split at h
 ·simp at h
 split at h
 ·unfold H5 at h
  split at h
  ·simp at h
  split at h
  ·simp at h
  ·simp at h
 split at h
 ·simp at h
 split at h
 ·simp at h
 split at h
 ·unfold V2 at h
  simp only at h
  split at h
  ·simp at h;rw[h];exact .inr (.inl rfl)
  split at h
  ·simp at h
  split at h
  ·split at h
   ·simp at h
   ·simp at h;rw[h];exact .inl rfl
  split at h
  ·simp at h;rw[h];exact .inl rfl
  ·simp at h
 split at h
 ·unfold V1 at h
  simp only at h
  split at h
  ·exact .inr (.inr (b7N h))
  split at h
  ·exact .inr (.inr (b7N h))
  ·simp at h
 ·simp at h
theorem m7 {w:Wld}:j6 w=true↔B8 w.map w.table w.servers.length=true∧z7 w.map w.stores=true∧A7 w.map w.rows=true∧w.net.length≤40∧w.notes.length≤150 ∧
  (∀i,i<w.stores.length→(nth .sto w.stores i).age≤nth .int w.table.ages i)∧(∀s∈w.servers,A4 w.map s=true ∧ ∀h∈s.holds,h.age≤nth .int w.table.ages h.state.cell.toNat) ∧
  (∀x∈w.net,u9 w.map w.servers.length x=true∧(x.kind=1→x.n≤nth .int w.table.ages x.cell.toNat)) ∧ ∀n∈w.notes,a4Z n=true:=by
 simp only[j6,Bool.and_eq_true,decide_eq_true_eq,and_assoc]
 refine and_congr_right fun _=>and_congr_right fun _=>and_congr_right fun _=>and_congr_right fun _=>and_congr_right fun _ => ?_
 refine and_congr ?_ (and_congr ?_ (and_congr ?_ ?_))
 ·rw[l6];simp only[a0Y,decide_eq_true_eq]
 ·rw[l6]
  simp only[a2T,Bool.and_eq_true,l6,a3T,decide_eq_true_eq]
  constructor
  ·intro h s hs
   obtain⟨i,hi,rfl⟩:=O7 .srv hs
   refine⟨(h i hi).1,fun g hg => ?_⟩
   obtain⟨j,hj,rfl⟩:=O7 .hld hg
   exact(h i hi).2 j hj
  ·intro h i hi
   have:=h _ (s7 .srv hi)
   exact⟨this.1,fun j hj=>this.2 _ (s7 .hld hj)⟩
 ·rw[l6]
  simp only[a6p,Bool.and_eq_true,decide_eq_true_eq]
  constructor
  ·intro h s hs
   obtain⟨i,hi,rfl⟩:=O7 .msg hs
   exact h i hi
  ·intro h i hi
   exact h _ (s7 .msg hi)
 ·rw[l6]
  simp only[b9y]
  constructor
  ·intro h s hs
   obtain⟨i,hi,rfl⟩:=O7 .note hs
   exact h i hi
  ·intro h i hi
   exact h _ (s7 .note hi)
theorem a5C {w:Wld} {l:List Msg} (h:j6 w=true) (hl : ∀x∈l,u9 w.map w.servers.length x=true∧(x.kind=1→x.n≤nth .int w.table.ages x.cell.toNat)):j6 (u7 w l)=true:=by
 obtain⟨h1,h2,h3,h4,h5,h6,h7,h8,h9⟩:=m7.1 h
 refine m7.2 ⟨h1,h2,h3,?_,h5,h6,h7,fun x hx => ?_,h9⟩
 ·simp only[u7,List.length_append,List.length_take];omega
 ·simp only[u7,List.mem_append]at hx
  rcases hx with hx|hx
  ·exact h8 x hx
  ·exact hl x (List.mem_of_mem_take hx)
theorem c8S {w:Wld} {i:Nat} (h:j6 w=true):j6 (wCut w i)=true:=by
 obtain⟨h1,h2,h3,h4,h5,h6,h7,h8,h9⟩:=m7.1 h
 refine m7.2 ⟨h1,h2,h3,?_,h5,h6,h7,fun x hx=>h8 x (List.mem_of_mem_eraseIdx hx),h9⟩
 have:=List.length_eraseIdx_le w.net i
 simp only[wCut];omega
theorem c8y {m:PMap} {s s':Srv} {st st':List Sto} {v:Int} {x:Msg} {A:List Int} (hs:A4 m s=true) (hst:z7 m st=true) (hx:u9 m v x=true) (he:Eff m s st x s' st') (hA:(A.length:Int)=m.cells)
  (h1 : ∀i,i<st.length→(nth .sto st i).age≤nth .int A i) (h2 : ∀h∈s.holds,h.age≤nth .int A h.state.cell.toNat) (h3:x.kind=1→x.n≤nth .int A x.cell.toNat) :
  (∀i,i<st'.length→(nth .sto st' i).age≤nth .int A i) ∧ ∀h∈s'.holds,h.age≤nth .int A h.state.cell.toNat:=by
 obtain⟨hc0,hcl,hso,hbc⟩:=a3k hst hx
 obtain⟨hg,hup,hh,hso2⟩:=y9.1 hs
 cases he with
 |same=>exact⟨h1,h2⟩
 |ghost hu hk=>exact⟨h1,h2⟩
 |grant hu hk hn ha =>
  refine⟨fun i hi => ?_,fun h hm => ?_⟩
  ·rw[List.length_set]at hi
   rw[I1 .sto hcl]
   split
   ·rename_i he;subst he;exact h3 hk
   ·exact h1 i hi
  ·rcases R9 hso2 hm with rfl|⟨h5,_⟩
   ·simp only
    rw[T5,hbc]
    exact h3 hk
   ·exact h2 h h5
 |lost hu hk hh2 ha=>exact⟨h1,fun h hm=>h2 h (a8P.1 hm).1⟩
 |write hu hk hh2 ha hc hl hr g1 g2 hf hp =>
  obtain⟨hm1,hm2⟩:=z5 hh2
  refine⟨fun i hi => ?_,fun h hm => ?_⟩
  ·rw[List.length_set]at hi
   rw[I1 .sto hcl]
   split
   ·rename_i he;subst he;exact h1 _ hcl
   ·exact h1 i hi
  ·rcases R9 hso2 hm with rfl|⟨h5,_⟩
   ·simp only
    rw[P8]
    exact h2 _ hm1
   ·exact h2 h h5
theorem d0U {w:Wld} {x:Msg} (h:j6 w=true) (hx:u9 w.map w.servers.length x=true) (hx2:x.kind=1→x.n≤nth .int w.table.ages x.cell.toNat) (hd:x.dest ≠ -1):j6 (a0G w x)=true∧(a0G w x).servers.length=w.servers.length:=by
 obtain⟨h1,h2,h3,h4,h5,h6,h7,h8,h9⟩:=m7.1 h
 have hdd:0≤x.dest∧x.dest<w.servers.length:=by
  rcases a1Y hx with ⟨_,g1,g2⟩|⟨_,g⟩
  ·exact⟨g1,g2⟩
  ·exact absurd g hd
 have hdn:x.dest.toNat<w.servers.length:=by omega
 obtain⟨o1,o2⟩:=h7 _ (s7 .srv hdn)
 have he:=a4p (t:=w.table) o1 h2 hx
 obtain⟨e1,e2,e3,e4⟩:=c8x o1 h2 hx he
 obtain⟨_,hal,_⟩:=B7 h1
 obtain⟨a1,a2⟩:=c8y o1 h2 hx he hal h6 o2 hx2
 refine⟨?_,by simp[a0G,u7]⟩
 unfold a0G
 simp only
 refine a5C ?_ fun z hz => ?_
 ·refine m7.2 ⟨by simpa using h1,e2,h3,h4,h5,a1,fun s hs => ?_,by simpa using h8,h9⟩
  rcases List.mem_or_eq_of_mem_set hs with hs|rfl
  ·exact h7 s hs
  ·exact⟨e1,a2⟩
 ·have ho:=(c4E o1 h2 h1 hx).2 z hz
  refine⟨by simpa using ho,fun hk => ?_⟩
  have:=a3y hz
  omega
theorem b4Q {m:PMap} {l:List Row} {i:Nat} {r:Row} (h:A7 m l=true) (hi:i<l.length) (hr:V4 m r=true) (hw:r.who=(nth .row l i).who):A7 m (l.set i r)=true:=by
 have h0:=h
 unfold A7 at h ⊢
 rw[Bool.and_eq_true]at h ⊢
 refine⟨h.1,(l6 _ _).2 fun j hj => ?_⟩
 rw[List.length_set]at hj
 obtain⟨h1,h2⟩:=a7C h0 hj
 have hwho : ∀k,(nth .row (l.set i r) k).who=(nth .row l k).who:=fun k=>by
  rw[I1 .row hi]
  split
  ·rename_i he;subst he;exact hw
  ·rfl
 simp only[J5,Bool.and_eq_true,Bool.or_eq_true,decide_eq_true_eq,hwho]
 refine⟨?_,?_⟩
 ·rw[I1 .row hi]
  split
  ·exact hr
  ·exact h1
 ·by_cases hj0:j=0
  ·exact .inl hj0
  ·exact .inr (h2 (by omega))
theorem b8I {m:PMap} {l:List Row} {who:Int} (h:A7 m l=true) (hp:0≤k9 l who):V4 m (rowAt l who)=true∧(rowAt l who).who=who∧(k9 l who).toNat<l.length:=by
 have hlt:=a1A l who
 have hl:(k9 l who).toNat<l.length:=by omega
 exact⟨(a7C h hl).1,b3Z hp,hl⟩
theorem d0X {m:PMap} {l:List Row} (h:A7 m l=true):p7 m=true:=by
 unfold A7 at h
 rw[Bool.and_eq_true]at h
 exact h.1
theorem a0B {m:PMap} {r:Row}:V4 m r=true↔(1≤r.who∧r.who≤9∧0≤r.cell∧r.cell<m.cells∧0≤r.seq∧r.seq≤900∧0≤r.code∧r.code≤9)∧(r.busy=false→a1b r.ord=true)∧(r.busy=true→S1 r.ord=true∧r.ord.who=r.who∧r.ord.seq=r.seq+1):=by
 simp only[V4,decide_eq_true_eq]
 constructor
 ·rintro⟨a,b,c,d,e,f,g,h,i,j⟩
  exact⟨⟨a,b,c,d,e,f,g,h⟩,i,j⟩
 ·rintro⟨⟨a,b,c,d,e,f,g,h⟩,i,j⟩
  exact⟨a,b,c,d,e,f,g,h,i,j⟩
theorem c8Z {c n:Int} (h0:0≤c) (h1:c<n) (h2:n≤4):0≤(c+1).tmod n∧(c+1).tmod n<n:=by
 constructor
 ·exact Int.tmod_nonneg _ (by omega)
 ·have:=Int.tmod_lt_of_pos (c+1) (show 0<n by omega)
  omega
theorem b0I {m:PMap} {l:List Row} {v:Int} {x:Msg} (h:A7 m l=true) (hx:u9 m v x=true):A7 m (z8 m l x).b=true∧(z8 m l x).b.length=l.length ∧
  ((z8 m l x).ok=true→x.kind=3∧0≤k9 l x.ord.who∧(rowAt l x.ord.who).busy=true∧(rowAt l x.ord.who).ord=x.ord∧a4Z ⟨x.ord.who,x.ord.seq,x.n⟩=true):=by
 unfold z8
 simp only
 split
 ·rename_i hc
  obtain⟨hp,hb,ho⟩:=hc
  obtain⟨r1,r2,r3⟩:=b8I h hp
  obtain⟨g1,g2,g3⟩:=a0B.1 r1
  obtain⟨g4,g5,g6⟩:=g3 hb
  rw[ho]at g4 g6
  obtain⟨m1,m2⟩:=b0n hx
  have hpl:=s0.1 (d0X h)
  split
  ·rename_i hk
   have hn:1≤x.n∧x.n≤9:=by
    simp only[u9,G8,decide_eq_true_eq]at hx
    grind
   have hoo:=N4.1 g4
   refine⟨b4Q h r3 (a0B.2 ⟨⟨by simp only;omega,by simp only;omega,m1,m2,by simp only;omega,by simp only;omega,by simp only;omega,hn.2⟩,fun _=>a8Q.1,fun hh=>by cases hh⟩) rfl,by simp,fun _=>⟨hk,hp,hb,ho,?_⟩⟩
   simp only[a4Z,decide_eq_true_eq]
   omega
  ·split
   ·rename_i hk
    have hcr:=c8Z g1.2.2.1 g1.2.2.2.1 (by omega)
    refine⟨b4Q h r3 (a0B.2 ⟨⟨g1.1,g1.2.1,hcr.1,hcr.2,g1.2.2.2.2⟩,g2,g3⟩) rfl,by simp,fun hh=>by cases hh⟩
   ·exact⟨h,rfl,fun hh=>by cases hh⟩
 ·exact⟨h,rfl,fun hh=>by cases hh⟩
theorem c4J {m:PMap} {l:List Row} {who kind dest n:Int} (h:A7 m l=true):A7 m (L6 l who kind dest n).b=true∧(L6 l who kind dest n).b.length=l.length:=by
 unfold L6
 split
 ·rename_i hc
  obtain⟨hp,hb,ho⟩:=hc
  obtain⟨r1,r2,r3⟩:=b8I h hp
  have r1:V4 m (nth .row l (k9 l who).toNat)=true:=r1
  have r2:(nth .row l (k9 l who).toNat).who=who:=r2
  obtain⟨g1,g2,g3⟩:=a0B.1 r1
  exact⟨b4Q h r3 (a0B.2 ⟨g1,(fun hh=>by cases hh),fun _=>⟨ho,r2.symm,rfl⟩⟩) rfl,by simp⟩
 ·exact⟨h,rfl⟩
theorem c4H {m:PMap} {l:List Row} {t:Arb} {v who:Int} (h:A7 m l=true) (ht:B8 m t v=true) (hs:(U0 l t who).ok=true):u9 m v (U0 l t who).x=true∧(U0 l t who).x.kind=2:=by
 unfold U0 at *
 split at hs
 ·rename_i hc
  rw[if_pos hc]
  obtain⟨hp,hb,ho⟩:=hc
  obtain⟨r1,r2,r3⟩:=b8I h hp
  obtain⟨g1,g2,g3⟩:=a0B.1 r1
  obtain⟨a1,a2,a3,a4⟩:=a2P ht _ ho
  obtain⟨z1,z2,z3⟩:=a8Q
  obtain⟨_,_,l0,l1,l2⟩:=B7 ht
  have g4:=(g3 hb).1
  refine⟨?_,rfl⟩
  have a2':j9 t (rowAt l who).cell≤v-1:=by omega
  generalize j9 t (rowAt l who).cell=y at *
  simp only[u9,G8,decide_eq_true_eq]
  grind
 ·cases hs
theorem a3I {m:PMap} {t:Arb} {v cell server:Int} (ht:B8 m t v=true) (hg:(n4 t v cell server).ok=true) :
  B8 m (n4 t v cell server).t v=true∧0≤cell∧cell<m.cells∧0≤server∧server<v∧(n4 t v cell server).t=⟨t.servers.set cell.toNat server,t.ages.set cell.toNat (nth .int t.ages cell.toNat+1)⟩ ∧
  @LE.le Int _ 0 (nth .int t.ages cell.toNat) ∧ @LT.lt Int _ (nth .int t.ages cell.toNat) 900:=by
 unfold n4 at *
 split at hg
 ·rename_i hc
  rw[if_pos hc]
  obtain⟨c1,c2,c3,c4,c5⟩:=hc
  obtain⟨l1,l2,l3,l4,l5⟩:=B7 ht
  obtain⟨b1,b2,b3,b4,b5⟩:=a5m ht (k:=cell.toNat) (by omega)
  have b3 : @LE.le Int _ 0 (nth .int t.ages cell.toNat):=b3
  have b4 : @LE.le Int _ (nth .int t.ages cell.toNat) 900:=b4
  have c5 : ¬ @Eq Int (nth .int t.ages cell.toNat) 900:=c5
  refine⟨?_,c1,by omega,c3,c4,rfl,b3,by omega⟩
  unfold B8
  rw[Bool.and_eq_true]
  refine⟨by simp only[X3,decide_eq_true_eq,List.length_set];exact⟨l3,l4,l5,l1,l2⟩,(l6 _ _).2 fun k hk => ?_⟩
  rw[List.length_set]at hk
  have hk2:cell.toNat<t.ages.length:=by omega
  have hk3:cell.toNat<t.servers.length:=by omega
  obtain⟨d1,d2,d3,d4,d5⟩:=a5m ht hk
  simp only[a2Z,decide_eq_true_eq]
  rw[I1 .int hk3,I1 .int hk2]
  by_cases he:k=cell.toNat
  ·simp only[if_pos he]
   have : ∀a:Int,0≤a→a≤900 → ¬a=900 → -1≤server∧server≤v-1∧0≤a+1∧a+1≤900∧(server = -1↔a+1=0):=fun a h1 h2 h3=>⟨by omega,by omega,by omega,by omega,by omega⟩
   exact this _ b3 b4 c5
  ·simp only[if_neg he]
   exact⟨d1,d2,d3,d4,d5⟩
 ·cases hg
theorem c0x {m:PMap} {t:Arb} {v cell server:Int} (ht:B8 m t v=true) (hg:(n4 t v cell server).ok=true) (i:Nat) : @LE.le Int _ (nth .int t.ages i) (nth .int (n4 t v cell server).t.ages i):=by
 obtain⟨_,c1,c2,_,_,e,b3,b4⟩:=a3I ht hg
 obtain⟨_,l2,_⟩:=B7 ht
 rw[e]
 simp only
 rw[I1 .int (by omega)]
 split
 ·rename_i he
  subst he
  have : ∀a:Int,a≤a+1:=fun a=>by omega
  exact this _
 ·exact Int.le_refl _
theorem c9D {m:PMap} {s:Srv} {t:Arb} {v cell:Int} (hs:A4 m s=true) (ht:B8 m t v=true) : ∀z∈D1 m s t cell,u9 m v z=true∧(z.kind=5∨z.kind=7):=by
 intro z hz
 unfold D1 at hz
 split at hz
 rotate_left
 ·simp at hz
 rename_i hh
 obtain⟨hm,hc⟩:=z5 hh
 have hho:=(y9.1 hs).2.2.1 _ hm
 generalize e9 s cell=h at *
 have hco:=(A6.1 hho).2.2
 have hcf:=o7 hco
 obtain⟨z1,z2,z3⟩:=a8Q
 obtain⟨_,_,l0,l1,l2⟩:=B7 ht
 have go : ∀side:Nat,side<2 → ∀z∈B9 m t h cell side,u9 m v z=true∧(z.kind=5∨z.kind=7):=by
  intro side hsd z hz
  unfold B9 at hz
  simp only at hz
  split at hz
  ·simp at hz
  rename_i hne
  have hn1:b7 m cell side ≠ -1:=fun e=>hne (.inl e)
  have hn2:j9 t (b7 m cell side) ≠ -1:=fun e=>hne (.inr e)
  obtain⟨g1,g2,g3,g4,g5,g6,g7,g8⟩:=I6 hn1
  obtain⟨a1,a2,a3,a4⟩:=a2P ht _ hn2
  have g9:b7 m (b7 m cell side) (1-side) ≠ -1:=by omega
  have a5:j9 t (b7 m cell side)≤v-1:=by omega
  rcases List.mem_append.1 hz with hz|hz
  ·obtain⟨p,hp,rfl⟩:=List.mem_map.1 hz
   refine⟨?_,.inl rfl⟩
   have hpo:K0 m p=true:=by
    have hp:=List.mem_of_mem_take hp
    have hl:=(C6 hco hsd).2.2.2
    rw[Int.toNat_natCast]at hp
    obtain⟨i,hi,rfl⟩:=O7 .pcl hp
    exact((J9.1 hl).2.2.2.2 i hi).1
   clear hn1 hn2 hne g7 g8 hz
   generalize b7 m cell side=d at *
   generalize j9 t d=y at *
   simp only[u9,G8,decide_eq_true_eq]
   grind
  ·obtain⟨g,hg,rfl⟩:=List.mem_map.1 hz
   refine⟨?_,.inr rfl⟩
   have hg:=List.mem_of_mem_take hg
   unfold n6 ghTo at hg
   obtain⟨w,hw,rfl⟩:=List.mem_map.1 hg
   rw[a8N]at hw
   obtain⟨hw1,hw2⟩:=List.mem_filter.1 hw
   have hwo:=(F4.1 hco).1 w hw1
   have hgo:a0o m ⟨h.state.cell,h.count,w⟩=true:=by
    obtain⟨_,k1,_⟩:=A6.1 hho
    simp only[a0o,decide_eq_true_eq]
    refine⟨k1.1,k1.2,hwo.1,hwo.2,?_⟩
    rcases g1 with g1|g1
    ·rw[g1]at hw2;exact .inl hw2
    ·rw[g1]at hw2;exact .inr hw2
   have hsrc:h.state.cell=b7 m (b7 m cell side) (1-side):=by rw[g7,hc]
   clear hn1 hn2 hne g7 g8 hz hw hg
   generalize b7 m cell side=d at *
   generalize j9 t d=y at *
   simp only[u9,G8,decide_eq_true_eq]
   grind
 rcases List.mem_append.1 hz with hz|hz
 ·exact go 0 (by omega) z hz
 ·exact go 1 (by omega) z hz
theorem a8B {w:Wld} {e:Evt} (h:j6 w=true):j6 (m9 w e)=true∧(m9 w e).servers.length=w.servers.length∧(m9 w e).map=w.map:=by
 obtain⟨h1,h2,h3,h4,h5,h6,h7,h8,h9⟩:=m7.1 h
 have plain : ∀z:Msg,z.kind≠1→(z.kind=1→z.n≤nth .int w.table.ages z.cell.toNat):=fun z hz hk=>absurd hk hz
 unfold m9
 split
 ·simp only
  split
  ·rename_i hg
   obtain⟨g1,c1,c2,c3,c4,ge,b3,b4⟩:=a3I h1 hg
   have hmono:=c0x h1 hg
   obtain⟨l1,l2,l3,l4,l5⟩:=B7 h1
   refine⟨a5C (m7.2 ⟨g1,h2,h3,h4,h5,fun i hi=>Int.le_trans (h6 i hi) (hmono i),fun s hs=>⟨(h7 s hs).1,fun x hx=>Int.le_trans ((h7 s hs).2 x hx) (hmono _)⟩,fun x hx=>⟨(h8 x hx).1,fun hk=>Int.le_trans ((h8 x hx).2 hk) (hmono _)⟩,h9⟩) fun x hx => ?_,by simp[u7],rfl⟩
   simp only[List.mem_singleton]at hx
   subst hx
   refine⟨?_,fun _=>Int.le_refl _⟩
   obtain⟨z1,z2,z3⟩:=a8Q
   have hn : @LE.le Int _ 1 (nth .int (n4 w.table w.servers.length e.pos e.dest).t.ages e.pos.toNat) ∧ @LE.le Int _ (nth .int (n4 w.table w.servers.length e.pos e.dest).t.ages e.pos.toNat) 900:=by
    rw[ge]
    simp only
    rw[m6 .int (by omega)]
    have : ∀a:Int,0≤a→a<900→1≤a+1∧a+1≤900:=fun a _ _=>by omega
    exact this _ b3 b4
   have hd:e.dest≤(w.servers.length:Int)-1:=by omega
   generalize nth .int (n4 w.table w.servers.length e.pos e.dest).t.ages e.pos.toNat=y at *
   simp only[u9,G8,decide_eq_true_eq]
   grind
  ·exact⟨h,rfl,rfl⟩
 split
 ·have hg := @c4J w.map w.rows e.pos e.what e.dest e.n h3
  exact⟨m7.2 ⟨h1,h2,hg.1,h4,h5,h6,h7,h8,h9⟩,rfl,rfl⟩
 split
 ·split
  ·rename_i hs
   obtain⟨g1,g2⟩:=c4H h3 h1 hs
   exact⟨a5C h fun x hx=>by
    simp only[List.mem_singleton]at hx
    subst hx
    exact⟨g1,plain _ (by omega)⟩,by simp[u7],rfl⟩
  ·exact⟨h,rfl,rfl⟩
 split
 ·split
  ·rename_i hp
   have hpl:e.pos.toNat<w.net.length:=by omega
   have hx:=h8 _ (s7 .msg hpl)
   split
   ·unfold J7
    simp only
    have hc := @c8S w e.pos.toNat h
    split
    ·unfold a3f
     simp only
     obtain⟨c1,c2,c3,c4,c5,c6,c7,c8,c9⟩:=m7.1 hc
     obtain⟨g1,g2,g3⟩:=b0I c3 (by simpa [wCut]using hx.1)
     refine⟨m7.2 ⟨c1,c2,g1,c4,?_,c6,c7,c8,?_⟩,rfl,rfl⟩
     ·simp only
      split
      ·rename_i hh
       simp only[List.length_append,List.length_singleton]
       omega
      ·exact c5
     ·intro n hn
      simp only at hn
      split at hn
      ·rename_i hh
       rcases List.mem_append.1 hn with hn|hn
       ·exact c9 n hn
       ·simp only[List.mem_singleton]at hn
        subst hn
        exact(g3 hh.1).2.2.2.2
      ·exact c9 n hn
    ·rename_i hd
     obtain⟨g1,g2⟩:=d0U hc (by simpa [wCut]using hx.1) (by simpa [wCut]using hx.2) hd
     exact⟨g1,by rw[g2];rfl,rfl⟩
   split
   ·exact⟨c8S h,rfl,rfl⟩
   ·exact⟨a5C h fun x hx'=>by
     simp only[List.mem_singleton]at hx'
     subst hx'
     exact hx,by simp[u7],rfl⟩
  ·exact⟨h,rfl,rfl⟩
 split
 ·split
  ·rename_i hp
   have hpl:e.pos.toNat<w.servers.length:=by omega
   have hz : ∀b:Bool,A4 w.map ⟨b,[],[]⟩=true:=fun b=>y9.2 ⟨a0T.2 ⟨(B7 h1).2.2.1,by simp,by simp,by simp⟩,a0z.2 (.inr ⟨rfl,rfl⟩),by simp,by simp⟩
   have life : ∀b:Bool,j6 ⟨w.map,w.servers.set e.pos.toNat ⟨b,[],[]⟩,w.stores,w.table,w.rows,w.net,w.notes⟩=true:=fun b=>m7.2 ⟨by simpa using h1,h2,h3,h4,h5,h6,fun s hs=>by
    rcases List.mem_or_eq_of_mem_set hs with hs|rfl
    ·exact h7 s hs
    ·exact⟨hz b,by simp⟩,by simpa using h8,h9⟩
   split
   ·have ht := @c9D w.map (nth .srv w.servers e.pos.toNat) w.table w.servers.length e.dest (h7 _ (s7 .srv hpl)).1 h1
    exact⟨a5C h fun x hx=>⟨(ht x hx).1,plain _ (by have:=(ht x hx).2;omega)⟩,by simp[u7],rfl⟩
   split
   ·exact⟨life false,by simp,rfl⟩
   split
   ·exact⟨life true,by simp,rfl⟩
   ·exact⟨h,rfl,rfl⟩
  ·exact⟨h,rfl,rfl⟩
 ·exact⟨h,rfl,rfl⟩
end Go.Mo
namespace Go.Sx
inductive ImpB (P Q:Prop):Prop where
 |mk (h:P→Q):ImpB P Q
theorem ImpB.out {P Q:Prop} (h:ImpB P Q):P→Q:=let ⟨h⟩:=h;h
inductive MeasB (a b:Th Nat):Prop where
 |mk (h:a ()<b ()):MeasB a b
theorem MeasB.out {a b:Th Nat} (h:MeasB a b):a ()<b ():=let ⟨h⟩:=h;h
theorem LoopIn.wb {A:Ann} {σ0 σ : St} (i:A.ι) (hc:A.cond σ0 i ()) (hm:l8 σ (A.st σ0 i)):LoopIn A σ0 σ := ⟨i,hc,hm⟩
theorem LoopBack.wb {A:Ann} {σ0 σ : St} {i:A.ι} (i':A.ι) (hc:A.cond σ0 i' ()) (hd:MeasB (A.meas σ0 i') (A.meas σ0 i)) (hm:l8 σ (A.st σ0 i')):LoopBack A σ0 i σ := ⟨i',hc,hd.out,hm⟩
def d3q (c:C):C:=match c with
 | .att (.list _ _) => .unk
 | .att a => .att a
 | .ptr k v j => .ptr k v j
 |_ => .unk
def d2c (c:Ch):Ch:=match c with
 | .var bx cs => .var bx (cs.map d3q)
 |c=>c
def b8u:Hp→Hp
 | .leaf => .leaf
 | .node e l r => .node (e.1,d2c e.2) (b8u l) (b8u r)
def d3p (v:V):V:=match v with
 | .one (.ptr k v j) => .one (.ptr k v j)
 |_ => .one .unk
def b3A:Tr V→Tr V
 | .leaf => .leaf
 | .node v l r => .node (d3p v) (b3A l) (b3A r)
def St.thin (σ : St) (kv:Nat):St:=⟨σ.tm,(b8u σ.hp).set kv (σ.hp.get kv),σ.up.map b3A⟩
def St.only (σ : St) (ds:List Nat):St:=⟨ds.foldr (fun d t=>t.set d (σ.tm.get d)) .leaf,σ.hp,σ.up⟩
def St.pk (σ : St) (d:Nat):Nat:=match σ.tm.get d with
 | .one (.ptr k _ _)=>k
 |_=>0
def ownK (c:C):Nat:=match c with
 | .own k _=>k
 |_=>0
def St.okC (σ : St) (k j:Nat):Nat:=match(σ.hp.get k).2 with
 | .var _ cs=>ownK ((cs[j]?).getD .unk)
 |_=>0
def St.okT (σ : St) (d:Nat):Nat:=match σ.tm.get d with
 | .one c=>ownK c
 |_=>0
def b4A:Th (List Msg):=fun _ => []
def c0t (t:RT) (l:Th (List t.ty)):Th (List Msg):=match t,l with
 | .msg,l=>l
 |_,_=>b4A
def d3g (c:Ch):Th (List Msg):=match c with
 | .row _ _ t l=>c0t t l
 | .ro t l=>c0t t l
 |_=>b4A
def St.rowM (σ : St) (k:Nat):Th (List Msg):=d3g (σ.hp.get k).2
def d3k (σ : St) (c:C):Th (List Msg):=match c with
 | .att (.list t l)=>c0t t l
 | .own k _ => σ.rowM k
 |_=>b4A
def St.tmM (σ : St) (d:Nat):Th (List Msg):=match σ.tm.get d with
 | .one c=>d3k σ c
 |_=>b4A
def a0n:Th Int:=fun _=>0
def St.tmI (σ : St) (d:Nat):Th Int:=match σ.tm.get d with
 | .one (.att (.int _ n))=>n
 |_=>a0n
end Go.Sx
namespace Go.Mo
open Go.Sx
def a0d (l:List Msg) (i:Nat) (k:Nat):List Msg:=(l.take k).eraseIdx i
theorem c0j (l:List Msg) (i:Nat):a0d l i 0 = []:=by simp[a0d]
theorem b3b (l:List Msg) (i:Nat):a0d l i l.length=l.eraseIdx i:=by simp[a0d]
theorem c5g (l:List Msg) (i k:Nat):(a0d l i k).length≤k:=by
 unfold a0d
 have:=List.length_eraseIdx_le (l.take k) i
 have h2:=List.length_take_le k l
 omega
theorem c8T {l:List Msg} {i k:Nat} (h:k<l.length) (hne : ¬k=i):a0d l i (k+1)=a0d l i k ++ [nth .msg l k]:=by
 unfold a0d
 have h1:l.take (k+1)=l.take k ++ [nth .msg l k]:=J1 .msg h
 rw[h1]
 have h2:(l.take k).length=k:=by simp;omega
 by_cases h3:i<k
 ·rw[List.eraseIdx_append_of_lt_length (by omega)]
 ·rw[List.eraseIdx_append_of_length_le (by omega),List.eraseIdx_of_length_le (by simp;omega),List.eraseIdx_of_length_le (by omega)]
theorem c5f {l:List Msg} {i k:Nat} (h:k<l.length) (hne:k=i):a0d l i (k+1)=a0d l i k:=by
 unfold a0d
 subst hne
 have h1:l.take (k+1)=l.take k ++ [nth .msg l k]:=J1 .msg h
 have h2:(l.take k).length=k:=by simp;omega
 rw[h1,List.eraseIdx_append_of_length_le (by omega),List.eraseIdx_of_length_le (l:=l.take k) (by omega),h2,Nat.sub_self]
 simp
end Go.Mo
namespace Go.Sx
theorem LoopIn.wf {A:Ann} {σ0 σ : St} (f:St→A.ι) (hc:A.cond σ0 (f σ) ()) (hm:l8 σ (A.st σ0 (f σ))):LoopIn A σ0 σ := ⟨f σ,hc,hm⟩
theorem LoopBack.wf {A:Ann} {σ0 σ : St} {i:A.ι} (f:St→A.ι) (hc:A.cond σ0 (f σ) ()) (hd:MeasB (A.meas σ0 (f σ)) (A.meas σ0 i)) (hm:l8 σ (A.st σ0 (f σ))):LoopBack A σ0 i σ := ⟨f σ,hc,hd.out,hm⟩
def asI (c:C):Th Int:=match c with
 | .att (.int _ n)=>n
 |_=>a0n
def B6:Th Bool:=fun _=>false
def asB (c:C):Th Bool:=match c with
 | .att (.bool b)=>fun _=>b.val
 |_=>B6
def a5a (t:RT):Th (List t.ty):=fun _ => []
def asL (t:RT) (c:C):Th (List t.ty):=match c with
 | .att (.list t' l)=>if h:t'=t then Q9 h l else a5a t
 |_=>a5a t
def St.ce (σ : St) (k j:Nat):C:=match(σ.hp.get k).2 with
 | .var _ cs=>(cs[j]?).getD .unk
 |_ => .unk
def chL (t:RT) (c:Ch):Th (List t.ty):=match c with
 | .row _ _ t' l=>if h:t'=t then Q9 h l else a5a t
 | .ro t' l=>if h:t'=t then Q9 h l else a5a t
 |_=>a5a t
def St.rowL (t:RT) (σ : St) (k:Nat):Th (List t.ty):=chL t (σ.hp.get k).2
def d3A (a b:Th Int) (c:Th Bool) (d e f g h i j:Th Int):Th Row:=fun _=>⟨a (),b (),c (),⟨d (),e (),f (),g (),h ()⟩,i (),j ()⟩
def d1J (σ : St) (k:Nat):Th Row:=d3A (asI (σ.ce k 0)) (asI (σ.ce k 1)) (asB (σ.ce k 2)) (asI (σ.ce k 3)) (asI (σ.ce k 4)) (asI (σ.ce k 5)) (asI (σ.ce k 6)) (asI (σ.ce k 7)) (asI (σ.ce k 8)) (asI (σ.ce k 9))
def a4F (a b:Th Int) (c:Th (List Srv)) (d:Th (List Sto)) (e f:Th (List Int)) (g:Th (List Row)) (h:Th (List Msg)) (i:Th (List Note)):Th Wld:=fun _=>⟨⟨a (),b ()⟩,c (),d (),⟨e (),f ()⟩,g (),h (),i ()⟩
def a2U (σ : St) (k:Nat):Th Wld:=a4F (asI (σ.ce k 0)) (asI (σ.ce k 1)) (asL .srv (σ.ce k 2)) (asL .sto (σ.ce k 3)) (asL .int (σ.ce k 4)) (asL .int (σ.ce k 5)) (asL .row (σ.ce k 6)) (asL .msg (σ.ce k 7)) (asL .note (σ.ce k 8))
def St.a3Q (σ : St) (k:Nat):Nat→List A→St
 |_,[] => σ
 |j,a::r=>(σ.v5 k j (.att a)).a3Q k (j+1) r
end Go.Sx
namespace Go.Mo
open Go.Sx
def a6I (m:PMap) (cell:Int) (w:Wlk):Bool:=decide (m5 m w.pos=cell)
def R1 (m:PMap) (cell:Int) (l:List Wlk) (k:Nat):List Wlk:=(l.take k).filter (a6I m cell)
theorem b7w (m:PMap) (cell:Int) (l:List Wlk):R1 m cell l 0 = []:=by simp[R1]
theorem b9L (m:PMap) (cell:Int) (l:List Wlk) (k:Nat):(R1 m cell l k).length≤k∧(R1 m cell l k).length≤l.length:=by
 unfold R1
 have h1:=List.length_filter_le (a6I m cell) (l.take k)
 have h2:=List.length_take_le k l
 have h3:=List.length_take_le' k l
 omega
theorem b9K {m:PMap} {cell:Int} {l:List Wlk} {k:Nat} (h:k<l.length) (hc:m5 m (nth .wlk l k).pos=cell):R1 m cell l (k+1)=R1 m cell l k ++ [nth .wlk l k]:=by
 unfold R1
 have h1:l.take (k+1)=l.take k ++ [nth .wlk l k]:=J1 .wlk h
 rw[h1,List.filter_append]
 simp[a6I,hc]
theorem c4y {m:PMap} {cell:Int} {l:List Wlk} {k:Nat} (h:k<l.length) (hc : ¬m5 m (nth .wlk l k).pos=cell):R1 m cell l (k+1)=R1 m cell l k:=by
 unfold R1
 have h1:l.take (k+1)=l.take k ++ [nth .wlk l k]:=J1 .wlk h
 rw[h1,List.filter_append]
 simp[a6I,hc]
def Y5 (m:PMap) (cell:Int) (l:List Wlk):Cll:=if p7 m=true∧0≤cell∧cell<m.cells∧z6 m l=true then⟨cell,R1 m cell l l.length,0,[[],[]],[0,0],[0,0]⟩else Q7
def M7 (m:PMap) (cell:Int) (l:List Wlk):Sto:=⟨0,Y5 m cell l,[]⟩
def a0W (m:PMap):Arb:=if p7 m=true then⟨List.replicate m.cells.toNat (-1),List.replicate m.cells.toNat 0⟩else⟨[],[]⟩
def a0h (m:PMap) (w:Wlk):Row:=⟨w.id,m5 m w.pos,false,⟨0,0,0,0,0⟩,w.seq,w.last⟩
def a7D (m:PMap) (l:List Wlk):List Row:=if p7 m=true∧z6 m l=true then l.map (a0h m)else[]
def O2 (m:PMap) (l:List Wlk) (servers:Int):Wld:=⟨m,List.replicate servers.toNat ⟨true,[],[]⟩,(List.range m.cells.toNat).map fun(i:Nat)=>M7 m (i:Int) l,a0W m,a7D m l,[],[]⟩
def a2r (m:PMap) (l:List Wlk) (servers:Int):Wld:=if p7 m=true∧z6 m l=true∧1≤servers∧servers≤3 then O2 m l servers else K4
theorem c0M (l:List Wlk):srt l↔l.Pairwise fun a b=>a.id<b.id:=by
 rw[List.pairwise_iff_getElem]
 constructor
 ·intro h i j hi hj hij
  have:=h i j hij hj
  rwa [l7 .wlk l i hi,l7 .wlk l j hj]at this
 ·intro h i j hij hj
  have hi:i<l.length:=by omega
  have:=h i j hi hj hij
  rwa [l7 .wlk l i hi,l7 .wlk l j hj]
theorem b3t {m:PMap} {l:List Wlk} (h:z6 m l=true):l.length≤9:=b3K (b3J h) fun i hi=>by
 have:=I4.1 (a3X h hi)
 exact⟨this.1,this.2.1⟩
theorem b3e {m:PMap} {cell:Int} {l:List Wlk} (h1:p7 m=true) (h2:0≤cell) (h3:cell<m.cells) (h4:z6 m l=true):p9 m (Y5 m cell l)=true:=by
 rw[Y5,if_pos ⟨h1,h2,h3,h4⟩,F4]
 have hw:=a2q.1 h4
 refine⟨fun w hm => ?_,?_,h1,h2,h3,Int.le_refl 0,by show(0:Int)≤900;decide,rfl,rfl,rfl,fun s hs => ?_⟩
 ·simp only[R1,List.take_length,List.mem_filter,a6I,decide_eq_true_eq]at hm
  exact⟨hw.1 w hm.1,hm.2⟩
 ·simp only[R1,List.take_length]
  rw[c0M]
  exact((c0M l).1 hw.2).filter _
 ·have hs2:s=0∨s=1:=by omega
  rcases hs2 with rfl|rfl<;>exact⟨by simp[u0,nth,l9,h1],by show(0:Int)≤0;decide,by show(0:Int)≤5000;decide,fun _=>⟨rfl,rfl⟩,fun p hp=>by simp[nth]at hp⟩
theorem c2Z {m:PMap} {cell:Int} {l:List Wlk} (h1:p7 m=true) (h2:0≤cell) (h3:cell<m.cells) (h4:z6 m l=true):A3 m (M7 m cell l)=true:=by
 rw[v8]
 exact⟨by simp[M7],b3e h1 h2 h3 h4,by simp[M7],by simp[M7,X5]⟩
theorem c4I {m:PMap} {l:List Wlk} (h1:p7 m=true) (h4:z6 m l=true):A7 m (a7D m l)=true:=by
 rw[a7D,if_pos ⟨h1,h4⟩,A7,Bool.and_eq_true]
 refine⟨h1,?_⟩
 rw[l6]
 intro i hi
 have hi:i<l.length:=by simpa using hi
 have hw:=a2q.1 h4
 have hn : ∀j,j<l.length→nth .row (l.map (a0h m)) j=a0h m (nth .wlk l j):=fun j hj=>by
  rw[l7 .row _ j (by simpa using hj),l7 .wlk l j hj]
  simp
 have ho:=I4.1 (hw.1 _ (s7 .wlk hi))
 have hr:V4 m (a0h m (nth .wlk l i))=true:=by
  obtain⟨q1,q2,q3,q4⟩:=O5 ho.2.2.1
  have q5:=s0.1 q1
  have hp:0≤m5 m (nth .wlk l i).pos∧m5 m (nth .wlk l i).pos<m.cells:=by
   rw[q4]
   exact⟨Int.ediv_nonneg q2 (by omega),Int.ediv_lt_of_lt_mul (by omega) q3⟩
  simp only[V4,a0h,decide_eq_true_eq]
  exact⟨ho.1,ho.2.1,hp.1,hp.2,ho.2.2.2.2.2.1,ho.2.2.2.2.2.2.1,ho.2.2.2.2.2.2.2.1,ho.2.2.2.2.2.2.2.2,fun _=>by decide,fun h=>by cases h⟩
 rw[J5,hn i hi,hr,Bool.true_and]
 by_cases h0:i=0
 ·simp[h0]
 ·have hs:=hw.2 (i-1) i (by omega) hi
  rw[hn (i-1) (by omega)]
  simp only[a0h]
  simp[hs]
theorem c5y {m:PMap} {v:Int} (h1:p7 m=true) (h2:1≤v) (h3:v≤3):B8 m (a0W m) v=true:=by
 have hm:=s0.1 h1
 rw[a0W,if_pos h1,B8,Bool.and_eq_true]
 refine⟨by simp[X3,h1,h2,h3];omega,?_⟩
 rw[l6]
 intro i hi
 have hi:i<m.cells.toNat:=by simp only[List.length_replicate]at hi;exact hi
 have e1:nth .int (List.replicate m.cells.toNat (-1:Int)) i=(-1:Int):=by rw[l7 .int _ i (by simpa using hi)];simp
 have e2:nth .int (List.replicate m.cells.toNat (0:Int)) i=(0:Int):=by rw[l7 .int _ i (by simpa using hi)];simp
 simp only[a2Z,e1,e2,decide_eq_true_eq]
 show(-1:Int) ≤ -1∧(-1:Int)≤v-1∧(0:Int)≤0∧(0:Int)≤900∧True
 exact⟨by omega,by omega,by omega,by omega,trivial⟩
theorem c3e {m:PMap} (h1:p7 m=true):A4 m ⟨true,[],[]⟩=true:=by
 simp[A4,U1,D2,a4x,l9,h1]
theorem b1M {m:PMap} {l:List Wlk} {v:Int} (h1:p7 m=true) (h4:z6 m l=true) (h2:1≤v) (h3:v≤3):j6 (a2r m l v)=true:=by
 rw[a2r,if_pos ⟨h1,h4,h2,h3⟩,m7]
 have hv:((List.replicate v.toNat (⟨true,[],[]⟩:Srv)).length:Int)=v:=by simp;omega
 have hm:=s0.1 h1
 have hst : ∀i,i<m.cells.toNat→nth .sto ((List.range m.cells.toNat).map fun(i:Nat)=>M7 m (i:Int) l) i=M7 m (i:Int) l:=fun i hi=>by
  rw[l7 .sto _ i (by simpa using hi)];simp
 have hbase : ∀i:Nat,i<m.cells.toNat→(M7 m (i:Int) l).base.cell=(i:Int):=fun i hi=>by
  simp only[M7]
  rw[Y5,if_pos ⟨h1,by omega,by omega,h4⟩]
 simp only[O2]
 rw[hv]
 refine⟨c5y h1 h2 h3,?_,c4I h1 h4,by simp,by simp,?_,?_,?_,?_⟩
 ·rw[z7,Bool.and_eq_true]
  refine⟨by simp[h1];omega,?_⟩
  rw[l6]
  intro i hi
  have hi:i<m.cells.toNat:=by simpa using hi
  rw[a1K,hst i hi,c2Z h1 (by omega) (by omega) h4,hbase i hi]
  simp
 ·intro i hi
  have hi:i<m.cells.toNat:=by simpa using hi
  rw[hst i hi]
  simp only[M7]
  rw[a0W,if_pos h1]
  have e2:nth .int (List.replicate m.cells.toNat (0:Int)) i=(0:Int):=by rw[l7 .int _ i (by simpa using hi)];simp
  simp only[e2]
  exact Int.le_refl 0
 ·intro s hs
  rw[List.mem_replicate]at hs
  rw[hs.2]
  exact⟨c3e h1,fun h hh=>by cases hh⟩
 ·intro x hx;cases hx
 ·intro n hn;cases hn
theorem tm {a n:Int} (ha:0≤a) (hn:1≤n):0≤a.tmod n∧a.tmod n<n:=by
 rw[Int.tmod_eq_emod_of_nonneg ha]
 exact⟨Int.emod_nonneg _ (by omega),Int.emod_lt_of_pos _ (by omega)⟩
theorem td {a n:Int} (ha:0≤a) (hn:1≤n):0≤a.tdiv n∧a.tdiv n≤a:=by
 rw[Int.tdiv_eq_ediv_of_nonneg ha]
 exact⟨Int.ediv_nonneg ha (by omega),Int.ediv_le_self n ha⟩
theorem xorw {a b:Int} (ha:0≤a) (ha2:a<9223372036854775808) (hb:0≤b) (hb2:b<9223372036854775808):0≤IntKind.i64.wrap (((BitVec.ofInt IntKind.i64.bits a ^^^ BitVec.ofInt IntKind.i64.bits b).toNat:Nat):Int):=by
 have h1 : ∀x:Int,0≤x→x<9223372036854775808→(BitVec.ofInt IntKind.i64.bits x).toNat<2 ^ 63:=fun x h0 h2=>by
  rw[BitVec.toNat_ofInt]
  have:IntKind.i64.bits=64:=rfl
  rw[this]
  omega
 have h2:(BitVec.ofInt IntKind.i64.bits a ^^^ BitVec.ofInt IntKind.i64.bits b).toNat<2 ^ 63:=by
  rw[BitVec.toNat_xor]
  exact Nat.xor_lt_two_pow (h1 a ha ha2) (h1 b hb hb2)
 rw[b8 (by omega) (by omega)]
 omega
theorem d2I {l:List Int} (h:OkA (.list .byte fun _=>l)) : ∀i,i<l.length → @LE.le Int _ 0 (nth .byte l i) ∧ @LE.le Int _ (nth .byte l i) 255:=by
 cases h with
 |list _ _ _ g =>
  intro i hi
  have:=g i 0 _ hi rfl
  cases this with
  |int _ _ h1 h2=>exact⟨h1,h2⟩
theorem c6C {L p b1 b2 n:Int} (hL:1≤L) (hp0:0≤p) (hp:p≤1000000001000) (h1:0≤b1∧b1≤255) (h2:0≤b2∧b2≤255) (hn:1≤n) (x:Int)
  (hx:x=IntKind.i64.wrap (IntKind.i64.wrap (IntKind.i64.wrap (IntKind.i64.wrap (b1 * 131)+IntKind.i64.wrap (b2 * 1117))+IntKind.i64.wrap (p * 29))+IntKind.i64.wrap (IntKind.i64.wrap (p.tdiv L) * 53))) :
  0≤(IntKind.i64.wrap (((BitVec.ofInt IntKind.i64.bits x ^^^ BitVec.ofInt IntKind.i64.bits (IntKind.i64.wrap (x.tdiv 64))).toNat:Nat):Int)).tmod n∧(IntKind.i64.wrap (((BitVec.ofInt IntKind.i64.bits x ^^^ BitVec.ofInt IntKind.i64.bits (IntKind.i64.wrap (x.tdiv 64))).toNat:Nat):Int)).tmod n<n:=by
 have hd:=td hp0 hL
 generalize hdd:p.tdiv L=d at *
 rw[b8 (n:=b1 * 131) (by omega) (by omega),b8 (n:=b2 * 1117) (by omega) (by omega),b8 (n:=b1 * 131+b2 * 1117) (by omega) (by omega),b8 (n:=p * 29) (by omega) (by omega),b8 (n:=d) (by omega) (by omega),b8 (n:=d * 53) (by omega) (by omega),
  b8 (n:=b1 * 131+b2 * 1117+p * 29) (by omega) (by omega),b8 (n:=b1 * 131+b2 * 1117+p * 29+d * 53) (by omega) (by omega)]at hx
 have hx0:0≤x:=by omega
 have hx1:x<9223372036854775808:=by omega
 have hd2:=td hx0 (show(1:Int)≤64 by omega)
 rw[b8 (n:=x.tdiv 64) (by omega) (by omega)]
 exact tm (xorw hx0 hx1 hd2.1 (by omega)) hn
def tkP (m:PMap) (t:Arb) (h:Hld) (cell side:Int) (k:Nat):List Msg:=((nth .pcls h.state.outs side.toNat).take k).map fun p=>⟨5,j9 t (b7 m cell side),b7 m cell side,1-side,0,u6,p,G5⟩
def tkG (m:PMap) (t:Arb) (h:Hld) (cell side:Int) (k:Nat):List Msg:=((n6 m h side).take k).map fun g=>⟨7,j9 t (b7 m cell side),b7 m cell side,1-side,0,u6,A8,g⟩
def tkTo (m:PMap) (t:Arb) (h:Hld) (cell:Int):Nat→List Msg
 | 0 => []
 |n+1=>tkTo m t h cell n++B9 m t h cell n
theorem c2R (m:PMap) (t:Arb) (h:Hld) (cell:Int):tkTo m t h cell 0 = []:=rfl
theorem c2S {m:PMap} {t:Arb} {h:Hld} {cell:Int} {n:Nat} (hs:b7 m cell n = -1∨j9 t (b7 m cell n) = -1):tkTo m t h cell (n+1)=tkTo m t h cell n:=by
 show tkTo m t h cell n++B9 m t h cell n=_
 have:B9 m t h cell n = []:=by
  unfold B9
  simp only
  rw[if_pos hs]
 rw[this,List.append_nil]
theorem c5J {m:PMap} {t:Arb} {h:Hld} {cell:Int} {n:Nat} (h1 : ¬b7 m cell n = -1) (h2 : ¬j9 t (b7 m cell n) = -1):tkTo m t h cell (n+1)=tkTo m t h cell n++tkP m t h cell n 4++tkG m t h cell n 4:=by
 show tkTo m t h cell n++B9 m t h cell n=_
 have:B9 m t h cell n=tkP m t h cell n 4++tkG m t h cell n 4:=by
  unfold B9 tkP tkG
  simp only
  rw[if_neg (fun hh=>hh.elim h1 h2)]
 rw[this,List.append_assoc]
theorem b5r {m:PMap} {s:Srv} {t:Arb} {cell:Int} (hh:u5 s cell=true):tkTo m t (e9 s cell) cell 2=D1 m s t cell:=by
 unfold D1
 rw[if_pos hh]
 rfl
theorem c5K (m:PMap) (t:Arb) (h:Hld) (cell side:Int):tkP m t h cell side 0 = []:=by simp[tkP]
theorem c5L (m:PMap) (t:Arb) (h:Hld) (cell side:Int):tkG m t h cell side 0 = []:=by simp[tkG]
theorem b5s {m:PMap} {t:Arb} {h:Hld} {cell side:Int} {k:Nat} (hk:k<(nth .pcls h.state.outs side.toNat).length):tkP m t h cell side (k+1)=tkP m t h cell side k ++ [⟨5,j9 t (b7 m cell side),b7 m cell side,1-side,0,u6,nth .pcl (nth .pcls h.state.outs side.toNat) k,G5⟩]:=by
 unfold tkP
 exact Y6 (t := .pcl) _ _ hk
theorem b5t {m:PMap} {t:Arb} {h:Hld} {cell side:Int} {k:Nat} (hk:k<(n6 m h side).length):tkG m t h cell side (k+1)=tkG m t h cell side k ++ [⟨7,j9 t (b7 m cell side),b7 m cell side,1-side,0,u6,A8,nth .gst (n6 m h side) k⟩]:=by
 unfold tkG
 exact Y6 (t := .gst) _ _ hk
theorem c9z {m:PMap} {t:Arb} {h:Hld} {cell side:Int} {k:Nat} (h4:k≤4) (he:min 4 (nth .pcls h.state.outs side.toNat).length≤k):tkP m t h cell side k=tkP m t h cell side 4:=by
 unfold tkP
 by_cases h5:k=4
 ·rw[h5]
 ·rw[List.take_of_length_le (by omega),List.take_of_length_le (by omega)]
theorem c9C {m:PMap} {t:Arb} {h:Hld} {cell side:Int} {k:Nat} (h4:k≤4) (he:min 4 (n6 m h side).length≤k):tkG m t h cell side k=tkG m t h cell side 4:=by
 unfold tkG
 by_cases h5:k=4
 ·rw[h5]
 ·rw[List.take_of_length_le (by omega),List.take_of_length_le (by omega)]
theorem c9y (m:PMap) (t:Arb) (h:Hld) (cell side:Int) (k:Nat):(tkP m t h cell side k).length≤k:=by simp[tkP];omega
theorem c9B (m:PMap) (t:Arb) (h:Hld) (cell side:Int) (k:Nat):(tkG m t h cell side k).length≤k:=by simp[tkG];omega
theorem a8W (m:PMap) (t:Arb) (h:Hld) (cell:Int) : ∀n,(tkTo m t h cell n).length≤8 * n
 | 0=>by simp[tkTo]
 |n+1=>by
  have ih:=a8W m t h cell n
  show(tkTo m t h cell n++B9 m t h cell n).length≤_
  have:(B9 m t h cell n).length≤8:=by
   unfold B9
   simp only
   split
   ·simp
   ·simp
    omega
  rw[List.length_append]
  omega
structure Said (m:PMap) (s:Srv) (t:Arb) (v cell:Int) (z:Msg):Prop where
 ok:u9 m v z=true
 side:z.side=0∨z.side=1
 at1:z.cell=b7 m cell (1-z.side)
 lo:0≤z.cell
 hi:z.cell<(t.servers.length:Int)
 dest:z.dest=nth .int t.servers z.cell.toNat
 kind:z.kind=5∨z.kind=7
 num:z.kind=5→0≤z.pcl.n-(nth .int (e9 s cell).state.next (1-z.side).toNat-(nth .pcls (e9 s cell).state.outs (1-z.side).toNat).length)∧z.pcl.n-(nth .int (e9 s cell).state.next (1-z.side).toNat-(nth .pcls (e9 s cell).state.outs (1-z.side).toNat).length)<(nth .pcls (e9 s cell).state.outs (1-z.side).toNat).length
 pcl:z.kind=5→nth .pcl (nth .pcls (e9 s cell).state.outs (1-z.side).toNat) (z.pcl.n-(nth .int (e9 s cell).state.next (1-z.side).toNat-(nth .pcls (e9 s cell).state.outs (1-z.side).toNat).length)).toNat=z.pcl
 gst:z.kind=7→z.gst.count=(e9 s cell).count∧z.gst.src=cell
 bnd:0≤nth .int (e9 s cell).state.next (1-z.side).toNat∧nth .int (e9 s cell).state.next (1-z.side).toNat≤5000∧((nth .pcls (e9 s cell).state.outs (1-z.side).toNat).length:Int)≤nth .int (e9 s cell).state.next (1-z.side).toNat∧(e9 s cell).state.outs.length=2∧(e9 s cell).state.next.length=2
theorem c5N {m:PMap} {s:Srv} {t:Arb} {cell:Int}:(D1 m s t cell).length≤16:=by
 unfold D1
 split
 ·rename_i hh
  have:=a8W m t (e9 s cell) cell 2
  rw[b5r hh]at this
  unfold D1 at this
  rw[if_pos hh]at this
  omega
 ·simp
end Go.Mo
