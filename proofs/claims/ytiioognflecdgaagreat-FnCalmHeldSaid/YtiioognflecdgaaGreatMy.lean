/- What some ends alone need. -/
import Derived.Test.YtiioognflecdgaaGreatM1
import Derived.Test.YtiioognflecdgaaGreatM2
import Derived.Test.YtiioognflecdgaaGreatM3
import Derived.Test.YtiioognflecdgaaGreatM4
import Derived.Test.YtiioognflecdgaaGreatM5
import Derived.Test.YtiioognflecdgaaGreatM6
import Derived.Test.YtiioognflecdgaaGreatM7
set_option linter.unusedVariables false
set_option linter.unusedSimpArgs false
namespace Go.Sx
end Go.Sx
namespace Go.Mo
open Go.Sx
theorem b2t (l:List Hld) (h:Hld):h∈putH l h:=by
 induction l with
 |nil=>simp[putH]
 |cons y l ih =>
  simp only[putH]
  split
  ·simp
  ·split
   ·simp
   ·exact List.mem_cons_of_mem _ ih
theorem a9c {s:Srv} {c:Int}:u5 s c=true ↔ ∃h∈s.holds,h.state.cell=c:=by
 simp only[u5,decide_eq_true_eq]
 rcases I9 (O9 c) s.holds with ⟨h1,h2⟩|⟨k,hk,h1,h2,h3⟩
 ·have:j5 s.holds c = -1:=h1
  rw[this]
  constructor
  ·intro h;omega
  ·rintro⟨h,hm,hc⟩
   have:=h2 h hm
   simp[O9,hc]at this
 ·have:j5 s.holds c=k:=h1
  rw[this]
  refine⟨fun _=>⟨_,List.getElem_mem hk,by simpa [O9]using h2⟩,fun _=>by omega⟩
end Go.Mo
namespace Go.Sx
end Go.Sx
namespace Go.Mo
open Go.Sx
end Go.Mo
namespace Go.Sx
end Go.Sx
namespace Go.Mo
open Go.Sx
theorem d0C {m:PMap} {l:List Wlk} {i:Nat} (hi:i<m.cells.toNat):nth .sto ((List.range m.cells.toNat).map fun(i:Nat)=>M7 m (i:Int) l) i=M7 m (i:Int) l:=by
 rw[l7 .sto _ i (by simpa using hi)];simp
theorem d1p {m:PMap} {l:List Wlk} {v:Int} (h1:p7 m=true) (h4:z6 m l=true) (h2:1≤v) (h3:v≤3) (hf : ∀x∈l,x.seq=0∧x.last=0) (hl:l.length≤5):Beg l (a2r m l v):=by
 have hok:=b1M h1 h4 h2 h3
 have he:a2r m l v=O2 m l v:=by rw[a2r,if_pos ⟨h1,h4,h2,h3⟩]
 rw[he]at hok ⊢
 have hsrv : ∀i,i<(O2 m l v).servers.length→nth .srv (O2 m l v).servers i=⟨true,[],[]⟩:=fun i hi=>by
  rw[l7 .srv _ i hi]
  simp[O2]
 refine⟨hok,h4,hf,hl,rfl,rfl,by simp[O2,a7D,h1,h4],fun c h0 hc => ?_,fun i hi=>by rw[hsrv i hi],⟨fun i hi h hm => ?_,fun i j c n t1 t2 => ?_⟩⟩
 ·have hi:c.toNat<m.cells.toNat:=by have:c<m.cells:=hc;omega
  have:stAt (O2 m l v).stores c=M7 m ((c.toNat:Nat):Int) l:=d0C hi
  rw[this,show((c.toNat:Nat):Int)=c by omega]
  exact⟨rfl,rfl⟩
 ·rw[hsrv i hi]at hm
  cases hm
 ·cases t1 with
  |hold hi h hm hc hn=>rw[hsrv i hi]at hm;cases hm
  |word x hx hk hd hc hn=>cases hx
  |table h0 hc hs hn =>
   exfalso
   have hc':c.toNat<m.cells.toNat:=by simpa [O2,a0W,h1]using hc
   have:nth .int (O2 m l v).table.servers c.toNat=(-1:Int):=by
    show nth .int (a0W m).servers c.toNat=(-1:Int)
    rw[a0W,if_pos h1,l7 .int _ _ (by simpa using hc')]
    simp
   rw[this]at hs
   omega
theorem b9Q {m:PMap} {s:Srv} {st:List Sto} {t:Arb} {x:Msg} (hk:x.kind=1):(n5 m s st t x).out = []∧(n5 m s st t x).srv.n6=s.n6 ∧
  ((n5 m s st t x).stores=st∨(n5 m s st t x).stores=st.set x.cell.toNat ⟨x.n,(nth .sto st x.cell.toNat).base,(nth .sto st x.cell.toNat).recs⟩):=by
 unfold n5
 split
 ·exact⟨rfl,rfl,.inl rfl⟩
 try rw[if_pos hk]
 unfold H5
 split
 ·exact⟨rfl,rfl,.inl rfl⟩
 split
 ·exact⟨rfl,rfl,.inl rfl⟩
 ·exact⟨rfl,rfl,.inr rfl⟩
theorem c2d {w:Wld} (e:Evt) (hok:j6 w=true) (hf:Fence w):Fence (m0 w e):=by
 have:m0 w e=m9 w e:=by simp[m0,hok]
 rw[this]
 exact a5i hok hf (a2v w e)
theorem c9d {l:List Wlk} {w:Wld} (h:Beg l w) (c d:Int):Beg l (m0 (m0 w ⟨1,c,0,d,0⟩) ⟨4,0,0,0,0⟩):=by
 have ok1:=a6W ⟨1,c,0,d,0⟩ h.ok
 have ok2:=a6W ⟨4,0,0,0,0⟩ ok1
 have f1:=c2d ⟨1,c,0,d,0⟩ h.ok h.fence
 have f2:=c2d ⟨4,0,0,0,0⟩ ok1 f1
 have e1:m0 w ⟨1,c,0,d,0⟩=m9 w ⟨1,c,0,d,0⟩:=by simp[m0,h.ok]
 by_cases hg:(n4 w.table w.servers.length c d).ok=true
 ·have e2:m0 w ⟨1,c,0,d,0⟩=⟨w.map,w.servers,w.stores,(n4 w.table w.servers.length c d).t,w.rows,[P4 (n4 w.table w.servers.length c d).t c d],w.notes⟩:=by
   rw[e1]
   unfold m9
   rw[if_pos rfl]
   simp only[hg,if_true,u7,h.net]
   rfl
  have hgr:=a3I (m7.1 h.ok).1 hg
  generalize hT:(n4 w.table w.servers.length c d).t=T at *
  generalize hx:P4 T c d=x at *
  have xk:x.kind=1:=by rw[←hx];rfl
  have xd:x.dest=d:=by rw[←hx];rfl
  have xc:x.cell=c:=by rw[←hx];rfl
  have hd : ¬x.dest = -1:=by rw[xd];omega
  rw[e2]at ok1 f1 ok2 f2 ⊢
  generalize hw1:(⟨w.map,w.servers,w.stores,T,w.rows,[x],w.notes⟩:Wld)=w1 at *
  have n1:w1.net = [x]:=by rw[←hw1]
  have e3:m0 w1 ⟨4,0,0,0,0⟩=a0G (wCut w1 0) x:=by
   have hn:nth .msg w1.net 0=x:=by rw[n1];rfl
   have hp:(0:Int)≤0∧(0:Int)<(w1.net.length:Int):=by rw[n1];exact⟨Int.le_refl 0,by simp⟩
   simp only[m0,ok1,if_true]
   unfold m9
   rw[if_neg (by decide),if_neg (by decide),if_neg (by decide),if_pos (by decide),if_pos hp,if_pos rfl]
   show J7 w1 0=_
   unfold J7
   rw[hn]
   simp only
   rw[if_neg hd]
  rw[e3]at ok2 f2 ⊢
  have hh := @b9Q w1.map (nth .srv w1.servers x.dest.toNat) w1.stores w1.table x xk
  have e4:a0G (wCut w1 0) x=⟨w1.map,w1.servers.set x.dest.toNat (n5 w1.map (nth .srv w1.servers x.dest.toNat) w1.stores w1.table x).srv,(n5 w1.map (nth .srv w1.servers x.dest.toNat) w1.stores w1.table x).stores,w1.table,w1.rows,[],w1.notes⟩:=by
   unfold a0G u7 wCut
   simp only[hh.1,n1]
   rfl
  rw[e4]at ok2 f2 ⊢
  have m1:w1.map=w.map:=by rw[←hw1]
  have s1:w1.servers=w.servers:=by rw[←hw1]
  have st1:w1.stores=w.stores:=by rw[←hw1]
  refine⟨ok2,by rw[m1];exact h.all,h.fresh,h.few,rfl,by rw[←hw1];exact h.notes,by rw[←hw1];exact h.rows,fun k h0 hk => ?_,fun i hi => ?_,f2⟩
  ·have hr:=h.recs k h0 (by rw[←m1];exact hk)
   rcases hh.2.2 with e|e
   ·show(stAt (n5 w1.map (nth .srv w1.servers x.dest.toNat) w1.stores w1.table x).stores k).recs = []∧_
    rw[e,st1,m1]
    exact hr
   ·have hlen:=(C4.1 (m7.1 h.ok).2.1).2.1
    have hcl:x.cell.toNat<w1.stores.length:=by
     have ha:=B7 (m7.1 h.ok).1
     have:=hgr.2.1
     rw[st1,xc]
     omega
    show(stAt (n5 w1.map (nth .srv w1.servers x.dest.toNat) w1.stores w1.table x).stores k).recs = []∧(stAt (n5 w1.map (nth .srv w1.servers x.dest.toNat) w1.stores w1.table x).stores k).base=_
    rw[e,K5 hcl]
    by_cases hkk:k.toNat=x.cell.toNat
    ·rw[if_pos hkk]
     have:nth .sto w1.stores x.cell.toNat=stAt w.stores k:=by unfold stAt;rw[st1,hkk]
     simp only
     rw[this,m1]
     exact hr
    ·rw[if_neg hkk,st1,m1]
     exact hr
  ·have hi':i<w.servers.length:=by rw[s1]at hi;simpa using hi
   have hdn:x.dest.toNat<w1.servers.length:=by rw[s1,xd];omega
   show(nth .srv (w1.servers.set x.dest.toNat _) i).n6 = []
   rw[Y8 hdn]
   split
   ·rw[hh.2.1,s1]
    exact h.n6 _ (by rw[←s1];exact hdn)
   ·rw[s1];exact h.n6 i hi'
 ·have e2:m0 w ⟨1,c,0,d,0⟩=w:=by
   rw[e1]
   unfold m9
   rw[if_pos rfl]
   simp only
   rw[if_neg hg]
  rw[e2]at ok2 f2 ⊢
  have e3:m0 w ⟨4,0,0,0,0⟩=w:=by
   have hp : ¬((0:Int)≤0∧(0:Int)<(w.net.length:Int)):=by rw[h.net];decide
   simp only[m0,h.ok,if_true]
   unfold m9
   rw[if_neg (by decide),if_neg (by decide),if_neg (by decide),if_pos (by decide),if_neg hp]
  rw[e3]
  exact h
section
variable {m:PMap} {st st':List Sto} {d:Int} {r:Rec}
end
end Go.Mo
namespace Go.Mo
open Go.Sx
def BegE (w:Wld):Prop := ∃l,Beg l w
theorem c5v {w:Wld} (h:BegE w) (c d:Int):BegE (m0 (m0 w ⟨1,c,0,d,0⟩) ⟨4,0,0,0,0⟩):=let ⟨l,h⟩:=h;⟨l,c9d h c d⟩
theorem b5e {w:Wld} (h:BegE w):j6 w=true:=let ⟨_,h⟩:=h;h.ok
theorem b4f (w:Wld) (l:List Evt):J2 w l 0=w:=rfl
theorem b2s {w0 w:Wld} (h:Ran w0 w) : ∀l,Ran w0 (J3 w l)
 |[]=>h
 |e::l=>b2s (.step e h) l
theorem c9f {w:Wld} (h:BegE w):From w:=let ⟨l,h⟩:=h;⟨l,w,h,.refl⟩
theorem b9Y {w:Wld} (h:From w) (l:List Evt):From (J3 w l):=let ⟨k,w0,h0,hr⟩:=h;⟨k,w0,h0,b2s hr l⟩
end Go.Mo
namespace Go.Sx
end Go.Sx
namespace Go.Mo
open Go.Sx
section
variable {m:PMap} {st:List Sto} {i s j k:Nat}
end
section
variable {m:PMap} {st:List Sto} {i s j k:Nat}
end
end Go.Mo
namespace Go.Sx
end Go.Sx
namespace Go.Mo
open Go.Sx
section
variable {l:List OW} {i j:Nat}
end
end Go.Mo
namespace Go.Mo
open Go.Sx
section
variable {l:List OW} {w:OW} {k:Nat}
end
end Go.Mo
