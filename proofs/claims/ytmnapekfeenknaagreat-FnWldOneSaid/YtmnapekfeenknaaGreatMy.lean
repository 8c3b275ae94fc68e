/- What some ends alone need. -/
import Derived.Test.YtmnapekfeenknaaGreatM1
import Derived.Test.YtmnapekfeenknaaGreatM2
import Derived.Test.YtmnapekfeenknaaGreatM3
import Derived.Test.YtmnapekfeenknaaGreatM4
import Derived.Test.YtmnapekfeenknaaGreatM5
import Derived.Test.YtmnapekfeenknaaGreatM6
import Derived.Test.YtmnapekfeenknaaGreatM7
import Derived.Test.YtmnapekfeenknaaGreatM8
set_option linter.unusedVariables false
set_option linter.unusedSimpArgs false
namespace Go.Mo
open Go.Sx
def a9J (l:List Gst) (g:Gst) (i:Nat):Bool:=H4 (nth .gst l i) g
theorem a9j {α : Type} (p : α → Bool) : ∀(l:List α) (k:Nat),k≤l.length→(∀i (h:i<l.length),i<k→p l[i]=true)→(∀h:k<l.length,p l[k]=false)→(l.takeWhile p).length=k
 |[],k,hk,_,_=>by simp at hk;simp[hk]
 |x::l,0,_,_,h=>by
   have:=h (by simp)
   simp at this
   simp[List.takeWhile_cons,this]
 |x::l,k+1,hk,h1,h2=>by
   have hx:=h1 0 (by simp) (by omega)
   simp at hx
   rw[List.takeWhile_cons,if_pos hx,List.length_cons,a9j p l k (by simpa using hk) (fun i hi hik=>h1 (i+1) (Nat.succ_lt_succ hi) (by omega)) (fun h=>h2 (Nat.succ_lt_succ h))]
theorem d6o {l:List Gst} {g:Gst} {k:Nat} (hk:k≤l.length) (h:m9 k (a9J l g)=true) (h2:k<l.length→a9J l g k=false):V7 l g=k:=by
 refine a9j _ _ _ hk (fun i hi hik => ?_) (fun hl => ?_)
 ·have:=(l8 _ _).1 h i hik
  rwa [a9J,k9 .gst l i hi]at this
 ·have:=h2 hl
  rwa [a9J,k9 .gst l k hl]at this
def a5G (l:List Hld) (cell:Int) (i:Nat):Bool:=decide ((nth .hld l i).state.cell<cell)
theorem d6h {l:List Hld} {cell:Int} {k:Nat} (hk:k≤l.length) (h:m9 k (a5G l cell)=true) (h2:k<l.length → ¬(nth .hld l k).state.cell<cell):a5t l cell=k:=by
 refine a9j _ _ _ hk (fun i hi hik => ?_) (fun hl => ?_)
 ·have:=(l8 _ _).1 h i hik
  rwa [a5G,k9 .hld l i hi]at this
 ·have:=h2 hl
  rw[k9 .hld l k hl]at this
  simpa using this
end Go.Mo
namespace Go.Sx
end Go.Sx
namespace Go.Mo
open Go.Sx
theorem d5U {m:PMap} {v:Int} {x:Msg} (hx:y5 m v x=true) (hk:x.kind=2∨x.kind=3∨x.kind=4):y9 x.ord=true:=by
 simp only[y5,J2,decide_eq_true_eq]at hx
 grind
end Go.Mo
namespace Go.Sx
end Go.Sx
namespace Go.Mo
open Go.Sx
end Go.Mo
namespace Go.Sx
end Go.Sx
namespace Go.Mo
open Go.Sx
theorem d1c {m:PMap} {l:List Row} (h:C4 m l=true) : ∀j i,i<j→j<l.length→(nth .row l i).who<(nth .row l j).who:=by
 rw[C4,Bool.and_eq_true]at h
 have ha:=(l8 _ _).1 h.2
 intro j
 induction j with
 |zero=>intro i hi;omega
 |succ j ih =>
  intro i hi hj
  have:=ha (j+1) hj
  simp only[N1,Bool.and_eq_true,Bool.or_eq_true,decide_eq_true_eq,Nat.add_sub_cancel]at this
  have h2:(nth .row l j).who<(nth .row l (j+1)).who:=by omega
  by_cases hij:i=j
  ·subst hij;exact h2
  ·have:=ih i (by omega) (by omega)
   omega
theorem b9G {m:PMap} {l:List Row} {who:Int} {k:Nat} (h:C4 m l=true) (hk:k<l.length) (hw:(nth .row l k).who=who):m7 l who=k:=by
 refine c2v ((l8 _ _).2 fun i hi => ?_) hk hw
 have:=d1c h k i hi hk
 simp only[nwho,a8F,Bool.not_eq_true',decide_eq_false_iff_not]
 omega
def a6g (m:PMap) (s:Srv) (st:List Sto) (t:Arb) (v:Int) (x:Msg):Prop:=C0 m s=true∧B1 m st=true∧D0 m t v=true∧y5 m v x=true
theorem b0g {m:PMap} {s:Srv} {st:List Sto} {cell:Int} {r:Rec} (hs:HSort s.holds) :
  ((C7 m s st cell r).n=1∧(x9 m (j6 s cell) (nth .sto st cell.toNat) r).n=1∧C7 m s st cell r=⟨⟨s.up,putH s.holds ⟨(j6 s cell).age,(j6 s cell).count+1,(m0 m (j6 s cell).state r).c⟩,s.o8⟩,st.set cell.toNat ⟨(nth .sto st cell.toNat).age,(nth .sto st cell.toNat).base,(nth .sto st cell.toNat).recs ++ [r]⟩,1,(m0 m (j6 s cell).state r).code⟩) ∨
  ((C7 m s st cell r).n=2∧(x9 m (j6 s cell) (nth .sto st cell.toNat) r).n=2∧C7 m s st cell r=⟨⟨s.up,G9 s.holds cell,s.o8⟩,st,2,0⟩) ∨
  ((C7 m s st cell r).n≠1∧(C7 m s st cell r).n≠2∧(C7 m s st cell r).srv=s∧(C7 m s st cell r).stores=st):=by
 unfold C7
 simp only
 by_cases h1:(x9 m (j6 s cell) (nth .sto st cell.toNat) r).n=1
 ·obtain⟨g1,g2,g3,g4,g5,g6,g7,g8,g9,g10,g11⟩:=b1s h1
  rw[if_pos h1]
  refine .inl ⟨rfl,h1,?_⟩
  rw[g9,g10,g11,a4u hs]
 ·rw[if_neg h1]
  by_cases h2:(x9 m (j6 s cell) (nth .sto st cell.toNat) r).n=2
  ·rw[if_pos h2]
   exact .inr (.inl ⟨rfl,h2,rfl⟩)
  ·rw[if_neg h2]
   exact .inr (.inr ⟨h1,h2,rfl,rfl⟩)
theorem c3w {m:PMap} {s:Srv} {st:List Sto} {t:Arb} {v:Int} {x:Msg} (hv:a6g m s st t v x) (hl : ¬(r8 m s st t x).out.length=0) (hk:(nth .msg (r8 m s st t x).out 0).kind=3) :
  s.up=true ∧ ¬x.dest = -1∧x.kind=2∧z7 s x.cell=true∧u4 (j6 s x.cell).state.wlks x.ord.who=true ∧
  (((F5 (j6 s x.cell).state.wlks x.ord.who).seq=x.ord.seq∧r8 m s st t x=⟨s,st,[a2G x (F5 (j6 s x.cell).state.wlks x.ord.who).last]⟩) ∨
   ((F5 (j6 s x.cell).state.wlks x.ord.who).seq<x.ord.seq∧(x9 m (j6 s x.cell) (o6 st x) (p9 x)).n=1∧r8 m s st t x=⟨⟨s.up,putH s.holds ⟨(j6 s x.cell).age,(j6 s x.cell).count+1,(m0 m (j6 s x.cell).state (p9 x)).c⟩,s.o8⟩,
    st.set x.cell.toNat ⟨(o6 st x).age,(o6 st x).base,(o6 st x).recs ++ [p9 x]⟩,[a2G x (m0 m (j6 s x.cell).state (p9 x)).code]⟩)):=by
 obtain⟨_,_,hall,hsort⟩:=E5.1 hv.1
 have hkk:=a3J hv.2.2.2
 by_cases hu0:s.up=false∨x.dest = -1
 ·unfold r8 at hl
  rw[if_pos hu0]at hl
  exact absurd rfl hl
 have hu:s.up=true:=by
  cases h:s.up with
  |true=>rfl
  |false=>exact absurd (.inl h) hu0
 have hd : ¬x.dest = -1:=fun h=>hu0 (.inr h)
 have e0:r8 m s st t x=if x.kind=1 then N4 m s st x
  else if x.kind=7 then⟨⟨s.up,s.holds,a3d s.o8 x.gst⟩,st,[]⟩
  else if z7 s x.cell=false then⟨s,st,[]⟩
  else if x.kind=2 then a0f m s st x
  else if x.kind=5 then a0e m s st t x
  else⟨(C7 m s st x.cell ⟨3,x6,x.side,A2,x.n⟩).srv,(C7 m s st x.cell ⟨3,x6,x.side,A2,x.n⟩).stores,[]⟩:=by
  unfold r8
  rw[if_neg hu0]
 rw[e0]at hl hk ⊢
 by_cases k1:x.kind=1
 ·rw[if_pos k1]at hl
  exfalso
  unfold N4 at hl
  split at hl
  ·exact hl rfl
  ·split at hl<;>exact hl rfl
 rw[if_neg k1]at hl hk ⊢
 by_cases k7:x.kind=7
 ·rw[if_pos k7]at hl
  exact absurd rfl hl
 rw[if_neg k7]at hl hk ⊢
 by_cases kh:z7 s x.cell=false
 ·rw[if_pos kh]at hl
  exact absurd rfl hl
 rw[if_neg kh]at hl hk ⊢
 have hh:z7 s x.cell=true:=by simpa using kh
 by_cases k2:x.kind=2
 ·rw[if_pos k2]at hl hk ⊢
  have er:p9 x=⟨1,x.ord,0,A2,0⟩:=by rw[p9,if_pos k2]
  unfold a0f at hl hk ⊢
  simp only at hl hk ⊢
  by_cases hw:u4 (j6 s x.cell).state.wlks x.ord.who=false
  ·rw[if_pos hw]at hk
   exact absurd (show(4:Int)=3 from hk) (by decide)
  rw[if_neg hw]at hl hk ⊢
  refine⟨hu,hd,k2,hh,by simpa using hw,?_⟩
  by_cases q1:x.ord.seq<(F5 (j6 s x.cell).state.wlks x.ord.who).seq
  ·rw[if_pos q1]at hl
   exact absurd rfl hl
  rw[if_neg q1]at hl hk ⊢
  by_cases q2:x.ord.seq=(F5 (j6 s x.cell).state.wlks x.ord.who).seq
  ·rw[if_pos q2]at hl hk ⊢
   simp only at hl hk
   by_cases q3:(F5 (j6 s x.cell).state.wlks x.ord.who).last=0
   ·rw[if_pos q3]at hl
    exact absurd rfl hl
   ·rw[if_neg q3]
    exact .inl ⟨q2.symm,rfl⟩
  ·rw[if_neg q2]at hl hk ⊢
   rw[←er]at hl hk ⊢
   right
   refine⟨by omega,?_⟩
   rcases b0g (m:=m) (s:=s) (st:=st) (cell:=x.cell) (r:=p9 x) hsort with ⟨w1,w2,w3⟩|⟨w1,_,w3⟩|⟨w1,w2,_⟩
   ·refine⟨w2,?_⟩
    rw[w3]
    simp[o6]
   ·rw[w1]at hl
    exact absurd rfl hl
   ·simp only[if_neg w1]at hl
    exact absurd rfl hl
 ·exfalso
  rw[if_neg k2]at hl hk
  by_cases k5:x.kind=5
  ·rw[if_pos k5]at hl hk
   unfold a0e at hl hk
   simp only at hl hk
   have hgot : ∀n,¬(W7 m t x n).length=0 → ¬(nth .msg (W7 m t x n) 0).kind=3:=by
    intro n h1 h2
    unfold W7 at h1 h2
    split at h1
    ·exact h1 rfl
    ·rename_i hq
     rw[if_neg hq]at h2
     exact absurd (show(6:Int)=3 from h2) (by decide)
   split at hl
   ·rename_i hq
    rw[if_pos hq]at hk
    exact hgot _ hl hk
   ·rename_i hq
    rw[if_neg hq]at hk
    simp only at hl hk
    split at hl
    ·rename_i hq2
     rw[if_pos hq2]at hk
     exact hgot _ hl hk
    ·exact hl rfl
  ·rw[if_neg k5]at hl
   exact hl rfl
theorem a3Z (w:Wld) (e:Evt):StepC w (y8 w e):=by
 unfold y8
 by_cases k1:e.kind=1
 ·rw[if_pos k1]
  simp only
  split
  ·rename_i hg
   exact .grant e.pos e.dest hg
  ·exact .same
 rw[if_neg k1]
 by_cases k2:e.kind=2
 ·rw[if_pos k2]
  exact .ask _ _ _ _
 rw[if_neg k2]
 by_cases k3:e.kind=3
 ·rw[if_pos k3]
  split
  ·rename_i hs
   exact .say _ hs
  ·exact .same
 rw[if_neg k3]
 split
 ·split
  ·rename_i hp
   have hi:e.pos.toNat<w.net.length:=by omega
   split
   ·unfold a0a
    simp only
    split
    ·rename_i hd
     exact .gate _ hi hd
    ·rename_i hd
     exact .hear _ hi hd
   ·split
    ·exact .lose _ hi
    ·exact .twice _ hi
  ·exact .same
 ·split
  ·split
   ·rename_i hp
    have hi:e.pos.toNat<w.servers.length:=by omega
    split
    ·exact .tick _ hi _
    ·split
     ·exact .fall _ hi
     ·split
      ·rename_i hu
       exact .rise _ hi hu
      ·exact .same
   ·exact .same
  ·exact .same
theorem H3 {w:Wld} {l:List Msg} {x:Msg} (h:x∈(x8 w l).net):x∈w.net∨x∈l:=by
 simp only[x8,List.mem_append]at h
 exact h.imp id List.mem_of_mem_take
theorem a5E {w:Wld} {i:Nat} {x:Msg} (h:x∈(wCut w i).net):x∈w.net:=List.mem_of_mem_eraseIdx h
theorem a7I {l:List Row} {t:Arb} {who:Int} (hs:(Y9 l t who).ok=true):(Y9 l t who).x.kind=2:=by
 unfold Y9 at hs ⊢
 split at hs
 ·rename_i hc
  rw[if_pos hc]
 ·cases hs
theorem a9h {m:PMap} {s:Srv} {t:Arb} {cell:Int} {z:Msg} (h:z∈E7 m s t cell):z.kind=5∨z.kind=7:=by
 have side : ∀sd,z∈D1 m t (j6 s cell) cell sd→z.kind=5∨z.kind=7:=fun sd hz=>by
  unfold D1 at hz
  simp only at hz
  split at hz
  ·cases hz
  ·rcases List.mem_append.1 hz with hz|hz
   ·obtain⟨_,_,rfl⟩:=List.mem_map.1 hz
    exact .inl rfl
   ·obtain⟨_,_,rfl⟩:=List.mem_map.1 hz
    exact .inr rfl
 unfold E7 at h
 split at h
 ·rcases List.mem_append.1 h with h|h
  ·exact side _ h
  ·exact side _ h
 ·cases h
theorem R3 {w w':Wld} (hf:Fence w) (hm:w'.map=w.map) (hs:w'.stores=w.stores) (ht:w'.table=w.table)
  (hh : ∀i,i<w'.servers.length → ∀h∈(nth .srv w'.servers i).holds,i<w.servers.length∧h∈(nth .srv w.servers i).holds)
  (hn : ∀x∈w'.net,x.kind=1→x∈w.net):Fence w':=by
 have tok : ∀i c n,Tok w' i c n→Tok w i c n:=fun i c n h=>by
  cases h with
  |hold hi h hm hc hn=>exact .hold (hh i hi h hm).1 h (hh i hi h hm).2 hc hn
  |word x hx hk hd hc hn'=>exact .word x (hn x hx hk) hk hd hc hn'
  |table h0 hc hs hn=>rw[ht]at hc hs hn;exact .table h0 hc hs hn
 refine⟨fun i hi h hm' => ?_,fun i j c n h1 h2=>hf.one i j c n (tok _ _ _ h1) (tok _ _ _ h2)⟩
 rw[hm,hs]
 exact hf.hold i (hh i hi h hm').1 h (hh i hi h hm').2
theorem d0l {w:Wld} (hok:m8 w=true) {i:Nat} {c n:Int} (h:Tok w i c n):n≤nth .int w.table.ages c.toNat:=by
 obtain⟨h1,h2,h3,h4,h5,h6,h7,h8,h9⟩:=q9.1 hok
 cases h with
 |hold hi h hm hc hn=>subst hc hn;exact(h7 _ (s0 .srv hi)).2 h hm
 |word x hx hk hd hc hn=>subst hc hn;exact(h8 x hx).2 hk
 |table h0 hc hs hn=>exact Int.le_of_eq hn.symm
theorem c1l {w:Wld} (hok:m8 w=true) (hf:Fence w) {cell server:Int} (hg:(s6 w.table w.servers.length cell server).ok=true) :
  Fence (x8 ⟨w.map,w.servers,w.stores,(s6 w.table w.servers.length cell server).t,w.rows,w.net,w.notes⟩ [a3O (s6 w.table w.servers.length cell server).t cell server]):=by
 obtain⟨h1,_⟩:=q9.1 hok
 obtain⟨g1,c1,c2,c3,c4,ge,b3,b4⟩:=a8L h1 hg
 obtain⟨l1,l2,_⟩:=J4 h1
 have hcl:cell.toNat<w.table.ages.length:=by omega
 have hcs:cell.toNat<w.table.servers.length:=by omega
 have tok : ∀i c n,Tok (x8 ⟨w.map,w.servers,w.stores,(s6 w.table w.servers.length cell server).t,w.rows,w.net,w.notes⟩ [a3O (s6 w.table w.servers.length cell server).t cell server]) i c n →
   Tok w i c n∨(c=cell ∧ @Eq Int n (nth .int w.table.ages cell.toNat+1)∧server=(i:Int)):=fun i c n h=>by
  cases h with
  |hold hi h hm hc hn=>exact .inl (.hold hi h hm hc hn)
  |word x hx hk hd hc hn =>
   rcases H3 hx with hx|hx
   ·exact .inl (.word x hx hk hd hc hn)
   ·right
    simp only[List.mem_singleton]at hx
    subst hx
    refine⟨hc.symm,?_,hd⟩
    rw[←hn]
    simp only[a3O]
    rw[ge]
    exact j9 .int hcl
  |table h0 hc hs hn =>
   simp only[x8]at hc hs hn
   rw[ge]at hc hs hn
   simp only[List.length_set]at hc
   rw[C3 .int hcs]at hs
   rw[C3 .int hcl]at hn
   by_cases he:c.toNat=cell.toNat
   ·rw[if_pos he]at hs hn
    exact .inr ⟨by omega,hn.symm,hs⟩
   ·rw[if_neg he]at hs hn
    exact .inl (.table h0 hc hs hn)
 refine⟨fun i hi h hm=>hf.hold i hi h hm,fun i j c n h1 h2 => ?_⟩
 rcases tok _ _ _ h1 with t1|⟨p1,p2,p3⟩
 ·rcases tok _ _ _ h2 with t2|⟨q1,q2,q3⟩
  ·exact hf.one i j c n t1 t2
  ·have:=d0l hok t1
   rw[q1]at this
   exfalso
   rw[q2]at this
   generalize (nth .int w.table.ages cell.toNat:Int)=a at *
   omega
 ·rcases tok _ _ _ h2 with t2|⟨q1,q2,q3⟩
  ·have:=d0l hok t2
   rw[p1]at this
   exfalso
   rw[p2]at this
   generalize (nth .int w.table.ages cell.toNat:Int)=a at *
   omega
  ·omega
theorem a1B {l:List Srv} {i j:Nat} {s:Srv} (hi:i<l.length):nth .srv (l.set i s) j=if j=i then s else nth .srv l j:=C3 .srv hi
theorem c3J {w:Wld} (hok:m8 w=true) (hf:Fence w) {k:Nat} (hk:k<w.net.length) (hd : ¬(nth .msg w.net k).dest = -1):Fence (a3m (wCut w k) (nth .msg w.net k)):=by
 obtain⟨h1,h2,h3,h4,h5,h6,h7,h8,h9⟩:=q9.1 hok
 have hxm:=s0 .msg hk
 generalize hx:nth .msg w.net k=x at *
 have hx1:=(h8 x hxm).1
 have hdd:0≤x.dest∧x.dest<w.servers.length:=by
  rcases a3J hx1 with ⟨_,g1,g2⟩|⟨_,g⟩
  ·exact⟨g1,g2⟩
  ·exact absurd g hd
 have hdn:x.dest.toNat<w.servers.length:=by omega
 obtain⟨o1,_⟩:=h7 _ (s0 .srv hdn)
 have he:=a9O (t:=w.table) o1 h2 hx1
 have hout : ∀z∈(r8 w.map (nth .srv w.servers x.dest.toNat) w.stores w.table x).out,z.kind≠1:=fun z hz=>by
  have:=a8e hz
  omega
 have hW:a3m (wCut w k) x=x8 ⟨w.map,w.servers.set x.dest.toNat (r8 w.map (nth .srv w.servers x.dest.toNat) w.stores w.table x).srv,(r8 w.map (nth .srv w.servers x.dest.toNat) w.stores w.table x).stores,w.table,w.rows,w.net.eraseIdx k,w.notes⟩ (r8 w.map (nth .srv w.servers x.dest.toNat) w.stores w.table x).out:=rfl
 rw[hW]
 generalize hX:r8 w.map (nth .srv w.servers x.dest.toNat) w.stores w.table x=X at *
 obtain⟨s',st',out⟩:=X
 simp only at he hout ⊢
 have hcs:=a2R h2 hx1
 obtain⟨_,_,hall,hsort⟩:=E5.1 o1
 have word : ∀z∈(x8 ⟨w.map,w.servers.set x.dest.toNat s',st',w.table,w.rows,w.net.eraseIdx k,w.notes⟩ out).net,z.kind=1→z∈w.net:=fun z hz hk1=>by
  rcases H3 hz with hz|hz
  ·exact List.mem_of_mem_eraseIdx hz
  ·exact absurd hk1 (hout z hz)
 have quiet:st'=w.stores→(∀h∈s'.holds,h∈(nth .srv w.servers x.dest.toNat).holds)→Fence (x8 ⟨w.map,w.servers.set x.dest.toNat s',st',w.table,w.rows,w.net.eraseIdx k,w.notes⟩ out):=fun e1 e2=>by
  refine R3 hf rfl e1 rfl (fun i hi h hm => ?_) word
  have hi':i<w.servers.length:=by simpa [x8]using hi
  refine⟨hi',?_⟩
  simp only[x8]at hm
  rw[a1B hdn]at hm
  split at hm
  ·rename_i hij
   rw[hij]
   exact e2 h hm
  ·exact hm
 cases he with
 |same=>exact quiet rfl fun h hm=>hm
 |ghost hu hk7=>exact quiet rfl fun h hm=>hm
 |lost hu hkk hh ha=>exact quiet rfl fun h hm=>(b8a.1 hm).1
 |grant hu hk1 hn ha =>
  have htx:Tok w x.dest.toNat x.cell x.n := .word x hxm hk1 (by omega) rfl rfl
  have hcell:(r9 w.map (o6 w.stores x)).cell=x.cell:=by rw[a0N,hcs.2.2.2]
  have tok : ∀i c n,Tok (x8 ⟨w.map,w.servers.set x.dest.toNat ⟨(nth .srv w.servers x.dest.toNat).up,putH (nth .srv w.servers x.dest.toNat).holds ⟨x.n,(o6 w.stores x).recs.length,r9 w.map (o6 w.stores x)⟩,(nth .srv w.servers x.dest.toNat).o8⟩,w.stores.set x.cell.toNat ⟨x.n,(o6 w.stores x).base,(o6 w.stores x).recs⟩,w.table,w.rows,w.net.eraseIdx k,w.notes⟩ out) i c n→Tok w i c n:=fun i c n h=>by
   cases h with
   |hold hi h hm hc hn =>
    have hi':i<w.servers.length:=by simpa [x8]using hi
    simp only[x8]at hm
    rw[a1B hdn]at hm
    split at hm
    ·rename_i hij
     rcases X3 hsort hm with rfl|⟨hm,_⟩
     ·rw[hij,←hc,←hn]
      simp only
      rw[hcell]
      exact htx
     ·exact .hold hi' h (by rw[hij];exact hm) hc hn
    ·exact .hold hi' h hm hc hn
   |word z hz hk hd hc hn=>exact .word z (word z hz hk) hk hd hc hn
   |table h0 hc hs hn=>exact .table h0 hc hs hn
  refine⟨fun i hi h hm => ?_,fun i j c n t1 t2=>hf.one i j c n (tok _ _ _ t1) (tok _ _ _ t2)⟩
  have hi':i<w.servers.length:=by simpa [x8]using hi
  have old:h∈(nth .srv w.servers i).holds→(h.state.cell=x.cell→h.age<x.n)→HoldInv w.map (w.stores.set x.cell.toNat ⟨x.n,(o6 w.stores x).base,(o6 w.stores x).recs⟩) h:=fun hm hlt=>by
   have hI:=hf.hold i hi' h hm
   have hcp:=(o7 (C2.1 ((E5.1 (h7 _ (s0 .srv hi')).1).2.2.1 h hm)).2.2)
   by_cases hcx:h.state.cell.toNat=x.cell.toNat
   ·have hcx':h.state.cell=x.cell:=by omega
    have hS:stAt (w.stores.set x.cell.toNat ⟨x.n,(o6 w.stores x).base,(o6 w.stores x).recs⟩) h.state.cell=⟨x.n,(o6 w.stores x).base,(o6 w.stores x).recs⟩:=by rw[M9 hcs.2.1,if_pos hcx]
    have hO:stAt w.stores h.state.cell=o6 w.stores x:=by rw[hcx'];rfl
    refine⟨?_,hI.zero,?_,?_,?_⟩
    ·rw[hS];exact Int.le_of_lt (hlt hcx')
    ·rw[hS,←hO];exact hI.count
    ·rw[hS,←hO];exact hI.state
    ·rw[hS];exact fun he=>absurd he (Int.ne_of_lt (hlt hcx'))
   ·have hS:stAt (w.stores.set x.cell.toNat ⟨x.n,(o6 w.stores x).base,(o6 w.stores x).recs⟩) h.state.cell=stAt w.stores h.state.cell:=by rw[M9 hcs.2.1,if_neg hcx]
    exact⟨by rw[hS];exact hI.age,hI.zero,by rw[hS];exact hI.count,by rw[hS];exact hI.state,by rw[hS];exact hI.all⟩
  simp only[x8]at hm ⊢
  rw[a1B hdn]at hm
  split at hm
  ·rename_i hij
   rcases X3 hsort hm with rfl|⟨hm,hne⟩
   ·have hS:stAt (w.stores.set x.cell.toNat ⟨x.n,(o6 w.stores x).base,(o6 w.stores x).recs⟩) (r9 w.map (o6 w.stores x)).cell=⟨x.n,(o6 w.stores x).base,(o6 w.stores x).recs⟩:=by rw[hcell,M9 hcs.2.1,if_pos rfl]
    refine⟨by rw[hS];exact Int.le_refl _,by simp only;omega,by rw[hS];exact Int.le_refl _,?_,by rw[hS];exact fun _=>rfl⟩
    rw[hS]
    simp only[Int.toNat_natCast]
    exact a3q hcs.2.2.1
   ·refine old (by rw[hij];exact hm) fun he=>absurd ?_ hne
    rw[he,hcell]
  ·rename_i hij
   refine old hm fun he => ?_
   have hI:=hf.hold i hi' h hm
   have hO:stAt w.stores h.state.cell=o6 w.stores x:=by rw[he];rfl
   have hle:=hI.age
   rw[hO]at hle
   rcases Int.lt_or_eq_of_le (Int.le_trans hle ha)with h0|h0
   ·exact h0
   ·exact absurd (hf.one i x.dest.toNat x.cell x.n (.hold hi' h hm he h0) htx) hij
 |write hu hkk hh ha hc hl hr ha1 ha2 hff hp =>
  obtain⟨hmem,hcc⟩:=I6 hh
  have hIH:=hf.hold _ hdn _ hmem
  have htx:Tok w x.dest.toNat x.cell (j6 (nth .srv w.servers x.dest.toNat) x.cell).age := .hold hdn _ hmem hcc rfl
  have hcell:(m0 w.map (j6 (nth .srv w.servers x.dest.toNat) x.cell).state (p9 x)).c.cell=x.cell:=by rw[a0T,hcc]
  have hOH:stAt w.stores (j6 (nth .srv w.servers x.dest.toNat) x.cell).state.cell=o6 w.stores x:=by rw[hcc];rfl
  generalize hH:j6 (nth .srv w.servers x.dest.toNat) x.cell=H at *
  have tok : ∀i c n,Tok (x8 ⟨w.map,w.servers.set x.dest.toNat ⟨(nth .srv w.servers x.dest.toNat).up,putH (nth .srv w.servers x.dest.toNat).holds ⟨H.age,H.count+1,(m0 w.map H.state (p9 x)).c⟩,(nth .srv w.servers x.dest.toNat).o8⟩,w.stores.set x.cell.toNat ⟨(o6 w.stores x).age,(o6 w.stores x).base,(o6 w.stores x).recs ++ [p9 x]⟩,w.table,w.rows,w.net.eraseIdx k,w.notes⟩ out) i c n→Tok w i c n:=fun i c n h=>by
   cases h with
   |hold hi h hm hc hn =>
    have hi':i<w.servers.length:=by simpa [x8]using hi
    simp only[x8]at hm
    rw[a1B hdn]at hm
    split at hm
    ·rename_i hij
     rcases X3 hsort hm with rfl|⟨hm,_⟩
     ·rw[hij,←hc,←hn]
      simp only
      rw[hcell]
      exact htx
     ·exact .hold hi' h (by rw[hij];exact hm) hc hn
    ·exact .hold hi' h hm hc hn
   |word z hz hk hd hc hn=>exact .word z (word z hz hk) hk hd hc hn
   |table h0 hc hs hn=>exact .table h0 hc hs hn
  refine⟨fun i hi h hm => ?_,fun i j c n t1 t2=>hf.one i j c n (tok _ _ _ t1) (tok _ _ _ t2)⟩
  have hi':i<w.servers.length:=by simpa [x8]using hi
  have old:h∈(nth .srv w.servers i).holds→(h.state.cell=x.cell→h.age≠(o6 w.stores x).age)→HoldInv w.map (w.stores.set x.cell.toNat ⟨(o6 w.stores x).age,(o6 w.stores x).base,(o6 w.stores x).recs ++ [p9 x]⟩) h:=fun hm hlt=>by
   have hI:=hf.hold i hi' h hm
   have hcp:=(o7 (C2.1 ((E5.1 (h7 _ (s0 .srv hi')).1).2.2.1 h hm)).2.2)
   by_cases hcx:h.state.cell.toNat=x.cell.toNat
   ·have hcx':h.state.cell=x.cell:=by omega
    have hS:stAt (w.stores.set x.cell.toNat ⟨(o6 w.stores x).age,(o6 w.stores x).base,(o6 w.stores x).recs ++ [p9 x]⟩) h.state.cell=⟨(o6 w.stores x).age,(o6 w.stores x).base,(o6 w.stores x).recs ++ [p9 x]⟩:=by rw[M9 hcs.2.1,if_pos hcx]
    have hO:stAt w.stores h.state.cell=o6 w.stores x:=by rw[hcx'];rfl
    have hcnt:=hI.count
    have hstt:=hI.state
    have hage:=hI.age
    rw[hO]at hcnt hstt hage
    refine⟨?_,hI.zero,?_,?_,?_⟩
    ·rw[hS];exact hage
    ·rw[hS];simp only[List.length_append,List.length_singleton];omega
    ·rw[hS]
     simp only
     rw[a1n (by have:=hI.zero;omega)]
     exact hstt
    ·rw[hS];exact fun he=>absurd he (hlt hcx')
   ·have hS:stAt (w.stores.set x.cell.toNat ⟨(o6 w.stores x).age,(o6 w.stores x).base,(o6 w.stores x).recs ++ [p9 x]⟩) h.state.cell=stAt w.stores h.state.cell:=by rw[M9 hcs.2.1,if_neg hcx]
    exact⟨by rw[hS];exact hI.age,hI.zero,by rw[hS];exact hI.count,by rw[hS];exact hI.state,by rw[hS];exact hI.all⟩
  simp only[x8]at hm ⊢
  rw[a1B hdn]at hm
  split at hm
  ·rename_i hij
   rcases X3 hsort hm with rfl|⟨hm,hne⟩
   ·have hS:stAt (w.stores.set x.cell.toNat ⟨(o6 w.stores x).age,(o6 w.stores x).base,(o6 w.stores x).recs ++ [p9 x]⟩) (m0 w.map H.state (p9 x)).c.cell=⟨(o6 w.stores x).age,(o6 w.stores x).base,(o6 w.stores x).recs ++ [p9 x]⟩:=by rw[hcell,M9 hcs.2.1,if_pos rfl]
    have hstt:=hIH.state
    rw[hOH,hc]at hstt
    refine⟨by rw[hS];exact Int.le_of_eq ha,by have:=hIH.zero;simp only;omega,by rw[hS];simp only[List.length_append,List.length_singleton];omega,?_,by rw[hS];simp only[List.length_append,List.length_singleton];omega⟩
    rw[hS]
    simp only
    have e1:(H.count+1).toNat=(o6 w.stores x).recs.length+1:=by omega
    rw[e1]
    show _=(m0 w.map (v8 w.map (o6 w.stores x).base ((o6 w.stores x).recs ++ [p9 x]) (o6 w.stores x).recs.length) (nth .rcd ((o6 w.stores x).recs ++ [p9 x]) (o6 w.stores x).recs.length)).c
    rw[a1n (Nat.le_refl _),a8v .rcd]
    simp only[Int.toNat_natCast]at hstt
    rw[←hstt]
   ·refine old (by rw[hij];exact hm) fun he=>absurd ?_ hne
    rw[he,hcell]
  ·rename_i hij
   refine old hm fun he h0 => ?_
   rw[←ha]at h0
   exact absurd (hf.one i x.dest.toNat x.cell H.age (.hold hi' h hm he h0) htx) hij
theorem b3q {w w':Wld} (hok:m8 w=true) (hf:Fence w) (hs:StepC w w'):Fence w':=by
 have emp : ∀(i:Nat) (u:Bool),i<w.servers.length→Fence ⟨w.map,w.servers.set i ⟨u,[],[]⟩,w.stores,w.table,w.rows,w.net,w.notes⟩:=fun i u hi=>by
  refine R3 hf rfl rfl rfl (fun j hj h hm => ?_) (fun x hx _=>hx)
  simp only[List.length_set]at hj
  refine⟨hj,?_⟩
  simp only at hm
  rw[a1B hi]at hm
  split at hm
  ·cases hm
  ·exact hm
 cases hs with
 |same=>exact hf
 |grant cell server hg=>exact c1l hok hf hg
 |ask=>exact R3 hf rfl rfl rfl (fun i hi h hm=>⟨hi,hm⟩) (fun x hx _=>hx)
 |say who hs =>
  refine R3 hf rfl rfl rfl (fun i hi h hm=>⟨hi,hm⟩) (fun x hx hk => ?_)
  rcases H3 hx with hx|hx
  ·exact hx
  ·simp only[List.mem_singleton]at hx
   subst hx
   rw[a7I hs]at hk
   cases hk
 |gate i hi hd=>exact R3 hf rfl rfl rfl (fun i hi h hm=>⟨hi,hm⟩) (fun x hx _=>a5E (i:=i) hx)
 |hear i hi hd=>exact c3J hok hf hi hd
 |lose i hi=>exact R3 hf rfl rfl rfl (fun i hi h hm=>⟨hi,hm⟩) (fun x hx _=>a5E hx)
 |twice i hi =>
  refine R3 hf rfl rfl rfl (fun i hi h hm=>⟨hi,hm⟩) (fun x hx hk => ?_)
  rcases H3 hx with hx|hx
  ·exact hx
  ·simp only[List.mem_singleton]at hx
   subst hx
   exact s0 .msg hi
 |tick i hi cell =>
  refine R3 hf rfl rfl rfl (fun i hi h hm=>⟨hi,hm⟩) (fun x hx hk => ?_)
  rcases H3 hx with hx|hx
  ·exact hx
  ·have:=a9h hx
   omega
 |fall i hi=>exact emp i false hi
 |rise i hi hu=>exact emp i true hi
theorem c0Y {m:PMap} {s s':Srv} {st st':List Sto} {v:Int} {x:Msg} (hst:B1 m st=true) (hx:y5 m v x=true) (he:Eff m s st x s' st'):Grow m st st':=by
 have hc:=a2R hst hx
 cases he with
 |same=>exact Grow.refl _ _
 |ghost=>exact Grow.refl _ _
 |lost=>exact Grow.refl _ _
 |grant hu hk hn ha =>
  refine⟨by simp,fun c => ?_,fun c=>⟨[],?_⟩⟩
  ·rw[M9 hc.2.1]
   split
   ·rename_i h
    unfold o6 stAt
    rw[h]
   ·rfl
  ·rw[M9 hc.2.1]
   split
   ·rename_i h
    unfold o6 stAt
    rw[h]
    simp
   ·simp
 |write hu hk hh ha hcn hl hr h1 h2 hf hp =>
  refine⟨by simp,fun c => ?_,fun c => ?_⟩
  ·rw[M9 hc.2.1]
   split
   ·rename_i h
    unfold o6 stAt
    rw[h]
   ·rfl
  ·rw[M9 hc.2.1]
   split
   ·rename_i h
    refine⟨[p9 x],?_⟩
    unfold o6 stAt
    rw[h]
   ·exact⟨[],by simp⟩
theorem c7i {w w':Wld} (hok:m8 w=true) (hs:StepC w w'):w'.map=w.map∧Grow w.map w.stores w'.stores:=by
 cases hs with
 |hear i hi hd =>
  obtain⟨X,hX,e⟩:=heard hok hi hd
  rw[e]
  exact⟨rfl,c0Y hX.stos hX.ok hX.eff⟩
 |_=>exact⟨rfl,Grow.refl _ _⟩
theorem d2F {m:PMap} {l:List Wlk} (h:x7 m l=true) {w:Wlk} (hw:w∈l):u4 l w.id=true∧F5 l w.id=w:=by
 have hs:=a6L h
 obtain⟨i,hi,e⟩:=R7 .wlk hw
 have hp:l6 l w.id=(i:Int):=by
  rcases C6 (isId w.id) l with ⟨_,hn⟩|⟨k,hk,hk1,hk2,hk3⟩
  ·have:=hn w hw
   simp[isId]at this
  ·unfold l6
   rw[hk1]
   have hkid:(nth .wlk l k).id=w.id:=by
    rw[k9 .wlk l k hk]
    simpa [isId]using hk2
   have:k=i:=by
    rcases Nat.lt_trichotomy k i with h0|h0|h0
    ·have:=hs k i h0 hi
     rw[e]at this
     omega
    ·exact h0
    ·have:=hs i k h0 hk
     rw[e]at this
     omega
   rw[this]
 constructor
 ·simp only[u4,decide_eq_true_eq,hp]
  omega
 ·rw[F5,if_pos (by rw[hp];omega),hp,Int.toNat_natCast]
  exact e
theorem c9e {m:PMap} {h:Hld} {sd:Int} {g:Gst} (hg:g∈o8 m h sd):g.src=h.state.cell∧g.count=h.count∧g.wlk∈h.state.wlks:=by
 unfold o8 ghTo flt at hg
 obtain⟨v,hv,rfl⟩:=List.mem_map.1 hg
 exact⟨rfl,rfl,List.mem_of_mem_take (List.mem_filter.1 hv).1⟩
theorem c1Y {m:PMap} {s:Srv} {t:Arb} {cell:Int} {z:Msg} (h:z∈E7 m s t cell) (hk:z.kind=7) : ∃g∈s.holds,z.gst.src=g.state.cell∧z.gst.count=g.count∧z.gst.wlk∈g.state.wlks:=by
 unfold E7 at h
 split at h
 ·rename_i hh
  have hm:=(I6 hh).1
  have side : ∀sd,z∈D1 m t (j6 s cell) cell sd → ∃g∈s.holds,z.gst.src=g.state.cell∧z.gst.count=g.count∧z.gst.wlk∈g.state.wlks:=fun sd hz=>by
   unfold D1 at hz
   simp only at hz
   split at hz
   ·cases hz
   ·rcases List.mem_append.1 hz with hz|hz
    ·obtain⟨_,_,rfl⟩:=List.mem_map.1 hz
     cases hk
    ·obtain⟨g,hg,rfl⟩:=List.mem_map.1 hz
     exact⟨_,hm,c9e (List.mem_of_mem_take hg)⟩
  rcases List.mem_append.1 h with h|h
  ·exact side _ h
  ·exact side _ h
 ·cases h
theorem c2l {w w':Wld} (hok:m8 w=true) (hf:Fence w) (hg:Shown w) (hs:StepC w w'):Shown w':=by
 obtain⟨h1,h2,h3,h4,h5,h6,h7,h8,h9⟩:=q9.1 hok
 have emp : ∀(i:Nat) (u:Bool),i<w.servers.length→Shown ⟨w.map,w.servers.set i ⟨u,[],[]⟩,w.stores,w.table,w.rows,w.net,w.notes⟩:=fun i u hi=>by
  refine⟨fun j hj g hm => ?_,hg.net⟩
  simp only[List.length_set]at hj
  simp only at hm
  rw[a1B hi]at hm
  split at hm
  ·cases hm
  ·exact hg.srv j hj g hm
 cases hs with
 |same=>exact hg
 |grant cell server hgr =>
  refine⟨hg.srv,fun x hx hk => ?_⟩
  rcases H3 hx with hx|hx
  ·exact hg.net x hx hk
  ·simp only[List.mem_singleton]at hx
   subst hx
   cases hk
 |ask=>exact⟨hg.srv,hg.net⟩
 |say who hs =>
  refine⟨hg.srv,fun x hx hk => ?_⟩
  rcases H3 hx with hx|hx
  ·exact hg.net x hx hk
  ·simp only[List.mem_singleton]at hx
   subst hx
   rw[a7I hs]at hk
   cases hk
 |gate i hi hd=>exact⟨hg.srv,fun x hx hk=>hg.net x (a5E (i:=i) hx) hk⟩
 |hear i hi hd =>
  obtain⟨X,hX,e⟩:=heard hok hi hd
  rw[e]
  have hgr:=c0Y hX.stos hX.ok hX.eff
  have hgs:=(E5.1 hX.srv).1
  have hsort:GSort (nth .srv w.servers (nth .msg w.net i).dest.toNat).o8:=(a4v.1 hgs).2.2.2
  have hin : ∀g∈X.srv.o8,g∈(nth .srv w.servers (nth .msg w.net i).dest.toNat).o8∨((nth .msg w.net i).kind=7∧g=(nth .msg w.net i).gst):=fun g hgm=>by
   have he:=hX.eff
   generalize X.srv=s' at *
   generalize X.stores=st' at *
   cases he with
   |same=>exact .inl hgm
   |ghost hu hk =>
    simp only at hgm
    rw[a7k hsort]at hgm
    rcases a7U hgm with h|h
    ·exact .inr ⟨hk,h⟩
    ·exact .inl h
   |grant=>exact .inl hgm
   |lost=>exact .inl hgm
   |write=>exact .inl hgm
  refine⟨fun j hj g hm => ?_,fun x hx hk => ?_⟩
  ·have hj':j<w.servers.length:=by simpa [x8]using hj
   simp only[x8]at hm ⊢
   rw[a1B hX.lt]at hm
   split at hm
   ·rcases hin g hm with h|⟨hk,rfl⟩
    ·exact(hg.srv _ hX.lt g h).grow hgr
    ·exact(hg.net _ hX.mem hk).grow hgr
   ·exact(hg.srv j hj' g hm).grow hgr
  ·rcases H3 hx with hx|hx
   ·exact(hg.net x (List.mem_of_mem_eraseIdx hx) hk).grow hgr
   ·rw[hX.is]at hx
    have:=a8e hx
    omega
 |lose i hi=>exact⟨hg.srv,fun x hx hk=>hg.net x (a5E hx) hk⟩
 |twice i hi =>
  refine⟨hg.srv,fun x hx hk => ?_⟩
  rcases H3 hx with hx|hx
  ·exact hg.net x hx hk
  ·simp only[List.mem_singleton]at hx
   subst hx
   exact hg.net _ (s0 .msg hi) hk
 |tick i hi cell =>
  refine⟨hg.srv,fun x hx hk => ?_⟩
  rcases H3 hx with hx|hx
  ·exact hg.net x hx hk
  ·obtain⟨g,hgm,e1,e2,e3⟩:=c1Y hx hk
   have hI:=hf.hold i hi g hgm
   exact⟨by rw[e2];exact hI.zero,by rw[e1,e2];exact hI.count,by rw[e1,e2];have e4:=hI.state;show _∈(v8 w.map (stAt w.stores g.state.cell).base (stAt w.stores g.state.cell).recs g.count.toNat).wlks;rw[←e4];exact e3⟩
 |fall i hi=>exact emp i false hi
 |rise i hi hu=>exact emp i true hi
theorem c9k {m:PMap} {c:Cll} {l:List Rec} (h:s5 m c=true) : ∀ {k:Nat},m9 k (R0 m c l)=true→s5 m (v8 m c l k)=true:=fun hk=>a8N h hk
theorem d3v {m:PMap} {s:Sto} (hs:B2 m s=true) {d:Nat} (hd:d<2) : ∀ {j k:Nat},k≤j→j≤s.recs.length → @LE.le Int _ (nth .int (v8 m s.base s.recs k).ins d) (nth .int (v8 m s.base s.recs j).ins d):=by
 have hh:=z6.1 hs
 have hall:=(l8 _ _).1 (c1k hh.2.2.2)
 intro j
 induction j with
 |zero=>intro k hk _;rw[show k=0 by omega];exact Int.le_refl _
 |succ j ih =>
  intro k hk hj
  by_cases he:k=j+1
  ·rw[he];exact Int.le_refl _
  ·refine Int.le_trans (ih (k:=k) (by omega) (by omega)) ?_
   have hfit:=hall j (by omega)
   simp only[R0,Bool.and_eq_true]at hfit
   exact b6g (c9k hh.2.1 (k:=j) ((l8 _ _).2 fun i hi=>hall i (by omega))) hfit.1 hd
theorem a5u {w:Wld} (hf:Fence w) {k:Nat} {x:Msg} {X:SH} (h:Heard w k x X):Wrote w.map (nth .srv w.servers x.dest.toNat) w.stores X.stores x:=by
 have hcs:=a2R h.stos h.ok
 have he:=h.eff
 generalize X.srv=s' at *
 generalize X.stores=st' at *
 cases he with
 |same=>exact .no (.refl _)
 |ghost=>exact .no (.refl _)
 |lost=>exact .no (.refl _)
 |grant hu hk hn ha =>
  refine .no ⟨by simp,fun c => ?_⟩
  rw[M9 hcs.2.1]
  split
  ·rename_i hh
   unfold o6 stAt
   rw[hh]
   exact⟨rfl,rfl⟩
  ·exact⟨rfl,rfl⟩
 |write hu hk hh ha hc hl hr h1 h2 hff hp =>
  obtain⟨hmem,hcc⟩:=I6 hh
  have hI:=hf.hold _ h.lt _ hmem
  have hO:stAt w.stores (j6 (nth .srv w.servers x.dest.toNat) x.cell).state.cell=o6 w.stores x:=by rw[hcc];rfl
  have hst:=hI.state
  rw[hO,hc]at hst
  simp only[Int.toNat_natCast]at hst
  rw[←a3q hcs.2.2.1]at hst
  have hst':(j6 (nth .srv w.servers x.dest.toNat) x.cell).state=cX w.map w.stores x.cell:=hst
  refine .yes ⟨hcs.1,hcs.2.1,hcs.2.2.1,hcs.2.2.2,⟨_,rfl⟩,hr,h1⟩ hk hh hst' (fun hk2 => ?_)
  rw[←hst']
  exact hff hk2
theorem Lsame.nx {m:PMap} {st st':List Sto} (h:Lsame st st') (c s:Int):nxX m st' c s=nxX m st c s:=by unfold nxX;rw[h.cX]
theorem c8U {m:PMap} {s:Srv} {st:List Sto} {t:Arb} {v:Int} {x z:Msg} (hv:a6g m s st t v x) (hz:z∈(r8 m s st t x).out) (hk:z.kind=6) :
  x.kind=5∧z7 s x.cell=true∧z.cell=b7 m x.cell x.side∧z.side=1-x.side ∧
  ((@Eq Int z.n (nth .int (j6 s x.cell).state.ins x.side.toNat)∧(r8 m s st t x).stores=st) ∨
   (@Eq Int z.n (nth .int (j6 s x.cell).state.ins x.side.toNat+1)∧(x9 m (j6 s x.cell) (o6 st x) (p9 x)).n=1∧(r8 m s st t x).stores=st.set x.cell.toNat ⟨(o6 st x).age,(o6 st x).base,(o6 st x).recs ++ [p9 x]⟩)):=by
 obtain⟨_,_,hall,hsort⟩:=E5.1 hv.1
 unfold r8 at hz ⊢
 by_cases hu0:s.up=false∨x.dest = -1
 ·rw[if_pos hu0]at hz
  cases hz
 rw[if_neg hu0]at hz ⊢
 by_cases k1:x.kind=1
 ·rw[if_pos k1]at hz
  exfalso
  unfold N4 at hz
  split at hz
  ·cases hz
  ·split at hz<;>cases hz
 rw[if_neg k1]at hz ⊢
 by_cases k7:x.kind=7
 ·rw[if_pos k7]at hz
  cases hz
 rw[if_neg k7]at hz ⊢
 by_cases kh:z7 s x.cell=false
 ·rw[if_pos kh]at hz
  cases hz
 rw[if_neg kh]at hz ⊢
 have hh:z7 s x.cell=true:=by simpa using kh
 by_cases k2:x.kind=2
 ·rw[if_pos k2]at hz
  exfalso
  unfold a0f at hz
  simp only at hz
  split at hz
  ·simp only[List.mem_singleton]at hz
   subst hz
   exact absurd (show(4:Int)=6 from hk) (by decide)
  ·split at hz
   ·cases hz
   ·split at hz
    ·simp only at hz
     split at hz
     ·cases hz
     ·simp only[List.mem_singleton]at hz
      subst hz
      exact absurd (show(3:Int)=6 from hk) (by decide)
    ·simp only at hz
     split at hz
     ·simp only[List.mem_singleton]at hz
      subst hz
      exact absurd (show(3:Int)=6 from hk) (by decide)
     ·cases hz
 rw[if_neg k2]at hz ⊢
 by_cases k5:x.kind=5
 ·rw[if_pos k5]at hz ⊢
  have er:p9 x=⟨2,x6,x.side,x.pcl,0⟩:=by rw[p9,if_neg k2,if_pos k5]
  have got : ∀n:Int,z∈W7 m t x n→z.cell=b7 m x.cell x.side∧z.side=1-x.side∧z.n=n:=fun n h=>by
   unfold W7 at h
   split at h
   ·cases h
   ·simp only[List.mem_singleton]at h
    subst h
    exact⟨rfl,rfl,rfl⟩
  unfold a0e at hz ⊢
  simp only at hz ⊢
  by_cases hq:x.pcl.n<nth .int (j6 s x.cell).state.ins x.side.toNat
  ·rw[if_pos hq]at hz ⊢
   obtain⟨g1,g2,g3⟩:=got _ hz
   exact⟨k5,hh,g1,g2,.inl ⟨g3,rfl⟩⟩
  ·rw[if_neg hq]at hz ⊢
   rw[←er]at hz ⊢
   simp only at hz ⊢
   rcases b0g (m:=m) (s:=s) (st:=st) (cell:=x.cell) (r:=p9 x) hsort with ⟨w1,w2,w3⟩|⟨w1,_,w3⟩|⟨w1,_⟩
   ·rw[if_pos w1]at hz
    obtain⟨g1,g2,g3⟩:=got _ hz
    refine⟨k5,hh,g1,g2,.inr ⟨g3,w2,?_⟩⟩
    rw[w3]
    rfl
   ·rw[w1]at hz
    simp only[show ¬((2:Int)=1) by decide,if_false]at hz
    cases hz
   ·rw[if_neg w1]at hz
    cases hz
 ·rw[if_neg k5]at hz
  cases hz
theorem d0p {m:PMap} {s:Srv} {t:Arb} {cell:Int} {z:Msg} (h:z∈E7 m s t cell) (hk:z.kind=5) : ∃sd:Int,(sd=0∨sd=1)∧z7 s cell=true∧z.cell=b7 m cell sd∧z.side=1-sd∧b7 m cell sd ≠ -1∧z.pcl∈nth .pcls (j6 s cell).state.outs sd.toNat:=by
 unfold E7 at h
 split at h
 ·rename_i hh
  have side : ∀sd,(sd=0∨sd=1)→z∈D1 m t (j6 s cell) cell sd → ∃sd:Int,(sd=0∨sd=1)∧z7 s cell=true∧z.cell=b7 m cell sd∧z.side=1-sd∧b7 m cell sd ≠ -1∧z.pcl∈nth .pcls (j6 s cell).state.outs sd.toNat:=fun sd hsd hz=>by
   unfold D1 at hz
   simp only at hz
   split at hz
   ·cases hz
   ·rename_i hn
    rcases List.mem_append.1 hz with hz|hz
    ·obtain⟨p,hp,rfl⟩:=List.mem_map.1 hz
     exact⟨sd,hsd,hh,rfl,rfl,fun h=>hn (.inl h),List.mem_of_mem_take hp⟩
    ·obtain⟨_,_,rfl⟩:=List.mem_map.1 hz
     cases hk
  rcases List.mem_append.1 h with h|h
  ·exact side _ (.inl rfl) h
  ·exact side _ (.inr rfl) h
 ·cases h
theorem a5s {w:Wld} (hf:Fence w) {i:Nat} (hi:i<w.servers.length) {h:Hld} (hm:h∈(nth .srv w.servers i).holds):h.state=pfX w.map w.stores h.state.cell h.count.toNat∧h.count.toNat≤(stAt w.stores h.state.cell).recs.length:=by
 have hI:=hf.hold i hi h hm
 exact⟨hI.state,by have:=hI.count;have:=hI.zero;omega⟩
theorem b7b {m:PMap} {st:List Sto} {c:Int} (h:B2 m (stAt st c)=true):pfX m st c (stAt st c).recs.length=cX m st c:=(a3q h).symm
theorem c8F {w w':Wld} (hok:m8 w=true) (hf:Fence w) (hm:Mail w) (hs:StepC w w'):Mail w':=by
 obtain⟨h1,h2,h3,h4,h5,h6,h7,h8,h9⟩:=q9.1 hok
 have quiet : ∀ {w':Wld},w'.map=w.map→w'.stores=w.stores→(∀x∈w'.net,x.kind=5∨x.kind=6→x∈w.net)→Mail w':=fun {w'} e1 e2 e3=>by
  refine⟨?_,?_,fun x hx hk => ?_,fun x hx hk => ?_⟩
  ·rw[e1,e2];exact hm.seq
  ·rw[e1,e2];exact hm.old
  ·rw[e1,e2];exact hm.pcl x (e3 x hx (.inl hk)) hk
  ·rw[e1,e2];exact hm.got x (e3 x hx (.inr hk)) hk
 cases hs with
 |same=>exact hm
 |grant cell server hgr =>
  refine quiet rfl rfl fun x hx hk => ?_
  rcases H3 hx with hx|hx
  ·exact hx
  ·simp only[List.mem_singleton]at hx
   subst hx
   rcases hk with hk|hk<;>cases hk
 |ask=>exact quiet rfl rfl fun x hx _=>hx
 |say who hs =>
  refine quiet rfl rfl fun x hx hk => ?_
  rcases H3 hx with hx|hx
  ·exact hx
  ·simp only[List.mem_singleton]at hx
   subst hx
   rw[a7I hs]at hk
   rcases hk with hk|hk<;>cases hk
 |gate i hi hd=>exact quiet rfl rfl fun x hx _=>a5E (i:=i) hx
 |lose i hi=>exact quiet rfl rfl fun x hx _=>a5E hx
 |twice i hi =>
  refine quiet rfl rfl fun x hx hk => ?_
  rcases H3 hx with hx|hx
  ·exact hx
  ·simp only[List.mem_singleton]at hx
   subst hx
   exact s0 .msg hi
 |fall i hi=>exact quiet rfl rfl fun x hx _=>hx
 |rise i hi hu=>exact quiet rfl rfl fun x hx _=>hx
 |tick i hi cell =>
  refine⟨hm.seq,hm.old,fun x hx hk => ?_,fun x hx hk => ?_⟩
  ·rcases H3 hx with hx|hx
   ·exact hm.pcl x hx hk
   ·obtain⟨sd,hsd,hh,e1,e2,hne,hp⟩:=d0p hx hk
    obtain⟨hmem,hcc⟩:=I6 hh
    obtain⟨p1,p2⟩:=a5s hf hi hmem
    have hb:=v7 hne
    rw[e1,e2]
    show Sent w.map w.stores (b7 w.map (b7 w.map cell sd) (1-sd)) (1-(1-sd)) x.pcl
    rw[hb.2.2.2.2.2.2.1,show 1-(1-sd)=sd by omega]
    rw[p1,hcc]at hp
    rw[hcc]at p2
    exact hm.old cell sd hne _ p2 _ hp
  ·rcases H3 hx with hx|hx
   ·exact hm.got x hx hk
   ·have:=a9h hx
    omega
 |hear i hi hd =>
  obtain⟨X,hX,e⟩:=heard hok hi hd
  rw[e]
  generalize nth .msg w.net i=x at *
  have hv:a6g w.map (nth .srv w.servers x.dest.toNat) w.stores w.table w.servers.length x:=⟨hX.srv,hX.stos,hX.arb,hX.ok⟩
  have hw:=a5u hf hX
  have hcs:=a2R hX.stos hX.ok
  have hmo:=b2F hX.ok
  have hack:(p9 x).kind=3→(x.kind=2∨x.kind=5∨x.kind=6)→(p9 x).n≤inX w.map w.stores (b7 w.map x.cell (p9 x).side) (1-(p9 x).side):=fun hk hkk=>by
   have k6:x.kind=6:=by
    rcases hkk with h0|h0|h0
    ·rw[p9,if_pos h0]at hk;cases hk
    ·rw[p9,if_neg (by omega),if_pos h0]at hk;cases hk
    ·exact h0
   have er:p9 x=⟨3,x6,x.side,A2,x.n⟩:=by rw[p9,if_neg (by omega),if_neg (by omega)]
   rw[er]
   exact hm.got x hX.mem k6
  have hin:(p9 x).kind=2→(x.kind=2∨x.kind=5∨x.kind=6)→Sent w.map w.stores (b7 w.map x.cell (p9 x).side) (1-(p9 x).side) (p9 x).pcl:=fun hk hkk=>by
   have k5:x.kind=5:=by
    rcases hkk with h0|h0|h0
    ·rw[p9,if_pos h0]at hk;cases hk
    ·exact h0
    ·rw[p9,if_neg (by omega),if_neg (by omega)]at hk;cases hk
   have er:p9 x=⟨2,x6,x.side,x.pcl,0⟩:=by rw[p9,if_neg (by omega),if_pos k5]
   rw[er]
   exact hm.pcl x hX.mem k5
  have hsent : ∀ {c s:Int},b7 w.map c s ≠ -1 → ∀ {p:Pcl},Sent w.map w.stores c s p→Sent w.map X.stores c s p:=fun {c s} hne {p} hp=>by
   cases hw with
   |no h=>exact h.sent hp
   |yes h hk hh hs hff=>exact h.sent (fun k3=>hack k3 hk) hne hp
  have hins : ∀(c:Int) {s:Int},s.toNat<2→inX w.map w.stores c s≤inX w.map X.stores c s:=fun c {s} hs=>by
   cases hw with
   |no h=>rw[h.in];exact Int.le_refl _
   |yes h hk hh hs2 hff=>exact h.ins c hs
  refine⟨fun c s hne => ?_,fun c s hne k hk p hp => ?_,fun z hz hk => ?_,fun z hz hk => ?_⟩
  ·cases hw with
   |no h =>
    simp only[x8]
    rw[h.in,h.nx,h.ou]
    exact hm.seq c s hne
   |yes h hk hh hs hff=>exact h.seq (fun k3=>hack k3 hk) (fun k2=>hin k2 hk) (fun c h0 h1=>(a1q hok h0 h1).2.2.2) hne (hm.seq c s hne)
  ·simp only[x8]at hk hp ⊢
   cases hw with
   |no h =>
    unfold pfX at hp
    rw[(h.same c).1,(h.same c).2]at hp
    rw[(h.same c).2]at hk
    exact hsent hne (hm.old c s hne k hk p hp)
   |yes h hkk hh hs hff =>
    have hb:=v7 hne
    by_cases hc:c.toNat=x.cell.toNat
    ·have hcd:c=x.cell:=by omega
     subst hcd
     rw[h.at.2,List.length_append,List.length_singleton]at hk
     by_cases hkl:k≤(stAt w.stores x.cell).recs.length
     ·refine hsent hne (hm.old _ s hne k hkl p ?_)
      unfold pfX at hp ⊢
      rw[h.at.1,h.at.2,a1n hkl]at hp
      exact hp
     ·
      right
      have hkk2:k=(stAt X.stores x.cell).recs.length:=by rw[h.at.2,List.length_append,List.length_singleton];omega
      have hg:=h.grow
      have hsok:B2 w.map (stAt X.stores x.cell)=true:=by
       have hok2:=(d3I hX.srv hX.stos hX.ok hX.eff).2.1
       have:=(D9.1 hok2).2.2 x.cell.toNat (by rw[hg.len];exact hcs.2.1)
       exact this.1
      rw[hkk2,b7b hsok]at hp
      exact hp
    ·unfold pfX at hp
     rw[h.off hc]at hp hk
     exact hsent hne (hm.old c s hne k hk p hp)
  ·rcases H3 hz with hz|hz
   ·have hzn:=List.mem_of_mem_eraseIdx hz
    have hzs:=a3I (h8 z hzn).1 (.inl hk)
    have hb:=v7 hzs
    refine hsent ?_ (hm.pcl z hzn hk)
    show b7 w.map (b7 w.map z.cell z.side) (1-z.side) ≠ -1
    rw[hb.2.2.2.2.2.2.1]
    omega
   ·rw[hX.is]at hz
    have:=a8e hz
    omega
  ·rcases H3 hz with hz|hz
   ·have hzn:=List.mem_of_mem_eraseIdx hz
    have hzs:=a3I (h8 z hzn).1 (.inr (.inl hk))
    exact Int.le_trans (hm.got z hzn hk) (hins _ (H6 hzs).2.1)
   ·rw[hX.is]at hz
    obtain⟨k5,hh,e1,e2,hcase⟩:=c8U hv hz hk
    have hzs:=a3I hX.ok (.inl k5)
    have hb:=v7 hzs
    have h2:=H6 hzs
    obtain⟨hmem,hcc⟩:=I6 hh
    have hI:=hf.hold _ hX.lt _ hmem
    obtain⟨p1,p2⟩:=a5s hf hX.lt hmem
    have hco:=a1q hok hmo.1 hmo.2
    show z.n≤inX w.map X.stores (b7 w.map z.cell z.side) (1-z.side)
    rw[e1,e2,hb.2.2.2.2.2.2.1,show 1-(1-x.side)=x.side by omega]
    have hfi:=d3v hco.2.1 h2.1 (j:=(stAt w.stores x.cell).recs.length) (k:=(j6 (nth .srv w.servers x.dest.toNat) x.cell).count.toNat) (by rw[hcc]at p2;exact p2) (Nat.le_refl _)
    rw[hcc]at p1
    have hpre : @LE.le Int _ (nth .int (j6 (nth .srv w.servers x.dest.toNat) x.cell).state.ins x.side.toNat) (inX w.map w.stores x.cell x.side):=by
     rw[p1]
     unfold inX
     rw[←b7b hco.2.1]
     exact hfi
    rcases hcase with ⟨g1,g2⟩|⟨g1,g2,g3⟩
    ·rw[g1]
     exact Int.le_trans hpre (hins _ h2.1)
    ·
     obtain⟨w1,w2,w3,w4,w5,w6,w7,w8,w9,w10,w11⟩:=b1s g2
     have hX2:X.stores=w.stores.set x.cell.toNat ⟨(o6 w.stores x).age,(o6 w.stores x).base,(o6 w.stores x).recs ++ [p9 x]⟩:=by rw[hX.is];exact g3
     have hW:Wr w.map w.stores X.stores x.cell (p9 x):=⟨hcs.1,hcs.2.1,hcs.2.2.1,hcs.2.2.2,⟨_,hX2⟩,w6,w7⟩
     have er:p9 x=⟨2,x6,x.side,x.pcl,0⟩:=by rw[p9,if_neg (by omega),if_pos k5]
     have hcount:(j6 (nth .srv w.servers x.dest.toNat) x.cell).count.toNat=(stAt w.stores x.cell).recs.length:=by
      have:(o6 w.stores x)=stAt w.stores x.cell:=rfl
      rw[this]at w4
      omega
     have hst:(j6 (nth .srv w.servers x.dest.toNat) x.cell).state=cX w.map w.stores x.cell:=by
      rw[p1,hcount,b7b hco.2.1]
     obtain⟨r1,r2,r3⟩:=a0I (by rw[er]) w7
     have hri:=U6 r2
     rw[g1]
     unfold inX
     rw[hW.self]
     show @LE.le Int _ (_+1) _
     have e5:(m0 w.map (cX w.map w.stores x.cell) (p9 x)).c=(y4 w.map (cX w.map w.stores x.cell) (p9 x).side.toNat (p9 x).pcl).c:=r3
     have hri':(y4 w.map (cX w.map w.stores x.cell) (p9 x).side.toNat (p9 x).pcl).c.ins=G0 (cX w.map w.stores x.cell) (p9 x).side.toNat:=hri.2.2.1
     rw[e5,hri',hst,er]
     have hcf:=o7 hco.2.2.2
     unfold G0
     simp only
     rw[j9 .int (by omega)]
     exact Int.le_refl _
theorem d4m (who:Int):cntN [] who=0:=rfl
theorem d4n (l:List Note) (n:Note) (who:Int):cntN (l ++ [n]) who=cntN l who+(if n.who=who then 1 else 0):=by
 unfold cntN
 rw[List.filter_append,List.length_append]
 by_cases h:n.who=who
 ·simp[h]
 ·simp[h]
theorem d6I (l:List Row) (who kind dest n:Int) (i:Nat):(T7 l who kind dest n).b.length=l.length∧(nth .row (T7 l who kind dest n).b i).who=(nth .row l i).who∧(nth .row (T7 l who kind dest n).b i).seq=(nth .row l i).seq:=by
 unfold T7
 split
 ·rename_i h
  have hlt:=a2W l who
  have hj:(m7 l who).toNat<l.length:=by omega
  refine⟨List.length_set,?_⟩
  simp only
  rw[C3 .row hj]
  split
  ·rename_i e;subst e;exact⟨rfl,rfl⟩
  ·exact⟨rfl,rfl⟩
 ·exact⟨rfl,rfl,rfl⟩
theorem d3j {m:PMap} {l:List Row} {v:Int} {x:Msg} (h1:C4 m l=true) (h2:y5 m v x=true) (i:Nat) :
  (nth .row (B5 m l x).b i).who=(nth .row l i).who ∧
  ((B5 m l x).ok=false→(nth .row (B5 m l x).b i).seq=(nth .row l i).seq) ∧
  ((B5 m l x).ok=true→i<l.length→(nth .row (B5 m l x).b i).seq=(nth .row l i).seq+(if x.ord.who=(nth .row l i).who then 1 else 0)):=by
 have hlt:=a2W l x.ord.who
 unfold B5
 simp only
 split
 ·rename_i h
  have hj:(m7 l x.ord.who).toNat<l.length:=by omega
  have hw:=b6T h.1
  have hro:=(a9P h1 hj).1
  have hbusy:(nth .row l (m7 l x.ord.who).toNat).busy=true:=h.2.1
  have hord:(nth .row l (m7 l x.ord.who).toNat).ord=x.ord:=h.2.2
  simp only[a0h,decide_eq_true_eq]at hro
  have hseq:=(hro.2.2.2.2.2.2.2.2.2 hbusy).2.2
  rw[hord]at hseq
  split
  ·rw[C3 .row hj]
   refine⟨?_,fun h=>by simp at h,fun _ hi => ?_⟩
   ·split
    ·rename_i e;subst e;rfl
    ·rfl
   ·split
    ·rename_i e;subst e
     rw[if_pos hw.symm]
     exact hseq
    ·rename_i e
     have hne : ¬x.ord.who=(nth .row l i).who:=fun hh=>e (by have:=b9G h1 hi hh.symm;omega)
     rw[if_neg hne]
     exact(Int.add_zero _).symm
  ·split
   ·rw[C3 .row hj]
    refine⟨?_,fun _ => ?_,fun h=>by simp at h⟩
    ·split
     ·rename_i e;subst e;rfl
     ·rfl
    ·split
     ·rename_i e;subst e;rfl
     ·rfl
   ·exact⟨rfl,fun _=>rfl,fun h=>by simp at h⟩
 ·exact⟨rfl,fun _=>rfl,fun h=>by simp at h⟩
theorem b1y {l:List Note} {n:Note} {i:Nat} (h:i≤l.length):(l ++ [n]).take i=l.take i:=by
 rw[List.take_append_of_le_length h]
theorem c3f {f:Int→Int} {w w':Wld} (hok:m8 w=true) (hn:Noted f w) (hs:StepC w w'):Noted f w':=by
 obtain⟨h1,h2,h3,h4,h5,h6,h7,h8,h9⟩:=q9.1 hok
 have quiet : ∀ {w':Wld},w'.notes=w.notes→w'.rows=w.rows→Noted f w':=fun {w'} e1 e2=>by
  refine⟨?_,?_⟩
  ·rw[e1];exact hn.num
  ·rw[e1,e2];exact hn.row
 cases hs with
 |same=>exact hn
 |grant cell server hg=>exact quiet rfl rfl
 |ask who what dest n =>
  refine⟨hn.num,fun hl i hi => ?_⟩
  have ha:=d6I w.rows who what dest n i
  have hi':i<w.rows.length:=by rw[←ha.1];exact hi
  show(nth .row (T7 w.rows who what dest n).b i).seq=f (nth .row (T7 w.rows who what dest n).b i).who+cntN w.notes (nth .row (T7 w.rows who what dest n).b i).who
  rw[ha.2.1,ha.2.2]
  exact hn.row hl i hi'
 |say who hs=>exact quiet rfl rfl
 |gate i hi hd =>
  have hx:=(h8 _ (s0 .msg hi)).1
  generalize nth .msg w.net i=x at hx hd
  have hq:=fun j=>d3j h3 hx j
  have hk:=b3b h3 hx
  show Noted f (a1W (wCut w i) x)
  by_cases hc:(B5 w.map w.rows x).ok=true∧w.notes.length<150
  ·have hw:0≤m7 w.rows x.ord.who:=(hk.2.2 hc.1).2.1
   have hpl:=a2W w.rows x.ord.who
   have hj:(m7 w.rows x.ord.who).toNat<w.rows.length:=by omega
   have hwho:=b6T hw
   have hold:=hn.row hc.2 _ hj
   have hro:=(a9P h3 hj).1
   simp only[a0h,decide_eq_true_eq]at hro
   have hbusy:(nth .row w.rows (m7 w.rows x.ord.who).toNat).busy=true:=(hk.2.2 hc.1).2.2.1
   have hord:(nth .row w.rows (m7 w.rows x.ord.who).toNat).ord=x.ord:=(hk.2.2 hc.1).2.2.2.1
   have hseq:=(hro.2.2.2.2.2.2.2.2.2 hbusy).2.2
   rw[hord]at hseq
   rw[hwho]at hold
   have en:(a1W (wCut w i) x).notes=w.notes ++ [⟨x.ord.who,x.ord.seq,x.n⟩]:=by
    unfold a1W
    exact if_pos hc
   have er:(a1W (wCut w i) x).rows=(B5 w.map w.rows x).b:=rfl
   refine⟨?_,?_⟩
   ·rw[en]
    intro j hjl
    rw[List.length_append,List.length_singleton]at hjl
    by_cases hlt:j<w.notes.length
    ·rw[b7A .note hlt,b1y (by omega)]
     exact hn.num j hlt
    ·have:j=w.notes.length:=by omega
     subst this
     rw[a8v .note,b1y (Nat.le_refl _),List.take_length]
     show x.ord.seq=f x.ord.who+1+cntN w.notes x.ord.who
     have a1:x.ord.seq=(nth .row w.rows (m7 w.rows x.ord.who).toNat).seq+1:=hseq
     have a2:(nth .row w.rows (m7 w.rows x.ord.who).toNat).seq=f x.ord.who+cntN w.notes x.ord.who:=hold
     omega
   ·rw[en,er]
    intro hl j hjl
    rw[hk.2.1]at hjl
    have hqj:=hq j
    have a:=hqj.2.2 hc.1 hjl
    have b:=hn.row hc.2 j hjl
    rw[hqj.1,d4n]
    have c:(nth .row (B5 w.map w.rows x).b j).seq=(nth .row w.rows j).seq+(if x.ord.who=(nth .row w.rows j).who then 1 else 0):=a
    have d:(nth .row w.rows j).seq=f (nth .row w.rows j).who+cntN w.notes (nth .row w.rows j).who:=b
    show(nth .row (B5 w.map w.rows x).b j).seq=f (nth .row w.rows j).who+(cntN w.notes (nth .row w.rows j).who+(if x.ord.who=(nth .row w.rows j).who then 1 else 0))
    omega
  ·have en:(a1W (wCut w i) x).notes=w.notes:=by
    unfold a1W
    exact if_neg hc
   have er:(a1W (wCut w i) x).rows=(B5 w.map w.rows x).b:=rfl
   refine⟨?_,?_⟩
   ·rw[en];exact hn.num
   ·rw[en,er]
    intro hl j hjl
    rw[hk.2.1]at hjl
    have ho:(B5 w.map w.rows x).ok=false:=by
     cases hh:(B5 w.map w.rows x).ok
     ·rfl
     ·exact absurd ⟨hh,hl⟩ hc
    have hqj:=hq j
    rw[hqj.1,hqj.2.1 ho]
    exact hn.row hl j hjl
 |hear i hi hd=>exact quiet rfl rfl
 |lose i hi=>exact quiet rfl rfl
 |twice i hi=>exact quiet rfl rfl
 |tick i hi cell=>exact quiet rfl rfl
 |fall i hi=>exact quiet rfl rfl
 |rise i hi hu=>exact quiet rfl rfl
theorem d6F {m:PMap} {l:List Wlk} {v:Int} (h1:o9 m=true) (h4:x7 m l=true) (h2:1≤v) (h3:v≤3) (hf : ∀x∈l,x.seq=0∧x.last=0) (hl:l.length≤5):Beg l (z5 m l v):=by
 have hok:=a9f h1 h4 h2 h3
 have he:z5 m l v=M8 m l v:=by rw[z5,if_pos ⟨h1,h4,h2,h3⟩]
 rw[he]at hok ⊢
 have hsrv : ∀i,i<(M8 m l v).servers.length→nth .srv (M8 m l v).servers i=⟨true,[],[]⟩:=fun i hi=>by
  rw[k9 .srv _ i hi]
  simp[M8]
 refine⟨hok,h4,hf,hl,rfl,rfl,by simp[M8,a7j,h1,h4],fun c h0 hc => ?_,fun i hi=>by rw[hsrv i hi],⟨fun i hi h hm => ?_,fun i j c n t1 t2 => ?_⟩⟩
 ·have hi:c.toNat<m.cells.toNat:=by have:c<m.cells:=hc;omega
  have:stAt (M8 m l v).stores c=L3 m ((c.toNat:Nat):Int) l:=c5G hi
  rw[this,show((c.toNat:Nat):Int)=c by omega]
  exact⟨rfl,rfl⟩
 ·rw[hsrv i hi]at hm
  cases hm
 ·cases t1 with
  |hold hi h hm hc hn=>rw[hsrv i hi]at hm;cases hm
  |word x hx hk hd hc hn=>cases hx
  |table h0 hc hs hn =>
   exfalso
   have hc':c.toNat<m.cells.toNat:=by simpa [M8,a0G,h1]using hc
   have:nth .int (M8 m l v).table.servers c.toNat=(-1:Int):=by
    show nth .int (a0G m).servers c.toNat=(-1:Int)
    rw[a0G,if_pos h1,k9 .int _ _ (by simpa using hc')]
    simp
   rw[this]at hs
   omega
theorem c3x {m:PMap} {s:Srv} {st:List Sto} {t:Arb} {x:Msg} (hk:x.kind=1):(r8 m s st t x).out = []∧(r8 m s st t x).srv.o8=s.o8 ∧
  ((r8 m s st t x).stores=st∨(r8 m s st t x).stores=st.set x.cell.toNat ⟨x.n,(nth .sto st x.cell.toNat).base,(nth .sto st x.cell.toNat).recs⟩):=by
 unfold r8
 split
 ·exact⟨rfl,rfl,.inl rfl⟩
 try rw[if_pos hk]
 unfold N4
 split
 ·exact⟨rfl,rfl,.inl rfl⟩
 split
 ·exact⟨rfl,rfl,.inl rfl⟩
 ·exact⟨rfl,rfl,.inr rfl⟩
theorem c6e {w:Wld} (e:Evt) (hok:m8 w=true) (hf:Fence w):Fence (m4 w e):=by
 have:m4 w e=y8 w e:=by simp[m4,hok]
 rw[this]
 exact b3q hok hf (a3Z w e)
theorem d4r {l:List Wlk} {w:Wld} (h:Beg l w) (c d:Int):Beg l (m4 (m4 w ⟨1,c,0,d,0⟩) ⟨4,0,0,0,0⟩):=by
 have ok1:=b1C ⟨1,c,0,d,0⟩ h.ok
 have ok2:=b1C ⟨4,0,0,0,0⟩ ok1
 have f1:=c6e ⟨1,c,0,d,0⟩ h.ok h.fence
 have f2:=c6e ⟨4,0,0,0,0⟩ ok1 f1
 have e1:m4 w ⟨1,c,0,d,0⟩=y8 w ⟨1,c,0,d,0⟩:=by simp[m4,h.ok]
 by_cases hg:(s6 w.table w.servers.length c d).ok=true
 ·have e2:m4 w ⟨1,c,0,d,0⟩=⟨w.map,w.servers,w.stores,(s6 w.table w.servers.length c d).t,w.rows,[a3O (s6 w.table w.servers.length c d).t c d],w.notes⟩:=by
   rw[e1]
   unfold y8
   rw[if_pos rfl]
   simp only[hg,if_true,x8,h.net]
   rfl
  have hgr:=a8L (q9.1 h.ok).1 hg
  generalize hT:(s6 w.table w.servers.length c d).t=T at *
  generalize hx:a3O T c d=x at *
  have xk:x.kind=1:=by rw[←hx];rfl
  have xd:x.dest=d:=by rw[←hx];rfl
  have xc:x.cell=c:=by rw[←hx];rfl
  have hd : ¬x.dest = -1:=by rw[xd];omega
  rw[e2]at ok1 f1 ok2 f2 ⊢
  generalize hw1:(⟨w.map,w.servers,w.stores,T,w.rows,[x],w.notes⟩:Wld)=w1 at *
  have n1:w1.net = [x]:=by rw[←hw1]
  have e3:m4 w1 ⟨4,0,0,0,0⟩=a3m (wCut w1 0) x:=by
   have hn:nth .msg w1.net 0=x:=by rw[n1];rfl
   have hp:(0:Int)≤0∧(0:Int)<(w1.net.length:Int):=by rw[n1];exact⟨Int.le_refl 0,by simp⟩
   simp only[m4,ok1,if_true]
   unfold y8
   rw[if_neg (by decide),if_neg (by decide),if_neg (by decide),if_pos (by decide),if_pos hp,if_pos rfl]
   show a0a w1 0=_
   unfold a0a
   rw[hn]
   simp only
   rw[if_neg hd]
  rw[e3]at ok2 f2 ⊢
  have hh := @c3x w1.map (nth .srv w1.servers x.dest.toNat) w1.stores w1.table x xk
  have e4:a3m (wCut w1 0) x=⟨w1.map,w1.servers.set x.dest.toNat (r8 w1.map (nth .srv w1.servers x.dest.toNat) w1.stores w1.table x).srv,(r8 w1.map (nth .srv w1.servers x.dest.toNat) w1.stores w1.table x).stores,w1.table,w1.rows,[],w1.notes⟩:=by
   unfold a3m x8 wCut
   simp only[hh.1,n1]
   rfl
  rw[e4]at ok2 f2 ⊢
  have m1:w1.map=w.map:=by rw[←hw1]
  have s1:w1.servers=w.servers:=by rw[←hw1]
  have st1:w1.stores=w.stores:=by rw[←hw1]
  refine⟨ok2,by rw[m1];exact h.all,h.fresh,h.few,rfl,by rw[←hw1];exact h.notes,by rw[←hw1];exact h.rows,fun k h0 hk => ?_,fun i hi => ?_,f2⟩
  ·have hr:=h.recs k h0 (by rw[←m1];exact hk)
   rcases hh.2.2 with e|e
   ·show(stAt (r8 w1.map (nth .srv w1.servers x.dest.toNat) w1.stores w1.table x).stores k).recs = []∧_
    rw[e,st1,m1]
    exact hr
   ·have hlen:=(D9.1 (q9.1 h.ok).2.1).2.1
    have hcl:x.cell.toNat<w1.stores.length:=by
     have ha:=J4 (q9.1 h.ok).1
     have:=hgr.2.1
     rw[st1,xc]
     omega
    show(stAt (r8 w1.map (nth .srv w1.servers x.dest.toNat) w1.stores w1.table x).stores k).recs = []∧(stAt (r8 w1.map (nth .srv w1.servers x.dest.toNat) w1.stores w1.table x).stores k).base=_
    rw[e,M9 hcl]
    by_cases hkk:k.toNat=x.cell.toNat
    ·rw[if_pos hkk]
     have:nth .sto w1.stores x.cell.toNat=stAt w.stores k:=by unfold stAt;rw[st1,hkk]
     simp only
     rw[this,m1]
     exact hr
    ·rw[if_neg hkk,st1,m1]
     exact hr
  ·have hi':i<w.servers.length:=by rw[s1]at hi;simpa using hi
   have hdn:x.dest.toNat<w1.servers.length:=by rw[s1,xd];omega
   show(nth .srv (w1.servers.set x.dest.toNat _) i).o8 = []
   rw[a1B hdn]
   split
   ·rw[hh.2.1,s1]
    exact h.o8 _ (by rw[←s1];exact hdn)
   ·rw[s1];exact h.o8 i hi'
 ·have e2:m4 w ⟨1,c,0,d,0⟩=w:=by
   rw[e1]
   unfold y8
   rw[if_pos rfl]
   simp only
   rw[if_neg hg]
  rw[e2]at ok2 f2 ⊢
  have e3:m4 w ⟨4,0,0,0,0⟩=w:=by
   have hp : ¬((0:Int)≤0∧(0:Int)<(w.net.length:Int)):=by rw[h.net];decide
   simp only[m4,h.ok,if_true]
   unfold y8
   rw[if_neg (by decide),if_neg (by decide),if_neg (by decide),if_pos (by decide),if_neg hp]
  rw[e3]
  exact h
def b0p (l:List Row) (who:Int):Int:=(rowAt l who).seq
theorem c3X {l:List Wlk} {w:Wld} (h:Beg l w) {c:Int} (h0:0≤c) (h1:c<w.map.cells):cX w.map w.stores c=W8 w.map c l:=by
 have hr:=h.recs c h0 h1
 have hs:=(a1q h.ok h0 h1).2.1
 unfold cX
 rw[a3q hs,hr.1,hr.2]
 rfl
theorem d2r (t:Nat) : @Eq Int (nth .int [0,0] t) 0:=by
 match t with
 | 0=>rfl
 | 1=>rfl
 |n+2=>simp[nth,RT.dflt]
theorem d4s {l:List Wlk} {w:Wld} (h:Beg l w):Mail w:=by
 have hp:o9 w.map=true:=(D9.1 (q9.1 h.ok).2.1).1
 have hx : ∀c:Int,0≤c→c<w.map.cells → ∀s,inX w.map w.stores c s=0∧nxX w.map w.stores c s=0∧ouX w.map w.stores c s = []:=fun c h0 h1 s=>by
  unfold inX nxX ouX
  rw[c3X h h0 h1,a1U hp h0 h1 h.all]
  exact⟨d2r _,d2r _,c5E _⟩
 refine⟨fun c s hs => ?_,fun c s hs k hk p hm => ?_,fun x hx => ?_,fun x hx => ?_⟩
 ·have hi:=D7 hs
  have a:=hx c hi.1 hi.2.1 s
  have b:=hx _ hi.2.2.1 hi.2.2.2 (1-s)
  rw[b.1,a.2.1,a.2.2]
  exact⟨Int.le_refl 0,by decide⟩
 ·exfalso
  have hi:=D7 hs
  have hr:=h.recs c hi.1 hi.2.1
  rw[hr.1]at hk
  have hk0:k=0:=by simpa using hk
  subst hk0
  have:pfX w.map w.stores c 0=W8 w.map c l:=hr.2
  rw[this,a1U hp hi.1 hi.2.1 h.all,c5E]at hm
  cases hm
 ·rw[h.net]at hx;cases hx
 ·rw[h.net]at hx;cases hx
theorem c9I {l:List Wlk} {w:Wld} (h:Beg l w):Shown w:=by
 refine⟨fun i hi g hg => ?_,fun x hx => ?_⟩
 ·rw[h.o8 i hi]at hg;cases hg
 ·rw[h.net]at hx;cases hx
theorem c9J {l:List Wlk} {w:Wld} (h:Beg l w):Noted (b0p w.rows) w:=by
 refine⟨fun i hi => ?_,fun _ i hi => ?_⟩
 ·rw[h.notes]at hi
  exact absurd hi (Nat.not_lt_zero _)
 ·rw[h.notes,d4m]
  have:=b9G (q9.1 h.ok).2.2.1 hi rfl
  unfold b0p rowAt
  rw[this,Int.toNat_natCast,Int.add_zero]
theorem c0K {f:Int→Int} {w:Wld} (e:Evt) (h:Inv f w):Inv f (m4 w e):=by
 have he:m4 w e=y8 w e:=by simp[m4,h.ok]
 have hok:=b1C e h.ok
 rw[he]at hok ⊢
 have hc:=a3Z w e
 exact⟨hok,b3q h.ok h.fence hc,c2l h.ok h.fence h.shown hc,c8F h.ok h.fence h.mail hc,c3f h.ok h.noted hc⟩
theorem c6K {l:List Wlk} {w:Wld} (h:Beg l w):Inv (b0p w.rows) w:=⟨h.ok,h.fence,c9I h,d4s h,c9J h⟩
theorem d5h {f:Int→Int} {w0 w:Wld} (h0:Inv f w0) (h:Ran w0 w):Inv f w:=by
 induction h with
 |refl=>exact h0
 |step e _ ih=>exact c0K e ih
theorem b9N {l:List OW} (h:Z9 l):(l.map oid).Nodup:=by
 refine List.pairwise_map.2 (h.imp ?_)
 intro a b hab he
 simp only[oid]at he
 omega
theorem b8P {T l:List OW} (hT:Z9 T) (hp:T.Perm l):n4 l=T:=by
 refine b9O (L4 ?_) hT ((C8 l).trans hp.symm)
 exact((hp.map oid).nodup_iff).1 (b9N hT)
theorem b0o {a b:List OW} (hn:(a.map oid).Nodup) (hp:a.Perm b):n4 a=n4 b :=
 (b8P (L4 hn) ((C8 a).trans hp)).symm
theorem d0H {α : Type} {l:List α} {k:Nat} (h:k<l.length):l=l.take k++l[k]::l.drop (k+1):=by
 rw[←List.drop_eq_getElem_cons h,List.take_append_drop]
theorem a8a {α : Type} {l:List α} {k:Nat} (h:k<l.length):l.Perm (l[k]::(l.take k++l.drop (k+1))):=by
 conv=>lhs;rw[d0H h]
 exact List.perm_middle
theorem c4B {α : Type} {l:List α} {k:Nat} {y : α} (h:k<l.length):(l.set k y).Perm (y::(l.take k++l.drop (k+1))):=by
 rw[List.set_eq_take_append_cons_drop,if_pos h]
 exact List.perm_middle
theorem set_perm {α : Type} {l r:List α} {k:Nat} {x y : α} (h:k<l.length) (hx:l[k]=x) (hp:l.Perm (x::r)):(l.set k y).Perm (y::r):=by
 refine(c4B h).trans (List.Perm.cons y ?_)
 have:=(a8a h).symm.trans hp
 rw[hx]at this
 exact this.cons_inv
theorem c7M {l:List OW} {k:Nat} {y:OW} (h:Z9 l) (hk:k<l.length) (hy:y.wlk.id=l[k].wlk.id):Z9 (l.set k y):=by
 unfold Z9 at *
 rw[List.pairwise_iff_getElem]at *
 intro i j hi hj hij
 simp only[List.length_set]at hi hj
 have:=h i j hi hj hij
 rw[List.getElem_set,List.getElem_set]
 split<;>split<;>rename_i e1 e2<;>(try subst e1)<;>(try subst e2)<;>(try omega)
 all_goals first|(rw[hy];exact this)|exact this
theorem a1Q {l:List OW} (h:Z9 l) {x:OW} (hx:x∈l):0≤b8 l x.wlk.id∧(b8 l x.wlk.id).toNat<l.length∧nth .ow l (b8 l x.wlk.id).toNat=x:=by
 have hlt:=V0 l x.wlk.id
 have h0:0≤b8 l x.wlk.id:=by
  rcases C6 (isOw x.wlk.id) l with ⟨_,h2⟩|⟨k,hk,h1,_,_⟩
  ·have:=h2 x hx
   simp[isOw]at this
  ·unfold b8;rw[h1];omega
 have hid:=a1w h0
 have hl:(b8 l x.wlk.id).toNat<l.length:=by omega
 refine⟨h0,hl,?_⟩
 have hm:nth .ow l (b8 l x.wlk.id).toNat∈l:=s0 .ow hl
 generalize nth .ow l (b8 l x.wlk.id).toNat=y at *
 unfold Z9 at h
 clear hl h0 hlt
 induction l with
 |nil=>cases hx
 |cons z l ih =>
  obtain⟨hz,hl⟩:=List.pairwise_cons.1 h
  rcases List.mem_cons.1 hx with rfl|gx<;>rcases List.mem_cons.1 hm with gy|gy
  ·exact gy
  ·have:=hz y gy;omega
  ·subst gy;have:=hz x gx;omega
  ·exact ih hl gx gy
theorem d1p {l:List Wlk} {id:Int} (h:l6 l id<0):F4 l id=l:=by
 unfold F4
 rw[List.filter_eq_self]
 intro x hx
 rcases C6 (isId id) l with ⟨_,h2⟩|⟨k,hk,h1,_⟩
 ·have:=h2 x hx
  simpa [isId]using this
 ·unfold l6 at h
  rw[h1]at h
  omega
theorem b3h : ∀ {l:List Pcl} {p:Pcl} {i:Int},l.Pairwise (fun a b=>a.n<b.n)→p∈l→p.n=i→A3 l i=p::A3 l (i+1)
 |[],p,i,_,h,_=>by cases h
 |q::l,p,i,hs,h,hi=>by
  obtain⟨hq,hl⟩:=List.pairwise_cons.1 hs
  rcases List.mem_cons.1 h with rfl|hm
  ·have e1:A3 (p::l) i=p::A3 l i:=by simp[A3,hi]
   have e2:A3 (p::l) (i+1)=A3 l (i+1):=by
    unfold A3
    rw[List.filter_cons_of_neg]
    simp only[decide_eq_true_eq]
    omega
   rw[e1,e2]
   congr 1
   unfold A3
   refine List.filter_congr fun x hx => ?_
   have:=hq x hx
   simp only[decide_eq_decide]
   omega
  ·have:=hq p hm
   have e1 : ∀j,i≤j→A3 (q::l) j=A3 l j:=fun j hj=>by
    unfold A3
    rw[List.filter_cons_of_neg]
    simp only[decide_eq_true_eq]
    omega
   rw[e1 i (Int.le_refl i),e1 (i+1) (by omega)]
   exact b3h hl hm hi
theorem c9i {l:List Pcl} {a b:Int} (h:a≤b):A3 (A3 l a) b=A3 l b:=by
 unfold A3
 rw[List.filter_filter]
 refine List.filter_congr fun x _ => ?_
 rw[Bool.eq_iff_iff]
 simp only[Bool.and_eq_true,decide_eq_true_eq]
 omega
theorem d3t {l:List Pcl} {p:Pcl} {i:Int} (h:i≤p.n):A3 (l ++ [p]) i=A3 l i ++ [p]:=by
 unfold A3
 rw[List.filter_append]
 simp[h]
theorem d1j {m:PMap} {l:List Pcl} {n:Int} (h:u6 m l n=true):l.Pairwise (fun a b=>a.n<b.n):=by
 rw[List.pairwise_iff_getElem]
 intro i j hi hj hij
 have h1:=b7c h hi
 have h2:=b7c h hj
 rw[k9 .pcl l i hi]at h1
 rw[k9 .pcl l j hj]at h2
 omega
section
variable {m:PMap} {st st':List Sto} {d:Int} {r:Rec}
theorem c3W {c:Int} (h:0≤c):cX m st ((c.toNat:Nat):Int)=cX m st c:=by rw[show((c.toNat:Nat):Int)=c by omega]
theorem a4a {c s:Int} (h:b7 m c s ≠ -1):0≤c∧0≤b7 m c s:=⟨(D7 h).1,(D7 h).2.2.1⟩
theorem c6d (h:Wr m st st' d r) (ho:(cX m st' d).outs=(cX m st d).outs) (hi:(cX m st' d).ins=(cX m st d).ins) (c s:Int):fl m st' c s=fl m st c s:=by
 unfold fl
 split
 ·rfl
 ·rename_i hs
  have hn:=a4a hs
  have e1:ouX m st' c s=ouX m st c s:=by
   unfold ouX
   by_cases hc:c=d
   ·subst hc;rw[ho]
   ·rw[h.far hn.1 hc]
  have e2:inX m st' (b7 m c s) (1-s)=inX m st (b7 m c s) (1-s):=by
   unfold inX
   by_cases hc:b7 m c s=d
   ·rw[hc,hi]
   ·rw[h.far hn.2 hc]
  rw[e1,e2]
theorem c6b (h:Wr m st st' d r) {e:Int} {q:Pcl} (he:b7 m d e ≠ -1) (hl:(cX m st d).outs.length=2) (ho:(cX m st' d).outs=D2 (cX m st d) e.toNat q) (hi:(cX m st' d).ins=(cX m st d).ins)
  (hq:inX m st (b7 m d e) (1-e)≤nxX m st d e):(∀c s,¬(c=d∧s=e)→fl m st' c s=fl m st c s)∧fl m st' d e=fl m st d e ++ [⟨nxX m st d e,q.kind,q.wlk,q.j8⟩]:=by
 have h2:=H6 he
 have ins : ∀c s,b7 m c s ≠ -1→inX m st' (b7 m c s) (1-s)=inX m st (b7 m c s) (1-s):=fun c s hs=>by
  unfold inX
  by_cases hc:b7 m c s=d
  ·rw[hc,hi]
  ·rw[h.far (a4a hs).2 hc]
 constructor
 ·intro c s hne
  unfold fl
  split
  ·rfl
  ·rename_i hs
   rw[ins c s hs]
   have e1:ouX m st' c s=ouX m st c s:=by
    unfold ouX
    by_cases hc:c=d
    ·subst hc
     rw[ho]
     unfold D2
     have h3:=H6 hs
     exact m5 .pcls (by omega)
    ·rw[h.far (a4a hs).1 hc]
   rw[e1]
 ·unfold fl
  rw[if_neg he,if_neg he,ins d e he]
  have e1:ouX m st' d e=ouX m st d e ++ [⟨nxX m st d e,q.kind,q.wlk,q.j8⟩]:=by
   unfold ouX
   rw[ho]
   unfold D2
   exact j9 .pcls (by omega)
  rw[e1]
  exact d3t hq
theorem d7o (h:Wr m st st' d r) (hk:r.kind=2) (hok : ∀c,0≤c→c<m.cells→s5 m (cX m st c)=true) (hs:Sent m st (b7 m d r.side) (1-r.side) r.pcl) :
  b7 m d r.side ≠ -1∧(∀c s,¬(c=b7 m d r.side∧s=1-r.side)→fl m st' c s=fl m st c s)∧fl m st (b7 m d r.side) (1-r.side)=r.pcl::fl m st' (b7 m d r.side) (1-r.side):=by
 have hf:=h.fits
 obtain⟨hsd,hr,he⟩:=a0I hk hf
 rw[h.cok.2]at hsd
 obtain⟨r1,r2,r3,r4⟩:=U6 hr
 have hb:=v7 hsd
 have h2:=H6 hsd
 have hin:=D7 hsd
 have hself:cX m st' d=(y4 m (cX m st d) r.side.toNat r.pcl).c:=by rw[h.self,he]
 have hins:(cX m st d).ins.length=2:=(o7 h.cok.1).2.2.2.2.2.2.2.2
 have hx:b7 m (b7 m d r.side) (1-r.side)=d:=by have:=hb;grind
 have hne:b7 m d r.side≠d:=by have:=b8Q hsd;intro e;rw[e]at this;exact this rfl
 have outs : ∀c s,0≤c→ouX m st' c s=ouX m st c s:=fun c s h0=>by
  unfold ouX
  by_cases hc:c=d
  ·subst hc;rw[hself,r1]
  ·rw[h.far h0 hc]
 have hn:inX m st d r.side=r.pcl.n:=r4.symm
 have hmem:r.pcl∈ouX m st (b7 m d r.side) (1-r.side):=by
  rcases hs with hs|hs
  ·rw[hx,show 1-(1-r.side)=r.side by omega,hn]at hs
   omega
  ·exact hs
 refine⟨hsd,fun c s hne2 => ?_,?_⟩
 ·unfold fl
  split
  ·rfl
  ·rename_i hcs
   rw[outs c s (a4a hcs).1]
   have e2:inX m st' (b7 m c s) (1-s)=inX m st (b7 m c s) (1-s):=by
    unfold inX
    by_cases hc:b7 m c s=d
    ·rw[hc,hself,r3]
     unfold G0
     have h3:=H6 hcs
     refine m5 .int (fun e=>hne2 ?_)
     have hss:1-s=r.side:=by omega
     have hb2:=v7 hcs
     constructor
     ·rw[←hss,←hc]
      grind
     ·omega
    ·rw[h.far (a4a hcs).2 hc]
   rw[e2]
 ·have hxe:b7 m (b7 m d r.side) (1-r.side) ≠ -1:=by rw[hx];have:=h.zero;omega
  unfold fl
  rw[if_neg hxe,if_neg hxe,hx,show 1-(1-r.side)=r.side by omega,outs _ _ hin.2.2.1]
  have e1:inX m st' d r.side=inX m st d r.side+1:=by
   unfold inX
   rw[hself,r3]
   unfold G0
   exact j9 .int (by omega)
  rw[e1]
  refine b3h (d1j (b1o (hok _ hin.2.2.1 hin.2.2.2) (s:=(1-r.side).toNat) h2.2.1)) hmem hn.symm
theorem d8B (h:Wr m st st' d r) (hk:r.kind=3) (hack:r.n≤inX m st (b7 m d r.side) (1-r.side)) (c s:Int):fl m st' c s=fl m st c s:=by
 have hf:=h.fits
 obtain⟨hsd,hr,he⟩:=a0U hk hf
 rw[h.cok.2]at hsd
 obtain⟨r1,r2,r3,r4,r5⟩:=a0P hr
 have h2:=H6 hsd
 have hl:(cX m st d).outs.length=2:=(o7 h.cok.1).2.2.2.2.2.2.1
 have hself:cX m st' d=(I0 (cX m st d) r.side.toNat r.n).c:=by rw[h.self,he]
 unfold fl
 split
 ·rfl
 ·rename_i hcs
  have e2:inX m st' (b7 m c s) (1-s)=inX m st (b7 m c s) (1-s):=by
   unfold inX
   by_cases hc:b7 m c s=d
   ·rw[hc,hself,r3]
   ·rw[h.far (a4a hcs).2 hc]
  rw[e2]
  by_cases hc:c=d
  ·subst hc
   unfold ouX
   rw[hself,r1]
   unfold T9
   have h3:=H6 hcs
   by_cases hss:s=r.side
   ·subst hss
    rw[j9 .pcls (by omega)]
    exact c9i hack
   ·rw[m5 .pcls (by omega)]
  ·unfold ouX
   rw[h.far (a4a hcs).1 hc]
end
end Go.Mo
namespace Go.Mo
open Go.Sx
section
variable {m:PMap} {st:List Sto} {i s j k:Nat}
end
section
variable {m:PMap} {st:List Sto} {i s j k:Nat}
end
end Go.Mo
namespace Go.Sx
end Go.Sx
namespace Go.Mo
open Go.Sx
section
variable {l:List OW} {i j:Nat}
end
end Go.Mo
namespace Go.Mo
open Go.Sx
section
variable {l:List OW} {w:OW} {k:Nat}
end
end Go.Mo
namespace Go.Mo
open Go.Sx
theorem d6V {α : Type} (p q r s:List α):((p++q)++(r++s)).Perm ((p++r)++(q++s)):=by
 rw[List.append_assoc,List.append_assoc]
 exact(List.perm_append_comm_assoc q r s).append_left p
theorem c9D {m:PMap} (h:o9 m=true):m.cells.toNat=2∨m.cells.toNat=3∨m.cells.toNat=4:=by
 have:=n6.1 h
 omega
theorem c1p {m:PMap} (h:o9 m=true):(a3f m).Nodup:=by
 unfold a3f I9
 rcases c9D h with e|e|e<;>rw[e]<;>decide
theorem c9q {m:PMap} {c s:Nat} (hc:c<m.cells.toNat) (hs:s<2):(c,s)∈a3f m:=by
 unfold a3f I9
 refine List.mem_flatMap.2 ⟨c,List.mem_range.2 hc,?_⟩
 have:s=0∨s=1:=by omega
 rcases this with rfl|rfl<;>simp
section
variable {m:PMap} {st st':List Sto} {d:Int} {r:Rec}
theorem a5H (hp:o9 m=true) (h:Wr m st st' d r) (hd:d<m.cells) {e1 e2:Int} (he:b7 m e1 e2 ≠ -1) (hfl : ∀c s,¬(c=e1∧s=e2)→fl m st' c s=fl m st c s)
  {X X' R1 Y Y' R2:List OW} (h1:(y7 (cX m st d).wlks).Perm (X++R1)) (h2:(y7 (cX m st' d).wlks).Perm (X'++R1)) (h3:(flyO (fl m st e1 e2)).Perm (Y++R2)) (h4:(flyO (fl m st' e1 e2)).Perm (Y'++R2)) :
  ∃T,(allO m st).Perm ((X++Y)++T)∧(allO m st').Perm ((X'++Y')++T):=by
 have h0:=h.zero
 have hE:=v7 he
 have hdn:((d.toNat:Nat):Int)=d:=by omega
 have hdc:d.toNat∈I9 m:=List.mem_range.2 (by omega)
 obtain⟨Ra,a1,a2⟩:=b7S (L:=I9 m) List.nodup_range hdc (f:=fun(c:Nat)=>y7 (cX m st (c:Int)).wlks) (f':=fun(c:Nat)=>y7 (cX m st' (c:Int)).wlks) (fun c hc hne=>by
  show y7 (cX m st' (c:Int)).wlks=y7 (cX m st (c:Int)).wlks
  rw[h.far (by omega) (by omega)])
 have hn1:((e1.toNat:Nat):Int)=e1:=by omega
 have hn2:((e2.toNat:Nat):Int)=e2:=by omega
 have hec:(e1.toNat,e2.toNat)∈a3f m:=c9q (by omega) (by omega)
 obtain⟨Rb,b1,b2⟩:=b7S (L:=a3f m) (c1p hp) hec (f:=fun(e:Nat×Nat)=>flyO (fl m st (e.1:Int) (e.2:Int))) (f':=fun(e:Nat×Nat)=>flyO (fl m st' (e.1:Int) (e.2:Int))) (fun c hc hne=>by
  show flyO (fl m st' (c.1:Int) (c.2:Int))=flyO (fl m st (c.1:Int) (c.2:Int))
  rw[hfl _ _ (fun hq=>hne (Prod.ext (by simp only;omega) (by simp only;omega)))])
 simp only[hdn,hn1,hn2]at a1 a2 b1 b2
 refine⟨(R1++Ra)++(R2++Rb),?_,?_⟩
 ·refine(a1.append b1).trans ?_
  refine((h1.append_right Ra).append (h3.append_right Rb)).trans ?_
  rw[List.append_assoc X R1 Ra,List.append_assoc Y R2 Rb]
  exact d6V _ _ _ _
 ·refine(a2.append b2).trans ?_
  refine((h2.append_right Ra).append (h4.append_right Rb)).trans ?_
  rw[List.append_assoc X' R1 Ra,List.append_assoc Y' R2 Rb]
  exact d6V _ _ _ _
theorem c7r (hp:o9 m=true) (h0:0≤d) (hd:d<m.cells) : ∃s,b7 m d s ≠ -1:=by
 have hm:=n6.1 hp
 by_cases h1:d=0
 ·refine⟨1,?_⟩
  unfold b7
  grind
 ·refine⟨0,?_⟩
  unfold b7
  grind
theorem b0b (hp:o9 m=true) (h:Wr m st st' d r) (hd:d<m.cells) (hfl : ∀c s,fl m st' c s=fl m st c s) {X X' R1:List OW} (h1:(y7 (cX m st d).wlks).Perm (X++R1)) (h2:(y7 (cX m st' d).wlks).Perm (X'++R1)) :
  ∃T,(allO m st).Perm (X++T)∧(allO m st').Perm (X'++T):=by
 obtain⟨s,hs⟩:=c7r hp h.zero hd
 obtain⟨T,t1,t2⟩:=a5H hp h hd hs (fun c s _=>hfl c s) (Y := []) (Y' := []) (R2:=flyO (fl m st d s)) h1 h2 (List.Perm.refl _) (by rw[hfl];exact List.Perm.refl _)
 rw[List.append_nil]at t1 t2
 exact⟨T,t1,t2⟩
end
theorem a3t {a b T:List OW} {x y:OW} (hn:(a.map oid).Nodup) (ha:a.Perm (x::T)) (hb:b.Perm (y::T)) (hid:y.wlk.id=x.wlk.id) :
  0≤b8 (n4 a) x.wlk.id∧(b8 (n4 a) x.wlk.id).toNat<(n4 a).length∧nth .ow (n4 a) (b8 (n4 a) x.wlk.id).toNat=x∧n4 b=(n4 a).set (b8 (n4 a) x.wlk.id).toNat y:=by
 have hs:=L4 hn
 have hp:=C8 a
 have hx:x∈n4 a:=(hp.trans ha).mem_iff.2 List.mem_cons_self
 obtain⟨p1,p2,p3⟩:=a1Q hs hx
 refine⟨p1,p2,p3,?_⟩
 have hk:(n4 a)[(b8 (n4 a) x.wlk.id).toNat]=x:=(k9 .ow _ _ p2).symm.trans p3
 exact b8P (c7M hs p2 (by rw[hk,hid])) ((set_perm p2 hk (hp.trans ha)).trans hb.symm)
theorem c7q {a b T:List OW} {x x2 y y2:OW} (hn:(a.map oid).Nodup) (ha:a.Perm (x::x2::T)) (hb:b.Perm (y::y2::T)) (hid:y.wlk.id=x.wlk.id) (hid2:y2.wlk.id=x2.wlk.id) :
  0≤b8 (n4 a) x.wlk.id∧(b8 (n4 a) x.wlk.id).toNat<(n4 a).length∧nth .ow (n4 a) (b8 (n4 a) x.wlk.id).toNat=x ∧
  0≤b8 (n4 a) x2.wlk.id∧(b8 (n4 a) x2.wlk.id).toNat<(n4 a).length∧nth .ow (n4 a) (b8 (n4 a) x2.wlk.id).toNat=x2 ∧
  n4 b=((n4 a).set (b8 (n4 a) x.wlk.id).toNat y).set (b8 (n4 a) x2.wlk.id).toNat y2:=by
 have hc:(y::x2::T).Perm (x2::y::T):=List.Perm.swap _ _ _
 have h1:=a3t hn ha (List.Perm.refl (y::x2::T)) hid
 have hn2:((y::x2::T).map oid).Nodup:=by
  have:=((ha.map oid).nodup_iff).1 hn
  simp only[List.map_cons,oid,hid]at this ⊢
  exact this
 have h2:=a3t hn2 hc (hb.trans (List.Perm.swap _ _ _)) hid2
 obtain⟨p1,p2,p3,p4⟩:=h1
 obtain⟨q1,q2,q3,q4⟩:=h2
 have hx2:x2∈n4 a:=((C8 a).trans ha).mem_iff.2 (List.mem_cons_of_mem _ List.mem_cons_self)
 obtain⟨g1,g2,g3⟩:=a1Q (L4 hn) hx2
 have he:b8 (n4 (y::x2::T)) x2.wlk.id=b8 (n4 a) x2.wlk.id:=by
  rw[p4]
  refine b5F (a8A _ fun z hz => ?_)
  have:nth .ow (n4 a) (b8 (n4 a) x.wlk.id).toNat=z:=by
   unfold nth List.getD
   rw[hz]
   rfl
  rw[p3]at this
  rw[←this]
  simp[isOw,hid]
 rw[he,p4]at q4
 exact⟨p1,p2,p3,g1,g2,g3,q4⟩
theorem b5d {α : Type} {n d:Nat} (hd:d<n) {f f':Nat → α} (he : ∀c,c≠d→f' c=f c):(List.range n).map f'=((List.range n).map f).set d (f' d):=by
 apply List.ext_getElem (by simp)
 intro i h1 h2
 rw[List.getElem_set]
 simp only[List.getElem_map,List.getElem_range]
 split
 ·rename_i e;rw[e]
 ·rename_i e;exact he i (fun q=>e q.symm)
theorem c2x {n d:Nat} (hd:d<n) {f:Nat→Int} : @Eq Int (nth .int ((List.range n).map f) d) (f d):=by
 rw[k9 .int _ d (by simpa using hd)];simp
theorem c2w {n d:Nat} (hd:d<n) {f:Nat→List Int} : @Eq (List Int) (nth .ints ((List.range n).map f) d) (f d):=by
 rw[k9 .ints _ d (by simpa using hd)];simp
end Go.Mo
namespace Go.Mo
open Go.Sx
section
variable {m:PMap} {st st':List Sto} {d:Int} {r:Rec}
theorem c3G (hI:OneInv m st) {c s:Int} {p:Pcl} (hp:p∈fl m st c s):J8 m p=true∧b7 m c s ≠ -1∧p∈ouX m st c s:=by
 unfold fl at hp
 split at hp
 ·cases hp
 ·rename_i hs
  have h2:=H6 hs
  have hi:=D7 hs
  have hm:=(List.mem_filter.1 hp).1
  have hl:=b1o (hI.cells c hi.1 hi.2.1).1 h2.1
  obtain⟨i,hi2,he⟩:=a1b .pcl hm
  have:J8 m (nth .pcl (ouX m st c s) i)=true:=((N6.1 hl).2.2.2.2 i hi2).1
  rw[he]at this
  exact⟨this,hs,hm⟩
theorem d8z (hI:OneInv m st) (c s:Int):(fl m st c s).length≤250:=by
 unfold fl
 split
 ·exact Nat.zero_le _
 ·rename_i hs
  have h2:=H6 hs
  have hi:=D7 hs
  have h3:=hI.next c s hs
  have hl:=(N6.1 (b1o (hI.cells c hi.1 hi.2.1).1 h2.1)).2.2.2.1
  have:(A3 (ouX m st c s) (inX m st (b7 m c s) (1-s))).length≤(ouX m st c s).length:=List.length_filter_le _ _
  unfold nxX at h3
  unfold ouX at *
  omega
theorem c4s {l:List Pcl} (h : ∀p∈l,J8 m p=true):0≤sumC l∧sumC l≤l.length * 9:=b6z fun p hp=>by
 have:=J1.1 (h p hp)
 unfold cC
 split
 ·exact⟨Int.le_refl 0,by decide⟩
 ·omega
theorem c4c (hI:OneInv m st) (c s:Int):0≤airN m st c s∧airN m st c s≤2250:=by
 unfold airN
 split
 ·exact⟨Int.le_refl 0,by decide⟩
 ·have h1:=c4s (m:=m) (l:=fl m st (b7 m c s) (1-s)) fun p hp=>(c3G hI hp).1
  have h2:=d8z hI (b7 m c s) (1-s)
  omega
theorem a2e {c:Int} (h0:0≤c) (h1:c<m.cells) : @Eq Int (nth .int (m6 m st).ground c.toNat) (cX m st c).ground:=by
 show @Eq Int (nth .int ((List.range m.cells.toNat).map fun(c:Nat)=>(cX m st (c:Int)).ground) c.toNat) _
 rw[c2x (by omega),c3W h0]
theorem b1g {c:Int} (h0:0≤c) (h1:c<m.cells) : @Eq (List Int) (nth .ints (m6 m st).air c.toNat) [airN m st c 0,airN m st c 1]:=by
 show @Eq (List Int) (nth .ints ((List.range m.cells.toNat).map fun(c:Nat) => [airN m st (c:Int) 0,airN m st (c:Int) 1]) c.toNat) _
 rw[c2w (by omega),show((c.toNat:Nat):Int)=c by omega]
theorem a5k {c s:Int} (h0:0≤c) (h1:c<m.cells) (hs:s=0∨s=1) : @Eq Int (nth .int (nth .ints (m6 m st).air c.toNat) s.toNat) (airN m st c s):=by
 rw[b1g h0 h1]
 rcases hs with rfl|rfl<;>rfl
theorem a7l (h:Wr m st st' d r) (hd:d<m.cells):(m6 m st').ground=(m6 m st).ground.set d.toNat (cX m st' d).ground:=by
 show(List.range m.cells.toNat).map (fun(c:Nat)=>(cX m st' (c:Int)).ground)=((List.range m.cells.toNat).map fun(c:Nat)=>(cX m st (c:Int)).ground).set d.toNat _
 have h0:=h.zero
 have:=b5d (n:=m.cells.toNat) (d:=d.toNat) (by omega) (f:=fun(c:Nat)=>(cX m st (c:Int)).ground) (f':=fun(c:Nat)=>(cX m st' (c:Int)).ground) (fun c hc=>by
  show(cX m st' (c:Int)).ground=(cX m st (c:Int)).ground
  rw[h.far (by omega) (by omega)])
 rw[this,c3W h0]
theorem a1m (h:Wr m st st' d r) (hd:d<m.cells) (hg:(cX m st' d).ground=(cX m st d).ground):(m6 m st').ground=(m6 m st).ground:=by
 rw[a7l h hd,hg]
 have h0:=h.zero
 apply List.ext_getElem (by simp)
 intro i h1 h2
 rw[List.getElem_set]
 split
 ·rename_i e
  subst e
  have:=a2e (m:=m) (st:=st) h0 hd
  rw[k9 .int _ _ h2]at this
  exact this.symm
 ·rfl
theorem b3P (hf : ∀c s,sumC (fl m st' c s)=sumC (fl m st c s)):(m6 m st').air=(m6 m st).air:=by
 show(I9 m).map (fun(c:Nat) => [airN m st' (c:Int) 0,airN m st' (c:Int) 1])=(I9 m).map (fun(c:Nat) => [airN m st (c:Int) 0,airN m st (c:Int) 1])
 have : ∀c s,airN m st' c s=airN m st c s:=fun c s=>by unfold airN;rw[hf]
 refine List.map_congr_left fun c _ => ?_
 rw[this,this]
theorem a8Z {e1 e2 n:Int} (he:b7 m e1 e2 ≠ -1) (hs:sumC (fl m st' e1 e2)=sumC (fl m st e1 e2)+n) (hf : ∀c s,¬(c=e1∧s=e2)→fl m st' c s=fl m st c s) :
  (m6 m st').air=M5 (m6 m st).air (b7 m e1 e2) (1-e2) n:=by
 have hb:=v7 he
 have h2:=H6 he
 have hd:(b7 m e1 e2).toNat<m.cells.toNat:=by omega
 have hback:b7 m (b7 m e1 e2) (1-e2)=e1:=hb.2.2.2.2.2.2.1
 have hself:airN m st' (b7 m e1 e2) (1-e2)=airN m st (b7 m e1 e2) (1-e2)+n:=by
  unfold airN
  rw[hback,if_neg (by omega),if_neg (by omega),show 1-(1-e2)=e2 by omega,hs]
 have hoff : ∀c s,(s=0∨s=1) → ¬(c=b7 m e1 e2∧s=1-e2)→airN m st' c s=airN m st c s:=fun c s hss hne=>by
  unfold airN
  split
  ·rfl
  ·rename_i hcs
   have hb2:=v7 hcs
   rw[hf _ _ (fun hq=>hne ?_)]
   obtain⟨q1,q2⟩:=hq
   have:s=1-e2:=by omega
   refine⟨?_,this⟩
   have h7:=hb2.2.2.2.2.2.2.1
   rw[q1,q2]at h7
   exact h7.symm
 unfold M5
 rw[a5k hb.2.2.2.2.1 hb.2.2.2.2.2.1 (by omega),b1g hb.2.2.2.2.1 hb.2.2.2.2.2.1]
 show(List.range m.cells.toNat).map (fun(c:Nat) => [airN m st' (c:Int) 0,airN m st' (c:Int) 1])=((List.range m.cells.toNat).map fun(c:Nat) => [airN m st (c:Int) 0,airN m st (c:Int) 1]).set _ _
 rw[b5d hd (f:=fun(c:Nat) => [airN m st (c:Int) 0,airN m st (c:Int) 1]) (f':=fun(c:Nat) => [airN m st' (c:Int) 0,airN m st' (c:Int) 1]) (fun c hc=>by
  show[airN m st' (c:Int) 0,airN m st' (c:Int) 1] = [airN m st (c:Int) 0,airN m st (c:Int) 1]
  rw[hoff _ 0 (.inl rfl) (fun q=>hc (by omega)),hoff _ 1 (.inr rfl) (fun q=>hc (by omega))])]
 congr 1
 show[airN m st' ((b7 m e1 e2).toNat:Int) 0,airN m st' ((b7 m e1 e2).toNat:Int) 1]=_
 rw[show(((b7 m e1 e2).toNat:Nat):Int)=b7 m e1 e2 by omega]
 have:e2=0∨e2=1:=by omega
 rcases this with rfl|rfl
 ·rw[hoff _ 0 (.inl rfl) (fun q=>by omega),show(1:Int)=1-0 by rfl,hself]
  rfl
 ·rw[hoff _ 1 (.inr rfl) (fun q=>by omega)]
  have:=hself
  rw[show(1:Int)-1=0 by rfl]at this
  rw[this]
  rfl
theorem c1F {c s:Int} (h0:0≤c) (h1:c<m.cells) (hs:s=0∨s=1):M5 (m6 m st).air c s 0=(m6 m st).air:=by
 unfold M5
 rw[a5k h0 h1 hs,Int.add_zero]
 apply List.ext_getElem (by simp)
 intro i g1 g2
 rw[List.getElem_set]
 split
 ·rename_i e
  subst e
  have:=b1g (m:=m) (st:=st) h0 h1
  rw[k9 .ints _ _ g2]at this
  rw[k9 .ints _ _ g2,this]
  rcases hs with rfl|rfl<;>rfl
 ·rfl
end
end Go.Mo
namespace Go.Mo
open Go.Sx
theorem a4k {m:PMap} {st:List Sto} {w:List OW} {g:List Int} {a:List (List Int)} (h1:n4 (allO m st)=w) (h2:(m6 m st).ground=g) (h3:(m6 m st).air=a):m6 m st=⟨m,w,g,a⟩:=by
 rw[←h1,←h2,←h3]
 rfl
theorem b1k {a b T:List OW} {x y:OW} (ha:a.Perm (x::T)) (hb:b.Perm (y::T)) (hid:y.wlk.id=x.wlk.id):(b.map oid).Perm (a.map oid):=by
 refine(hb.map oid).trans (List.Perm.trans ?_ (ha.map oid).symm)
 simp only[List.map_cons,oid,hid]
 exact List.Perm.refl _
theorem a8H {l:List Wlk} {i:Nat} {w':Wlk} (hi:i<l.length) : ∃R,(y7 l).Perm ([⟨nth .wlk l i,true⟩]++R)∧(y7 (l.set i w')).Perm ([⟨w',true⟩]++R):=by
 refine⟨y7 (l.take i++l.drop (i+1)),?_,?_⟩
 ·have:=(a8a hi).map fun w=>(⟨w,true⟩:OW)
  rw[k9 .wlk l i hi]
  exact this
 ·exact(c4B (y:=w') hi).map fun w=>(⟨w,true⟩:OW)
theorem d3h {l:List Wlk} {i:Nat} {w:Wlk} (hs:srt l) (hi:i<l.length) (hw:w.id=(nth .wlk l i).id) : ∃R,(y7 l).Perm ([⟨nth .wlk l i,true⟩]++R)∧(y7 (F4 (l.set i w) w.id)).Perm ([]++R):=by
 refine⟨y7 (l.take i++l.drop (i+1)),?_,?_⟩
 ·have:=(a8a hi).map fun w=>(⟨w,true⟩:OW)
  rw[k9 .wlk l i hi]
  exact this
 ·have h1:=a8S (i:=i) (b1a hs hw) (by simpa using hi)
  rw[j9 .wlk hi]at h1
  rw[h1,List.take_set_of_le (Nat.le_refl i),List.drop_set_of_lt (by omega)]
  exact List.Perm.refl _
theorem d3f {l:List Wlk} {i j:Nat} {a b:Wlk} (hi:i<l.length) (hj:j<l.length) (hne:i≠j) : ∃R,(y7 l).Perm ([⟨nth .wlk l i,true⟩,⟨nth .wlk l j,true⟩]++R)∧(y7 ((l.set j b).set i a)).Perm ([⟨a,true⟩,⟨b,true⟩]++R):=by
 obtain⟨R1,p1,p2⟩:=a8H (w':=a) hi
 have hj2:j<(l.set i a).length:=by simpa using hj
 obtain⟨R2,q1,q2⟩:=a8H (l:=l.set i a) (w':=b) hj2
 rw[m5 .wlk hne]at q1
 have hx:([(⟨a,true⟩:OW)]++R1).Perm ([(⟨nth .wlk l j,true⟩:OW)]++R2):=p2.symm.trans q1
 have hset:(l.set j b).set i a=(l.set i a).set j b:=List.set_comm _ _ (fun e=>hne e.symm)
 rw[hset]
 by_cases hm:(⟨nth .wlk l j,true⟩:OW)=⟨a,true⟩
 ·
  rw[hm]at hx
  have h1:R1.Perm R2:=hx.cons_inv
  have hmem:(⟨nth .wlk l j,true⟩:OW)∈R1:=by
   have:nth .wlk l j∈l.take i++l.drop (i+1):=by
    rw[k9 .wlk l j hj]
    by_cases hlt:j<i
    ·refine List.mem_append_left _ ?_
     have:(l.take i)[j]'(by simp;omega)=l[j]:=by simp
     rw[←this]
     exact List.getElem_mem _
    ·refine List.mem_append_right _ ?_
     have:(l.drop (i+1))[j-(i+1)]'(by simp;omega)=l[j]:=by simp;congr 1;omega
     rw[←this]
     exact List.getElem_mem _
   have hR:([(⟨nth .wlk l i,true⟩:OW)]++R1).Perm ([(⟨nth .wlk l i,true⟩:OW)]++y7 (l.take i++l.drop (i+1))):=p1.symm.trans (by
    have:=(a8a hi).map fun w=>(⟨w,true⟩:OW)
    rw[k9 .wlk l i hi]
    exact this)
   exact(List.Perm.cons_inv hR).mem_iff.2 (List.mem_map.2 ⟨_,this,rfl⟩)
  obtain⟨s,t,e⟩:=List.append_of_mem hmem
  refine⟨s++t,p1.trans ?_,q2.trans ?_⟩
  ·rw[e]
   exact(List.perm_middle).cons _
  ·have h2:R2.Perm (⟨nth .wlk l j,true⟩::(s++t)):=h1.symm.trans (by rw[e];exact List.perm_middle)
   rw[hm]at h2
   exact(h2.cons _).trans (List.Perm.swap _ _ _)
 ·have hmem:(⟨a,true⟩:OW)∈R2:=by
   have:=hx.mem_iff.1 List.mem_cons_self
   rcases List.mem_cons.1 this with h|h
   ·exact absurd h.symm hm
   ·exact h
  obtain⟨s,t,e⟩:=List.append_of_mem hmem
  have h3:([(⟨nth .wlk l j,true⟩:OW)]++R2).Perm ((⟨a,true⟩:OW)::(⟨nth .wlk l j,true⟩:OW)::(s++t)):=by
   rw[e]
   exact((List.perm_middle).cons _).trans (List.Perm.swap _ _ _)
  have h4:R1.Perm (⟨nth .wlk l j,true⟩::(s++t)):=(hx.trans h3).cons_inv
  refine⟨s++t,p1.trans (h4.cons _),q2.trans ?_⟩
  rw[e]
  exact((List.perm_middle).cons _).trans (List.Perm.swap _ _ _)
section
variable {m:PMap} {st st':List Sto} {d:Int} {r:Rec}
theorem a8h (hI:OneInv m st) (h:Wr m st st' d r) (hd:d<m.cells) {i:Nat} {w':Wlk} {g:Int} (hi:i<(cX m st d).wlks.length) (hid:w'.id=(nth .wlk (cX m st d).wlks i).id)
  (hc:cX m st' d=⟨(cX m st d).cell,(cX m st d).wlks.set i w',g,(cX m st d).outs,(cX m st d).next,(cX m st d).ins⟩) :
  m6 m st'=⟨m,(m6 m st).wlks.set (b8 (m6 m st).wlks (nth .wlk (cX m st d).wlks i).id).toNat ⟨w',true⟩,(m6 m st).ground.set d.toNat g,(m6 m st).air⟩∧((allO m st').map oid).Perm ((allO m st).map oid):=by
 have hfl : ∀c s,fl m st' c s=fl m st c s:=c6d h (by rw[hc]) (by rw[hc])
 obtain⟨R,p1,p2⟩:=a8H (w':=w') hi
 obtain⟨T,t1,t2⟩:=b0b hI.plc h hd hfl p1 (by rw[hc];exact p2)
 have hs:=a3t hI.ids t1 t2 hid
 refine⟨a4k hs.2.2.2 ?_ ?_,b1k t1 t2 hid⟩
 ·rw[a7l h hd,hc]
 ·exact b3P fun c s=>by rw[hfl]
theorem d1C (hI:OneInv m st) (h:Wr m st st' d r) (hd:d<m.cells) {i j:Nat} {a b:Wlk} (hi:i<(cX m st d).wlks.length) (hj:j<(cX m st d).wlks.length) (hne:i≠j) (hid:a.id=(nth .wlk (cX m st d).wlks i).id) (hid2:b.id=(nth .wlk (cX m st d).wlks j).id)
  (hc:cX m st' d=⟨(cX m st d).cell,((cX m st d).wlks.set j b).set i a,(cX m st d).ground,(cX m st d).outs,(cX m st d).next,(cX m st d).ins⟩) :
  m6 m st'=⟨m,((m6 m st).wlks.set (b8 (m6 m st).wlks (nth .wlk (cX m st d).wlks i).id).toNat ⟨a,true⟩).set (b8 (m6 m st).wlks (nth .wlk (cX m st d).wlks j).id).toNat ⟨b,true⟩,(m6 m st).ground,(m6 m st).air⟩∧((allO m st').map oid).Perm ((allO m st).map oid):=by
 have hfl : ∀c s,fl m st' c s=fl m st c s:=c6d h (by rw[hc]) (by rw[hc])
 obtain⟨R,p1,p2⟩:=d3f (a:=a) (b:=b) hi hj hne
 obtain⟨T,t1,t2⟩:=b0b hI.plc h hd hfl p1 (by rw[hc];exact p2)
 have hs:=c7q hI.ids t1 t2 hid hid2
 refine⟨a4k hs.2.2.2.2.2.2 ?_ ?_,?_⟩
 ·exact a1m h hd (by rw[hc])
 ·exact b3P fun c s=>by rw[hfl]
 ·refine(t2.map oid).trans (List.Perm.trans ?_ (t1.map oid).symm)
  simp only[List.map_append,List.map_cons,List.map_nil,oid,hid,hid2]
  exact List.Perm.refl _
theorem d3z (p:Pcl) (l:List Pcl) (hk:p.kind≠1):flyO (l ++ [p])=flyO l:=by
 unfold flyO
 rw[List.filter_append]
 simp[isWp,hk]
theorem d3x (p:Pcl) (l:List Pcl) (hk:p.kind=1):(flyO (l ++ [p])).Perm ([⟨p.wlk,false⟩]++flyO l):=by
 have:flyO (l ++ [p])=flyO l ++ [⟨p.wlk,false⟩]:=by
  unfold flyO
  rw[List.filter_append]
  simp[isWp,hk]
 rw[this]
 exact List.perm_append_comm
theorem c7S (hI:OneInv m st) (h:Wr m st st' d r) (hd:d<m.cells) {i:Nat} {w':Wlk} {e n:Int} (he:b7 m d e ≠ -1) (hi:i<(cX m st d).wlks.length) (hid:w'.id=(nth .wlk (cX m st d).wlks i).id)
  (hc:cX m st' d=⟨(cX m st d).cell,(cX m st d).wlks.set i w',(cX m st d).ground,D2 (cX m st d) e.toNat ⟨0,2,⟨0,0,0,0,0⟩,n⟩,H7 (cX m st d) e.toNat,(cX m st d).ins⟩) :
  m6 m st'=⟨m,(m6 m st).wlks.set (b8 (m6 m st).wlks (nth .wlk (cX m st d).wlks i).id).toNat ⟨w',true⟩,(m6 m st).ground,M5 (m6 m st).air (b7 m d e) (1-e) n⟩∧((allO m st').map oid).Perm ((allO m st).map oid):=by
 have hl:(cX m st d).outs.length=2:=(o7 (hI.cells d h.zero hd).1).2.2.2.2.2.2.1
 obtain⟨f1,f2⟩:=c6b h he hl (by rw[hc]) (by rw[hc]) (hI.seq d e he).1
 obtain⟨R,p1,p2⟩:=a8H (w':=w') hi
 obtain⟨T,t1,t2⟩:=a5H hI.plc h hd he f1 (Y := []) (Y' := []) (R2:=flyO (fl m st d e)) p1 (by rw[hc];exact p2) (List.Perm.refl _) (by rw[f2,d3z _ _ (by show(2:Int)≠1;decide)];exact List.Perm.refl _)
 rw[List.append_nil]at t1 t2
 have hs:=a3t hI.ids t1 t2 hid
 refine⟨a4k hs.2.2.2 ?_ ?_,b1k t1 t2 hid⟩
 ·exact a1m h hd (by rw[hc])
 ·refine a8Z he ?_ f1
  rw[f2]
  unfold sumC
  rw[a0c,a1X]
  rfl
theorem c7T (hI:OneInv m st) (h:Wr m st st' d r) (hd:d<m.cells) {i:Nat} {w w':Wlk} {e:Int} (he:b7 m d e ≠ -1) (hi:i<(cX m st d).wlks.length) (hw:w.id=(nth .wlk (cX m st d).wlks i).id) (hid:w'.id=(nth .wlk (cX m st d).wlks i).id)
  (hc:cX m st' d=⟨(cX m st d).cell,F4 ((cX m st d).wlks.set i w) w.id,(cX m st d).ground,D2 (cX m st d) e.toNat ⟨0,1,w',0⟩,H7 (cX m st d) e.toNat,(cX m st d).ins⟩) :
  m6 m st'=⟨m,(m6 m st).wlks.set (b8 (m6 m st).wlks (nth .wlk (cX m st d).wlks i).id).toNat ⟨w',false⟩,(m6 m st).ground,(m6 m st).air⟩∧((allO m st').map oid).Perm ((allO m st).map oid):=by
 have hok:=(hI.cells d h.zero hd).1
 have hl:(cX m st d).outs.length=2:=(o7 hok).2.2.2.2.2.2.1
 obtain⟨f1,f2⟩:=c6b h he hl (by rw[hc]) (by rw[hc]) (hI.seq d e he).1
 obtain⟨R,p1,p2⟩:=d3h (b0a hok) hi hw
 obtain⟨T,t1,t2⟩:=a5H hI.plc h hd he f1 (Y := []) (Y' := [⟨w',false⟩]) (R2:=flyO (fl m st d e)) p1 (by rw[hc];exact p2) (List.Perm.refl _) (by rw[f2];exact d3x _ _ rfl)
 rw[List.append_nil]at t1
 rw[List.nil_append]at t2
 have hs:=a3t hI.ids t1 t2 hid
 refine⟨a4k hs.2.2.2 ?_ ?_,b1k t1 t2 hid⟩
 ·exact a1m h hd (by rw[hc])
 ·have:=a8Z (n:=0) he (by
   rw[f2]
   unfold sumC
   rw[a0c,a1X]
   rfl) f1
  rw[this]
  have hb:=v7 he
  exact c1F hb.2.2.2.2.1 hb.2.2.2.2.2.1 (by omega)
end
end Go.Mo
namespace Go.Mo
open Go.Sx
section
variable {m:PMap} {st st':List Sto} {d:Int} {r:Rec}
theorem a8I (h0:0≤d) (hd:d<m.cells) {w:Wlk} (hw:w∈(cX m st d).wlks):(⟨w,true⟩:OW)∈allO m st:=by
 refine List.mem_append_left _ (List.mem_flatMap.2 ⟨d.toNat,List.mem_range.2 (by omega),?_⟩)
 rw[c3W h0]
 exact List.mem_map.2 ⟨w,hw,rfl⟩
theorem c0Z (h0:0≤d) (hd:d<m.cells):(m6 m st).ground.set d.toNat (cX m st d).ground=(m6 m st).ground:=by
 apply List.ext_getElem (by simp)
 intro i h1 h2
 rw[List.getElem_set]
 split
 ·rename_i e
  subst e
  have:=a2e (m:=m) (st:=st) h0 hd
  rw[k9 .int _ _ h2]at this
  exact this.symm
 ·rfl
theorem d4A (hI:OneInv m st) {x:OW} (hx:x∈allO m st):S3 m x.wlk=true∧(x.here=true → ∃c:Int,0≤c∧c<m.cells∧x.wlk∈(cX m st c).wlks∧e8 m x.wlk.pos=c):=by
 rcases List.mem_append.1 hx with hx|hx
 ·obtain⟨c,hc,hx⟩:=List.mem_flatMap.1 hx
  obtain⟨w,hw,rfl⟩:=List.mem_map.1 hx
  have hcn:c<m.cells.toNat:=List.mem_range.1 hc
  have hok:=hI.cells (c:Int) (by omega) (by omega)
  have:=(G7.1 hok.1).1 w hw
  exact⟨this.1,fun _=>⟨(c:Int),by omega,by omega,hw,by rw[this.2,hok.2]⟩⟩
 ·obtain⟨e,he,hx⟩:=List.mem_flatMap.1 hx
  obtain⟨p,hp,rfl⟩:=List.mem_map.1 hx
  obtain⟨hp1,hp2⟩:=List.mem_filter.1 hp
  have hk:p.kind=1:=by simpa [isWp]using hp2
  have:=J1.1 (c3G hI hp1).1
  exact⟨by
   rcases this.2.2.2 with h|h
   ·exact h.2.1
   ·omega,fun h=>by cases h⟩
theorem d8G (hI:OneInv m st) (h:Wr m st st' d r) (hd:d<m.cells) (hk:r.kind=1) :
  s4 (m6 m st) r.ord=⟨m6 m st',(I8 m (cX m st d) r.ord).code⟩∧((allO m st').map oid).Perm ((allO m st).map oid):=by
 have h0:=h.zero
 obtain⟨hfr,hc,_⟩:=a1s hk h.fits
 have hself:cX m st' d=(I8 m (cX m st d) r.ord).c:=by rw[h.self,hc]
 have ho:y9 r.ord=true:=by
  rcases X5 h.log with ⟨_,q⟩|⟨q,_⟩|⟨q,_⟩
  ·exact q
  ·omega
  ·omega
 have hok:=(hI.cells d h0 hd).1
 have hcell:=(hI.cells d h0 hd).2
 have hpl:=Z6 hfr
 have hi:=F6 hpl.1
 have hid:=id_w (a9S hfr)
 generalize hII:(l6 (cX m st d).wlks r.ord.who).toNat=i at *
 have hmem:=s0 .wlk hi
 have hwk:=K9 hok hi
 have hpm:=a1Q (L4 hI.ids) ((C8 _).mem_iff.2 (a8I h0 hd hmem))
 have hpos:e8 m (nth .wlk (cX m st d).wlks i).pos=d:=by
  have:=((G7.1 hok).1 _ hmem).2
  rw[hcell]at this
  exact this
 have hL:I8 m (cX m st d) r.ord=S1 m (cX m st d) i ⟨(nth .wlk (cX m st d).wlks i).id,(nth .wlk (cX m st d).wlks i).pos,(nth .wlk (cX m st d).wlks i).j8,r.ord.seq,(nth .wlk (cX m st d).wlks i).last⟩ r.ord:=by
  unfold I8
  rw[if_neg hpl.1]
  simp only
  rw[hII,if_neg (by omega),if_neg (by omega)]
 have hpw:b8 (m6 m st).wlks r.ord.who=b8 (n4 (allO m st)) (nth .wlk (cX m st d).wlks i).id:=by rw[hid];rfl
 have hR:s4 (m6 m st) r.ord=a3H (m6 m st) (b8 (m6 m st).wlks (nth .wlk (cX m st d).wlks i).id).toNat (nth .wlk (cX m st d).wlks i) r.ord:=by
  unfold s4
  simp only
  rw[hpw]
  have e:nth .ow (m6 m st).wlks (b8 (n4 (allO m st)) (nth .wlk (cX m st d).wlks i).id).toNat=⟨nth .wlk (cX m st d).wlks i,true⟩:=hpm.2.2
  rw[e,if_neg (fun q=>q ⟨hpm.1,rfl⟩)]
  show(if r.ord.seq<(nth .wlk (cX m st d).wlks i).seq then _ else if r.ord.seq=(nth .wlk (cX m st d).wlks i).seq then _ else _)=_
  rw[if_neg (by omega),if_neg (by omega)]
  rfl
 rw[hR,hL]
 rw[hL]at hself
 clear hR hL hc
 have hg:=c0Z (st:=st) h0 hd
 have fin : ∀code:Int,cX m st' d=(I1 (cX m st d) i ⟨(nth .wlk (cX m st d).wlks i).id,(nth .wlk (cX m st d).wlks i).pos,(nth .wlk (cX m st d).wlks i).j8,r.ord.seq,(nth .wlk (cX m st d).wlks i).last⟩ (cX m st d).ground code).c →
   oFin (m6 m st) (b8 (m6 m st).wlks (nth .wlk (cX m st d).wlks i).id).toNat (nth .wlk (cX m st d).wlks i) r.ord.seq true (m6 m st).ground (m6 m st).air code=⟨m6 m st',code⟩∧((allO m st').map oid).Perm ((allO m st).map oid):=fun code e=>by
  have:=a8h hI h hd hi (w':=⟨(nth .wlk (cX m st d).wlks i).id,(nth .wlk (cX m st d).wlks i).pos,(nth .wlk (cX m st d).wlks i).j8,r.ord.seq,code⟩) rfl e
  refine⟨?_,this.2⟩
  rw[this.1,hg]
  rfl
 have hord:=G6.1 ho
 unfold a3H
 unfold S1 at hself ⊢
 by_cases k1:r.ord.kind=1
 ·rw[if_pos k1]
  rw[if_pos k1]at hself ⊢
  have hdst:r.ord.dest=0∨r.ord.dest=1:=by omega
  unfold b0B
  unfold a0z at hself ⊢
  simp only at hself ⊢
  have hmap:(m6 m st).map=m:=rfl
  rw[hmap]
  rw[hcell]at hself ⊢
  by_cases g1:e8 m ((nth .wlk (cX m st d).wlks i).pos+(2 * r.ord.dest-1)) = -1
  ·rw[if_pos g1]
   rw[if_pos g1]at hself ⊢
   exact fin 2 hself
  rw[if_neg g1]
  rw[if_neg g1]at hself ⊢
  by_cases g2:e8 m ((nth .wlk (cX m st d).wlks i).pos+(2 * r.ord.dest-1))=d
  ·rw[if_pos g2]at hself ⊢
   have:=a8h hI h hd hi (w':=⟨(nth .wlk (cX m st d).wlks i).id,(nth .wlk (cX m st d).wlks i).pos+(2 * r.ord.dest-1),(nth .wlk (cX m st d).wlks i).j8,r.ord.seq,1⟩) rfl hself
   refine⟨?_,this.2⟩
   rw[this.1,hg,g2,hpos]
   simp only[decide_true]
   rfl
  rw[if_neg g2]at hself ⊢
  obtain⟨s1,s2⟩:=b5W hdst g1 (by rw[hpos];omega) (by rw[hpos];exact g2)
  rw[hpos]at s1 s2
  have hnx : @LE.le Int _ (nth .int (cX m st d).next r.ord.dest.toNat) 250:=hI.next d r.ord.dest s2
  have hnx2 : ¬ @Eq Int (nth .int (cX m st d).next r.ord.dest.toNat) 5000:=fun e=>by rw[e]at hnx;exact absurd hnx (by decide)
  rw[if_neg hnx2]at hself ⊢
  have:=c7T hI h hd s2 hi (w:=⟨(nth .wlk (cX m st d).wlks i).id,(nth .wlk (cX m st d).wlks i).pos,(nth .wlk (cX m st d).wlks i).j8,r.ord.seq,(nth .wlk (cX m st d).wlks i).last⟩) (w':=⟨(nth .wlk (cX m st d).wlks i).id,(nth .wlk (cX m st d).wlks i).pos+(2 * r.ord.dest-1),(nth .wlk (cX m st d).wlks i).j8,r.ord.seq,1⟩) rfl rfl (by
   rw[hself,hid,hcell])
  refine⟨?_,this.2⟩
  rw[this.1,hpos,decide_eq_false g2]
  rfl
 rw[if_neg k1]
 rw[if_neg k1]at hself ⊢
 by_cases k2:r.ord.kind=2
 ·rw[if_pos k2]
  rw[if_pos k2]at hself ⊢
  unfold a8u
  unfold a0B at hself ⊢
  simp only at hself ⊢
  have hmap:(m6 m st).map=m:=rfl
  rw[hmap,hpos]
  by_cases g1:l6 (cX m st d).wlks r.ord.dest<0
  ·rw[if_pos g1]at hself ⊢
   rw[if_pos ?_]
   ·exact fin 4 hself
   ·rintro⟨q1,q2,q3⟩
    have hlt:=V0 (m6 m st).wlks r.ord.dest
    have hvm:nth .ow (m6 m st).wlks (b8 (m6 m st).wlks r.ord.dest).toNat∈n4 (allO m st):=s0 .ow (show(b8 (m6 m st).wlks r.ord.dest).toNat<(m6 m st).wlks.length by omega)
    obtain⟨c,c0,c1,c2,c3⟩:=(d4A hI ((C8 _).mem_iff.1 hvm)).2 q2
    rw[c3]at q3
    subst q3
    have hfd:=d2F (o7 hok).1 c2
    have hvid:=a1w q1
    rw[hvid]at hfd
    exact absurd g1 (by have:=(T6 hfd.1).2;omega)
  rw[if_neg g1]at hself ⊢
  have hj:=F6 g1
  have hjid:=id_w (l:=(cX m st d).wlks) (id:=r.ord.dest) (by simp[u4];omega)
  generalize hJ:(l6 (cX m st d).wlks r.ord.dest).toNat=j at *
  have hjm:=s0 .wlk hj
  have hpj:=a1Q (L4 hI.ids) ((C8 _).mem_iff.2 (a8I h0 hd hjm))
  have hjpos:e8 m (nth .wlk (cX m st d).wlks j).pos=d:=by
   have:=((G7.1 hok).1 _ hjm).2
   rw[hcell]at this
   exact this
  have hpj2:b8 (m6 m st).wlks r.ord.dest=b8 (n4 (allO m st)) (nth .wlk (cX m st d).wlks j).id:=by rw[hjid];rfl
  have ej:nth .ow (m6 m st).wlks (b8 (n4 (allO m st)) (nth .wlk (cX m st d).wlks j).id).toNat=⟨nth .wlk (cX m st d).wlks j,true⟩:=hpj.2.2
  rw[hpj2,ej]
  rw[if_neg (fun q=>q ⟨hpj.1,rfl,hjpos⟩)]
  by_cases g2:(nth .wlk (cX m st d).wlks i).j8<r.ord.n
  ·rw[if_pos g2]
   rw[if_pos g2]at hself ⊢
   exact fin 3 hself
  rw[if_neg g2]
  rw[if_neg g2]at hself ⊢
  by_cases g3:99<(nth .wlk (cX m st d).wlks j).j8+r.ord.n
  ·rw[if_pos g3]
   rw[if_pos g3]at hself ⊢
   exact fin 5 hself
  rw[if_neg g3]
  rw[if_neg g3]at hself ⊢
  have hne:i≠j:=fun e=>by
   subst e
   rw[hid]at hjid
   exact a0l ho k2 hjid.symm
  have:=d1C hI h hd hi hj hne (a:=⟨(nth .wlk (cX m st d).wlks i).id,(nth .wlk (cX m st d).wlks i).pos,(nth .wlk (cX m st d).wlks i).j8-r.ord.n,r.ord.seq,1⟩) (b:=⟨(nth .wlk (cX m st d).wlks j).id,(nth .wlk (cX m st d).wlks j).pos,(nth .wlk (cX m st d).wlks j).j8+r.ord.n,(nth .wlk (cX m st d).wlks j).seq,(nth .wlk (cX m st d).wlks j).last⟩) rfl rfl hself
  refine⟨?_,this.2⟩
  rw[this.1]
  rfl
 rw[if_neg k2]
 rw[if_neg k2]at hself ⊢
 have hgn:=a2e (st:=st) h0 hd
 by_cases k3:r.ord.kind=3
 ·rw[if_pos k3]
  rw[if_pos k3]at hself ⊢
  unfold b0D
  unfold a0C at hself ⊢
  simp only at hself ⊢
  have hmap:(m6 m st).map=m:=rfl
  rw[hmap,hpos]
  by_cases g2:(nth .wlk (cX m st d).wlks i).j8<r.ord.n
  ·rw[if_pos g2]
   rw[if_pos g2]at hself ⊢
   exact fin 3 hself
  rw[if_neg g2]
  rw[if_neg g2]at hself ⊢
  rw[hgn]
  by_cases g3:900<(cX m st d).ground+r.ord.n
  ·rw[if_pos g3]
   rw[if_pos g3]at hself ⊢
   exact fin 5 hself
  rw[if_neg g3]
  rw[if_neg g3]at hself ⊢
  have:=a8h hI h hd hi (w':=⟨(nth .wlk (cX m st d).wlks i).id,(nth .wlk (cX m st d).wlks i).pos,(nth .wlk (cX m st d).wlks i).j8-r.ord.n,r.ord.seq,1⟩) rfl hself
  refine⟨?_,this.2⟩
  rw[this.1]
  rfl
 rw[if_neg k3]
 rw[if_neg k3]at hself ⊢
 by_cases k4:r.ord.kind=4
 ·rw[if_pos k4]
  rw[if_pos k4]at hself ⊢
  unfold b0C
  unfold a0A at hself ⊢
  simp only at hself ⊢
  have hmap:(m6 m st).map=m:=rfl
  rw[hmap,hpos]
  rw[hgn]
  by_cases g2:(cX m st d).ground<r.ord.n
  ·rw[if_pos g2]
   rw[if_pos g2]at hself ⊢
   exact fin 6 hself
  rw[if_neg g2]
  rw[if_neg g2]at hself ⊢
  by_cases g3:99<(nth .wlk (cX m st d).wlks i).j8+r.ord.n
  ·rw[if_pos g3]
   rw[if_pos g3]at hself ⊢
   exact fin 5 hself
  rw[if_neg g3]
  rw[if_neg g3]at hself ⊢
  have:=a8h hI h hd hi (w':=⟨(nth .wlk (cX m st d).wlks i).id,(nth .wlk (cX m st d).wlks i).pos,(nth .wlk (cX m st d).wlks i).j8+r.ord.n,r.ord.seq,1⟩) rfl hself
  refine⟨?_,this.2⟩
  rw[this.1]
  rfl
 rw[if_neg k4]
 rw[if_neg k4]at hself ⊢
 by_cases k5:r.ord.kind=5
 ·rw[if_pos k5]
  rw[if_pos k5]at hself ⊢
  unfold a5p
  unfold U0 at hself ⊢
  simp only at hself ⊢
  have hmap:(m6 m st).map=m:=rfl
  rw[hmap,hpos]
  by_cases g1:B4 m (nth .wlk (cX m st d).wlks i).pos r.ord.dest=false
  ·rw[if_pos g1]
   rw[if_pos g1]at hself ⊢
   exact fin 7 hself
  rw[if_neg g1]
  rw[if_neg g1]at hself ⊢
  by_cases g2:(nth .wlk (cX m st d).wlks i).j8<r.ord.n
  ·rw[if_pos g2]
   rw[if_pos g2]at hself ⊢
   exact fin 3 hself
  rw[if_neg g2]
  rw[if_neg g2]at hself ⊢
  have he:b7 m d r.ord.dest ≠ -1:=by
   have g1:B4 m (nth .wlk (cX m st d).wlks i).pos r.ord.dest=true:=by simpa using g1
   unfold B4 at g1
   rw[hpos]at g1
   simp only[decide_eq_true_eq]at g1
   exact g1.1
  have hnx : @LE.le Int _ (nth .int (cX m st d).next r.ord.dest.toNat) 250:=hI.next d r.ord.dest he
  have hnx2 : ¬ @Eq Int (nth .int (cX m st d).next r.ord.dest.toNat) 5000:=fun e=>by rw[e]at hnx;exact absurd hnx (by decide)
  have hb:=v7 he
  have hair:=c4c hI (b7 m d r.ord.dest) (1-r.ord.dest)
  have hq : ¬(100000<airN m st (b7 m d r.ord.dest) (1-r.ord.dest)+r.ord.n):=by omega
  rw[a5k hb.2.2.2.2.1 hb.2.2.2.2.2.1 (by omega),if_neg hq]
  rw[if_neg hnx2]at hself ⊢
  have:=c7S hI h hd (n:=r.ord.n) he hi (w':=⟨(nth .wlk (cX m st d).wlks i).id,(nth .wlk (cX m st d).wlks i).pos,(nth .wlk (cX m st d).wlks i).j8-r.ord.n,r.ord.seq,1⟩) rfl hself
  refine⟨?_,this.2⟩
  rw[this.1]
  rfl
 rw[if_neg k5]
 rw[if_neg k5]at hself ⊢
 exact fin 1 hself
end
end Go.Mo
namespace Go.Mo
open Go.Sx
theorem c5e {m:PMap} {c:Cll} {s:Nat} {p:Pcl} (h:(y4 m c s p).ok=true):c.ground+p.j8≤900∧(p.kind=2→(y4 m c s p).c=⟨c.cell,c.wlks,c.ground+p.j8,c.outs,c.next,G0 c s⟩) ∧
  (¬p.kind=2→l6 c.wlks p.wlk.id<0∧e8 m p.wlk.pos=c.cell∧(y4 m c s p).c=⟨c.cell,N3 c.wlks p.wlk,c.ground,c.outs,c.next,G0 c s⟩):=by
 unfold y4 at h ⊢
 split at h
 ·cases h
 rename_i h1
 rw[if_neg h1]
 refine⟨by omega,fun hk => ?_,fun hk => ?_⟩
 ·rw[if_pos hk]
 ·rw[if_neg hk]at h ⊢
  split at h
  ·cases h
  ·rename_i h3
   rw[if_neg h3]
   exact⟨by omega,by omega,rfl⟩
theorem d3g {l:List Wlk} {w:Wlk} (h:l6 l w.id<0):(y7 (N3 l w)).Perm ([⟨w,true⟩]++y7 l):=by
 unfold N3
 rw[d1p h]
 generalize D4 l w.id=n
 unfold insL y7
 rw[List.map_append,List.map_append]
 have:(List.map (fun w=>(⟨w,true⟩:OW)) l)=List.map (fun w=>(⟨w,true⟩:OW)) (l.take n)++List.map (fun w=>(⟨w,true⟩:OW)) (l.drop n):=by
  rw[←List.map_append,List.take_append_drop]
 rw[this]
 exact List.perm_middle
theorem d3y (p:Pcl) (l:List Pcl) (hk:p.kind=1):flyO (p::l)=⟨p.wlk,false⟩::flyO l:=by
 unfold flyO
 rw[List.filter_cons_of_pos (by simp[isWp,hk])]
 rfl
theorem c9m (p:Pcl) (l:List Pcl) (hk:p.kind≠1):flyO (p::l)=flyO l:=by
 unfold flyO
 rw[List.filter_cons_of_neg (by simp[isWp,hk])]
theorem a9m (p:Pcl) (l:List Pcl):sumC (p::l)=cC p+sumC l:=by
 have:=a0c cC [p] l
 rw[a1X]at this
 exact this
section
variable {m:PMap} {st st':List Sto} {d:Int} {r:Rec}
theorem d8r (h:Wr m st st' d r) (hk:r.kind=2):J8 m r.pcl=true:=a8B h.log hk
theorem d2N (hI:OneInv m st) (h:Wr m st st' d r) (hd:d<m.cells) (hk:r.kind=2) (hs:Sent m st (b7 m d r.side) (1-r.side) r.pcl) (hw:r.pcl.kind=1) :
  B8 (m6 m st) r.pcl.wlk.id=m6 m st'∧((allO m st').map oid).Perm ((allO m st).map oid):=by
 have h0:=h.zero
 obtain⟨hsd,f1,f2⟩:=d7o h hk (fun c c0 c1=>(hI.cells c c0 c1).1) hs
 have hb:=v7 hsd
 have hback:b7 m (b7 m d r.side) (1-r.side)=d:=hb.2.2.2.2.2.2.1
 have he:b7 m (b7 m d r.side) (1-r.side) ≠ -1:=by rw[hback];omega
 obtain⟨_,hr,hc⟩:=a0I hk h.fits
 obtain⟨_,_,g3⟩:=c5e hr
 obtain⟨g4,g5,g6⟩:=g3 (by omega)
 have hself:cX m st' d=⟨(cX m st d).cell,N3 (cX m st d).wlks r.pcl.wlk,(cX m st d).ground,(cX m st d).outs,(cX m st d).next,G0 (cX m st d) r.side.toNat⟩:=by rw[h.self,hc,g6]
 obtain⟨T,t1,t2⟩:=a5H hI.plc h hd he f1 (X := []) (X' := [⟨r.pcl.wlk,true⟩]) (R1:=y7 (cX m st d).wlks) (Y := [⟨r.pcl.wlk,false⟩]) (Y' := []) (R2:=flyO (fl m st' (b7 m d r.side) (1-r.side)))
  (List.Perm.refl _) (by rw[hself];exact d3g g4) (by rw[f2,d3y _ _ hw];exact List.Perm.refl _) (List.Perm.refl _)
 rw[List.nil_append]at t1
 rw[List.append_nil]at t2
 have hss:=a3t (x:=⟨r.pcl.wlk,false⟩) (y:=⟨r.pcl.wlk,true⟩) hI.ids t1 t2 rfl
 refine⟨?_,b1k (x:=⟨r.pcl.wlk,false⟩) (y:=⟨r.pcl.wlk,true⟩) t1 t2 rfl⟩
 have hair:(m6 m st').air=(m6 m st).air:=by
  have:=a8Z (n:=0) he (by
   rw[f2,a9m]
   have:cC r.pcl=0:=by unfold cC;rw[if_pos hw]
   omega) f1
  rw[this,hback,show 1-(1-r.side)=r.side by omega]
  exact c1F h0 hd hb.1
 unfold B8
 have hp:0≤b8 (m6 m st).wlks r.pcl.wlk.id:=hss.1
 rw[if_pos hp]
 have hn:nth .ow (m6 m st).wlks (b8 (m6 m st).wlks r.pcl.wlk.id).toNat=⟨r.pcl.wlk,false⟩:=hss.2.2.1
 rw[hn]
 refine(a4k hss.2.2.2 ?_ hair).symm
 exact a1m h hd (by rw[hself])
theorem d3L (hI:OneInv m st) (h:Wr m st st' d r) (hd:d<m.cells) (hk:r.kind=2) (hs:Sent m st (b7 m d r.side) (1-r.side) r.pcl) (hw : ¬r.pcl.kind=1) :
  Y0 (m6 m st) d r.side r.pcl.j8=m6 m st'∧((allO m st').map oid).Perm ((allO m st).map oid):=by
 have h0:=h.zero
 obtain⟨hsd,f1,f2⟩:=d7o h hk (fun c c0 c1=>(hI.cells c c0 c1).1) hs
 have hb:=v7 hsd
 have hback:b7 m (b7 m d r.side) (1-r.side)=d:=hb.2.2.2.2.2.2.1
 have he:b7 m (b7 m d r.side) (1-r.side) ≠ -1:=by rw[hback];omega
 obtain⟨_,hr,hc⟩:=a0I hk h.fits
 obtain⟨g1,g2,_⟩:=c5e hr
 have hpk:=J1.1 (d8r h hk)
 have hk2:r.pcl.kind=2:=by omega
 have hself:cX m st' d=⟨(cX m st d).cell,(cX m st d).wlks,(cX m st d).ground+r.pcl.j8,(cX m st d).outs,(cX m st d).next,G0 (cX m st d) r.side.toNat⟩:=by rw[h.self,hc,g2 hk2]
 obtain⟨T,t1,t2⟩:=a5H hI.plc h hd he f1 (X := []) (X' := []) (R1:=y7 (cX m st d).wlks) (Y := []) (Y' := []) (R2:=flyO (fl m st' (b7 m d r.side) (1-r.side)))
  (List.Perm.refl _) (by rw[hself];exact List.Perm.refl _) (by rw[f2,c9m _ _ hw];exact List.Perm.refl _) (List.Perm.refl _)
 rw[List.nil_append,List.nil_append]at t1 t2
 have hpm:=t1.trans t2.symm
 refine⟨?_,(hpm.map oid).symm⟩
 have hcc:cC r.pcl=r.pcl.j8:=by unfold cC;rw[if_neg hw]
 have hair:(m6 m st').air=M5 (m6 m st).air d r.side (-r.pcl.j8):=by
  have:=a8Z (n := -r.pcl.j8) he (by rw[f2,a9m,hcc];omega) f1
  rw[this,hback,show 1-(1-r.side)=r.side by omega]
 have hav:r.pcl.j8≤airN m st d r.side:=by
  unfold airN
  rw[if_neg hsd,f2,a9m,hcc]
  have:=(c4s (m:=m) (l:=fl m st' (b7 m d r.side) (1-r.side)) fun p hp=>(c3G hI (c:=b7 m d r.side) (s:=1-r.side) (by rw[f2];exact List.mem_cons_of_mem _ hp)).1).1
  omega
 unfold Y0
 rw[a5k h0 hd hb.1,a2e h0 hd]
 have hmap:(m6 m st).map=m:=rfl
 rw[if_pos ⟨h0,hd,hb.1,by omega,hav,g1⟩,hmap]
 refine(a4k (b0o hI.ids hpm).symm ?_ ?_).symm
 ·rw[a7l h hd,hself]
 ·rw[hair]
  unfold M5
  rw[a5k h0 hd hb.1,Int.sub_eq_add_neg]
theorem d6R (hI:OneInv m st) (h:Wr m st st' d r) (hd:d<m.cells) (hk:r.kind=3) (hack:r.n≤inX m st (b7 m d r.side) (1-r.side)) :
  m6 m st'=m6 m st∧((allO m st').map oid).Perm ((allO m st).map oid):=by
 have hfl:=d8B h hk hack
 obtain⟨_,hr,hc⟩:=a0U hk h.fits
 have hself:cX m st' d=(I0 (cX m st d) r.side.toNat r.n).c:=by rw[h.self,hc]
 have hw:(cX m st' d).wlks=(cX m st d).wlks∧(cX m st' d).ground=(cX m st d).ground:=by
  rw[hself]
  unfold I0
  split<;>exact⟨rfl,rfl⟩
 obtain⟨T,t1,t2⟩:=b0b hI.plc h hd hfl (X := []) (X' := []) (R1:=y7 (cX m st d).wlks) (List.Perm.refl _) (by rw[hw.1];exact List.Perm.refl _)
 rw[List.nil_append]at t1 t2
 have hpm:=t1.trans t2.symm
 refine⟨?_,(hpm.map oid).symm⟩
 exact a4k (b0o hI.ids hpm).symm (a1m h hd hw.2) (b3P fun c s=>by rw[hfl])
end
end Go.Mo
namespace Go.Mo
open Go.Sx
theorem d3Q {w w':Wld} (hok:m8 w=true) (hf:Fence w) (hm:Mail w) (hs:StepC w w'):w'.map=w.map∧Did w w':=by
 cases hs with
 |hear i hi hd =>
  obtain⟨X,hX,e⟩:=heard hok hi hd
  rw[e]
  generalize nth .msg w.net i=x at *
  have hw:=a5u hf hX
  have hcs:=a2R hX.stos hX.ok
  refine⟨rfl,?_⟩
  cases hw with
  |no h=>exact .quiet h
  |yes h hkk hh hss hff =>
   have hlen:=(D9.1 hX.stos).2.1
   have h0:=h.zero
   have hlt:=h.lt
   refine .wrote x.cell (p9 x) h (by omega) (fun hk => ?_) (fun hk => ?_)
   ·have k5:x.kind=5:=by
     rcases hkk with h0|h0|h0
     ·rw[p9,if_pos h0]at hk;cases hk
     ·exact h0
     ·rw[p9,if_neg (by omega),if_neg (by omega)]at hk;cases hk
    have er:p9 x=⟨2,x6,x.side,x.pcl,0⟩:=by rw[p9,if_neg (by omega),if_pos k5]
    rw[er]
    exact hm.pcl x hX.mem k5
   ·have k6:x.kind=6:=by
     rcases hkk with h0|h0|h0
     ·rw[p9,if_pos h0]at hk;cases hk
     ·rw[p9,if_neg (by omega),if_pos h0]at hk;cases hk
     ·exact h0
    have er:p9 x=⟨3,x6,x.side,A2,x.n⟩:=by rw[p9,if_neg (by omega),if_neg (by omega)]
    rw[er]
    exact hm.got x hX.mem k6
 |_=>exact⟨rfl,.quiet (.refl _)⟩
theorem c6c {m:PMap} {st st':List Sto} (h:Lsame st st') (c s:Int):fl m st' c s=fl m st c s:=by
 unfold fl
 rw[h.ou,h.in]
theorem c1E {m:PMap} {st st':List Sto} (h:Lsame st st'):allO m st'=allO m st∧m6 m st'=m6 m st:=by
 have e:allO m st'=allO m st:=by
  unfold allO
  have e1:(fun(c:Nat)=>y7 (cX m st' (c:Int)).wlks)=(fun(c:Nat)=>y7 (cX m st (c:Int)).wlks):=funext fun c=>by rw[h.cX]
  have e2:(fun(e:Nat×Nat)=>flyO (fl m st' (e.1:Int) (e.2:Int)))=(fun(e:Nat×Nat)=>flyO (fl m st (e.1:Int) (e.2:Int))):=funext fun c=>by rw[c6c h]
  rw[e1,e2]
 refine⟨e,?_⟩
 have e3:(fun(c:Nat)=>(cX m st' (c:Int)).ground)=(fun(c:Nat)=>(cX m st (c:Int)).ground):=funext fun c=>by rw[h.cX]
 have e4 : ∀c s,airN m st' c s=airN m st c s:=fun c s=>by unfold airN;rw[c6c h]
 have e5:(fun(c:Nat) => [airN m st' (c:Int) 0,airN m st' (c:Int) 1])=(fun(c:Nat) => [airN m st (c:Int) 0,airN m st (c:Int) 1]):=funext fun c=>by rw[e4,e4]
 unfold m6
 rw[e,e3,e5]
theorem d3R {L:List Int} {w w':Wld} (hI:OneInv w.map w.stores) (hp:Pl L w.map w.stores) (h:Did w w'):Goes w.map w.stores w'.stores∧Pl L w.map w'.stores:=by
 cases h with
 |quiet h =>
  refine⟨.quiet h (c1E h).2,fun c s hcs => ?_,by rw[(c1E h).1];exact hp.ids⟩
  rw[h.nx,(h.same c).2]
  exact hp.next c s hcs
 |wrote d r h hd hin hack =>
  have next : ∀c s,b7 w.map c s ≠ -1→nxX w.map w'.stores c s≤(stAt w'.stores c).recs.length:=fun c s hcs=>by
   have h2:=H6 hcs
   have hi:=D7 hcs
   have h3:=hp.next c s hcs
   by_cases hc:c=d
   ·subst hc
    have:=h.next h2.1
    rw[h.at.2]
    simp only[List.length_append,List.length_cons,List.length_nil]
    omega
   ·have e:nxX w.map w'.stores c s=nxX w.map w.stores c s:=by unfold nxX;rw[h.far hi.1 hc]
    have:=h.zero
    rw[e,h.off (by omega)]
    exact h3
  rcases X5 h.log with ⟨hk,_⟩|⟨hk,_⟩|⟨hk,_⟩
  ·obtain⟨e,hids⟩:=d8G hI h hd hk
   exact⟨.order d r h hd hk e,next,hids.trans hp.ids⟩
  ·by_cases hw:r.pcl.kind=1
   ·obtain⟨e,hids⟩:=d2N hI h hd hk (hin hk) hw
    exact⟨.land d r h hd hk hw e,next,hids.trans hp.ids⟩
   ·obtain⟨e,hids⟩:=d3L hI h hd hk (hin hk) hw
    exact⟨.down d r h hd hk hw e,next,hids.trans hp.ids⟩
  ·obtain⟨e,hids⟩:=d6R hI h hd hk (hack hk)
   exact⟨.word d r h hd hk e,next,hids.trans hp.ids⟩
theorem d1B {m:PMap} {st:List Sto} (hI:OneInv m st):r6 (m6 m st)=true:=by
 have hp:=n6.1 hI.plc
 have hlen:(m6 m st).ground.length=m.cells.toNat∧(m6 m st).air.length=m.cells.toNat:=by
  constructor
  ·show((I9 m).map _).length=_
   simp[I9]
  ·show((I9 m).map _).length=_
   simp[I9]
 have hmap:(m6 m st).map=m:=rfl
 refine S8.2 ⟨N0.2 ⟨hI.plc,?_,?_⟩,?_,?_⟩
 ·rw[hlen.1,hmap];omega
 ·rw[hlen.2,hmap];omega
 ·unfold a1u
  rw[l8]
  intro i hi
  have hi2:(i:Int)<m.cells:=by rw[hlen.1]at hi;omega
  have hg:=a2e (m:=m) (st:=st) (c:=(i:Int)) (by omega) hi2
  have ha:=b1g (m:=m) (st:=st) (c:=(i:Int)) (by omega) hi2
  rw[Int.toNat_natCast]at hg ha
  have hc:=o7 (hI.cells (i:Int) (by omega) hi2).1
  have a0:=c4c hI (i:Int) 0
  have a1:=c4c hI (i:Int) 1
  unfold U8
  rw[hg,ha]
  simp only[decide_eq_true_eq]
  exact⟨hc.2.2.2.2.1,hc.2.2.2.2.2.1,rfl,a0.1,Int.le_trans a0.2 (by decide),a1.1,Int.le_trans a1.2 (by decide)⟩
 ·rw[l8]
  intro i hi
  have hs:Z9 (m6 m st).wlks:=L4 hI.ids
  have hm:nth .ow (m6 m st).wlks i∈allO m st:=(C8 _).mem_iff.1 (s0 .ow hi)
  unfold owAt
  rw[hmap,(d4A hI hm).1,Bool.true_and,Bool.or_eq_true]
  by_cases h0:i=0
  ·left;simp[h0]
  ·right
   rw[decide_eq_true_eq,k9 .ow _ _ hi,k9 .ow _ _ (show i-1<(m6 m st).wlks.length by omega)]
   exact List.pairwise_iff_getElem.1 hs (i-1) i (by omega) hi (by omega)
theorem d8t {m:PMap} {st:List Sto} {L:List Int} (hn:((allO m st).map oid).Nodup) (hL:L.Pairwise (· < ·)) (hp:((allO m st).map oid).Perm L):(m6 m st).wlks.map oid=L:=by
 have hs:Z9 (m6 m st).wlks:=L4 hn
 refine List.Perm.eq_of_pairwise (le:=fun(a b:Int)=>a<b) (fun a b _ _ h1 h2=>by omega) ?_ hL (((C8 _).map oid).trans hp)
 exact List.pairwise_map.2 hs
theorem c0u {m:PMap} {st:List Sto} {x:OW}:x∈(m6 m st).wlks↔x∈allO m st:=(C8 _).mem_iff
theorem b7O {who seq code:Int} {a b:List OW} (hl:b.length=a.length) (h : ∀i,i<a.length→b0U who seq code (nth .ow a i) (nth .ow b i)):Hist who seq code a b:=by
 refine⟨fun x hx => ?_,fun y hy => ?_⟩
 ·obtain⟨i,hi,rfl⟩:=a1b .ow hx
  exact⟨_,s0 .ow (show i<b.length by omega),h i hi⟩
 ·obtain⟨i,hi,rfl⟩:=a1b .ow hy
  exact⟨_,s0 .ow (show i<a.length by omega),h i (by omega)⟩
theorem a6f {who seq code:Int} {a b:List OW} (h:b=a):Hist who seq code a b:=by
 subst h
 exact b7O rfl fun i _=>⟨rfl,.inl ⟨rfl,rfl⟩⟩
theorem a4y {m:PMap} {st st':List Sto} {d:Int} {r:Rec} (hI:OneInv m st) (h:Wr m st st' d r) (hd:d<m.cells) (hk:r.kind=1) :
  y9 r.ord=true ∧ ∃w∈(cX m st d).wlks,w.id=r.ord.who∧w.seq<r.ord.seq∧0≤b8 (m6 m st).wlks r.ord.who∧nth .ow (m6 m st).wlks (b8 (m6 m st).wlks r.ord.who).toNat=⟨w,true⟩:=by
 obtain⟨hfr,_,_⟩:=a1s hk h.fits
 have hpl:=Z6 hfr
 have hi:=F6 hpl.1
 have hid:=id_w (a9S hfr)
 generalize hII:(l6 (cX m st d).wlks r.ord.who).toNat=i at *
 have hmem:=s0 .wlk hi
 have hpm:=a1Q (L4 hI.ids) ((C8 _).mem_iff.2 (a8I h.zero hd hmem))
 have ho:y9 r.ord=true:=by
  rcases X5 h.log with ⟨_,q⟩|⟨q,_⟩|⟨q,_⟩
  ·exact q
  ·omega
  ·omega
 refine⟨ho,_,hmem,hid,hpl.2,?_⟩
 rw[←hid]
 exact⟨hpm.1,hpm.2.2⟩
theorem b5P {m:PMap} {st st':List Sto} (hI:OneInv m st) (h:Goes m st st'):(∃d r,Wr m st st' d r∧d<m.cells∧r.kind=1∧Hist r.ord.who r.ord.seq (I8 m (cX m st d) r.ord).code (m6 m st).wlks (m6 m st').wlks ∧ ∃y∈(m6 m st').wlks,y.wlk.id=r.ord.who∧r.ord.seq≤y.wlk.seq) ∨
  ((Lsame st st' ∨ ∃d r,Wr m st st' d r∧d<m.cells∧r.kind≠1) ∧ ∀who seq code,Hist who seq code (m6 m st).wlks (m6 m st').wlks):=by
 cases h with
 |quiet h e=>exact .inr ⟨.inl h,fun _ _ _=>a6f (by rw[e])⟩
 |word d r h hd hk e=>exact .inr ⟨.inr ⟨d,r,h,hd,by omega⟩,fun _ _ _=>a6f (by rw[e])⟩
 |order d r h hd hk e =>
  left
  obtain⟨ho,w,_,hid,hq,p0,pn⟩:=a4y hI h hd hk
  have hrel:=b5n (o:=m6 m st) ho p0 (by rw[pn]) (by rw[pn];exact hq)
  rw[e]at hrel
  have hlt:=V0 (m6 m st).wlks r.ord.who
  have hk2:(b8 (m6 m st).wlks r.ord.who).toNat<(m6 m st).wlks.length:=by omega
  have hrk:=(hrel.1.2 _ hk2).1
  rw[pn]at hrk
  refine⟨d,r,h,hd,hk,b7O hrel.1.1 hrel.1.2,_,s0 .ow (show _<(m6 m st').wlks.length by rw[hrel.1.1];exact hk2),by rw[hrk];exact hid,Int.le_of_eq hrel.2.symm⟩
 |land d r h hd hk hw e =>
  refine .inr ⟨.inr ⟨d,r,h,hd,by omega⟩,fun who seq code => ?_⟩
  rw[←e]
  unfold B8
  split
  ·rename_i hp
   have hlt:=V0 (m6 m st).wlks r.pcl.wlk.id
   have:=b6J (l:=(m6 m st).wlks) (k:=(b8 (m6 m st).wlks r.pcl.wlk.id).toNat) (who:=who) (seq:=seq) (code:=code) (y:=⟨(nth .ow (m6 m st).wlks (b8 (m6 m st).wlks r.pcl.wlk.id).toNat).wlk,true⟩) (by omega) ⟨rfl,.inl ⟨rfl,rfl⟩⟩
   exact b7O this.1 this.2
  ·exact a6f rfl
 |down d r h hd hk hw e =>
  refine .inr ⟨.inr ⟨d,r,h,hd,by omega⟩,fun who seq code => ?_⟩
  rw[←e]
  unfold Y0
  split<;>exact a6f rfl
theorem a6G {m:PMap} {st st':List Sto} {d:Int} {r:Rec} (h:Wr m st st' d r):recX st' d (stAt st d).recs.length=r∧(stAt st' d).recs.length=(stAt st d).recs.length+1∧pfX m st' d (stAt st d).recs.length=cX m st d:=by
 refine⟨?_,?_,?_⟩
 ·unfold recX
  rw[h.at.2]
  exact b2C .rcd
 ·rw[h.at.2];simp
 ·rw[b7a h.grow (Nat.le_refl _)]
  exact b7b h.ok
theorem wr_i {m:PMap} {st st':List Sto} {d:Int} {r:Rec} (h:Wr m st st' d r) {c:Int} {i:Nat} (h0:0≤c) (hi:i<(stAt st' c).recs.length):i<(stAt st c).recs.length∨(c=d∧i=(stAt st d).recs.length):=by
 by_cases hc:c=d
 ·subst hc
  rw[(a6G h).2.1]at hi
  omega
 ·have:=h.zero
  rw[h.off (by omega)]at hi
  exact .inl hi
theorem d5n {m:PMap} {st st':List Sto} {d:Int} {r:Rec} (h:Wr m st st' d r):pfX m st' d ((stAt st d).recs.length+1)=cX m st' d:=by
 have h1:=a6G h
 have:pfX m st' d ((stAt st d).recs.length+1)=(m0 m (pfX m st' d (stAt st d).recs.length) (recX st' d (stAt st d).recs.length)).c:=Q9 _ _ _ _
 rw[this,h1.1,h1.2.2,h.self]
theorem b9V {w w':Wld} (hok':m8 w'=true) (hI:OneInv w.map w.stores) (hI':OneInv w.map w'.stores) (hm:w'.map=w.map) (ho:Once w) (hg:Grow w.map w.stores w'.stores) (hgo:Goes w.map w.stores w'.stores)
  (htold : ∀x∈w'.net,x.kind=3→Was w.map w'.stores x.ord.who x.ord.seq x.n) (hnotes : ∀n∈w'.notes,Was w.map w'.stores n.who n.seq n.code):Once w':=by
 obtain⟨k1,k2,k3,k4,_,_⟩:=ho
 have hist:=b5P hI hgo
 have fwd : ∀x∈(m6 w.map w.stores).wlks,∃y∈(m6 w.map w'.stores).wlks,y.wlk.id=x.wlk.id∧x.wlk.seq≤y.wlk.seq:=fun x hx=>by
  rcases hist with ⟨d,r,_,_,_,hh,_⟩|⟨_,hh⟩
  ·obtain⟨y,hy,e,h2⟩:=hh.fwd x hx
   refine⟨y,hy,e,?_⟩
   rcases h2 with h2|h2
   ·exact Int.le_of_eq h2.1.symm
   ·omega
  ·obtain⟨y,hy,e,h2⟩:=(hh 0 0 0).fwd x hx
   refine⟨y,hy,e,?_⟩
   rcases h2 with h2|h2
   ·exact Int.le_of_eq h2.1.symm
   ·omega
 have kold : ∀c i,0≤c→c<w.map.cells→i<(stAt w.stores c).recs.length→(recX w'.stores c i).kind=1 → ∃x∈(m6 w.map w'.stores).wlks,x.wlk.id=(recX w'.stores c i).ord.who∧(recX w'.stores c i).ord.seq≤x.wlk.seq:=fun c i c0 c1 hi hk=>by
  rw[U7 hg hi]at hk ⊢
  obtain⟨x,hx,e1,e2⟩:=k1 c i c0 c1 hi hk
  obtain⟨y,hy,f1,f2⟩:=fwd x hx
  exact⟨y,hy,by omega,by omega⟩
 have last' : ∀y∈(m6 w.map w'.stores).wlks,y.wlk.seq=0∨Was w.map w'.stores y.wlk.id y.wlk.seq y.wlk.last:=fun y hy=>by
  rcases hist with ⟨d,r,hw,hd,hk,hh,_⟩|⟨_,hh⟩
  ·obtain⟨x,hx,e,h2⟩:=hh.bwd y hy
   rcases h2 with h2|h2
   ·rcases k3 x hx with h3|h3
    ·left;omega
    ·right
     rw[e,h2.1,h2.2]
     exact h3.grow hg
   ·right
    have hn:=a6G hw
    rw[e,h2.1,h2.2.2.1,h2.2.2.2]
    refine⟨d,(stAt w.stores d).recs.length,hw.zero,hd,by rw[hn.2.1];omega,by rw[hn.1];exact hk,by rw[hn.1],by rw[hn.1],?_⟩
    rw[hn.1,hn.2.2]
    exact(a1s hk hw.fits).2.2
  ·obtain⟨x,hx,e,h2⟩:=(hh 0 0 0).bwd y hy
   rcases h2 with h2|h2
   ·rcases k3 x hx with h3|h3
    ·left;omega
    ·right
     rw[e,h2.1,h2.2]
     exact h3.grow hg
   ·left;omega
 have old' : ∀c,0≤c→c<w.map.cells → ∀k,k≤(stAt w'.stores c).recs.length → ∀v∈(pfX w.map w'.stores c k).wlks,v.seq=0∨Was w.map w'.stores v.id v.seq v.last:=fun c c0 c1 k hk v hv=>by
  by_cases hk2:k≤(stAt w.stores c).recs.length
  ·rw[b7a hg hk2]at hv
   rcases k4 c c0 c1 k hk2 v hv with h|h
   ·exact .inl h
   ·exact .inr (h.grow hg)
  ·have wr : ∀ {d:Int} {r:Rec},Wr w.map w.stores w'.stores d r→v.seq=0∨Was w.map w'.stores v.id v.seq v.last:=fun {d r} hw=>by
    have h0:=hw.zero
    by_cases hc:c=d
    ·subst hc
     rw[(a6G hw).2.1]at hk
     have:k=(stAt w.stores c).recs.length+1:=by omega
     subst this
     rw[d5n hw]at hv
     exact last' ⟨v,true⟩ (c0u.2 (a8I c0 c1 hv))
    ·rw[hw.off (by omega)]at hk
     exact absurd hk hk2
   rcases b5P hI hgo with ⟨d,r,hw,_⟩|⟨hq|⟨d,r,hw,_⟩,_⟩
   ·exact wr hw
   ·rw[(hq.same c).2]at hk
    exact absurd hk hk2
   ·exact wr hw
 rcases hist with ⟨d,r,hw,hd,hk,hh,y,hy,hy1,hy2⟩|⟨hq,hh⟩
 ·have hn:=a6G hw
  have hnew : ∀c i,0≤c→c<w.map.cells→i<(stAt w.stores c).recs.length→(recX w.stores c i).kind=1→(recX w.stores c i).ord.who=r.ord.who→(recX w.stores c i).ord.seq≠r.ord.seq:=fun c i c0 c1 hi hkk e1 e2=>by
   obtain⟨x,hx,f1,f2⟩:=k1 c i c0 c1 hi hkk
   obtain⟨_,v,_,hv1,hv2,hp0,hpn⟩:=a4y hI hw hd hk
   have hpm:=a1Q (L4 hI.ids) hx
   have e:x=⟨v,true⟩:=by
    have h4:=hpm.2.2
    rw[f1,e1]at h4
    exact h4.symm.trans hpn
   subst e
   have:(recX w.stores c i).ord.seq≤v.seq:=f2
   omega
  refine⟨fun c i c0 c1 hi hkk => ?_,fun c i c' i' c0 c1 d0 d1 hi hi' hkk hkk' e1 e2 => ?_,?_,?_,?_,?_⟩
  ·rw[hm]at c1 ⊢
   rcases wr_i hw c0 hi with h1|⟨rfl,rfl⟩
   ·exact kold c i c0 c1 h1 hkk
   ·rw[hn.1]
    exact⟨y,hy,hy1,hy2⟩
  ·rw[hm]at c1 d1
   rcases wr_i hw c0 hi with h1|⟨rfl,rfl⟩<;>rcases wr_i hw d0 hi' with h2|⟨rfl,rfl⟩
   ·rw[U7 hg h1]at hkk e1 e2
    rw[U7 hg h2]at hkk' e1 e2
    exact k2 c i c' i' c0 c1 d0 d1 h1 h2 hkk hkk' e1 e2
   ·rw[U7 hg h1]at hkk e1 e2
    rw[hn.1]at e1 e2
    exact absurd e2 (hnew c i c0 c1 h1 hkk e1)
   ·rw[U7 hg h2]at hkk' e1 e2
    rw[hn.1]at e1 e2
    exact absurd e2.symm (hnew c' i' d0 d1 h2 hkk' e1.symm)
   ·exact⟨rfl,rfl⟩
  ·rw[hm];exact last'
  ·rw[hm];exact old'
  ·rw[hm];exact htold
  ·rw[hm];exact hnotes
 ·
  have hi' : ∀c i,0≤c→i<(stAt w'.stores c).recs.length→(recX w'.stores c i).kind=1→i<(stAt w.stores c).recs.length:=fun c i c0 hi hkk=>by
   rcases hq with hq|⟨d,r,hw,hd,hk⟩
   ·rw[(hq.same c).2]at hi;exact hi
   ·rcases wr_i hw c0 hi with h1|⟨rfl,rfl⟩
    ·exact h1
    ·rw[(a6G hw).1]at hkk
     exact absurd hkk hk
  refine⟨fun c i c0 c1 hi hkk => ?_,fun c i c' i' c0 c1 d0 d1 hi hj hkk hkk' e1 e2 => ?_,?_,?_,?_,?_⟩
  ·rw[hm]at c1 ⊢
   exact kold c i c0 c1 (hi' c i c0 hi hkk) hkk
  ·rw[hm]at c1 d1
   have h1:=hi' c i c0 hi hkk
   have h2:=hi' c' i' d0 hj hkk'
   rw[U7 hg h1]at hkk e1 e2
   rw[U7 hg h2]at hkk' e1 e2
   exact k2 c i c' i' c0 c1 d0 d1 h1 h2 hkk hkk' e1 e2
  ·rw[hm];exact last'
  ·rw[hm];exact old'
  ·rw[hm];exact htold
  ·rw[hm];exact hnotes
theorem c9f {m:PMap} {l:List Row} {x:Msg} (h:(B5 m l x).ok=true):x.kind=3:=by
 unfold B5 at h
 simp only at h
 split at h
 ·split at h
  ·assumption
  ·split at h<;>cases h
 ·cases h
theorem d3B {l:List Wlk} {id:Int} (h:u4 l id=true):F5 l id∈l∧(F5 l id).id=id:=by
 rw[a5z h]
 exact⟨s0 .wlk (T6 h).1,id_w h⟩
theorem c7W {w w':Wld} (hok:m8 w=true) (hok':m8 w'=true) (hf:Fence w) (hm:Mail w) (hI:OneInv w.map w.stores) (hI':OneInv w.map w'.stores) (hgo:Goes w.map w.stores w'.stores) (ho:Once w) (hs:StepC w w'):Once w':=by
 obtain⟨e1,hg⟩:=c7i hok hs
 refine b9V hok' hI hI' e1 ho hg hgo ?_ ?_
 ·
  have quiet:(∀x∈w'.net,x.kind=3→x∈w.net) → ∀x∈w'.net,x.kind=3→Was w.map w'.stores x.ord.who x.ord.seq x.n:=fun h x hx hk=>(ho.told x (h x hx hk) hk).grow hg
  cases hs with
  |same=>exact quiet fun x hx _=>hx
  |grant cell server hgr =>
   refine quiet fun x hx hk => ?_
   rcases H3 hx with hx|hx
   ·exact hx
   ·simp only[List.mem_singleton]at hx
    subst hx
    cases hk
  |ask=>exact quiet fun x hx _=>hx
  |say who hs =>
   refine quiet fun x hx hk => ?_
   rcases H3 hx with hx|hx
   ·exact hx
   ·simp only[List.mem_singleton]at hx
    subst hx
    rw[a7I hs]at hk
    cases hk
  |gate i hi hd=>exact quiet fun x hx _=>a5E (i:=i) hx
  |lose i hi=>exact quiet fun x hx _=>a5E hx
  |twice i hi =>
   refine quiet fun x hx hk => ?_
   rcases H3 hx with hx|hx
   ·exact hx
   ·simp only[List.mem_singleton]at hx
    subst hx
    exact s0 .msg hi
  |fall i hi=>exact quiet fun x hx _=>hx
  |rise i hi hu=>exact quiet fun x hx _=>hx
  |tick i hi cell =>
   refine quiet fun x hx hk => ?_
   rcases H3 hx with hx|hx
   ·exact hx
   ·have:=a9h hx
    omega
  |hear i hi hd =>
   obtain⟨X,hX,e⟩:=heard hok hi hd
   rw[e]at hg ⊢
   clear e
   generalize nth .msg w.net i=x at *
   intro z hz hk
   rcases H3 hz with hz|hz
   ·exact(ho.told z (List.mem_of_mem_eraseIdx hz) hk).grow hg
   have hv:a6g w.map (nth .srv w.servers x.dest.toNat) w.stores w.table w.servers.length x:=⟨hX.srv,hX.stos,hX.arb,hX.ok⟩
   have hlen:=(b5J hX.srv hX.stos hX.arb hX.ok).1
   have hwr:=a5u hf hX
   rw[hX.is]at hz hg hwr
   show Was w.map X.stores z.ord.who z.ord.seq z.n
   rw[hX.is]
   have hz0:nth .msg (r8 w.map (nth .srv w.servers x.dest.toNat) w.stores w.table x).out 0=z ∧ ¬(r8 w.map (nth .srv w.servers x.dest.toNat) w.stores w.table x).out.length=0:=by
    obtain⟨j,hj,hjz⟩:=a1b .msg hz
    have:j=0:=by omega
    subst this
    exact⟨hjz,by omega⟩
   obtain⟨_,_,k2,hh,hw,hc⟩:=c3w hv hz0.2 (by rw[hz0.1];exact hk)
   have hor:=G6.1 (d5U hX.ok (.inl k2))
   obtain⟨hmem,hcc⟩:=I6 hh
   have hcs:=a2R hX.stos hX.ok
   have hcl:x.cell<w.map.cells:=by
    have:=(D9.1 hX.stos).2.1
    omega
   rcases hc with ⟨q,e⟩|⟨q,hn,e⟩
   ·rw[e]at hz hg ⊢
    simp only[List.mem_singleton]at hz
    subst hz
    obtain⟨p1,p2⟩:=a5s hf hX.lt hmem
    rw[hcc]at p1 p2
    obtain⟨f1,f2⟩:=d3B hw
    have:=ho.old x.cell hcs.1 hcl _ p2 _ (by rw[←p1];exact f1)
    rcases this with h|h
    ·omega
    ·rw[f2,q]at h
     exact h
   ·have er:p9 x=⟨1,x.ord,0,A2,0⟩:=by rw[p9,if_pos k2]
    rw[e]at hz hg hwr ⊢
    simp only[List.mem_singleton]at hz
    subst hz
    cases hwr with
    |no h =>
     exfalso
     have h3:=(h.same x.cell).2
     simp only at h3
     rw[M9 hcs.2.1,if_pos rfl]at h3
     have h4:=congrArg List.length h3
     simp only[o6,stAt,List.length_append,List.length_cons,List.length_nil]at h4
     omega
    |yes h _ _ hss _ =>
     have hnw:=a6G h
     refine⟨x.cell,(stAt w.stores x.cell).recs.length,hcs.1,hcl,?_,?_,?_,?_,?_⟩
     ·simp only at hnw ⊢
      rw[hnw.2.1];omega
     ·simp only at hnw ⊢
      rw[hnw.1,er]
     ·simp only at hnw ⊢
      rw[hnw.1,er];rfl
     ·simp only at hnw ⊢
      rw[hnw.1,er];rfl
     ·simp only at hnw ⊢
      rw[hnw.1,hnw.2.2,hss];rfl
 ·
  have quiet:w'.notes=w.notes → ∀n∈w'.notes,Was w.map w'.stores n.who n.seq n.code:=fun h n hn=>by
   rw[h]at hn
   exact(ho.notes n hn).grow hg
  cases hs with
  |gate i hi hd =>
   intro n hn
   unfold a1W wCut at hn
   simp only at hn
   split at hn
   ·rename_i hc
    rcases List.mem_append.1 hn with hn|hn
    ·exact(ho.notes n hn).grow hg
    ·simp only[List.mem_singleton]at hn
     subst hn
     exact(ho.told _ (s0 .msg hi) (c9f hc.1)).grow hg
   ·exact(ho.notes n hn).grow hg
  |hear i hi hd =>
   obtain⟨X,hX,e⟩:=heard hok hi hd
   exact quiet (by rw[e];rfl)
  |_=>exact quiet rfl
theorem a3V {L:List Int} {f:Int→Int} {w:Wld} (hL:L.Nodup) (h:Whole L f w) (e:Evt):Whole L f (m4 w e)∧Goes w.map w.stores (m4 w e).stores∧(m4 w e).map=w.map:=by
 have hi:=c0K e h.inv
 have he:m4 w e=y8 w e:=by simp[m4,h.inv.ok]
 have hs:=a3Z w e
 rw[←he]at hs
 obtain⟨e1,hd⟩:=d3Q h.inv.ok h.inv.fence h.inv.mail hs
 have hI:=h.one hL
 obtain⟨hg,hp⟩:=d3R hI h.pl hd
 have hp':Pl L (m4 w e).map (m4 w e).stores:=by rw[e1];exact hp
 have hI':=b5m hi.ok hi.mail hL hp'
 refine⟨⟨hi,hp',c7W h.inv.ok hi.ok h.inv.fence h.inv.mail hI (by rw[←e1];exact hI') hg h.once hs⟩,hg,e1⟩
theorem c7y {L:List Int} {f:Int→Int} {w0 w:Wld} (hL:L.Nodup) (h0:Whole L f w0) (h:Ran w0 w):Whole L f w∧w.map=w0.map:=by
 induction h with
 |refl=>exact⟨h0,rfl⟩
 |step e _ ih =>
  have:=a3V hL ih.1 e
  exact⟨this.1,this.2.2.trans ih.2⟩
theorem c6L {l:List Wlk} {w:Wld} (h:Beg l w):(allO w.map w.stores).Perm (y7 l):=by
 have hp:o9 w.map=true:=(D9.1 (q9.1 h.ok).2.1).1
 have hpi:=n6.1 hp
 have hcx : ∀c:Int,0≤c→c<w.map.cells→cX w.map w.stores c=⟨c,L9 w.map c l l.length,0,[[],[]],[0,0],[0,0]⟩:=fun c h0 h1=>by rw[c3X h h0 h1,a1U hp h0 h1 h.all]
 have hfl : ∀c s,fl w.map w.stores c s = []:=fun c s=>by
  unfold fl
  split
  ·rfl
  ·rename_i hs
   have hi:=D7 hs
   have:ouX w.map w.stores c s = []:=by
    unfold ouX
    rw[hcx c hi.1 hi.2.1]
    exact c5E _
   rw[this]
   rfl
 have e2:((a3f w.map).flatMap fun e=>flyO (fl w.map w.stores (e.1:Int) (e.2:Int))) = []:=by
  rw[List.flatMap_eq_nil_iff]
  intro e _
  rw[hfl]
  rfl
 have e1:((I9 w.map).flatMap fun(c:Nat)=>y7 (cX w.map w.stores (c:Int)).wlks)=y7 ((List.range w.map.cells.toNat).flatMap fun(c:Nat)=>l.filter fun x=>decide (e8 w.map x.pos=(c:Int))):=by
  unfold y7
  rw[List.map_flatMap]
  rw[List.flatMap_def,List.flatMap_def]
  congr 1
  refine List.map_congr_left fun c hc => ?_
  have hcn:c<w.map.cells.toNat:=List.mem_range.1 hc
  rw[hcx (c:Int) (by omega) (by omega)]
  simp only[L9,List.take_length]
  rfl
 unfold allO
 rw[e1,e2,List.append_nil]
 refine(a5y fun x hx => ?_).map _
 have hw:=s8.1 ((Y3.1 h.all).1 x hx)
 obtain⟨q1,q2,q3,q4⟩:=C9 hw.2.2.1
 have h1:e8 w.map x.pos<w.map.cells:=by
  rw[q4]
  exact Int.ediv_lt_of_lt_mul (by omega) q3
 have h0:0≤e8 w.map x.pos:=by
  rw[q4]
  exact Int.ediv_nonneg q2 (by omega)
 omega
theorem c9H {l:List Wlk} {w:Wld} (h:Beg l w):Whole (l.map fun w=>w.id) (b0p w.rows) w:=by
 have hp:o9 w.map=true:=(D9.1 (q9.1 h.ok).2.1).1
 have hcx : ∀c:Int,0≤c→c<w.map.cells→cX w.map w.stores c=⟨c,L9 w.map c l l.length,0,[[],[]],[0,0],[0,0]⟩:=fun c h0 h1=>by rw[c3X h h0 h1,a1U hp h0 h1 h.all]
 have hnr : ∀c i,0≤c→c<w.map.cells → ¬i<(stAt w.stores c).recs.length:=fun c i c0 c1=>by rw[(h.recs c c0 c1).1];simp
 have hz : ∀x∈allO w.map w.stores,x.wlk.seq=0:=fun x hx=>by
  have:=(c6L h).mem_iff.1 hx
  obtain⟨v,hv,rfl⟩:=List.mem_map.1 this
  exact(h.fresh v hv).1
 refine⟨c6K h,⟨fun c s hs => ?_,?_⟩,⟨fun c i c0 c1 hi=>absurd hi (hnr c i c0 c1),fun c i c' i' c0 c1 _ _ hi=>absurd hi (hnr c i c0 c1),fun x hx => .inl (hz x (c0u.1 hx)),fun c c0 c1 k hk v hv => ?_,fun x hx => ?_,fun n hn => ?_⟩⟩
 ·have hi:=D7 hs
  unfold nxX
  rw[hcx c hi.1 hi.2.1]
  have : @Eq Int (nth .int [0,0] s.toNat) 0:=d2r _
  rw[this]
  omega
 ·have:=(c6L h).map oid
  unfold y7 at this
  rw[List.map_map]at this
  exact this
 ·rw[(h.recs c c0 c1).1]at hk
  have hk0:k=0:=by simpa using hk
  subst hk0
  have e:pfX w.map w.stores c 0=W8 w.map c l:=(h.recs c c0 c1).2
  rw[e,a1U hp c0 c1 h.all]at hv
  simp only[L9,List.take_length]at hv
  exact .inl (h.fresh v (List.mem_filter.1 hv).1).1
 ·rw[h.net]at hx;cases hx
 ·rw[h.notes]at hn;cases hn
theorem c6H {l:List Wlk} {w:Wld} (h:Beg l w) (who:Int):b0p w.rows who=0:=by
 unfold b0p rowAt
 by_cases hi:(m7 w.rows who).toNat<w.rows.length
 ·have hm:=s0 .row hi
  rw[h.rows]at hm
  obtain⟨v,hv,e⟩:=List.mem_map.1 hm
  rw[h.rows,←e]
  exact(h.fresh v hv).1
 ·unfold nth List.getD
  rw[List.getElem?_eq_none (by omega)]
  rfl
theorem c3C {m:PMap} {st st':List Sto} (hI:OneInv m st) (h:Goes m st st'):a2Y (m6 m st').wlks (m6 m st').ground (m6 m st').air=a2Y (m6 m st).wlks (m6 m st).ground (m6 m st).air:=by
 have ho:=d1B hI
 cases h with
 |quiet h e=>rw[e]
 |word d r h hd hk e=>rw[e]
 |land d r h hd hk hw e=>rw[←e];exact(a8j ho).tot
 |down d r h hd hk hw e=>rw[←e];exact(a8k ho).tot
 |order d r h hd hk e =>
  have:=(a4l (r:=r.ord) ho (a4y hI h hd hk).1).tot
  rw[e]at this
  exact this
def BegE (w:Wld):Prop := ∃l,Beg l w
theorem c9K {w:Wld} (h:BegE w) (c d:Int):BegE (m4 (m4 w ⟨1,c,0,d,0⟩) ⟨4,0,0,0,0⟩):=let ⟨l,h⟩:=h;⟨l,d4r h c d⟩
theorem c6M {w:Wld} (h:BegE w):m8 w=true:=let ⟨_,h⟩:=h;h.ok
theorem d4t {w:Wld} (h:BegE w):From w:=let ⟨l,h⟩:=h;⟨l,w,h,.refl⟩
theorem c9h {w:Wld} (h:From w) (e:Evt):From (m4 w e):=let ⟨l,w0,h0,hr⟩:=h;⟨l,w0,h0,.step e hr⟩
theorem d3s {w:Wld} (h:From w):Inv (fun _=>0) w:=by
 obtain⟨l,w0,h0,hr⟩:=h
 have hw:=c6K h0
 have hf:b0p w0.rows=fun _=>0:=funext fun who=>c6H h0 who
 rw[hf]at hw
 exact d5h hw hr
theorem c3E {w:Wld} (h:From w) : ∃L,L.Pairwise (· < ·)∧Whole L (fun _=>0) w:=by
 obtain⟨l,w0,h0,hr⟩:=h
 have hw:=c9H h0
 have hf:b0p w0.rows=fun _=>0:=funext fun who=>c6H h0 who
 rw[hf]at hw
 exact⟨_,a7h h0.all,(c7y (b5G h0.all) hw hr).1⟩
theorem d6q {w:Wld} (h:From w):m8 w=true:=(d3s h).ok
theorem d7z {w:Wld} {e:Evt} (h:m8 w=true):m4 w e=y8 w e:=by simp[m4,h]
section
variable {w:Wld} {i j k n:Int}
end
end Go.Mo
namespace Go.Mo
open Go.Sx
section
variable {l:List OW} {i j k:Nat}
end
section
variable {L R:List OW} {i j:Int}
variable {a b:Int}
end
section
variable {L R:List OW} {i j:Int}
end
section
variable {m:PMap} {st:List Sto} {w:Wld} {i s j:Int}
end
section
variable {m:PMap} {st:List Sto} {w:Wld} {i k s j:Int}
end
section
variable {w:Wld} {i k n s j a b:Int} {R:List OW}
end
end Go.Mo
namespace Go.Mo
open Go.Sx
section
variable {L:List Int} {w:Wld}
theorem Placed.facts (h:Placed L w):m8 w=true∧r6 (oneOf w)=true∧(oneOf w).wlks.map oid=L∧(allO w.map w.stores).length≤9∧S5 (allO w.map w.stores)=true:=by
 have hok:=d6q h.frm
 have ho:=d1B h.inv
 have hl:=a4j ho
 have hp:(m6 w.map w.stores).wlks=n4 (allO w.map w.stores):=rfl
 rw[a3D hok]
 refine⟨hok,ho,d8t h.inv.ids h.srt h.whole.pl.ids,?_,?_⟩
 ·rw[hp,a1K]at hl
  exact hl
 ·unfold S5
  rw[List.all_eq_true]
  intro x hx
  have hm:x∈(m6 w.map w.stores).wlks:=by rw[hp];exact(C8 _).mem_iff.2 hx
  obtain⟨k,hk,rfl⟩:=a1b .ow hm
  have:=s8.1 (a1E ho hk).1
  simp only[decide_eq_true_eq]
  omega
theorem a6U (h:BegE w):Placed ((oneOf w).wlks.map oid) w:=by
 have hf:=d4t h
 obtain⟨L,hs,hw⟩:=c3E hf
 have hP:Placed L w:=⟨hf,hs,hw⟩
 rw[hP.facts.2.2.1]
 exact hP
theorem a5e (h:Placed L w) (e:Evt):Placed L (m4 w e):=⟨c9h h.frm e,h.srt,(a3V h.nodup h.whole e).1⟩
theorem b6Z (h:Placed L w) (e:Evt):D5 (oneOf (m4 w e))=D5 (oneOf w):=by
 have h':=a5e h e
 have hw:=a3V h.nodup h.whole e
 have f:=h.facts
 have f':=h'.facts
 rw[a6p f.2.1,a6p f'.2.1,a3D f.1,a3D f'.1,hw.2.2]
 exact c3C h.inv hw.2.1
end
def a0J (w:Wld):Prop := ∃L,Placed L w
theorem b9F {w:Wld} (h:BegE w):a0J w:=⟨_,a6U h⟩
theorem a4i {w:Wld} (h:a0J w) (e:Evt):a0J (m4 w e)∧D5 (oneOf (m4 w e))=D5 (oneOf w):=let ⟨L,h⟩:=h;⟨⟨L,a5e h e⟩,b6Z h e⟩
theorem a0J.facts {w:Wld} (h:a0J w):m8 w=true∧r6 (oneOf w)=true∧(allO w.map w.stores).length≤9∧S5 (allO w.map w.stores)=true:=let ⟨_,h⟩:=h;⟨h.facts.1,h.facts.2.1,h.facts.2.2.2.1,h.facts.2.2.2.2⟩
theorem c7H {W:Wld} {l:List Evt} (h:BegE W∧l.length≤149):m8 W=true∧(m8 W=true→(allO W.map W.stores).length≤9∧S5 (allO W.map W.stores)=true)∧a0J W∧l.length≤149 :=
 ⟨(a6U h.1).facts.1,fun _=>(a6U h.1).facts.2.2.2,b9F h.1,h.2⟩
theorem b2e {w:Wld} (h:a0J w):m8 w=true∧(m8 w=true→(allO w.map w.stores).length≤9∧S5 (allO w.map w.stores)=true):=⟨h.facts.1,fun _=>h.facts.2.2⟩
theorem b9I {w:Wld} (h:a0J w) (e:Evt):a0J (m4 w e)∧D5 (oneOf (m4 w e))=D5 (oneOf w)∧m8 (m4 w e)=true∧(m8 (m4 w e)=true→(allO (m4 w e).map (m4 w e).stores).length≤9∧S5 (allO (m4 w e).map (m4 w e).stores)=true) :=
 ⟨(a4i h e).1,(a4i h e).2,b2e (a4i h e).1⟩
section
variable {o:One} {k:Nat}
end
end Go.Mo
namespace Go.Mo
open Go.Sx
section
variable {a b:List Sto} {k n:Nat}
theorem c3h:Q3 a b 0 = -1:=rfl
theorem c8C (h:Q3 a b k = -2) (hk:k≤n):Q3 a b n = -2:=by
 induction n with
 |zero=>rw[show(0:Nat)=k by omega];exact h
 |succ n ih =>
  by_cases hn:k=n+1
  ·rw[←hn];exact h
  ·unfold Q3
   rw[if_pos (Or.inl (ih (by omega)))]
theorem c8E (hk:k<a.length) (h:newD a b k<0∨1<newD a b k∨newD a b k=1∧Q3 a b k ≠ -1):v5 a b = -2:=by
 refine c8C (k:=k+1) ?_ (by omega)
 unfold Q3
 rw[if_pos (Or.inr h)]
theorem c8D (h:k=a.length):Q3 a b k=v5 a b:=by subst h;rfl
theorem d2z : -2≤Q3 a b k∧Q3 a b k<k:=by
 induction k with
 |zero=>simp[Q3]
 |succ k ih =>
  unfold Q3
  split
  ·omega
  ·split<;>omega
end
theorem d2J {m:PMap} {s s':Srv} {st st':List Sto} {v:Int} {x:Msg} (hst:B1 m st=true) (hx:y5 m v x=true) (he:Eff m s st x s' st'):LogsE st st':=by
 have hc:=a2R hst hx
 have key : ∀(a:Int) (b:Cll) (l:List Rec),(o6 st x).age≤a→(l = [] ∨ ∃r,l = [r])→LogsE st (st.set x.cell.toNat ⟨a,b,(o6 st x).recs++l⟩):=by
  intro a b l ha hl
  have hn : ∀i:Nat,i≠x.cell.toNat→nth .sto (st.set x.cell.toNat ⟨a,b,(o6 st x).recs++l⟩) i=nth .sto st i:=fun i hi=>m5 .sto (fun h=>hi h.symm)
  have hs:nth .sto (st.set x.cell.toNat ⟨a,b,(o6 st x).recs++l⟩) x.cell.toNat=⟨a,b,(o6 st x).recs++l⟩:=j9 .sto hc.2.1
  have hO:nth .sto st x.cell.toNat=o6 st x:=rfl
  refine⟨by simp,fun i => ?_,fun i => ?_,?_⟩
  ·by_cases hi:i=x.cell.toNat
   ·subst hi
    rw[hs,hO]
    simp
   ·rw[hn i hi]
    simp
  ·by_cases hi:i=x.cell.toNat
   ·subst hi
    rw[hs,hO]
    exact ha
   ·rw[hn i hi]
    omega
  ·rcases hl with rfl|⟨r,rfl⟩
   ·refine Or.inl fun i => ?_
    unfold newD
    by_cases hi:i=x.cell.toNat
    ·subst hi
     rw[hs,hO]
     simp
    ·rw[hn i hi]
     omega
   ·refine Or.inr ⟨x.cell.toNat,hc.2.1,?_,fun i hi => ?_⟩
    ·unfold newD
     rw[hs,hO]
     simp only[List.length_append,List.length_cons,List.length_nil]
     omega
    ·unfold newD
     rw[hn i hi]
     omega
 cases he with
 |same=>exact .refl _
 |ghost=>exact .refl _
 |lost=>exact .refl _
 |grant hu hk hn ha=>have:=key x.n (o6 st x).base [] ha (Or.inl rfl);simpa using this
 |write=>exact key _ _ [p9 x] (by omega) (Or.inr ⟨_,rfl⟩)
theorem c3D (w:Wld) (x:Msg):(a1W w x).notes.take w.notes.length=w.notes∧w.notes.length≤(a1W w x).notes.length:=by
 have e:(a1W w x).notes=if(B5 w.map w.rows x).ok=true∧w.notes.length<150 then w.notes ++ [⟨x.ord.who,x.ord.seq,x.n⟩]else w.notes:=rfl
 rw[e]
 split<;>simp
theorem d2I {w:Wld} {e:Evt} (h:m8 w=true):LogsE w.stores (m4 w e).stores∧(m4 w e).table.ages.length=w.table.ages.length∧(∀i,@LE.le Int _ (nth .int w.table.ages i) (nth .int (m4 w e).table.ages i)) ∧
  (m4 w e).notes.take w.notes.length=w.notes∧w.notes.length≤(m4 w e).notes.length:=by
 rw[d7z h]
 have hs:=a3Z w e
 generalize y8 w e=W at *
 cases hs with
 |grant cell server hg =>
  refine⟨.refl _,?_,fun i => ?_,by simp[x8],by simp[x8]⟩
  ·simp only[x8,s6]
   split<;>simp
  ·simp only[x8,s6]
   split
   ·simp only
    by_cases hi:cell.toNat=i
    ·subst hi
     by_cases hl:cell.toNat<w.table.ages.length
     ·rw[j9 .int hl]
      exact Int.le_of_lt (Int.lt_succ _)
     ·rw[List.set_eq_of_length_le (by omega)]
      exact Int.le_refl _
    ·rw[m5 .int hi]
     exact Int.le_refl _
   ·exact Int.le_refl _
 |gate i hi hd =>
  have hg:=c3D (wCut w i) (nth .msg w.net i)
  exact⟨.refl _,rfl,fun i=>Int.le_refl _,hg.1,hg.2⟩
 |hear i hi hd =>
  obtain⟨X,hX,e⟩:=heard h hi hd
  rw[e]
  exact⟨d2J hX.stos hX.ok hX.eff,rfl,fun i=>Int.le_refl _,by simp[x8],by simp[x8]⟩
 |_=>exact⟨.refl _,rfl,fun i=>Int.le_refl _,by simp[x8,wCut],by simp[x8,wCut]⟩
theorem d0v {w:Wld} (h:m8 w=true):w.stores.length≤4:=by
 have h1:=a3n (q9.1 h).2.1
 have h2:=n6.1 h1.2
 omega
end Go.Mo
namespace Go.Mo
open Go.Sx
end Go.Mo
namespace Go.Sx
end Go.Sx
namespace Go.Mo
open Go.Sx
section
variable {m:PMap} {st st':List Sto} {d:Int} {r:Rec}
theorem d0b (h:Wr m st st' d r):v5 st st'=d∧a3K (nth .sto st' d.toNat)=r∧(nth .sto st' d.toNat).recs.length=(nth .sto st d.toNat).recs.length+1:=by
 have h1:=h.at.2
 have h2:(nth .sto st' d.toNat).recs=(nth .sto st d.toNat).recs ++ [r]:=h1
 have hl:(nth .sto st' d.toNat).recs.length=(nth .sto st d.toNat).recs.length+1:=by rw[h2];simp
 refine⟨?_,?_,hl⟩
 ·have hz:=h.zero
  have:=b5x (a:=st) (b:=st') (n:=st.length) (d:=d.toNat) (by unfold newD;omega) (fun i hi => ?_) h.lt
  ·unfold v5
   rw[this]
   omega
  ·have:=h.off (c:=(i:Int)) (by omega)
   have e:nth .sto st' i=nth .sto st i:=this
   unfold newD
   rw[e]
   omega
 ·unfold a3K
  rw[hl,h2]
  have:(nth .sto st d.toNat).recs.length+1-1=(nth .sto st d.toNat).recs.length:=by omega
  rw[this]
  rw[k9 .rcd _ _ (by simp)]
  simp
theorem c2o (h:Lsame st st'):v5 st st' = -1:=by
 refine a7c fun i _ => ?_
 have:=(h.same (i:Int)).2
 have e:(nth .sto st' i).recs=(nth .sto st i).recs:=this
 unfold newD
 rw[e]
 omega
end
theorem d0w {L:List Int} {w:Wld} (h:Placed L w) (e:Evt):E9 w (m4 w e):=by
 have h':=a5e h e
 have hw:=a3V h.nodup h.whole e
 have f:=h.facts
 have f':=h'.facts
 have hlen:=(d2I (e:=e) f.1).1.len
 refine⟨f'.1,hw.2.2,hlen,?_⟩
 have eo:=a3D f.1
 have eo':=a3D f'.1
 rw[hw.2.2]at eo'
 have go:r6 (m6 w.map w.stores)=true:=by rw[←eo];exact f.2.1
 rw[eo,eo']
 clear eo eo' f'
 have hg:=hw.2.1
 generalize (m4 w e).stores=st' at *
 have wrote : ∀(d:Int) (r:Rec),Wr w.map w.stores st' d r→0≤v5 w.stores st'∧v5 w.stores st'<w.stores.length∧1≤(nth .sto st' (v5 w.stores st').toNat).recs.length∧v5 w.stores st'=d∧a3K (nth .sto st' (v5 w.stores st').toNat)=r:=by
  intro d r hW
  obtain⟨a1,a2,a3⟩:=d0b hW
  have:=hW.zero
  have:=hW.lt
  rw[a1]
  exact⟨by omega,by omega,by omega,rfl,a2⟩
 cases hg with
 |quiet hs eq=>exact .inl ⟨c2o hs,eq⟩
 |order d r hW hd hk eq =>
  obtain⟨b1,b2,b3,b4,b5⟩:=wrote d r hW
  refine .inr ⟨b1,b2,b3,?_,fun _ => ?_⟩
  ·rw[b5]
   have hor:y9 r.ord=true:=by
    rcases X5 hW.log with ⟨_,h⟩|⟨h,_⟩|⟨h,_⟩
    ·exact h
    ·omega
    ·omega
   unfold a8M n9
   rw[if_pos hk,if_pos ⟨go,hor⟩,eq]
  ·rw[b5,b4]
   have hor:y9 r.ord=true:=by
    rcases X5 hW.log with ⟨_,h⟩|⟨h,_⟩|⟨h,_⟩
    ·exact h
    ·omega
    ·omega
   have hs:B2 w.map (nth .sto w.stores d.toNat)=true:=hW.ok
   unfold n9
   rw[if_pos ⟨go,hor⟩,eq]
   unfold E4
   rw[if_pos hs]
   unfold a4C
   rw[if_pos ⟨a1Z hs,hor⟩]
   rfl
 |land d r hW hd hk hp eq =>
  obtain⟨b1,b2,b3,b4,b5⟩:=wrote d r hW
  refine .inr ⟨b1,b2,b3,?_,fun hk1 => ?_⟩
  ·rw[b5]
   unfold a8M B7
   rw[if_neg (by omega),if_pos hk,if_pos hp,if_pos go,eq]
  ·rw[b5]at hk1
   omega
 |down d r hW hd hk hp eq =>
  obtain⟨b1,b2,b3,b4,b5⟩:=wrote d r hW
  refine .inr ⟨b1,b2,b3,?_,fun hk1 => ?_⟩
  ·rw[b5,b4]
   unfold a8M B3
   rw[if_neg (by omega),if_pos hk,if_neg hp,if_pos go,eq]
  ·rw[b5]at hk1
   omega
 |word d r hW hd hk eq =>
  obtain⟨b1,b2,b3,b4,b5⟩:=wrote d r hW
  refine .inr ⟨b1,b2,b3,?_,fun hk1 => ?_⟩
  ·rw[b5,eq]
   unfold a8M
   rw[if_neg (by omega),if_neg (by omega)]
  ·rw[b5]at hk1
   omega
section
variable {w x:Wld}
theorem c7l (h:a0J w) (e:Evt):E9 w (m4 w e):=let ⟨_,h⟩:=h;d0w h e
theorem E9.not2 (h:E9 w x):v5 w.stores x.stores ≠ -2:=by
 rcases h.2.2.2 with h|h
 ·omega
 ·have:=h.1;omega
theorem E9.inW (h:E9 w x) (hn:0≤v5 w.stores x.stores):0≤v5 w.stores x.stores∧v5 w.stores x.stores<(w.stores.length:Int):=⟨hn,(h.yes hn).1⟩
end
end Go.Mo
namespace Go.Mo
open Go.Sx
def tkP (m:PMap) (t:Arb) (h:Hld) (cell side:Int) (k:Nat):List Msg:=((nth .pcls h.state.outs side.toNat).take k).map fun p=>⟨5,n7 t (b7 m cell side),b7 m cell side,1-side,0,x6,p,K0⟩
def tkG (m:PMap) (t:Arb) (h:Hld) (cell side:Int) (k:Nat):List Msg:=((o8 m h side).take k).map fun g=>⟨7,n7 t (b7 m cell side),b7 m cell side,1-side,0,x6,A2,g⟩
def tkTo (m:PMap) (t:Arb) (h:Hld) (cell:Int):Nat→List Msg
 | 0 => []
 |n+1=>tkTo m t h cell n++D1 m t h cell n
theorem c6Y (m:PMap) (t:Arb) (h:Hld) (cell:Int):tkTo m t h cell 0 = []:=rfl
theorem c6Z {m:PMap} {t:Arb} {h:Hld} {cell:Int} {n:Nat} (hs:b7 m cell n = -1∨n7 t (b7 m cell n) = -1):tkTo m t h cell (n+1)=tkTo m t h cell n:=by
 show tkTo m t h cell n++D1 m t h cell n=_
 have:D1 m t h cell n = []:=by
  unfold D1
  simp only
  rw[if_pos hs]
 rw[this,List.append_nil]
theorem d0m {m:PMap} {t:Arb} {h:Hld} {cell:Int} {n:Nat} (h1 : ¬b7 m cell n = -1) (h2 : ¬n7 t (b7 m cell n) = -1):tkTo m t h cell (n+1)=tkTo m t h cell n++tkP m t h cell n 4++tkG m t h cell n 4:=by
 show tkTo m t h cell n++D1 m t h cell n=_
 have:D1 m t h cell n=tkP m t h cell n 4++tkG m t h cell n 4:=by
  unfold D1 tkP tkG
  simp only
  rw[if_neg (fun hh=>hh.elim h1 h2)]
 rw[this,List.append_assoc]
theorem b8r {m:PMap} {s:Srv} {t:Arb} {cell:Int} (hh:z7 s cell=true):tkTo m t (j6 s cell) cell 2=E7 m s t cell:=by
 unfold E7
 rw[if_pos hh]
 rfl
theorem d0n (m:PMap) (t:Arb) (h:Hld) (cell side:Int):tkP m t h cell side 0 = []:=by simp[tkP]
theorem d0o (m:PMap) (t:Arb) (h:Hld) (cell side:Int):tkG m t h cell side 0 = []:=by simp[tkG]
theorem b8s {m:PMap} {t:Arb} {h:Hld} {cell side:Int} {k:Nat} (hk:k<(nth .pcls h.state.outs side.toNat).length):tkP m t h cell side (k+1)=tkP m t h cell side k ++ [⟨5,n7 t (b7 m cell side),b7 m cell side,1-side,0,x6,nth .pcl (nth .pcls h.state.outs side.toNat) k,K0⟩]:=by
 unfold tkP
 exact a0V (t := .pcl) _ _ hk
theorem b8t {m:PMap} {t:Arb} {h:Hld} {cell side:Int} {k:Nat} (hk:k<(o8 m h side).length):tkG m t h cell side (k+1)=tkG m t h cell side k ++ [⟨7,n7 t (b7 m cell side),b7 m cell side,1-side,0,x6,A2,nth .gst (o8 m h side) k⟩]:=by
 unfold tkG
 exact a0V (t := .gst) _ _ hk
theorem d4P {m:PMap} {t:Arb} {h:Hld} {cell side:Int} {k:Nat} (h4:k≤4) (he:min 4 (nth .pcls h.state.outs side.toNat).length≤k):tkP m t h cell side k=tkP m t h cell side 4:=by
 unfold tkP
 by_cases h5:k=4
 ·rw[h5]
 ·rw[List.take_of_length_le (by omega),List.take_of_length_le (by omega)]
theorem d4S {m:PMap} {t:Arb} {h:Hld} {cell side:Int} {k:Nat} (h4:k≤4) (he:min 4 (o8 m h side).length≤k):tkG m t h cell side k=tkG m t h cell side 4:=by
 unfold tkG
 by_cases h5:k=4
 ·rw[h5]
 ·rw[List.take_of_length_le (by omega),List.take_of_length_le (by omega)]
theorem d4O (m:PMap) (t:Arb) (h:Hld) (cell side:Int) (k:Nat):(tkP m t h cell side k).length≤k:=by simp[tkP];omega
theorem d4R (m:PMap) (t:Arb) (h:Hld) (cell side:Int) (k:Nat):(tkG m t h cell side k).length≤k:=by simp[tkG];omega
theorem b1w (m:PMap) (t:Arb) (h:Hld) (cell:Int) : ∀n,(tkTo m t h cell n).length≤8 * n
 | 0=>by simp[tkTo]
 |n+1=>by
  have ih:=b1w m t h cell n
  show(tkTo m t h cell n++D1 m t h cell n).length≤_
  have:(D1 m t h cell n).length≤8:=by
   unfold D1
   simp only
   split
   ·simp
   ·simp
    omega
  rw[List.length_append]
  omega
theorem d0q {m:PMap} {s:Srv} {t:Arb} {cell:Int}:(E7 m s t cell).length≤16:=by
 unfold E7
 split
 ·rename_i hh
  have:=b1w m t (j6 s cell) cell 2
  rw[b8r hh]at this
  unfold E7 at this
  rw[if_pos hh]at this
  omega
 ·simp
end Go.Mo
