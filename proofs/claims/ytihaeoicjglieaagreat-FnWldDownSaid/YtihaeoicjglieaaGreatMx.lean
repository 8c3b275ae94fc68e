/- What some ends alone need. -/
import Derived.Test.YtihaeoicjglieaaGreatM1
import Derived.Test.YtihaeoicjglieaaGreatM2
import Derived.Test.YtihaeoicjglieaaGreatM3
import Derived.Test.YtihaeoicjglieaaGreatM4
import Derived.Test.YtihaeoicjglieaaGreatM5
import Derived.Test.YtihaeoicjglieaaGreatM6
import Derived.Test.YtihaeoicjglieaaGreatM7
set_option linter.unusedVariables false
set_option linter.unusedSimpArgs false
namespace Go.Mo
open Go.Sx
end Go.Mo
namespace Go.Sx
end Go.Sx
namespace Go.Mo
open Go.Sx
theorem b7T {m:PMap} {c:Cll} (h:s6 m c=true):small c.wlks c.outs:=by
 refine⟨Nat.le_trans (Q3 h) (by decide),fun i => ?_⟩
 have ho:=(n5 h).2.2.2.2.2.2.1
 by_cases hi:i<2
 ·have:=D3 h hi
  have h1:((nth .pcls c.outs i).length:Int)≤5000:=Int.le_trans this.2.2.1 this.1.2
  omega
 ·have:nth .pcls c.outs i = []:=by simp[nth,List.getD,RT.dflt,List.getElem?_eq_none (show c.outs.length≤i by omega)]
  rw[this]
  exact Nat.zero_le _
theorem b7U {m:PMap} {c:Cll} {r:Rec} (h:(F5 m c r).ok=true):small (F5 m c r).c.wlks (F5 m c r).c.outs:=by
 unfold F5 at *
 split at h
 ·rename_i hh
  rw[if_pos hh]
  exact b7T (a2v hh.1 hh.2)
 ·cases h
theorem a0A {w:Wld} {e:Evt} (h:j8 w=true):j8 (b9 w e)=true∧(b9 w e).map=w.map∧(b9 w e).servers.length=w.servers.length:=by
 have:b9 w e=v5 w e:=by simp[b9,h]
 rw[this]
 have:=b5B (e:=e) h
 exact⟨this.1,this.2.2,this.2.1⟩
theorem d3x {w:Wld} (h:j8 w=true):w.stores.length≤4∧(w.stores.length:Int)=w.map.cells ∧ ∀c,c<w.stores.length→B1 w.map (nth .sto w.stores c)=true∧(nth .sto w.stores c).recs.length≤250:=by
 have h1:=a1A (n0.1 h).2.1
 have h2:=o8.1 h1.2
 have h3:=D0.1 (n0.1 h).2.1
 refine⟨by omega,h1.1,fun c hc => ?_⟩
 have:=(h3.2.2 c hc)
 exact⟨this.1,(y7.1 this.1).2.2.1⟩
theorem a2y {w:Wld} {e:Evt} (h:j8 w=true):b9 w e=v5 w e:=by simp[b9,h]
theorem a2m {w:Wld} (h:j8 w=true):w.net.length≤40:=(n0.1 h).2.2.2.1
theorem b0d (n:Nat) (h:0<n) (h1:n≤1000):IntKind.i64.wrap ((n:Int)-1)=(n:Int)-1:=e8 (by omega) (by omega)
theorem a3q (n:Nat) (h1:n≤1000):IntKind.i64.wrap ((n:Int)+1)=(n:Int)+1:=e8 (by omega) (by omega)
theorem a5E {w:Wld} (h:j8 w=true):(w.table.servers.length:Int)=w.map.cells∧(w.table.ages.length:Int)=w.map.cells∧2≤w.map.cells+2∧(w.servers.length:Int)≤3:=by
 have ha:=E9 (n0.1 h).1
 exact⟨ha.1,ha.2.1,by omega,ha.2.2.2.2⟩
theorem c9s {w:Wld} (h:j8 w=true):w.servers.length≤3:=by
 have:=(a5E h).2.2.2
 omega
theorem b5f {w:Wld} {e:Evt} (h:j8 w=true) (hk:e.kind=1) {c:Int} (h0:0≤c) (h1:c<w.map.cells):0≤c∧c<((b9 w e).table.ages.length:Int)∧c<((b9 w e).table.servers.length:Int):=by
 have hk2:=a0A (e:=e) h
 have:=a5E hk2.1
 rw[hk2.2.1]at this
 omega
theorem d5n {w:Wld} {e:Evt} (h:j8 w=true) (hk:e.kind=1) {c:Int} (h0:0≤c) (h1:c<w.map.cells):0≤c∧c<((b9 w e).table.ages.length:Int):=⟨h0,(b5f h hk h0 h1).2.1⟩
theorem d3C {w:Wld} {e:Evt} (h:j8 w=true) (hk:e.kind=1) {c:Int} (h0:0≤c) (h1:c<w.map.cells):0≤c∧c<((b9 w e).table.servers.length:Int):=⟨h0,(b5f h hk h0 h1).2.2⟩
theorem d3G {a b:Nat} (h:(b:Int)=IntKind.i64.wrap ((a:Int)+1)) (ha:a≤40):0≤(a:Int)∧a<b:=by
 rw[a3q _ (by omega)]at h
 omega
theorem c9d (n:Nat) (d k:Int) (h:0<k) (hd:0<d):0≤((n:Int).tdiv d).tmod k∧((n:Int).tdiv d).tmod k<k:=by
 have h0:0≤(n:Int).tdiv d:=Int.tdiv_nonneg (by omega) (by omega)
 rw[Int.tmod_eq_emod_of_nonneg h0]
 exact⟨Int.emod_nonneg _ (by omega),Int.emod_lt_of_pos _ h⟩
theorem c5O {w:Wld} (h:j8 w=true) {c:Int} (h0:0≤c) (h1 : ¬w.map.cells≤c):0≤c∧c<(w.table.ages.length:Int)∧c<(w.table.servers.length:Int):=by
 have ha:=a5E h
 omega
theorem d1f {w:Wld} (h:j8 w=true) (hn : ¬(w.net.length:Int)=0):(nth .msg w.net 0).dest<(w.servers.length:Int):=by
 have hm:=((n0.1 h).2.2.2.2.2.2.2.1 _ (s4 .msg (l:=w.net) (i:=0) (by omega))).1
 simp only[y5,H7,decide_eq_true_eq]at hm
 omega
theorem c9X (n:Nat) (h : ¬1048576<(n:Int)):0≤(IntKind.i64.wrap ((n:Int).tdiv 5)).tmod 4:=by
 have h0:0≤(n:Int).tdiv 5:=Int.tdiv_nonneg (by omega) (by omega)
 have h1:(n:Int).tdiv 5≤n:=by rw[Int.tdiv_eq_ediv_of_nonneg (by omega)];omega
 rw[e8 (by omega) (by omega),Int.tmod_eq_emod_of_nonneg h0]
 exact Int.emod_nonneg _ (by omega)
theorem c7W {w:Wld} {c d:Int} (h:j8 w=true) (h0:0≤c) (h1 : ¬w.map.cells≤c) (h2:0≤d) (h3 : ¬(w.servers.length:Int)≤d) (h4 : ¬ @Eq Int (nth .int w.table.ages c.toNat) 900) :
  j8 w=true∧0≤c∧c<w.map.cells∧0≤d∧d<(w.servers.length:Int) ∧ ¬ @Eq Int (nth .int w.table.ages c.toNat) 900:=⟨h,h0,by omega,h2,by omega,h4⟩
theorem d1s (n:Nat) (k:Int) (h0:0≤k) (h1:k≤100):IntKind.i64.wrap (k+(n:Int).tmod 2)=k∨IntKind.i64.wrap (k+(n:Int).tmod 2)=k+1:=by
 have:(n:Int).tmod 2=0∨(n:Int).tmod 2=1:=by rw[Int.tmod_eq_emod_of_nonneg (by omega)];omega
 rcases this with h|h<;>rw[h]
 ·exact Or.inl (by rw[e8 (by omega) (by omega)];omega)
 ·exact Or.inr (e8 (by omega) (by omega))
theorem b9B {w:Wld} {e:Evt} (h:j8 w=true) (hk:e.kind=5∨e.kind=6) :
  (b9 w e).servers=w.servers∧(b9 w e).stores=w.stores∧(b9 w e).rows=w.rows∧(b9 w e).notes=w.notes∧(b9 w e).table=w.table ∧
  ((b9 w e).net.length:Int)=if 0≤e.pos∧e.pos<(w.net.length:Int)then(if e.kind=5 then(w.net.length:Int)-1 else if(w.net.length:Int)<40 then(w.net.length:Int)+1 else(w.net.length:Int))else(w.net.length:Int):=by
 have hn:=(n0.1 h).2.2.2.1
 rw[a2y h]
 unfold v5
 rw[if_neg (by omega),if_neg (by omega),if_neg (by omega),if_pos (by omega)]
 by_cases hp:0≤e.pos∧e.pos<(w.net.length:Int)
 ·rw[if_pos hp,if_pos hp,if_neg (by omega)]
  by_cases h5:e.kind=5
  ·rw[if_pos h5,if_pos h5]
   refine⟨rfl,rfl,rfl,rfl,rfl,?_⟩
   simp only[wCut]
   rw[List.length_eraseIdx,if_pos (by omega)]
   omega
  ·rw[if_neg h5,if_neg h5]
   refine⟨rfl,rfl,rfl,rfl,rfl,?_⟩
   simp only[v7,List.length_append,List.length_take,List.length_cons,List.length_nil]
   split<;>omega
 ·rw[if_neg hp,if_neg hp]
  exact⟨rfl,rfl,rfl,rfl,rfl,rfl⟩
theorem d1l {w:Wld} {e:Evt} (h:j8 w=true) (hk:e.kind=5) (hp:0≤e.pos) (hp2:e.pos<(w.net.length:Int)):((b9 w e).net.length:Int)=IntKind.i64.wrap ((w.net.length:Int)-1):=by
 have hl:=(b9B h (Or.inl hk)).2.2.2.2.2
 rw[if_pos ⟨hp,hp2⟩,if_pos hk]at hl
 have:=a2m h
 rw[hl,b0d _ (by omega) (by omega)]
theorem c7U {w:Wld} {e:Evt} (h:j8 w=true) (hk:e.kind=1) (hb : ¬(0≤e.pos∧e.pos<w.map.cells∧0≤e.dest∧e.dest<(w.servers.length:Int)∧nth .int w.table.ages e.pos.toNat≠900)):b9 w e=w:=by
 have ha:=E9 (n0.1 h).1
 rw[a2y h]
 unfold v5
 rw[if_pos hk]
 have e1:p9 w.table w.servers.length e.pos e.dest=⟨w.table,false⟩:=by
  unfold p9
  rw[if_neg fun hc=>hb ⟨hc.1,by omega,hc.2.2.1,hc.2.2.2.1,hc.2.2.2.2⟩]
 simp only[e1]
 rfl
theorem a9c {w:Wld} {e:Evt} (h:j8 w=true) (hk:e.kind=1) (hb:0≤e.pos∧e.pos<w.map.cells∧0≤e.dest∧e.dest<(w.servers.length:Int)∧nth .int w.table.ages e.pos.toNat≠900) :
  (b9 w e).servers=w.servers∧(b9 w e).stores=w.stores∧(b9 w e).rows=w.rows∧(b9 w e).notes=w.notes∧(b9 w e).map=w.map ∧
  @Eq Int (nth .int (b9 w e).table.servers e.pos.toNat) e.dest ∧ @Eq Int (nth .int (b9 w e).table.ages e.pos.toNat) (nth .int w.table.ages e.pos.toNat+1) ∧
  (w.net.length<40→(b9 w e).net.length=w.net.length+1∧nth .msg (b9 w e).net w.net.length=⟨1,e.dest,e.pos,0,nth .int (b9 w e).table.ages e.pos.toNat,u5,y8,F8⟩)∧(¬w.net.length<40→(b9 w e).net=w.net):=by
 have ha:=E9 (n0.1 h).1
 rw[a2y h]
 unfold v5
 rw[if_pos hk]
 have e1:p9 w.table w.servers.length e.pos e.dest=⟨⟨w.table.servers.set e.pos.toNat e.dest,w.table.ages.set e.pos.toNat (nth .int w.table.ages e.pos.toNat+1)⟩,true⟩:=by
  unfold p9
  rw[if_pos ⟨hb.1,by omega,hb.2.2.1,hb.2.2.2.1,hb.2.2.2.2⟩]
 simp only[e1,if_true,v7]
 refine⟨trivial,trivial,trivial,trivial,trivial,l9 .int (by omega),l9 .int (by omega),fun hn => ?_,fun hn => ?_⟩
 ·have e1 : [(⟨1,e.dest,e.pos,0,nth .int (w.table.ages.set e.pos.toNat (nth .int w.table.ages e.pos.toNat+1)) e.pos.toNat,u5,y8,F8⟩:Msg)].take (40-w.net.length) = [⟨1,e.dest,e.pos,0,nth .int (w.table.ages.set e.pos.toNat (nth .int w.table.ages e.pos.toNat+1)) e.pos.toNat,u5,y8,F8⟩]:=List.take_of_length_le (by simp;omega)
  rw[e1]
  refine⟨by simp,?_⟩
  rw[l6 .msg _ w.net.length (by simp)]
  simp
 ·rw[show 40-w.net.length=0 by omega]
  simp
theorem c2D {w:Wld} {e:Evt} (h:j8 w=true) (hk:e.kind=1) (hb:0≤e.pos∧e.pos<w.map.cells∧0≤e.dest∧e.dest<(w.servers.length:Int) ∧ ¬nth .int w.table.ages e.pos.toNat=900) (hn:w.net.length<40) :
  nth .msg (b9 w e).net w.net.length=⟨1,e.dest,e.pos,0,nth .int (b9 w e).table.ages e.pos.toNat,⟨0,0,0,0,0⟩,⟨0,0,⟨0,0,0,0,0⟩,0⟩,⟨0,0,⟨0,0,0,0,0⟩⟩⟩:=((a9c h hk hb).2.2.2.2.2.2.2.1 hn).2
theorem c2E {w:Wld} {e:Evt} (h:j8 w=true) (hk:e.kind=1) (hb:0≤e.pos∧e.pos<w.map.cells∧0≤e.dest∧e.dest<(w.servers.length:Int) ∧ ¬nth .int w.table.ages e.pos.toNat=900) (hn:w.net.length<40) :
  ((b9 w e).net.length:Int)=IntKind.i64.wrap ((w.net.length:Int)+1):=by
 have:=((a9c h hk hb).2.2.2.2.2.2.2.1 hn).1
 rw[a3q _ (by omega)]
 omega
theorem b4K {w:Wld} {p d:Int} (h:j8 w=true∧0≤p∧p<w.map.cells∧0≤d∧d<(w.servers.length:Int) ∧ ¬nth .int w.table.ages p.toNat=900) :
  (b9 w ⟨1,p,0,d,0⟩).servers=w.servers∧(b9 w ⟨1,p,0,d,0⟩).stores=w.stores∧(b9 w ⟨1,p,0,d,0⟩).rows=w.rows∧(b9 w ⟨1,p,0,d,0⟩).notes=w.notes ∧
  @Eq Int (nth .int (b9 w ⟨1,p,0,d,0⟩).table.servers p.toNat) d ∧ @Eq Int (nth .int (b9 w ⟨1,p,0,d,0⟩).table.ages p.toNat) (IntKind.i64.wrap (nth .int w.table.ages p.toNat+1)) ∧
  (w.net.length<40→((b9 w ⟨1,p,0,d,0⟩).net.length:Int)=IntKind.i64.wrap ((w.net.length:Int)+1)∧nth .msg (b9 w ⟨1,p,0,d,0⟩).net w.net.length=⟨1,d,p,0,nth .int (b9 w ⟨1,p,0,d,0⟩).table.ages p.toNat,⟨0,0,0,0,0⟩,⟨0,0,⟨0,0,0,0,0⟩,0⟩,⟨0,0,⟨0,0,0,0,0⟩⟩⟩) ∧
  (¬w.net.length<40→(b9 w ⟨1,p,0,d,0⟩).net=w.net)∧w.net.length≤40:=by
 have hg:=a9c (e:=⟨1,p,0,d,0⟩) h.1 rfl h.2
 have ha:=E9 (n0.1 h.1).1
 have hb:=a6D (n0.1 h.1).1 (k:=p.toNat) (by omega)
 have h1 : @LE.le Int _ 0 (nth .int w.table.ages p.toNat):=hb.2.2.1
 have h2 : @LE.le Int _ (nth .int w.table.ages p.toNat) 900:=hb.2.2.2.1
 have hw:IntKind.i64.wrap (nth .int w.table.ages p.toNat+1)=nth .int w.table.ages p.toNat+1:=e8 (by omega) (by omega)
 refine⟨hg.1,hg.2.1,hg.2.2.1,hg.2.2.2.1,hg.2.2.2.2.2.1,?_,fun hn=>⟨c2E h.1 rfl h.2 hn,c2D h.1 rfl h.2 hn⟩,hg.2.2.2.2.2.2.2.2,a2m h.1⟩
 rw[hw]
 exact hg.2.2.2.2.2.2.1
theorem d5h {w:Wld} {e:Evt} (h:j8 w=true) (hk:e.kind=2) :
  (b9 w e).servers=w.servers∧(b9 w e).stores=w.stores∧(b9 w e).net=w.net∧(b9 w e).notes=w.notes∧(b9 w e).table=w.table:=by
 rw[a2y h]
 unfold v5
 rw[if_neg (by omega),if_pos hk]
 exact⟨rfl,rfl,rfl,rfl,rfl⟩
theorem c3C {w:Wld} {e:Evt} (h:j8 w=true) (hk:e.kind=3) :
  (b9 w e).servers=w.servers∧(b9 w e).stores=w.stores∧(b9 w e).rows=w.rows∧(b9 w e).notes=w.notes∧(b9 w e).table=w.table ∧
  w.net.length≤(b9 w e).net.length∧(b9 w e).net.length≤w.net.length+1∧(b9 w e).net.take w.net.length=w.net:=by
 rw[a2y h]
 unfold v5
 rw[if_neg (by omega),if_neg (by omega),if_pos hk]
 split
 ·refine⟨rfl,rfl,rfl,rfl,rfl,?_⟩
  simp only[v7,List.length_append,List.length_take,List.length_cons,List.length_nil]
  refine⟨by omega,by omega,by simp⟩
 ·exact⟨rfl,rfl,rfl,rfl,rfl,by omega,by omega,by simp⟩
theorem c3B {w:Wld} {e:Evt} (h:j8 w=true) (hk:e.kind=3):((b9 w e).net.length:Int)≤IntKind.i64.wrap ((w.net.length:Int)+1):=by
 have hl:=c3C h hk
 have:=a2m h
 rw[a3q _ (by omega)]
 omega
theorem b2x {w:Wld} {e:Evt} (h:j8 w=true) (hk:e.kind=8) (hp:0≤e.pos∧e.pos<(w.servers.length:Int)) :
  b9 w e=⟨w.map,w.servers.set e.pos.toNat ⟨false,[],[]⟩,w.stores,w.table,w.rows,w.net,w.notes⟩:=by
 rw[a2y h]
 unfold v5
 rw[if_neg (by omega),if_neg (by omega),if_neg (by omega),if_neg (by omega),if_pos (by omega),if_pos hp,if_neg (by omega),if_pos hk]
theorem c0q {w:Wld} {e:Evt} (h:j8 w=true) (hk:e.kind=8) (hp : ¬(0≤e.pos∧e.pos<(w.servers.length:Int))):b9 w e=w:=by
 rw[a2y h]
 unfold v5
 rw[if_neg (by omega),if_neg (by omega),if_neg (by omega),if_neg (by omega),if_pos (by omega),if_neg hp]
theorem c9T {w:Wld} {e:Evt} (h:j8 w=true) (hk:e.kind=9) (hp:0≤e.pos∧e.pos<(w.servers.length:Int)) (hu:(nth .srv w.servers e.pos.toNat).up=false) :
  b9 w e=⟨w.map,w.servers.set e.pos.toNat ⟨true,[],[]⟩,w.stores,w.table,w.rows,w.net,w.notes⟩:=by
 rw[a2y h]
 unfold v5
 rw[if_neg (by omega),if_neg (by omega),if_neg (by omega),if_neg (by omega),if_pos (by omega),if_pos hp,if_neg (by omega),if_neg (by omega),if_pos hu]
theorem c8m {w:Wld} {e f:Evt} (h:j8 w=true) (he:e.kind=8) (hf:f.kind=9) (hp:0≤e.pos∧e.pos<(w.servers.length:Int)) (hfp:f.pos=e.pos) :
  b9 (b9 w e) f=⟨w.map,w.servers.set e.pos.toNat ⟨true,[],[]⟩,w.stores,w.table,w.rows,w.net,w.notes⟩:=by
 have hk:=(a0A (e:=e) h).1
 have h1:=b2x h he hp
 rw[h1]at hk ⊢
 have hlt:e.pos.toNat<w.servers.length:=by omega
 rw[c9T hk hf (by rw[hfp];simp only[List.length_set];exact hp) (by rw[hfp];simp only[l9 .srv hlt])]
 simp only[hfp,List.set_set]
theorem d2e {l:List Srv} {p i:Int} {s:Srv} (h0:0≤p) (h1:0≤i) (hn : ¬i=p):nth .srv (l.set p.toNat s) i.toNat=nth .srv l i.toNat:=n6 .srv (by omega)
theorem d4U {l:List Srv} {p:Int} {s:Srv} (h0:0≤p) (h1:p<(l.length:Int)):nth .srv (l.set p.toNat s) p.toNat=s:=l9 .srv (by omega)
theorem d2f {l:List Srv} {p:Int} {s:Srv}:(l.set p.toNat s).length=l.length:=by simp
theorem d2p {w:Wld} {e:Evt} (h:j8 w=true) (hk:e.kind=4) (hp:e.pos=0) (hn:0<w.net.length) (hd:0≤(nth .msg w.net 0).dest) (hu:(nth .srv w.servers (nth .msg w.net 0).dest.toNat).up=false) :
  (b9 w e).servers=w.servers∧(b9 w e).stores=w.stores∧(b9 w e).rows=w.rows∧(b9 w e).notes=w.notes∧(b9 w e).table=w.table∧(b9 w e).net=w.net.drop 1:=by
 rw[a2y h]
 unfold v5
 rw[if_neg (by omega),if_neg (by omega),if_neg (by omega),if_pos (by omega),if_pos (by omega),if_pos hk,hp]
 unfold V8
 simp only[Int.toNat_zero]
 rw[if_neg (by omega)]
 have e1:o6 w.map (nth .srv w.servers (nth .msg w.net 0).dest.toNat) w.stores w.table (nth .msg w.net 0)=⟨nth .srv w.servers (nth .msg w.net 0).dest.toNat,w.stores,[]⟩:=by
  unfold o6
  rw[if_pos (Or.inl hu)]
 simp only[a1Z,wCut,e1,v7]
 refine⟨?_,trivial,trivial,trivial,trivial,by simp⟩
 by_cases hl:(nth .msg w.net 0).dest.toNat<w.servers.length
 ·rw[l6 .srv _ _ hl]
  exact List.set_getElem_self hl
 ·exact List.set_eq_of_length_le (by omega)
section
variable {a b:List Sto} {k n:Nat}
theorem c2h:O3 a b 0 = -1:=rfl
theorem c7u (h:O3 a b k = -2) (hk:k≤n):O3 a b n = -2:=by
 induction n with
 |zero=>rw[show(0:Nat)=k by omega];exact h
 |succ n ih =>
  by_cases hn:k=n+1
  ·rw[←hn];exact h
  ·unfold O3
   rw[if_pos (Or.inl (ih (by omega)))]
theorem c7w (hk:k<a.length) (h:newD a b k<0∨1<newD a b k∨newD a b k=1∧O3 a b k ≠ -1):b1M a b = -2:=by
 refine c7u (k:=k+1) ?_ (by omega)
 unfold O3
 rw[if_pos (Or.inr h)]
theorem c7v (h:k=a.length):O3 a b k=b1M a b:=by subst h;rfl
theorem d1e : -2≤O3 a b k∧O3 a b k<k:=by
 induction k with
 |zero=>simp[O3]
 |succ k ih =>
  unfold O3
  split
  ·omega
  ·split<;>omega
end
theorem d1o {m:PMap} {s s':Srv} {st st':List Sto} {v:Int} {x:Msg} (hst:A9 m st=true) (hx:y5 m v x=true) (he:Eff m s st x s' st'):LogsE st st':=by
 have hc:=a2x hst hx
 have key : ∀(a:Int) (b:Cll) (l:List Rec),(n8 st x).age≤a→(l = [] ∨ ∃r,l = [r])→LogsE st (st.set x.cell.toNat ⟨a,b,(n8 st x).recs++l⟩):=by
  intro a b l ha hl
  have hn : ∀i:Nat,i≠x.cell.toNat→nth .sto (st.set x.cell.toNat ⟨a,b,(n8 st x).recs++l⟩) i=nth .sto st i:=fun i hi=>n6 .sto (fun h=>hi h.symm)
  have hs:nth .sto (st.set x.cell.toNat ⟨a,b,(n8 st x).recs++l⟩) x.cell.toNat=⟨a,b,(n8 st x).recs++l⟩:=l9 .sto hc.2.1
  have hO:nth .sto st x.cell.toNat=n8 st x:=rfl
  refine⟨by simp,fun i => ?_,fun i => ?_,?_⟩
  ·by_cases hi:i=x.cell.toNat
   ·subst hi
    rw[hs,hO]
    simp
   ·rw[hn i hi]
    simp
  ·by_cases hi:i=x.cell.toNat
   ·subst hi
    rw[hs,hO]
    exact ha
   ·rw[hn i hi]
    omega
  ·rcases hl with rfl|⟨r,rfl⟩
   ·refine Or.inl fun i => ?_
    unfold newD
    by_cases hi:i=x.cell.toNat
    ·subst hi
     rw[hs,hO]
     simp
    ·rw[hn i hi]
     omega
   ·refine Or.inr ⟨x.cell.toNat,hc.2.1,?_,fun i hi => ?_⟩
    ·unfold newD
     rw[hs,hO]
     simp only[List.length_append,List.length_cons,List.length_nil]
     omega
    ·unfold newD
     rw[hn i hi]
     omega
 cases he with
 |same=>exact .refl _
 |ghost=>exact .refl _
 |lost=>exact .refl _
 |grant hu hk hn ha=>have:=key x.n (n8 st x).base [] ha (Or.inl rfl);simpa using this
 |write=>exact key _ _ [o7 x] (by omega) (Or.inr ⟨_,rfl⟩)
theorem c2G (w:Wld) (x:Msg):(a1y w x).notes.take w.notes.length=w.notes∧w.notes.length≤(a1y w x).notes.length:=by
 have e:(a1y w x).notes=if(B2 w.map w.rows x).ok=true∧w.notes.length<150 then w.notes ++ [⟨x.ord.who,x.ord.seq,x.n⟩]else w.notes:=rfl
 rw[e]
 split<;>simp
theorem d1n {w:Wld} {e:Evt} (h:j8 w=true):LogsE w.stores (b9 w e).stores∧(b9 w e).table.ages.length=w.table.ages.length∧(∀i,@LE.le Int _ (nth .int w.table.ages i) (nth .int (b9 w e).table.ages i)) ∧
  (b9 w e).notes.take w.notes.length=w.notes∧w.notes.length≤(b9 w e).notes.length:=by
 rw[a2y h]
 have hs:=a3v w e
 generalize v5 w e=W at *
 cases hs with
 |grant cell server hg =>
  refine⟨.refl _,?_,fun i => ?_,by simp[v7],by simp[v7]⟩
  ·simp only[v7,p9]
   split<;>simp
  ·simp only[v7,p9]
   split
   ·simp only
    by_cases hi:cell.toNat=i
    ·subst hi
     by_cases hl:cell.toNat<w.table.ages.length
     ·rw[l9 .int hl]
      exact Int.le_of_lt (Int.lt_succ _)
     ·rw[List.set_eq_of_length_le (by omega)]
      exact Int.le_refl _
    ·rw[n6 .int hi]
     exact Int.le_refl _
   ·exact Int.le_refl _
 |gate i hi hd =>
  have hg:=c2G (wCut w i) (nth .msg w.net i)
  exact⟨.refl _,rfl,fun i=>Int.le_refl _,hg.1,hg.2⟩
 |hear i hi hd =>
  obtain⟨X,hX,e⟩:=heard h hi hd
  rw[e]
  exact⟨d1o hX.stos hX.ok hX.eff,rfl,fun i=>Int.le_refl _,by simp[v7],by simp[v7]⟩
 |_=>exact⟨.refl _,rfl,fun i=>Int.le_refl _,by simp[v7,wCut],by simp[v7,wCut]⟩
theorem b0G {w:Wld} (h:j8 w=true):w.stores.length≤4:=by
 have h1:=a1A (n0.1 h).2.1
 have h2:=o8.1 h1.2
 omega
theorem c4h {w:Wld} (h:j8 w=true) {i:Nat} (hi:i<w.stores.length):(nth .sto w.stores i).recs.length≤250:=by
 have h3:=D0.1 (n0.1 h).2.1
 have:=(h3.2.2 i hi).1
 have:=(y7.1 this).2.2
 omega
end Go.Mo
