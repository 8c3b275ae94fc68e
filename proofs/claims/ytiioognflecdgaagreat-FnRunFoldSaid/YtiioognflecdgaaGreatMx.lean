/- What some ends alone need. -/
import Derived.Test.YtiioognflecdgaaGreatM1
import Derived.Test.YtiioognflecdgaaGreatM2
import Derived.Test.YtiioognflecdgaaGreatM3
import Derived.Test.YtiioognflecdgaaGreatM4
import Derived.Test.YtiioognflecdgaaGreatM5
import Derived.Test.YtiioognflecdgaaGreatM6
import Derived.Test.YtiioognflecdgaaGreatM7
set_option linter.unusedVariables false
set_option linter.unusedSimpArgs false
namespace Go.Mo
open Go.Sx
end Go.Mo
namespace Go.Sx
end Go.Sx
namespace Go.Mo
open Go.Sx
theorem b5N {m:PMap} {c:Cll} (h:p9 m c=true):small c.wlks c.outs:=by
 refine⟨Nat.le_trans (Q6 h) (by decide),fun i => ?_⟩
 have ho:=(o7 h).2.2.2.2.2.2.1
 by_cases hi:i<2
 ·have:=C6 h hi
  have h1:((nth .pcls c.outs i).length:Int)≤5000:=Int.le_trans this.2.2.1 this.1.2
  omega
 ·have:nth .pcls c.outs i = []:=by simp[nth,List.getD,RT.dflt,List.getElem?_eq_none (show c.outs.length≤i by omega)]
  rw[this]
  exact Nat.zero_le _
theorem a3Z {b:List Wlk} (h:b.length≤1000):small b []:=⟨h,fun i=>by simp[nth,RT.dflt]⟩
theorem c3i {b:List Wlk} (h:b.length≤1000):small b [[],[]]:=⟨h,fun i=>by
 match i with
 | 0=>simp[nth]
 | 1=>simp[nth]
 |(n+2)=>simp[nth,RT.dflt]⟩
theorem b5O {m:PMap} {c:Cll} {r:Rec} (h:(D9 m c r).ok=true):small (D9 m c r).c.wlks (D9 m c r).c.outs:=by
 unfold D9 at *
 split at h
 ·rename_i hh
  rw[if_pos hh]
  exact b5N (a1w hh.1 hh.2)
 ·cases h
theorem c9N {a b:Row}:a=b↔a.who=b.who∧a.cell=b.cell∧a.busy=b.busy∧a.ord=b.ord∧a.seq=b.seq∧a.code=b.code:=by
 cases a;cases b;simp
theorem c1Y {a b:Gst}:a=b↔a.src=b.src∧a.count=b.count∧a.wlk=b.wlk:=by
 cases a;cases b;simp
theorem d0D {a b:Msg}:a=b↔a.kind=b.kind∧a.dest=b.dest∧a.cell=b.cell∧a.side=b.side∧a.n=b.n∧a.ord=b.ord∧a.pcl=b.pcl∧a.gst=b.gst:=by
 cases a;cases b;simp
def begC (a b:Th Int) (l:Th (List Wlk)) (k q:Th Int) (p:Int):Th Prop:=fun _=>p7 ⟨a (),b ()⟩=true∧z6 ⟨a (),b ()⟩ (l ())=true∧0≤k ()∧k ()≤5∧p≤q ()∧q ()≤p+3+2 * (5-k ())
theorem d0G {x y:Int} (h1:0≤x) (h2:x<5) (h3:0≤y) (h4:y<60) : @LE.le Int _ (nth .int [0,10,20,40,y] x.toNat) 60:=by
 have:x=0∨x=1∨x=2∨x=3∨x=4:=by omega
 rcases this with rfl|rfl|rfl|rfl|rfl
 ·show(0:Int)≤60;decide
 ·show(10:Int)≤60;decide
 ·show(20:Int)≤60;decide
 ·show(40:Int)≤60;decide
 ·show y≤60
  omega
section
variable {m:PMap} {st st':List Sto} {d:Int} {r:Rec}
end
end Go.Mo
namespace Go.Mo
open Go.Sx
def runX (w:Wld) (l:List Evt):Wld:=if j6 w=true∧l.length≤400 then J3 w l else K4
theorem a9w {w:Wld} {l:List Evt} (h:j6 w=false):runX w l=K4:=by
 unfold runX
 rw[if_neg (by rw[h];intro q;cases q.1)]
theorem a9v {w:Wld} {l:List Evt} (h:400<(l.length:Int)):runX w l=K4:=by
 unfold runX
 rw[if_neg (by omega)]
theorem b3X {w:Wld} {l:List Evt} (h1:j6 w=true) (h2:(l.length:Int)≤400):runX w l=J3 w l:=by
 unfold runX
 rw[if_pos ⟨h1,by omega⟩]
theorem a5T {w:Wld} (h:j6 w=true) (l:List Evt):j6 (J3 w l)=true:=by
 induction l generalizing w with
 |nil=>exact h
 |cons e l ih=>exact ih (a6W e h)
theorem b8U {w:Wld} (h:j6 w=true) (l:List Evt) (k:Nat):j6 (J2 w l k)=true:=a5T h _
theorem c5C {w:Wld} (h:j6 w=true) (e:Evt):m9 w e=m0 w e:=by
 unfold m0
 rw[if_pos h]
theorem c3w (w:Wld) (l:List Evt) (k:Nat):J3 (J3 w (l.take k)) (l.drop k)=J3 w l:=by
 unfold J3
 rw[←List.foldl_append,List.take_append_drop]
theorem c1m {w:Wld} {l:List Evt} (h1:j6 w=true) (h2:(l.length:Int)≤400) (k:Nat):runX (runX w (l.take k)) (l.drop k)=runX w l∧j6 (runX w l)=true:=by
 have ha:((l.take k).length:Int)≤400:=by rw[List.length_take];omega
 have hb:((l.drop k).length:Int)≤400:=by rw[List.length_drop];omega
 rw[b3X h1 ha,b3X (a5T h1 _) hb,b3X h1 h2,c3w]
 exact⟨rfl,a5T h1 _⟩
theorem b6o {w x:Wld} {l:List Evt} {i:Int} (hw:j6 w=true) (hl:(l.length:Int)≤400) (h0:0≤i) (h1:i<l.length) (hx:x=J2 w l i.toNat):0≤IntKind.i64.wrap (i+1)∧IntKind.i64.wrap (i+1)≤l.length∧m0 x (nth .evt l i.toNat)=J2 w l (IntKind.i64.wrap (i+1)).toNat ∧
  m9 x (nth .evt l i.toNat)=J2 w l (IntKind.i64.wrap (i+1)).toNat∧j6 x=true:=by
 have hwr:IntKind.i64.wrap (i+1)=i+1:=b8 (by omega) (by omega)
 have hok:j6 x=true:=by rw[hx];exact b8U hw _ _
 rw[hwr,show(i+1).toNat=i.toNat+1 by omega,a2B (by omega),c5C hok,hx]
 exact⟨by omega,by omega,rfl,rfl,hx▸hok⟩
theorem c1l {w x:Wld} {l:List Evt} {i:Int} (hw:j6 w=true) (hl:(l.length:Int)≤400) (h1 : ¬i<(l.length:Int)) (h2:i≤l.length) (hx:x=J2 w l i.toNat):x=runX w l∧j6 x=true:=by
 have:x=J3 w l:=by rw[hx];exact a7X (by omega)
 rw[b3X hw hl,this]
 exact⟨rfl,a5T hw _⟩
theorem a9t {l:List Evt} {i:Int} (hl:(l.length:Int)≤400) (h0:0≤i) (h1:i<l.length):IntKind.i64.wrap (i+1)=i+1:=b8 (by omega) (by omega)
theorem b6j {l:List Evt} {i:Int} (hl:(l.length:Int)≤400) (h0:0≤i) (h1:i<l.length):(401-IntKind.i64.wrap (i+1)).toNat<(401-i).toNat:=by rw[a9t hl h0 h1];omega
theorem b2p {w:Wld} {l:List Evt} (h:j6 w=true) (h4 : ¬400<(l.length:Int)):j6 w=true∧(l.length:Int)≤400∧(0:Int)≤0∧(0:Int)≤l.length∧w=J2 w l (Int.toNat 0):=⟨h,by omega,by omega,by omega,rfl⟩
theorem b3V {n:Nat} {l:List Evt} (h4 : ¬400<(l.length:Int)):IntKind.i64.wrap ((l.length:Int)+1)=l.length+1∧0≤(n:Int).tmod (IntKind.i64.wrap ((l.length:Int)+1))∧(n:Int).tmod (IntKind.i64.wrap ((l.length:Int)+1))≤l.length:=by
 have hw:IntKind.i64.wrap ((l.length:Int)+1)=l.length+1:=b8 (by omega) (by omega)
 rw[hw]
 have h1:=Int.tmod_lt_of_pos (n:Int) (b:=(l.length:Int)+1) (by omega)
 have h2:0≤(n:Int).tmod ((l.length:Int)+1):=Int.tmod_nonneg _ (by omega)
 exact⟨rfl,h2,by omega⟩
theorem d2p {l:List Evt} (h4 : ¬400<(l.length:Int)) : ¬IntKind.i64.wrap ((l.length:Int)+1)=0:=by
 rw[(b3V (n:=0) h4).1]
 omega
theorem d2o {n:Nat} {l:List Evt} (h4 : ¬400<(l.length:Int)):(0:Int)≤0∧0≤(n:Int).tmod (IntKind.i64.wrap ((l.length:Int)+1))∧(n:Int).tmod (IntKind.i64.wrap ((l.length:Int)+1))≤l.length:=⟨Int.le_refl 0,(b3V h4).2⟩
theorem d2n {n:Nat} {l:List Evt} (h4 : ¬400<(l.length:Int)):0≤(n:Int).tmod (IntKind.i64.wrap ((l.length:Int)+1))∧(n:Int).tmod (IntKind.i64.wrap ((l.length:Int)+1))≤l.length∧l.length≤l.length:=⟨(b3V h4).2.1,(b3V h4).2.2,Nat.le_refl _⟩
theorem d2m {w:Wld} {l:List Evt} (h:j6 w=true) (h4 : ¬400<(l.length:Int)):j6 (runX w l)=true:=(c1m h (by omega) 0).2
theorem d2l {w:Wld} {l:List Evt} {k:Nat} (h:j6 w=true) (h4 : ¬400<(l.length:Int)):runX (runX w (List.drop (Int.toNat 0) (List.take k l))) (List.drop k (List.take l.length l))=runX w l:=by
 rw[List.take_length]
 exact(c1m h (by omega) k).1
theorem c3n {w:Wld} {l:List Evt} (h:j6 w=false) (q : ¬runX w l=⟨⟨0,0⟩,[],[],⟨[],[]⟩,[],[],[]⟩):False:=q (a9w h)
theorem c3m {w:Wld} {l:List Evt} (h:400<(l.length:Int)) (q : ¬runX w l=⟨⟨0,0⟩,[],[],⟨[],[]⟩,[],[],[]⟩):False:=q (a9v h)
end Go.Mo
namespace Go.Sx
end Go.Sx
namespace Go.Mo
open Go.Sx
theorem c9H {w:Wld} (h:j6 w=true):w.stores.length≤4∧(w.stores.length:Int)=w.map.cells ∧ ∀c,c<w.stores.length→A3 w.map (nth .sto w.stores c)=true∧(nth .sto w.stores c).recs.length≤250:=by
 have h1:=a3j (m7.1 h).2.1
 have h2:=s0.1 h1.2
 have h3:=C4.1 (m7.1 h).2.1
 refine⟨by omega,h1.1,fun c hc => ?_⟩
 have:=(h3.2.2 c hc)
 exact⟨this.1,(v8.1 this.1).2.2.1⟩
section
variable {m:PMap} {st:List Sto} {i s j k:Nat}
end
section
variable {m:PMap} {st:List Sto} {i s j k:Nat}
end
end Go.Mo
namespace Go.Sx
end Go.Sx
namespace Go.Mo
open Go.Sx
section
variable {l:List OW} {i j:Nat}
end
end Go.Mo
namespace Go.Mo
open Go.Sx
section
variable {l:List OW} {w:OW} {k:Nat}
end
end Go.Mo
