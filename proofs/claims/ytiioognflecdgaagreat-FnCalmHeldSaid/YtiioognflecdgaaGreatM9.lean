/-
  Plain laws of calm rounds: the model, and what FnCalmSum says of it.
-/
import Derived.Test.YtiioognflecdgaaGreatFy
import Derived.Test.YtiioognflecdgaaGreatMy
import Derived.Test.YtiioognflecdgaaGreatM7
import Derived.Test.YtiioognflecdgaaGreatM8
set_option linter.unusedVariables false
set_option linter.unusedSimpArgs false
namespace Go.Mo
open Go.Sx
def s5 (f:Wld→Nat→Wld) (w:Wld):Nat→Wld
 | 0=>w
 |k+1=>f (s5 f w k) k
def E1 (w:Wld):Nat→Wld
 | 0=>w
 |k+1=>if(E1 w k).net.length=0 then E1 w k else m9 (E1 w k) ⟨4,0,0,0,0⟩
@[irreducible] def m8 (w:Wld):Wld:=E1 w 200
def n7 (w:Wld) (c:Nat):Wld:=if D4 w (c:Int)=true then w else m8 (m9 w ⟨1,(c:Int),0,(c:Int)%(w.servers.length:Int),0⟩)
def B3 (w:Wld) (c:Nat):Wld:=m8 (m9 w ⟨7,max (j9 w.table (c:Int)) 0,0,(c:Int),0⟩)
def S8 (w:Wld) (i:Nat):Wld:=m8 (m9 w ⟨3,(nth .row w.rows i).who,0,0,0⟩)
def A1 (w:Wld) (i:Nat):Wld:=m9 w ⟨9,(i:Int),0,0,0⟩
def D0 (w:Wld):Wld:=s5 S8 (s5 B3 (s5 n7 (m8 w) w.map.cells.toNat) w.map.cells.toNat) w.rows.length
def U2 (w:Wld):Wld:=s5 A1 w w.servers.length
def U8 (w:Wld) (n:Int):Wld:=if j6 w=true∧n≤60 then s5 (fun x _=>D0 x) (U2 w) n.toNat else K4
structure Kept (w x:Wld):Prop where
 ok:j6 x=true
 map:x.map=w.map
 srv:x.servers.length=w.servers.length
 row:x.rows.length=w.rows.length
 up : ∀i:Nat,(nth .srv w.servers i).up=true→(nth .srv x.servers i).up=true
theorem Kept.refl {w:Wld} (h:j6 w=true):Kept w w:=⟨h,rfl,rfl,rfl,fun _ h=>h⟩
theorem Kept.trans {w x y:Wld} (h:Kept w x) (h':Kept x y):Kept w y:=⟨h'.ok,h'.map.trans h.map,h'.srv.trans h.srv,h'.row.trans h.row,fun i q=>h'.up i (h.up i q)⟩
theorem a8R (m:PMap) (s:Srv) (st:List Sto) (c:Int) (r:Rec):(B1 m s st c r).srv.up=s.up:=by
 unfold B1
 simp only
 split
 ·rfl
 ·split<;>rfl
theorem c8d (m:PMap) (s:Srv) (st:List Sto) (t:Arb) (x:Msg):(n5 m s st t x).srv.up=s.up:=by
 unfold n5
 split
 ·rfl
 split
 ·unfold H5
  split
  ·rfl
  ·split<;>rfl
 split
 ·rfl
 split
 ·rfl
 split
 ·unfold V2
  simp only
  split
  ·rfl
  ·split
   ·rfl
   ·split
    ·rfl
    ·exact a8R _ _ _ _ _
 split
 ·unfold V1
  simp only
  split
  ·rfl
  ·exact a8R _ _ _ _ _
 ·exact a8R _ _ _ _ _
theorem d2a {l:List Srv} {k:Nat} {s:Srv} (h:s.up=(nth .srv l k).up) (i:Nat) (hu:(nth .srv l i).up=true):(nth .srv (l.set k s) i).up=true:=by
 by_cases hk:k=i
 ·subst hk
  by_cases hl:k<l.length
  ·rw[m6 .srv hl,h]
   exact hu
  ·rw[List.set_eq_of_length_le (by omega)]
   exact hu
 ·rw[q9 .srv hk]
  exact hu
theorem b7F (m:PMap) (l:List Row) (x:Msg):(z8 m l x).b.length=l.length:=by
 unfold z8
 simp only
 split
 ·split
  ·simp
  ·split<;>simp
 ·rfl
theorem b9S (l:List Row) (a b c d:Int):(L6 l a b c d).b.length=l.length:=by
 unfold L6
 split<;>simp
theorem b8z (w:Wld) (e:Evt) (hk:e.kind≠8):(m9 w e).rows.length=w.rows.length ∧ ∀i:Nat,(nth .srv w.servers i).up=true→(nth .srv (m9 w e).servers i).up=true:=by
 unfold m9
 simp only[if_neg hk]
 split
 ·split<;>exact⟨rfl,fun i h=>h⟩
 split
 ·exact⟨b9S _ _ _ _ _,fun i h=>h⟩
 split
 ·split<;>exact⟨rfl,fun i h=>h⟩
 split
 ·split
  ·split
   ·unfold J7
    simp only
    split
    ·exact⟨b7F _ _ _,fun i h=>h⟩
    ·exact⟨rfl,fun i h=>d2a (c8d _ _ _ _ _) i h⟩
   ·split<;>exact⟨rfl,fun i h=>h⟩
  ·exact⟨rfl,fun i h=>h⟩
 split
 ·split
  ·split
   ·exact⟨rfl,fun i h=>h⟩
   ·split
    ·rename_i hu
     refine⟨rfl,fun i h => ?_⟩
     by_cases hi:e.pos.toNat=i
     ·subst hi
      rw[h]at hu
      cases hu
     ·show(nth .srv (w.servers.set _ _) i).up=true
      rw[q9 .srv hi]
      exact h
    ·exact⟨rfl,fun i h=>h⟩
  ·exact⟨rfl,fun i h=>h⟩
 ·exact⟨rfl,fun i h=>h⟩
theorem L5 {w:Wld} (h:j6 w=true) {e:Evt} (hk:e.kind≠8):Kept w (m9 w e) :=
 have q:=a8B (e:=e) h
 have p:=b8z w e hk
 ⟨q.1,q.2.2,q.2.1,p.1,p.2⟩
theorem a8l {w:Wld} (h:j6 w=true) (k:Nat):Kept w (E1 w k):=by
 induction k with
 |zero=>exact .refl h
 |succ k ih =>
  unfold E1
  split
  ·exact ih
  ·exact ih.trans (L5 ih.ok (by decide))
theorem Y2 {w:Wld} (h:j6 w=true):Kept w (m8 w):=by
 unfold m8
 exact a8l h 200
theorem T9 {f:Wld→Nat→Wld} (hf : ∀x k,j6 x=true→Kept x (f x k)) {w:Wld} (h:j6 w=true) (n:Nat):Kept w (s5 f w n):=by
 induction n with
 |zero=>exact .refl h
 |succ n ih=>exact ih.trans (hf _ n ih.ok)
theorem a7z {w:Wld} {e:Evt} (h:j6 w=true) (hk:e.kind≠8):Kept w (m8 (m9 w e)):=(L5 h hk).trans (Y2 (L5 h hk).ok)
theorem a2I {w:Wld} (h:j6 w=true) (c:Nat):Kept w (n7 w c):=by
 unfold n7
 split
 ·exact .refl h
 ·exact a7z h (by intro q;cases q)
theorem a4n {w:Wld} (h:j6 w=true) (c:Nat):Kept w (B3 w c):=a7z h (by intro q;cases q)
theorem b7r {w:Wld} (h:j6 w=true) (i:Nat):Kept w (S8 w i):=a7z h (by intro q;cases q)
theorem a2a {w:Wld} (h:j6 w=true) (i:Nat):Kept w (A1 w i):=L5 h (by intro q;cases q)
theorem b9E {w:Wld} (h:j6 w=true):Kept w (D0 w):=by
 have h1:=Y2 h
 have h2:=T9 (f:=n7) (fun _ k q=>a2I q k) h1.ok w.map.cells.toNat
 have h3:=T9 (f:=B3) (fun _ k q=>a4n q k) h2.ok w.map.cells.toNat
 have h4:=T9 (f:=S8) (fun _ k q=>b7r q k) h3.ok w.rows.length
 exact((h1.trans h2).trans h3).trans h4
theorem b4I {w:Wld} (h:j6 w=true):Kept w (U2 w):=T9 (fun _ k q=>a2a q k) h _
theorem a8k {w:Wld} (h:j6 w=true) (n:Nat):Kept w (s5 (fun x _=>D0 x) w n):=T9 (fun _ _ q=>b9E q) h n
def a8x (w:Wld):Prop := ∀i:Nat,i<w.servers.length→(nth .srv w.servers i).up=true
theorem a8x.kept {w x:Wld} (h:a8x w) (k:Kept w x):a8x x:=fun i hi=>k.up i (h i (by rw[←k.srv];exact hi))
theorem c9T {w:Wld} {i:Nat} (hi:i<w.servers.length):(nth .srv (A1 w i).servers i).up=true:=by
 unfold A1 m9
 simp only
 rw[if_neg (by decide),if_neg (by decide),if_neg (by decide),if_neg (by decide),if_pos (by decide),if_pos (by omega),if_neg (by decide),if_neg (by decide)]
 split
 ·show(nth .srv (w.servers.set ((i:Int).toNat) _) i).up=true
  rw[show((i:Int).toNat)=i by omega,m6 .srv hi]
 ·rename_i h
  rw[show((i:Int).toNat)=i by omega]at h
  simpa using h
theorem c5G {w:Wld} (h:j6 w=true):a8x (U2 w):=by
 have key : ∀n:Nat,n≤w.servers.length → ∀i:Nat,i<n→(nth .srv (s5 A1 w n).servers i).up=true:=by
  intro n
  induction n with
  |zero=>intro _ i hi;omega
  |succ n ih =>
   intro hn i hi
   have hk:=T9 (f:=A1) (fun _ k q=>a2a q k) h n
   show(nth .srv (A1 (s5 A1 w n) n).servers i).up=true
   by_cases hin:i=n
   ·subst hin
    exact c9T (by rw[hk.srv];omega)
   ·exact(a2a hk.ok n).up i (ih (by omega) i (by omega))
 intro i hi
 have hk:=b4I h
 exact key w.servers.length (Nat.le_refl _) i (by rw[←hk.srv];exact hi)
theorem c5q {w:Wld} {n:Int} (h:j6 w=false):U8 w n=K4:=by
 unfold U8
 rw[if_neg (by rw[h];intro q;cases q.1)]
theorem c5p {w:Wld} {n:Int} (h:60<n):U8 w n=K4:=by
 unfold U8
 rw[if_neg (by omega)]
theorem b5b {w:Wld} {n:Int} (h:j6 w=true) (hn:n≤60):U8 w n=s5 (fun x _=>D0 x) (U2 w) n.toNat:=by
 unfold U8
 rw[if_pos ⟨h,hn⟩]
theorem c5n {w:Wld} {n:Int} (h:j6 w=true) (hn:n≤60):Kept w (U8 w n)∧a8x (U8 w n):=by
 rw[b5b h hn]
 have h1:=b4I h
 have h2:=a8k h1.ok n.toNat
 exact⟨h1.trans h2,(c5G h).kept h2⟩
theorem c9c {x:Wld} (h:0<x.net.length):J7 x (Int.toNat 0)=m9 x ⟨4,0,0,0,0⟩:=by
 unfold m9
 simp only
 rw[if_neg (by decide),if_neg (by decide),if_neg (by decide),if_pos (by decide),if_pos (by omega),if_pos trivial]
theorem a8v {w:Wld} {k:Nat} (h:(E1 w k).net.length=0) (n:Nat):E1 w (k+n)=E1 w k:=by
 induction n with
 |zero=>rfl
 |succ n ih =>
  show(if(E1 w (k+n)).net.length=0 then E1 w (k+n)else m9 (E1 w (k+n)) ⟨4,0,0,0,0⟩)=_
  rw[ih,if_pos h]
theorem c0r {w x:Wld} {i:Int} (hok:j6 w=true) (hq:0≤i∧i≤200∧x=E1 w i.toNat) (h2:i<200) (h3:0<x.net.length) :
  (j6 x=true∧0≤(0:Int)∧(0:Int)<x.net.length)∧(0≤IntKind.i64.wrap (i+1)∧IntKind.i64.wrap (i+1)≤200∧J7 x (Int.toNat 0)=E1 w (IntKind.i64.wrap (i+1)).toNat)∧(200-IntKind.i64.wrap (i+1)).toNat<(200-i).toNat:=by
 have hw:IntKind.i64.wrap (i+1)=i+1:=b8 (by omega) (by omega)
 have hk:=a8l hok i.toNat
 rw[←hq.2.2]at hk
 rw[hw,c9c h3,show(i+1).toNat=i.toNat+1 by omega]
 refine⟨⟨hk.ok,by omega,by omega⟩,⟨by omega,by omega,?_⟩,by omega⟩
 show _=(if(E1 w i.toNat).net.length=0 then E1 w i.toNat else m9 (E1 w i.toNat) ⟨4,0,0,0,0⟩)
 rw[←hq.2.2,if_neg (by omega)]
theorem c0q {w x:Wld} {i:Int} (hq:0≤i∧i≤200∧x=E1 w i.toNat) (h2 : ¬i<200):x=m8 w:=by
 unfold m8
 rw[hq.2.2,show i.toNat=200 by omega]
theorem c0p {w x:Wld} {i:Int} (hq:0≤i∧i≤200∧x=E1 w i.toNat) (h2:i<200) (h3 : ¬0<x.net.length):x=m8 w:=by
 unfold m8
 have h:=a8v (w:=w) (k:=i.toNat) (by rw[←hq.2.2];omega) (200-i.toNat)
 rw[show i.toNat+(200-i.toNat)=200 by omega]at h
 rw[h]
 exact hq.2.2
theorem a0P (f:Wld→Nat→Wld) (w:Wld) (k:Nat):s5 f w (k+1)=f (s5 f w k) k:=rfl
theorem b7A {x:Wld} {i:Int} (h:j9 x.table i = -1):D4 x i=false:=by
 unfold D4
 simp[h]
theorem c8c {x:Wld} {i:Int} (h:u5 (nth .srv x.servers (j9 x.table i).toNat) i=false):D4 x i=false:=by
 unfold D4
 simp[h]
theorem c8b {x:Wld} {i:Int} (h : ¬(e9 (nth .srv x.servers (j9 x.table i).toNat) i).age=nth .int x.table.ages i.toNat):D4 x i=false:=by
 unfold D4
 rw[decide_eq_false_iff_not]
 exact fun q=>h q.2.2.2
theorem c8a {x:Wld} {i:Int} (hok:j6 x=true) (h1 : ¬j9 x.table i = -1) (h2:u5 (nth .srv x.servers (j9 x.table i).toNat) i=true) (h3:(e9 (nth .srv x.servers (j9 x.table i).toNat) i).age=nth .int x.table.ages i.toNat):D4 x i=true:=by
 unfold D4
 rw[decide_eq_true_eq]
 exact⟨hok,h1,h2,h3⟩
theorem Q5 {w:Wld} (h:j6 w=true):1≤w.map.cells∧w.map.cells≤4∧1≤w.servers.length∧w.servers.length≤3∧w.rows.length≤9:=by
 have h1:=a1C h
 have h2:=s0.1 (a3j (m7.1 h).2.1).2
 exact⟨by omega,by omega,by omega,by omega,by omega⟩
theorem U7 {f:Wld→Nat→Wld} (hf : ∀x k,j6 x=true→Kept x (f x k)) {w y:Wld} (hy:Kept w y) (n:Nat):Kept w (s5 f y n):=hy.trans (T9 hf hy.ok n)
theorem a1Z {i c:Int} (h0:0≤i) (h1:i<c) (hc:c≤1000):IntKind.i64.wrap (i+1)=i+1∧(i+1).toNat=i.toNat+1∧(0≤IntKind.i64.wrap (i+1)∧IntKind.i64.wrap (i+1)≤c)∧(c-IntKind.i64.wrap (i+1)).toNat<(c-i).toNat:=by
 have hw:IntKind.i64.wrap (i+1)=i+1:=b8 (by omega) (by omega)
 rw[hw]
 exact⟨rfl,by omega,⟨by omega,by omega⟩,by omega⟩
theorem c3p {w x:Wld} {i c:Int} (hok:j6 w=true) (hq:0≤i∧i≤w.map.cells∧c=w.map.cells∧x=s5 n7 (m8 w) i.toNat) (hi:i<c) :
  j6 x=true∧(¬(x.servers.length:Int)=0)∧(∀e:Evt,e.kind≠8→j6 (m9 x e)=true)∧(w.map.cells-IntKind.i64.wrap (i+1)).toNat<(w.map.cells-i).toNat ∧
  (D4 x i=false→0≤IntKind.i64.wrap (i+1)∧IntKind.i64.wrap (i+1)≤w.map.cells∧c=w.map.cells∧m8 (m9 x ⟨1,i,0,i.tmod x.servers.length,0⟩)=s5 n7 (m8 w) (IntKind.i64.wrap (i+1)).toNat) ∧
  (D4 x i=true→0≤IntKind.i64.wrap (i+1)∧IntKind.i64.wrap (i+1)≤w.map.cells∧c=w.map.cells∧x=s5 n7 (m8 w) (IntKind.i64.wrap (i+1)).toNat):=by
 have hl:=Q5 hok
 have hx:=U7 (f:=n7) (fun _ k q=>a2I q k) (Y2 hok) i.toNat
 rw[←hq.2.2.2]at hx
 obtain⟨m1,m2,m3,m4⟩:=a1Z hq.1 (by omega:i<w.map.cells) (by omega)
 have hs:n7 x i.toNat=s5 n7 (m8 w) (i.toNat+1):=by rw[a0P,←hq.2.2.2]
 have hn:((i.toNat:Nat):Int)=i:=by omega
 refine⟨hx.ok,by rw[hx.srv];omega,fun e he=>(L5 hx.ok he).ok,m4,fun hh=>⟨m3.1,m3.2,hq.2.2.1,?_⟩,fun hh=>⟨m3.1,m3.2,hq.2.2.1,?_⟩⟩
 ·rw[m1,m2,←hs]
  unfold n7
  rw[hn,if_neg (by rw[hh];decide),Int.tmod_eq_emod_of_nonneg hq.1]
 ·rw[m1,m2,←hs]
  unfold n7
  rw[hn,if_pos hh]
theorem c9P {w x:Wld} {i c:Int} (hok:j6 w=true) (hq:0≤i∧i≤w.map.cells∧c=w.map.cells∧x=s5 n7 (m8 w) i.toNat) (hi : ¬i<c) :
  (0:Int)≤0∧0≤w.map.cells∧x.map.cells=w.map.cells∧x=s5 B3 (s5 n7 (m8 w) w.map.cells.toNat) (Int.toNat 0):=by
 have hl:=Q5 hok
 have hx:=U7 (f:=n7) (fun _ k q=>a2I q k) (Y2 hok) i.toNat
 rw[←hq.2.2.2]at hx
 refine⟨by omega,by omega,by rw[hx.map],?_⟩
 show x=s5 n7 (m8 w) w.map.cells.toNat
 rw[hq.2.2.2,show i=w.map.cells by omega]
theorem b0x {w:Wld} (hok:j6 w=true):Kept w (s5 n7 (m8 w) w.map.cells.toNat):=U7 (f:=n7) (fun _ k q=>a2I q k) (Y2 hok) _
theorem d0E (a:Int):max a 0=if 0<a then a else 0:=by
 split<;>omega
theorem c6x {w x:Wld} {i c:Int} (hok:j6 w=true) (hq:0≤i∧i≤w.map.cells∧c=w.map.cells∧x=s5 B3 (s5 n7 (m8 w) w.map.cells.toNat) i.toNat) (hi:i<c) :
  j6 x=true∧(∀e:Evt,e.kind≠8→j6 (m9 x e)=true)∧(w.map.cells-IntKind.i64.wrap (i+1)).toNat<(w.map.cells-i).toNat ∧
  (0≤IntKind.i64.wrap (i+1)∧IntKind.i64.wrap (i+1)≤w.map.cells∧c=w.map.cells∧m8 (m9 x ⟨7,if 0<j9 x.table i then j9 x.table i else 0,0,i,0⟩)=s5 B3 (s5 n7 (m8 w) w.map.cells.toNat) (IntKind.i64.wrap (i+1)).toNat):=by
 have hl:=Q5 hok
 have hx:=U7 (f:=B3) (fun _ k q=>a4n q k) (b0x hok) i.toNat
 rw[←hq.2.2.2]at hx
 obtain⟨m1,m2,m3,m4⟩:=a1Z hq.1 (by omega:i<w.map.cells) (by omega)
 have hn:((i.toNat:Nat):Int)=i:=by omega
 refine⟨hx.ok,fun e he=>(L5 hx.ok he).ok,m4,m3.1,m3.2,hq.2.2.1,?_⟩
 rw[m1,m2,a0P,←hq.2.2.2]
 unfold B3
 rw[hn,d0E]
theorem b9D {w:Wld} (hok:j6 w=true):Kept w (s5 B3 (s5 n7 (m8 w) w.map.cells.toNat) w.map.cells.toNat):=U7 (f:=B3) (fun _ k q=>a4n q k) (b0x hok) _
theorem c3o {w x:Wld} {i c:Int} (hok:j6 w=true) (hq:0≤i∧i≤w.map.cells∧c=w.map.cells∧x=s5 B3 (s5 n7 (m8 w) w.map.cells.toNat) i.toNat) (hi : ¬i<c) :
  (0:Int)≤0∧(0:Int)≤w.rows.length∧(x.rows.length:Int)=w.rows.length∧x=s5 S8 (s5 B3 (s5 n7 (m8 w) w.map.cells.toNat) w.map.cells.toNat) (Int.toNat 0):=by
 have hx:=U7 (f:=B3) (fun _ k q=>a4n q k) (b0x hok) i.toNat
 rw[←hq.2.2.2]at hx
 refine⟨by omega,by omega,by rw[hx.row],?_⟩
 show x=s5 B3 _ w.map.cells.toNat
 rw[hq.2.2.2,show i=w.map.cells by omega]
theorem c9Q {w x:Wld} {i c:Int} (hok:j6 w=true) (hq:0≤i∧i≤w.rows.length∧c=w.rows.length∧x=s5 S8 (s5 B3 (s5 n7 (m8 w) w.map.cells.toNat) w.map.cells.toNat) i.toNat) (hi:i<c) :
  j6 x=true∧(0≤i∧i<(x.rows.length:Int))∧(∀e:Evt,e.kind≠8→j6 (m9 x e)=true)∧((w.rows.length:Int)-IntKind.i64.wrap (i+1)).toNat<((w.rows.length:Int)-i).toNat ∧
  (0≤IntKind.i64.wrap (i+1)∧IntKind.i64.wrap (i+1)≤w.rows.length∧c=w.rows.length∧m8 (m9 x ⟨3,(nth .row x.rows i.toNat).who,0,0,0⟩)=s5 S8 (s5 B3 (s5 n7 (m8 w) w.map.cells.toNat) w.map.cells.toNat) (IntKind.i64.wrap (i+1)).toNat):=by
 have hl:=Q5 hok
 have hx:=U7 (f:=S8) (fun _ k q=>b7r q k) (b9D hok) i.toNat
 rw[←hq.2.2.2]at hx
 obtain⟨m1,m2,m3,m4⟩:=a1Z hq.1 (by omega:i<(w.rows.length:Int)) (by omega)
 refine⟨hx.ok,⟨hq.1,by rw[hx.row];omega⟩,fun e he=>(L5 hx.ok he).ok,m4,m3.1,m3.2,hq.2.2.1,?_⟩
 rw[m1,m2,a0P,←hq.2.2.2]
 rfl
theorem c0o {w:Wld} {n:Int} (h:j6 w=true) (h6 : ¬60<n):j6 w=true∧n≤60∧True∧(0:Int)≤0∧(0:Int)≤w.servers.length∧w=s5 A1 w (Int.toNat 0):=⟨h,by omega,trivial,by omega,by omega,rfl⟩
theorem c5l {w x:Wld} {n i:Int} {P:Prop} (hq:j6 w=true∧n≤60∧P∧0≤i∧i≤w.servers.length∧x=s5 A1 w i.toNat) (hi:i<w.servers.length) :
  j6 x=true∧(j6 w=true∧n≤60∧P∧0≤IntKind.i64.wrap (i+1)∧IntKind.i64.wrap (i+1)≤w.servers.length∧m9 x ⟨9,i,0,0,0⟩=s5 A1 w (IntKind.i64.wrap (i+1)).toNat)∧((w.servers.length:Int)-IntKind.i64.wrap (i+1)).toNat<((w.servers.length:Int)-i).toNat:=by
 have hl:=Q5 hq.1
 have hx:=U7 (f:=A1) (fun _ k q=>a2a q k) (Kept.refl hq.1) i.toNat
 rw[←hq.2.2.2.2.2]at hx
 obtain⟨m1,m2,m3,m4⟩:=a1Z hq.2.2.2.1 hi (by omega)
 have hn:((i.toNat:Nat):Int)=i:=by have:=hq.2.2.2.1;omega
 refine⟨hx.ok,⟨hq.1,hq.2.1,hq.2.2.1,m3.1,m3.2,?_⟩,m4⟩
 rw[m1,m2,a0P,←hq.2.2.2.2.2]
 unfold A1
 rw[hn]
theorem c9a {w x:Wld} {n i:Int} {P:Prop} (hq:j6 w=true∧n≤60∧P∧0≤i∧i≤w.servers.length∧x=s5 A1 w i.toNat) (hi : ¬i<w.servers.length) :
  j6 w=true∧n≤60∧(0:Int)≤0∧(0≤n∨True)∧x=s5 (fun x _=>D0 x) (U2 w) (Int.toNat 0):=by
 refine⟨hq.1,hq.2.1,by omega,.inr trivial,?_⟩
 show x=U2 w
 unfold U2
 have h1:=hq.2.2.2.1
 have h2:=hq.2.2.2.2.1
 rw[hq.2.2.2.2.2,show i.toNat=w.servers.length by omega]
theorem c5m {w x:Wld} {n i:Int} (hq:j6 w=true∧n≤60∧0≤i∧(i≤n∨i=0)∧x=s5 (fun x _=>D0 x) (U2 w) i.toNat) (hi:i<n) :
  j6 x=true∧(j6 w=true∧n≤60∧0≤IntKind.i64.wrap (i+1)∧(IntKind.i64.wrap (i+1)≤n∨IntKind.i64.wrap (i+1)=0)∧D0 x=s5 (fun x _=>D0 x) (U2 w) (IntKind.i64.wrap (i+1)).toNat)∧(61-IntKind.i64.wrap (i+1)).toNat<(61-i).toNat:=by
 have hu:=b4I hq.1
 have hx:=hu.trans (a8k hu.ok i.toNat)
 rw[←hq.2.2.2.2]at hx
 obtain⟨m1,m2,m3,m4⟩:=a1Z hq.2.2.1 hi (by have:=hq.2.1;omega)
 have h1:=hq.2.1
 have h2:=hq.2.2.1
 refine⟨hx.ok,⟨hq.1,hq.2.1,m3.1,.inl m3.2,?_⟩,by rw[m1];omega⟩
 rw[m1,m2,a0P,←hq.2.2.2.2]
theorem c9b {w x:Wld} {n i:Int} (hq:j6 w=true∧n≤60∧0≤i∧(i≤n∨i=0)∧x=s5 (fun x _=>D0 x) (U2 w) i.toNat) (hi : ¬i<n):x=U8 w n:=by
 have h1:=hq.2.2.1
 have h2:=hq.2.2.2.1
 rw[b5b hq.1 hq.2.1,hq.2.2.2.2,show i.toNat=n.toNat by omega]
theorem c9R {w:Wld} (hok:j6 w=true):(0:Int)≤0∧0≤w.map.cells∧(m8 w).map.cells=w.map.cells∧m8 w=s5 n7 (m8 w) (Int.toNat 0):=⟨by omega,by have:=Q5 hok;omega,by rw[(Y2 hok).map],rfl⟩
theorem c9S {w x:Wld} {i c:Int} (hq:0≤i∧i≤w.rows.length∧c=w.rows.length∧x=s5 S8 (s5 B3 (s5 n7 (m8 w) w.map.cells.toNat) w.map.cells.toNat) i.toNat) (hi : ¬i<c):x=D0 w:=by
 unfold D0
 rw[hq.2.2.2,show i=w.rows.length by omega]
 rfl
theorem a9K : ∀ {l:List Hld} {x h:Hld},h∈l→h.state.cell≠x.state.cell→h∈putH l x
 |[],_,_,hm,_=>by cases hm
 |y::l,x,h,hm,hne=>by
  simp only[putH]
  split
  ·exact List.mem_cons_of_mem _ hm
  ·split
   ·rename_i e
    rcases List.mem_cons.1 hm with rfl|hm
    ·exact absurd e.symm hne
    ·exact List.mem_cons_of_mem _ hm
   ·rcases List.mem_cons.1 hm with rfl|hm
    ·exact List.mem_cons_self
    ·exact List.mem_cons_of_mem _ (a9K hm hne)
theorem a7A : ∀ {l:List Hld},HSort l → ∀ {a b:Hld},a∈l→b∈l→a.state.cell=b.state.cell→a=b
 |[],_,_,_,ha,_,_=>by cases ha
 |y::l,hs,a,b,ha,hb,e=>by
  obtain⟨hy,hl⟩:=List.pairwise_cons.1 hs
  rcases List.mem_cons.1 ha with q1|q1
  ·rcases List.mem_cons.1 hb with q2|q2
   ·rw[q1,q2]
   ·have:=hy b q2
    rw[q1]at e
    omega
  ·rcases List.mem_cons.1 hb with q2|q2
   ·have:=hy a q1
    rw[q2]at e
    omega
   ·exact a7A hl q1 q2 e
def a3a (w:Wld) (c:Int):Prop:=0≤c∧c<w.map.cells ∧ ∃i:Nat,i<w.servers.length ∧ @Eq Int (nth .int w.table.servers c.toNat) i ∧ ∃h∈(nth .srv w.servers i).holds,h.state.cell=c ∧ @Eq Int h.age (nth .int w.table.ages c.toNat)
theorem a6y {w:Wld} (hok:j6 w=true) (c:Int):D4 w c=true↔a3a w c:=by
 obtain⟨h1,h2,h3,h4,h5,h6,h7,h8,h9⟩:=m7.1 hok
 have hl:=B7 h1
 unfold D4
 rw[decide_eq_true_eq]
 constructor
 ·rintro⟨_,ha,hb,hc⟩
  have hin:=a2K hok ha
  have hcc:0≤c∧c<(w.table.servers.length:Int):=by omega
  have he:j9 w.table c=nth .int w.table.servers c.toNat:=by unfold j9;rw[if_pos hcc]
  obtain⟨g1,g2⟩:=z5 hb
  refine⟨hcc.1,by omega,(j9 w.table c).toNat,by omega,?_,_,g1,g2,hc⟩
  rw[←he]
  show j9 w.table c=_
  omega
 ·rintro⟨c0,c1,i,hi,ht,h,hm,hcl,hage⟩
  have hcc:0≤c∧c<(w.table.servers.length:Int):=by omega
  have he:j9 w.table c=(i:Int):=by unfold j9;rw[if_pos hcc];exact ht
  have hb:u5 (nth .srv w.servers i) c=true:=a9c.2 ⟨h,hm,hcl⟩
  obtain⟨g1,g2⟩:=z5 hb
  have hs:=(y9.1 (h7 _ (s7 .srv hi)).1).2.2.2
  have hu:e9 (nth .srv w.servers i) c=h:=a7A hs g1 hm (by rw[g2,hcl])
  refine⟨hok,by rw[he];omega,?_,?_⟩
  ·rw[he];exact hb
  ·rw[he]
   show(e9 (nth .srv w.servers i) c).age=_
   rw[hu]
   exact hage
structure Good (w:Wld):Prop where
 ok:j6 w=true
 fence:Fence w
theorem c4Q {w:Wld} (h:From w):Good w:=⟨c2c h,(b7R h).fence⟩
theorem a2f {w:Wld} (h:Good w) (e:Evt):Good (m9 w e):=⟨(a8B h.ok).1,a5i h.ok h.fence (a2v w e)⟩
theorem c4D {w:Wld} (hg:Good w) {k:Nat} (hk:k<w.net.length) (hd : ¬(nth .msg w.net k).dest = -1) {c:Int} (hh:a3a w c):a3a (a0G (wCut w k) (nth .msg w.net k)) c:=by
 obtain⟨h1,h2,h3,h4,h5,h6,h7,h8,h9⟩:=m7.1 hg.ok
 have hxm:=s7 .msg hk
 generalize hx:nth .msg w.net k=x at *
 have hx1:=(h8 x hxm).1
 have hdd:0≤x.dest∧x.dest<w.servers.length:=by
  rcases a1Y hx1 with ⟨_,g1,g2⟩|⟨_,g⟩
  ·exact⟨g1,g2⟩
  ·exact absurd g hd
 have hdn:x.dest.toNat<w.servers.length:=by omega
 obtain⟨o1,_⟩:=h7 _ (s7 .srv hdn)
 have he:=a4p (t:=w.table) o1 h2 hx1
 obtain⟨c0,c1,i,hi,ht,h,hm,hcl,hage⟩:=hh
 refine⟨c0,c1,i,by simpa [a0G,u7,wCut]using hi,ht,?_⟩
 show ∃h'∈(nth .srv (w.servers.set x.dest.toNat (n5 w.map (nth .srv w.servers x.dest.toNat) w.stores w.table x).srv) i).holds,h'.state.cell=c ∧ @Eq Int h'.age (nth .int w.table.ages c.toNat)
 rw[Y8 hdn]
 by_cases hij:i=x.dest.toNat
 ·rw[if_pos hij]
  rw[hij]at hm hi
  have hcs:=a3k h2 hx1
  have hsort:=(y9.1 o1).2.2.2
  have hI:=hg.fence.hold _ hi h hm
  have hup:u5 (nth .srv w.servers x.dest.toNat) x.cell=true→x.cell=c→e9 (nth .srv w.servers x.dest.toNat) x.cell=h:=fun q e=>by
   obtain⟨g1,g2⟩:=z5 q
   exact a7A hsort g1 hm (by rw[g2,e,hcl])
  have hhas:x.cell=c→u5 (nth .srv w.servers x.dest.toNat) x.cell=true:=fun e=>a9c.2 ⟨h,hm,by rw[hcl,e]⟩
  have hcn:c.toNat<w.stores.length:=by
   have:=(C4.1 h2).2.1
   omega
  have hsa:(stAt w.stores c).age=h.age:=by
   have q1:=h6 c.toNat hcn
   have q2:=hI.age
   rw[hcl]at q2
   have q1:(stAt w.stores c).age≤nth .int w.table.ages c.toNat:=q1
   have q3 : ∀a b d:Int,a≤b→d≤a→d=b→a=d:=fun a b d _ _ _=>by omega
   exact q3 _ _ _ q1 q2 hage
  generalize n5 w.map (nth .srv w.servers x.dest.toNat) w.stores w.table x=X at *
  obtain⟨s',st',out⟩:=X
  simp only at he ⊢
  cases he with
  |same=>exact⟨h,hm,hcl,hage⟩
  |ghost hu hk7=>exact⟨h,hm,hcl,hage⟩
  |lost hu hkk hhs ha =>
   refine⟨h,a8P.2 ⟨hm,fun e => ?_⟩,hcl,hage⟩
   have e':x.cell=c:=by rw[←e,hcl]
   rw[hup hhs e']at ha
   refine ha ?_
   show h.age=(stAt w.stores x.cell).age
   rw[e',hsa]
  |grant hu hk1 hn ha =>
   have hcell:(o6 w.map (n9 w.stores x)).cell=x.cell:=by rw[T5,hcs.2.2.2]
   by_cases e':x.cell=c
   ·exfalso
    have q1:=hn (hhas e')
    rw[hup (hhas e') e']at q1
    have q2:=(h8 x hxm).2 hk1
    rw[e']at q2
    have q3 : ∀a b d:Int,a<b→b≤d→a=d→False:=fun a b d _ _ _=>by omega
    exact q3 _ _ _ q1 q2 hage
   ·refine⟨h,a9K hm ?_,hcl,hage⟩
    show h.state.cell≠(o6 w.map (n9 w.stores x)).cell
    rw[hcell,hcl]
    exact fun q=>e' q.symm
  |write hu hkk hhs ha hc hl hr ha1 ha2 hff hp =>
   by_cases e':x.cell=c
   ·refine⟨_,b2t _ _,?_,?_⟩
    ·show(j8 w.map (e9 (nth .srv w.servers x.dest.toNat) x.cell).state (p5 x)).c.cell=c
     rw[P8,(z5 hhs).2,e']
    ·show @Eq Int (e9 (nth .srv w.servers x.dest.toNat) x.cell).age _
     rw[hup hhs e']
     exact hage
   ·refine⟨h,a9K hm ?_,hcl,hage⟩
    show h.state.cell≠(j8 w.map (e9 (nth .srv w.servers x.dest.toNat) x.cell).state (p5 x)).c.cell
    rw[P8,(z5 hhs).2,hcl]
    exact fun q=>e' q.symm
 ·rw[if_neg hij]
  exact⟨h,hm,hcl,hage⟩
theorem a4N (w:Wld):m9 w ⟨4,0,0,0,0⟩=if 0<w.net.length then J7 w 0 else w:=by
 unfold m9
 simp only
 rw[if_neg (by decide),if_neg (by decide),if_neg (by decide),if_pos (by decide)]
 by_cases h:0<w.net.length
 ·rw[if_pos h,if_pos (by omega),if_pos trivial]
  rfl
 ·rw[if_neg h,if_neg (by omega)]
structure Hol (w x:Wld):Prop where
 good:Good x
 kept:Kept w x
 held : ∀c:Int,a3a w c→a3a x c ∧ @Eq Int (nth .int x.table.servers c.toNat) (nth .int w.table.servers c.toNat)
theorem Hol.refl {w:Wld} (h:Good w):Hol w w:=⟨h,.refl h.ok,fun _ q=>⟨q,rfl⟩⟩
theorem Hol.trans {w x y:Wld} (h:Hol w x) (h':Hol x y):Hol w y:=⟨h'.good,h.kept.trans h'.kept,fun c q=>⟨(h'.held c (h.held c q).1).1,(h'.held c (h.held c q).1).2.trans (h.held c q).2⟩⟩
theorem c4C {w:Wld} (h:Good w):Hol w (m9 w ⟨4,0,0,0,0⟩)∧(m9 w ⟨4,0,0,0,0⟩).table=w.table:=by
 have hk:=L5 h.ok (e:=⟨4,0,0,0,0⟩) (by intro q;cases q)
 have hg:=a2f h ⟨4,0,0,0,0⟩
 have he:=a4N w
 by_cases hn:0<w.net.length
 ·rw[if_pos hn]at he
  unfold J7 at he
  simp only at he
  by_cases hd:(nth .msg w.net 0).dest = -1
  ·rw[if_pos hd]at he
   rw[he]at hk hg ⊢
   exact⟨⟨hg,hk,fun c q=>⟨q,rfl⟩⟩,rfl⟩
  ·rw[if_neg hd]at he
   rw[he]at hk hg ⊢
   exact⟨⟨hg,hk,fun c q=>⟨c4D h hn hd q,rfl⟩⟩,rfl⟩
 ·rw[if_neg hn]at he
  rw[he]
  exact⟨.refl h,rfl⟩
theorem b9N {w:Wld} (h:Good w) (k:Nat):Hol w (E1 w k)∧(E1 w k).table=w.table:=by
 induction k with
 |zero=>exact⟨.refl h,rfl⟩
 |succ k ih =>
  unfold E1
  split
  ·exact ih
  ·have q:=c4C ih.1.good
   exact⟨ih.1.trans q.1,q.2.trans ih.2⟩
theorem a6w {w:Wld} (h:Good w):Hol w (m8 w)∧(m8 w).table=w.table:=by
 unfold m8
 exact b9N h 200
theorem b2O {w x:Wld} (hm:x.map=w.map) (hs:x.servers=w.servers) (ht:x.table=w.table) {c:Int} (h:a3a w c):a3a x c:=by
 unfold a3a at *
 rw[hm,hs,ht]
 exact h
theorem b8M (w:Wld) (a c:Int):(m9 w ⟨7,a,0,c,0⟩).map=w.map∧(m9 w ⟨7,a,0,c,0⟩).servers=w.servers∧(m9 w ⟨7,a,0,c,0⟩).table=w.table:=by
 unfold m9
 simp only
 rw[if_neg (by decide),if_neg (by decide),if_neg (by decide),if_neg (by decide),if_pos (by decide)]
 split
 ·rw[if_pos trivial]
  exact⟨rfl,rfl,rfl⟩
 ·exact⟨rfl,rfl,rfl⟩
theorem c3q (w:Wld) (a:Int):(m9 w ⟨3,a,0,0,0⟩).map=w.map∧(m9 w ⟨3,a,0,0,0⟩).servers=w.servers∧(m9 w ⟨3,a,0,0,0⟩).table=w.table:=by
 unfold m9
 simp only
 rw[if_neg (by decide),if_neg (by decide),if_pos trivial]
 split<;>exact⟨rfl,rfl,rfl⟩
theorem c7Z {w:Wld} (h:Good w) (c:Nat):Hol w (B3 w c):=by
 unfold B3
 have q:=b8M w (max (j9 w.table (c:Int)) 0) (c:Int)
 have h1:Hol w (m9 w ⟨7,max (j9 w.table (c:Int)) 0,0,(c:Int),0⟩):=⟨a2f h _,L5 h.ok (by intro q;cases q),fun _ hh=>⟨b2O q.1 q.2.1 q.2.2 hh,by rw[q.2.2]⟩⟩
 exact h1.trans (a6w h1.good).1
theorem d0R {w:Wld} (h:Good w) (i:Nat):Hol w (S8 w i):=by
 unfold S8
 have q:=c3q w (nth .row w.rows i).who
 have h1:Hol w (m9 w ⟨3,(nth .row w.rows i).who,0,0,0⟩):=⟨a2f h _,L5 h.ok (by intro q;cases q),fun _ hh=>⟨b2O q.1 q.2.1 q.2.2 hh,by rw[q.2.2]⟩⟩
 exact h1.trans (a6w h1.good).1
theorem b0E {w:Wld} (h:Good w) (i:Nat):Hol w (A1 w i)∧(A1 w i).table=w.table:=by
 have hk:=a2a h.ok i
 have hg:Good (A1 w i):=a2f h _
 suffices hs:(A1 w i).table=w.table∧(A1 w i).map=w.map ∧ ∀j:Nat,∀x∈(nth .srv w.servers j).holds,x∈(nth .srv (A1 w i).servers j).holds by
  refine⟨⟨hg,hk,fun c hh=>⟨?_,by rw[hs.1]⟩⟩,hs.1⟩
  obtain⟨c0,c1,j,hj,ht,x,hm,hcl,hage⟩:=hh
  exact⟨c0,by rw[hs.2.1];exact c1,j,by rw[hk.srv];exact hj,by rw[hs.1];exact ht,x,hs.2.2 j x hm,hcl,by rw[hs.1];exact hage⟩
 unfold A1 m9
 simp only
 rw[if_neg (by decide),if_neg (by decide),if_neg (by decide),if_neg (by decide),if_pos (by decide)]
 split
 ·rename_i hi
  rw[if_neg (by decide),if_neg (by decide)]
  split
  ·rename_i hu
   refine⟨rfl,rfl,fun j x hx => ?_⟩
   have hin:((i:Int).toNat)<w.servers.length:=by omega
   show x∈(nth .srv (w.servers.set ((i:Int).toNat) _) j).holds
   by_cases hj:(i:Int).toNat=j
   ·subst hj
    exfalso
    have ho:=(y9.1 ((m7.1 h.ok).2.2.2.2.2.2.1 _ (s7 .srv hin)).1).2.1
    rcases a0z.1 ho with q|q
    ·rw[hu]at q
     cases q
    ·rw[q.1]at hx
     cases hx
   ·rw[q9 .srv hj]
    exact hx
  ·exact⟨rfl,rfl,fun j x hx=>hx⟩
 ·exact⟨rfl,rfl,fun j x hx=>hx⟩
theorem b0F {f:Wld→Nat→Wld} (hf : ∀x k,Good x→Hol x (f x k)) {w:Wld} (h:Good w) (n:Nat):Hol w (s5 f w n):=by
 induction n with
 |zero=>exact .refl h
 |succ n ih=>exact ih.trans (hf _ n ih.good)
theorem d2X {w:Wld} (h:Good w):Hol w (U2 w)∧(U2 w).table=w.table:=by
 refine⟨b0F (fun x k q=>(b0E q k).1) h _,?_⟩
 have key : ∀n:Nat,Hol w (s5 A1 w n)∧(s5 A1 w n).table=w.table:=by
  intro n
  induction n with
  |zero=>exact⟨.refl h,rfl⟩
  |succ n ih=>exact⟨ih.1.trans (b0E ih.1.good n).1,(b0E ih.1.good n).2.trans ih.2⟩
 exact(key _).2
def wt (x:Msg):Nat:=if x.kind=2∨x.kind=5 then 2 else 1
def wts (l:List Msg):Nat:=(l.map wt).sum
theorem c9v (a b:List Msg):wts (a++b)=wts a+wts b:=by simp[wts]
theorem c9u (l:List Msg):wts l≤2 * l.length∧l.length≤wts l:=by
 induction l with
 |nil=>simp[wts]
 |cons x l ih =>
  have hx:1≤wt x∧wt x≤2:=by unfold wt;split<;>omega
  have e:wts (x::l)=wt x+wts l:=by simp[wts]
  rw[e,List.length_cons]
  omega
theorem c4F (m:PMap) (s:Srv) (st:List Sto) (t:Arb) (x:Msg):(n5 m s st t x).out = []∨(n5 m s st t x).out.length=1∧(x.kind=2∨x.kind=5):=by
 have got : ∀n,(R0 m t x n) = []∨(R0 m t x n).length=1:=fun n=>by
  unfold R0
  split
  ·exact .inl rfl
  ·exact .inr rfl
 unfold n5
 split
 ·exact .inl rfl
 split
 ·unfold H5
  split
  ·exact .inl rfl
  ·split<;>exact .inl rfl
 split
 ·exact .inl rfl
 split
 ·exact .inl rfl
 split
 ·rename_i hk
  unfold V2
  simp only
  split
  ·exact .inr ⟨rfl,.inl hk⟩
  ·split
   ·exact .inl rfl
   ·split
    ·split
     ·exact .inl rfl
     ·exact .inr ⟨rfl,.inl hk⟩
    ·split
     ·exact .inr ⟨rfl,.inl hk⟩
     ·exact .inl rfl
 split
 ·rename_i hk
  unfold V1
  simp only
  split
  ·exact(got _).imp id fun q=>⟨q,.inr hk⟩
  ·split
   ·exact(got _).imp id fun q=>⟨q,.inr hk⟩
   ·exact .inl rfl
 ·exact .inl rfl
theorem c5a {w:Wld} (h:0<w.net.length):(wCut w 0).net.length+1=w.net.length∧wts w.net=wt (nth .msg w.net 0)+wts (wCut w 0).net:=by
 unfold wCut
 cases hn:w.net with
 |nil=>rw[hn]at h;simp at h
 |cons x l=>exact⟨rfl,by simp[wts,nth]⟩
theorem c2K {w:Wld} (h:0<w.net.length):wts (m9 w ⟨4,0,0,0,0⟩).net+1≤wts w.net:=by
 rw[a4N,if_pos h]
 unfold J7
 simp only
 obtain⟨_,e2⟩:=c5a h
 have h1:1≤wt (nth .msg w.net 0):=by unfold wt;split<;>omega
 split
 ·show wts (wCut w 0).net+1≤_
  omega
 ·have ho:=c4F (wCut w 0).map (nth .srv (wCut w 0).servers (nth .msg w.net 0).dest.toNat) (wCut w 0).stores (wCut w 0).table (nth .msg w.net 0)
  show wts ((wCut w 0).net++((n5 (wCut w 0).map (nth .srv (wCut w 0).servers (nth .msg w.net 0).dest.toNat) (wCut w 0).stores (wCut w 0).table (nth .msg w.net 0)).out).take (40-(wCut w 0).net.length))+1≤_
  rw[c9v,e2]
  generalize hO:n5 (wCut w 0).map (nth .srv (wCut w 0).servers (nth .msg w.net 0).dest.toNat) (wCut w 0).stores (wCut w 0).table (nth .msg w.net 0)=O at *
  rcases ho with ho|⟨ho,hk⟩
  ·rw[ho]
   simp only[List.take_nil,wts,List.map_nil,List.sum_nil]
   omega
  ·have h2:wt (nth .msg w.net 0)=2:=by unfold wt;rw[if_pos hk]
   have h3 : ∀z∈O.out,wt z=1:=fun z hz=>by
    rw[←hO]at hz
    have:=a3y hz
    unfold wt
    rw[if_neg (by omega)]
   have h4:wts (O.out.take (40-(wCut w 0).net.length))≤1:=by
    cases hl:O.out with
    |nil=>simp[wts]
    |cons z l =>
     have:l = []:=by rw[hl]at ho;simpa using ho
     subst this
     have hz:=h3 z (by rw[hl];exact List.mem_cons_self)
     cases 40-(wCut w 0).net.length with
     |zero=>simp[wts]
     |succ n=>simp[wts,hz]
   omega
theorem c0s {w:Wld} (k:Nat):(E1 w k).net = []∨wts (E1 w k).net+k≤wts w.net:=by
 induction k with
 |zero=>exact .inr (Nat.le_refl _)
 |succ k ih =>
  unfold E1
  split
  ·rename_i h
   exact .inl (List.eq_nil_of_length_eq_zero h)
  ·rename_i h
   rcases ih with ih|ih
   ·rw[ih]at h
    exact absurd rfl h
   ·have:=c2K (w:=E1 w k) (by omega)
    exact .inr (by omega)
theorem b8h {w:Wld} (h:j6 w=true):(m8 w).net = []:=by
 unfold m8
 rcases c0s (w:=w) 200 with q|q
 ·exact q
 ·have h1:=(m7.1 h).2.2.2.1
  have h2:=c9u w.net
  omega
def a0g (w:Wld) (n:Int):Prop := ∀k:Nat,@LE.le Int _ (nth .int w.table.ages k) n
theorem c2P {w:Wld} {c d:Int} (hg:(n4 w.table w.servers.length c d).ok=true) (hn:w.net = []) :
  m9 w ⟨1,c,0,d,0⟩=⟨w.map,w.servers,w.stores,(n4 w.table w.servers.length c d).t,w.rows,[P4 (n4 w.table w.servers.length c d).t c d],w.notes⟩:=by
 unfold m9
 rw[if_pos rfl]
 simp only[hg,if_true,u7,hn]
 rfl
theorem c0m {w:Wld} (hg:Good w) (hn:w.net = []) (hup:a8x w) {a:Int} (ha:a0g w a) (h9:a<900) {c:Nat} (hc:(c:Int)<w.map.cells) :
  Hol w (n7 w c)∧a3a (n7 w c) c∧(n7 w c).net = []∧a0g (n7 w c) (a+1):=by
 unfold n7
 by_cases hh:D4 w (c:Int)=true
 ·rw[if_pos hh]
  exact⟨.refl hg,(a6y hg.ok _).1 hh,hn,fun k=>by have:=ha k;exact Int.le_trans this (by omega)⟩
 ·rw[if_neg hh]
  obtain⟨h1,h2,h3,h4,h5,h6,h7,h8,h9'⟩:=m7.1 hg.ok
  obtain⟨l1,l2,l3,l4,l5⟩:=B7 h1
  have hcn:((c:Int).toNat)=c:=by omega
  have hcs:c<w.table.servers.length:=by omega
  have hca:c<w.table.ages.length:=by omega
  have hst:c<w.stores.length:=by
   have:=(C4.1 h2).2.1
   omega
  generalize hd:(c:Int)%(w.servers.length:Int)=d
  have hd0:0≤d∧d<(w.servers.length:Int):=by
   rw[←hd]
   exact⟨Int.emod_nonneg _ (by omega),Int.emod_lt_of_pos _ (by omega)⟩
  have hok:(n4 w.table w.servers.length (c:Int) d).ok=true∧(n4 w.table w.servers.length (c:Int) d).t=⟨w.table.servers.set c d,w.table.ages.set c (nth .int w.table.ages c+1)⟩:=by
   unfold n4
   have h90 : ¬ @Eq Int (nth .int w.table.ages c) 900:=by
    have:=ha c
    intro q
    rw[q]at this
    omega
   rw[if_pos ⟨by omega,by omega,hd0.1,hd0.2,by rw[hcn];exact h90⟩,hcn]
   exact⟨rfl,rfl⟩
  have hW:=c2P (d:=d) hok.1 hn
  have hg1:Good (m9 w ⟨1,(c:Int),0,d,0⟩):=a2f hg _
  have hk1:=L5 hg.ok (e:=⟨1,(c:Int),0,d,0⟩) (by intro q;cases q)
  generalize hY:m9 w ⟨1,(c:Int),0,d,0⟩=Y at *
  have hnet:Y.net = [P4 (n4 w.table w.servers.length (c:Int) d).t (c:Int) d]:=by rw[hW]
  have htab:Y.table=⟨w.table.servers.set c d,w.table.ages.set c (nth .int w.table.ages c+1)⟩:=by rw[hW];exact hok.2
  have hsrv:Y.servers=w.servers:=by rw[hW]
  have hmap:Y.map=w.map:=by rw[hW]
  have hsto:Y.stores=w.stores:=by rw[hW]
  have hth : ∀k:Nat,@Eq Int (nth .int Y.table.servers k) (if k=c then d else nth .int w.table.servers k) ∧ @Eq Int (nth .int Y.table.ages k) (if k=c then nth .int w.table.ages c+1 else nth .int w.table.ages k):=fun k=>by
   rw[htab]
   exact⟨I1 .int hcs,I1 .int hca⟩
  have hhol:Hol w Y:=by
   refine⟨hg1,hk1,fun c' q => ?_⟩
   have hne:c'.toNat≠c:=fun e=>by
    have:c'=(c:Int):=by have:=q.1;omega
    rw[this]at q
    exact hh ((a6y hg.ok _).2 q)
   obtain⟨q0,q1,i,hi,ht,x,hm,hcl,hage⟩:=q
   refine⟨⟨q0,by rw[hmap];exact q1,i,by rw[hsrv];exact hi,?_,x,by rw[hsrv];exact hm,hcl,?_⟩,?_⟩
   ·rw[(hth _).1,if_neg hne];exact ht
   ·rw[(hth _).2,if_neg hne];exact hage
   ·rw[(hth _).1,if_neg hne]
  have hcalm:=a6w hg1
  refine⟨hhol.trans hcalm.1,?_,b8h hg1.ok,fun k => ?_⟩
  rotate_left
  ·rw[hcalm.2,(hth k).2]
   split
   ·have q1:=ha c
    have q2 : ∀b:Int,b≤a→b+1≤a+1:=fun b _=>by omega
    exact q2 _ q1
   ·have q1:=ha k
    exact Int.le_trans q1 (by omega)
  have hd1:d.toNat<w.servers.length:=by omega
  suffices hB:a3a (m9 Y ⟨4,0,0,0,0⟩) (c:Int)∧(m9 Y ⟨4,0,0,0,0⟩).net = [] by
   have e:m8 Y=m9 Y ⟨4,0,0,0,0⟩:=by
    have e1:E1 Y 1=m9 Y ⟨4,0,0,0,0⟩:=by
     show(if Y.net.length=0 then Y else m9 Y ⟨4,0,0,0,0⟩)=_
     rw[hnet,if_neg (by simp)]
    have e2:=a8v (w:=Y) (k:=1) (by rw[e1,hB.2];rfl) 199
    unfold m8
    rw[show 1+199=200 from rfl]at e2
    rw[e2,e1]
   rw[e]
   exact hB.1
  have hx0:nth .msg Y.net 0=P4 (n4 w.table w.servers.length (c:Int) d).t (c:Int) d:=by rw[hnet];rfl
  have hxa : @Eq Int (P4 (n4 w.table w.servers.length (c:Int) d).t (c:Int) d).n (nth .int w.table.ages c+1):=by
   show @Eq Int (nth .int (n4 w.table w.servers.length (c:Int) d).t.ages ((c:Int).toNat)) _
   rw[hok.2,hcn]
   exact m6 .int hca
  rw[a4N,if_pos (by rw[hnet];exact Nat.zero_lt_one)]
  unfold J7
  simp only
  rw[hx0]
  generalize hX:P4 (n4 w.table w.servers.length (c:Int) d).t (c:Int) d=X at *
  have hXd:X.dest=d:=by rw[←hX];rfl
  have hXc:X.cell=(c:Int):=by rw[←hX];rfl
  have hXk:X.kind=1:=by rw[←hX];rfl
  rw[if_neg (by rw[hXd];omega)]
  have hXd':X.dest.toNat=d.toNat:=by rw[hXd]
  have hu:(nth .srv w.servers d.toNat).up=true:=hup _ hd1
  have hH:n5 Y.map (nth .srv Y.servers X.dest.toNat) Y.stores Y.table X=⟨⟨(nth .srv w.servers d.toNat).up,P0 (nth .srv w.servers d.toNat).holds ⟨X.n,(nth .sto w.stores c).recs.length,o6 w.map (nth .sto w.stores c)⟩,(nth .srv w.servers d.toNat).n6⟩,
    w.stores.set c ⟨X.n,(nth .sto w.stores c).base,(nth .sto w.stores c).recs⟩,[]⟩:=by
   rw[hmap,hsrv,hsto,hXd']
   unfold n5
   rw[if_neg (by rw[hu,hXd];simp;omega),if_pos hXk]
   unfold H5
   rw[hXc,hcn]
   rw[if_neg (fun q => ?_),if_neg (fun q => ?_)]
   ·have q1:=h6 c hst
    have q2 : ∀p a b:Int,p<a→a≤b→p=b+1→False:=fun p a b _ _ _=>by omega
    exact q2 _ _ _ q q1 hxa
   ·obtain⟨g1,g2⟩:=z5 q.1
    have q1:=(h7 _ (s7 .srv hd1)).2 _ g1
    rw[g2,hcn]at q1
    have q2 : ∀p a b:Int,p≤a→a≤b→p=b+1→False:=fun p a b _ _ _=>by omega
    exact q2 _ _ _ q.2 q1 hxa
  have hsort:=(y9.1 (h7 _ (s7 .srv hd1)).1).2.2.2
  have hcell:(o6 w.map (nth .sto w.stores c)).cell=(c:Int):=by
   rw[T5]
   have:=(C4.1 h2).2.2 c hst
   exact this.2
  constructor
  ·refine⟨by omega,by show(c:Int)<Y.map.cells;rw[hmap];exact hc,d.toNat,?_,?_,?_⟩
   ·show d.toNat<(Y.servers.set X.dest.toNat _).length
    rw[List.length_set,hsrv]
    exact hd1
   ·show @Eq Int (nth .int Y.table.servers ((c:Int).toNat)) _
    rw[hcn,(hth c).1,if_pos rfl]
    omega
   ·show ∃h'∈(nth .srv (Y.servers.set X.dest.toNat (n5 Y.map (nth .srv Y.servers X.dest.toNat) Y.stores Y.table X).srv) d.toNat).holds,h'.state.cell=(c:Int) ∧ @Eq Int h'.age (nth .int Y.table.ages ((c:Int).toNat))
    rw[hH,hXd',hsrv,m6 .srv hd1]
    refine⟨⟨X.n,(nth .sto w.stores c).recs.length,o6 w.map (nth .sto w.stores c)⟩,?_,hcell,?_⟩
    ·show _∈P0 _ _
     rw[a0R hsort]
     exact b2t _ _
    ·show @Eq Int X.n _
     rw[hcn,(hth c).2,if_pos rfl]
     exact hxa
  ·show((wCut Y 0).net++((n5 Y.map (nth .srv Y.servers X.dest.toNat) Y.stores Y.table X).out).take (40-(wCut Y 0).net.length)) = []
   rw[hH]
   unfold wCut
   rw[hnet]
   rfl
theorem a8u {w:Wld} (hg:Good w) (hn:w.net = []) (hup:a8x w) {a:Int} (ha:a0g w a) (h9:a<890) : ∀k:Nat,(k:Int)≤w.map.cells →
  Hol w (s5 n7 w k)∧(∀c:Nat,c<k→a3a (s5 n7 w k) c)∧(s5 n7 w k).net = []∧a0g (s5 n7 w k) (a+k)
 | 0,_=>⟨.refl hg,fun c hc=>by omega,hn,fun k=>Int.le_trans (ha k) (by omega)⟩
 |k+1,hk=>by
  obtain⟨i1,i2,i3,i4⟩:=a8u hg hn hup ha h9 k (by omega)
  have hl:=Q5 hg.ok
  obtain⟨g1,g2,g3,g4⟩:=c0m i1.good i3 (hup.kept i1.kept) i4 (by omega) (c:=k) (by rw[i1.kept.map];omega)
  refine⟨i1.trans g1,fun c hc => ?_,g3,fun j => ?_⟩
  ·by_cases hck:c=k
   ·subst hck;exact g2
   ·exact(g1.held _ (i2 c (by omega))).1
  ·have:=g4 j
   exact Int.le_trans this (by omega)
theorem c5o {w:Wld} (hg:Good w) (hup:a8x w) {a:Int} (ha:a0g w a) (h9:a<890):Hol w (D0 w) ∧ ∀c:Nat,(c:Int)<w.map.cells→a3a (D0 w) c:=by
 have hb:=a6w hg
 have hl:=Q5 hg.ok
 have hm:(m8 w).map=w.map:=hb.1.kept.map
 have hG:=a8u hb.1.good (b8h hg.ok) (hup.kept hb.1.kept) (a:=a) (by unfold a0g;rw[hb.2];exact ha) h9 w.map.cells.toNat (by rw[hm];omega)
 have hT:=b0F (f:=B3) (fun x k q=>c7Z q k) hG.1.good w.map.cells.toNat
 have hS:=b0F (f:=S8) (fun x k q=>d0R q k) hT.good w.rows.length
 have hTS:=hT.trans hS
 refine⟨(hb.1.trans hG.1).trans hTS,fun c hc=>(hTS.held _ (hG.2.1 c (by omega))).1⟩
theorem b1G {w:Wld} (hf:From w) {a:Int} (ha:a0g w a) (h9:a<890):j6 w=true∧j6 (U8 w 1)=true∧(∀c:Int,0≤c→c<w.stores.length→D4 (U8 w 1) c=true) ∧
  (∀c:Int,D4 w c=true → @Eq Int (nth .int (U8 w 1).table.servers c.toNat) (nth .int w.table.servers c.toNat))∧D4 (U8 w 1) (w.stores.length:Int)=false:=by
 have hg:=c4Q hf
 have hu:=d2X hg
 have hr:=c5o hu.1.good (c5G hg.ok) (a:=a) (by unfold a0g;rw[hu.2];exact ha) h9
 have he:U8 w 1=D0 (U2 w):=by rw[b5b hg.ok (by omega)];rfl
 have hH:=hu.1.trans hr.1
 have hst:=(C4.1 (m7.1 hg.ok).2.1).2.1
 rw[he]
 refine⟨hg.ok,hr.1.good.ok,fun c h0 h1 => ?_,fun c hc=>(hH.held c ((a6y hg.ok c).1 hc)).2,?_⟩
 ·rw[a6y hr.1.good.ok]
  have:=hr.2 c.toNat (by rw[hu.1.kept.map];omega)
  rwa [show((c.toNat:Nat):Int)=c by omega]at this
 ·refine b7A ?_
  have hl:=B7 (m7.1 hr.1.good.ok).1
  have hm:(D0 (U2 w)).map=w.map:=hH.kept.map
  unfold j9
  rw[if_neg (by rw[hm]at hl;omega)]
theorem c9n {w:Wld} (hok:j6 w=true) {n:Int} (h:a0g w n) (h0:0≤n) (e:Evt):a0g (m9 w e) (n+1):=by
 have up:a0g w (n+1):=fun k=>Int.le_trans (h k) (by omega)
 have key : ∀x,StepC w x→a0g x (n+1):=fun x hx=>by
  cases hx with
  |grant cell server hg =>
   obtain⟨h1,_⟩:=m7.1 hok
   obtain⟨g1,c1,c2,c3,c4,ge,b3,b4⟩:=a3I h1 hg
   obtain⟨l1,l2,_⟩:=B7 h1
   intro k
   show @LE.le Int _ (nth .int (n4 w.table w.servers.length cell server).t.ages k) (n+1)
   rw[ge]
   show @LE.le Int _ (nth .int (w.table.ages.set cell.toNat (nth .int w.table.ages cell.toNat+1)) k) (n+1)
   rw[I1 .int (by omega)]
   split
   ·have q1:=h cell.toNat
    have q2 : ∀b:Int,b≤n→b+1≤n+1:=fun b _=>by omega
    exact q2 _ q1
   ·exact up k
  |_=>exact up
 exact key _ (a2v w e)
theorem b1p {w:Wld} {n:Int} (h:a0g w n) (h0:0≤n) (e:Evt):a0g (m0 w e) (n+1):=by
 by_cases hok:j6 w=true
 ·have:m0 w e=m9 w e:=by simp[m0,hok]
  rw[this]
  exact c9n hok h h0 e
 ·have:m0 w e=K4:=by simp[m0,hok]
  rw[this]
  intro k
  show @LE.le Int _ (nth .int [] k) (n+1)
  have:nth .int ([]:List Int) k=(0:Int):=rfl
  rw[this]
  show(0:Int)≤n+1
  omega
theorem b3m : ∀(l:List Evt) {w:Wld} {n:Int},a0g w n→0≤n→a0g (J3 w l) (n+l.length)
 |[],w,n,h,h0=>fun k=>Int.le_trans (h k) (by simp)
 |e::l,w,n,h,h0=>by
  have:=b3m l (b1p h h0 e) (by omega)
  intro k
  refine Int.le_trans (this k) ?_
  rw[List.length_cons]
  omega
def BegA (w:Wld) (n:Int):Prop:=BegE w∧a0g w (2 * n)
theorem c9g {w:Wld} {m:PMap} {l:List Wlk} {v:Int} (h:BegE w) (hw:w=a2r m l v):BegA w 0:=by
 refine⟨h,fun k => ?_⟩
 have h0:(2 * 0:Int)=0:=rfl
 rw[h0,hw]
 unfold a2r
 split
 ·show @LE.le Int _ (nth .int (a0W m).ages k) 0
  unfold a0W
  split
  ·by_cases hk:k<m.cells.toNat
   ·show @LE.le Int _ (nth .int (List.replicate m.cells.toNat 0) k) 0
    rw[d0A 0 _ _ hk]
    exact Int.le_refl 0
   ·show @LE.le Int _ ((List.replicate m.cells.toNat (0:Int)).getD k 0) 0
    rw[List.getD_eq_getElem?_getD,List.getElem?_eq_none (by simp;omega)]
    exact Int.le_refl 0
  ·exact Int.le_refl 0
 ·exact Int.le_refl 0
theorem c5w {w:Wld} {n:Int} (h:BegA w n) (h0:0≤n) (c d:Int):BegA (m0 (m0 w ⟨1,c,0,d,0⟩) ⟨4,0,0,0,0⟩) (n+1):=by
 refine⟨c5v h.1 c d,?_⟩
 have h1:=b1p h.2 (by omega) ⟨1,c,0,d,0⟩
 have h2:=b1p h1 (by omega) ⟨4,0,0,0,0⟩
 have e:2 * n+1+1=2 * (n+1):=by omega
 rw[e]at h2
 exact h2
theorem c5x {w:Wld} {n m:Int} (h:BegA w n) (hn:n≤m):BegA w m:=⟨h.1,fun k=>Int.le_trans (h.2 k) (by omega)⟩
theorem c0n {W:Wld} {l:List Evt} {n:Int} (h:BegA W n∧l.length≤149) (h0:0≤n) (h4:n≤4):j6 W=true∧j6 (J3 W l)=true∧j6 (U8 (J3 W l) 1)=true∧(∀c:Int,0≤c→c<(J3 W l).stores.length→D4 (U8 (J3 W l) 1) c=true) ∧
  (∀c:Int,D4 (J3 W l) c=true → @Eq Int (nth .int (U8 (J3 W l) 1).table.servers c.toNat) (nth .int (J3 W l).table.servers c.toNat))∧D4 (U8 (J3 W l) 1) ((J3 W l).stores.length:Int)=false ∧
  (J3 W l).stores.length≤4∧(J3 W l).table.servers.length=(J3 W l).stores.length∧(U8 (J3 W l) 1).table.servers.length=(J3 W l).stores.length∧l.length≤1000:=by
 have hf:=b9Y (c9f h.1.1) l
 have ha:=b3m l h.1.2 (by omega)
 have hc:=b1G hf ha (by omega)
 have hst:=(C4.1 (m7.1 hc.1).2.1).2.1
 have hl:=Q5 hc.1
 have hk:=(c5n hc.1 (n:=1) (by omega)).1
 have l1:=B7 (m7.1 hc.1).1
 have l2:=B7 (m7.1 hc.2.1).1
 rw[hk.map]at l2
 exact⟨b5e h.1.1,hc.1,hc.2.1,hc.2.2.1,hc.2.2.2.1,hc.2.2.2.2,by omega,by omega,by omega,by omega⟩
theorem d3i {b:Bool} (h:(b==b)=false):False:=by cases b<;>cases h
theorem c7T {i:Int} {n m:Nat} (h0:0≤i) (h:i<(n:Int)) (e:m=n):0≤i∧i<(m:Int):=by omega
theorem c0A {i:Int} {n:Nat} (h0:0≤i) (h:i<(n:Int)) (h4:n≤4):(0≤IntKind.i64.wrap (i+1)∧IntKind.i64.wrap (i+1)≤4)∧(5-IntKind.i64.wrap (i+1)).toNat<(5-i).toNat:=by
 have hw:IntKind.i64.wrap (i+1)=i+1:=b8 (by omega) (by omega)
 rw[hw]
 exact⟨⟨by omega,by omega⟩,by omega⟩
end Go.Mo
