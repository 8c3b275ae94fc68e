/-
  Plain laws of the one world: an order keeps it ok, and its j9; so does who comes, and what falls.
-/
import Derived.Test.YtihaeoicjglieaaGreatM6
import Derived.Test.YtihaeoicjglieaaGreatM3
set_option linter.unusedVariables false
set_option linter.unusedSimpArgs false
namespace Go.Mo
open Go.Sx
structure OkOne (m:PMap) (ws:List OW) (g:List Int) (a:List (List Int)):Prop where
 plc:s0 m=true
 gl:(g.length:Int)=m.cells
 al:(a.length:Int)=m.cells
 Y6 : ∀i,i<g.length → @LE.le Int _ 0 (nth .int g i) ∧ @LE.le Int _ (nth .int g i) 900∧(nth .ints a i).length=2 ∧ @LE.le Int _ 0 (nth .int (nth .ints a i) 0) ∧ @LE.le Int _ (nth .int (nth .ints a i) 0) 100000 ∧ @LE.le Int _ 0 (nth .int (nth .ints a i) 1) ∧ @LE.le Int _ (nth .int (nth .ints a i) 1) 100000
 ok : ∀i,i<ws.length→P9 m (nth .ow ws i).wlk=true
 sort : ∀i,i<ws.length→i≠0→(nth .ow ws (i-1)).wlk.id<(nth .ow ws i).wlk.id
theorem S5 {o:One}:I3 o=true↔OkOne o.map o.wlks o.ground o.air:=by
 rw[U0,O9]
 unfold a4t
 rw[m4,m4]
 constructor
 ·rintro⟨⟨h1,h2,h3⟩,h4,h5⟩
  refine⟨h1,h2,h3,fun i hi => ?_,fun i hi => ?_,fun i hi h0 => ?_⟩
  ·have:=h4 i hi
   simp only[Mo.Y6,decide_eq_true_eq]at this
   exact this
  ·have:=h5 i hi
   simp only[owAt,Bool.and_eq_true]at this
   exact this.1
  ·have:=h5 i hi
   simp only[owAt,Bool.and_eq_true,Bool.or_eq_true,decide_eq_true_eq]at this
   exact this.2.resolve_left h0
 ·intro h
  refine⟨⟨h.plc,h.gl,h.al⟩,fun i hi => ?_,fun i hi => ?_⟩
  ·have:=h.Y6 i hi
   simp only[Mo.Y6,decide_eq_true_eq]
   exact this
  ·have h1:=h.ok i hi
   simp only[owAt,Bool.and_eq_true,Bool.or_eq_true,decide_eq_true_eq]
   refine⟨h1,?_⟩
   by_cases h0:i=0
   ·exact .inl h0
   ·exact .inr (h.sort i hi h0)
def owC (x:OW):Int:=x.wlk.j9
def airC (l:List Int):Int:=nth .int l 0+nth .int l 1
def idI (n:Int):Int:=n
def a2E (ws:List OW) (g:List Int) (a:List (List Int)):Int:=sumL owC ws+sumL idI g+sumL airC a
theorem c6F (l:List OW):K6 l l.length=sumL owC l:=by
 have : ∀k,k≤l.length→K6 l k=sumK owC l k:=fun k=>by
  induction k with
  |zero=>intro _;rw[a6k,a8s]
  |succ k ih =>
   intro hk
   rw[a6l,ih (by omega),a8t .ow owC (show k<l.length by omega)]
   rfl
 rw[this _ (Nat.le_refl _),b0E _ rfl]
theorem c8c {o:One} (h:o.air.length=o.ground.length):O5 o o.ground.length=sumL idI o.ground+sumL airC o.air:=by
 have : ∀k,k≤o.ground.length→O5 o k=sumK idI o.ground k+sumK airC o.air k:=fun k=>by
  induction k with
  |zero=>intro _;rw[a6y,a8s,a8s];rfl
  |succ k ih =>
   intro hk
   rw[a3N,ih (by omega),a8t .int idI (show k<o.ground.length by omega),a8t .ints airC (show k<o.air.length by omega)]
   unfold idI airC
   generalize (nth .int o.ground k:Int)=a
   generalize (nth .int (nth .ints o.air k) 0:Int)=b
   generalize (nth .int (nth .ints o.air k) 1:Int)=c
   show sumK idI o.ground k+sumK airC o.air k+(a+b+c)=sumK idI o.ground k+a+(sumK airC o.air k+(b+c))
   omega
 rw[this _ (Nat.le_refl _),b0E _ rfl,b0E _ h.symm]
theorem a5D {o:One} (h:I3 o=true):I9 o=a2E o.wlks o.ground o.air:=by
 have hk:=S5.1 h
 have hl:o.air.length=o.ground.length:=by have:=hk.gl;have:=hk.al;omega
 unfold I9 a2E
 rw[if_pos h,c6F,c8c hl]
 omega
structure KeepC (o x:One):Prop where
 ok:I3 x=true
 tot:a2E x.wlks x.ground x.air=a2E o.wlks o.ground o.air
 map:x.map=o.map
theorem KeepC.j9 {o x:One} (ho:I3 o=true) (h:KeepC o x):I9 x=I9 o:=by rw[a5D ho,a5D h.ok,h.tot]
def From (w:Wld):Prop := ∃l w0,Beg l w0∧Ran w0 w
theorem d1U {w:Wld} (h:From w):Inv (fun _=>0) w:=by
 obtain⟨l,w0,h0,hr⟩:=h
 have hw:=c5I h0
 have hf:a9y w0.rows=fun _=>0:=funext fun who=>c5F h0 who
 rw[hf]at hw
 exact d3K hw hr
theorem d4P {w:Wld} (h:From w):j8 w=true:=(d1U h).ok
def d1I (w:Wld) (k j:Nat):Hld:=nth .hld (nth .srv w.servers k).holds j
structure Alone (w:Wld) (A:List Int) (k j:Nat):Prop where
 len:A.length=w.stores.length
 one : ∀c,c<w.stores.length→(@Eq Int (nth .int A c) 0 ∨ @Eq Int (nth .int A c) 1)∧(@Eq Int (nth .int A c) 1 → ∃k' j',(k'<k∨k'=k∧j'<j)∧k'<w.servers.length∧j'<(nth .srv w.servers k').holds.length∧(d1I w k' j').state.cell=(c:Int)∧(d1I w k' j').age=(nth .sto w.stores c).age)
def tkP (m:PMap) (t:Arb) (h:Hld) (cell side:Int) (k:Nat):List Msg:=((nth .pcls h.state.outs side.toNat).take k).map fun p=>⟨5,o9 t (b7 m cell side),b7 m cell side,1-side,0,u5,p,F8⟩
def tkG (m:PMap) (t:Arb) (h:Hld) (cell side:Int) (k:Nat):List Msg:=((n9 m h side).take k).map fun g=>⟨7,o9 t (b7 m cell side),b7 m cell side,1-side,0,u5,y8,g⟩
def tkTo (m:PMap) (t:Arb) (h:Hld) (cell:Int):Nat→List Msg
 | 0 => []
 |n+1=>tkTo m t h cell n++C4 m t h cell n
theorem c5X (m:PMap) (t:Arb) (h:Hld) (cell:Int):tkTo m t h cell 0 = []:=rfl
theorem c5Y {m:PMap} {t:Arb} {h:Hld} {cell:Int} {n:Nat} (hs:b7 m cell n = -1∨o9 t (b7 m cell n) = -1):tkTo m t h cell (n+1)=tkTo m t h cell n:=by
 show tkTo m t h cell n++C4 m t h cell n=_
 have:C4 m t h cell n = []:=by
  unfold C4
  simp only
  rw[if_pos hs]
 rw[this,List.append_nil]
theorem c9e {m:PMap} {t:Arb} {h:Hld} {cell:Int} {n:Nat} (h1 : ¬b7 m cell n = -1) (h2 : ¬o9 t (b7 m cell n) = -1):tkTo m t h cell (n+1)=tkTo m t h cell n++tkP m t h cell n 4++tkG m t h cell n 4:=by
 show tkTo m t h cell n++C4 m t h cell n=_
 have:C4 m t h cell n=tkP m t h cell n 4++tkG m t h cell n 4:=by
  unfold C4 tkP tkG
  simp only
  rw[if_neg (fun hh=>hh.elim h1 h2)]
 rw[this,List.append_assoc]
theorem b7w {m:PMap} {s:Srv} {t:Arb} {cell:Int} (hh:A6 s cell=true):tkTo m t (j6 s cell) cell 2=D7 m s t cell:=by
 unfold D7
 rw[if_pos hh]
 rfl
theorem c9f (m:PMap) (t:Arb) (h:Hld) (cell side:Int):tkP m t h cell side 0 = []:=by simp[tkP]
theorem c9g (m:PMap) (t:Arb) (h:Hld) (cell side:Int):tkG m t h cell side 0 = []:=by simp[tkG]
theorem b7x {m:PMap} {t:Arb} {h:Hld} {cell side:Int} {k:Nat} (hk:k<(nth .pcls h.state.outs side.toNat).length):tkP m t h cell side (k+1)=tkP m t h cell side k ++ [⟨5,o9 t (b7 m cell side),b7 m cell side,1-side,0,u5,nth .pcl (nth .pcls h.state.outs side.toNat) k,F8⟩]:=by
 unfold tkP
 exact a0B (t := .pcl) _ _ hk
theorem b7y {m:PMap} {t:Arb} {h:Hld} {cell side:Int} {k:Nat} (hk:k<(n9 m h side).length):tkG m t h cell side (k+1)=tkG m t h cell side k ++ [⟨7,o9 t (b7 m cell side),b7 m cell side,1-side,0,u5,y8,nth .gst (n9 m h side) k⟩]:=by
 unfold tkG
 exact a0B (t := .gst) _ _ hk
theorem d3p {m:PMap} {t:Arb} {h:Hld} {cell side:Int} {k:Nat} (h4:k≤4) (he:min 4 (nth .pcls h.state.outs side.toNat).length≤k):tkP m t h cell side k=tkP m t h cell side 4:=by
 unfold tkP
 by_cases h5:k=4
 ·rw[h5]
 ·rw[List.take_of_length_le (by omega),List.take_of_length_le (by omega)]
theorem d3s {m:PMap} {t:Arb} {h:Hld} {cell side:Int} {k:Nat} (h4:k≤4) (he:min 4 (n9 m h side).length≤k):tkG m t h cell side k=tkG m t h cell side 4:=by
 unfold tkG
 by_cases h5:k=4
 ·rw[h5]
 ·rw[List.take_of_length_le (by omega),List.take_of_length_le (by omega)]
theorem d3o (m:PMap) (t:Arb) (h:Hld) (cell side:Int) (k:Nat):(tkP m t h cell side k).length≤k:=by simp[tkP];omega
theorem d3r (m:PMap) (t:Arb) (h:Hld) (cell side:Int) (k:Nat):(tkG m t h cell side k).length≤k:=by simp[tkG];omega
theorem b0B (m:PMap) (t:Arb) (h:Hld) (cell:Int) : ∀n,(tkTo m t h cell n).length≤8 * n
 | 0=>by simp[tkTo]
 |n+1=>by
  have ih:=b0B m t h cell n
  show(tkTo m t h cell n++C4 m t h cell n).length≤_
  have:(C4 m t h cell n).length≤8:=by
   unfold C4
   simp only
   split
   ·simp
   ·simp
    omega
  rw[List.length_append]
  omega
structure Said (m:PMap) (s:Srv) (t:Arb) (v cell:Int) (z:Msg):Prop where
 ok:y5 m v z=true
 side:z.side=0∨z.side=1
 at1:z.cell=b7 m cell (1-z.side)
 lo:0≤z.cell
 hi:z.cell<(t.servers.length:Int)
 dest:z.dest=nth .int t.servers z.cell.toNat
 kind:z.kind=5∨z.kind=7
 num:z.kind=5→0≤z.pcl.n-(nth .int (j6 s cell).state.next (1-z.side).toNat-(nth .pcls (j6 s cell).state.outs (1-z.side).toNat).length)∧z.pcl.n-(nth .int (j6 s cell).state.next (1-z.side).toNat-(nth .pcls (j6 s cell).state.outs (1-z.side).toNat).length)<(nth .pcls (j6 s cell).state.outs (1-z.side).toNat).length
 pcl:z.kind=5→nth .pcl (nth .pcls (j6 s cell).state.outs (1-z.side).toNat) (z.pcl.n-(nth .int (j6 s cell).state.next (1-z.side).toNat-(nth .pcls (j6 s cell).state.outs (1-z.side).toNat).length)).toNat=z.pcl
 gst:z.kind=7→z.gst.count=(j6 s cell).count∧z.gst.src=cell
 bnd:0≤nth .int (j6 s cell).state.next (1-z.side).toNat∧nth .int (j6 s cell).state.next (1-z.side).toNat≤5000∧((nth .pcls (j6 s cell).state.outs (1-z.side).toNat).length:Int)≤nth .int (j6 s cell).state.next (1-z.side).toNat∧(j6 s cell).state.outs.length=2∧(j6 s cell).state.next.length=2
theorem c9i {m:PMap} {s:Srv} {t:Arb} {cell:Int}:(D7 m s t cell).length≤16:=by
 unfold D7
 split
 ·rename_i hh
  have:=b0B m t (j6 s cell) cell 2
  rw[b7w hh]at this
  unfold D7 at this
  rw[if_pos hh]at this
  omega
 ·simp
theorem L9 {w:Wld} {e:Evt} (h:j8 w=false):b9 w e=⟨⟨0,0⟩,[],[],⟨[],[]⟩,[],[],[]⟩:=by simp[b9,h,a1f]
theorem b0e (n:Nat) (k:Int) (h:0<k):0≤(n:Int).tmod k∧(n:Int).tmod k<k:=by
 rw[Int.tmod_eq_emod_of_nonneg (by omega)]
 exact⟨Int.emod_nonneg _ (by omega),Int.emod_lt_of_pos _ h⟩
def newD (a b:List Sto) (i:Nat):Int:=((nth .sto b i).recs.length:Int)-((nth .sto a i).recs.length:Int)
def O3 (a b:List Sto):Nat→Int
 | 0 => -1
 |k+1=>if O3 a b k = -2∨newD a b k<0∨1<newD a b k∨newD a b k=1∧O3 a b k ≠ -1 then -2 else if newD a b k=1 then(k:Int)else O3 a b k
def b1M (a b:List Sto):Int:=O3 a b a.length
section
variable {a b:List Sto} {k n:Nat}
theorem a9K (h0:O3 a b k ≠ -2) (h1:newD a b k=1) (h2:O3 a b k = -1):O3 a b (k+1)=(k:Int):=by
 rw[O3,if_neg (by omega),if_pos h1]
theorem a4H (h0:O3 a b k ≠ -2) (h1:newD a b k=0):O3 a b (k+1)=O3 a b k:=by
 rw[O3,if_neg (by omega),if_neg (by omega)]
theorem b1L (h : ∀i,i<n→newD a b i=0):O3 a b n = -1:=by
 induction n with
 |zero=>rfl
 |succ n ih =>
  have:=ih fun i hi=>h i (by omega)
  rw[a4H (by omega) (h n (by omega)),this]
theorem c7t {d:Nat} (hd:newD a b d=1) (h : ∀i,i≠d→newD a b i=0) (hn:d<n):O3 a b n=(d:Int):=by
 induction n with
 |zero=>omega
 |succ n ih =>
  by_cases he:d=n
  ·subst he
   have:=b1L (n:=d) fun i hi=>h i (by omega)
   exact a9K (by omega) hd this
  ·have:=ih (by omega)
   rw[a4H (by omega) (h n (by omega)),this]
end
structure LogsE (st st':List Sto):Prop where
 len:st'.length=st.length
 pre : ∀i:Nat,(nth .sto st' i).recs.take (nth .sto st i).recs.length=(nth .sto st i).recs∧(nth .sto st i).recs.length≤(nth .sto st' i).recs.length
 age : ∀i:Nat,(nth .sto st i).age≤(nth .sto st' i).age
 one:(∀i,newD st st' i=0) ∨ ∃d,d<st.length∧newD st st' d=1 ∧ ∀i,i≠d→newD st st' i=0
theorem LogsE.refl (st:List Sto):LogsE st st:=⟨rfl,fun _=>⟨by simp,by omega⟩,fun _=>by omega,Or.inl fun _=>by simp[newD]⟩
theorem LogsE.new {st st':List Sto} (h:LogsE st st') : -1≤b1M st st':=by
 rcases h.one with h|⟨d,hd,h1,h2⟩
 ·unfold b1M
  rw[b1L fun i _=>h i]
  omega
 ·unfold b1M
  rw[c7t h1 h2 hd]
  omega
end Go.Mo
