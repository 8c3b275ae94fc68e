/-
  The state in memory, and the operations that touch no memory: sound.
-/
import Derived.Test.YtiioognflecdgaaGreatS0d
import Derived.Calls
import Derived.Laws.Append
import Derived.Laws.Cells
import Derived.Laws.CopyRow
import Derived.Laws.StructEq
import Derived.Laws.Unary
import Derived.Laws.Wrap64
set_option linter.unusedVariables false
set_option linter.unusedSimpArgs false
namespace Go.Sx
def a3d:ZC→Value→Bool
 | .int k,.int k' n=>k==k'&&n==0
 | .bool,.bool b => !b
 | .slice,.slice none 0 0=>true
 | .other,v=>v.oneCell'
 |_,_=>false
def a4v:List ZC→List Value→Bool
 |[],[]=>true
 |z::zs,v::vs=>a3d z v&&a4v zs vs
 |_,_=>false
def X0 (P:Program):TypeDesc→TyD→Bool
 | .int k,.int k'=>k==k'
 | .bool,.bool=>true
 | .struct fs,.struct offs=>(fs.toList.map fun f=>(f.offset,P.cellsOf f.type))==offs&&fs.toList.all fun f=>match P.info? f.type with
  |some i=>i.size != 0
  |none=>false
 | .slice e,.slice e'=>e==e'
 | .pointer e,.ptr e'=>e==e'
 | .struct _,_=>false
 | .array _ _,_=>false
 |_,.other=>true
 |_,_=>false
def a1y:List (Option RT)→List ZC→Bool
 |[],[]=>true
 |some _::s,.slice::z=>a1y s z
 |none::s,.int _::z=>a1y s z
 |none::s,.bool::z=>a1y s z
 |_,_=>false
def eqFs (g:Nat→Option (List Bool)):List Field→Nat→Option (List Bool)
 |[],_=>some []
 | f :: fs, o => if f.name == "_" then none else if f.offset == o then (match g f.type with
  |some n=>match eqFs g fs (o+n.length)with
   |some r=>some (n++r)
   |none=>none
  |none=>none)else none
def eqTy (P:Program):Nat→TypeId→Option (List Bool)
 | 0,_=>none
 |d+1,T=>match P.underlying T with
  |some (.int _)=>some [true]
  |some .bool=>some [false]
  |some (.struct fs)=>if P.stoodInHeld T then none else(match eqFs (eqTy P d) fs.toList 0 with
   |some n=>if P.cellsOf T==n.length then some n else none
   |none=>none)
  |_=>none
def a3h (P:Program) (T:Nat) (i:TyI):Bool :=
 match P.info? T,P.underlying T with
 |some inf,some d=>inf.size==i.cells&&inf.bytes==i.bytes&&(match inf.zero with
   |some z=>a4v i.zero z.cells.toList&&z.cells.size==i.cells
   |none=>false)&&X0 P d i.d&&(match i.rt with
   |some t=>t.size==i.cells&&t.bytes==i.bytes&&a1y t.shape i.zero && !t.O8
   |none=>true)&&(!i.eq||(eqTy P 12 T==some (i.zero.map ZC.isInt) && !P.eqGuardType P.depth T))&&(i.fts == []||(match d with
   | .struct fs=>(fs.toList.map fun f=>f.type)==i.fts
   |_=>false))
 |_,_=>false
def TyOk (P:Program) (ty:Tr TyI):Prop := ∀T,ty.get T=default∨a3h P T (ty.get T)=true
structure Base where
 w0:World
 S0:Nat→Prop
 om0:Nat→Option (Nat×Path)
 bx:Nat→Option (Nat×Nat×Nat)
 fx:Nat→Nat→Prop
 up:List (Array Value)
def BAt (off:Nat) (cs:List C) (o:Nat):Prop := ∃j c,o=off+j∧cs[j]? = some c∧c.isB=true
theorem b2M : ∀ {cs ds:List C},X4 cs ds=true→ds.length=cs.length
 |[],[],_=>rfl
 |_::cs,_::ds,h=>by
  simp only[X4,Bool.and_eq_true]at h
  simp[b2M h.2]
theorem b7u : ∀ {cs ds:List C},X4 cs ds=true → ∀ {j:Nat} {c:C},cs[j]? = some c→c.isB=true → ∃d,ds[j]? = some d∧d.isB=true
 |[],[],_,j,c,h,_=>by simp at h
 |x::cs,y::ds,hk,j,c,h,hb=>by
  simp only[X4,Bool.and_eq_true]at hk
  cases j with
  |zero =>
   simp only[List.getElem?_cons_zero,Option.some.injEq]at h
   subst h
   have:=hk.1
   rw[hb]at this
   exact⟨y,rfl,by simpa using this⟩
  |succ j=>exact b7u hk.2 (by simpa using h) hb
theorem b0y : ∀ {cs ds:List C},ds.length=cs.length→(∀(i:Nat) (c:C),cs[i]? = some c→c.isB=true → ∃d,ds[i]? = some d∧d.isB=true)→X4 cs ds=true
 |[],[],_,_=>rfl
 |[],_::_,h,_=>by simp at h
 |_::_,[],h,_=>by simp at h
 |c::cs,d::ds,hl,h=>by
  simp only[X4,Bool.and_eq_true]
  refine⟨?_,b0y (by simpa using hl) fun i c' hc hb=>by simpa using h (i+1) c' (by simpa using hc) hb⟩
  cases hb:c.isB with
  |false=>rfl
  |true =>
   obtain⟨d',hd,hdb⟩:=h 0 c rfl hb
   simp only[List.getElem?_cons_zero,Option.some.injEq]at hd
   subst hd
   simpa using hdb
theorem D7 : ∀cs:List C,X4 cs cs=true
 |[]=>rfl
 |c::cs=>by simp only[X4,D7 cs,Bool.and_true];cases c.isB<;>rfl
theorem BAt.keep {off o:Nat} {cs ds:List C} (h:BAt off cs o) (hk:X4 cs ds=true):BAt off ds o:=by
 obtain⟨j,c,ho,hj,hb⟩:=h
 obtain⟨d,hd,hdb⟩:=b7u hk hj hb
 exact⟨j,d,ho,hd,hdb⟩
structure FR (B:Base) (e:Env) (hp:Hp) (w:World):Prop where
 os:w.os=B.w0.os
 tape:w.tape=B.w0.tape
 output:w.output=B.w0.output
 sNew : ∀b,e.S b→B.S0 b∨B.om0 b≠none∨B.w0.heap.size≤b
 size:B.w0.heap.size≤w.heap.size
 old : ∀b,b<B.w0.heap.size→B.om0 b=none→w.heap[b]? = B.w0.heap[b]? ∧ e.om b=none
 box : ∀b k off n,B.bx b=some (k,off,n)→e.om b=some (k,[])∧e.E k = .pointer (some ⟨b,off,none⟩)∧(∃cs,(hp.get k).2 = .var true cs∧cs.length=n ∧ ∀o,B.fx b o→BAt off cs o) ∧
  ∃arr0 arr T,B.w0.heap[b]? = some (.cells arr0 T (0,0))∧w.heap[b]? = some (.cells arr T (0,0))∧arr.size=arr0.size ∧ ∀o,(o<off∨off+n≤o∨B.fx b o)→arr[o]? = arr0[o]?
def UpR (e:Env) (hp:Hp) (w:World):List (Array Value)→List (Tr V)→Prop
 |[],[]=>True
 |a::as,t::ts=>(∀i,VR e hp w (a.getD i undef) (t.get i))∧UpR e hp w as ts
 |_,_=>False
structure Rel (B:Base) (e:Env) (w:World) (tmps:Array Value) (σ : St):Prop where
 hr:HR e σ.hp w
 fr:FR B e σ.hp w
 up:UpR e σ.hp w B.up σ.up
 tm : ∀t,VR e σ.hp w (tmps.getD t undef) (σ.tm.get t)
structure SR (e:Env) (hp:Hp) (w:World) (e':Env) (hp':Hp) (w':World):Prop where
 S : ∀b,e.S b→e'.S b∧w'.heap[b]? = w.heap[b]?
 k : ∀k,KR e hp w e' hp' w' k
section
variable {e e':Env} {hp hp':Hp} {w w':World}
theorem SR.refl (e:Env) (hp:Hp) (w:World):SR e hp w e hp w:=⟨fun _ h=>⟨h,rfl⟩,fun _ => .same rfl rfl fun _ _ h=>⟨h,rfl⟩⟩
mutual
theorem VR.mono (h:SR e hp w e' hp' w') : ∀(x:V) (v:Value),VR e hp w v x→VR e' hp' w' v x
 | .one c,v,hv=>by simp only[VR]at *;exact⟨CR.mono h.S h.k c v hv.1,hv.2⟩
 | .agg cs,v,hv=>by
  simp only[VR]at *
  obtain⟨arr,h1,h2,h3⟩:=hv
  exact⟨arr,h1,CRs.mono h.S h.k cs _ h2,h3⟩
 | .tup vs,v,hv=>by
  simp only[VR]at *
  obtain⟨arr,h1,h2⟩:=hv
  exact⟨arr,h1,VRs.mono h vs _ h2⟩
theorem VRs.mono (h:SR e hp w e' hp' w') : ∀(xs:List V) (vs:List Value),VRs e hp w vs xs→VRs e' hp' w' vs xs
 |[],[],_=>by simp only[VRs]
 |x::xs,v::vs,hv=>by
  simp only[VRs]at *
  exact⟨VR.mono h x v hv.1,VRs.mono h xs vs hv.2⟩
 |[],_::_,hv=>by simp only[VRs]at hv
 |_::_,[],hv=>by simp only[VRs]at hv
end
theorem UpR.mono (h:SR e hp w e' hp' w') : ∀(as:List (Array Value)) (ts:List (Tr V)),UpR e hp w as ts→UpR e' hp' w' as ts
 |[],[],_=>trivial
 |_::as,_::ts,hu=>⟨fun i=>VR.mono h _ _ (hu.1 i),UpR.mono h as ts hu.2⟩
 |[],_::_,hu=>hu.elim
 |_::_,[],hu=>hu.elim
theorem VR.undef:VR e hp w undef b3x:=by
 simp only[VR,b3x,Go.undef]
 exact⟨#[],rfl,by simp only[VRs]⟩
theorem VRs.get {vs:List Value} {xs:List V} (h:VRs e hp w vs xs) (j:Nat) {x:V} (hx:xs[j]? = some x) : ∃v,vs[j]? = some v∧VR e hp w v x:=by
 induction vs generalizing xs j with
 |nil=>cases xs with
  |nil=>simp at hx
  |cons _ _=>simp only[VRs]at h
 |cons v vs ih=>cases xs with
  |nil=>simp only[VRs]at h
  |cons _ _ =>
   simp only[VRs]at h
   cases j with
   |zero=>simp at hx;subst hx;exact⟨v,rfl,h.1⟩
   |succ j=>simpa using ih h.2 j (by simpa using hx)
theorem VRs.length {vs:List Value} {xs:List V} (h:VRs e hp w vs xs):vs.length=xs.length:=by
 induction vs generalizing xs with
 |nil=>cases xs with
  |nil=>rfl
  |cons _ _=>simp only[VRs]at h
 |cons v vs ih=>cases xs with
  |nil=>simp only[VRs]at h
  |cons _ _=>simp only[VRs]at h;simp[ih h.2]
theorem b3q (v:Value):CR e hp w v (a7t v):=by
 unfold a7t
 split
 ·rename_i b
  cases b
  ·simp only[CR];exact Rep.bool .ff
  ·simp only[CR];exact Rep.bool .tt
 ·rename_i k n
  split
  ·rename_i h
   simp only[c7S,Bool.and_eq_true,decide_eq_true_eq]at h
   simp only[CR]
   exact Rep.int k (fun _=>n) h.1 h.2
  ·simp only[CR]
 ·simp only[CR]
 ·simp only[CR]
theorem b1s : ∀(l:List Value),CRs e hp w l (l.map a7t)
 |[]=>by simp only[CRs,List.map]
 |v::l=>by simp only[CRs,List.map];exact⟨b3q v,b1s l⟩
theorem y8.D5 {c:C} {v:Value} (h:one v):y8 c v:=by
 unfold y8
 split
 ·trivial
 ·exact h
theorem c9q (v:Value):VR e hp w v (c7s v):=by
 unfold c7s
 split
 ·rename_i cs
  split
  ·rename_i h
   simp only[VR]
   refine⟨cs,rfl,b1s _,fun u hu => ?_⟩
   have:=List.all_eq_true.1 h u hu
   unfold c0N at this
   unfold one
   split at this<;>first|rfl|simp at this
  ·simp only[VR,CR,y8]
   exact⟨trivial,trivial⟩
 ·simp only[VR]
  refine⟨b3q v,?_⟩
  cases v<;>first|exact y8.D5 rfl|(simp only[a7t,y8])
theorem p6 {B:Base} {a:Act} {σ : St} (h:Rel B e w a.tmps σ) (x:Operand):VR e σ.hp w (a.eval x) (ev σ.tm x):=by
 cases x with
 |tmp t=>exact h.tm t
 |const v=>exact c9q v
 |global g=>simp only[ev,VR,CR,y8];exact⟨trivial,trivial⟩
 |func f =>
  simp only[ev,VR,CR,Act.eval]
  exact⟨⟨#[],rfl,by simp only[CRs]⟩,rfl⟩
theorem Rel.put {B:Base} {a:Act} {σ : St} {v:Value} {x:V} {dst:Option Nat} (h:Rel B e w a.tmps σ) (hs:SR e σ.hp w e' hp' w') (hr:HR e' hp' w') (hf:FR B e' hp' w') (hv:VR e' hp' w' v x)
  (hd : ∀d,dst=some d→d<a.tmps.size):Rel B e' w' (a.put dst v).tmps ⟨putV σ.tm dst x,hp',σ.up⟩:=by
 refine⟨hr,hf,UpR.mono hs _ _ h.up,fun t => ?_⟩
 cases dst with
 |none =>
  simp only[putV,Act.put]
  exact VR.mono hs _ _ (h.tm t)
 |some d =>
  have hd':=hd d rfl
  simp only[putV,Act.put,Tr.W4]
  by_cases e:t=d
  ·subst e
   rw[if_pos rfl]
   have:(a.tmps.setIfInBounds t v).getD t undef=v:=by simp[Array.getD,hd']
   rw[this]
   exact hv
  ·rw[if_neg e]
   have:(a.tmps.setIfInBounds d v).getD t undef=a.tmps.getD t undef:=by
    simp only[Array.getD_eq_getD_getElem?,Array.getElem?_setIfInBounds]
    rw[if_neg (Ne.symm e)]
   rw[this]
   exact VR.mono hs _ _ (h.tm t)
theorem Rel.a3s {B:Base} {a:Act} {σ : St} {v:Value} {x:V} {dst:Option Nat} (h:Rel B e w a.tmps σ) (hv:VR e σ.hp w v x) (hd : ∀d,dst=some d→d<a.tmps.size) :
  Rel B e w (a.put dst v).tmps ⟨putV σ.tm dst x,σ.hp,σ.up⟩:=h.put (SR.refl _ _ _) h.hr h.fr hv hd
end
end Go.Sx
namespace Go.Sx
theorem M.wp_bind {α β : Type} (m:M α) (f : α → M β) : ∀(L:Locks) (h:Hp) (K : β → Hp→Prop),(m.bind f).wp L h K↔m.wp L h fun a h'=>(f a).wp L h' K:=by
 induction m with
 |ret a=>intro L h K;exact Iff.rfl
 |get k g ih=>intro L h K;simp only[M.bind,M.wp];split;exact Iff.rfl;exact ih _ L h K
 |set k e m ih=>intro L h K;simp only[M.bind,M.wp];split;exact Iff.rfl;split;exact Iff.rfl;split;exact ih L _ K;exact Iff.rfl
 |asrt p m ih=>intro L h K;simp only[M.bind,M.wp];rw[ih L h K]
 |asm p m ih=>intro L h K;simp only[M.bind,M.wp];rw[ih L h K]
 |all γ g ih=>intro L h K;simp only[M.bind,M.wp];exact forall_congr' fun x=>ih x L h K
 |fork b t e iht ihe=>intro L h K;simp only[M.bind,M.wp];rw[iht L h K,ihe L h K]
 |fail=>intro L h K;exact Iff.rfl
theorem M.u4 {α : Type} {k:Nat} {f:Nat×Ch→M α} {L:Locks} {h:Hp} {K : α → Hp→Prop} (hw:(M.get k f).wp L h K):(f (h.get k)).wp L h K:=by
 simp only[M.wp]at hw
 split at hw
 ·exact hw.elim
 ·exact hw
theorem M.D3 {α : Type} {k:Nat} {e:Nat×Ch} {m:M α} {L:Locks} {h:Hp} {K : α → Hp→Prop} (hw:(M.set k e m).wp L h K):keeps (h.get k) e=true∧m.wp L (h.set k e) K:=by
 simp only[M.wp]at hw
 split at hw
 ·exact hw.elim
 ·split at hw
  ·exact hw.elim
  ·split at hw
   ·exact⟨by assumption,hw⟩
   ·exact hw.elim
theorem M.p4 {α : Type} {b:Bool} {m:M α} {L:Locks} {h:Hp} {K : α → Hp→Prop} (hw:(M.guard b m).wp L h K):b=true∧m.wp L h K:=by
 unfold M.guard at hw
 split at hw
 ·exact⟨by assumption,hw⟩
 ·simp only[M.wp]at hw
section
variable {e e':Env} {hp hp':Hp} {w w':World} {B:Base}
theorem HR.step (h:HR e hp w) (hs:SR e hp w e' hp' w')
  (hch : ∀k,(hp'.get k=hp.get k∧e'.E k=e.E k ∧ ∀b q,e.om b=some (k,q)→e'.om b=some (k,q)∧w'.heap[b]? = w.heap[b]?)∨ChR e' hp' w' k (hp'.get k).2)
  (hS : ∀b,e'.S b→e'.om b=none∧b<w'.heap.size) (hO : ∀b x,e'.om b=some x→b<w'.heap.size):HR e' hp' w':=by
 refine⟨fun k => ?_,hS,hO⟩
 rcases hch k with ⟨h1,h2,h3⟩|h4
 ·rw[h1]
  exact ChR.mono hs.S hs.k h2 h3 (h.chs k)
 ·exact h4
structure FrS (e:Env) (hp:Hp) (w:World) (e':Env) (hp':Hp) (w':World):Prop where
 os:w'.os=w.os
 tape:w'.tape=w.tape
 output:w'.output=w.output
 sNew : ∀b,e'.S b→e.S b∨e.om b≠none∨w.heap.size≤b
 size:w.heap.size≤w'.heap.size
 old : ∀b,b<w.heap.size→e.om b=none→w'.heap[b]? = w.heap[b]? ∧ e'.om b=none
 box : ∀b k off n cs arr T,e.om b=some (k,[])→e.E k = .pointer (some ⟨b,off,none⟩)→(hp.get k).2 = .var true cs→cs.length=n→w.heap[b]? = some (.cells arr T (0,0)) →
  e'.om b=some (k,[])∧e'.E k=e.E k∧(∃cs',(hp'.get k).2 = .var true cs'∧X4 cs cs'=true) ∧ ∃arr',w'.heap[b]? = some (.cells arr' T (0,0))∧arr'.size=arr.size ∧ ∀o,(o<off∨off+n≤o∨BAt off cs o)→arr'[o]? = arr[o]?
theorem FR.step (h:FR B e hp w) (hs:FrS e hp w e' hp' w'):FR B e' hp' w':=by
 refine⟨hs.os.trans h.os,hs.tape.trans h.tape,hs.output.trans h.output,fun b hb => ?_,Nat.le_trans h.size hs.size,fun b hb h0 => ?_,fun b k off n hb => ?_⟩
 ·rcases hs.sNew b hb with h1|h1|h1
  ·exact h.sNew b h1
  ·by_cases h2:b<B.w0.heap.size
   ·by_cases h3:B.om0 b=none
    ·exact(h1 (h.old b h2 h3).2).elim
    ·exact .inr (.inl h3)
   ·exact .inr (.inr (by omega))
  ·exact .inr (.inr (Nat.le_trans h.size h1))
 ·obtain⟨h1,h2⟩:=h.old b hb h0
  obtain⟨h3,h4⟩:=hs.old b (Nat.lt_of_lt_of_le hb h.size) h2
  exact⟨h3.trans h1,h4⟩
 ·obtain⟨h1,h2,⟨cs,h3,h4,hx⟩,arr0,arr,T,h5,h6,h7,h8⟩:=h.box b k off n hb
  obtain⟨g1,g2,⟨cs',g3,hkb⟩,arr',g4,g5,g6⟩:=hs.box b k off n cs arr T h1 h2 h3 h4 h6
  exact⟨g1,g2.trans h2,⟨cs',g3,(b2M hkb).trans h4,fun o ho=>(hx o ho).keep hkb⟩,arr0,arr',T,h5,g4,g5.trans h7,fun o ho=>(g6 o (ho.imp_right fun ho=>ho.imp_right fun ho=>hx o ho)).trans (h8 o ho)⟩
theorem a0F {k:Nat} {x:Nat×Ch} (hk:keeps (hp.get k) x=true) {cs:List C} (hc:(hp.get k).2 = .var true cs) : ∃cs',x.2 = .var true cs'∧X4 cs cs'=true∧x.1=(hp.get k).1:=by
 generalize hp.get k=y at *
 obtain⟨yv,yc⟩:=y
 obtain⟨xv,xc⟩:=x
 simp only at hc
 subst hc
 simp only[keeps]at hk
 split at hk
 ·rename_i v' cs' heq
  simp only[Prod.mk.injEq]at heq
  obtain⟨rfl,rfl⟩:=heq
  simp only[Bool.and_eq_true,beq_iff_eq]at hk
  exact⟨cs',rfl,hk.2,hk.1.symm⟩
 ·cases hk
def Env.new (e:Env) (key b:Nat) (v:Value):Env where
 S:=e.S
 om:=fun b'=>if b'=b then some (key,[])else match e.om b' with
  |some (k,q)=>if k=key then none else some (k,q)
  |none=>none
 E:=fun k=>if k=key then v else e.E k
structure Ext (w w':World):Prop where
 os:w'.os=w.os
 tape:w'.tape=w.tape
 output:w'.output=w.output
 size:w.heap.size≤w'.heap.size
 old : ∀b,b<w.heap.size→w'.heap[b]? = w.heap[b]?
theorem Ext.refl (w:World):Ext w w:=⟨rfl,rfl,rfl,Nat.le_refl _,fun _ _=>rfl⟩
theorem Ext.alloc (w:World) (o:Obj):Ext w (w.alloc o):=⟨rfl,rfl,rfl,by simp,fun b hb=>heap_alloc_old w o b hb⟩
theorem Ext.drew (w:World):Ext w w.drew:=⟨rfl,rfl,rfl,Nat.le_refl _,fun _ _=>rfl⟩
theorem Ext.trans {a b c:World} (h:Ext a b) (k:Ext b c):Ext a c :=
 ⟨k.os.trans h.os,k.tape.trans h.tape,k.output.trans h.output,Nat.le_trans h.size k.size,fun x hx=>(k.old x (Nat.lt_of_lt_of_le hx h.size)).trans (h.old x hx)⟩
theorem c5V (h:HR e hp w) (key:Nat) (v:Value) (x:Nat×Ch) (hv:(hp.get key).1<x.1) (hk:keeps (hp.get key) x=true) (hw:Ext w w') (hlt:w.heap.size<w'.heap.size)
  (hch:ChR (e.new key w.heap.size v) (hp.set key x) w' key x.2) :
  HR (e.new key w.heap.size v) (hp.set key x) w'∧SR e hp w (e.new key w.heap.size v) (hp.set key x) w'∧FrS e hp w (e.new key w.heap.size v) (hp.set key x) w':=by
 have hold : ∀b k q,k≠key→e.om b=some (k,q)→(e.new key w.heap.size v).om b=some (k,q)∧w'.heap[b]? = w.heap[b]? := fun b k q hne hb=>by
  have hlt:=h.oOk b _ hb
  refine⟨?_,hw.old b hlt⟩
  simp only[Env.new]
  rw[if_neg (by omega),hb]
  simp[hne]
 have hsr:SR e hp w (e.new key w.heap.size v) (hp.set key x) w':=by
  refine⟨fun b hb=>⟨hb,hw.old b (h.sOk b hb).2⟩,fun k => ?_⟩
  by_cases hkk:k=key
  ·subst hkk
   refine .bump ?_
   rw[Tr.e8]
   exact hv
  ·exact .same (Tr.j7 _ _ hkk) (by simp[Env.new,hkk]) fun b q hb=>hold b k q hkk hb
 refine⟨h.step hsr (fun k => ?_) (fun b hb => ?_) (fun b y hb => ?_),hsr,⟨hw.os,hw.tape,hw.output,fun _ h => .inl h,hw.size,fun b hb ho=>⟨hw.old b hb,?_⟩,fun b k off n cs arr T h1 h2 h3 h4 h5 => ?_⟩⟩
 ·by_cases hkk:k=key
  ·subst hkk
   right
   rw[Tr.e8]
   exact hch
  ·left
   exact⟨Tr.j7 _ _ hkk,by simp[Env.new,hkk],fun b q hb=>hold b k q hkk hb⟩
 ·have h1:=h.sOk b hb
  refine⟨?_,Nat.lt_of_lt_of_le h1.2 hw.size⟩
  simp only[Env.new]
  rw[if_neg (by omega),h1.1]
 ·simp only[Env.new]at hb
  split at hb
  ·omega
  ·split at hb
   ·rename_i k q ho
    exact Nat.lt_of_lt_of_le (h.oOk b _ ho) hw.size
   ·cases hb
 ·simp only[Env.new]
  rw[if_neg (by omega),ho]
 ·have hkk:k≠key:=by
   rintro rfl
   obtain⟨cs',_,_,h6⟩:=a0F hk h3
   omega
  obtain⟨g1,g2⟩:=hold b k [] hkk h1
  exact⟨g1,by simp[Env.new,hkk],⟨cs,by rw[Tr.j7 _ _ hkk];exact h3,D7 cs⟩,arr,by rw[g2];exact h5,rfl,fun _ _=>rfl⟩
theorem b5A (h:HR e hp w) (key:Nat) (ver:Nat) (cs:List C) (arr:Array Value) (T:Nat) (hv:(hp.get key).1<ver) (hk:keeps (hp.get key) (ver,.var false cs)=true)
  (hc:CRs e hp w arr.toList cs) (h1 : ∀u∈arr.toList,one u) :
  let w':=w.alloc (.cells arr T)
  let v:=Value.pointer (some ⟨w.heap.size,0,none⟩)
  HR (e.new key w.heap.size v) (hp.set key (ver,.var false cs)) w'∧SR e hp w (e.new key w.heap.size v) (hp.set key (ver,.var false cs)) w'∧FrS e hp w (e.new key w.heap.size v) (hp.set key (ver,.var false cs)) w':=by
 intro w' v
 have hw:Ext w w':=Ext.alloc w _
 have hlt:w.heap.size<w'.heap.size:=by simp[w']
 have hsr:SR e hp w (e.new key w.heap.size v) (hp.set key (ver,.var false cs)) w':=by
  refine⟨fun b hb=>⟨hb,hw.old b (h.sOk b hb).2⟩,fun k => ?_⟩
  by_cases hkk:k=key
  ·subst hkk
   exact .bump (by rw[Tr.e8];exact hv)
  ·refine .same (Tr.j7 _ _ hkk) (by simp[Env.new,hkk]) fun b q hb => ?_
   have hlt:=h.oOk b _ hb
   exact⟨by simp only[Env.new];rw[if_neg (by omega),hb];simp[hkk],hw.old b hlt⟩
 refine c5V h key v (ver,.var false cs) hv hk hw hlt ?_
 refine⟨w.heap.size,0,arr,T,by simp[Env.new,v],by simp[Env.new],heap_alloc_new w _,?_,fun j c hj => ?_⟩
 ·have:=hc.length
  simp at this
  omega
 ·obtain⟨u,hu,hcu⟩:=hc.get j hj
  refine⟨u,by simpa using hu,CR.mono hsr.S hsr.k c u hcu,h1 u (List.mem_of_getElem? hu)⟩
end
end Go.Sx
namespace Go.Sx
section
variable {P:Program} {ctx:Ctx} {B:Base} {e:Env} {a:Act} {w:World} {σ : St} {o:Oper} {K:V→Hp→Prop} {next:Act→World→Prop} {Q:Exit→Act→World→Prop} {L:Locks}
def Nx (B:Base) (a:Act) (σ : St) (o:Oper) (K:V→Hp→Prop) (next:Act→World→Prop):Prop :=
 ∀v x hp' e' w',K x hp'→Rel B e' w' (a.put o.dst v).tmps ⟨putV σ.tm o.dst x,hp',σ.up⟩→next (a.put o.dst v) w'
theorem G6 (h:Rel B e w a.tmps σ) (hd : ∀d,o.dst=some d→d<a.tmps.size) (hn:Nx B a σ o K next) {v:Value} {x:V} (hrun:(execOp a.eval o).run P w = .ok (.value v) w)
  (hv:VR e σ.hp w v x) (hK:K x σ.hp):o.wp P a w next Q:=by
 unfold Oper.wp
 rw[hrun,Oper.upon_value]
 exact hn v x σ.hp e w hK (h.a3s hv hd)
theorem c0B (h:Rel B e w a.tmps σ) (hd : ∀d,o.dst=some d→d<a.tmps.size) (hn:Nx B a σ o K next) {v:Value} {x:V} {e':Env} {w':World} {hp':Hp} (hrun:(execOp a.eval o).run P w = .ok (.value v) w')
  (hs:HR e' hp' w'∧SR e σ.hp w e' hp' w'∧FrS e σ.hp w e' hp' w') (hv:VR e' hp' w' v x) (hK:K x hp'):o.wp P a w next Q:=by
 unfold Oper.wp
 rw[hrun,Oper.upon_value]
 exact hn v x hp' e' w' hK (h.put hs.2.1 hs.1 (h.fr.step hs.2.2) hv hd)
theorem R6 {hp:Hp} {v:Value} {k:IntKind} {n:Th Int} (h:VR e hp w v (.one (.att (.int k n)))):v = .int k (n ())∧k.min≤n ()∧n ()≤k.max:=by
 simp only[VR,CR]at h
 cases h.1 with
 |int _ _ h1 h2=>exact⟨rfl,h1,h2⟩
theorem a0w {hp:Hp} {v:Value} {b:SB} (h:VR e hp w v (.one (.att (.bool b)))):v = .bool b.val:=by
 simp only[VR,CR]at h
 cases h.1
 rfl
theorem H4 {hp:Hp} (b:SB):VR e hp w (.bool b.val) (.one (.att (.bool b))):=by
 simp only[VR,CR]
 exact⟨Rep.bool b,rfl⟩
theorem N2 {hp:Hp} (k:IntKind) (n:Th Int) (h:k.min≤n ()∧n ()≤k.max):VR e hp w (.int k (n ())) (.one (.att (.int k n))):=by
 simp only[VR,CR]
 exact⟨Rep.int k n h.1 h.2,rfl⟩
theorem a2o (k:IntKind) (n:Int):k.min≤k.wrap n∧k.wrap n≤k.max:=by
 cases k<;>simp only[IntKind.min,IntKind.max,IntKind.wrap,IntKind.signed,IntKind.bits]<;>simp<;>(try split)<;>omega
theorem c1A (h:Rel B e w a.tmps σ) (hd : ∀d,o.dst=some d→d<a.tmps.size) (hn:Nx B a σ o K next) {x:Operand} (ho:o.op = .move x∨o.op = .assign x) (hK:K (ev σ.tm x) σ.hp):o.wp P a w next Q:=by
 refine G6 h hd hn ?_ (p6 h x) hK
 rcases ho with ho|ho<;>simp[execOp,ho]
theorem d0c (h:Rel B e w a.tmps σ) (hd : ∀d,o.dst=some d→d<a.tmps.size) (hn:Nx B a σ o K next) {c x y:Operand} (ho:o.op = .pick c x y) (hm:(opM ctx σ.tm o).wp L σ.hp K):o.wp P a w next Q:=by
 have hc:=p6 h c
 simp only[opM,ho]at hm
 have go : ∀b:SB,VR e σ.hp w (a.eval c) (.one (.att (.bool b)))→(b.val=true→K (ev σ.tm x) σ.hp)→(b.val=false→K (ev σ.tm y) σ.hp)→o.wp P a w next Q:=by
  intro b hb h1 h2
  have hv:=a0w hb
  cases hbv:b.val with
  |true=>refine G6 h hd hn (v:=a.eval x) ?_ (p6 h x) (h1 hbv);simp[execOp,ho,asBool,hv,hbv]
  |false=>refine G6 h hd hn (v:=a.eval y) ?_ (p6 h y) (h2 hbv);simp[execOp,ho,asBool,hv,hbv]
 split at hm
 ·rename_i hc'
  rw[hc']at hc
  exact go _ hc (fun _=>hm) (fun hf=>by cases hf)
 ·rename_i hc'
  rw[hc']at hc
  exact go _ hc (fun hf=>by cases hf) (fun _=>hm)
 ·rename_i f hc'
  rw[hc']at hc
  exact go _ hc (fun hf=>hm.1 hf) (fun hf=>hm.2 hf)
 ·exact hm.elim
theorem a8y (op:BinOp) (t:TypeId) (x y:Operand) (k k':IntKind) (m n:Int):(eqGuard op t x y (.int k m) (.int k' n)).run P w = .ok () w:=by
 cases op<;>simp[eqGuard]
theorem a1S (op:BinOp) (t:TypeId) (x y:Operand) (m n:Bool):(eqGuard op t x y (.bool m) (.bool n)).run P w = .ok () w:=by
 cases op<;>simp[eqGuard]
theorem c0E (k:IntKind) (m n:Int) (hm:k.min≤m∧m≤k.max):k.min≤m.tmod n∧m.tmod n≤k.max:=by
 by_cases h0:0≤m
 ·have h1:=Int.tmod_nonneg n h0
  have h2:m.tmod n≤m:=by
   rw[Int.tmod_def]
   have:0≤n * m.tdiv n:=by
    by_cases hn:0≤n
    ·exact Int.mul_nonneg hn (Int.tdiv_nonneg h0 hn)
    ·have h3:m.tdiv n≤0:=Int.tdiv_nonpos_of_nonneg_of_nonpos h0 (by omega)
     exact Int.mul_nonneg_of_nonpos_of_nonpos (by omega) h3
   omega
  have:k.min≤0:=by cases k<;>simp[IntKind.min,IntKind.signed,IntKind.bits]
  omega
 ·have h1:(-m).tmod n = -(m.tmod n):=Int.neg_tmod m n
  have h2:=Int.tmod_nonneg n (show 0 ≤ -m by omega)
  have h3:(-m).tmod n ≤ -m:=by
   rw[Int.tmod_def]
   have:0≤n * (-m).tdiv n:=by
    by_cases hn:0≤n
    ·exact Int.mul_nonneg hn (Int.tdiv_nonneg (by omega) hn)
    ·have h3:(-m).tdiv n≤0:=Int.tdiv_nonpos_of_nonneg_of_nonpos (by omega) (by omega)
     exact Int.mul_nonneg_of_nonpos_of_nonpos (by omega) h3
   omega
  have:0≤k.max:=by cases k<;>simp[IntKind.max,IntKind.signed,IntKind.bits]
  omega
theorem d1e (k:IntKind) (m:Int) (c:Nat) (hm:k.min≤m∧m≤k.max):k.min≤m.fdiv (2 ^ c)∧m.fdiv (2 ^ c)≤k.max:=by
 have hp:(0:Int)<2 ^ c:=Int.pow_pos (by decide)
 have h0:k.min≤0:=by cases k<;>simp[IntKind.min,IntKind.signed,IntKind.bits]
 have h1:0≤k.max:=by cases k<;>simp[IntKind.max,IntKind.signed,IntKind.bits]
 rw[Int.fdiv_eq_ediv_of_nonneg _ (by omega)]
 have h2:=Int.ediv_mul_le m (show(2 ^ c:Int)≠0 by omega)
 by_cases hn:0≤m
 ·have h3:0≤m / 2 ^ c:=Int.ediv_nonneg hn (by omega)
  have h4:m / 2 ^ c≤m:=Int.ediv_le_self _ hn
  omega
 ·have h3:m / 2 ^ c≤0:=by
   have:=Int.ediv_neg_of_neg_of_pos (show m<0 by omega) hp
   omega
  have h4:m≤m / 2 ^ c:=by
   have h5:m≤m / 2 ^ c↔m * 2 ^ c≤m:=Int.le_ediv_iff_mul_le hp
   rw[h5]
   have h6:m * 2 ^ c≤m * 1:=Int.mul_le_mul_of_nonpos_left (by omega) (by omega)
   omega
  omega
theorem c6H (h:Rel B e w a.tmps σ) (hd : ∀d,o.dst=some d→d<a.tmps.size) (hn:Nx B a σ o K next) {op:BinOp} {T T':TypeId} {x y:Operand} (ho:o.op = .binOp op T x y T')
  {k k':IntKind} {m n:Th Int} (hx:VR e σ.hp w (a.eval x) (.one (.att (.int k m)))) (hy:VR e σ.hp w (a.eval y) (.one (.att (.int k' n)))) (hkk:op = .shr∨k=k') (hm:(b5d op k m n).wp L σ.hp K):o.wp P a w next Q:=by
 obtain⟨hxv,hx1,hx2⟩:=R6 hx
 obtain⟨hyv,hy1,hy2⟩:=R6 hy
 have hg:=a8y (P:=P) (w:=w) op T x y k k' (m ()) (n ())
 have fin : ∀(v:Value) (z:V),(binOp op T (a.eval x) (a.eval y)).run P w = .ok v w→VR e σ.hp w v z→K z σ.hp→o.wp P a w next Q:=by
  intro v z hr hv hK
  refine G6 h hd hn (v:=v) ?_ hv hK
  rw[hxv,hyv]at hr
  simp[execOp,ho,hxv,hyv,hg,hr]
 cases op<;>simp only[b5d,M.wp]at hm
 case shr =>
  have h0:0≤n ():=hm.1.out
  refine fin (.int k ((m ()).fdiv (2 ^ (min (n ()).toNat k.bits)))) _ ?_ (N2 k (fun _=>(m ()).fdiv (2 ^ (min (n ()).toNat k.bits))) (d1e k _ _ ⟨hx1,hx2⟩)) hm.2
  have : ¬(n ()<0):=by omega
  simp[binOp,hxv,hyv,Op.shift,this]
 all_goals
  obtain rfl:k=k':=by
   rcases hkk with hkk|hkk
   ·cases hkk
   ·exact hkk
 case add=>exact fin _ _ (by simp[binOp,hxv,hyv,Op.intArith]) (N2 k _ (a2o k _)) hm
 case sub=>exact fin _ _ (by simp[binOp,hxv,hyv,Op.intArith]) (N2 k _ (a2o k _)) hm
 case mul=>exact fin _ _ (by simp[binOp,hxv,hyv,Op.intArith]) (N2 k _ (a2o k _)) hm
 case quo =>
  have h0:n ()≠0:=hm.1.out
  exact fin _ _ (by simp[binOp,hxv,hyv,Op.intDiv,h0]) (N2 k _ (a2o k _)) hm.2
 case rem =>
  have h0:n ()≠0:=hm.1.out
  exact fin _ _ (by simp[binOp,hxv,hyv,Op.intDiv,h0]) (N2 k (fun _=>(m ()).tmod (n ())) (c0E k _ _ ⟨hx1,hx2⟩)) hm.2
 case xor=>exact fin _ _ (by simp[binOp,hxv,hyv,Op.intBits]) (N2 k (fun _=>k.wrap _) (a2o k _)) hm
 case eql=>exact fin _ _ (by simp[binOp,hxv,hyv,Op.intCmp];rfl) (H4 (.of fun _=>decide (m ()=n ()))) hm
 case neq=>exact fin _ _ (by simp[binOp,hxv,hyv,Op.intCmp];rfl) (H4 (.of fun _=>decide (m ()≠n ()))) hm
 case lss=>exact fin _ _ (by simp[binOp,hxv,hyv,Op.intCmp];rfl) (H4 (.of fun _=>decide (m ()<n ()))) hm
 case leq=>exact fin _ _ (by simp[binOp,hxv,hyv,Op.intCmp];rfl) (H4 (.of fun _=>decide (m ()≤n ()))) hm
 case gtr=>exact fin _ _ (by simp[binOp,hxv,hyv,Op.intCmp];rfl) (H4 (.of fun _=>decide (n ()<m ()))) hm
 case geq=>exact fin _ _ (by simp[binOp,hxv,hyv,Op.intCmp];rfl) (H4 (.of fun _=>decide (n ()≤m ()))) hm
end
end Go.Sx
namespace Go.Sx
section
variable {P:Program} {ctx:Ctx} {B:Base} {e:Env} {a:Act} {w:World} {σ : St} {o:Oper} {K:V→Hp→Prop} {next:Act→World→Prop} {Q:Exit→Act→World→Prop} {L:Locks}
theorem c1B (h:Rel B e w a.tmps σ) (hd : ∀d,o.dst=some d→d<a.tmps.size) (hn:Nx B a σ o K next) {op:BinOp} {T T':TypeId} {x y:Operand} (ho:o.op = .binOp op T x y T')
  (hT:P.underlying T=some .bool) {m n:SB} (hx:VR e σ.hp w (a.eval x) (.one (.att (.bool m)))) (hy:VR e σ.hp w (a.eval y) (.one (.att (.bool n))))
  (hm:(op = .eql∧K (.one (.att (.bool (.of fun _=>m.val==n.val)))) σ.hp)∨(op = .neq∧K (.one (.att (.bool (.of fun _ => !(m.val==n.val))))) σ.hp)):o.wp P a w next Q:=by
 have hxv:=a0w hx
 have hyv:=a0w hy
 rcases hm with ⟨rfl,hK⟩|⟨rfl,hK⟩
 ·refine G6 h hd hn (v := .bool (m.val==n.val)) ?_ (H4 (.of fun _=>m.val==n.val)) hK
  have hr:(binOp .eql T (.bool m.val) (.bool n.val)).run P w = .ok (.bool (m.val==n.val)) w:=by
   simp only[binOp]
   simp[Op.equal,Op.maxDepth,run_equalIn_bool' w 9999 T _ _ hT]
  simp[execOp,ho,hxv,hyv,a1S,hr]
 ·refine G6 h hd hn (v := .bool (!(m.val==n.val))) ?_ (H4 (.of fun _ => !(m.val==n.val))) hK
  have hr:(binOp .neq T (.bool m.val) (.bool n.val)).run P w = .ok (.bool (!(m.val==n.val))) w:=by
   simp only[binOp]
   simp[Op.equal,Op.maxDepth,run_equalIn_bool' w 9999 T _ _ hT]
  simp[execOp,ho,hxv,hyv,a1S,hr]
theorem d2v (h:Rel B e w a.tmps σ) (hd : ∀d,o.dst=some d→d<a.tmps.size) (hn:Nx B a σ o K next) {T:TypeId} {x:Operand} (ho:o.op = .unOp .not T x) {b:SB} (hx:VR e σ.hp w (a.eval x) (.one (.att (.bool b))))
  (hK:K (.one (.att (.bool (c7w b)))) σ.hp):o.wp P a w next Q:=by
 have hxv:=a0w hx
 have hb:(c7w b).val = !b.val:=by cases b<;>rfl
 refine G6 h hd hn (v := .bool (!b.val)) ?_ (by rw[←hb];exact H4 _) hK
 simp[execOp,ho,hxv,Op.unary]
theorem d2w (h:Rel B e w a.tmps σ) (hd : ∀d,o.dst=some d→d<a.tmps.size) (hn:Nx B a σ o K next) {T:TypeId} {x:Operand} (ho:o.op = .unOp .neg T x) {k:IntKind} {n:Th Int} (hx:VR e σ.hp w (a.eval x) (.one (.att (.int k n))))
  (hK:K (.one (.att (.int k fun _=>k.wrap (0-n ())))) σ.hp):o.wp P a w next Q:=by
 obtain⟨hxv,_⟩:=R6 hx
 refine G6 h hd hn (v := .int k (k.wrap (0-n ()))) ?_ (N2 k (fun _=>k.wrap (0-n ())) (a2o k _)) hK
 simp[execOp,ho,hxv,Op.unary,Op.intArith]
theorem d0f (h:Rel B e w a.tmps σ) (hd : ∀d,o.dst=some d→d<a.tmps.size) (hn:Nx B a σ o K next) {S T:TypeId} {x:Operand} (ho:o.op = .convert S T x) {k k':IntKind} {n:Th Int} {d:TypeDesc}
  (hS:P.underlying S=some d) (hT:P.underlying T=some (.int k)) (hx:VR e σ.hp w (a.eval x) (.one (.att (.int k' n)))) (hK:K (.one (.att (.int k fun _=>k.wrap (n ())))) σ.hp):o.wp P a w next Q:=by
 obtain⟨hxv,_⟩:=R6 hx
 refine G6 h hd hn (v := .int k (k.wrap (n ()))) ?_ (N2 k (fun _=>k.wrap (n ())) (a2o k _)) hK
 simp[execOp,ho,hxv,convert,run_underlying hS,run_underlying hT,Conv.intToInt]
theorem b9d (h:Rel B e w a.tmps σ) (hd : ∀d,o.dst=some d→d<a.tmps.size) (hn:Nx B a σ o K next) {x:Operand} {i:Nat} (ho:o.op = .extract x i) {vs:List V} {v:V} (hx:VR e σ.hp w (a.eval x) (.tup vs))
  (hv:vs[i]? = some v) (hK:K v σ.hp):o.wp P a w next Q:=by
 simp only[VR]at hx
 obtain⟨arr,h1,h2⟩:=hx
 obtain⟨u,hu,hvu⟩:=h2.get i hv
 refine G6 h hd hn (v:=u) ?_ hvu hK
 have:arr[i]? = some u:=by simpa using hu
 simp[execOp,ho,h1,Instr.extract,this]
theorem d0e (h:Rel B e w a.tmps σ) (hd : ∀d,o.dst=some d→d<a.tmps.size) (hn:Nx B a σ o K next) {f:Nat} {cap:Array Operand} (ho:o.op = .makeFunc (.func f) #[] cap)
  (hc:CRs e σ.hp w (cap.toList.map a.eval) (cap.toList.flatMap fun x=>(ev σ.tm x).cells)) (hK:K (.one (.fn f (cap.toList.flatMap fun x=>(ev σ.tm x).cells))) σ.hp):o.wp P a w next Q:=by
 refine G6 h hd hn (v := .func (.func f) #[] (cap.map a.eval)) ?_ ?_ hK
 ·simp[execOp,ho,Instr.makeFunc]
 ·simp only[VR,CR]
  exact⟨⟨_,rfl,by simpa using hc⟩,rfl⟩
structure TyFacts (P:Program) (T:Nat) (i:TyI) (inf:TypeInfo) (z:Value) (d:TypeDesc):Prop where
 info:P.info? T=some inf
 size:inf.size=i.cells
 bytes:inf.bytes=i.bytes
 zero:inf.zero=some z
 zeroOk:a4v i.zero z.cells.toList=true
 zsize:z.cells.size=i.cells
 und:P.underlying T=some d
 desc:X0 P d i.d=true
 rt : ∀t,i.rt=some t→t.size=i.cells∧t.bytes=i.bytes∧a1y t.shape i.zero=true∧t.O8=false
 eq:i.eq=true→eqTy P 12 T=some (i.zero.map ZC.isInt)∧P.eqGuardType P.depth T=false
 fts:i.fts ≠ [] → ∃fs,d = .struct fs∧(fs.toList.map fun f=>f.type)=i.fts
theorem N6 {T:Nat} {i:TyI} (h:a3h P T i=true) : ∃inf z d,TyFacts P T i inf z d:=by
 unfold a3h at h
 split at h
 ·rename_i inf d h1 h2
  simp only[Bool.and_eq_true,beq_iff_eq]at h
  obtain⟨⟨⟨⟨⟨⟨a1,a2⟩,a3⟩,a4⟩,a5⟩,a6⟩,a7⟩:=h
  split at a3
  ·rename_i z hz
   simp only[Bool.and_eq_true,beq_iff_eq]at a3
   refine⟨inf,z,d,h1,a1,a2,hz,a3.1,a3.2,h2,a4,fun t ht => ?_,fun he => ?_,fun hf => ?_⟩
   ·rw[ht]at a5
    simp only[Bool.and_eq_true,beq_iff_eq,Bool.not_eq_true']at a5
    exact⟨a5.1.1.1,a5.1.1.2,a5.1.2,a5.2⟩
   ·rw[he]at a6
    simp only[Bool.not_true,Bool.false_or,Bool.and_eq_true,beq_iff_eq,Bool.not_eq_true']at a6
    exact a6
   ·simp only[Bool.or_eq_true,beq_iff_eq]at a7
    rcases a7 with a7|a7
    ·exact absurd a7 hf
    ·split at a7
     ·rename_i fs
      exact⟨fs,rfl,by simpa using a7⟩
     ·cases a7
  ·cases a3
 ·cases h
theorem a3N {i:TyI} {d:TypeDesc} {offs:List (Nat×Nat)} (h:X0 P d i.d=true) (hi:i.d = .struct offs) : ∃fs,d = .struct fs∧(fs.toList.map fun f=>(f.offset,P.cellsOf f.type))=offs ∧ ∀f∈fs.toList,∃j,P.info? f.type=some j∧j.size≠0:=by
 rw[hi]at h
 cases d<;>simp only[X0]at h
 case struct fs =>
  simp only[Bool.and_eq_true,beq_iff_eq]at h
  refine⟨fs,rfl,h.1,fun f hf => ?_⟩
  have:=List.all_eq_true.1 h.2 f hf
  split at this
  ·rename_i j hj
   exact⟨j,hj,by simpa using this⟩
  ·cases this
 all_goals cases h
theorem b1c {i:TyI} {d:TypeDesc} {E:Nat} (h:X0 P d i.d=true) (hi:i.d = .slice E):d = .slice E:=by
 rw[hi]at h
 cases d<;>simp[X0]at h
 rw[h]
theorem c8A {i:TyI} {d:TypeDesc} {k:IntKind} (h:X0 P d i.d=true) (hi:i.d = .int k):d = .int k:=by
 rw[hi]at h
 cases d<;>simp[X0]at h
 rw[h]
def aggD:TypeDesc→Bool
 | .struct _=>true
 | .array _ _=>true
 |_=>false
theorem b1d {i:TyI} {d:TypeDesc} (h:X0 P d i.d=true):aggD d=W0 i.d:=by
 generalize i.d=x at h
 cases d<;>cases x<;>simp[X0,W0,aggD]at h ⊢
theorem TyOk.get {ty:Tr TyI} (h:TyOk P ty) {T:Nat} (hne:(ty.get T).d ≠ .other):a3h P T (ty.get T)=true:=by
 rcases h T with h|h
 ·rw[h]at hne
  exact(hne rfl).elim
 ·exact h
theorem v7 (b off n:Nat):(⟨b,off,none⟩:Addr).add n=⟨b,off+n,none⟩:=by
 unfold Addr.add
 split
 ·rename_i h;simp[h]
 ·rfl
theorem b6l {T f off n b o0:Nat} {offs:List (Nat×Nat)} {i:TyI} (ht:a3h P T i=true) (hi:i.d = .struct offs) (hf:offs[f]? = some (off,n)) :
  (Instr.fieldAt T (.pointer (some ⟨b,o0,none⟩)) f).run P w = .ok (.pointer (some ⟨b,o0+off,none⟩)) w:=by
 obtain⟨inf,z,d,F⟩:=N6 ht
 obtain⟨fs,rfl,h1,h2⟩:=a3N F.desc hi
 have hf':(fs.toList.map fun f=>(f.offset,P.cellsOf f.type))[f]? = some (off,n):=by rw[h1];exact hf
 rw[List.getElem?_map]at hf'
 cases hfl:fs.toList[f]? with
 |none=>rw[hfl]at hf';cases hf'
 |some fl =>
  rw[hfl]at hf'
  simp only[Option.map_some,Option.some.injEq,Prod.mk.injEq]at hf'
  replace hf':=hf'.1
  obtain⟨j,hj,hj0⟩:=h2 fl (List.mem_of_getElem? hfl)
  have hfl':fs[f]? = some fl:=by simpa using hfl
  simp[Instr.fieldAt,run_underlying F.und,hfl',Instr.sureAddr,fieldPlace,sizeOf,typeInfo,hj,hj0,v7,hf']
theorem c5j {hp:Hp} {k:Nat} {dp:Bool} {g:Nat} {t:RT} {l:Th (List t.ty)} (h:ChR e hp w k (.row dp g t l)):(e.E k = .slice none 0 0∧l () = []) ∨ ∃(b cap:Nat) (cs:Array Value) (T:Nat) (vs:Nat→Nat→Value) (as:Nat→Nat→A),RowM w t (l ()) (e.E k) b cap cs T vs as∧e.om b=some (k,[]):=by
 cases dp with
 |true =>
  rcases OwnA.list h with h|⟨b,cap,cs,T,vs,as,h1,h2,_⟩
  ·exact .inl h
  ·exact .inr ⟨b,cap,cs,T,vs,as,h1,h2⟩
 |false =>
  rcases h with h|⟨b,cap,cs,T,vs,as,h1,h2,_⟩
  ·exact .inl h
  ·exact .inr ⟨b,cap,cs,T,vs,as,h1,h2⟩
theorem b7l {hp:Hp} {k ver j:Nat} {v:Value} (h:CR e hp w v (.ptr k ver j)) (hl:ver=(hp.get k).1) : ∃b off,e.E k = .pointer (some ⟨b,off,none⟩)∧v = .pointer (some ⟨b,off+j,none⟩):=by
 simp only[CR]at h
 exact h.2 hl.symm
theorem c1R {hp:Hp} {k ver g j:Nat} {pre:List (Th Int×Nat)} {i:Th Int} {v:Value} (h:CR e hp w v (.pp k ver g pre i j)) {m:M V} {L:Locks} {K:V→Hp→Prop}
  (hl:(b0s (.pp k ver g pre i j) m).wp L hp K):m.wp L hp K ∧ ∃b o0,v = .pointer (some ⟨b,o0+j,none⟩) ∧ ∀j',CR e hp w (.pointer (some ⟨b,o0+j',none⟩)) (.pp k ver g pre i j'):=by
 simp only[b0s]at hl
 have hl:=M.u4 hl
 simp only[CR]at h
 cases hx:(hp.get k)with
 |mk v' ch =>
  rw[hx]at hl h
  simp only at h
  have root:pre = []→ver=v'→(∃sz,ch.size? = some sz) → ∃b o0,v = .pointer (some ⟨b,o0+j,none⟩) ∧ ∀j',CR e hp w (.pointer (some ⟨b,o0+j',none⟩)) (.pp k ver g pre i j'):=by
   intro hp0 hv ⟨sz,hsz⟩
   subst hp0
   obtain⟨b,len,cap,h1,h2,h3,h4⟩:=h.2 hv.symm
   refine⟨b,(i ()).toNat * sz,h4 sz hsz,fun j' => ?_⟩
   simp only[CR]
   rw[hx]
   refine⟨h.1,fun _=>⟨b,len,cap,h1,h2,h3,fun sz' hsz' => ?_⟩⟩
   simp only at hsz'
   rw[hsz]at hsz'
   cases hsz'
   rfl
  cases ch with
  |row dp g' t l =>
   simp only at hl
   obtain⟨hb,hm⟩:=M.p4 hl
   simp only[Bool.and_eq_true,beq_iff_eq,Bool.or_eq_true,List.isEmpty_iff]at hb
   refine⟨hm,?_⟩
   cases pre with
   |nil=>exact root rfl hb.1 ⟨_,rfl⟩
   |cons x r =>
    rcases hb.2 with hb2|⟨hg,hdp⟩
    ·cases hb2
    ·subst hg;subst hdp
     obtain⟨h1,h2⟩:=h.2 hb.1.symm
     obtain⟨t2,l2,b,cap,g1,g2,g3,g4,g5⟩:=h2 t l rfl
     refine⟨b,(i ()).toNat * t2.size,g5,fun j' => ?_⟩
     simp only[CR]
     rw[hx]
     refine⟨h.1,fun _=>⟨h1,fun t' l' hr => ?_⟩⟩
     simp only[Ch.row.injEq,true_and]at hr
     obtain⟨rfl,hr⟩:=hr
     cases hr
     exact⟨t2,l2,b,cap,g1,g2,g3,g4,rfl⟩
  |hole g' t l pre' i' j' =>
   simp only at hl
   obtain⟨hb,hm⟩:=M.p4 hl
   simp only[Bool.and_eq_true,beq_iff_eq,List.isEmpty_iff]at hb
   exact⟨hm,root hb.2 hb.1 ⟨_,rfl⟩⟩
  |ro t l =>
   simp only at hl
   obtain⟨hb,hm⟩:=M.p4 hl
   simp only[Bool.and_eq_true,beq_iff_eq,List.isEmpty_iff]at hb
   exact⟨hm,root hb.2 hb.1 ⟨_,rfl⟩⟩
  |var bx cs=>simp only[M.wp]at hl
  |dead=>simp only[M.wp]at hl
theorem b4m (h:Rel B e w a.tmps σ) (hd : ∀d,o.dst=some d→d<a.tmps.size) (hn:Nx B a σ o K next) (hty:TyOk P ctx.ty) {T:TypeId} {x:Operand} {f:Nat} (ho:o.op = .fieldAddr T x f) (hm:(opM ctx σ.tm o).wp L σ.hp K):o.wp P a w next Q:=by
 have hx:=p6 h x
 simp only[opM,ho]at hm
 split at hm
 ·rename_i offs hdd
  have hT:=hty.get (T:=T) (by rw[hdd];simp)
  split at hm
  ·rename_i off noff c hof hc
   rw[hc]at hx
   simp only[VR]at hx
   replace hx:=hx.1
   have fin : ∀(b o0:Nat) (z:C),a.eval x = .pointer (some ⟨b,o0,none⟩)→CR e σ.hp w (.pointer (some ⟨b,o0+off,none⟩)) z→K (.one z) σ.hp→o.wp P a w next Q:=by
    intro b o0 z hv hz hK
    refine G6 h hd hn (v := .pointer (some ⟨b,o0+off,none⟩)) ?_ (by simp only[VR];exact⟨hz,y8.D5 rfl⟩) hK
    simp[execOp,ho,hv,b6l (P:=P) (w:=w) (b:=b) (o0:=o0) hT hdd hof]
   split at hm
   ·rename_i k v j
    simp only[b0s]at hm
    obtain⟨hb,hm⟩:=M.p4 (M.u4 hm)
    simp only[beq_iff_eq]at hb
    obtain⟨b,o0,h1,h2⟩:=b7l hx hb
    refine fin b (o0+j) _ h2 ?_ hm
    simp only[CR]at hx ⊢
    exact⟨hx.1,fun _=>⟨b,o0,h1,by rw[Nat.add_assoc]⟩⟩
   ·rename_i k v g pre i j
    obtain⟨hm,b,o0,h1,h2⟩:=c1R hx hm
    refine fin b (o0+j) _ h1 ?_ hm
    rw[Nat.add_assoc]
    exact h2 (j+off)
   ·rename_i t l i j
    simp only[CR]at hx
    obtain⟨b,o0,cap,h1,h2,h3,h4⟩:=hx
    refine fin b (o0+(i ()).toNat * t.size+j) _ h4 ?_ hm
    simp only[CR]
    exact⟨b,o0,cap,h1,h2,h3,by rw[Nat.add_assoc]⟩
   ·exact hm.elim
  ·exact hm.elim
 ·exact hm.elim
theorem b6G (h:Rel B e w a.tmps σ) (hd : ∀d,o.dst=some d→d<a.tmps.size) (hn:Nx B a σ o K next) {x:Operand} (ho:o.op = .nilCheck x) (hm:(opM ctx σ.tm o).wp L σ.hp K):o.wp P a w next Q:=by
 have hx:=p6 h x
 simp only[opM,ho]at hm
 split at hm
 ·rename_i c hc
  rw[hc]at hx
  have fin:(∃q,a.eval x = .pointer (some q))→K (.one c) σ.hp→o.wp P a w next Q:=by
   intro⟨q,hq⟩ hK
   refine G6 h hd hn (v:=a.eval x) ?_ hx hK
   simp[execOp,ho,hq]
  simp only[VR]at hx
  replace hx:=hx.1
  cases c with
  |ptr k v j =>
   simp only[b0s]at hm
   obtain⟨hb,hm⟩:=M.p4 (M.u4 hm)
   simp only[beq_iff_eq]at hb
   obtain⟨b,o0,h1,h2⟩:=b7l hx hb
   exact fin ⟨_,h2⟩ hm
  |pp k v g pre i j =>
   obtain⟨hm,b,o0,h1,h2⟩:=c1R hx hm
   exact fin ⟨_,h1⟩ hm
  |rptr t l i j =>
   simp only[CR]at hx
   obtain⟨b,o0,cap,h1,h2,h3,h4⟩:=hx
   exact fin ⟨_,h4⟩ hm
  |fn f caps =>
   simp only[CR]at hx
   obtain⟨vs,h1,h2⟩:=hx
   refine G6 h hd hn (v:=a.eval x) ?_ (by simp only[VR,CR];exact⟨⟨vs,h1,h2⟩,by rw[h1];rfl⟩) hm
   simp[execOp,ho,h1]
  |_=>exact hm.elim
 ·exact hm.elim
end
end Go.Sx
