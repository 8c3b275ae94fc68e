/-
  The symbolic state and the operations: tries, cells, values, own chunks, the free monad of heap steps, what each operation does.
-/
import Derived.Test.YtiioognflecdgaaGreatS0a
import GoSem.Core.Code
import GoSem.Core.Layout
set_option linter.unusedVariables false
set_option linter.unusedSimpArgs false
namespace Go.Sx
inductive Tr (α : Type) where
 |leaf
 |node (v : α) (l r:Tr α)
section
variable {α : Type} [Inhabited α]
def Tr.get:Tr α → Nat → α
 | .leaf,_=>default
 | .node v l r,k=>match k with
  | 0=>v
  |k+1=>if k%2=0 then l.get (k / 2)else r.get (k / 2)
def Tr.val:Tr α → α
 | .leaf=>default
 | .node v _ _=>v
def Tr.lt:Tr α → Tr α
 | .leaf => .leaf
 | .node _ l _=>l
def Tr.rt:Tr α → Tr α
 | .leaf => .leaf
 | .node _ _ r=>r
def Tr.setF:Nat→Tr α → Nat → α → Tr α
 | 0,t,_,v => .node v t.lt t.rt
 |n+1,t,k,v=>match k with
  | 0 => .node v t.lt t.rt
  |k+1=>if k%2=0 then .node t.val (Tr.setF n t.lt (k / 2) v) t.rt else .node t.val t.lt (Tr.setF n t.rt (k / 2) v)
def Tr.set (t:Tr α) (k:Nat) (v : α):Tr α := Tr.setF k t k v
theorem Tr.a3K (t:Tr α):t.get 0=t.val:=by cases t<;>rfl
theorem Tr.P6 (t:Tr α) (k:Nat):t.get (k+1)=if k%2=0 then t.lt.get (k / 2)else t.rt.get (k / 2):=by
 cases t
 ·simp[Tr.get,Tr.lt,Tr.rt]
 ·rfl
theorem Tr.c8m (n:Nat) : ∀(t:Tr α) (k:Nat) (v : α) (j:Nat),k≤n→(Tr.setF n t k v).get j=if j=k then v else t.get j:=by
 induction n with
 |zero =>
  intro t k v j hk
  obtain rfl:k=0:=by omega
  cases j with
  |zero=>rfl
  |succ j=>rw[Tr.P6,Tr.P6];simp[Tr.setF,Tr.lt,Tr.rt]
 |succ n ih =>
  intro t k v j hk
  cases k with
  |zero =>
   cases j with
   |zero=>rfl
   |succ j=>rw[Tr.P6,Tr.P6];simp[Tr.setF,Tr.lt,Tr.rt]
  |succ k =>
   have hk':k / 2≤n:=by omega
   cases j with
   |zero =>
    simp only[Tr.setF]
    split<;>simp[Tr.a3K,Tr.val]
   |succ j =>
    rw[Tr.P6,Tr.P6]
    simp only[Tr.setF]
    by_cases hp:k%2=0
    ·simp only[hp,if_true,Tr.lt,Tr.rt]
     by_cases hj:j%2=0
     ·simp only[hj,if_true]
      rw[ih _ _ _ _ hk']
      by_cases e:j=k
      ·subst e;simp
      ·have:j / 2≠k / 2:=by omega
       rw[if_neg this,if_neg (by omega)]
     ·simp only[hj,if_false]
      rw[if_neg (by omega)]
    ·simp only[hp,if_false,Tr.lt,Tr.rt]
     by_cases hj:j%2=0
     ·simp only[hj,if_true]
      rw[if_neg (by omega)]
     ·simp only[hj,if_false]
      rw[ih _ _ _ _ hk']
      by_cases e:j=k
      ·subst e;simp
      ·have:j / 2≠k / 2:=by omega
       rw[if_neg this,if_neg (by omega)]
theorem Tr.W4 (t:Tr α) (k:Nat) (v : α) (j:Nat):(t.set k v).get j=if j=k then v else t.get j:=Tr.c8m k t k v j (Nat.le_refl _)
theorem Tr.e8 (t:Tr α) (k:Nat) (v : α):(t.set k v).get k=v:=by simp[Tr.W4]
theorem Tr.j7 (t:Tr α) {k j:Nat} (v : α) (h:j≠k):(t.set k v).get j=t.get j:=by simp[Tr.W4,h]
theorem Tr.c3j (n m:Nat) : ∀(t:Tr α) (k j:Nat) (v u : α),k≤n→j≤m→k≠j→Tr.setF n (Tr.setF m t j u) k v=Tr.setF m (Tr.setF n t k v) j u:=by
 induction n generalizing m with
 |zero =>
  intro t k j v u hk hj hne
  obtain rfl:k=0:=by omega
  cases m with
  |zero=>omega
  |succ m =>
   cases j with
   |zero=>omega
   |succ j=>simp only[Tr.setF];split<;>simp[Tr.lt,Tr.rt,Tr.val]
 |succ n ih =>
  intro t k j v u hk hj hne
  cases k with
  |zero =>
   cases m with
   |zero=>omega
   |succ m =>
    cases j with
    |zero=>omega
    |succ j=>simp only[Tr.setF];split<;>simp[Tr.lt,Tr.rt,Tr.val]
  |succ k =>
   cases m with
   |zero =>
    obtain rfl:j=0:=by omega
    simp only[Tr.setF];split<;>simp[Tr.lt,Tr.rt,Tr.val]
   |succ m =>
    cases j with
    |zero=>simp only[Tr.setF];split<;>simp[Tr.lt,Tr.rt,Tr.val]
    |succ j =>
     simp only[Tr.setF]
     by_cases hp:k%2=0<;>by_cases hq:j%2=0<;>simp only[hp,hq,if_true,if_false,Tr.lt,Tr.rt,Tr.val]
     ·rw[ih m _ _ _ _ _ (by omega) (by omega) (by omega)]
     ·rw[ih m _ _ _ _ _ (by omega) (by omega) (by omega)]
theorem Tr.set_comm (t:Tr α) {k j:Nat} (v u : α) (h:k≠j):(t.set j u).set k v=(t.set k v).set j u :=
 Tr.c3j k j t k j v u (Nat.le_refl _) (Nat.le_refl _) h
end
inductive C where
 |att (a:A)
 |nil
 |own (k v:Nat)
 |pref (k v g:Nat) (pre:List (Th Int×Nat)) (i:Th Int) (j:Nat)
 |ptr (k v j:Nat)
 |pp (k v g:Nat) (pre:List (Th Int×Nat)) (i:Th Int) (j:Nat)
 |rptr (t:RT) (l:Th (List t.ty)) (i:Th Int) (j:Nat)
 |fn (f:Nat) (caps:List C)
 |ownd (t:RT) (l:Th (List t.ty))
 |box (cs:List C)
 |unk
 deriving Inhabited
inductive V where
 |one (c:C)
 |agg (cs:List C)
 |tup (vs:List V)
instance:Inhabited V:=⟨.one .unk⟩
inductive Ch where
 |var (bx:Bool) (cs:List C)
 |row (dp:Bool) (g:Nat) (t:RT) (l:Th (List t.ty))
 |hole (g:Nat) (t:RT) (l:Th (List t.ty)) (pre:List (Th Int×Nat)) (i:Th Int) (j:Nat)
 |ro (t:RT) (l:Th (List t.ty))
 |dead
instance:Inhabited Ch:=⟨.dead⟩
abbrev Hp:=Tr (Nat×Ch)
inductive M (α : Type):Type 1 where
 |ret (a : α)
 |get (k:Nat) (f:Nat×Ch→M α)
 |set (k:Nat) (e:Nat×Ch) (m:M α)
 |asrt (p:Th Prop) (m:M α)
 |asm (p:Th Prop) (m:M α)
 |all (β : Type) (f : β → M α)
 |fork (b:Th Bool) (t e:M α)
 |fail
def M.bind {α β : Type}:M α → (α → M β)→M β
 | .ret a,f=>f a
 | .get k g,f => .get k fun e=>(g e).bind f
 | .set k e m,f => .set k e (m.bind f)
 | .asrt p m,f => .asrt p (m.bind f)
 | .asm p m,f => .asm p (m.bind f)
 | .all γ g,f => .all γ fun x=>(g x).bind f
 | .fork b t e,f => .fork b (t.bind f) (e.bind f)
 | .fail,_ => .fail
structure Locks where
 rd:List Nat
 fl:List Nat
def C.isB:C→Bool
 | .att (.list .byte _)=>true
 |_=>false
def X4:List C→List C→Bool
 |[],[]=>true
 |c::cs,d::ds=>(!c.isB||d.isB)&&X4 cs ds
 |_,_=>false
def keeps (o n:Nat×Ch):Bool :=
 match o with
 |(v,.var true cs)=>match n with
  |(v',.var true cs')=>v==v'&&X4 cs cs'
  |_=>false
 |_=>match n with
  |(_,.var true _)=>false
  |_=>true
inductive Ob (p:Th Prop):Prop where
 |mk (h:p ()):Ob p
theorem Ob.out {p:Th Prop} (h:Ob p):p ():=let ⟨h⟩:=h;h
def M.wp {α : Type}:M α → Locks→Hp→(α → Hp→Prop)→Prop
 | .ret a,_,h,K=>K a h
 | .get k f,L,h,K=>if L.fl.contains k then False else(f (h.get k)).wp L h K
 | .set k e m,L,h,K=>if L.rd.contains k then False else if L.fl.contains k then False else if keeps (h.get k) e then m.wp L (h.set k e) K else False
 | .asrt p m,L,h,K=>Ob p∧m.wp L h K
 | .asm p m,L,h,K=>p ()→m.wp L h K
 | .all β f,L,h,K => ∀x : β,(f x).wp L h K
 | .fork b t e,L,h,K=>(b ()=true→t.wp L h K)∧(b ()=false→e.wp L h K)
 | .fail,_,_,_=>False
inductive ZC where
 |int (k:IntKind)|bool|slice|other
inductive TyD where
 |int (k:IntKind)
 |bool
 |struct (offs:List (Nat×Nat))
 |slice (elem:Nat)
 |ptr (elem:Nat)
 |other
def W0:TyD→Bool
 | .struct _=>true
 |_=>false
structure TyI where
 d:TyD
 cells:Nat
 bytes:Nat
 zero:List ZC
 rt:Option RT
 eq:Bool
 fts:List Nat
instance:Inhabited TyI:=⟨⟨.other,0,0,[],none,false,[]⟩⟩
def ZC.isInt:ZC→Bool
 | .int _=>true
 |_=>false
def C.isInt:C→Bool
 | .att (.int _ _)=>true
 |_=>false
def ZC.c:ZC→C
 | .int k => .att (.int k fun _=>0)
 | .bool => .att (.bool .ff)
 | .slice => .nil
 | .other => .unk
inductive Rn (α : Type):Type 1 where
 |ret (a : α)
 |asrt (p:Th Prop) (m:Rn α)
 |asm (p:Th Prop) (m:Rn α)
 |all (β : Type) (f : β → Rn α)
 |fork (b:Th Bool) (t e:Rn α)
 |fail
def Rn.wp {α : Type}:Rn α → (α → Prop)→Prop
 | .ret a,K=>K a
 | .asrt p m,K=>Ob p∧m.wp K
 | .asm p m,K=>p ()→m.wp K
 | .all β f,K => ∀x : β,(f x).wp K
 | .fork b t e,K=>(b ()=true→t.wp K)∧(b ()=false→e.wp K)
 | .fail,_=>False
def Rn.lift {α : Type}:Rn α → M α
 | .ret a => .ret a
 | .asrt p m => .asrt p m.lift
 | .asm p m => .asm p m.lift
 | .all β f => .all β fun x=>(f x).lift
 | .fork b t e => .fork b t.lift e.lift
 | .fail => .fail
theorem Rn.a1r {α : Type} : ∀(m:Rn α) (L:Locks) (h:Hp) (K : α → Hp→Prop),(m.lift).wp L h K↔m.wp fun a=>K a h
 | .ret a,_,_,_=>Iff.rfl
 | .asrt p m,L,h,K=>by simp only[Rn.lift,M.wp,Rn.wp,Rn.a1r m L h K]
 | .asm p m,L,h,K=>by simp only[Rn.lift,M.wp,Rn.wp,Rn.a1r m L h K]
 | .all β f,L,h,K=>by simp only[Rn.lift,M.wp,Rn.wp,fun x=>Rn.a1r (f x) L h K]
 | .fork b t e,L,h,K=>by simp only[Rn.lift,M.wp,Rn.wp,Rn.a1r t L h K,Rn.a1r e L h K]
 | .fail,_,_,_=>Iff.rfl
def RT.bytes:RT→Nat
 | .byte=>1
 | .int=>8
 | .wlk=>40
 | .pcl=>64
 | .pcls=>24
 | .ints=>24
 | .rcd=>128
 | .cll=>112
 | .sto=>144
 | .hld=>128
 | .gst=>56
 | .msg=>200
 | .srv=>56
 | .row=>80
 | .note=>24
 | .evt=>40
 | .ow=>48
 | .wld=>184
 | .long=>0
 | .longs=>0
 | .lcll=>0
 | .lsto=>0
 | .lhld=>0
inductive PT where
 |int (k:IntKind)|bool|row (t:RT)|map|ord|arb|one|book|list (t:RT)
 deriving DecidableEq,Inhabited
abbrev PT.ty:PT→Type
 | .int _=>Int
 | .bool=>Bool
 | .row t=>t.ty
 | .map=>PMap
 | .ord=>Ord
 | .arb=>Arb
 | .one=>One
 | .book=>List Row
 | .list t=>List t.ty
def PT.encA:(p:PT)→Th p.ty→List A
 | .int k,e => [.int k e]
 | .bool,e => [.bool (.of e)]
 | .row t,e=>enc t e
 | .map,e=>b0Y e
 | .ord,e=>b0W e
 | .arb,e=>b1a e
 | .one,e=>b0X e
 | .book,e => [.list .row e]
 | .list t,e => [.list t e]
def PT.decA:(p:PT)→List A→Option (Th p.ty)
 | .int k,l=>match l with
  |[.int k' e]=>if k'=k then some e else none
  |_=>none
 | .bool,l=>match l with
  |[.bool b]=>some fun _=>b.val
  |_=>none
 | .row t,l=>dec t l
 | .map,l=>c0h l
 | .ord,l=>c0f l
 | .arb,l=>c0i l
 | .one,l=>c0g l
 | .book,l=>match l with
  |[.list .row e]=>some e
  |_=>none
 | .list t,l=>match l with
  |[.list t' e]=>if h:t'=t then some (h▸e)else none
  |_=>none
def PT.isAgg:PT→Bool
 | .int _=>false
 | .bool=>false
 | .list _=>false
 |_=>true
def PT.nils:PT→List (Option RT)
 | .int _ => [none]
 | .bool => [none]
 | .row t=>match t with
  | .cll => [none,some .wlk,none,some .pcls,some .int,some .int]
  | .sto => [none,none,some .wlk,none,some .pcls,some .int,some .int,some .rcd]
  | .hld => [none,none,none,some .wlk,none,some .pcls,some .int,some .int]
  | .srv => [none,some .hld,some .gst]
  | .wld => [none,none,some .srv,some .sto,some .int,some .int,some .row,some .msg,some .note]
  | .lcll => [none,some .long,none,some .longs,some .long,some .long]
  | .lsto => [none,none,some .long,none,some .longs,some .long,some .long,some .long]
  | .lhld => [none,none,none,some .long,none,some .longs,some .long,some .long]
  |_ => []
 | .arb => [some .int,some .int]
 | .one => [none,none,some .ow,some .int,some .ints]
 | .book => [some .row]
 | .list t => [some t]
 |_ => []
def PT.enc (p:PT) (e:Th p.ty):V :=
 match p.isAgg with
 |true => .agg ((p.encA e).map C.att)
 |false=>match(p.encA e).map C.att with
  |[c] => .one c
  |_ => .tup []
def d1O:A→A
 | .bool b => .bool (.of fun _=>b.val)
 |a=>a
def outA (keep:Bool):A→C
 | .list t l=>if keep then .ownd t l else .att (.list t l)
 |a => .att a
def PT.out (keep:Bool) (p:PT) (e:Th p.ty):V :=
 match p.isAgg with
 |true => .agg ((p.encA e).map (outA keep))
 |false=>match(p.encA e).map (outA keep)with
  |[c] => .one c
  |_ => .tup []
theorem PT.a4u (p:PT) (l:List A) (e:Th p.ty) (h:p.decA l=some e):Same l (p.encA e):=by
 cases p with
 |int k =>
  simp only[PT.decA]at h
  split at h
  ·rename_i k' e'
   split at h
   ·rename_i hk;subst hk;cases h;exact Same.refl _
   ·cases h
  ·cases h
 |bool =>
  simp only[PT.decA]at h
  split at h
  ·cases h;exact .cons (.bool _ _ rfl) .nil
  ·cases h
 |row t=>exact X1 t l e h
 |map=>exact b8b l e h
 |ord=>exact b7Z l e h
 |arb=>exact b8c l e h
 |one=>exact b8a l e h
 |book =>
  simp only[PT.decA]at h
  split at h
  ·cases h;exact Same.refl _
  ·cases h
 |list t =>
  simp only[PT.decA]at h
  split at h
  ·rename_i t' e'
   split at h
   ·rename_i ht;subst ht;cases h;exact Same.refl _
   ·cases h
  ·cases h
def Args:List PT→Type
 |[]=>Unit
 |p::ps=>Th p.ty×Args ps
def a0v:(ps:List PT)→Args ps→List V
 |[],_ => []
 |p::ps,x=>p.enc x.1::a0v ps x.2
inductive OkA:A→Prop
 |int (k:IntKind) (n:Th Int):k.min≤n ()→n ()≤k.max→OkA (.int k n)
 |bool (b:SB):OkA (.bool b)
 |list (t:RT) (l:Th (List t.ty)):(l ()).length * t.bytes≤140737488355328∧(l ()).length≤9223372036854775807→(∀(i j:Nat) (a:A),i<(l ()).length→(enc t fun _=>nth t (l ()) i)[j]? = some a→OkA a)→OkA (.list t l)
def b5k:(ps:List PT)→Args ps→Prop
 |[],_=>True
 |p::ps,x=>(∀a∈p.encA x.1,OkA a)∧b5k ps x.2
structure Spec where
 box:Bool
 keep:Bool
 pars:List PT
 rets:List (List (Option RT))
 run:Th (List Int)→Th Int→Args pars→Rn (V×Th Int)
inductive SpecX:Type 1 where
 |sp (s:Spec)
 |raw (m:Nat→List V→M V)
instance:Coe Spec SpecX:=⟨.sp⟩
structure St where
 tm:Tr V
 hp:Hp
 up:List (Tr V)
inductive Slot where
 |tmp (d j:Nat)
 |cell (k j:Nat)
structure Prep where
 slot:Slot
 key:Option Nat
 t:RT
structure Ann where
 ι : Type
 prep:List Prep
 st:St → ι → St
 cond:St → ι → Th Prop
 meas:St → ι → Th Nat
structure Ctx where
 ty:Tr TyI
 off:Nat
 nt:Nat
 spec:Nat→Option SpecX
 plan:Nat→List (Nat×Nat)
 an:Nat→Option Ann
 cut:Nat→Option Ann
def c7S (k:IntKind) (n:Int):Bool:=decide (k.min≤n)&&decide (n≤k.max)
def a7t:Value→C
 | .bool b=>match b with
  |true => .att (.bool .tt)
  |false => .att (.bool .ff)
 | .int k n=>match c7S k n with
  |true => .att (.int k fun _=>n)
  |false => .unk
 | .slice none 0 0 => .nil
 |_ => .unk
def c0N:Value→Bool
 | .bool _=>true
 | .int _ _=>true
 | .slice _ _ _=>true
 |_=>false
def c7s:Value→V
 | .agg cs=>match cs.toList.all c0N with
  |true => .agg (cs.toList.map a7t)
  |false => .one .unk
 |v => .one (a7t v)
def ev (tm:Tr V):Operand→V
 | .tmp t=>tm.get t
 | .const v=>c7s v
 | .func f => .one (.fn f [])
 | .global _ => .one .unk
def V.cells:V→List C
 | .one c => [c]
 | .agg cs=>cs
 | .tup _ => []
def RT.shape:RT→List (Option RT)
 | .byte => [none]
 | .int => [none]
 | .wlk => [none,none,none,none,none]
 | .pcl => [none,none,none,none,none,none,none,none]
 | .pcls => [some .pcl]
 | .ints => [some .int]
 | .rcd => [none,none,none,none,none,none,none,none,none,none,none,none,none,none,none,none]
 | .cll => [none,some .wlk,none,some .pcls,some .int,some .int]
 | .sto => [none,none,some .wlk,none,some .pcls,some .int,some .int,some .rcd]
 | .hld => [none,none,none,some .wlk,none,some .pcls,some .int,some .int]
 | .gst => [none,none,none,none,none,none,none]
 | .msg => [none,none,none,none,none,none,none,none,none,none,none,none,none,none,none,none,none,none,none,none,none,none,none,none,none]
 | .srv => [none,some .hld,some .gst]
 | .row => [none,none,none,none,none,none,none,none,none,none]
 | .note => [none,none,none]
 | .evt => [none,none,none,none,none]
 | .ow => [none,none,none,none,none,none]
 | .wld => [none,none,some .srv,some .sto,some .int,some .int,some .row,some .msg,some .note]
 | .long => []
 | .longs => [some .long]
 | .lcll => [none,some .long,none,some .longs,some .long,some .long]
 | .lsto => [none,none,some .long,none,some .longs,some .long,some .long,some .long]
 | .lhld => [none,none,none,some .long,none,some .longs,some .long,some .long]
def RT.flat (t:RT):Bool:=t.shape.all fun o=>o.isNone
def M.guard {α : Type} (b:Bool) (m:M α):M α := if b then m else .fail
def E2 (dp:Bool):List (Option RT)→List C→M (List A)
 |_,[] => .ret []
 |[],_ => .fail
 |o::s,c::cs=>match c with
  | .att (.list t l)=>if dp then .fail else(E2 dp s cs).bind fun r => .ret (.list t l::r)
  | .att a=>(E2 dp s cs).bind fun r => .ret (a::r)
  | .nil=>match o with
   |some t=>(E2 dp s cs).bind fun r => .ret (.list t (fun _ => [])::r)
   |none => .fail
  | .own k v => .get k fun e=>match e with
   |(v',.row dp' _ t l) =>
    if v=v' then
     if dp then(if dp' then .set k (v+1,.dead) ((E2 dp s cs).bind fun r => .ret (.list t l::r))else .fail)
     else .set k (v,.ro t l) ((E2 dp s cs).bind fun r => .ret (.list t l::r))
    else .fail
   |(v',.ro t l)=>if v=v' then(if dp then .fail else(E2 dp s cs).bind fun r => .ret (.list t l::r))else .fail
   |_ => .fail
  |_ => .fail
def b5a:List C→Bool
 |[]=>true
 | .att (.list _ _)::_=>false
 |_::cs=>b5a cs
def a0p (t:RT) (l:Th (List t.ty)) (i:Th Int) (j:Nat):Option A:=(enc t fun _=>nth t (l ()) (i ()).toNat)[j]?
def subA:(t:RT)→Th (List t.ty)→List (Th Int×Nat)→Option A
 |t,l,[]=>some (.list t l)
 |t,l,(i,j)::r=>match a0p t l i j with
  |some (.list t2 l2)=>subA t2 l2 r
  |some a=>match r with
   |[]=>some a
   |_::_=>none
  |none=>none
def B5 (t:RT) (l:Th (List t.ty)) (i:Th Int) (e:Th t.ty):Th (List t.ty):=fun _=>(l ()).set (i ()).toNat (e ())
def updA (f:(t:RT)→Th (List t.ty)→Option (Th (List t.ty))):(t:RT)→Th (List t.ty)→List (Th Int×Nat)→Option (Th (List t.ty))
 |t,l,[]=>f t l
 |t,l,(i,j)::r=>match a0p t l i j with
  |some (.list t2 l2)=>match updA f t2 l2 r with
   |some l2'=>match dec t ((enc t fun _=>nth t (l ()) (i ()).toNat).set j (.list t2 l2'))with
    |some e'=>some (B5 t l i e')
    |none=>none
   |none=>none
  |_=>none
def a6t (dp:Bool) (k v g:Nat) (pre:List (Th Int×Nat)) (i:Th Int):Nat→List A→List C
 |_,[] => []
 |j,.list t l::r=>(if dp then .pref k v g pre i j else .att (.list t l))::a6t dp k v g pre i (j+1) r
 |j,a::r => .att a::a6t dp k v g pre i (j+1) r
def c1Q (p:C) (n:Nat):M (List C) :=
 match p with
 | .ptr k v j => .get k fun e=>match e with
  |(v',.var _ cs)=>M.guard (v==v'&&decide (j+n≤cs.length)) (.ret ((cs.drop j).take n))
  |_ => .fail
 | .pp k v g pre i j => .get k fun e=>match e with
  |(v',.row dp g' t l)=>M.guard (v==v'&&(pre.isEmpty||(g==g'&&dp))) (match subA t l pre with
   |some (.list t2 l2)=>M.guard (decide (j+n≤t2.size)) (.ret (((a6t dp k v g' pre i 0 (enc t2 fun _=>nth t2 (l2 ()) (i ()).toNat)).drop j).take n))
   |_ => .fail)
  |_ => .fail
 | .rptr t l i j=>M.guard (decide (j+n≤t.size)) (.ret ((((enc t fun _=>nth t (l ()) (i ()).toNat).map C.att).drop j).take n))
 |_ => .fail
def putAt {α : Type} (l:List α) (j:Nat) (m:List α):List α := l.take j++m++l.drop (j+m.length)
def b0s (c:C) (m:M V):M V :=
 match c with
 | .ptr k v _ => .get k fun e=>M.guard (v==e.1) m
 | .pp k v g pre _ _ => .get k fun e=>match e with
  |(v',.row dp g' _ _)=>M.guard (v==v'&&(pre.isEmpty||(g==g'&&dp))) m
  |(v',.hole _ _ _ _ _ _)=>M.guard (v==v'&&pre.isEmpty) m
  |(v',.ro _ _)=>M.guard (v==v'&&pre.isEmpty) m
  |_ => .fail
 | .rptr _ _ _ _=>m
 | .fn _ _=>m
 |_ => .fail
def G4 (i:Th Int) (j:Nat) (as:List A) (t:RT) (l:Th (List t.ty)):Option (Th (List t.ty)) :=
 if j+as.length≤t.size then
  match dec t (putAt (enc t fun _=>nth t (l ()) (i ()).toNat) j as)with
  |some e'=>some (B5 t l i e')
  |none=>none
 else none
def c0P (k v g:Nat) (pre:List (Th Int×Nat)) (j:Nat):M (Bool×List (Option RT)) :=
 .get k fun e=>match e with
  |(v',.row dp g' t l)=>M.guard (v==v'&&(pre.isEmpty||(g==g'&&dp))) (match subA t l pre with
   |some (.list t2 _) => .ret (dp,t2.shape.drop j)
   |_ => .fail)
  |_ => .fail
def putM (k v g:Nat) (pre:List (Th Int×Nat)) (i:Th Int) (j:Nat) (dp:Bool) (as:List A):M Unit :=
 .get k fun e=>match e with
  |(v',.row dp' g' t l)=>M.guard (v==v'&&dp==dp'&&(pre.isEmpty||(g==g'&&dp))) (match updA (G4 i j as) t l pre with
   |some l' => .set k (v,.row dp (if dp&&as.all A.isAtom then g' else g'+1) t l') (.ret ())
   |none => .fail)
  |_ => .fail
def d1U (k v:Nat) (i:Th Int) (j:Nat) (k2 v2:Nat):M Unit :=
 .get k2 fun e2=>match e2 with
  |(v2',.row true _ t2 l2)=>M.guard (v2==v2') (.set k2 (v2+1,.dead) (.get k fun e=>match e with
   |(v',.hole g' t l pre' i' j')=>M.guard (v==v'&&pre'.isEmpty&&j==j') (.asrt (fun _=>i ()=i' ()) (match G4 i' j' [.list t2 l2] t l with
    |some l' => .set k (v,.row true (g'+1) t l') (.ret ())
    |none => .fail))
   |_ => .fail))
  |_ => .fail
def isHole:Ch→Bool
 | .hole _ _ _ _ _ _=>true
 |_=>false
def b8w (p:C) (xs:List C):M Unit :=
 match p with
 | .ptr k v j => .get k fun e=>match e with
  |(v',.var bx cs)=>M.guard (v==v'&&decide (j+xs.length≤cs.length)&&(!bx||((cs.drop j).take xs.length).all fun c => !c.isB)) (.set k (v,.var bx (putAt cs j xs)) (.ret ()))
  |_ => .fail
 | .pp k v g pre i j => .get k fun e=>match isHole e.2 with
  |true=>match pre,xs with
   |[],[.own k2 v2]=>d1U k v i j k2 v2
   |_,_ => .fail
  |false=>(c0P k v g pre j).bind fun x=>match x with
   |(dp,s)=>(E2 dp s xs).bind fun as=>putM k v g pre i j dp as
 |_ => .fail
def newVar (key:Nat) (cs:List C):M V := .get key fun e => .set key (e.1+1,.var false cs) (.ret (.one (.ptr key (e.1+1) 0)))
def newRow (key:Nat) (dp:Bool) (t:RT) (l:Th (List t.ty)):M V := .get key fun e => .set key (e.1+1,.row dp 0 t l) (.ret (.one (.own key (e.1+1))))
def mkV (d:TyD) (cs:List C):M V :=
 if W0 d then .ret (.agg cs)else match cs with
 |[c] => .ret (.one c)
 |_ => .fail
def C.known:C→Bool
 | .unk=>false
 |_=>true
def V.known:V→Bool
 | .tup _=>false
 | .one c=>c.known
 | .agg cs=>cs.all C.known
def a6F (offs:List (Nat×Nat)):List C→List (Nat×V)→Option (List C)
 |cs,[]=>some cs
 |cs,(i,v)::r=>match offs[i]? with
  |some (o,n)=>if v.known&&(v.cells.length==n)&&decide (o+n≤cs.length)then a6F offs (putAt cs o v.cells) r else none
  |none=>none
def a1q (c:C):M ((t:RT)×Th (List t.ty)) :=
 match c with
 | .att (.list t l) => .ret ⟨t,l⟩
 | .own k v => .get k fun e=>match e with
  |(v',.row _ _ t l)=>if v=v' then .ret ⟨t,l⟩else .fail
  |(v',.ro t l)=>if v=v' then .ret ⟨t,l⟩else .fail
  |_ => .fail
 | .pref k v g pre i j => .get k fun e=>match e with
  |(v',.row true g' t0 l0)=>if v=v'∧g=g' then(match subA t0 l0 (pre ++ [(i,j)])with
   |some (.list t l) => .ret ⟨t,l⟩
   |_ => .fail)else .fail
  |_ => .fail
 |_ => .fail
def lenV (c:C):M V :=
 match c with
 | .nil => .ret (.one (.att (.int .i64 fun _=>0)))
 |c=>(a1q c).bind fun x=>match x with
  |⟨_,l⟩ => .ret (.one (.att (.int .i64 fun _=>((l ()).length:Int))))
def b5d (op:BinOp) (k:IntKind) (a b:Th Int):M V :=
 match op with
 | .add => .ret (.one (.att (.int k fun _=>k.wrap (a ()+b ()))))
 | .sub => .ret (.one (.att (.int k fun _=>k.wrap (a ()-b ()))))
 | .mul => .ret (.one (.att (.int k fun _=>k.wrap (a () * b ()))))
 | .quo => .asrt (fun _=>b ()≠0) (.ret (.one (.att (.int k fun _=>k.wrap ((a ()).tdiv (b ()))))))
 | .rem => .asrt (fun _=>b ()≠0) (.ret (.one (.att (.int k fun _=>(a ()).tmod (b ())))))
 | .xor => .ret (.one (.att (.int k fun _=>k.wrap ((BitVec.ofInt k.bits (a ()) ^^^ BitVec.ofInt k.bits (b ())).toNat))))
 | .shr => .asrt (fun _=>0≤b ()) (.ret (.one (.att (.int k fun _=>(a ()).fdiv (2 ^ (min (b ()).toNat k.bits))))))
 | .eql => .ret (.one (.att (.bool (.of fun _=>decide (a ()=b ())))))
 | .neq => .ret (.one (.att (.bool (.of fun _=>decide (a ()≠b ())))))
 | .lss => .ret (.one (.att (.bool (.of fun _=>decide (a ()<b ())))))
 | .leq => .ret (.one (.att (.bool (.of fun _=>decide (a ()≤b ())))))
 | .gtr => .ret (.one (.att (.bool (.of fun _=>decide (b ()<a ())))))
 | .geq => .ret (.one (.att (.bool (.of fun _=>decide (b ()≤a ())))))
 |_ => .fail
def a0u:List C→List C→Option (Th Bool)
 |[],[]=>some fun _=>true
 | .att (.int k a)::cs,.att (.int k' b)::ds=>if k=k' then(match a0u cs ds with
  |some f=>some fun _=>decide (a ()=b ())&&f ()
  |none=>none)else none
 | .att (.bool a)::cs,.att (.bool b)::ds=>match a0u cs ds with
  |some f=>some fun _=>(a.val==b.val)&&f ()
  |none=>none
 |_,_=>none
def c7w:SB→SB
 | .tt => .ff
 | .ff => .tt
 | .of f => .of fun _ => !f ()
def isBool:TyD→Bool
 | .bool=>true
 |_=>false
def binV (t:TyI) (op:BinOp) (x y:V):M V :=
 match x,y with
 | .one (.att (.int k a)),.one (.att (.int k' b))=>match op with
  | .shr=>b5d op k a b
  |_=>if k=k' then b5d op k a b else .fail
 | .one (.att (.bool a)),.one (.att (.bool b))=>M.guard (isBool t.d) (match op with
  | .eql => .ret (.one (.att (.bool (.of fun _=>a.val==b.val))))
  | .neq => .ret (.one (.att (.bool (.of fun _ => !(a.val==b.val)))))
  |_ => .fail)
 | .agg cs,.agg ds=>M.guard (t.eq&&W0 t.d&&cs.map C.isInt==t.zero.map ZC.isInt) (match a0u cs ds,op with
  |some f,.eql => .ret (.one (.att (.bool (.of f))))
  |some f,.neq => .ret (.one (.att (.bool (.of fun _ => !f ()))))
  |_,_ => .fail)
 |_,_ => .fail
end Go.Sx
