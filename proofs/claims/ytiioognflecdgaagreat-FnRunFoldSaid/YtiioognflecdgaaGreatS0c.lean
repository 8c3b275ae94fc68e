/-
  The symbolic walk: an operation, a region, a body, as predicate transformers.
-/
import Derived.Test.YtiioognflecdgaaGreatS0b
import Derived.Orders
set_option linter.unusedVariables false
set_option linter.unusedSimpArgs false
namespace Go.Sx
def askM {α : Type} (bytes:Nat) (n:Th Nat) (m:M α):M α := .asrt (fun _=>n () * bytes≤140737488355328) m
def Q9 {t t':RT} (h:t'=t) (l:Th (List t'.ty)):Th (List t.ty):=h▸l
def RT.isByte:RT→Bool
 | .byte=>true
 |_=>false
def srcM (t:RT) (x:C):M (Bool×Th (List t.ty)) :=
 match x with
 | .nil => .ret (true,fun _ => [])
 |c=>if t.isByte then .fail else(a1q c).bind fun y=>match y with
  |⟨t',l⟩=>if h:t'=t then(if t.flat then .ret (true,Q9 h l)else match c with
   | .own k v => .get k fun e=>match e with
    |(_,.row true _ _ _) => .set k (v+1,.dead) (.ret (true,Q9 h l))
    |_ => .ret (false,Q9 h l)
   | .att _ => .ret (false,Q9 h l)
   |_ => .fail)else .fail
def dstM (bytes key:Nat) (t:RT) (s:C) (dp:Bool) (l2:Th (List t.ty)):M V :=
 match s with
 | .nil=>askM bytes (fun _=>(l2 ()).length) (newRow key dp t l2)
 | .own k v => .get k fun e=>match e with
  |(v',.row dp' _ t' l)=>if v=v'∧dp'=dp then(if h:t'=t then
    askM bytes (fun _=>(Q9 h l ()).length+(l2 ()).length) (.set k (v+1,.dead) (newRow k dp t (fun _=>Q9 h l ()++l2 ())))else .fail)else .fail
  |_ => .fail
 |_ => .fail
def c0F (key:Nat) (s:C):M C :=
 match s with
 | .pref k v g pre i j => .get k fun e=>match e with
  |(v',.row true g' t0 l0)=>if v=v'∧g=g' then(match subA t0 l0 (pre ++ [(i,j)])with
   |some (.list t l)=>if k=key then .fail else .set k (v,.hole g t0 l0 pre i j) (.get key fun e => .set key (e.1+1,.row true 0 t l) (.ret (.own key (e.1+1))))
   |_ => .fail)else .fail
  |_ => .fail
 |c => .ret c
def b5h (ctx:Ctx) (key:Nat) (T:Nat) (s x:V):M V :=
 match(ctx.ty.get T).d with
 | .slice E=>match(ctx.ty.get E).rt with
  |none => .fail
  |some t=>match s,x with
   | .one s,.one x=>(c0F key s).bind fun s=>(srcM t x).bind fun y=>match y with
    |(dp,l2)=>dstM (ctx.ty.get E).bytes key t s dp l2
   |_,_ => .fail
 |_ => .fail
def elems (dp:Bool) (t:RT):Nat→List C→M (List (Th t.ty))
 | 0,_ => .ret []
 |n+1,cs=>(E2 dp t.shape (cs.take t.size)).bind fun as=>match dec t as with
  |some e=>(elems dp t n (cs.drop t.size)).bind fun r => .ret (e::r)
  |none => .fail
def litC (n:Nat) (z:List C):List C:=match n with
 | 0 => []
 |n+1=>z++litC n z
def a1B (s:Nat):Nat→Nat→List (Nat×Nat)
 |_,0 => []
 |i,n+1=>(i * s,s)::a1B s (i+1) n
def evT {α : Type}:List (Th α)→List α
 |[] => []
 |e::r=>e ()::evT r
def a1I (tm:Tr V) (o:Option Operand) (d:Th Int):Option (Th Int) :=
 match o with
 |none=>some d
 |some x=>match ev tm x with
  | .one (.att (.int .i64 n))=>some n
  |_=>none
def W6:List C→M Unit
 |[] => .ret ()
 | .own k v::cs => .get k fun e=>match e with
  |(v',.row _ _ t l)=>if v=v' then .set k (v,.ro t l) (W6 cs)else .fail
  |(v',.ro _ _)=>if v=v' then W6 cs else .fail
  |_ => .fail
 | .pref _ _ _ _ _ _::_ => .fail
 |_::cs=>W6 cs
def a2O (ctx:Ctx) (T:Nat):Option RT :=
 match(ctx.ty.get T).d with
 | .slice E=>(ctx.ty.get E).rt
 |_=>none
def isRt (o:Option RT) (t:RT):Bool :=
 match o with
 |some t'=>if t'=t then true else false
 |none=>false
def c7H (o:Option RT) (t:RT):Bool :=
 match o with
 |some t'=>if t'=t then true else t.O8&&t'.size==t.size
 |none=>false
def isSlice:TyD→Bool
 | .slice _=>true
 |_=>false
def idxM (ctx:Ctx) (T:Nat) (c:C) (n:Th Int):M V :=
 (a1q c).bind fun y=>match y with
  |⟨t,l⟩=>M.guard (c7H (a2O ctx T) t) <| .asrt (fun _=>0≤n ()∧n ()<((l ()).length:Int)) (match c with
    | .own k v => .get k fun e=>match e with
     |(_,.row _ g _ _) => .ret (.one (.pp k v g [] n 0))
     |_ => .ret (.one (.rptr t l n 0))
    | .pref k v g pre i j => .ret (.one (.pp k v g (pre ++ [(i,j)]) n 0))
    |_ => .ret (.one (.rptr t l n 0)))
def idxH (ctx:Ctx) (T:Nat) (c:C) (n:Th Int):M V :=
 match c with
 | .own k v => .get k fun e=>match e with
  |(v',.hole g t l _ _ _)=>M.guard (v==v'&&isRt (a2O ctx T) t) (.asrt (fun _=>0≤n ()∧n ()<((l ()).length:Int)) (.ret (.one (.pp k v g [] n 0))))
  |_=>idxM ctx T c n
 |c=>idxM ctx T c n
def c7x:TyD→Bool
 | .other=>false
 |_=>true
def opM (ctx:Ctx) (tm:Tr V) (o:Oper):M V :=
 let key:=ctx.off+o.dst.getD 0
 match o.op with
 | .move x => .ret (ev tm x)
 | .assign x => .ret (ev tm x)
 | .pick c a b=>match ev tm c with
  | .one (.att (.bool .tt)) => .ret (ev tm a)
  | .one (.att (.bool .ff)) => .ret (ev tm b)
  | .one (.att (.bool (.of f))) => .fork f (.ret (ev tm a)) (.ret (ev tm b))
  |_ => .fail
 | .alloc T=>M.guard ((ctx.ty.get T).cells != 0) (newVar key ((ctx.ty.get T).zero.map ZC.c))
 | .box _ x=>M.guard (ev tm x).known (newVar key (ev tm x).cells)
 | .build T parts=>match(ctx.ty.get T).d with
  | .struct offs=>match a6F offs ((ctx.ty.get T).zero.map ZC.c) (parts.toList.map fun x=>(x.1,ev tm x.2))with
   |some cs => .ret (.agg cs)
   |none => .fail
  |_ => .fail
 | .buildSlice T n parts=>match(ctx.ty.get T).d with
  | .slice E=>match(ctx.ty.get E).rt with
   |some t=>M.guard (decide (n * t.size≤1048576)&&decide (n * (ctx.ty.get E).bytes≤1048576))<|match a6F (a1B t.size 0 n) (litC n ((ctx.ty.get E).zero.map ZC.c)) (parts.toList.map fun x=>(x.1,ev tm x.2))with
    |some cs=>(elems (b5a cs) t n cs).bind fun es=>newRow key (b5a cs) t (fun _=>evT es)
    |none => .fail
   |none => .fail
  |_ => .fail
 | .makeSlice T a b=>match(ctx.ty.get T).d,ev tm a,ev tm b with
  | .slice E,.one (.att (.int .i64 n)),.one (.att (.int .i64 m))=>match(ctx.ty.get E).rt with
   |some t=>(E2 true t.shape ((ctx.ty.get E).zero.map ZC.c)).bind fun as=>match dec t as with
    |some z => .asrt (fun _=>n ()=m ()∧0≤n ()) (askM (ctx.ty.get E).bytes (fun _=>(n ()).toNat) (newRow key true t (fun _=>List.replicate (n ()).toNat (z ()))))
    |none => .fail
   |none => .fail
  |_,_,_ => .fail
 | .load T a=>match ev tm a with
  | .one p=>(c1Q p (ctx.ty.get T).cells).bind fun cs=>mkV (ctx.ty.get T).d cs
  |_ => .fail
 | .store T a x=>match ev tm a with
  | .one p=>M.guard ((ev tm x).known&&(ev tm x).cells.length==(ctx.ty.get T).cells&&(ctx.ty.get T).cells != 0) ((b8w p (ev tm x).cells).bind fun _ => .ret (.tup []))
  |_ => .fail
 | .nilCheck x=>match ev tm x with
  | .one c=>b0s c (.ret (.one c))
  |_ => .fail
 | .binOp op T x y _=>binV (ctx.ty.get T) op (ev tm x) (ev tm y)
 | .unOp op _ x=>match op,ev tm x with
  | .not,.one (.att (.bool b)) => .ret (.one (.att (.bool (c7w b))))
  | .neg,.one (.att (.int k n)) => .ret (.one (.att (.int k fun _=>k.wrap (0-n ()))))
  |_,_ => .fail
 | .convert src dst x=>match(ctx.ty.get src).d,(ctx.ty.get dst).d,ev tm x with
  | .int _,.int k,.one (.att (.int _ n)) => .ret (.one (.att (.int k fun _=>k.wrap (n ()))))
  |_,_,_ => .fail
 | .makeFunc fn first captured=>match fn with
  | .func f=>M.guard (first.isEmpty&&captured.toList.all fun x=>match ev tm x with
   | .one _=>true
   |_=>false) (.ret (.one (.fn f (captured.toList.flatMap fun x=>(ev tm x).cells))))
  |_ => .fail
 | .slice T x lo hi mx=>match mx with
  |some _ => .fail
  |none=>match ev tm x with
   | .one c=>(W6 [c]).bind fun _=>(a1q c).bind fun y=>match y with
    |⟨t,l⟩=>match a1I tm lo (fun _=>0),a1I tm hi (fun _=>((l ()).length:Int))with
     |some a,some b=>M.guard (isRt (a2O ctx T) t) <| .asrt (fun _=>0≤a ()∧a ()≤b ()∧b ()≤((l ()).length:Int)) (.ret (.one (.att (.list t fun _=>((l ()).take (b ()).toNat).drop (a ()).toNat))))
     |_,_ => .fail
   |_ => .fail
 | .fieldAddr T x f=>match(ctx.ty.get T).d with
  | .struct offs=>match offs[f]?,ev tm x with
   |some (off,_),.one c=>match c with
    | .ptr k v j=>b0s c (.ret (.one (.ptr k v (j+off))))
    | .pp k v g pre i j=>b0s c (.ret (.one (.pp k v g pre i (j+off))))
    | .rptr t l i j => .ret (.one (.rptr t l i (j+off)))
    |_ => .fail
   |_,_ => .fail
  |_ => .fail
 | .field T x f=>match(ctx.ty.get T).d with
  | .struct offs=>match offs[f]?,(ctx.ty.get T).fts[f]?,ev tm x with
   |some (off,n),some T2,.agg cs=>M.guard (decide (off+n≤cs.length)&&n==(ctx.ty.get T2).cells&&c7x (ctx.ty.get T2).d) (mkV (ctx.ty.get T2).d ((cs.drop off).take n))
   |_,_,_ => .fail
  |_ => .fail
 | .indexAddr T x i=>match ev tm x,ev tm i with
  | .one c,.one (.att (.int .i64 n))=>idxH ctx T c n
  |_,_ => .fail
 | .extract x i=>match ev tm x with
  | .tup vs=>match vs[i]? with
   |some v => .ret v
   |none => .fail
  |_ => .fail
 | .call c=>match c.callee with
  | .builtin b=>match b,c.args.toList.map (ev tm),c.argTypes.toList with
   | .len,[.one x],[T]=>M.guard (isSlice (ctx.ty.get T).d) (lenV x)
   | .append,[s,x],[T,T']=>if T=T' then b5h ctx key T s x else .fail
   | .min,[.one (.att (.int k a)),.one (.att (.int k' b))],_=>if k=k' then .ret (.one (.att (.int k fun _=>if b ()<a ()then b ()else a ())))else .fail
   | .max,[.one (.att (.int k a)),.one (.att (.int k' b))],_=>if k=k' then .ret (.one (.att (.int k fun _=>if a ()<b ()then b ()else a ())))else .fail
   |_,_,_ => .fail
  |_ => .fail
 |_ => .fail
def b0w (o:Option RT) (c:C):M A :=
 match c with
 | .att a => .ret a
 | .nil=>match o with
  |some t => .ret (.list t fun _ => [])
  |none => .fail
 | .own k v => .get k fun e=>match e with
  |(v',.row _ _ t l)=>if v=v' then .ret (.list t l)else .fail
  |(v',.ro t l)=>if v=v' then .ret (.list t l)else .fail
  |_ => .fail
 | .pref k v g pre i j => .get k fun e=>match e with
  |(v',.row true g' t0 l0)=>if v=v'∧g=g' then(match subA t0 l0 (pre ++ [(i,j)])with
   |some (.list t l) => .ret (.list t l)
   |_ => .fail)else .fail
  |_ => .fail
 |_ => .fail
def b0v:List (Option RT)→List C→M (List A)
 |_,[] => .ret []
 |[],c::cs=>(b0w none c).bind fun x=>(b0v [] cs).bind fun r => .ret (x::r)
 |o::s,c::cs=>(b0w o c).bind fun x=>(b0v s cs).bind fun r => .ret (x::r)
def d1R (c:C):M C :=
 match c with
 | .att a => .ret (.att a)
 |_ => .fail
def b0u:List C→M (List C)
 |[] => .ret []
 |c::cs=>(d1R c).bind fun x=>(b0u cs).bind fun r => .ret (x::r)
def V.isAgg:V→Bool
 | .agg _=>true
 |_=>false
def V.d1S:V→Bool
 | .tup _=>true
 |_=>false
def c7F (p:PT) (v:V):M (Th p.ty) :=
 if v.d1S then .fail else if v.isAgg=p.isAgg then(b0v p.nils v.cells).bind fun as=>match p.decA as with
  |some e => .ret e
  |none => .fail
 else .fail
def a7x:(ps:List PT)→List V→M (Args ps)
 |p::ps,v::vs=>(c7F p v).bind fun x=>(a7x ps vs).bind fun r => .ret (x,r)
 |[],[] => .ret ()
 |_,_ => .fail
def a4P:C→Bool
 | .att (.list _ _)=>true
 | .box ds=>ds.any fun d=>match d with
  | .att (.list _ _)=>true
  |_=>false
 |_=>false
def V.a5A:V→Bool
 | .one c=>a4P c
 | .agg cs=>cs.any a4P
 | .tup _=>true
def V.shares:V→Bool
 | .tup vs=>vs.any V.a5A
 |v=>v.a5A
def M8:List V→List C
 |v::vs=>v.cells++M8 vs
 |[] => []
def outC (kb:Nat) (c:C):M C :=
 match c with
 | .ownd t l => .get kb fun e => .set kb (e.1+1,.row true 0 t l) (.ret (.own kb (e.1+1)))
 | .box cs => .get kb fun e => .set kb (e.1+1,.var false cs) (.ret (.ptr kb (e.1+1) 0))
 | .att a => .ret (.att a)
 | .nil => .ret .nil
 | .unk => .ret .unk
 |_ => .fail
def c1z:Nat→List C→M (List C)
 |_,[] => .ret []
 |kb,c::cs=>(outC kb c).bind fun x=>(c1z (kb+1) cs).bind fun r => .ret (x::r)
def V.span:V→Nat
 | .one _=>1
 | .agg cs=>cs.length
 | .tup _=>0
def c1y (kb:Nat) (v:V):M V :=
 match v with
 | .one c=>(outC kb c).bind fun c => .ret (.one c)
 | .agg cs=>(c1z kb cs).bind fun cs => .ret (.agg cs)
 | .tup _ => .fail
def c1x:Nat→List V→M (List V)
 |_,[] => .ret []
 |kb,v::vs=>(c1y kb v).bind fun x=>(c1x (kb+v.span) vs).bind fun r => .ret (x::r)
def outV (kb:Nat) (v:V):M V :=
 match v with
 | .tup vs=>(c1x kb vs).bind fun vs => .ret (.tup vs)
 |v=>c1y kb v
def rdC (b:Th (List Int)) (p:Th Int):List C := [.att (.list .byte b),.att (.int .i64 p)]
def c9h (k v:Nat) (ds:List C):M Unit :=
 .get k fun e=>match e with
  |(v',.var bx cs)=>M.guard (v==v'&&ds.length==cs.length) (.set k (v,.var bx ds) (.ret ()))
  |_ => .fail
def c2B (s:Spec) (kb:Nat) (args:List V):M V :=
 match s.box with
 |false=>(a7x s.pars args).bind fun ins=>(s.run (fun _ => []) (fun _=>0) ins).lift.bind fun r =>
  (if r.1.shares then W6 (M8 args)else .ret ()).bind fun _=>outV kb r.1
 |true=>match args with
  | .one (.ptr k v 0)::args => .get k fun e=>match e with
   |(v',.var _ [.att (.list .byte b),.att (.int .i64 p)])=>M.guard (v==v') ((a7x s.pars args).bind fun ins=>(s.run b p ins).lift.bind fun r =>
    (if r.1.shares then W6 (M8 args)else .ret ()).bind fun _=>(c9h k v (rdC b r.2)).bind fun _=>outV kb r.1)
   |_ => .fail
  |_ => .fail
def a2h (s:SpecX) (kb:Nat) (args:List V):M V :=
 match s with
 | .sp s=>c2B s kb args
 | .raw m=>m kb args
abbrev CallT:=Nat→Nat→List V→St→(V→St→Prop)→Prop
def asked (ops:List Oper) (i:Nat):Bool:=ops.any fun o=>match o.guard with
 |some (j,_)=>j==i
 |none=>false
def a7m (v:V) (K:V→Prop):Prop :=
 match v with
 | .one (.att (.bool (.of f)))=>(f ()=true→K (.one (.att (.bool .tt))))∧(f ()=false→K (.one (.att (.bool .ff))))
 |v=>K v
def putV (tm:Tr V) (dst:Option Nat) (v:V):Tr V :=
 match dst with
 |some d=>tm.set d v
 |none=>tm
inductive G where
 |yes|no|bad
def guardOf (ops:List Oper) (tm:Tr V) (o:Oper):G :=
 match o.guard with
 |none => .yes
 |some (j,want)=>match ops[j]? with
  |some oj=>match oj.dst with
   |some d=>match tm.get d with
    | .one (.att (.bool .tt))=>if want then .yes else .no
    | .one (.att (.bool .ff))=>if want then .no else .yes
    | .tup [] => .no
    |_ => .bad
   |none => .bad
  |none => .bad
def b3x:V := .tup []
def a4J (n:Nat) (d:Option Nat):Bool :=
 match d with
 |some d=>decide (d<n)
 |none=>true
def b1m (hp:Hp):List C→Bool
 |[]=>true
 | .ptr k v _::cs=>(hp.get k).1==v&&b1m hp cs
 |_=>false
def opK (ctx:Ctx) (L:Locks) (cl:CallT) (o:Oper) (σ : St) (K:V→St→Prop):Prop :=
 match o.op with
 | .call c=>match c.callee with
  | .value f=>match ev σ.tm f with
   | .one (.fn g caps)=>if b1m σ.hp caps then cl (ctx.off+o.dst.getD 0) g (c.args.toList.map (ev σ.tm)++caps.map V.one) σ K else False
   |_=>False
  |_=>(opM ctx σ.tm o).wp L σ.hp fun v hp=>K v ⟨σ.tm,hp,σ.up⟩
 |_=>(opM ctx σ.tm o).wp L σ.hp fun v hp=>K v ⟨σ.tm,hp,σ.up⟩
def a3l (ctx:Ctx) (L:Locks) (cl:CallT) (ops:List Oper) (i:Nat) (o:Oper) (σ : St) (K:St→Prop):Prop :=
 if a4J ctx.nt o.dst then(match guardOf ops σ.tm o with
  | .yes=>opK ctx L cl o σ fun v σ => if asked ops i then a7m v fun v=>K ⟨putV σ.tm o.dst v,σ.hp,σ.up⟩else K ⟨putV σ.tm o.dst v,σ.hp,σ.up⟩
  | .no=>K ⟨putV σ.tm o.dst b3x,σ.hp,σ.up⟩
  | .bad=>False)
 else False
def c5E (ctx:Ctx) (L:Locks) (cl:CallT) (ops:List Oper):Nat→List Oper→St→(St→Prop)→Prop
 |_,[],σ,K=>K σ
 |i,o::r,σ,K=>a3l ctx L cl ops i o σ fun σ'=>c5E ctx L cl ops (i+1) r σ' K
def b9B (a b:A):Prop :=
 match a,b with
 | .int k m,.int k' n=>k=k'∧Ob fun _=>m ()=n ()
 | .bool x,.bool y=>Ob fun _=>x.val=y.val
 | .list t l,.list t' l'=>if h:t=t' then Ob fun _=>(h▸l ())=l' ()else False
 |_,_=>False
def Ch.gen:Ch→Nat
 | .row _ g _ _=>g
 |_=>0
def b0p:List (Th Int×Nat)→List (Th Int×Nat)→Prop
 |[],[]=>True
 |x::xs,y::ys=>x.2=y.2∧(Ob fun _=>x.1 ()=y.1 ())∧b0p xs ys
 |_,_=>False
def a1E (hp hq:Hp) (c d:C):Prop :=
 match d with
 | .unk=>True
 | .att b=>match c with
  | .att a=>b9B a b
  | .nil=>match b with
   | .list _ l=>Ob fun _=>l () = []
   |_=>False
  |_=>False
 | .nil=>match c with
  | .nil=>True
  |_=>False
 | .own k v=>match c with
  | .own k' v'=>k=k'∧(hp.get k).1=v'∧(hq.get k).1=v
  |_=>False
 | .ptr k v j=>match c with
  | .ptr k' v' j'=>k=k'∧j=j'∧(hp.get k).1=v'∧(hq.get k).1=v
  |_=>False
 | .pp k v _ pre i j=>match c with
  | .pp k' v' _ pre' i' j'=>k=k'∧j=j'∧(hp.get k).1=v'∧(hq.get k).1=v∧pre.isEmpty=true∧pre'.isEmpty=true∧Ob fun _=>i' ()=i ()
  |_=>False
 | .pref k v g pre i j=>match c with
  | .pref k' v' g' pre' i' j'=>k=k'∧j=j'∧(hp.get k).1=v'∧(hq.get k).1=v∧(hp.get k).2.gen=g'∧(hq.get k).2.gen=g∧b0p pre' pre∧Ob fun _=>i' ()=i ()
  |_=>False
 | .fn f caps=>match c with
  | .fn f' caps'=>f=f'∧matchCaps hp hq caps' caps
  |_=>False
 | .rptr t l i j=>match c with
  | .rptr t' l' i' j'=>if h:t'=t then(Ob fun _=>(h▸l' ())=l ())∧(Ob fun _=>i' ()=i ())∧j=j' else False
  |_=>False
 |_=>False
where
 matchCaps (hp hq:Hp):List C→List C→Prop
  |[],[]=>True
  | .ptr k' v' j'::cs,.ptr k v j::ds=>(k=k'∧j=j'∧(hp.get k).1=v'∧(hq.get k).1=v)∧matchCaps hp hq cs ds
  |_,_=>False
def Q4 (hp hq:Hp):List C→List C→Prop
 |[],[]=>True
 |c::cs,d::ds=>a1E hp hq c d∧Q4 hp hq cs ds
 |_,_=>False
def b0o (hp hq:Hp) (v u:V):Prop :=
 match u with
 | .one .unk=>True
 | .one d=>match v with
  | .one c=>a1E hp hq c d
  |_=>False
 | .agg ds=>match v with
  | .agg cs=>Q4 hp hq cs ds
  |_=>False
 | .tup us=>match us with
  |[]=>match v with
   | .tup []=>True
   |_=>False
  |_=>False
def fixB:Bool→List C→List C→Bool
 |true,cs,ds=>X4 cs ds
 |false,_,_=>true
def D6 (hp hq:Hp) (c d:Ch):Prop :=
 match d with
 | .dead=>match c with
  | .var true _=>False
  |_=>True
 | .var bx ds=>match c with
  | .var bx' cs=>bx=bx'∧fixB bx cs ds=true∧Q4 hp hq cs ds
  |_=>False
 | .row dp _ t l=>match c with
  | .row dp' _ t' l'=>dp=dp'∧(if h:t'=t then Ob fun _=>(h▸l' ())=l ()else False)
  |_=>False
 | .ro t l=>match c with
  | .ro t' l'=>if h:t'=t then Ob fun _=>(h▸l' ())=l ()else False
  |_=>False
 |_=>False
def a1o (hp hq:Hp):Tr V→Tr V→Prop
 |_,.leaf=>True
 |t,.node u l r=>b0o hp hq t.val u∧a1o hp hq t.lt l∧a1o hp hq t.rt r
def Z2 (hp hq:Hp):Hp→Hp→Prop
 | .leaf,.leaf=>True
 | .node e l r,.leaf=>D6 hp hq e.2 .dead∧Z2 hp hq l .leaf∧Z2 hp hq r .leaf
 |t,.node e l r=>D6 hp hq t.val.2 e.2∧Z2 hp hq t.lt l∧Z2 hp hq t.rt r
def a4m (hp hq:Hp):List (Tr V)→List (Tr V)→Prop
 |[],[]=>True
 |t::ts,u::us=>a1o hp hq t u∧a4m hp hq ts us
 |_,_=>False
def l8 (σ τ : St):Prop:=a1o σ.hp τ.hp σ.tm τ.tm∧Z2 σ.hp τ.hp σ.hp τ.hp∧a4m σ.hp τ.hp σ.up τ.up
inductive LoopIn (A:Ann) (σ0 σ : St):Prop where
 |mk (i:A.ι) (hc:A.cond σ0 i ()) (hm:l8 σ (A.st σ0 i)):LoopIn A σ0 σ
inductive LoopBack (A:Ann) (σ0:St) (i:A.ι) (σ : St):Prop where
 |mk (i':A.ι) (hc:A.cond σ0 i' ()) (hd:A.meas σ0 i' ()<A.meas σ0 i ()) (hm:l8 σ (A.st σ0 i')):LoopBack A σ0 i σ
def c6d (σ : St):Slot→C
 | .tmp d j=>match σ.tm.get d with
  | .one c=>if j=0 then c else .unk
  | .agg cs=>(cs[j]?).getD .unk
  | .tup _ => .unk
 | .cell k j=>match(σ.hp.get k).2 with
  | .var _ cs=>(cs[j]?).getD .unk
  |_ => .unk
def a8C (σ : St) (s:Slot) (c:C):St :=
 match s with
 | .tmp d j=>match σ.tm.get d with
  | .one _=>⟨σ.tm.set d (.one c),σ.hp,σ.up⟩
  | .agg cs=>⟨σ.tm.set d (.agg (cs.set j c)),σ.hp,σ.up⟩
  | .tup _ => σ
 | .cell k j=>match σ.hp.get k with
  |(v,.var bx cs)=>⟨σ.tm,σ.hp.set k (v,.var bx (cs.set j c)),σ.up⟩
  |_ => σ
def rowC (key:Nat) (t:RT) (l:Th (List t.ty)):M C := .get key fun e => .set key (e.1+1,.row true 0 t l) (.ret (.own key (e.1+1)))
def rowS (key:Nat) (t:RT) (l:Th (List t.ty)):M C := .get key fun e => .set key (e.1+1,.row false 0 t l) (.ret (.own key (e.1+1)))
def a7W (p:Prep) (c:C):M C :=
 match p.key with
 |none=>match c with
  | .att a => .ret (.att a)
  | .nil => .ret (.att (.list p.t fun _ => []))
  | .own k v=>(W6 [.own k v]).bind fun _=>(a1q (.own k v)).bind fun x=>match x with
   |⟨t,l⟩ => .ret (.att (.list t l))
  |_ => .fail
 |some key=>if 1000000000000000≤key then(match c with
   | .nil=>rowS (key-1000000000000000) p.t fun _ => []
   | .own k v => .get k fun e=>match e with
    |(v',.row true g t l)=>if v=v'∧k+1000000000000000=key then .set k (v,.row false (g+1) t l) (.ret (.own k v))else .fail
    |(v',.row false _ _ _)=>if v=v'∧k+1000000000000000=key then .ret (.own k v)else .fail
    |_ => .fail
   |_ => .fail)else match c with
  | .nil=>rowC key p.t fun _ => []
  | .own k v => .get k fun e=>match e with
   |(v',.row true _ t l)=>if v=v' then(if k=key then .ret (.own k v)else .set k (v+1,.dead) (rowC key t l))else .fail
   |_ => .fail
  |_ => .fail
def c9M (ch:Ch) (j:Nat) (c:C):Bool:=match ch with
 | .var bx cs=>fixB bx cs (cs.set j c)
 |_=>true
def a5y (hp hp':Hp) (c:C):Slot→Bool
 | .tmp _ _=>true
 | .cell k j=>(hp'.get k).1==(hp.get k).1&&c9M (hp'.get k).2 j c
def b2w:List Prep→St→(St→Prop)→Prop
 |[],σ,K=>K σ
 |p::ps,σ,K=>(a7W p (c6d σ p.slot)).wp ⟨[],[]⟩ σ.hp fun c hp=>if a5y σ.hp hp c p.slot then b2w ps (a8C ⟨σ.tm,hp,σ.up⟩ p.slot c) K else False
inductive Ex where
 |normal
 |exit (id:Nat)
 |ret
def a4s:Code→Nat
 | .region id _ _=>id
 | .seq a _=>a4s a
 | .cond _ a _=>a4s a
 | .block _ b=>a4s b
 | .loop b=>a4s b
 |_=>0
def Locks.add (L T:Locks):Locks:=⟨T.rd++L.rd,T.fl++L.fl⟩
def M.wpT {α : Type}:M α → Locks→Hp→(α → Hp→Locks→Prop)→Prop
 | .ret a,_,h,K=>K a h ⟨[],[]⟩
 | .get k f,L,h,K=>if L.fl.contains k then False else(f (h.get k)).wpT L h fun a h' T=>K a h' ⟨k::T.rd,T.fl⟩
 | .set k e m,L,h,K=>if L.rd.contains k then False else if L.fl.contains k then False else if keeps (h.get k) e then m.wpT L (h.set k e) (fun a h' T=>K a h' ⟨T.rd,k::T.fl⟩)else False
 | .asrt p m,L,h,K=>Ob p∧m.wpT L h K
 | .fork b t e,L,h,K=>(b ()=true→t.wpT L h K)∧(b ()=false→e.wpT L h K)
 |_,_,_,_=>False
def c6D (v:V):M V :=
 match v with
 | .one (.att (.bool (.of f))) => .fork f (.ret (.one (.att (.bool .tt)))) (.ret (.one (.att (.bool .ff))))
 |v => .ret v
def opC (ctx:Ctx) (tm:Tr V) (o:Oper):M V :=
 match o.op with
 | .call c=>match c.callee with
  | .value f=>match ev tm f with
   | .one (.fn g [])=>match ctx.spec g with
    |some s=>a2h s (512 * (ctx.off+o.dst.getD 0+1)+256) (c.args.toList.map (ev tm))
    |none => .fail
   |_ => .fail
  |_=>opM ctx tm o
 |_=>opM ctx tm o
def regM (ctx:Ctx) (ops:List Oper) (i:Nat) (o:Oper) (tm:Tr V):M V :=
 match guardOf ops tm o with
 | .yes=>(opC ctx tm o).bind fun v=>if asked ops i then c6D v else .ret v
 | .no => .ret b3x
 | .bad => .fail
def a1H (ctx:Ctx) (ops:List Oper):List (Nat×Nat)→(Nat→Locks)→St→(St→Prop)→Prop
 |[],_,σ,K=>K σ
 |(i,F)::r,LL,σ,K=>match ops[i]? with
  |none=>False
  |some o=>if a4J ctx.nt o.dst then(match F with
   | 0=>(regM ctx ops i o σ.tm).wp (LL i) σ.hp fun v hp=>a1H ctx ops r LL ⟨putV σ.tm o.dst v,hp,σ.up⟩ K
   |F+1=>(regM ctx ops i o σ.tm).wpT (LL i) σ.hp fun v hp T=>a1H ctx ops r (fun j=>if(F+1).testBit j then(LL j).add T else LL j) ⟨putV σ.tm o.dst v,hp,σ.up⟩ K)
   else False
def b7v (ctx:Ctx) (o:Oper):Bool :=
 match o.op with
 | .call c=>match c.callee with
  | .value f=>match ev .leaf f with
   | .one (.fn g [])=>match ctx.spec g with
    |some _=>false
    |none=>true
   |_=>true
  |_=>false
 |_=>false
def b1h (ops:List Oper):List Nat→List (Nat×Nat)→Bool
 |_,[]=>true
 |need,(k,_)::r=>(need.any fun x=>match ops[x]? with
   |some o=>o.after.toList.any fun e=>Region.binds .any e&&e.on==k
   |none=>false)&&b1h ops (k::need) r
def c1S (ctx:Ctx) (ops:List Oper) (acc:List (Nat×Nat)) (i F:Nat):Option Oper :=
 match F with
 | 0=>match ops[i]? with
  |some o=>if b7v ctx o&&b1h ops [i] acc then some o else none
  |none=>none
 |_+1=>none
def b8r (ops:List Oper) (i z:Nat):Bool:=match ops[i]? with
 |some o=>o.after.toList.any fun e=>Region.binds .any e&&e.on==z
 |none=>true
def c0C (ctx:Ctx) (ops:List Oper) (acc:List (Nat×Nat)) (i F:Nat):Option (Oper×(Nat×Nat)×List (Nat×Nat)) :=
 match F with
 | 0=>match acc with
  |z::A=>match ops[i]? with
   |some o=>if b7v ctx o&&b1h ops [i] A && !b8r ops i z.1 then some (o,z,A)else none
   |none=>none
  |[]=>none
 |_+1=>none
def M9 (ctx:Ctx) (L:Locks) (cl:CallT) (ops:List Oper):List (Nat×Nat)→List (Nat×Nat)→St→(St→Prop)→Prop
 |acc,[],σ,K=>a1H ctx ops acc.reverse (fun _=>⟨[],[]⟩) σ K
 |acc,(i,F)::r,σ,K=>match c1S ctx ops acc i F with
  |some o=>a1H ctx ops acc.reverse (fun _=>⟨[],[]⟩) σ fun σ1=>a3l ctx L cl ops i o σ1 fun σ2=>M9 ctx L cl ops [] r σ2 K
  |none=>match c0C ctx ops acc i F with
   |some (o,z,A)=>(a1H ctx ops acc.reverse (fun _=>⟨[],[]⟩) σ fun σ1=>a3l ctx L cl ops i o σ1 fun σ2=>M9 ctx L cl ops [] r σ2 K) ∧
     (a1H ctx ops A.reverse (fun _=>⟨[],[]⟩) σ fun σ1=>a3l ctx L cl ops i o σ1 fun σ2=>M9 ctx L cl ops [z] r σ2 K)
   |none=>M9 ctx L cl ops ((i,F)::acc) r σ K
def b8s (ctx:Ctx) (L:Locks) (cl:CallT) (id:Nat) (ops:List Oper) (σ : St) (K:St→Prop):Prop :=
 match ops.any (b7v ctx)with
 |true=>M9 ctx L cl ops [] (ctx.plan id) σ K
 |false=>a1H ctx ops (ctx.plan id) (fun _=>⟨[],[]⟩) σ K
def C0 (ops:List Oper) (ls:List Nat) (j:Nat):Bool := !ls.contains j&&match ops[j]? with
 |some o=>o.after.toList.all fun e => !(Region.binds .any e)||ls.contains e.on
 |none=>false
def c9k (ops:Array Oper) (o:Oper) (j:Nat):Bool:=match ops[j]? with
 |some oj=>o.apart ops oj
 |none=>true
def J8 (ops:Array Oper):List Nat→List (Nat×Nat)→Bool
 |ls,[]=>(List.range ops.size).all fun j => !C0 ops.toList ls j
 |ls,(i,F)::r=>C0 ops.toList ls i && !F.testBit i&&(match ops[i]? with
   |some o=>(List.range ops.size).all fun j=>j==i||ls.contains j||(if F.testBit j then c9k ops o j else !C0 ops.toList (ls++(List.range ops.size).filter F.testBit) j)
   |none=>false)&&J8 ops (i::ls) r
def codeOk (plan:Nat→List (Nat×Nat)):Code→Bool
 | .region id ops draw => !draw||(decide ((plan id).length≤ops.size)&&J8 ops [] (plan id))
 | .seq a b=>codeOk plan a&&codeOk plan b
 | .cond _ a b=>codeOk plan a&&codeOk plan b
 | .block _ b=>codeOk plan b
 | .loop b=>codeOk plan b
 |_=>true
def vc (ctx:Ctx) (L:Locks) (cl:CallT):Code→St→(Ex→St→Prop)→Prop
 | .skip,σ,Q=>Q .normal σ
 | .region id ops draw,σ,Q=>if draw then b8s ctx L cl id ops.toList σ (Q .normal)else c5E ctx L cl ops.toList 0 ops.toList σ (Q .normal)
 | .seq a b,σ,Q=>match ctx.cut (a4s b)with
  |none=>vc ctx L cl a σ fun e σ'=>match e with
   | .normal=>vc ctx L cl b σ' Q
   |e=>Q e σ'
  |some A=>(vc ctx L cl a σ fun e σ'=>match e with
   | .normal=>b2w A.prep σ' (LoopIn A σ)
   |e=>Q e σ') ∧ ∀i:A.ι,A.cond σ i ()→vc ctx L cl b (A.st σ i) Q
 | .cond c a b,σ,Q=>match ev σ.tm c with
  | .one (.att (.bool .tt))=>vc ctx L cl a σ Q
  | .one (.att (.bool .ff))=>vc ctx L cl b σ Q
  | .one (.att (.bool (.of f)))=>(f ()=true→vc ctx L cl a σ Q)∧(f ()=false→vc ctx L cl b σ Q)
  |_=>False
 | .block id b,σ,Q=>vc ctx L cl b σ fun e σ'=>match e with
  | .exit id'=>if id'=id then Q .normal σ' else Q (.exit id') σ'
  |e=>Q e σ'
 | .loop b,σ,Q=>match ctx.an (a4s b)with
  |some A=>b2w A.prep σ (LoopIn A σ) ∧
    ∀i:A.ι,A.cond σ i ()→vc ctx L cl b (A.st σ i) fun e σ'=>match e with
     | .normal=>b2w A.prep σ' (LoopBack A σ i)
     |e=>Q e σ'
  |none=>False
 | .exit id,σ,Q=>Q (.exit id) σ
 | .ret,σ,Q=>Q .ret σ
 |_,_,_=>False
def K8 (rs:List ResultVar) (ctx:Ctx) (tm:Tr V):M (List V) :=
 match rs with
 |[] => .ret []
 | .tmp t::r=>(K8 r ctx tm).bind fun l => .ret (tm.get t::l)
 | .cell a T::r=>match tm.get a with
  | .one p=>(c1Q p (ctx.ty.get T).cells).bind fun cs=>(mkV (ctx.ty.get T).d cs).bind fun v=>(K8 r ctx tm).bind fun l => .ret (v::l)
  |_ => .fail
def tupV:List V→V
 |[v]=>v
 |vs => .tup vs
def a1x:Nat→List V→Tr V
 |_,[] => .leaf
 |i,v::vs=>(a1x (i+1) vs).set i v
structure Env0 where
 ty:Tr TyI
 spec:Nat→Option SpecX
 inl:Nat→Option Func
 plan:Nat→Nat→List (Nat×Nat)
 an:Nat→Nat→Option Ann
 cut:Nat→Nat→Option Ann
def d1X (a:Nat→Nat→Option Ann) (f off i:Nat):Option Ann:=match a f i with
 |some A=>some A
 |none=>a (f+1000000 * off) i
def Env0.ctx (E:Env0) (f off nt:Nat):Ctx:=⟨E.ty,off,nt,E.spec,E.plan f,d1X E.an f off,d1X E.cut f off⟩
def d3D (ctx:Ctx) (L:Locks) (rs:List ResultVar) (K:V→St→Prop) (e:Ex) (σ : St):Prop :=
 match e with
 | .exit _=>False
 |_=>(K8 rs ctx σ.tm).wp L σ.hp fun vs hp=>match σ.up with
  |tm::up=>K (tupV vs) ⟨tm,hp,up⟩
  |[]=>False
def a3g (E:Env0) (L:Locks):Nat→CallT
 | 0,_,_,_,_,_=>False
 |n+1,key,f,args,σ,K=>match E.spec f with
  |some s=>(a2h s (512 * (key+1)+256) args).wp L σ.hp fun v hp=>K v ⟨σ.tm,hp,σ.up⟩
  |none=>match E.inl f with
   |some fn=>match fn.body with
    |some c=>if !decide (args.length≤fn.ntmps)then False else vc (E.ctx f (512 * (key+1)) fn.ntmps) L (a3g E L n) c ⟨a1x 0 args,σ.hp,σ.tm :: σ.up⟩ (d3D (E.ctx f 0 0) L fn.results.toList K)
    |none=>False
   |none=>False
def finC (keep:Bool) (o:Option RT) (c:C):M C :=
 match c with
 | .own k v => .get k fun e=>match e with
  |(v',.row dp _ t l)=>if v=v' then(if keep then(if dp then .set k (v+1,.dead) (.ret (.ownd t l))else .fail)else .set k (v,.ro t l) (.ret (.att (.list t l))))else .fail
  |(v',.ro t l)=>if v=v' then .ret (.att (.list t l))else .fail
  |_ => .fail
 | .att a => .ret (.att (d1O a))
 | .nil=>match o with
  |some t=>if keep then .ret (.ownd t fun _ => [])else .ret (.att (.list t fun _ => []))
  |none => .ret .nil
 |_ => .ret .unk
def b0T (keep:Bool):List (Option RT)→List C→M (List C)
 |_,[] => .ret []
 |[],c::cs=>(finC keep none c).bind fun x=>(b0T keep [] cs).bind fun r => .ret (x::r)
 |o::os,c::cs=>(finC keep o c).bind fun x=>(b0T keep os cs).bind fun r => .ret (x::r)
def hd1:List (Option RT)→Option RT
 |o::_=>o
 |[]=>none
def finB (keep:Bool) (os:List (Option RT)) (c:C):M C :=
 match c with
 | .ptr k v j => .get k fun e=>match e with
  |(v',.var false cs)=>M.guard (v==v'&&j==0) (.set k (v+1,.dead) ((b0u cs).bind fun ds => .ret (.box ds)))
  |_ => .fail
 |c=>finC keep (hd1 os) c
def finV (keep:Bool) (os:List (Option RT)) (v:V):M V :=
 match v with
 | .one c=>(finB keep os c).bind fun c => .ret (.one c)
 | .agg cs=>(b0T keep os cs).bind fun cs => .ret (.agg cs)
 | .tup _ => .fail
def a4I (keep:Bool):List (List (Option RT))→List V→M (List V)
 |_,[] => .ret []
 |[],v::vs=>(finV keep [] v).bind fun x=>(a4I keep [] vs).bind fun r => .ret (x::r)
 |os::oss,v::vs=>(finV keep os v).bind fun x=>(a4I keep oss vs).bind fun r => .ret (x::r)
def b7q (s:Spec) (b:Th (List Int)) (u:V) (K:V×Th Int→Prop) (hp:Hp):Prop :=
 match s.box with
 |false=>K (u,fun _=>0)
 |true=>match hp.get 0 with
  |(_,.var _ [.att (.list .byte b'),.att (.int .i64 p')])=>(Ob fun _=>b' ()=b ())∧K (u,p')
  |_=>False
def finF (ctx:Ctx) (rs:List ResultVar) (s:Spec) (b:Th (List Int)) (K:V×Th Int→Prop) (e:Ex) (σ : St):Prop :=
 match e with
 | .exit _=>False
 |_=>((K8 rs ctx σ.tm).bind fun vs=>a4I s.keep s.rets vs).wp ⟨[],[]⟩ σ.hp fun us hp=>b7q s b (tupV us) K hp
def vcFn (E:Env0) (n f:Nat) (fn:Func) (s:Spec) (b:Th (List Int)) (p:Th Int) (x:Args s.pars) (K:V×Th Int→Prop):Prop :=
 match fn.body with
 |some c=>if !decide (s.pars.length+1≤fn.ntmps)then False else match s.box with
  |false=>vc (E.ctx f 1 fn.ntmps) ⟨[],[]⟩ (a3g E ⟨[],[]⟩ n) c ⟨a1x 0 (a0v s.pars x),.leaf,[]⟩ (finF (E.ctx f 0 0) fn.results.toList s b K)
  |true=>vc (E.ctx f 1 fn.ntmps) ⟨[],[]⟩ (a3g E ⟨[],[]⟩ n) c ⟨a1x 0 (.one (.ptr 0 1 0)::a0v s.pars x),Tr.set .leaf 0 (1,.var true (rdC b p)),[]⟩ (finF (E.ctx f 0 0) fn.results.toList s b K)
 |none=>False
end Go.Sx
