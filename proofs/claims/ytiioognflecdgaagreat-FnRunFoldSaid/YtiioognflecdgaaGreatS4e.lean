/-
  Tables of a program; contracts one by one; results told.
-/
import Derived.Test.YtiioognflecdgaaGreatS4d
import Derived.IntWalk
set_option linter.unusedVariables false
set_option linter.unusedSimpArgs false
namespace Go.Sx
structure Tab where
 ty:Tr TyI
 fns:Nat→Option Func
 plan:Nat→Nat→List (Nat×Nat)
def b2G:List (Nat×SpecX)→Nat→Option SpecX
 |[],_=>none
 |(g,s)::r,f=>if g=f then some s else b2G r f
abbrev noAnn:Nat→Nat→Option Ann:=fun _ _=>none
def Tab.env (T:Tab) (ss:List (Nat×SpecX)) (an cut:Nat→Nat→Option Ann):Env0:=⟨T.ty,b2G ss,T.fns,T.plan,an,cut⟩
structure TabOk (P:Program) (T:Tab):Prop where
 mix:P.follows .mixedOrders=true
 ty:TyOk P T.ty
 fns : ∀ f fn, T.fns f = some fn → P.funcs[f]? = some fn ∧ (fn.name == "runtime.NumGoroutine") = false ∧ a0V (T.plan f) fn = true
theorem TabOk.env {P:Program} {T:Tab} (h:TabOk P T) {ss:List (Nat×SpecX)} (hs:Z4 P (b2G ss)) (an cut:Nat→Nat→Option Ann):EnvOk P (T.env ss an cut):=⟨h.mix,h.ty,h.fns,hs⟩
theorem c3h {P:Program}:Z4 P (b2G []):=fun f s h=>by cases h
def b6 (P:Program) (f:Nat) (s:SpecX):Prop := ∀L kb,ClOk P fun _ f' args σ K=>f'=f∧(a2h s kb args).wp L σ.hp fun v hp=>K v ⟨σ.tm,hp,σ.up⟩
def a6M (P:Program):List (Nat×SpecX)→Prop
 |[]=>True
 |(f,s)::r=>b6 P f s∧a6M P r
theorem a6Y {P:Program} : ∀ {ss:List (Nat×SpecX)},a6M P ss→Z4 P (b2G ss)
 |[],_=>c3h
 |(f,s)::r,h=>fun g t hg=>by
  simp only[b2G]at hg
  split at hg
  ·rename_i he
   subst he
   cases hg
   exact h.1
  ·exact a6Y h.2 g t hg
theorem j3 {P:Program} {T:Tab} (h:TabOk P T) {ss:List (Nat×SpecX)} (hs:a6M P ss) {f:Nat} {fn:Func} {c:Code} {s:Spec} (hfn:T.fns f=some fn) (hc:fn.body=some c) (hv:c2G (T.env ss) f fn s):b6 P f s:=by
 obtain⟨h1,h2,h3⟩:=h.fns f fn hfn
 exact b8B (h.env (a6Y hs)) h1 hc h2 (fun _ _=>h3) hv
def Tr.AllP {α : Type} (Q:Nat → α → Prop):Tr α → Nat→Nat→Prop
 | .leaf,_,_=>True
 | .node v l r,a,m=>Q a v∧AllP Q l (a+m) (2 * m)∧AllP Q r (a+2 * m) (2 * m)
theorem Tr.a6K {α : Type} [Inhabited α] {Q:Nat → α → Prop} : ∀(t:Tr α) (a m:Nat),AllP Q t a m → ∀k,t.get k=default∨Q (a+m * k) (t.get k)
 | .leaf,a,m,_,k => .inl rfl
 | .node v l r,a,m,h,0 => .inr (by simpa [Tr.get]using h.1)
 | .node v l r,a,m,h,k+1=>by
  simp only[Tr.get]
  have hk:=Nat.div_add_mod k 2
  split
  ·rename_i h0
   have:=Tr.a6K l (a+m) (2 * m) h.2.1 (k / 2)
   have e:a+m+2 * m * (k / 2)=a+m * (k+1):=by
    have:m * (2 * (k / 2))=m * k:=by congr 1;omega
    rw[Nat.mul_add,Nat.mul_one,←this,Nat.mul_comm 2 m,Nat.mul_assoc];omega
   rw[e]at this
   exact this
  ·rename_i h0
   have:=Tr.a6K r (a+2 * m) (2 * m) h.2.2 (k / 2)
   have e:a+2 * m+2 * m * (k / 2)=a+m * (k+1):=by
    have:m * (2 * (k / 2)+1)=m * k:=by congr 1;omega
    rw[Nat.mul_add,Nat.mul_one,←this,Nat.mul_add,Nat.mul_one,Nat.mul_comm 2 m,Nat.mul_assoc];omega
   rw[e]at this
   exact this
def b9G:TyI→Bool
 |⟨.other,0,0,[],none,false,[]⟩=>true
 |_=>false
theorem c4q {i:TyI} (h:b9G i=true):i=default:=by
 unfold b9G at h
 split at h
 ·rfl
 ·cases h
def b5q (P:Program):Tr TyI→Nat→Nat→Bool
 | .leaf,_,_=>true
 | .node v l r,a,m=>(b9G v||a3h P a v)&&b5q P l (a+m) (2 * m)&&b5q P r (a+2 * m) (2 * m)
theorem b3y {P:Program} : ∀(t:Tr TyI) (a m:Nat),b5q P t a m=true→Tr.AllP (fun a v=>v=default∨a3h P a v=true) t a m
 | .leaf,_,_,_=>trivial
 | .node v l r,a,m,h=>by
  simp only[b5q,Bool.and_eq_true,Bool.or_eq_true]at h
  exact⟨h.1.1.imp c4q id,b3y l _ _ h.1.2,b3y r _ _ h.2⟩
theorem c5H {P:Program} {t:Tr TyI} (h:b5q P t 0 1=true):TyOk P t:=fun T=>by
 rcases Tr.a6K t 0 1 (b3y t 0 1 h) T with h1|h1
 ·exact .inl h1
 ·rcases h1 with h1|h1
  ·exact .inl h1
  ·exact .inr (by simpa using h1)
def FnQ (P : Program) (plan : Nat → Nat → List (Nat × Nat)) (a : Nat) (v : Unit → Option Func) : Prop := v () = none ∨ ∃ fn, v () = some fn ∧ P.funcs[a]? = some fn ∧ (fn.name == "runtime.NumGoroutine") = false ∧ a0V (plan a) fn = true
theorem fnAll_ok {P : Program} {plan : Nat → Nat → List (Nat × Nat)} {t : Tr (Unit → Option Func)} (h : Tr.AllP (FnQ P plan) t 0 1) : ∀ f fn, t.get f () = some fn → P.funcs[f]? = some fn ∧ (fn.name == "runtime.NumGoroutine") = false ∧ a0V (plan f) fn = true := by
 intro f fn hf
 rcases Tr.a6K t 0 1 h f with h1|h1
 ·rw[h1]at hf
  have h2:(none:Option Func)=some fn:=hf
  cases h2
 ·rcases h1 with h1|⟨fn',h1,h2⟩
  ·rw[hf]at h1
   cases h1
  ·rw[hf]at h1
   cases h1
   simpa using h2
def annL:List (Nat×Nat×Ann)→Nat→Nat→Option Ann
 |[],_,_=>none
 |(g,j,A)::r,f,i=>if g=f∧j=i then some A else annL r f i
def vI (n:Th Int):V := .one (.att (.int .i64 n))
def vB (b:Th Bool):V := .one (.att (.bool (.of b)))
def vO (k v:Nat):V := .one (.own k v)
def vL (t:RT) (l:Th (List t.ty)):V := .one (.att (.list t l))
def vW (t:RT) (l:Th (List t.ty)):V := .one (.ownd t l)
def cI (n:Int):C := .att (.int .i64 fun _=>n)
def oA:A→C
 | .list t l => .ownd t l
 |a => .att a
def oAs (as:List A):V := .agg (as.map oA)
def rAs (as:List A):V := .agg (as.map .att)
def oMap (m:Th PMap):V:=oAs (b0Y m)
def oWlk (w:Th Wlk):V:=oAs (b4S w)
def oOrd (o:Th Ord):V:=oAs (b0W o)
def oPcl (p:Th Pcl):V:=oAs (b4V p)
def oRec (r:Th Rec):V:=oAs (b4U r)
def oCll (c:Th Cll):V:=oAs (b0Z c)
def rCll (c:Th Cll):V:=rAs (b0Z c)
def oSto (c:Th Sto):V:=oAs (b4T c)
def oHld (c:Th Hld):V:=oAs (b4X c)
def oGst (c:Th Gst):V:=oAs (b4Y c)
def oArb (c:Th Arb):V:=oAs (b1a c)
def oMsg (c:Th Msg):V:=oAs (b4W c)
def oSrv (c:Th Srv):V:=oAs (a5j c)
def oRow (c:Th Row):V:=oAs (b0V c)
def d1L (c:Th Note):V:=oAs (a8O c)
def oEvt (c:Th Evt):V:=oAs (b4Z c)
def oOW (c:Th OW):V:=oAs (c2u c)
def oOne (c:Th One):V:=oAs (b0X c)
def oWld (c:Th Wld):V:=oAs (W7 c)
def nCll:List (Option RT) := [none,some .wlk,none,some .pcls,some .int,some .int]
def nSto:List (Option RT):=none::nCll ++ [some .rcd]
def nHld:List (Option RT):=none::none::nCll
def St.t (σ : St) (d:Nat) (v:V):St:=⟨σ.tm.set d v,σ.hp,σ.up⟩
def St.h (σ : St) (k:Nat) (x:Nat×Ch):St:=⟨σ.tm,σ.hp.set k x,σ.up⟩
def St.v5 (σ : St) (k j:Nat) (c:C):St:=match σ.hp.get k with
 |(v,.var bx cs)=>⟨σ.tm,σ.hp.set k (v,.var bx (cs.set j c)),σ.up⟩
 |_ => σ
def keyC (k:Nat):C→Bool
 | .own k' _=>k'==k
 | .pref k' _ _ _ _ _=>k'==k
 | .pp k' _ _ _ _ _=>k'==k
 |_=>false
def d1b (k:Nat) (v:V):V :=
 match v with
 | .one c=>if keyC k c then .one .unk else .one c
 | .agg cs => .agg (cs.map fun c=>if keyC k c then .unk else c)
 |v=>v
def b0P (k:Nat):Tr V→Tr V
 | .leaf => .leaf
 | .node v l r => .node (d1b k v) (b0P k l) (b0P k r)
def St.fg (σ : St) (k:Nat):St:=⟨b0P k σ.tm,σ.hp,σ.up⟩
def St.int (σ : St) (d:Nat):Int:=match σ.tm.get d with
 | .one (.att (.int _ n))=>n ()
 |_=>0
def St.nat (σ : St) (d:Nat):Nat:=(σ.int d).toNat
def St.row (σ : St) (k v:Nat) (t:RT) (l:Th (List t.ty)):St := σ.h k (v,.row true 0 t l)
theorem retK {α : Type _} {K : α → Prop} {x y : α} (h:K x) (he:y=x):K y:=he▸h
theorem b1l {t:RT} (h:t=t) (l:Th (List t.ty)):Q9 h l=l:=rfl
theorem a8 {α : Type} (m:Th α) : ∃x,m=fun _=>x:=⟨m (),rfl⟩
theorem b5u {α : Type} {a b : α}:((fun _:Unit=>a)=fun _=>b)↔a=b:=⟨fun h=>congrFun h (),fun h=>by rw[h]⟩
theorem a8X {α : Type} {a b : α}:((fun _:PUnit.{1}=>a)=fun _=>b)↔a=b:=⟨fun h=>congrFun h .unit,fun h=>by rw[h]⟩
theorem b8 {n:Int} (h1 : -9223372036854775808≤n) (h2:n≤9223372036854775807):IntKind.i64.wrap n=n:=by
 have := @IntWalk.i64_in n ⟨h1,h2⟩
 exact this
theorem c2o (m:PMap):(⟨m.cells,m.width⟩:PMap)=m:=rfl
theorem c2e (w:Wlk):(⟨w.id,w.pos,w.n0,w.seq,w.last⟩:Wlk)=w:=rfl
theorem c2l (o:Ord):(⟨o.who,o.seq,o.kind,o.dest,o.n⟩:Ord)=o:=rfl
theorem c2k (p:Pcl):(⟨p.n,p.kind,p.wlk,p.n0⟩:Pcl)=p:=rfl
theorem c2s (c:Cll):(⟨c.cell,c.wlks,c.ground,c.outs,c.next,c.ins⟩:Cll)=c:=rfl
theorem c2j (r:Rec):(⟨r.kind,r.ord,r.side,r.pcl,r.n⟩:Rec)=r:=rfl
theorem c2g (s:Sto):(⟨s.age,s.base,s.recs⟩:Sto)=s:=rfl
theorem c2p (h:Hld):(⟨h.age,h.count,h.state⟩:Hld)=h:=rfl
theorem c2q (g:Gst):(⟨g.src,g.count,g.wlk⟩:Gst)=g:=rfl
theorem c2t (a:Arb):(⟨a.servers,a.ages⟩:Arb)=a:=rfl
theorem c2n (m:Msg):(⟨m.kind,m.dest,m.cell,m.side,m.n,m.ord,m.pcl,m.gst⟩:Msg)=m:=rfl
theorem c2h (s:Srv):(⟨s.up,s.holds,s.n6⟩:Srv)=s:=rfl
theorem c2i (r:Row):(⟨r.who,r.cell,r.busy,r.ord,r.seq,r.code⟩:Row)=r:=rfl
theorem b7Y (n:Note):(⟨n.who,n.seq,n.code⟩:Note)=n:=rfl
theorem c2r (e:Evt):(⟨e.kind,e.pos,e.what,e.dest,e.n⟩:Evt)=e:=rfl
theorem c8r (w:OW):(⟨w.wlk,w.here⟩:OW)=w:=rfl
theorem c2m (o:One):(⟨o.map,o.wlks,o.ground,o.air⟩:One)=o:=rfl
theorem c2f (w:Wld):(⟨w.map,w.servers,w.stores,w.table,w.rows,w.net,w.notes⟩:Wld)=w:=rfl
theorem c7t (k:IntKind) (n:Th Int):oA (.int k n) = .att (.int k n):=rfl
theorem c1K (b:SB):oA (.bool b) = .att (.bool b):=rfl
theorem c1J (t:RT) (l:Th (List t.ty)):oA (.list t l) = .ownd t l:=rfl
theorem fin0:type_of% (And.intro @vB.eq_1 (And.intro @vI.eq_1 (And.intro @vL.eq_1 (And.intro @vW.eq_1 (And.intro @cI.eq_1 (And.intro @oAs.eq_1 (And.intro @rAs.eq_1 (And.intro @rCll.eq_1 (And.intro @oMap.eq_1 (And.intro @oWlk.eq_1 (And.intro @oOrd.eq_1 (And.intro @oPcl.eq_1 (And.intro @oRec.eq_1 (And.intro @oCll.eq_1 (And.intro @oSto.eq_1 (And.intro @oHld.eq_1 (And.intro @oGst.eq_1 (And.intro @oArb.eq_1 (And.intro @oMsg.eq_1 (And.intro @oSrv.eq_1 (And.intro @oRow.eq_1 (And.intro @d1L.eq_1 (And.intro @oEvt.eq_1 (And.intro @oOW.eq_1 (And.intro @oOne.eq_1 (And.intro @oWld.eq_1 (And.intro @b0Y.eq_1 (And.intro @b4S.eq_1 (And.intro @b0W.eq_1 (And.intro @b4V.eq_1 (And.intro @b4U.eq_1 (And.intro @b0Z.eq_1 (And.intro @b4T.eq_1 (And.intro @b4X.eq_1 (And.intro @b4Y.eq_1 (And.intro @b1a.eq_1 (And.intro @b4W.eq_1 (And.intro @a5j.eq_1 (And.intro @b0V.eq_1 (And.intro @a8O.eq_1 (And.intro @b4Z.eq_1 (And.intro @c2u.eq_1 (And.intro @b0X.eq_1 (And.intro @W7.eq_1 (And.intro @c7t (And.intro @c1K (And.intro @c1J (And.intro @List.map_cons.{0,0} (And.intro @List.map_nil.{0,0} (And.intro @C.ownd.injEq (And.intro @A.list.injEq (And.intro @heq_eq_eq.{1} (And.intro @SB.val.eq_1 (And.intro @SB.val.eq_2 (And.intro @SB.val.eq_3 (And.intro @Prod.mk.injEq.{0,0} (And.intro @V.one.injEq (And.intro @V.agg.injEq (And.intro @V.tup.injEq (And.intro @List.cons.injEq.{0} (And.intro @C.att.injEq (And.intro @A.bool.injEq (And.intro @A.int.injEq (And.intro @SB.of.injEq (And.intro @b5u (And.intro @a8X (And.intro @and_true (@true_and)))))))))))))))))))))))))))))))))))))))))))))))))))))))))))))))))))) :=
 And.intro @vB.eq_1 (And.intro @vI.eq_1 (And.intro @vL.eq_1 (And.intro @vW.eq_1 (And.intro @cI.eq_1 (And.intro @oAs.eq_1 (And.intro @rAs.eq_1 (And.intro @rCll.eq_1 (And.intro @oMap.eq_1 (And.intro @oWlk.eq_1 (And.intro @oOrd.eq_1 (And.intro @oPcl.eq_1 (And.intro @oRec.eq_1 (And.intro @oCll.eq_1 (And.intro @oSto.eq_1 (And.intro @oHld.eq_1 (And.intro @oGst.eq_1 (And.intro @oArb.eq_1 (And.intro @oMsg.eq_1 (And.intro @oSrv.eq_1 (And.intro @oRow.eq_1 (And.intro @d1L.eq_1 (And.intro @oEvt.eq_1 (And.intro @oOW.eq_1 (And.intro @oOne.eq_1 (And.intro @oWld.eq_1 (And.intro @b0Y.eq_1 (And.intro @b4S.eq_1 (And.intro @b0W.eq_1 (And.intro @b4V.eq_1 (And.intro @b4U.eq_1 (And.intro @b0Z.eq_1 (And.intro @b4T.eq_1 (And.intro @b4X.eq_1 (And.intro @b4Y.eq_1 (And.intro @b1a.eq_1 (And.intro @b4W.eq_1 (And.intro @a5j.eq_1 (And.intro @b0V.eq_1 (And.intro @a8O.eq_1 (And.intro @b4Z.eq_1 (And.intro @c2u.eq_1 (And.intro @b0X.eq_1 (And.intro @W7.eq_1 (And.intro @c7t (And.intro @c1K (And.intro @c1J (And.intro @List.map_cons.{0,0} (And.intro @List.map_nil.{0,0} (And.intro @C.ownd.injEq (And.intro @A.list.injEq (And.intro @heq_eq_eq.{1} (And.intro @SB.val.eq_1 (And.intro @SB.val.eq_2 (And.intro @SB.val.eq_3 (And.intro @Prod.mk.injEq.{0,0} (And.intro @V.one.injEq (And.intro @V.agg.injEq (And.intro @V.tup.injEq (And.intro @List.cons.injEq.{0} (And.intro @C.att.injEq (And.intro @A.bool.injEq (And.intro @A.int.injEq (And.intro @SB.of.injEq (And.intro @b5u (And.intro @a8X (And.intro @and_true (@true_and)))))))))))))))))))))))))))))))))))))))))))))))))))))))))))))))))))
theorem eta0:type_of% (And.intro @c2o (And.intro @c2e (And.intro @c2l (And.intro @c2k (And.intro @c2j (And.intro @c2s (And.intro @c2g (And.intro @c2p (And.intro @c2q (And.intro @c2t (And.intro @c2n (And.intro @c2h (And.intro @c2i (And.intro @b7Y (And.intro @c2r (And.intro @c8r (And.intro @c2m (And.intro @c2f (And.intro @Int.toNat_natCast (And.intro @Nat.succ_eq_add_one (And.intro @decide_eq_true_eq (And.intro @decide_eq_false_iff_not (And.intro @Int.ofNat_lt (And.intro @Int.ofNat_le (And.intro @Int.natCast_pos (And.intro @Bool.not_eq_true' (And.intro @Bool.not_eq_false' (And.intro @b1l (And.intro @SB.val.eq_1 (And.intro @SB.val.eq_2 (And.intro @SB.val.eq_3 (And.intro @evT.eq_1 (And.intro @evT.eq_2 (And.intro @List.length_append.{0} (And.intro @List.length_cons.{0} (@List.length_nil.{0})))))))))))))))))))))))))))))))))))) :=
 And.intro @c2o (And.intro @c2e (And.intro @c2l (And.intro @c2k (And.intro @c2j (And.intro @c2s (And.intro @c2g (And.intro @c2p (And.intro @c2q (And.intro @c2t (And.intro @c2n (And.intro @c2h (And.intro @c2i (And.intro @b7Y (And.intro @c2r (And.intro @c8r (And.intro @c2m (And.intro @c2f (And.intro @Int.toNat_natCast (And.intro @Nat.succ_eq_add_one (And.intro @decide_eq_true_eq (And.intro @decide_eq_false_iff_not (And.intro @Int.ofNat_lt (And.intro @Int.ofNat_le (And.intro @Int.natCast_pos (And.intro @Bool.not_eq_true' (And.intro @Bool.not_eq_false' (And.intro @b1l (And.intro @SB.val.eq_1 (And.intro @SB.val.eq_2 (And.intro @SB.val.eq_3 (And.intro @evT.eq_1 (And.intro @evT.eq_2 (And.intro @List.length_append.{0} (And.intro @List.length_cons.{0} (@List.length_nil.{0})))))))))))))))))))))))))))))))))))
end Go.Sx
