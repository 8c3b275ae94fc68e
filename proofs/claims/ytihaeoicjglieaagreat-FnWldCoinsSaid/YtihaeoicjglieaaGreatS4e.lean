/-
  Tables of a program; contracts one by one; results told.
-/
import Derived.Test.YtihaeoicjglieaaGreatS4d
import Derived.IntWalk
set_option linter.unusedVariables false
set_option linter.unusedSimpArgs false
namespace Go.Sx
structure Tab where
 ty:Tr TyI
 fns:Nat→Option Func
 plan:Nat→Nat→List (Nat×Nat)
def b4x:List (Nat×SpecX)→Nat→Option SpecX
 |[],_=>none
 |(g,s)::r,f=>if g=f then some s else b4x r f
abbrev noAnn:Nat→Nat→Option Ann:=fun _ _=>none
def Tab.env (T:Tab) (ss:List (Nat×SpecX)) (an cut:Nat→Nat→Option Ann):Env0:=⟨T.ty,b4x ss,T.fns,T.plan,an,cut⟩
structure TabOk (P:Program) (T:Tab):Prop where
 mix:P.follows .mixedOrders=true
 ty:TyOk P T.ty
 fns : ∀ f fn, T.fns f = some fn → P.funcs[f]? = some fn ∧ (fn.name == "runtime.NumGoroutine") = false ∧ a1R (T.plan f) fn = true
theorem TabOk.env {P:Program} {T:Tab} (h:TabOk P T) {ss:List (Nat×SpecX)} (hs:a0I P (b4x ss)) (an cut:Nat→Nat→Option Ann):EnvOk P (T.env ss an cut):=⟨h.mix,h.ty,h.fns,hs⟩
theorem c6o {P:Program}:a0I P (b4x []):=fun f s h=>by cases h
def b8 (P:Program) (f:Nat) (s:SpecX):Prop := ∀L kb,ClOk P fun _ f' args σ K=>f'=f∧(a3m s kb args).wp L σ.hp fun v hp=>K v ⟨σ.tm,hp,σ.up⟩
def a8l (P:Program):List (Nat×SpecX)→Prop
 |[]=>True
 |(f,s)::r=>b8 P f s∧a8l P r
theorem a8y {P:Program} : ∀ {ss:List (Nat×SpecX)},a8l P ss→a0I P (b4x ss)
 |[],_=>c6o
 |(f,s)::r,h=>fun g t hg=>by
  simp only[b4x]at hg
  split at hg
  ·rename_i he
   subst he
   cases hg
   exact h.1
  ·exact a8y h.2 g t hg
theorem j4 {P:Program} {T:Tab} (h:TabOk P T) {ss:List (Nat×SpecX)} (hs:a8l P ss) {f:Nat} {fn:Func} {c:Code} {s:Spec} (hfn:T.fns f=some fn) (hc:fn.body=some c) (hv:c5P (T.env ss) f fn s):b8 P f s:=by
 obtain⟨h1,h2,h3⟩:=h.fns f fn hfn
 exact c1l (h.env (a8y hs)) h1 hc h2 (fun _ _=>h3) hv
def Tr.AllP {α : Type} (Q:Nat → α → Prop):Tr α → Nat→Nat→Prop
 | .leaf,_,_=>True
 | .node v l r,a,m=>Q a v∧AllP Q l (a+m) (2 * m)∧AllP Q r (a+2 * m) (2 * m)
theorem Tr.a8i {α : Type} [Inhabited α] {Q:Nat → α → Prop} : ∀(t:Tr α) (a m:Nat),AllP Q t a m → ∀k,t.get k=default∨Q (a+m * k) (t.get k)
 | .leaf,a,m,_,k => .inl rfl
 | .node v l r,a,m,h,0 => .inr (by simpa [Tr.get]using h.1)
 | .node v l r,a,m,h,k+1=>by
  simp only[Tr.get]
  have hk:=Nat.div_add_mod k 2
  split
  ·rename_i h0
   have:=Tr.a8i l (a+m) (2 * m) h.2.1 (k / 2)
   have e:a+m+2 * m * (k / 2)=a+m * (k+1):=by
    have:m * (2 * (k / 2))=m * k:=by congr 1;omega
    rw[Nat.mul_add,Nat.mul_one,←this,Nat.mul_comm 2 m,Nat.mul_assoc];omega
   rw[e]at this
   exact this
  ·rename_i h0
   have:=Tr.a8i r (a+2 * m) (2 * m) h.2.2 (k / 2)
   have e:a+2 * m+2 * m * (k / 2)=a+m * (k+1):=by
    have:m * (2 * (k / 2)+1)=m * k:=by congr 1;omega
    rw[Nat.mul_add,Nat.mul_one,←this,Nat.mul_add,Nat.mul_one,Nat.mul_comm 2 m,Nat.mul_assoc];omega
   rw[e]at this
   exact this
def c2m:TyI→Bool
 |⟨.other,0,0,[],none,false,[]⟩=>true
 |_=>false
theorem c7A {i:TyI} (h:c2m i=true):i=default:=by
 unfold c2m at h
 split at h
 ·rfl
 ·cases h
def b7v (P:Program):Tr TyI→Nat→Nat→Bool
 | .leaf,_,_=>true
 | .node v l r,a,m=>(c2m v||a4i P a v)&&b7v P l (a+m) (2 * m)&&b7v P r (a+2 * m) (2 * m)
theorem b5s {P:Program} : ∀(t:Tr TyI) (a m:Nat),b7v P t a m=true→Tr.AllP (fun a v=>v=default∨a4i P a v=true) t a m
 | .leaf,_,_,_=>trivial
 | .node v l r,a,m,h=>by
  simp only[b7v,Bool.and_eq_true,Bool.or_eq_true]at h
  exact⟨h.1.1.imp c7A id,b5s l _ _ h.1.2,b5s r _ _ h.2⟩
theorem c9b {P:Program} {t:Tr TyI} (h:b7v P t 0 1=true):TyOk P t:=fun T=>by
 rcases Tr.a8i t 0 1 (b5s t 0 1 h) T with h1|h1
 ·exact .inl h1
 ·rcases h1 with h1|h1
  ·exact .inl h1
  ·exact .inr (by simpa using h1)
def FnQ (P : Program) (plan : Nat → Nat → List (Nat × Nat)) (a : Nat) (v : Unit → Option Func) : Prop := v () = none ∨ ∃ fn, v () = some fn ∧ P.funcs[a]? = some fn ∧ (fn.name == "runtime.NumGoroutine") = false ∧ a1R (plan a) fn = true
theorem fnAll_ok {P : Program} {plan : Nat → Nat → List (Nat × Nat)} {t : Tr (Unit → Option Func)} (h : Tr.AllP (FnQ P plan) t 0 1) : ∀ f fn, t.get f () = some fn → P.funcs[f]? = some fn ∧ (fn.name == "runtime.NumGoroutine") = false ∧ a1R (plan f) fn = true := by
 intro f fn hf
 rcases Tr.a8i t 0 1 h f with h1|h1
 ·rw[h1]at hf
  have h2:(none:Option Func)=some fn:=hf
  cases h2
 ·rcases h1 with h1|⟨fn',h1,h2⟩
  ·rw[hf]at h1
   cases h1
  ·rw[hf]at h1
   cases h1
   simpa using h2
def annL:List (Nat×Nat×Ann)→Nat→Nat→Option Ann
 |[],_,_=>none
 |(g,j,A)::r,f,i=>if g=f∧j=i then some A else annL r f i
def vI (n:Th Int):V := .one (.att (.int .i64 n))
def vB (b:Th Bool):V := .one (.att (.bool (.of b)))
def vO (k v:Nat):V := .one (.own k v)
def vL (t:RT) (l:Th (List t.ty)):V := .one (.att (.list t l))
def vW (t:RT) (l:Th (List t.ty)):V := .one (.ownd t l)
def cI (n:Int):C := .att (.int .i64 fun _=>n)
def oA:A→C
 | .list t l => .ownd t l
 |a => .att a
def oAs (as:List A):V := .agg (as.map oA)
def rAs (as:List A):V := .agg (as.map .att)
def oMap (m:Th PMap):V:=oAs (b2C m)
def oWlk (w:Th Wlk):V:=oAs (b6Z w)
def oOrd (o:Th Ord):V:=oAs (b2A o)
def oPcl (p:Th Pcl):V:=oAs (b7c p)
def oRec (r:Th Rec):V:=oAs (b7b r)
def oCll (c:Th Cll):V:=oAs (b2D c)
def rCll (c:Th Cll):V:=rAs (b2D c)
def oSto (c:Th Sto):V:=oAs (b7a c)
def oHld (c:Th Hld):V:=oAs (b7e c)
def oGst (c:Th Gst):V:=oAs (b7f c)
def oArb (c:Th Arb):V:=oAs (b2E c)
def oMsg (c:Th Msg):V:=oAs (b7d c)
def oSrv (c:Th Srv):V:=oAs (a6A c)
def oRow (c:Th Row):V:=oAs (b2z c)
def d5F (c:Th Note):V:=oAs (b0s c)
def oEvt (c:Th Evt):V:=oAs (b7g c)
def oOW (c:Th OW):V:=oAs (c5x c)
def oOne (c:Th One):V:=oAs (b2B c)
def oWld (c:Th Wld):V:=oAs (X0 c)
def nCll:List (Option RT) := [none,some .wlk,none,some .pcls,some .int,some .int]
def nSto:List (Option RT):=none::nCll ++ [some .rcd]
def nHld:List (Option RT):=none::none::nCll
def St.t (σ : St) (d:Nat) (v:V):St:=⟨σ.tm.set d v,σ.hp,σ.up⟩
def St.h (σ : St) (k:Nat) (x:Nat×Ch):St:=⟨σ.tm,σ.hp.set k x,σ.up⟩
def St.u7 (σ : St) (k j:Nat) (c:C):St:=match σ.hp.get k with
 |(v,.var bx cs)=>⟨σ.tm,σ.hp.set k (v,.var bx (cs.set j c)),σ.up⟩
 |_ => σ
def keyC (k:Nat):C→Bool
 | .own k' _=>k'==k
 | .pref k' _ _ _ _ _=>k'==k
 | .pp k' _ _ _ _ _=>k'==k
 |_=>false
def d4Q (k:Nat) (v:V):V :=
 match v with
 | .one c=>if keyC k c then .one .unk else .one c
 | .agg cs => .agg (cs.map fun c=>if keyC k c then .unk else c)
 |v=>v
def b2p (k:Nat):Tr V→Tr V
 | .leaf => .leaf
 | .node v l r => .node (d4Q k v) (b2p k l) (b2p k r)
def St.fg (σ : St) (k:Nat):St:=⟨b2p k σ.tm,σ.hp,σ.up⟩
def St.int (σ : St) (d:Nat):Int:=match σ.tm.get d with
 | .one (.att (.int _ n))=>n ()
 |_=>0
def St.nat (σ : St) (d:Nat):Nat:=(σ.int d).toNat
def St.row (σ : St) (k v:Nat) (t:RT) (l:Th (List t.ty)):St := σ.h k (v,.row true 0 t l)
theorem retK {α : Type _} {K : α → Prop} {x y : α} (h:K x) (he:y=x):K y:=he▸h
theorem b2P {t:RT} (h:t=t) (l:Th (List t.ty)):U5 h l=l:=rfl
theorem b6 {α : Type} (m:Th α) : ∃x,m=fun _=>x:=⟨m (),rfl⟩
theorem b7z {α : Type} {a b : α}:((fun _:Unit=>a)=fun _=>b)↔a=b:=⟨fun h=>congrFun h (),fun h=>by rw[h]⟩
theorem b0C {α : Type} {a b : α}:((fun _:PUnit.{1}=>a)=fun _=>b)↔a=b:=⟨fun h=>congrFun h .unit,fun h=>by rw[h]⟩
theorem e8 {n:Int} (h1 : -9223372036854775808≤n) (h2:n≤9223372036854775807):IntKind.i64.wrap n=n:=by
 have := @IntWalk.i64_in n ⟨h1,h2⟩
 exact this
theorem c5r (m:PMap):(⟨m.cells,m.width⟩:PMap)=m:=rfl
theorem c5h (w:Wlk):(⟨w.id,w.pos,w.j9,w.seq,w.last⟩:Wlk)=w:=rfl
theorem c5o (o:Ord):(⟨o.who,o.seq,o.kind,o.dest,o.n⟩:Ord)=o:=rfl
theorem c5n (p:Pcl):(⟨p.n,p.kind,p.wlk,p.j9⟩:Pcl)=p:=rfl
theorem c5v (c:Cll):(⟨c.cell,c.wlks,c.ground,c.outs,c.next,c.ins⟩:Cll)=c:=rfl
theorem c5m (r:Rec):(⟨r.kind,r.ord,r.side,r.pcl,r.n⟩:Rec)=r:=rfl
theorem c5j (s:Sto):(⟨s.age,s.base,s.recs⟩:Sto)=s:=rfl
theorem c5s (h:Hld):(⟨h.age,h.count,h.state⟩:Hld)=h:=rfl
theorem c5t (g:Gst):(⟨g.src,g.count,g.wlk⟩:Gst)=g:=rfl
theorem c5w (a:Arb):(⟨a.servers,a.ages⟩:Arb)=a:=rfl
theorem c5q (m:Msg):(⟨m.kind,m.dest,m.cell,m.side,m.n,m.ord,m.pcl,m.gst⟩:Msg)=m:=rfl
theorem c5k (s:Srv):(⟨s.up,s.holds,s.n9⟩:Srv)=s:=rfl
theorem c5l (r:Row):(⟨r.who,r.cell,r.busy,r.ord,r.seq,r.code⟩:Row)=r:=rfl
theorem c0s (n:Note):(⟨n.who,n.seq,n.code⟩:Note)=n:=rfl
theorem c5u (e:Evt):(⟨e.kind,e.pos,e.what,e.dest,e.n⟩:Evt)=e:=rfl
theorem d2g (w:OW):(⟨w.wlk,w.here⟩:OW)=w:=rfl
theorem c5p (o:One):(⟨o.map,o.wlks,o.ground,o.air⟩:One)=o:=rfl
theorem c5i (w:Wld):(⟨w.map,w.servers,w.stores,w.table,w.rows,w.net,w.notes⟩:Wld)=w:=rfl
theorem d0X (k:IntKind) (n:Th Int):oA (.int k n) = .att (.int k n):=rfl
theorem c4K (b:SB):oA (.bool b) = .att (.bool b):=rfl
theorem c4J (t:RT) (l:Th (List t.ty)):oA (.list t l) = .ownd t l:=rfl
theorem fin0:type_of% (And.intro @vB.eq_1 (And.intro @vI.eq_1 (And.intro @vL.eq_1 (And.intro @vW.eq_1 (And.intro @cI.eq_1 (And.intro @oAs.eq_1 (And.intro @rAs.eq_1 (And.intro @rCll.eq_1 (And.intro @oMap.eq_1 (And.intro @oWlk.eq_1 (And.intro @oOrd.eq_1 (And.intro @oPcl.eq_1 (And.intro @oRec.eq_1 (And.intro @oCll.eq_1 (And.intro @oSto.eq_1 (And.intro @oHld.eq_1 (And.intro @oGst.eq_1 (And.intro @oArb.eq_1 (And.intro @oMsg.eq_1 (And.intro @oSrv.eq_1 (And.intro @oRow.eq_1 (And.intro @d5F.eq_1 (And.intro @oEvt.eq_1 (And.intro @oOW.eq_1 (And.intro @oOne.eq_1 (And.intro @oWld.eq_1 (And.intro @b2C.eq_1 (And.intro @b6Z.eq_1 (And.intro @b2A.eq_1 (And.intro @b7c.eq_1 (And.intro @b7b.eq_1 (And.intro @b2D.eq_1 (And.intro @b7a.eq_1 (And.intro @b7e.eq_1 (And.intro @b7f.eq_1 (And.intro @b2E.eq_1 (And.intro @b7d.eq_1 (And.intro @a6A.eq_1 (And.intro @b2z.eq_1 (And.intro @b0s.eq_1 (And.intro @b7g.eq_1 (And.intro @c5x.eq_1 (And.intro @b2B.eq_1 (And.intro @X0.eq_1 (And.intro @d0X (And.intro @c4K (And.intro @c4J (And.intro @List.map_cons.{0,0} (And.intro @List.map_nil.{0,0} (And.intro @C.ownd.injEq (And.intro @A.list.injEq (And.intro @heq_eq_eq.{1} (And.intro @SB.val.eq_1 (And.intro @SB.val.eq_2 (And.intro @SB.val.eq_3 (And.intro @Prod.mk.injEq.{0,0} (And.intro @V.one.injEq (And.intro @V.agg.injEq (And.intro @V.tup.injEq (And.intro @List.cons.injEq.{0} (And.intro @C.att.injEq (And.intro @A.bool.injEq (And.intro @A.int.injEq (And.intro @SB.of.injEq (And.intro @b7z (And.intro @b0C (And.intro @and_true (@true_and)))))))))))))))))))))))))))))))))))))))))))))))))))))))))))))))))))) :=
 And.intro @vB.eq_1 (And.intro @vI.eq_1 (And.intro @vL.eq_1 (And.intro @vW.eq_1 (And.intro @cI.eq_1 (And.intro @oAs.eq_1 (And.intro @rAs.eq_1 (And.intro @rCll.eq_1 (And.intro @oMap.eq_1 (And.intro @oWlk.eq_1 (And.intro @oOrd.eq_1 (And.intro @oPcl.eq_1 (And.intro @oRec.eq_1 (And.intro @oCll.eq_1 (And.intro @oSto.eq_1 (And.intro @oHld.eq_1 (And.intro @oGst.eq_1 (And.intro @oArb.eq_1 (And.intro @oMsg.eq_1 (And.intro @oSrv.eq_1 (And.intro @oRow.eq_1 (And.intro @d5F.eq_1 (And.intro @oEvt.eq_1 (And.intro @oOW.eq_1 (And.intro @oOne.eq_1 (And.intro @oWld.eq_1 (And.intro @b2C.eq_1 (And.intro @b6Z.eq_1 (And.intro @b2A.eq_1 (And.intro @b7c.eq_1 (And.intro @b7b.eq_1 (And.intro @b2D.eq_1 (And.intro @b7a.eq_1 (And.intro @b7e.eq_1 (And.intro @b7f.eq_1 (And.intro @b2E.eq_1 (And.intro @b7d.eq_1 (And.intro @a6A.eq_1 (And.intro @b2z.eq_1 (And.intro @b0s.eq_1 (And.intro @b7g.eq_1 (And.intro @c5x.eq_1 (And.intro @b2B.eq_1 (And.intro @X0.eq_1 (And.intro @d0X (And.intro @c4K (And.intro @c4J (And.intro @List.map_cons.{0,0} (And.intro @List.map_nil.{0,0} (And.intro @C.ownd.injEq (And.intro @A.list.injEq (And.intro @heq_eq_eq.{1} (And.intro @SB.val.eq_1 (And.intro @SB.val.eq_2 (And.intro @SB.val.eq_3 (And.intro @Prod.mk.injEq.{0,0} (And.intro @V.one.injEq (And.intro @V.agg.injEq (And.intro @V.tup.injEq (And.intro @List.cons.injEq.{0} (And.intro @C.att.injEq (And.intro @A.bool.injEq (And.intro @A.int.injEq (And.intro @SB.of.injEq (And.intro @b7z (And.intro @b0C (And.intro @and_true (@true_and)))))))))))))))))))))))))))))))))))))))))))))))))))))))))))))))))))
theorem eta0:type_of% (And.intro @c5r (And.intro @c5h (And.intro @c5o (And.intro @c5n (And.intro @c5m (And.intro @c5v (And.intro @c5j (And.intro @c5s (And.intro @c5t (And.intro @c5w (And.intro @c5q (And.intro @c5k (And.intro @c5l (And.intro @c0s (And.intro @c5u (And.intro @d2g (And.intro @c5p (And.intro @c5i (And.intro @Int.toNat_natCast (And.intro @Nat.succ_eq_add_one (And.intro @decide_eq_true_eq (And.intro @decide_eq_false_iff_not (And.intro @Int.ofNat_lt (And.intro @Int.ofNat_le (And.intro @Int.natCast_pos (And.intro @Bool.not_eq_true' (And.intro @Bool.not_eq_false' (And.intro @b2P (And.intro @SB.val.eq_1 (And.intro @SB.val.eq_2 (And.intro @SB.val.eq_3 (And.intro @evT.eq_1 (And.intro @evT.eq_2 (And.intro @List.length_append.{0} (And.intro @List.length_cons.{0} (@List.length_nil.{0})))))))))))))))))))))))))))))))))))) :=
 And.intro @c5r (And.intro @c5h (And.intro @c5o (And.intro @c5n (And.intro @c5m (And.intro @c5v (And.intro @c5j (And.intro @c5s (And.intro @c5t (And.intro @c5w (And.intro @c5q (And.intro @c5k (And.intro @c5l (And.intro @c0s (And.intro @c5u (And.intro @d2g (And.intro @c5p (And.intro @c5i (And.intro @Int.toNat_natCast (And.intro @Nat.succ_eq_add_one (And.intro @decide_eq_true_eq (And.intro @decide_eq_false_iff_not (And.intro @Int.ofNat_lt (And.intro @Int.ofNat_le (And.intro @Int.natCast_pos (And.intro @Bool.not_eq_true' (And.intro @Bool.not_eq_false' (And.intro @b2P (And.intro @SB.val.eq_1 (And.intro @SB.val.eq_2 (And.intro @SB.val.eq_3 (And.intro @evT.eq_1 (And.intro @evT.eq_2 (And.intro @List.length_append.{0} (And.intro @List.length_cons.{0} (@List.length_nil.{0})))))))))))))))))))))))))))))))))))
end Go.Sx
