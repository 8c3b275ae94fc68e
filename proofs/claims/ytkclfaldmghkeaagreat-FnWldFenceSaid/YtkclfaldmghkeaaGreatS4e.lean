/-
  Tables of a program; contracts one by one; results told.
-/
import Derived.Test.YtkclfaldmghkeaaGreatS4d
import Derived.IntWalk
set_option linter.unusedVariables false
set_option linter.unusedSimpArgs false
namespace Go.Sx
structure Tab where
 ty : Tr TyI
 fns : Nat → Option Func
 plan : Nat → Nat → List (Nat × Nat)
def b1Y : List (Nat × SpecX) → Nat → Option SpecX
 | [], _ => none
 | (g, s) :: r, f => if g = f then some s else b1Y r f
abbrev noAnn : Nat → Nat → Option Ann := fun _ _ => none
def Tab.env (T : Tab) (ss : List (Nat × SpecX)) (an cut : Nat → Nat → Option Ann) : Env0 := ⟨T.ty, b1Y ss, T.fns, T.plan, an, cut⟩
structure TabOk (P : Program) (T : Tab) : Prop where
 mix : P.follows .mixedOrders = true
 ty : TyOk P T.ty
 fns : ∀ f fn, T.fns f = some fn → P.funcs[f]? = some fn ∧ (fn.name == "runtime.NumGoroutine") = false ∧ a0I (T.plan f) fn = true
theorem TabOk.env {P : Program} {T : Tab} (h : TabOk P T) {ss : List (Nat × SpecX)} (hs : Y3 P (b1Y ss)) (an cut : Nat → Nat → Option Ann) : EnvOk P (T.env ss an cut) := ⟨h.mix, h.ty, h.fns, hs⟩
theorem c2b {P : Program} : Y3 P (b1Y []) := fun f s h => by cases h
def b8 (P : Program) (f : Nat) (s : SpecX) : Prop := ∀ L kb, ClOk P fun _ f' args σ K => f' = f ∧ (a1X s kb args).wp L σ.hp fun v hp => K v ⟨σ.tm, hp, σ.up⟩
def a6J (P : Program) : List (Nat × SpecX) → Prop
 | [] => True
 | (f, s) :: r => b8 P f s ∧ a6J P r
theorem a6X {P : Program} : ∀ {ss : List (Nat × SpecX)}, a6J P ss → Y3 P (b1Y ss)
 | [], _ => c2b
 | (f, s) :: r, h => fun g t hg => by
  simp only [b1Y] at hg
  split at hg
  ·rename_i he
   subst he
   cases hg
   exact h.1
  ·exact a6X h.2 g t hg
theorem j6 {P : Program} {T : Tab} (h : TabOk P T) {ss : List (Nat × SpecX)} (hs : a6J P ss) {f : Nat} {fn : Func} {c : Code} {s : Spec} (hfn : T.fns f = some fn) (hc : fn.body = some c) (hv : c1E (T.env ss) f fn s) : b8 P f s := by
 obtain ⟨h1, h2, h3⟩ := h.fns f fn hfn
 exact b7D (h.env (a6X hs)) h1 hc h2 (fun _ _ => h3) hv
def Tr.AllP {α : Type} (Q : Nat → α → Prop) : Tr α → Nat → Nat → Prop
 | .leaf, _, _ => True
 | .node v l r, a, m => Q a v ∧ AllP Q l (a + m) (2 * m) ∧ AllP Q r (a + 2 * m) (2 * m)
theorem Tr.a6G {α : Type} [Inhabited α] {Q : Nat → α → Prop} : ∀ (t : Tr α) (a m : Nat), AllP Q t a m → ∀ k, t.get k = default ∨ Q (a + m * k) (t.get k)
 | .leaf, a, m, _, k => .inl rfl
 | .node v l r, a, m, h, 0 => .inr (by simpa [Tr.get] using h.1)
 | .node v l r, a, m, h, k + 1 => by
  simp only [Tr.get]
  have hk := Nat.div_add_mod k 2
  split
  ·rename_i h0
   have := Tr.a6G l (a + m) (2 * m) h.2.1 (k / 2)
   have e : a + m + 2 * m * (k / 2) = a + m * (k + 1) := by
    have : m * (2 * (k / 2)) = m * k := by congr 1; omega
    rw [Nat.mul_add, Nat.mul_one, ← this, Nat.mul_comm 2 m, Nat.mul_assoc]; omega
   rw [e] at this
   exact this
  ·rename_i h0
   have := Tr.a6G r (a + 2 * m) (2 * m) h.2.2 (k / 2)
   have e : a + 2 * m + 2 * m * (k / 2) = a + m * (k + 1) := by
    have : m * (2 * (k / 2) + 1) = m * k := by congr 1; omega
    rw [Nat.mul_add, Nat.mul_one, ← this, Nat.mul_add, Nat.mul_one, Nat.mul_comm 2 m, Nat.mul_assoc]; omega
   rw [e] at this
   exact this
def b8B : TyI → Bool
 | ⟨.other, 0, 0, [], none, false, []⟩ => true
 | _ => false
theorem c3e {i : TyI} (h : b8B i = true) : i = default := by
 unfold b8B at h
 split at h
 ·rfl
 ·cases h
def b4E (P : Program) : Tr TyI → Nat → Nat → Bool
 | .leaf, _, _ => true
 | .node v l r, a, m => (b8B v || a2S P a v) && b4E P l (a + m) (2 * m) && b4E P r (a + 2 * m) (2 * m)
theorem b2Q {P : Program} : ∀ (t : Tr TyI) (a m : Nat), b4E P t a m = true → Tr.AllP (fun a v => v = default ∨ a2S P a v = true) t a m
 | .leaf, _, _, _ => trivial
 | .node v l r, a, m, h => by
  simp only [b4E, Bool.and_eq_true, Bool.or_eq_true] at h
  exact ⟨h.1.1.imp c3e id, b2Q l _ _ h.1.2, b2Q r _ _ h.2⟩
theorem tyAll_ok {P : Program} {t : Tr TyI} (h : b4E P t 0 1 = true) : TyOk P t := fun T => by
 rcases Tr.a6G t 0 1 (b2Q t 0 1 h) T with h1 | h1
 ·exact .inl h1
 ·rcases h1 with h1 | h1
  ·exact .inl h1
  ·exact .inr (by simpa using h1)
def FnQ (P : Program) (plan : Nat → Nat → List (Nat × Nat)) (a : Nat) (v : Unit → Option Func) : Prop := v () = none ∨ ∃ fn, v () = some fn ∧ P.funcs[a]? = some fn ∧ (fn.name == "runtime.NumGoroutine") = false ∧ a0I (plan a) fn = true
theorem fnAll_ok {P : Program} {plan : Nat → Nat → List (Nat × Nat)} {t : Tr (Unit → Option Func)} (h : Tr.AllP (FnQ P plan) t 0 1) : ∀ f fn, t.get f () = some fn → P.funcs[f]? = some fn ∧ (fn.name == "runtime.NumGoroutine") = false ∧ a0I (plan f) fn = true := by
 intro f fn hf
 rcases Tr.a6G t 0 1 h f with h1 | h1
 ·rw [h1] at hf
  have h2 : (none : Option Func) = some fn := hf
  cases h2
 ·rcases h1 with h1 | ⟨fn', h1, h2⟩
  ·rw [hf] at h1
   cases h1
  ·rw [hf] at h1
   cases h1
   simpa using h2
def annL : List (Nat × Nat × Ann) → Nat → Nat → Option Ann
 | [], _, _ => none
 | (g, j, A) :: r, f, i => if g = f ∧ j = i then some A else annL r f i
def vI (n : Th Int) : V := .one (.att (.int .i64 n))
def vB (b : Th Bool) : V := .one (.att (.bool (.of b)))
def vO (k v : Nat) : V := .one (.own k v)
def vL (t : RT) (l : Th (List t.ty)) : V := .one (.att (.list t l))
def vW (t : RT) (l : Th (List t.ty)) : V := .one (.ownd t l)
def cI (n : Int) : C := .att (.int .i64 fun _ => n)
def oA : A → C
 | .list t l => .ownd t l
 | a => .att a
def oAs (as : List A) : V := .agg (as.map oA)
def rAs (as : List A) : V := .agg (as.map .att)
def oMap (m : Th PMap) : V := oAs (b0x m)
def oWlk (w : Th Wlk) : V := oAs (b4g w)
def oOrd (o : Th Ord) : V := oAs (b0v o)
def oPcl (p : Th Pcl) : V := oAs (b4j p)
def oRec (r : Th Rec) : V := oAs (b4i r)
def oCll (c : Th Cll) : V := oAs (b0y c)
def rCll (c : Th Cll) : V := rAs (b0y c)
def oSto (c : Th Sto) : V := oAs (b4h c)
def oHld (c : Th Hld) : V := oAs (b4l c)
def oGst (c : Th Gst) : V := oAs (b4m c)
def oArb (c : Th Arb) : V := oAs (b0z c)
def oMsg (c : Th Msg) : V := oAs (b4k c)
def oSrv (c : Th Srv) : V := oAs (a4Y c)
def oRow (c : Th Row) : V := oAs (b0u c)
def oNote (c : Th Note) : V := oAs (a8M c)
def oEvt (c : Th Evt) : V := oAs (b4n c)
def oOW (c : Th OW) : V := oAs (c1p c)
def oOne (c : Th One) : V := oAs (b0w c)
def oWld (c : Th Wld) : V := oAs (Z7 c)
def nCll : List (Option RT) := [none, some .wlk, none, some .pcls, some .int, some .int]
def nSto : List (Option RT) := none :: nCll ++ [some .rcd]
def nHld : List (Option RT) := none :: none :: nCll
def St.t (σ : St) (d : Nat) (v : V) : St := ⟨σ.tm.set d v, σ.hp, σ.up⟩
def St.h (σ : St) (k : Nat) (x : Nat × Ch) : St := ⟨σ.tm, σ.hp.set k x, σ.up⟩
def St.F5 (σ : St) (k j : Nat) (c : C) : St := match σ.hp.get k with
 | (v, .var bx cs) => ⟨σ.tm, σ.hp.set k (v, .var bx (cs.set j c)), σ.up⟩
 | _ => σ
def keyC (k : Nat) : C → Bool
 | .own k' _ => k' == k
 | .pref k' _ _ _ _ _ => k' == k
 | .pp k' _ _ _ _ _ => k' == k
 | _ => false
def forgetV (k : Nat) (v : V) : V :=
 match v with
 | .one c => if keyC k c then .one .unk else .one c
 | .agg cs => .agg (cs.map fun c => if keyC k c then .unk else c)
 | v => v
def b0o (k : Nat) : Tr V → Tr V
 | .leaf => .leaf
 | .node v l r => .node (forgetV k v) (b0o k l) (b0o k r)
def St.fg (σ : St) (k : Nat) : St := ⟨b0o k σ.tm, σ.hp, σ.up⟩
def St.int (σ : St) (d : Nat) : Int := match σ.tm.get d with
 | .one (.att (.int _ n)) => n ()
 | _ => 0
def St.nat (σ : St) (d : Nat) : Nat := (σ.int d).toNat
def St.row (σ : St) (k v : Nat) (t : RT) (l : Th (List t.ty)) : St := σ.h k (v, .row true 0 t l)
theorem retK {α : Type _} {K : α → Prop} {x y : α} (h : K x) (he : y = x) : K y := he ▸ h
theorem b0L {t : RT} (h : t = t) (l : Th (List t.ty)) : P2 h l = l := rfl
theorem b6 {α : Type} (m : Th α) : ∃ x, m = fun _ => x := ⟨m (), rfl⟩
theorem b4I {α : Type} {a b : α} : ((fun _ : Unit => a) = fun _ => b) ↔ a = b := ⟨fun h => congrFun h (), fun h => by rw [h]⟩
theorem a8U {α : Type} {a b : α} : ((fun _ : PUnit.{1} => a) = fun _ => b) ↔ a = b := ⟨fun h => congrFun h .unit, fun h => by rw [h]⟩
theorem b9 {n : Int} (h1 : -9223372036854775808 ≤ n) (h2 : n ≤ 9223372036854775807) : IntKind.i64.wrap n = n := by
 have := @IntWalk.i64_in n ⟨h1, h2⟩
 exact this
theorem c1j (m : PMap) : (⟨m.cells, m.width⟩ : PMap) = m := rfl
theorem c0Z (w : Wlk) : (⟨w.id, w.pos, w.l7, w.seq, w.last⟩ : Wlk) = w := rfl
theorem c1g (o : Ord) : (⟨o.who, o.seq, o.kind, o.dest, o.n⟩ : Ord) = o := rfl
theorem c1f (p : Pcl) : (⟨p.n, p.kind, p.wlk, p.l7⟩ : Pcl) = p := rfl
theorem c1n (c : Cll) : (⟨c.cell, c.wlks, c.ground, c.outs, c.next, c.ins⟩ : Cll) = c := rfl
theorem c1e (r : Rec) : (⟨r.kind, r.ord, r.side, r.pcl, r.n⟩ : Rec) = r := rfl
theorem c1b (s : Sto) : (⟨s.age, s.base, s.recs⟩ : Sto) = s := rfl
theorem c1k (h : Hld) : (⟨h.age, h.count, h.state⟩ : Hld) = h := rfl
theorem c1l (g : Gst) : (⟨g.src, g.count, g.wlk⟩ : Gst) = g := rfl
theorem c1o (a : Arb) : (⟨a.servers, a.ages⟩ : Arb) = a := rfl
theorem c1i (m : Msg) : (⟨m.kind, m.dest, m.cell, m.side, m.n, m.ord, m.pcl, m.gst⟩ : Msg) = m := rfl
theorem c1c (s : Srv) : (⟨s.up, s.holds, s.m9⟩ : Srv) = s := rfl
theorem c1d (r : Row) : (⟨r.who, r.cell, r.busy, r.ord, r.seq, r.code⟩ : Row) = r := rfl
theorem b6V (n : Note) : (⟨n.who, n.seq, n.code⟩ : Note) = n := rfl
theorem c1m (e : Evt) : (⟨e.kind, e.pos, e.what, e.dest, e.n⟩ : Evt) = e := rfl
theorem eta_ow (w : OW) : (⟨w.wlk, w.here⟩ : OW) = w := rfl
theorem c1h (o : One) : (⟨o.map, o.wlks, o.ground, o.air⟩ : One) = o := rfl
theorem c1a (w : Wld) : (⟨w.map, w.servers, w.stores, w.table, w.rows, w.net, w.notes⟩ : Wld) = w := rfl
theorem oA_int (k : IntKind) (n : Th Int) : oA (.int k n) = .att (.int k n) := rfl
theorem c0C (b : SB) : oA (.bool b) = .att (.bool b) := rfl
theorem c0B (t : RT) (l : Th (List t.ty)) : oA (.list t l) = .ownd t l := rfl
theorem fin0 : type_of% (And.intro @vB.eq_1 (And.intro @vI.eq_1 (And.intro @vL.eq_1 (And.intro @vW.eq_1 (And.intro @cI.eq_1 (And.intro @oAs.eq_1 (And.intro @rAs.eq_1 (And.intro @rCll.eq_1 (And.intro @oMap.eq_1 (And.intro @oWlk.eq_1 (And.intro @oOrd.eq_1 (And.intro @oPcl.eq_1 (And.intro @oRec.eq_1 (And.intro @oCll.eq_1 (And.intro @oSto.eq_1 (And.intro @oHld.eq_1 (And.intro @oGst.eq_1 (And.intro @oArb.eq_1 (And.intro @oMsg.eq_1 (And.intro @oSrv.eq_1 (And.intro @oRow.eq_1 (And.intro @oNote.eq_1 (And.intro @oEvt.eq_1 (And.intro @oOW.eq_1 (And.intro @oOne.eq_1 (And.intro @oWld.eq_1 (And.intro @b0x.eq_1 (And.intro @b4g.eq_1 (And.intro @b0v.eq_1 (And.intro @b4j.eq_1 (And.intro @b4i.eq_1 (And.intro @b0y.eq_1 (And.intro @b4h.eq_1 (And.intro @b4l.eq_1 (And.intro @b4m.eq_1 (And.intro @b0z.eq_1 (And.intro @b4k.eq_1 (And.intro @a4Y.eq_1 (And.intro @b0u.eq_1 (And.intro @a8M.eq_1 (And.intro @b4n.eq_1 (And.intro @c1p.eq_1 (And.intro @b0w.eq_1 (And.intro @Z7.eq_1 (And.intro @oA_int (And.intro @c0C (And.intro @c0B (And.intro @List.map_cons.{0,0} (And.intro @List.map_nil.{0,0} (And.intro @C.ownd.injEq (And.intro @A.list.injEq (And.intro @heq_eq_eq.{1} (And.intro @SB.val.eq_1 (And.intro @SB.val.eq_2 (And.intro @SB.val.eq_3 (And.intro @Prod.mk.injEq.{0,0} (And.intro @V.one.injEq (And.intro @V.agg.injEq (And.intro @V.tup.injEq (And.intro @List.cons.injEq.{0} (And.intro @C.att.injEq (And.intro @A.bool.injEq (And.intro @A.int.injEq (And.intro @SB.of.injEq (And.intro @b4I (And.intro @a8U (And.intro @and_true (@true_and)))))))))))))))))))))))))))))))))))))))))))))))))))))))))))))))))))) :=
 And.intro @vB.eq_1 (And.intro @vI.eq_1 (And.intro @vL.eq_1 (And.intro @vW.eq_1 (And.intro @cI.eq_1 (And.intro @oAs.eq_1 (And.intro @rAs.eq_1 (And.intro @rCll.eq_1 (And.intro @oMap.eq_1 (And.intro @oWlk.eq_1 (And.intro @oOrd.eq_1 (And.intro @oPcl.eq_1 (And.intro @oRec.eq_1 (And.intro @oCll.eq_1 (And.intro @oSto.eq_1 (And.intro @oHld.eq_1 (And.intro @oGst.eq_1 (And.intro @oArb.eq_1 (And.intro @oMsg.eq_1 (And.intro @oSrv.eq_1 (And.intro @oRow.eq_1 (And.intro @oNote.eq_1 (And.intro @oEvt.eq_1 (And.intro @oOW.eq_1 (And.intro @oOne.eq_1 (And.intro @oWld.eq_1 (And.intro @b0x.eq_1 (And.intro @b4g.eq_1 (And.intro @b0v.eq_1 (And.intro @b4j.eq_1 (And.intro @b4i.eq_1 (And.intro @b0y.eq_1 (And.intro @b4h.eq_1 (And.intro @b4l.eq_1 (And.intro @b4m.eq_1 (And.intro @b0z.eq_1 (And.intro @b4k.eq_1 (And.intro @a4Y.eq_1 (And.intro @b0u.eq_1 (And.intro @a8M.eq_1 (And.intro @b4n.eq_1 (And.intro @c1p.eq_1 (And.intro @b0w.eq_1 (And.intro @Z7.eq_1 (And.intro @oA_int (And.intro @c0C (And.intro @c0B (And.intro @List.map_cons.{0,0} (And.intro @List.map_nil.{0,0} (And.intro @C.ownd.injEq (And.intro @A.list.injEq (And.intro @heq_eq_eq.{1} (And.intro @SB.val.eq_1 (And.intro @SB.val.eq_2 (And.intro @SB.val.eq_3 (And.intro @Prod.mk.injEq.{0,0} (And.intro @V.one.injEq (And.intro @V.agg.injEq (And.intro @V.tup.injEq (And.intro @List.cons.injEq.{0} (And.intro @C.att.injEq (And.intro @A.bool.injEq (And.intro @A.int.injEq (And.intro @SB.of.injEq (And.intro @b4I (And.intro @a8U (And.intro @and_true (@true_and)))))))))))))))))))))))))))))))))))))))))))))))))))))))))))))))))))
theorem eta0 : type_of% (And.intro @c1j (And.intro @c0Z (And.intro @c1g (And.intro @c1f (And.intro @c1e (And.intro @c1n (And.intro @c1b (And.intro @c1k (And.intro @c1l (And.intro @c1o (And.intro @c1i (And.intro @c1c (And.intro @c1d (And.intro @b6V (And.intro @c1m (And.intro @eta_ow (And.intro @c1h (And.intro @c1a (And.intro @Int.toNat_natCast (And.intro @Nat.succ_eq_add_one (And.intro @decide_eq_true_eq (And.intro @decide_eq_false_iff_not (And.intro @Int.ofNat_lt (And.intro @Int.ofNat_le (And.intro @Int.natCast_pos (And.intro @Bool.not_eq_true' (And.intro @Bool.not_eq_false' (And.intro @b0L (And.intro @SB.val.eq_1 (And.intro @SB.val.eq_2 (And.intro @SB.val.eq_3 (And.intro @evT.eq_1 (And.intro @evT.eq_2 (And.intro @List.length_append.{0} (And.intro @List.length_cons.{0} (@List.length_nil.{0})))))))))))))))))))))))))))))))))))) :=
 And.intro @c1j (And.intro @c0Z (And.intro @c1g (And.intro @c1f (And.intro @c1e (And.intro @c1n (And.intro @c1b (And.intro @c1k (And.intro @c1l (And.intro @c1o (And.intro @c1i (And.intro @c1c (And.intro @c1d (And.intro @b6V (And.intro @c1m (And.intro @eta_ow (And.intro @c1h (And.intro @c1a (And.intro @Int.toNat_natCast (And.intro @Nat.succ_eq_add_one (And.intro @decide_eq_true_eq (And.intro @decide_eq_false_iff_not (And.intro @Int.ofNat_lt (And.intro @Int.ofNat_le (And.intro @Int.natCast_pos (And.intro @Bool.not_eq_true' (And.intro @Bool.not_eq_false' (And.intro @b0L (And.intro @SB.val.eq_1 (And.intro @SB.val.eq_2 (And.intro @SB.val.eq_3 (And.intro @evT.eq_1 (And.intro @evT.eq_2 (And.intro @List.length_append.{0} (And.intro @List.length_cons.{0} (@List.length_nil.{0})))))))))))))))))))))))))))))))))))
end Go.Sx
