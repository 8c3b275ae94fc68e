/-
  Tables of a program; contracts one by one; results told.
-/
import Derived.Test.YtkclfaldmghkeaaGreatS4d
import Derived.IntWalk
set_option linter.unusedVariables false
set_option linter.unusedSimpArgs false
namespace Go.Sx
structure Tab where
 ty : Tr TyI
 fns : Nat → Option Func
 plan : Nat → Nat → List (Nat × Nat)
def b1q : List (Nat × SpecX) → Nat → Option SpecX
 | [], _ => none
 | (g, s) :: r, f => if g = f then some s else b1q r f
abbrev noAnn : Nat → Nat → Option Ann := fun _ _ => none
def Tab.env (T : Tab) (ss : List (Nat × SpecX)) (an cut : Nat → Nat → Option Ann) : Env0 := ⟨T.ty, b1q ss, T.fns, T.plan, an, cut⟩
structure TabOk (P : Program) (T : Tab) : Prop where
 mix : P.follows .mixedOrders = true
 ty : TyOk P T.ty
 fns : ∀ f fn, T.fns f = some fn → P.funcs[f]? = some fn ∧ (fn.name == "runtime.NumGoroutine") = false ∧ a0o (T.plan f) fn = true
theorem TabOk.env {P : Program} {T : Tab} (h : TabOk P T) {ss : List (Nat × SpecX)} (hs : W7 P (b1q ss)) (an cut : Nat → Nat → Option Ann) : EnvOk P (T.env ss an cut) := ⟨h.mix, h.ty, h.fns, hs⟩
theorem c1f {P : Program} : W7 P (b1q []) := fun f s h => by cases h
def b7 (P : Program) (f : Nat) (s : SpecX) : Prop := ∀ L kb, ClOk P fun _ f' args σ K => f' = f ∧ (a1z s kb args).wp L σ.hp fun v hp => K v ⟨σ.tm, hp, σ.up⟩
def a6i (P : Program) : List (Nat × SpecX) → Prop
 | [] => True
 | (f, s) :: r => b7 P f s ∧ a6i P r
theorem a6w {P : Program} : ∀ {ss : List (Nat × SpecX)}, a6i P ss → W7 P (b1q ss)
 | [], _ => c1f
 | (f, s) :: r, h => fun g t hg => by
  simp only [b1q] at hg
  split at hg
  ·rename_i he
   subst he
   cases hg
   exact h.1
  ·exact a6w h.2 g t hg
theorem j8 {P : Program} {T : Tab} (h : TabOk P T) {ss : List (Nat × SpecX)} (hs : a6i P ss) {f : Nat} {fn : Func} {c : Code} {s : Spec} (hfn : T.fns f = some fn) (hc : fn.body = some c) (hv : c0I (T.env ss) f fn s) : b7 P f s := by
 obtain ⟨h1, h2, h3⟩ := h.fns f fn hfn
 exact b6K (h.env (a6w hs)) h1 hc h2 (fun _ _ => h3) hv
def Tr.AllP {α : Type} (Q : Nat → α → Prop) : Tr α → Nat → Nat → Prop
 | .leaf, _, _ => True
 | .node v l r, a, m => Q a v ∧ AllP Q l (a + m) (2 * m) ∧ AllP Q r (a + 2 * m) (2 * m)
theorem Tr.a6f {α : Type} [Inhabited α] {Q : Nat → α → Prop} : ∀ (t : Tr α) (a m : Nat), AllP Q t a m → ∀ k, t.get k = default ∨ Q (a + m * k) (t.get k)
 | .leaf, a, m, _, k => .inl rfl
 | .node v l r, a, m, h, 0 => .inr (by simpa [Tr.get] using h.1)
 | .node v l r, a, m, h, k + 1 => by
  simp only [Tr.get]
  have hk := Nat.div_add_mod k 2
  split
  ·rename_i h0
   have := Tr.a6f l (a + m) (2 * m) h.2.1 (k / 2)
   have e : a + m + 2 * m * (k / 2) = a + m * (k + 1) := by
    have : m * (2 * (k / 2)) = m * k := by congr 1; omega
    rw [Nat.mul_add, Nat.mul_one, ← this, Nat.mul_comm 2 m, Nat.mul_assoc]; omega
   rw [e] at this
   exact this
  ·rename_i h0
   have := Tr.a6f r (a + 2 * m) (2 * m) h.2.2 (k / 2)
   have e : a + 2 * m + 2 * m * (k / 2) = a + m * (k + 1) := by
    have : m * (2 * (k / 2) + 1) = m * k := by congr 1; omega
    rw [Nat.mul_add, Nat.mul_one, ← this, Nat.mul_add, Nat.mul_one, Nat.mul_comm 2 m, Nat.mul_assoc]; omega
   rw [e] at this
   exact this
def b7E : TyI → Bool
 | ⟨.other, 0, 0, [], none, false, []⟩ => true
 | _ => false
theorem c2g {i : TyI} (h : b7E i = true) : i = default := by
 unfold b7E at h
 split at h
 ·rfl
 ·cases h
def b3O (P : Program) : Tr TyI → Nat → Nat → Bool
 | .leaf, _, _ => true
 | .node v l r, a, m => (b7E v || a2v P a v) && b3O P l (a + m) (2 * m) && b3O P r (a + 2 * m) (2 * m)
theorem b2h {P : Program} : ∀ (t : Tr TyI) (a m : Nat), b3O P t a m = true → Tr.AllP (fun a v => v = default ∨ a2v P a v = true) t a m
 | .leaf, _, _, _ => trivial
 | .node v l r, a, m, h => by
  simp only [b3O, Bool.and_eq_true, Bool.or_eq_true] at h
  exact ⟨h.1.1.imp c2g id, b2h l _ _ h.1.2, b2h r _ _ h.2⟩
theorem c3n {P : Program} {t : Tr TyI} (h : b3O P t 0 1 = true) : TyOk P t := fun T => by
 rcases Tr.a6f t 0 1 (b2h t 0 1 h) T with h1 | h1
 ·exact .inl h1
 ·rcases h1 with h1 | h1
  ·exact .inl h1
  ·exact .inr (by simpa using h1)
def FnQ (P : Program) (plan : Nat → Nat → List (Nat × Nat)) (a : Nat) (v : Unit → Option Func) : Prop := v () = none ∨ ∃ fn, v () = some fn ∧ P.funcs[a]? = some fn ∧ (fn.name == "runtime.NumGoroutine") = false ∧ a0o (plan a) fn = true
theorem fnAll_ok {P : Program} {plan : Nat → Nat → List (Nat × Nat)} {t : Tr (Unit → Option Func)} (h : Tr.AllP (FnQ P plan) t 0 1) : ∀ f fn, t.get f () = some fn → P.funcs[f]? = some fn ∧ (fn.name == "runtime.NumGoroutine") = false ∧ a0o (plan f) fn = true := by
 intro f fn hf
 rcases Tr.a6f t 0 1 h f with h1 | h1
 ·rw [h1] at hf
  have h2 : (none : Option Func) = some fn := hf
  cases h2
 ·rcases h1 with h1 | ⟨fn', h1, h2⟩
  ·rw [hf] at h1
   cases h1
  ·rw [hf] at h1
   cases h1
   simpa using h2
def annL : List (Nat × Nat × Ann) → Nat → Nat → Option Ann
 | [], _, _ => none
 | (g, j, A) :: r, f, i => if g = f ∧ j = i then some A else annL r f i
def vI (n : Th Int) : V := .one (.att (.int .i64 n))
def vB (b : Th Bool) : V := .one (.att (.bool (.of b)))
def vO (k v : Nat) : V := .one (.own k v)
def vL (t : RT) (l : Th (List t.ty)) : V := .one (.att (.list t l))
def vW (t : RT) (l : Th (List t.ty)) : V := .one (.ownd t l)
def cI (n : Int) : C := .att (.int .i64 fun _ => n)
def oA : A → C
 | .list t l => .ownd t l
 | a => .att a
def oAs (as : List A) : V := .agg (as.map oA)
def rAs (as : List A) : V := .agg (as.map .att)
def oMap (m : Th PMap) : V := oAs (a9R m)
def oWlk (w : Th Wlk) : V := oAs (b3p w)
def oOrd (o : Th Ord) : V := oAs (a9P o)
def oPcl (p : Th Pcl) : V := oAs (b3s p)
def oRec (r : Th Rec) : V := oAs (b3r r)
def oCll (c : Th Cll) : V := oAs (a9S c)
def rCll (c : Th Cll) : V := rAs (a9S c)
def oSto (c : Th Sto) : V := oAs (b3q c)
def oHld (c : Th Hld) : V := oAs (b3u c)
def oGst (c : Th Gst) : V := oAs (b3v c)
def oArb (c : Th Arb) : V := oAs (a9T c)
def oMsg (c : Th Msg) : V := oAs (b3t c)
def oSrv (c : Th Srv) : V := oAs (a4y c)
def oRow (c : Th Row) : V := oAs (a9O c)
def oNote (c : Th Note) : V := oAs (a8k c)
def oEvt (c : Th Evt) : V := oAs (b3w c)
def oOW (c : Th OW) : V := oAs (c0t c)
def oOne (c : Th One) : V := oAs (a9Q c)
def oWld (c : Th Wld) : V := oAs (a0Y c)
def nCll : List (Option RT) := [none, some .wlk, none, some .pcls, some .int, some .int]
def nSto : List (Option RT) := none :: nCll ++ [some .rcd]
def nHld : List (Option RT) := none :: none :: nCll
def St.t (σ : St) (d : Nat) (v : V) : St := ⟨σ.tm.set d v, σ.hp, σ.up⟩
def St.h (σ : St) (k : Nat) (x : Nat × Ch) : St := ⟨σ.tm, σ.hp.set k x, σ.up⟩
def St.E7 (σ : St) (k j : Nat) (c : C) : St := match σ.hp.get k with
 | (v, .var bx cs) => ⟨σ.tm, σ.hp.set k (v, .var bx (cs.set j c)), σ.up⟩
 | _ => σ
def keyC (k : Nat) : C → Bool
 | .own k' _ => k' == k
 | .pref k' _ _ _ _ _ => k' == k
 | .pp k' _ _ _ _ _ => k' == k
 | _ => false
def c7Z (k : Nat) (v : V) : V :=
 match v with
 | .one c => if keyC k c then .one .unk else .one c
 | .agg cs => .agg (cs.map fun c => if keyC k c then .unk else c)
 | v => v
def a9I (k : Nat) : Tr V → Tr V
 | .leaf => .leaf
 | .node v l r => .node (c7Z k v) (a9I k l) (a9I k r)
def St.fg (σ : St) (k : Nat) : St := ⟨a9I k σ.tm, σ.hp, σ.up⟩
def St.int (σ : St) (d : Nat) : Int := match σ.tm.get d with
 | .one (.att (.int _ n)) => n ()
 | _ => 0
def St.nat (σ : St) (d : Nat) : Nat := (σ.int d).toNat
def St.row (σ : St) (k v : Nat) (t : RT) (l : Th (List t.ty)) : St := σ.h k (v, .row true 0 t l)
theorem retK {α : Type _} {K : α → Prop} {x y : α} (h : K x) (he : y = x) : K y := he ▸ h
theorem b0h {t : RT} (h : t = t) (l : Th (List t.ty)) : O3 h l = l := rfl
theorem a8 {α : Type} (m : Th α) : ∃ x, m = fun _ => x := ⟨m (), rfl⟩
theorem b3S {α : Type} {a b : α} : ((fun _ : Unit => a) = fun _ => b) ↔ a = b := ⟨fun h => congrFun h (), fun h => by rw [h]⟩
theorem a8s {α : Type} {a b : α} : ((fun _ : PUnit.{1} => a) = fun _ => b) ↔ a = b := ⟨fun h => congrFun h .unit, fun h => by rw [h]⟩
theorem e8 {n : Int} (h1 : -9223372036854775808 ≤ n) (h2 : n ≤ 9223372036854775807) : IntKind.i64.wrap n = n := by
 have := @IntWalk.i64_in n ⟨h1, h2⟩
 exact this
theorem c0n (m : PMap) : (⟨m.cells, m.width⟩ : PMap) = m := rfl
theorem c0d (w : Wlk) : (⟨w.id, w.pos, w.l7, w.seq, w.last⟩ : Wlk) = w := rfl
theorem c0k (o : Ord) : (⟨o.who, o.seq, o.kind, o.dest, o.n⟩ : Ord) = o := rfl
theorem c0j (p : Pcl) : (⟨p.n, p.kind, p.wlk, p.l7⟩ : Pcl) = p := rfl
theorem c0r (c : Cll) : (⟨c.cell, c.wlks, c.ground, c.outs, c.next, c.ins⟩ : Cll) = c := rfl
theorem c0i (r : Rec) : (⟨r.kind, r.ord, r.side, r.pcl, r.n⟩ : Rec) = r := rfl
theorem c0f (s : Sto) : (⟨s.age, s.base, s.recs⟩ : Sto) = s := rfl
theorem c0o (h : Hld) : (⟨h.age, h.count, h.state⟩ : Hld) = h := rfl
theorem c0p (g : Gst) : (⟨g.src, g.count, g.wlk⟩ : Gst) = g := rfl
theorem c0s (a : Arb) : (⟨a.servers, a.ages⟩ : Arb) = a := rfl
theorem c0m (m : Msg) : (⟨m.kind, m.dest, m.cell, m.side, m.n, m.ord, m.pcl, m.gst⟩ : Msg) = m := rfl
theorem c0g (s : Srv) : (⟨s.up, s.holds, s.n0⟩ : Srv) = s := rfl
theorem c0h (r : Row) : (⟨r.who, r.cell, r.busy, r.ord, r.seq, r.code⟩ : Row) = r := rfl
theorem b6d (n : Note) : (⟨n.who, n.seq, n.code⟩ : Note) = n := rfl
theorem c0q (e : Evt) : (⟨e.kind, e.pos, e.what, e.dest, e.n⟩ : Evt) = e := rfl
theorem c5U (w : OW) : (⟨w.wlk, w.here⟩ : OW) = w := rfl
theorem c0l (o : One) : (⟨o.map, o.wlks, o.ground, o.air⟩ : One) = o := rfl
theorem c0e (w : Wld) : (⟨w.map, w.servers, w.stores, w.table, w.rows, w.net, w.notes⟩ : Wld) = w := rfl
theorem c4U (k : IntKind) (n : Th Int) : oA (.int k n) = .att (.int k n) := rfl
theorem b9I (b : SB) : oA (.bool b) = .att (.bool b) := rfl
theorem b9H (t : RT) (l : Th (List t.ty)) : oA (.list t l) = .ownd t l := rfl
theorem fin0 : type_of% (And.intro @vB.eq_1 (And.intro @vI.eq_1 (And.intro @vL.eq_1 (And.intro @vW.eq_1 (And.intro @cI.eq_1 (And.intro @oAs.eq_1 (And.intro @rAs.eq_1 (And.intro @rCll.eq_1 (And.intro @oMap.eq_1 (And.intro @oWlk.eq_1 (And.intro @oOrd.eq_1 (And.intro @oPcl.eq_1 (And.intro @oRec.eq_1 (And.intro @oCll.eq_1 (And.intro @oSto.eq_1 (And.intro @oHld.eq_1 (And.intro @oGst.eq_1 (And.intro @oArb.eq_1 (And.intro @oMsg.eq_1 (And.intro @oSrv.eq_1 (And.intro @oRow.eq_1 (And.intro @oNote.eq_1 (And.intro @oEvt.eq_1 (And.intro @oOW.eq_1 (And.intro @oOne.eq_1 (And.intro @oWld.eq_1 (And.intro @a9R.eq_1 (And.intro @b3p.eq_1 (And.intro @a9P.eq_1 (And.intro @b3s.eq_1 (And.intro @b3r.eq_1 (And.intro @a9S.eq_1 (And.intro @b3q.eq_1 (And.intro @b3u.eq_1 (And.intro @b3v.eq_1 (And.intro @a9T.eq_1 (And.intro @b3t.eq_1 (And.intro @a4y.eq_1 (And.intro @a9O.eq_1 (And.intro @a8k.eq_1 (And.intro @b3w.eq_1 (And.intro @c0t.eq_1 (And.intro @a9Q.eq_1 (And.intro @a0Y.eq_1 (And.intro @c4U (And.intro @b9I (And.intro @b9H (And.intro @List.map_cons.{0,0} (And.intro @List.map_nil.{0,0} (And.intro @C.ownd.injEq (And.intro @A.list.injEq (And.intro @heq_eq_eq.{1} (And.intro @SB.val.eq_1 (And.intro @SB.val.eq_2 (And.intro @SB.val.eq_3 (And.intro @Prod.mk.injEq.{0,0} (And.intro @V.one.injEq (And.intro @V.agg.injEq (And.intro @V.tup.injEq (And.intro @List.cons.injEq.{0} (And.intro @C.att.injEq (And.intro @A.bool.injEq (And.intro @A.int.injEq (And.intro @SB.of.injEq (And.intro @b3S (And.intro @a8s (And.intro @and_true (@true_and)))))))))))))))))))))))))))))))))))))))))))))))))))))))))))))))))))) :=
 And.intro @vB.eq_1 (And.intro @vI.eq_1 (And.intro @vL.eq_1 (And.intro @vW.eq_1 (And.intro @cI.eq_1 (And.intro @oAs.eq_1 (And.intro @rAs.eq_1 (And.intro @rCll.eq_1 (And.intro @oMap.eq_1 (And.intro @oWlk.eq_1 (And.intro @oOrd.eq_1 (And.intro @oPcl.eq_1 (And.intro @oRec.eq_1 (And.intro @oCll.eq_1 (And.intro @oSto.eq_1 (And.intro @oHld.eq_1 (And.intro @oGst.eq_1 (And.intro @oArb.eq_1 (And.intro @oMsg.eq_1 (And.intro @oSrv.eq_1 (And.intro @oRow.eq_1 (And.intro @oNote.eq_1 (And.intro @oEvt.eq_1 (And.intro @oOW.eq_1 (And.intro @oOne.eq_1 (And.intro @oWld.eq_1 (And.intro @a9R.eq_1 (And.intro @b3p.eq_1 (And.intro @a9P.eq_1 (And.intro @b3s.eq_1 (And.intro @b3r.eq_1 (And.intro @a9S.eq_1 (And.intro @b3q.eq_1 (And.intro @b3u.eq_1 (And.intro @b3v.eq_1 (And.intro @a9T.eq_1 (And.intro @b3t.eq_1 (And.intro @a4y.eq_1 (And.intro @a9O.eq_1 (And.intro @a8k.eq_1 (And.intro @b3w.eq_1 (And.intro @c0t.eq_1 (And.intro @a9Q.eq_1 (And.intro @a0Y.eq_1 (And.intro @c4U (And.intro @b9I (And.intro @b9H (And.intro @List.map_cons.{0,0} (And.intro @List.map_nil.{0,0} (And.intro @C.ownd.injEq (And.intro @A.list.injEq (And.intro @heq_eq_eq.{1} (And.intro @SB.val.eq_1 (And.intro @SB.val.eq_2 (And.intro @SB.val.eq_3 (And.intro @Prod.mk.injEq.{0,0} (And.intro @V.one.injEq (And.intro @V.agg.injEq (And.intro @V.tup.injEq (And.intro @List.cons.injEq.{0} (And.intro @C.att.injEq (And.intro @A.bool.injEq (And.intro @A.int.injEq (And.intro @SB.of.injEq (And.intro @b3S (And.intro @a8s (And.intro @and_true (@true_and)))))))))))))))))))))))))))))))))))))))))))))))))))))))))))))))))))
theorem eta0 : type_of% (And.intro @c0n (And.intro @c0d (And.intro @c0k (And.intro @c0j (And.intro @c0i (And.intro @c0r (And.intro @c0f (And.intro @c0o (And.intro @c0p (And.intro @c0s (And.intro @c0m (And.intro @c0g (And.intro @c0h (And.intro @b6d (And.intro @c0q (And.intro @c5U (And.intro @c0l (And.intro @c0e (And.intro @Int.toNat_natCast (And.intro @Nat.succ_eq_add_one (And.intro @decide_eq_true_eq (And.intro @decide_eq_false_iff_not (And.intro @Int.ofNat_lt (And.intro @Int.ofNat_le (And.intro @Int.natCast_pos (And.intro @Bool.not_eq_true' (And.intro @Bool.not_eq_false' (And.intro @b0h (And.intro @SB.val.eq_1 (And.intro @SB.val.eq_2 (And.intro @SB.val.eq_3 (And.intro @evT.eq_1 (And.intro @evT.eq_2 (And.intro @List.length_append.{0} (And.intro @List.length_cons.{0} (@List.length_nil.{0})))))))))))))))))))))))))))))))))))) :=
 And.intro @c0n (And.intro @c0d (And.intro @c0k (And.intro @c0j (And.intro @c0i (And.intro @c0r (And.intro @c0f (And.intro @c0o (And.intro @c0p (And.intro @c0s (And.intro @c0m (And.intro @c0g (And.intro @c0h (And.intro @b6d (And.intro @c0q (And.intro @c5U (And.intro @c0l (And.intro @c0e (And.intro @Int.toNat_natCast (And.intro @Nat.succ_eq_add_one (And.intro @decide_eq_true_eq (And.intro @decide_eq_false_iff_not (And.intro @Int.ofNat_lt (And.intro @Int.ofNat_le (And.intro @Int.natCast_pos (And.intro @Bool.not_eq_true' (And.intro @Bool.not_eq_false' (And.intro @b0h (And.intro @SB.val.eq_1 (And.intro @SB.val.eq_2 (And.intro @SB.val.eq_3 (And.intro @evT.eq_1 (And.intro @evT.eq_2 (And.intro @List.length_append.{0} (And.intro @List.length_cons.{0} (@List.length_nil.{0})))))))))))))))))))))))))))))))))))
end Go.Sx
