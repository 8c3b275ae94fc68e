/-
  Tables of a program; contracts one by one; results told.
-/
import Derived.Test.YtjdaiobeiimpfaaGreatS4d
import Derived.IntWalk
set_option linter.unusedVariables false
set_option linter.unusedSimpArgs false
namespace Go.Sx
structure Tab where
 ty : Tr TyI
 fns : Nat → Option Func
 plan : Nat → Nat → List (Nat × Nat)
def lookS : List (Nat × SpecX) → Nat → Option SpecX
 | [], _ => none
 | (g, s) :: r, f => if g = f then some s else lookS r f
abbrev noAnn : Nat → Nat → Option Ann := fun _ _ => none
def Tab.env (T : Tab) (ss : List (Nat × SpecX)) (an cut : Nat → Nat → Option Ann) : Env0 := ⟨T.ty, lookS ss, T.fns, T.plan, an, cut⟩
structure TabOk (P : Program) (T : Tab) : Prop where
 mix : P.follows .mixedOrders = true
 ty : TyOk P T.ty
 fns : ∀ f fn, T.fns f = some fn → P.funcs[f]? = some fn ∧ (fn.name == "runtime.NumGoroutine") = false ∧ bodyOk (T.plan f) fn = true
theorem TabOk.env {P : Program} {T : Tab} (h : TabOk P T) {ss : List (Nat × SpecX)} (hs : SpecsOk P (lookS ss)) (an cut : Nat → Nat → Option Ann) : EnvOk P (T.env ss an cut) := ⟨h.mix, h.ty, h.fns, hs⟩
theorem specs_nil {P : Program} : SpecsOk P (lookS []) := fun f s h => by cases h
def SpecOk1 (P : Program) (f : Nat) (s : SpecX) : Prop := ∀ L kb, ClOk P fun _ f' args σ K => f' = f ∧ (callX s kb args).wp L σ.hp fun v hp => K v ⟨σ.tm, hp, σ.up⟩
def SpecsAll (P : Program) : List (Nat × SpecX) → Prop
 | [] => True
 | (f, s) :: r => SpecOk1 P f s ∧ SpecsAll P r
theorem specs_all {P : Program} : ∀ {ss : List (Nat × SpecX)}, SpecsAll P ss → SpecsOk P (lookS ss)
 | [], _ => specs_nil
 | (f, s) :: r, h => fun g t hg => by
  simp only [lookS] at hg
  split at hg
  ·rename_i he
   subst he
   cases hg
   exact h.1
  ·exact specs_all h.2 g t hg
theorem spec1 {P : Program} {T : Tab} (h : TabOk P T) {ss : List (Nat × SpecX)} (hs : SpecsAll P ss) {f : Nat} {fn : Func} {c : Code} {s : Spec} (hfn : T.fns f = some fn) (hc : fn.body = some c) (hv : SpecFor (T.env ss) f fn s) : SpecOk1 P f s := by
 obtain ⟨h1, h2, h3⟩ := h.fns f fn hfn
 exact spec_sound (h.env (specs_all hs)) h1 hc h2 (fun _ _ => h3) hv
def Tr.AllP {α : Type} (Q : Nat → α → Prop) : Tr α → Nat → Nat → Prop
 | .leaf, _, _ => True
 | .node v l r, a, m => Q a v ∧ AllP Q l (a + m) (2 * m) ∧ AllP Q r (a + 2 * m) (2 * m)
theorem Tr.allP_get {α : Type} [Inhabited α] {Q : Nat → α → Prop} : ∀ (t : Tr α) (a m : Nat), AllP Q t a m → ∀ k, t.get k = default ∨ Q (a + m * k) (t.get k)
 | .leaf, a, m, _, k => .inl rfl
 | .node v l r, a, m, h, 0 => .inr (by simpa [Tr.get] using h.1)
 | .node v l r, a, m, h, k + 1 => by
  simp only [Tr.get]
  have hk := Nat.div_add_mod k 2
  split
  ·rename_i h0
   have := Tr.allP_get l (a + m) (2 * m) h.2.1 (k / 2)
   have e : a + m + 2 * m * (k / 2) = a + m * (k + 1) := by
    have : m * (2 * (k / 2)) = m * k := by congr 1; omega
    rw [Nat.mul_add, Nat.mul_one, ← this, Nat.mul_comm 2 m, Nat.mul_assoc]; omega
   rw [e] at this
   exact this
  ·rename_i h0
   have := Tr.allP_get r (a + 2 * m) (2 * m) h.2.2 (k / 2)
   have e : a + 2 * m + 2 * m * (k / 2) = a + m * (k + 1) := by
    have : m * (2 * (k / 2) + 1) = m * k := by congr 1; omega
    rw [Nat.mul_add, Nat.mul_one, ← this, Nat.mul_add, Nat.mul_one, Nat.mul_comm 2 m, Nat.mul_assoc]; omega
   rw [e] at this
   exact this
def isDflt : TyI → Bool
 | ⟨.other, 0, 0, [], none, false, []⟩ => true
 | _ => false
theorem isDflt_eq {i : TyI} (h : isDflt i = true) : i = default := by
 unfold isDflt at h
 split at h
 ·rfl
 ·cases h
def tyAll (P : Program) : Tr TyI → Nat → Nat → Bool
 | .leaf, _, _ => true
 | .node v l r, a, m => (isDflt v || tyChk P a v) && tyAll P l (a + m) (2 * m) && tyAll P r (a + 2 * m) (2 * m)
theorem tyAll_P {P : Program} : ∀ (t : Tr TyI) (a m : Nat), tyAll P t a m = true → Tr.AllP (fun a v => v = default ∨ tyChk P a v = true) t a m
 | .leaf, _, _, _ => trivial
 | .node v l r, a, m, h => by
  simp only [tyAll, Bool.and_eq_true, Bool.or_eq_true] at h
  exact ⟨h.1.1.imp isDflt_eq id, tyAll_P l _ _ h.1.2, tyAll_P r _ _ h.2⟩
theorem tyAll_ok {P : Program} {t : Tr TyI} (h : tyAll P t 0 1 = true) : TyOk P t := fun T => by
 rcases Tr.allP_get t 0 1 (tyAll_P t 0 1 h) T with h1 | h1
 ·exact .inl h1
 ·rcases h1 with h1 | h1
  ·exact .inl h1
  ·exact .inr (by simpa using h1)
def FnQ (P : Program) (plan : Nat → Nat → List (Nat × Nat)) (a : Nat) (v : Unit → Option Func) : Prop := v () = none ∨ ∃ fn, v () = some fn ∧ P.funcs[a]? = some fn ∧ (fn.name == "runtime.NumGoroutine") = false ∧ bodyOk (plan a) fn = true
theorem fnAll_ok {P : Program} {plan : Nat → Nat → List (Nat × Nat)} {t : Tr (Unit → Option Func)} (h : Tr.AllP (FnQ P plan) t 0 1) : ∀ f fn, t.get f () = some fn → P.funcs[f]? = some fn ∧ (fn.name == "runtime.NumGoroutine") = false ∧ bodyOk (plan f) fn = true := by
 intro f fn hf
 rcases Tr.allP_get t 0 1 h f with h1 | h1
 ·rw [h1] at hf
  have h2 : (none : Option Func) = some fn := hf
  cases h2
 ·rcases h1 with h1 | ⟨fn', h1, h2⟩
  ·rw [hf] at h1
   cases h1
  ·rw [hf] at h1
   cases h1
   simpa using h2
def annL : List (Nat × Nat × Ann) → Nat → Nat → Option Ann
 | [], _, _ => none
 | (g, j, A) :: r, f, i => if g = f ∧ j = i then some A else annL r f i
def vI (n : Th Int) : V := .one (.att (.int .i64 n))
def vB (b : Th Bool) : V := .one (.att (.bool (.of b)))
def vO (k v : Nat) : V := .one (.own k v)
def vL (t : RT) (l : Th (List t.ty)) : V := .one (.att (.list t l))
def vW (t : RT) (l : Th (List t.ty)) : V := .one (.ownd t l)
def cI (n : Int) : C := .att (.int .i64 fun _ => n)
def oA : A → C
 | .list t l => .ownd t l
 | a => .att a
def oAs (as : List A) : V := .agg (as.map oA)
def rAs (as : List A) : V := .agg (as.map .att)
def oMap (m : Th PMap) : V := oAs (encMap m)
def oWlk (w : Th Wlk) : V := oAs (encWlk w)
def oOrd (o : Th Ord) : V := oAs (encOrd o)
def oPcl (p : Th Pcl) : V := oAs (encPcl p)
def oRec (r : Th Rec) : V := oAs (encRec r)
def oCll (c : Th Cll) : V := oAs (encCll c)
def rCll (c : Th Cll) : V := rAs (encCll c)
def oSto (c : Th Sto) : V := oAs (encSto c)
def oHld (c : Th Hld) : V := oAs (encHld c)
def oGst (c : Th Gst) : V := oAs (encGst c)
def oArb (c : Th Arb) : V := oAs (encArb c)
def oMsg (c : Th Msg) : V := oAs (encMsg c)
def oSrv (c : Th Srv) : V := oAs (encSrv c)
def oRow (c : Th Row) : V := oAs (encRow c)
def oNote (c : Th Note) : V := oAs (encNote c)
def oEvt (c : Th Evt) : V := oAs (encEvt c)
def oOW (c : Th OW) : V := oAs (encOW c)
def oOne (c : Th One) : V := oAs (encOne c)
def oWld (c : Th Wld) : V := oAs (encWld c)
def nCll : List (Option RT) := [none, some .wlk, none, some .pcls, some .int, some .int]
def nSto : List (Option RT) := none :: nCll ++ [some .rcd]
def nHld : List (Option RT) := none :: none :: nCll
def St.t (σ : St) (d : Nat) (v : V) : St := ⟨σ.tm.set d v, σ.hp, σ.up⟩
def St.h (σ : St) (k : Nat) (x : Nat × Ch) : St := ⟨σ.tm, σ.hp.set k x, σ.up⟩
def St.cellC (σ : St) (k j : Nat) (c : C) : St := match σ.hp.get k with
 | (v, .var bx cs) => ⟨σ.tm, σ.hp.set k (v, .var bx (cs.set j c)), σ.up⟩
 | _ => σ
def keyC (k : Nat) : C → Bool
 | .own k' _ => k' == k
 | .pref k' _ _ _ _ _ => k' == k
 | .pp k' _ _ _ _ _ => k' == k
 | _ => false
def forgetV (k : Nat) (v : V) : V :=
 match v with
 | .one c => if keyC k c then .one .unk else .one c
 | .agg cs => .agg (cs.map fun c => if keyC k c then .unk else c)
 | v => v
def forgetTm (k : Nat) : Tr V → Tr V
 | .leaf => .leaf
 | .node v l r => .node (forgetV k v) (forgetTm k l) (forgetTm k r)
def St.fg (σ : St) (k : Nat) : St := ⟨forgetTm k σ.tm, σ.hp, σ.up⟩
def St.int (σ : St) (d : Nat) : Int := match σ.tm.get d with
 | .one (.att (.int _ n)) => n ()
 | _ => 0
def St.nat (σ : St) (d : Nat) : Nat := (σ.int d).toNat
def St.row (σ : St) (k v : Nat) (t : RT) (l : Th (List t.ty)) : St := σ.h k (v, .row true 0 t l)
theorem retK {α : Type _} {K : α → Prop} {x y : α} (h : K x) (he : y = x) : K y := he ▸ h
theorem castL_self {t : RT} (h : t = t) (l : Th (List t.ty)) : castL h l = l := rfl
theorem th_ex {α : Type} (m : Th α) : ∃ x, m = fun _ => x := ⟨m (), rfl⟩
theorem th_eq {α : Type} {a b : α} : ((fun _ : Unit => a) = fun _ => b) ↔ a = b := ⟨fun h => congrFun h (), fun h => by rw [h]⟩
theorem thp_eq {α : Type} {a b : α} : ((fun _ : PUnit.{1} => a) = fun _ => b) ↔ a = b := ⟨fun h => congrFun h .unit, fun h => by rw [h]⟩
theorem wrap_id {n : Int} (h1 : -9223372036854775808 ≤ n) (h2 : n ≤ 9223372036854775807) : IntKind.i64.wrap n = n := by
 have := @IntWalk.i64_in n ⟨h1, h2⟩
 exact this
theorem eta_map (m : PMap) : (⟨m.cells, m.width⟩ : PMap) = m := rfl
theorem eta_wlk (w : Wlk) : (⟨w.id, w.pos, w.coins, w.seq, w.last⟩ : Wlk) = w := rfl
theorem eta_ord (o : Ord) : (⟨o.who, o.seq, o.kind, o.dest, o.n⟩ : Ord) = o := rfl
theorem eta_pcl (p : Pcl) : (⟨p.n, p.kind, p.wlk, p.coins⟩ : Pcl) = p := rfl
theorem eta_cll (c : Cll) : (⟨c.cell, c.wlks, c.ground, c.outs, c.next, c.ins⟩ : Cll) = c := rfl
theorem eta_rec (r : Rec) : (⟨r.kind, r.ord, r.side, r.pcl, r.n⟩ : Rec) = r := rfl
theorem eta_sto (s : Sto) : (⟨s.age, s.base, s.recs⟩ : Sto) = s := rfl
theorem eta_hld (h : Hld) : (⟨h.age, h.count, h.state⟩ : Hld) = h := rfl
theorem eta_gst (g : Gst) : (⟨g.src, g.count, g.wlk⟩ : Gst) = g := rfl
theorem eta_arb (a : Arb) : (⟨a.servers, a.ages⟩ : Arb) = a := rfl
theorem eta_msg (m : Msg) : (⟨m.kind, m.dest, m.cell, m.side, m.n, m.ord, m.pcl, m.gst⟩ : Msg) = m := rfl
theorem eta_srv (s : Srv) : (⟨s.up, s.holds, s.ghosts⟩ : Srv) = s := rfl
theorem eta_row (r : Row) : (⟨r.who, r.cell, r.busy, r.ord, r.seq, r.code⟩ : Row) = r := rfl
theorem eta_note (n : Note) : (⟨n.who, n.seq, n.code⟩ : Note) = n := rfl
theorem eta_evt (e : Evt) : (⟨e.kind, e.pos, e.what, e.dest, e.n⟩ : Evt) = e := rfl
theorem eta_ow (w : OW) : (⟨w.wlk, w.here⟩ : OW) = w := rfl
theorem eta_one (o : One) : (⟨o.map, o.wlks, o.ground, o.air⟩ : One) = o := rfl
theorem eta_wld (w : Wld) : (⟨w.map, w.servers, w.stores, w.table, w.rows, w.net, w.notes⟩ : Wld) = w := rfl
theorem oA_int (k : IntKind) (n : Th Int) : oA (.int k n) = .att (.int k n) := rfl
theorem oA_bool (b : SB) : oA (.bool b) = .att (.bool b) := rfl
theorem oA_list (t : RT) (l : Th (List t.ty)) : oA (.list t l) = .ownd t l := rfl
theorem fin0 : type_of% (And.intro @vB.eq_1 (And.intro @vI.eq_1 (And.intro @vL.eq_1 (And.intro @vW.eq_1 (And.intro @cI.eq_1 (And.intro @oAs.eq_1 (And.intro @rAs.eq_1 (And.intro @rCll.eq_1 (And.intro @oMap.eq_1 (And.intro @oWlk.eq_1 (And.intro @oOrd.eq_1 (And.intro @oPcl.eq_1 (And.intro @oRec.eq_1 (And.intro @oCll.eq_1 (And.intro @oSto.eq_1 (And.intro @oHld.eq_1 (And.intro @oGst.eq_1 (And.intro @oArb.eq_1 (And.intro @oMsg.eq_1 (And.intro @oSrv.eq_1 (And.intro @oRow.eq_1 (And.intro @oNote.eq_1 (And.intro @oEvt.eq_1 (And.intro @oOW.eq_1 (And.intro @oOne.eq_1 (And.intro @oWld.eq_1 (And.intro @encMap.eq_1 (And.intro @encWlk.eq_1 (And.intro @encOrd.eq_1 (And.intro @encPcl.eq_1 (And.intro @encRec.eq_1 (And.intro @encCll.eq_1 (And.intro @encSto.eq_1 (And.intro @encHld.eq_1 (And.intro @encGst.eq_1 (And.intro @encArb.eq_1 (And.intro @encMsg.eq_1 (And.intro @encSrv.eq_1 (And.intro @encRow.eq_1 (And.intro @encNote.eq_1 (And.intro @encEvt.eq_1 (And.intro @encOW.eq_1 (And.intro @encOne.eq_1 (And.intro @encWld.eq_1 (And.intro @oA_int (And.intro @oA_bool (And.intro @oA_list (And.intro @List.map_cons.{0,0} (And.intro @List.map_nil.{0,0} (And.intro @C.ownd.injEq (And.intro @A.list.injEq (And.intro @heq_eq_eq.{1} (And.intro @SB.val.eq_1 (And.intro @SB.val.eq_2 (And.intro @SB.val.eq_3 (And.intro @Prod.mk.injEq.{0,0} (And.intro @V.one.injEq (And.intro @V.agg.injEq (And.intro @V.tup.injEq (And.intro @List.cons.injEq.{0} (And.intro @C.att.injEq (And.intro @A.bool.injEq (And.intro @A.int.injEq (And.intro @SB.of.injEq (And.intro @th_eq (And.intro @thp_eq (And.intro @and_true (@true_and)))))))))))))))))))))))))))))))))))))))))))))))))))))))))))))))))))) :=
 And.intro @vB.eq_1 (And.intro @vI.eq_1 (And.intro @vL.eq_1 (And.intro @vW.eq_1 (And.intro @cI.eq_1 (And.intro @oAs.eq_1 (And.intro @rAs.eq_1 (And.intro @rCll.eq_1 (And.intro @oMap.eq_1 (And.intro @oWlk.eq_1 (And.intro @oOrd.eq_1 (And.intro @oPcl.eq_1 (And.intro @oRec.eq_1 (And.intro @oCll.eq_1 (And.intro @oSto.eq_1 (And.intro @oHld.eq_1 (And.intro @oGst.eq_1 (And.intro @oArb.eq_1 (And.intro @oMsg.eq_1 (And.intro @oSrv.eq_1 (And.intro @oRow.eq_1 (And.intro @oNote.eq_1 (And.intro @oEvt.eq_1 (And.intro @oOW.eq_1 (And.intro @oOne.eq_1 (And.intro @oWld.eq_1 (And.intro @encMap.eq_1 (And.intro @encWlk.eq_1 (And.intro @encOrd.eq_1 (And.intro @encPcl.eq_1 (And.intro @encRec.eq_1 (And.intro @encCll.eq_1 (And.intro @encSto.eq_1 (And.intro @encHld.eq_1 (And.intro @encGst.eq_1 (And.intro @encArb.eq_1 (And.intro @encMsg.eq_1 (And.intro @encSrv.eq_1 (And.intro @encRow.eq_1 (And.intro @encNote.eq_1 (And.intro @encEvt.eq_1 (And.intro @encOW.eq_1 (And.intro @encOne.eq_1 (And.intro @encWld.eq_1 (And.intro @oA_int (And.intro @oA_bool (And.intro @oA_list (And.intro @List.map_cons.{0,0} (And.intro @List.map_nil.{0,0} (And.intro @C.ownd.injEq (And.intro @A.list.injEq (And.intro @heq_eq_eq.{1} (And.intro @SB.val.eq_1 (And.intro @SB.val.eq_2 (And.intro @SB.val.eq_3 (And.intro @Prod.mk.injEq.{0,0} (And.intro @V.one.injEq (And.intro @V.agg.injEq (And.intro @V.tup.injEq (And.intro @List.cons.injEq.{0} (And.intro @C.att.injEq (And.intro @A.bool.injEq (And.intro @A.int.injEq (And.intro @SB.of.injEq (And.intro @th_eq (And.intro @thp_eq (And.intro @and_true (@true_and)))))))))))))))))))))))))))))))))))))))))))))))))))))))))))))))))))
theorem eta0 : type_of% (And.intro @eta_map (And.intro @eta_wlk (And.intro @eta_ord (And.intro @eta_pcl (And.intro @eta_rec (And.intro @eta_cll (And.intro @eta_sto (And.intro @eta_hld (And.intro @eta_gst (And.intro @eta_arb (And.intro @eta_msg (And.intro @eta_srv (And.intro @eta_row (And.intro @eta_note (And.intro @eta_evt (And.intro @eta_ow (And.intro @eta_one (And.intro @eta_wld (And.intro @Int.toNat_natCast (And.intro @Nat.succ_eq_add_one (And.intro @decide_eq_true_eq (And.intro @decide_eq_false_iff_not (And.intro @Int.ofNat_lt (And.intro @Int.ofNat_le (And.intro @Int.natCast_pos (And.intro @Bool.not_eq_true' (And.intro @Bool.not_eq_false' (And.intro @castL_self (And.intro @SB.val.eq_1 (And.intro @SB.val.eq_2 (And.intro @SB.val.eq_3 (And.intro @evT.eq_1 (And.intro @evT.eq_2 (And.intro @List.length_append.{0} (And.intro @List.length_cons.{0} (@List.length_nil.{0})))))))))))))))))))))))))))))))))))) :=
 And.intro @eta_map (And.intro @eta_wlk (And.intro @eta_ord (And.intro @eta_pcl (And.intro @eta_rec (And.intro @eta_cll (And.intro @eta_sto (And.intro @eta_hld (And.intro @eta_gst (And.intro @eta_arb (And.intro @eta_msg (And.intro @eta_srv (And.intro @eta_row (And.intro @eta_note (And.intro @eta_evt (And.intro @eta_ow (And.intro @eta_one (And.intro @eta_wld (And.intro @Int.toNat_natCast (And.intro @Nat.succ_eq_add_one (And.intro @decide_eq_true_eq (And.intro @decide_eq_false_iff_not (And.intro @Int.ofNat_lt (And.intro @Int.ofNat_le (And.intro @Int.natCast_pos (And.intro @Bool.not_eq_true' (And.intro @Bool.not_eq_false' (And.intro @castL_self (And.intro @SB.val.eq_1 (And.intro @SB.val.eq_2 (And.intro @SB.val.eq_3 (And.intro @evT.eq_1 (And.intro @evT.eq_2 (And.intro @List.length_append.{0} (And.intro @List.length_cons.{0} (@List.length_nil.{0})))))))))))))))))))))))))))))))))))
end Go.Sx
