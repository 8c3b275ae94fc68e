/-
  Contracts of functions that turn a struct behind a pointer: it comes in as data, and comes back as data.
-/
import Derived.Test.YtjgijoageljjgaaGreatS4e
set_option linter.unusedVariables false
set_option linter.unusedSimpArgs false
namespace Go.Sx

/-! ## The program of such a call -/
structure Io where
  ptr : PT
  keep : Bool
  pars : List PT
  rets : List (List (Option RT))
  run : Th ptr.ty → Args pars → Rn (V × Th ptr.ty)

def PT.sz : PT → Nat
  | .int _ => 1
  | .bool => 1
  | .row t => t.size
  | .map => 2
  | .ord => 5
  | .arb => 2
  | .one => 5
  | .book => 1
  | .list _ => 1

/-- Cells told at the end, as data that is owned. -/
def ownAs : List C → Option (List A)
  | [] => some []
  | .ownd t l :: r => match ownAs r with
    | some as => some (.list t l :: as)
    | none => none
  | .att a :: r => match a with
    | .list _ _ => none
    | a => match ownAs r with
      | some as => some (a :: as)
      | none => none
  | _ => none
/-- The keys that lists come back under. -/
def backKs : Nat → List C → List Nat
  | _, [] => []
  | kb, .own k _ :: r => k :: backKs (kb + 1) r
  | kb, _ :: r => kb :: backKs (kb + 1) r
def outKs : List Nat → List C → M (List C)
  | _, [] => .ret []
  | [], _ :: _ => .fail
  | k :: ks, c :: cs => (outC k c).bind fun x => (outKs ks cs).bind fun r => .ret (x :: r)
def unks (n : Nat) : List C := List.replicate n .unk

def callIo (s : Io) (kb : Nat) (args : List V) : M V :=
  match args with
  | .one (.ptr k v j) :: args' => .get k fun e => match e with
    | (v', .var _ cs) => M.guard (v == v' && decide (j + s.ptr.sz ≤ cs.length)) ((finCs true s.ptr.nils ((cs.drop j).take s.ptr.sz)).bind fun us => match ownAs us with
      | some as => match s.ptr.decA as with
        | some x => .get k fun e => match e with
          | (v2, .var bx2 cs2) => M.guard (v == v2 && decide (j + s.ptr.sz ≤ cs2.length)) (.set k (v, .var bx2 (putAt cs2 j (unks s.ptr.sz))) ((lendVs s.pars args').bind fun ins => (s.run x ins).lift.bind fun r => M.guard (!r.1.shares) <|
              (outKs (backKs (kb + 128) ((cs.drop j).take s.ptr.sz)) ((s.ptr.encA r.2).map (outA true))).bind fun ds => .get k fun e => match e with
                | (v3, .var bx3 cs3) => M.guard (v == v3 && decide (j + ds.length ≤ cs3.length)) (.set k (v, .var bx3 (putAt cs3 j ds)) (outV kb r.1))
                | _ => .fail))
          | _ => .fail
        | none => .fail
      | none => .fail)
    | _ => .fail
  | _ => .fail

/-- The end: what is behind the pointer. -/
def leftIo (s : Io) (u : V) (K : V × Th s.ptr.ty → Prop) (hp : Hp) : Prop :=
  match hp.get 0 with
  | (_, .var _ cs) => (finCs true s.ptr.nils cs).wp ⟨[], []⟩ hp fun ds _ => match ownAs ds with
    | some as => match s.ptr.decA as with
      | some x => K (u, x)
      | none => False
    | none => False
  | _ => False
def finIo (ctx : Ctx) (rs : List ResultVar) (s : Io) (K : V × Th s.ptr.ty → Prop) (e : Ex) (σ : St) : Prop :=
  match e with
  | .exit _ => False
  | _ => ((resultsV rs ctx σ.tm).bind fun vs => finVs s.keep s.rets vs).wp ⟨[], []⟩ σ.hp fun us hp => leftIo s (tupV us) K hp
def vcFnIo (E : Env0) (n f : Nat) (fn : Func) (s : Io) (x : Th s.ptr.ty) (ins : Args s.pars) (K : V × Th s.ptr.ty → Prop) : Prop :=
  match fn.body with
  | some c => if !decide (s.pars.length + 1 ≤ fn.ntmps) then False else
      (outKs (backKs 1 ((s.ptr.encA x).map (outA true))) ((s.ptr.encA x).map (outA true))).wp ⟨[], []⟩ (Tr.set .leaf 0 (1, .var true (unks s.ptr.sz))) fun ds hp => if !decide (ds.length = s.ptr.sz) then False else
        vc (E.ctx f 64 fn.ntmps) ⟨[], []⟩ (vcCall E ⟨[], []⟩ n) c ⟨argTm 0 (.one (.ptr 0 1 0) :: encArgs s.pars ins), hp.set 0 (1, .var true ds), []⟩ (finIo (E.ctx f 0 0) fn.results.toList s K)
  | none => False
def OkPt (p : PT) (x : Th p.ty) : Prop := ∀ a ∈ p.encA x, OkA a
def SpecForIo (E : (Nat → Nat → Option Ann) → (Nat → Nat → Option Ann) → Env0) (f : Nat) (fn : Func) (s : Io) : Prop := ∀ x ins K, OkPt s.ptr x → OkArgs s.pars ins → (s.run x ins).wp K → ∃ an cut n, vcFnIo (E an cut) n f fn s x ins K

section
variable {P : Program} {ctx : Ctx} {B : Base} {e e' ef : Env} {a : Act} {w w' : World} {σ τ : St} {L : Locks} {hp hp' : Hp} {N : Nat → Prop}

/-! ## A variable's cells, told otherwise -/
theorem step_recells (h : HR e hp w) {k ver : Nat} {bx : Bool} {cs ds : List C} (hx : hp.get k = (ver, .var bx cs)) (hlen : ds.length = cs.length) (hc : ∀ b off arr T, e.E k = .pointer (some ⟨b, off, none⟩) → w.heap[b]? = some (.cells arr T (0, 0)) → ∀ (j : Nat) c v, ds[j]? = some c → arr[off + j]? = some v → CR e hp w v c) :
    Stp e hp w e (hp.set k (ver, .var bx ds)) w := by
  have hsr : SR e hp w e (hp.set k (ver, .var bx ds)) w := ⟨fun b hb => ⟨hb, rfl⟩, fun k' => by
    by_cases hkk : k' = k
    · subst hkk
      refine .upd (by rw [Tr.get_set_same, hx]) rfl ?_
      rw [Tr.get_set_same, hx]
      exact .var _ _ _
    · exact .same (Tr.get_set_ne _ _ hkk) rfl fun b q hb => ⟨hb, rfl⟩⟩
  refine ⟨⟨fun k' => ?_, h.sOk, h.oOk⟩, hsr, ⟨rfl, rfl, rfl, fun _ h => .inl h, Nat.le_refl _, fun b hb ho => ⟨rfl, ho⟩, fun b k' off n cs0 arr T h1 h2 h3 h4 h5 => ?_⟩⟩
  · by_cases hkk : k' = k
    · subst hkk
      rw [Tr.get_set_same]
      have hch := h.chs k'
      rw [hx] at hch
      obtain ⟨b, off, arr, T, g1, g2, g3, g4, g5⟩ := hch
      refine ⟨b, off, arr, T, g1, g2, g3, by rw [hlen]; exact g4, fun j c hj => ?_⟩
      have hjl : j < cs.length := by rw [← hlen]; exact (List.getElem?_eq_some_iff.1 hj).1
      obtain ⟨v, h6, h7, h8⟩ := g5 j _ (List.getElem?_eq_getElem hjl)
      exact ⟨v, h6, CR.mono hsr.S hsr.k _ _ (hc b off arr T g1 g3 j c v hj h6), h8⟩
    · rw [Tr.get_set_ne _ _ hkk]
      exact ChR.mono hsr.S hsr.k rfl (fun b q hb => ⟨hb, rfl⟩) (h.chs k')
  · by_cases hkk : k' = k
    · subst hkk
      rw [hx] at h3
      cases h3
      exact ⟨h1, rfl, ⟨_, by rw [Tr.get_set_same], by rw [hlen]; exact h4⟩, arr, h5, rfl, fun _ _ => rfl⟩
    · exact ⟨h1, rfl, ⟨cs0, by rw [Tr.get_set_ne _ _ hkk]; exact h3, h4⟩, arr, h5, rfl, fun _ _ => rfl⟩

/-! ## What comes back, under keys -/
theorem outKs_sound : ∀ (cs : List C) (ks : List Nat) (vs : List Value) (fl : List (Option Nat)) (e : Env) (hp : Hp) (K : List C → Hp → Prop), HR e hp w → FinCs ef w vs cs fl → (∀ u ∈ vs, one u) → Dis N w ef fl e → fl.Pairwise (fun x y => ∀ k, x = some k → y ≠ some k) →
    (∀ c ∈ cs, shareC c = false) → (outKs ks cs).wp L hp K → ∃ e' hp' ds, GS N w ef fl e hp e' hp' ∧ CRs e' hp' w vs ds ∧ K ds hp'
  | [], ks, vs, fl, e, hp, K, h, hc, _, _, _, _, hm => by
    cases vs with
    | nil => cases fl with
      | nil =>
        cases ks <;> exact ⟨e, hp, [], GS.refl h, by simp only [CRs], hm⟩
      | cons _ _ => exact hc.elim
    | cons _ _ => exact hc.elim
  | c :: cs, [], vs, fl, e, hp, K, h, hc, h1, hd, hpw, hS, hm => hm.elim
  | c :: cs, kb :: ks, vs, fl, e, hp, K, h, hc, h1, hd, hpw, hS, hm => by
    cases vs with
    | nil => exact hc.elim
    | cons v vs => cases fl with
      | nil => exact hc.elim
      | cons f fl =>
        simp only [outKs] at hm
        rw [M.wp_bind] at hm
        obtain ⟨e1, hp1, d, G1, hcd, _, hm⟩ := outC_sound (N := N) h hc.1 (OneIf.of_one (h1 v (by simp))) (fun k hk b q hb => hd k (by simp at hk; subst hk; simp) b q hb) (fun hs => by rw [hS c (by simp)] at hs; cases hs) hm
        rw [M.wp_bind] at hm
        obtain ⟨e2, hp2, ds, G2, hds, hm⟩ := outKs_sound cs ks vs fl e1 hp1 _ G1.hr hc.2 (fun u hu => h1 u (by simp [hu])) (Dis.step (f1 := [f]) (f2 := fl) hd G1 hpw) (List.pairwise_cons.1 hpw).2 (fun c hc => hS c (by simp [hc])) hm
        refine ⟨e2, hp2, d :: ds, G1.trans G2, ?_, hm⟩
        have hv1 : VR e1 hp1 w v (.one d) := by simp only [VR]; exact ⟨hcd, OneIf.of_one (h1 v (by simp))⟩
        have hv2 := G2.vr _ _ hv1
        simp only [VR] at hv2
        simp only [CRs]
        exact ⟨hv2.1, hds⟩

/-! ## What is told at the end, as data -/
theorem ownAs_fin : ∀ (us : List C) (as bs : List A) (vs : List Value) (fl : List (Option Nat)), ownAs us = some as → Same as bs → FinCs e w vs us fl → FinCs e w vs (bs.map (outA true)) fl
  | [], as, bs, vs, fl, ha, hs, hf => by
    cases ha
    cases hs
    exact hf
  | u :: us, as, bs, vs, fl, ha, hs, hf => by
    cases vs with
    | nil => exact hf.elim
    | cons v vs => cases fl with
      | nil => exact hf.elim
      | cons f fl =>
        have hu := hf.1
        cases u with
        | ownd t l =>
          simp only [ownAs] at ha
          split at ha
          · rename_i as' has
            cases ha
            cases hs with
            | cons h1 h2 =>
              refine ⟨?_, ownAs_fin us as' _ vs fl has h2 hf.2⟩
              cases h1 with
              | list t l m he =>
                obtain rfl : l = m := funext fun _ => he
                exact hu
          · cases ha
        | att a =>
          cases a with
          | list _ _ => cases ha
          | int kd n =>
            simp only [ownAs] at ha
            split at ha
            · rename_i as' has
              cases ha
              cases hs with
              | cons h1 h2 =>
                refine ⟨?_, ownAs_fin us as' _ vs fl has h2 hf.2⟩
                cases h1 with
                | int _ m n he => exact ⟨hu.1, hu.2.same (.int _ _ _ he)⟩
            · cases ha
          | bool b =>
            simp only [ownAs] at ha
            split at ha
            · rename_i as' has
              cases ha
              cases hs with
              | cons h1 h2 =>
                refine ⟨?_, ownAs_fin us as' _ vs fl has h2 hf.2⟩
                cases h1 with
                | bool _ c he => exact ⟨hu.1, hu.2.same (.bool _ _ he)⟩
            · cases ha
        | _ => cases ha

theorem ownAs_ok : ∀ (us : List C) (as : List A) (vs : List Value) (fl : List (Option Nat)), ownAs us = some as → FinCs e w vs us fl → ∀ a ∈ as, OkA a
  | [], as, vs, fl, ha, hf, a, hm => by
    cases ha
    cases hm
  | u :: us, as, vs, fl, ha, hf, a, hm => by
    cases vs with
    | nil => exact hf.elim
    | cons v vs => cases fl with
      | nil => exact hf.elim
      | cons f fl =>
        have hu := hf.1
        cases u with
        | ownd t l =>
          simp only [ownAs] at ha
          split at ha
          · rename_i as' has
            cases ha
            rcases List.mem_cons.1 hm with rfl | hm
            · rcases hu with ⟨k, _, ho⟩ | ⟨_, _, hl⟩
              · exact (ho.rep (S := fun _ => True) (w' := w) fun b r hb => ⟨trivial, rfl⟩).ok
              · exact (Rep.nil (S := fun _ => True) (w := w) t l hl).ok
            · exact ownAs_ok us as' vs fl has hf.2 a hm
          · cases ha
        | att x =>
          cases x with
          | list _ _ => cases ha
          | int kd n =>
            simp only [ownAs] at ha
            split at ha
            · rename_i as' has
              cases ha
              rcases List.mem_cons.1 hm with rfl | hm
              · exact hu.2.ok
              · exact ownAs_ok us as' vs fl has hf.2 a hm
            · cases ha
          | bool b =>
            simp only [ownAs] at ha
            split at ha
            · rename_i as' has
              cases ha
              rcases List.mem_cons.1 hm with rfl | hm
              · exact hu.2.ok
              · exact ownAs_ok us as' vs fl has hf.2 a hm
            · cases ha
        | _ => cases ha

theorem OkA.same {a b : A} (h : OkA a) (hs : A.same a b) : OkA b := by
  cases hs with
  | int k m n e => cases h with
    | int _ _ h1 h2 => rw [e] at h1 h2; exact .int k n h1 h2
  | bool b c e => exact .bool c
  | list t l m e =>
    obtain rfl : l = m := funext fun _ => e
    exact h
theorem same_ok : ∀ {as bs : List A}, Same as bs → (∀ a ∈ as, OkA a) → ∀ a ∈ bs, OkA a
  | _, _, .nil, _, a, ha => by cases ha
  | _, _, .cons h1 h2, h, a, ha => by
    rcases List.mem_cons.1 ha with rfl | ha
    · exact (h _ (.head _)).same h1
    · exact same_ok h2 (fun x hx => h x (.tail _ hx)) a ha
theorem outA_noshare (as : List A) : ∀ c ∈ as.map (outA true), shareC c = false := by
  intro c hc
  obtain ⟨a, _, rfl⟩ := List.mem_map.1 hc
  cases a <;> rfl

/-! ## The way in -/
def unkBase (w : World) (S : Nat → Prop) (om0 : Nat → Option (Nat × Path)) (b0 off n : Nat) : Base := ⟨w, S, om0, fun b => if b = b0 then some (0, off, n) else none, []⟩

theorem unk_entry {S : Nat → Prop} {b0 off n T : Nat} {arr : Array Value} (hS : ∀ b, S b → b < w.heap.size ∧ b ≠ b0) (hb : w.heap[b0]? = some (.cells arr T (0, 0))) (hl : off + n ≤ arr.size) (h1 : ∀ j v, j < n → arr[off + j]? = some v → one v) :
    HR (boxEnv S b0 off) (Tr.set .leaf 0 (1, .var true (unks n))) w := by
  have hlt : b0 < w.heap.size := (Array.getElem?_eq_some_iff.1 hb).1
  refine ⟨fun k => ?_, fun b hb => ⟨by simp [boxEnv, (hS b hb).2], (hS b hb).1⟩, fun b x hb => ?_⟩
  · rw [Tr.get_set]
    split
    · rename_i hk
      subst hk
      refine ⟨b0, off, arr, T, rfl, by simp [boxEnv], hb, by simpa [unks] using hl, fun j c hc => ?_⟩
      have hj : j < n := by
        have := (List.getElem?_eq_some_iff.1 hc).1
        simpa [unks] using this
      obtain rfl : c = .unk := by
        have := List.mem_of_getElem? hc
        simp [unks] at this
        exact this.2
      have hja : off + j < arr.size := by omega
      exact ⟨arr[off + j], by rw [Array.getElem?_eq_getElem hja], by simp only [CR], h1 j _ hj (by rw [Array.getElem?_eq_getElem hja])⟩
    · trivial
  · simp only [boxEnv] at hb
    split at hb
    · rename_i he; rw [he]; exact hlt
    · cases hb

/-! ## Behind the call -/
/-- The caller's blocks: those that were handed over are nobody's. -/
def Env.drop (e : Env) (fl : List (Option Nat)) : Env := ⟨e.S, fun b => match e.om b with
  | some (k, q) => if some k ∈ fl then none else some (k, q)
  | none => none, e.E⟩
theorem drop_none {fl : List (Option Nat)} {b : Nat} (h : e.om b = none) : (e.drop fl).om b = none := by simp [Env.drop, h]
theorem drop_in {fl : List (Option Nat)} {b k : Nat} {q : Path} (h : e.om b = some (k, q)) (hk : some k ∈ fl) : (e.drop fl).om b = none := by simp [Env.drop, h, hk]
theorem drop_out {fl : List (Option Nat)} {b k : Nat} {q : Path} (h : e.om b = some (k, q)) (hk : some k ∉ fl) : (e.drop fl).om b = some (k, q) := by simp [Env.drop, h, hk]
theorem drop_some {fl : List (Option Nat)} {b : Nat} {x : Nat × Path} (h : (e.drop fl).om b = some x) : e.om b = some x ∧ some x.1 ∉ fl := by
  cases ho : e.om b with
  | none => rw [drop_none ho] at h; cases h
  | some y =>
    obtain ⟨k, q⟩ := y
    by_cases hk : some k ∈ fl
    · rw [drop_in ho hk] at h; cases h
    · rw [drop_out ho hk] at h
      cases h
      exact ⟨rfl, hk⟩

theorem step_call (h : HR e hp w) {fl : List (Option Nat)} (hfl : ∀ k, some k ∈ fl → (hp.get k).2 = .dead) {k ver b0 off j n T : Nat} {bx : Bool} {cs : List C} {arr arr' : Array Value} (hx : hp.get k = (ver, .var bx cs)) (hE : e.E k = .pointer (some ⟨b0, off, none⟩)) (hom : e.om b0 = some (k, []))
    (hos : w'.os = w.os) (htp : w'.tape = w.tape) (hou : w'.output = w.output) (hsz : w.heap.size ≤ w'.heap.size) (hold : ∀ b, b < w.heap.size → b ≠ b0 → (∀ k q, e.om b = some (k, q) → some k ∉ fl) → w'.heap[b]? = w.heap[b]?)
    (hb : w.heap[b0]? = some (.cells arr T (0, 0))) (hb' : w'.heap[b0]? = some (.cells arr' T (0, 0))) (has : arr'.size = arr.size) (hout : ∀ o, (o < off + j ∨ off + j + n ≤ o) → arr'[o]? = arr[o]?) (hjn : j + n ≤ cs.length)
    (hunk : ∀ i c, j ≤ i → i < j + n → cs[i]? = some c → c = .unk) (hone : ∀ i v, i < n → arr'[off + j + i]? = some v → one v) : Stp e hp w (e.drop fl) hp w' := by
  have hkn : some k ∉ fl := fun hk => by
    have := hfl k hk
    rw [hx] at this
    cases this
  have hsame : ∀ b k2 q, e.om b = some (k2, q) → k2 ≠ k → some k2 ∉ fl → (e.drop fl).om b = some (k2, q) ∧ w'.heap[b]? = w.heap[b]? := fun b k2 q hb2 hne hn => ⟨drop_out hb2 hn, hold b (h.oOk b _ hb2) (fun he => by
      subst he
      rw [hom] at hb2
      cases hb2
      exact hne rfl) fun k3 q3 h3 => by
        rw [hb2] at h3
        cases h3
        exact hn⟩
  have hsr : SR e hp w (e.drop fl) hp w' := by
    refine ⟨fun b hb2 => ⟨hb2, hold b (h.sOk b hb2).2 (fun he => by
      subst he
      rw [(h.sOk _ hb2).1] at hom
      cases hom) fun k q hq => by rw [(h.sOk b hb2).1] at hq; cases hq⟩, fun k2 => ?_⟩
    by_cases hk : k2 = k
    · subst hk
      exact .upd rfl rfl (by rw [hx]; exact .var _ _ _)
    · by_cases hf : some k2 ∈ fl
      · exact .upd rfl rfl (by rw [hfl k2 hf]; exact .dead _)
      · exact .same rfl rfl fun b q hb2 => hsame b k2 q hb2 hk hf
  refine ⟨h.step hsr (fun k2 => ?_) (fun b hb2 => ⟨drop_none (h.sOk b hb2).1, Nat.lt_of_lt_of_le (h.sOk b hb2).2 hsz⟩) (fun b y hb2 => Nat.lt_of_lt_of_le (h.oOk b _ (drop_some hb2).1) hsz), hsr, ⟨hos, htp, hou, fun b hb2 => .inl hb2, hsz, fun b hb2 ho => ⟨hold b hb2 (fun he => by
      subst he
      rw [hom] at ho
      cases ho) (fun k q hq => by rw [ho] at hq; cases hq), drop_none ho⟩, fun b k2 off2 n2 cs2 arr2 T2 h1 h2 h3 h4 h5 => ?_⟩⟩
  · by_cases hk : k2 = k
    · subst hk
      right
      have hch := h.chs k2
      rw [hx] at hch ⊢
      obtain ⟨b, off2, arr2, T2, g1, g2, g3, g4, g5⟩ := hch
      rw [hE] at g1
      cases g1
      rw [hb] at g3
      cases g3
      refine ⟨b0, off, arr', T, hE, drop_out hom hkn, hb', by rw [has]; exact g4, fun i c hc => ?_⟩
      obtain ⟨v, h6, h7, h8⟩ := g5 i c hc
      by_cases hi : j ≤ i ∧ i < j + n
      · obtain rfl := hunk i c hi.1 hi.2 hc
        have hil : off + i < arr'.size := by
          rw [has]
          exact (Array.getElem?_eq_some_iff.1 h6).1
        refine ⟨arr'[off + i], by rw [Array.getElem?_eq_getElem hil], by simp only [CR], hone (i - j) _ (by omega) ?_⟩
        rw [show off + j + (i - j) = off + i by omega, Array.getElem?_eq_getElem hil]
      · refine ⟨v, by rw [hout _ (by omega)]; exact h6, CR.mono hsr.S hsr.k _ _ h7, h8⟩
    · by_cases hf : some k2 ∈ fl
      · right
        rw [hfl k2 hf]
        trivial
      · left
        exact ⟨rfl, rfl, fun b q hb2 => hsame b k2 q hb2 hk hf⟩
  · by_cases hk : k2 = k
    · subst hk
      rw [hE] at h2
      cases h2
      rw [hb] at h5
      cases h5
      rw [hx] at h3
      cases h3
      exact ⟨drop_out h1 hkn, rfl, ⟨_, by rw [hx], h4⟩, arr', hb', has, fun o ho => hout o (by omega)⟩
    · have hf : some k2 ∉ fl := fun hf => by
        rw [hfl k2 hf] at h3
        cases h3
      obtain ⟨g1, g2⟩ := hsame b k2 [] h1 hk hf
      exact ⟨g1, rfl, ⟨cs2, h3, h4⟩, arr2, by rw [g2]; exact h5, rfl, fun _ _ => rfl⟩

theorem FinVs.mono {e e' : Env} {hp : Hp} (hk : ∀ k, (hp.get k).2 = .dead → ∀ b q, e.om b = some (k, q) → e'.om b = some (k, q)) (hS : ∀ b, e.S b → e'.S b) : ∀ {vs : List Value} {us : List V} {fl : List (Option Nat)}, FinVs e w vs us fl → (∀ k, some k ∈ fl → (hp.get k).2 = .dead) → FinVs e' w vs us fl
  | [], [], _, h, _ => h
  | v :: vs, u :: us, fl, h, hf => by
    obtain ⟨f1, f2, rfl, h1, h2⟩ := h
    exact ⟨f1, f2, rfl, h1.mono hk hS fun k hk' => hf k (List.mem_append_left _ hk'), FinVs.mono hk hS h2 fun k hk' => hf k (List.mem_append_right _ hk')⟩
  | [], _ :: _, _, h, _ => h.elim
  | _ :: _, [], _, h, _ => h.elim

/-! ## The body, run -/
def RunPostIo (B : Base) (s : Io) (K : V × Th s.ptr.ty → Prop) (en : Ending) (w' : World) : Prop := ∃ v vs us e' hp', en = .returned v ∧ HR e' hp' w' ∧ FR B e' hp' w' ∧ VRs e' hp' w' us vs ∧ (v = if h : us.toArray.size = 1 then us.toArray[0] else .tuple us.toArray) ∧
  (finVs s.keep s.rets vs).wp ⟨[], []⟩ hp' fun us hp => leftIo s (tupV us) K hp

theorem fn_runIo {E : Env0} (hE : EnvOk P E) {n f off : Nat} {fn : Func} {c : Code} (hfn : P.funcs[f]? = some fn) (hc : fn.body = some c) (hbo : bodyOk (E.plan f) fn = true) {s : Io} {K : V × Th s.ptr.ty → Prop} {hp0 : Hp} {args : List V} {vals : List Value} {e0 : Env}
    (hv : vc (E.ctx f off fn.ntmps) ⟨[], []⟩ (vcCall E ⟨[], []⟩ n) c ⟨argTm 0 args, hp0, []⟩ (finIo (E.ctx f 0 0) fn.results.toList s K)) (hlen : args.length ≤ fn.ntmps) (hup : B.up = []) (h : HR e0 hp0 w) (hf : FR B e0 hp0 w) (ha : VRs e0 hp0 w vals args) :
    Calls P f vals.toArray w (RunPostIo B s K) := by
  have hbo' : codeOk (E.plan f) c = true := by simpa [bodyOk, hc] using hbo
  have hl := ha.length
  have hrel : Rel B e0 w (vals.toArray ++ Array.replicate (fn.ntmps - vals.toArray.size) undef) ⟨argTm 0 args, hp0, []⟩ :=
    ⟨h, hf, by rw [hup]; trivial, fun t => arg_tmps ha _ t⟩
  refine calls_of_wp hfn hc (wp_mono (vc_sound hE.mix (ctx := E.ctx f off fn.ntmps) hE.spec (vcCall_sound hE n) hE.ty c _ w e0 _ _ hbo' rfl ?_ hrel hv) fun ex a' w' hq => ?_)
  · simp only [Array.size_append, List.size_toArray, Array.size_replicate, Env0.ctx]
    omega
  · have fin : At B (E.ctx f off fn.ntmps).nt (fun σ' => ((resultsV fn.results.toList (E.ctx f 0 0) σ'.tm).bind fun vs => finVs s.keep s.rets vs).wp ⟨[], []⟩ σ'.hp fun us hp => leftIo s (tupV us) K hp) a' w' →
        a'.defers = [] ∧ ∃ v, (results fn a'.tmps).run P w' = .ok v w' ∧ RunPostIo B s K (.returned v) w' := by
      rintro ⟨hA, _, e', σ', h', hm'⟩
      rw [M.wp_bind] at hm'
      obtain ⟨us, vs, r1, r2, r3⟩ := results_list (ctx := E.ctx f 0 0) hE.ty h' hm'
      exact ⟨hA, _, r1, _, vs, us, e', σ'.hp, rfl, h'.hr, h'.fr, r2, rfl, r3⟩
    cases ex with
    | normal => exact fin hq
    | ret => exact fin hq
    | exit id => obtain ⟨_, _, _, _, _, hm'⟩ := hq; exact hm'.elim
    | _ => exact hq.elim

/-- The values at a variable's place. -/
theorem var_vals {k ver : Nat} {bx : Bool} {cs : List C} (h : HR e hp w) (hx : hp.get k = (ver, .var bx cs)) : ∃ b off arr T, e.E k = .pointer (some ⟨b, off, none⟩) ∧ e.om b = some (k, []) ∧ w.heap[b]? = some (.cells arr T (0, 0)) ∧ off + cs.length ≤ arr.size ∧
    ∀ j n, j + n ≤ cs.length → ∃ vs : List Value, vs.length = n ∧ (∀ i v, vs[i]? = some v → arr[off + j + i]? = some v) ∧ CRs e hp w vs ((cs.drop j).take n) ∧ ∀ u ∈ vs, one u := by
  have hch := h.chs k
  rw [hx] at hch
  obtain ⟨b, off, arr, T, h1, h2, h3, h4, h5⟩ := hch
  refine ⟨b, off, arr, T, h1, h2, h3, h4, fun j n hjn => ?_⟩
  have hget : ∀ i, i < n → ∃ v, arr[off + j + i]? = some v := fun i hi => ⟨_, Array.getElem?_eq_getElem (by omega)⟩
  refine ⟨(List.range n).map fun i => (arr[off + j + i]?).getD undef, by simp, fun i v hv => ?_, CRs.of_get (by simp; omega) fun i v c hv hc => ?_, fun u hu => ?_⟩
  · have hi : i < n := by
      have := (List.getElem?_eq_some_iff.1 hv).1
      simpa using this
    obtain ⟨v', hv'⟩ := hget i hi
    rw [List.getElem?_map, List.getElem?_range hi] at hv
    simp only [Option.map_some, Option.some.injEq] at hv
    rw [hv'] at hv ⊢
    exact congrArg some hv
  · have hi : i < n := by
      have := (List.getElem?_eq_some_iff.1 hv).1
      simpa using this
    obtain ⟨v', hv'⟩ := hget i hi
    rw [List.getElem?_map, List.getElem?_range hi] at hv
    simp only [Option.map_some, Option.some.injEq] at hv
    rw [hv'] at hv
    simp only [Option.getD_some] at hv
    subst hv
    rw [List.getElem?_take_of_lt hi, List.getElem?_drop] at hc
    obtain ⟨v, g1, g2, g3⟩ := h5 (j + i) c hc
    rw [← Nat.add_assoc, hv'] at g1
    cases g1
    exact g2
  · obtain ⟨i, hi, rfl⟩ := List.mem_map.1 hu
    have hi : i < n := by simpa using hi
    obtain ⟨v', hv'⟩ := hget i hi
    rw [hv']
    obtain ⟨v, g1, g2, g3⟩ := h5 (j + i) _ (List.getElem?_eq_getElem (by omega))
    rw [← Nat.add_assoc, hv'] at g1
    cases g1
    exact g3


theorem io_sound {E : (Nat → Nat → Option Ann) → (Nat → Nat → Option Ann) → Env0} (hE : ∀ an cut, EnvOk P (E an cut)) {f : Nat} {fn : Func} {c : Code} (hfn : P.funcs[f]? = some fn) (hc : fn.body = some c) (hname : (fn.name == "runtime.NumGoroutine") = false) (hbo : ∀ an cut, bodyOk ((E an cut).plan f) fn = true) {s : Io} (hs : SpecForIo E f fn s) :
    ∀ L kb, ClOk P fun _ f' args σ K => f' = f ∧ (callIo s kb args).wp L σ.hp fun v hp => K v ⟨σ.tm, hp, σ.up⟩ := by
  intro L kb key f' args σ K ⟨hff, hm⟩
  subst hff
  refine ⟨⟨fn, c, hfn, hname, hc⟩, fun B e w tmps vals h hv => ?_⟩
  unfold callIo at hm
  split at hm
  rotate_left
  · exact hm.elim
  rename_i k ver j args'
  cases vals with
  | nil => simp only [VRs] at hv
  | cons val vals =>
  simp only [VRs] at hv
  obtain ⟨hv0, hv⟩ := hv
  replace hm := M.wp_get hm
  split at hm
  rotate_left
  · exact hm.elim
  rename_i v' bx cs hx
  have hmg := M.wp_guard hm
  clear hm
  obtain ⟨hg, hm⟩ := hmg
  simp only [Bool.and_eq_true, beq_iff_eq, decide_eq_true_eq] at hg
  obtain ⟨rfl, hjn⟩ := hg
  obtain ⟨b0, off, arr, T, hE0, hom0, hb0, hsz0, hvals⟩ := var_vals h.hr hx
  obtain ⟨vs0, hvl, hvm, hvc0, hv1⟩ := hvals j s.ptr.sz hjn
  rw [M.wp_bind] at hm
  obtain ⟨e1, hp1, us, fl, F, hus, hm⟩ := finCs_sound _ _ vs0 e σ.hp _ h.hr hvc0 hv1 hm
  split at hm
  rotate_left
  · exact hm.elim
  rename_i as has
  split at hm
  rotate_left
  · exact hm.elim
  rename_i x hxd
  replace hm := M.wp_get hm
  split at hm
  rotate_left
  · exact hm.elim
  rename_i v2 bx2 cs2 hx2
  have hmg := M.wp_guard hm
  clear hm
  obtain ⟨hg, hm⟩ := hmg
  simp only [Bool.and_eq_true, beq_iff_eq, decide_eq_true_eq] at hg
  obtain ⟨rfl, hjn2⟩ := hg
  replace hm := M.wp_set hm
  obtain ⟨_, hm⟩ := hm
  have hul : (unks s.ptr.sz).length = s.ptr.sz := by simp [unks]
  have hvr0 : VR e σ.hp w val (.one (.ptr k ver j)) := hv0
  have hptr : CR e σ.hp w val (.ptr k ver j) := by simp only [VR] at hv0; exact hv0.1
  have hval : val = .pointer (some ⟨b0, off + j, none⟩) := by
    simp only [CR, hx] at hptr
    obtain ⟨b1, off1, g1, g2⟩ := hptr.2 trivial
    rw [hE0] at g1
    cases g1
    exact g2
  have hE1 : e1.E k = .pointer (some ⟨b0, off, none⟩) := by
    have h1 := F.sr.CR hptr
    simp only [CR, hx2] at h1
    obtain ⟨b1, off1, g1, g2⟩ := h1.2 trivial
    rw [hval] at g2
    simp only [Value.pointer.injEq, Option.some.injEq, Addr.mk.injEq, and_true] at g2
    obtain ⟨rfl, g2⟩ := g2
    rw [g1]
    have : off1 = off := by omega
    rw [this]
  have hom1 : e1.om b0 = some (k, []) := by
    obtain ⟨b1, off1, _, _, g1, g2, _⟩ := var_vals F.hr hx2
    rw [hE1] at g1
    cases g1
    exact g2
  have hpl : (putAt cs2 j (unks s.ptr.sz)).length = cs2.length := putAt_length _ _ _ (by rw [hul]; exact hjn2)
  have st2 := step_recells (ds := putAt cs2 j (unks s.ptr.sz)) F.hr hx2 hpl (fun b off' arr' T' h1 h2 i cc v h3 h4 => by
    rw [putAt_get _ _ _ (by rw [hul]; exact hjn2)] at h3
    split at h3
    · have := List.mem_of_getElem? h3
      simp [unks] at this
      rw [this.2]
      simp only [CR]
    · have hch := F.hr.chs k
      rw [hx2] at hch
      obtain ⟨b2, off2, arr2, T2, g1, g2, g3, g4, g5⟩ := hch
      rw [h1] at g1
      cases g1
      rw [h2] at g3
      cases g3
      obtain ⟨u, g6, g7, _⟩ := g5 i cc h3
      rw [h4] at g6
      cases g6
      exact g7)
  generalize hhp2 : hp1.set k (ver, Ch.var bx2 (putAt cs2 j (unks s.ptr.sz))) = hp2 at *
  have hx2' : hp2.get k = (ver, .var bx2 (putAt cs2 j (unks s.ptr.sz))) := by rw [← hhp2, Tr.get_set_same]
  have hsts : Stps e σ.hp w e1 hp2 w := F.sr.trans (.one st2)
  have hkfl : some k ∉ fl := fun hk => by
    have := (F.live k hk).2.2
    rw [hx2] at this
    cases this
  have hfl : ∀ k, some k ∈ fl → (hp2.get k).2 = .dead := fun k' hk' => by
    have hne : k' ≠ k := fun he => hkfl (he ▸ hk')
    rw [← hhp2, Tr.get_set_ne _ _ hne]
    exact (F.live k' hk').2.2
  rw [M.wp_bind] at hm
  obtain ⟨ins, hin, hm⟩ := lendVs_sound st2.1 (ks := lentK (lentCs args')) s.pars args' vals _ (VRs.mono' hsts hv) (fun k hk => hk) hm
  rw [M.wp_bind, Rn.lift_wp] at hm
  have hsame := s.ptr.decA_spec as x hxd
  obtain ⟨an, cut, n, hvc⟩ := hs x ins _ (same_ok hsame (ownAs_ok us as vs0 fl has hus)) hin.ok hm
  clear hm
  unfold vcFnIo at hvc
  rw [hc] at hvc
  simp only at hvc
  split at hvc
  · exact hvc.elim
  rename_i hlen
  have hlen' : s.pars.length + 1 ≤ fn.ntmps := by simpa using hlen
  have hSlt : ∀ b, LentS e1 hp2 (lentK (lentCs args')) b → b < w.heap.size ∧ b ≠ b0 := fun b hb => by
    rcases hb with hb | ⟨k', q, hb, _, hrow⟩
    · exact ⟨(st2.1.sOk b hb).2, fun he => by subst he; rw [(st2.1.sOk _ hb).1] at hom1; cases hom1⟩
    · refine ⟨st2.1.oOk b _ hb, fun he => ?_⟩
      subst he
      rw [hom1] at hb
      cases hb
      rw [hx2'] at hrow
      exact hrow
  have hget0 : ∀ i, i < s.ptr.sz → ∃ u, vs0[i]? = some u ∧ arr[off + j + i]? = some u ∧ one u := fun i hi => by
    have hi' : i < vs0.length := by omega
    exact ⟨vs0[i], List.getElem?_eq_getElem hi', hvm i _ (List.getElem?_eq_getElem hi'), hv1 _ (List.getElem_mem hi')⟩
  have hr0 := unk_entry (n := s.ptr.sz) (off := off + j) hSlt hb0 (by omega) (fun i v hi hv => by
    obtain ⟨u, _, g2, g3⟩ := hget0 i hi
    rw [hv] at g2
    cases g2
    exact g3)
  have hfe := ownAs_fin us as _ vs0 fl has hsame hus
  have hdis0 : Dis (fun _ => True) w e1 fl (boxEnv (LentS e1 hp2 (lentK (lentCs args'))) b0 (off + j)) := fun κ hκ b q hb => by
    have hbb : b ≠ b0 := fun he => by
      subst he
      rw [hom1] at hb
      cases hb
      exact hkfl hκ
    refine ⟨trivial, by simp [boxEnv, hbb], fun hS => ?_, st2.1.oOk b _ hb⟩
    rcases hS with hS | ⟨k', q', hb', _, hrow⟩
    · rw [(st2.1.sOk b hS).1] at hb
      cases hb
    · rw [hb] at hb'
      cases hb'
      rw [hfl _ hκ] at hrow
      exact hrow
  obtain ⟨e2, hpc, ds, G, hds, hvc⟩ := outKs_sound (N := fun _ => True) _ _ vs0 fl _ _ _ hr0 hfe hv1 hdis0 F.nodup (outA_noshare _) hvc
  split at hvc
  · exact hvc.elim
  rename_i hdl
  have hdl' : ds.length = s.ptr.sz := by simpa using hdl
  obtain ⟨p1, p2, p3⟩ := G.box b0 0 (unks s.ptr.sz) (by simp [boxEnv]) (by rw [Tr.get_set_same])
  rw [Tr.get_set_same] at p3
  have p2' : e2.E 0 = .pointer (some ⟨b0, off + j, none⟩) := p2
  have st3 := step_recells (ds := ds) G.hr p3 (by rw [hul]; exact hdl') (fun b off' arr' T' h1 h2 i cc v h3 h4 => by
    rw [p2'] at h1
    cases h1
    rw [hb0] at h2
    cases h2
    obtain ⟨u, g1, g2⟩ := hds.get i h3
    rw [hvm i u g1] at h4
    cases h4
    exact g2)
  generalize hhp3 : hpc.set 0 (1, Ch.var true ds) = hp3 at *
  have hx3 : hp3.get 0 = (1, .var true ds) := by rw [← hhp3, Tr.get_set_same]
  have hFR : FR (unkBase w (LentS e1 hp2 (lentK (lentCs args'))) e2.om b0 (off + j) s.ptr.sz) e2 hp3 w := by
    refine ⟨rfl, rfl, rfl, fun b hb => .inl ((G.S b).1 hb), Nat.le_refl _, fun b hb ho => ⟨rfl, ho⟩, fun b k' off' n' hb => ?_⟩
    simp only [unkBase] at hb
    split at hb
    · rename_i he
      subst he
      cases hb
      exact ⟨p1, p2', ⟨ds, by rw [hx3], hdl'⟩, arr, arr, T, hb0, hb0, rfl, fun _ _ => rfl⟩
    · cases hb
  refine (fn_runIo (hE an cut) hfn hc (hbo an cut) hvc (by simp [encArgs_length]; omega) rfl st3.1 hFR (vals := val :: vals) (by
    simp only [VRs]
    refine ⟨?_, hin.VRs fun b hb => (G.S b).2 hb⟩
    simp only [VR, CR, hx3]
    exact ⟨⟨Nat.le_refl _, fun _ => ⟨b0, off + j, p2', by rw [hval]; rfl⟩⟩, OneIf.of_one (by rw [hval]; rfl)⟩)).mono fun en w' hp => ?_
  obtain ⟨v, vsR, usR, e', hp', rfl, hr', hf', hvs', hveq, hfin⟩ := hp
  obtain ⟨ef1, hpf1, rs, fl1, F1, hrs, hl⟩ := finVs_sound vsR _ usR e' hp' _ hr' hvs' hfin
  unfold leftIo at hl
  split at hl
  rotate_left
  · exact hl.elim
  rename_i vv bxx csx hxx
  obtain ⟨q1, q2, ⟨cs3, q3, q4⟩, arrA, arrB, T1, q5, q6, q7, q8⟩ := hf'.box b0 0 (off + j) s.ptr.sz (by simp [unkBase])
  have q5' : w.heap[b0]? = some (.cells arrA T1 (0, 0)) := q5
  rw [hb0] at q5'
  cases q5'
  obtain ⟨hF1, hF2⟩ := F1.box 0 cs3 q3
  have hcsx : csx = cs3 := by
    rw [hF1] at hxx
    rw [hxx] at q3
    cases q3
    rfl
  subst hcsx
  obtain ⟨b2, off2, arr2, T2, hE2, hom2, hb2, hsz2, hvals2⟩ := var_vals F1.hr hxx
  have hE2' : ef1.E 0 = .pointer (some ⟨b0, off + j, none⟩) := by
    have hp0 : CR e' hp' w' (.pointer (some ⟨b0, off + j, none⟩)) (.ptr 0 (hp'.get 0).1 0) := by
      simp only [CR]
      exact ⟨Nat.le_refl _, fun _ => ⟨b0, off + j, q2, rfl⟩⟩
    have hp1' := F1.sr.CR hp0
    simp only [CR] at hp1'
    obtain ⟨b3, off3, j1, j2⟩ := hp1'.2 (by rw [hF1])
    cases j2
    exact j1
  rw [hE2'] at hE2
  cases hE2
  rw [q6] at hb2
  cases hb2
  obtain ⟨vs2, hvl2, hvm2, hvc2, hv2⟩ := hvals2 0 csx.length (by omega)
  rw [List.drop_zero, List.take_length] at hvc2
  obtain ⟨ef, hpf, us2, fl2, F2, hus2, hl⟩ := finCs_sound csx _ vs2 ef1 hpf1 _ F1.hr hvc2 hv2 hl
  split at hl
  rotate_left
  · exact hl.elim
  rename_i as2 has2
  split at hl
  rotate_left
  · exact hl.elim
  rename_i x2 hxd2
  have hmg := M.wp_guard hl
  clear hl
  obtain ⟨hns, hm⟩ := hmg
  have hns' : (tupV rs).shares = false := by simpa using hns
  have F12 := F1.trans F2
  -- memory behind the call
  have hvn : vs2.length = s.ptr.sz := by omega
  have stc := step_call (j := j) (n := s.ptr.sz) (w' := w') st2.1 hfl hx2' hE1 hom1 hf'.os hf'.tape hf'.output hf'.size (fun b hlt hbb hno => (hf'.old b hlt (G.rest b (by simp [boxEnv, hbb]) hno)).1) hb0 q6 q7 (fun o ho => q8 o (by omega)) (by rw [hpl]; exact hjn2)
    (fun i cc h1 h2 h3 => by
      rw [putAt_get _ _ _ (by rw [hul]; exact hjn2), hul, if_pos ⟨h1, h2⟩] at h3
      have := List.mem_of_getElem? h3
      simp [unks] at this
      exact this.2) (fun i v hi hv => by
      have hi' : i < vs2.length := by omega
      have := hvm2 i _ (List.getElem?_eq_getElem hi')
      rw [Nat.add_zero, hv] at this
      cases this
      exact hv2 _ (List.getElem_mem hi'))
  have hdis : ∀ κ, (some κ ∈ fl1 ∨ some κ ∈ fl2) → ∀ b q, ef.om b = some (κ, q) → (w.heap.size ≤ b ∨ ∃ k q, e1.om b = some (k, q) ∧ some k ∈ fl) ∧ (e1.drop fl).om b = none ∧ ¬ (e1.drop fl).S b ∧ b < w'.heap.size := fun κ hκ b q hb => by
    obtain ⟨g1, g2, g3⟩ := F12.live κ (List.mem_append.2 hκ)
    have he' : e'.om b ≠ none := fun h => by
      have := F12.om b h
      rw [hb] at this
      cases this
    by_cases hlt : b < w.heap.size
    · have he2 : e2.om b ≠ none := fun h => he' (hf'.old b hlt h).2
      have hbb : b ≠ b0 := fun he => by
        subst he
        have := (F12.box 0 csx q3).2 b [] q1
        rw [hb] at this
        cases this
        exact g2 csx q3
      have hex : ∃ k q, e1.om b = some (k, q) ∧ some k ∈ fl := by
        refine Classical.byContradiction fun hno => he2 (G.rest b (by simp [boxEnv, hbb]) fun k q hkq hmem => hno ⟨k, q, hkq, hmem⟩)
      obtain ⟨k1, k2, k3, k4⟩ := hex
      have hnS : ¬ (e1.drop fl).S b := fun hS => by
        have hS' : e1.S b := hS
        rw [(st2.1.sOk b hS').1] at k3
        cases k3
      exact ⟨.inr ⟨k1, k2, k3, k4⟩, drop_in k3 k4, hnS, F12.hr.oOk b _ hb⟩
    · refine ⟨.inl (by omega), ?_, fun hS => hlt (st2.1.sOk b hS).2, F12.hr.oOk b _ hb⟩
      cases ho : (e1.drop fl).om b with
      | none => rfl
      | some y => exact absurd (st2.1.oOk b _ (drop_some ho).1) hlt
  have hpw2 : (fl2 ++ fl1).Pairwise (fun x y => ∀ k, x = some k → y ≠ some k) := by
    rw [List.pairwise_append]
    refine ⟨F2.nodup, F1.nodup, fun a ha b hb k hak hbk => ?_⟩
    exact (List.pairwise_append.1 F12.nodup).2.2 b hb a ha k hbk hak
  have hfe2 := ownAs_fin us2 as2 _ vs2 fl2 has2 (s.ptr.decA_spec as2 x2 hxd2) hus2
  have hDis : Dis (fun b => w.heap.size ≤ b ∨ ∃ k q, e1.om b = some (k, q) ∧ some k ∈ fl) w' ef (fl2 ++ fl1) (e1.drop fl) := fun κ hκ b q hb => hdis κ (by
    rcases List.mem_append.1 hκ with h | h
    · exact .inr h
    · exact .inl h) b q hb
  have hNB : ∀ b, (w.heap.size ≤ b ∨ ∃ k q, e1.om b = some (k, q) ∧ some k ∈ fl) → B.w0.heap.size ≤ b ∨ B.om0 b ≠ none := fun b hb => by
    have hfr1 := hsts.fr h.fr
    rcases hb with hb | ⟨k1, q1, hb, _⟩
    · exact .inl (Nat.le_trans h.fr.size hb)
    · refine Classical.byContradiction fun hno => ?_
      have h1 : b < B.w0.heap.size := Nat.lt_of_not_le fun hh => hno (.inl hh)
      have h2 : B.om0 b = none := Classical.byContradiction fun hh => hno (.inr hh)
      rw [(hfr1.old b h1 h2).2] at hb
      cases hb
  rw [M.wp_bind] at hm
  obtain ⟨eB, hpB, ds2, G2, hds2, hm⟩ := outKs_sound _ _ vs2 fl2 _ _ _ stc.1 hfe2 hv2 (fun κ hκ => hDis κ (List.mem_append_left _ hκ)) F2.nodup (outA_noshare _) hm
  replace hm := M.wp_get hm
  split at hm
  rotate_left
  · exact hm.elim
  rename_i v3 bx3 cs4 hx4
  have hmg := M.wp_guard hm
  clear hm
  obtain ⟨hg, hm⟩ := hmg
  simp only [Bool.and_eq_true, beq_iff_eq, decide_eq_true_eq] at hg
  obtain ⟨rfl, hjn3⟩ := hg
  replace hm := M.wp_set hm
  obtain ⟨_, hm⟩ := hm
  have hall : Stps e σ.hp w (e1.drop fl) hp2 w' := hsts.trans (.one stc)
  have hEB : eB.E k = .pointer (some ⟨b0, off, none⟩) := by
    have h1 := G2.vr _ _ (hall.VR hvr0)
    simp only [VR, CR, hx4] at h1
    obtain ⟨b1, off1, g1, g2⟩ := h1.1.2 trivial
    rw [hval] at g2
    simp only [Value.pointer.injEq, Option.some.injEq, Addr.mk.injEq, and_true] at g2
    obtain ⟨rfl, g2⟩ := g2
    rw [g1]
    have : off1 = off := by omega
    rw [this]
  have hdl2 : ds2.length = s.ptr.sz := by rw [← hds2.length]; exact hvn
  have stE := step_recells (ds := putAt cs4 j ds2) G2.hr hx4 (putAt_length _ _ _ hjn3) (fun b off' arr' T' h1 h2 i cc v h3 h4 => by
    rw [hEB] at h1
    cases h1
    rw [q6] at h2
    cases h2
    rw [putAt_get _ _ _ hjn3] at h3
    split at h3
    · rename_i hi
      obtain ⟨u, g1, g2⟩ := hds2.get (i - j) h3
      have := hvm2 _ _ g1
      rw [show off + j + 0 + (i - j) = off + i by omega, h4] at this
      cases this
      exact g2
    · have hch := G2.hr.chs k
      rw [hx4] at hch
      obtain ⟨b2, off2, arr2, T2, g1, g2, g3, g4, g5⟩ := hch
      rw [hEB] at g1
      cases g1
      rw [q6] at g3
      cases g3
      obtain ⟨u, g6, g7, _⟩ := g5 i cc h3
      rw [h4] at g6
      cases g6
      exact g7)
  have hrs2 := FinVs.mono (fun k hk b q => (F2.keep k hk b q).1) (fun b hb => F2.sr.S hb) hrs (fun k hk => (F1.live k hk).2.2)
  obtain ⟨e3, hp3', y, G3, hy, hK⟩ := outV_sound stE.1 hveq hrs2 (Dis.step hDis G2 hpw2) F1.nodup (fun hs => by rw [hns'] at hs; cases hs) hm
  exact ⟨v, y, e3, ⟨σ.tm, hp3', σ.up⟩, rfl, hK, ⟨G3.hr, G3.fr ((G2.fr (hall.fr h.fr) hNB).step stE.2.2) hNB, G3.up _ _ (UpR.mono stE.2.1 _ _ (G2.up _ _ (hall.upR h.up))), fun t => G3.vr _ _ (VR.mono stE.2.1 _ _ (G2.vr _ _ (hall.VR (h.tm t))))⟩, hy⟩

theorem io1 {T : Tab} (h : TabOk P T) {ss : List (Nat × SpecX)} (hs : SpecsAll P ss) {f : Nat} {fn : Func} {c : Code} {s : Io} (hfn : T.fns f = some fn) (hc : fn.body = some c) (hv : SpecForIo (T.env ss) f fn s) : SpecOk1 P f (.raw (callIo s)) := by
  obtain ⟨h1, h2, h3⟩ := h.fns f fn hfn
  exact io_sound (h.env (specs_all hs)) h1 hc h2 (fun _ _ => h3) hv

end

end Go.Sx

/-
  Contracts of functions that turn the rows of what they are given, by value: the rows stay the caller's, with new contents.
-/
namespace Go.Sx

/-! ## The program of such a call -/
structure Mu where
  p : PT
  pars : List PT
  run : Th p.ty → Args pars → Rn (Th Int × Th p.ty)

def isListA : A → Bool
  | .list _ _ => true
  | _ => false
theorem notList {a : A} (h : isListA a = false) : ∀ t l, a ≠ .list t l := fun t l he => by subst he; cases h

def takeMu : List (Option RT) → List C → M (List (A × Nat))
  | _, [] => .ret []
  | os, c :: cs => match c with
    | .own k v => .get k fun e => match e with
      | (v', .row true g t l) => M.guard (v == v') (.set k (v, .dead) ((takeMu os.tail cs).bind fun r => .ret ((.list t l, g) :: r)))
      | _ => .fail
    | .nil => match os with
      | some t :: os => (takeMu os cs).bind fun r => .ret ((.list t fun _ => [], 0) :: r)
      | _ => .fail
    | .att a => if isListA a then .fail else (takeMu os.tail cs).bind fun r => .ret ((a, 0) :: r)
    | _ => .fail
def isListOf (t : RT) : A → Bool
  | .list t' _ => decide (t' = t)
  | _ => false
def putMu : List C → List (A × Nat) → List A → M Unit
  | [], [], [] => .ret ()
  | c :: cs, x :: gs, a :: as => match c with
    | .own k v => match a with
      | .list t l => M.guard (isListOf t x.1) (.set k (v, .row true (x.2 + 1) t l) (putMu cs gs as))
      | _ => .fail
    | .nil => match a with
      | .list _ l => .asrt (fun _ => l () = []) (putMu cs gs as)
      | _ => .fail
    | .att _ => putMu cs gs as
    | _ => .fail
  | _, _, _ => .fail
def callMu (s : Mu) (args : List V) : M V :=
  match args with
  | v0 :: args' => M.guard (!v0.isTup && v0.isAgg == s.p.isAgg) ((takeMu s.p.nils v0.cells).bind fun gs => match s.p.decA (gs.map fun x => x.1) with
    | some x => (lendVs s.pars args').bind fun ins => (s.run x ins).lift.bind fun r => (putMu v0.cells gs (s.p.encA r.2)).bind fun _ => .ret (.one (.att (.int .i64 r.1)))
    | none => .fail)
  | _ => .fail

/-! ## What is to be shown -/
def argMu (p : PT) (ds : List C) : V := match p.isAgg with
  | true => .agg ds
  | false => match ds with
    | [d] => .one d
    | _ => .tup []
def leftAs (hp : Hp) : List C → Option (List A)
  | [] => some []
  | c :: cs => match leftAs hp cs with
    | none => none
    | some r => match c with
      | .own k v => match hp.get k with
        | (v', .row true _ t l) => if v = v' then some (.list t l :: r) else none
        | _ => none
      | .att a => if isListA a then none else some (a :: r)
      | _ => none
def ownKs : List C → List Nat
  | [] => []
  | .own k _ :: cs => k :: ownKs cs
  | _ :: cs => ownKs cs
def nodupB : List Nat → Bool
  | [] => true
  | k :: ks => !ks.contains k && nodupB ks
def leftMu (s : Mu) (up : List (Tr V)) (us : List V) (K : Th Int × Th s.p.ty → Prop) (hp : Hp) : Prop :=
  match up with
  | [t] => match us with
    | [.one (.att (.int .i64 n))] => match leftAs hp (t.get 0).cells with
      | some as => match s.p.decA as with
        | some x => if nodupB (ownKs (t.get 0).cells) then K (n, x) else False
        | none => False
      | none => False
    | _ => False
  | _ => False
def finMu (ctx : Ctx) (rs : List ResultVar) (s : Mu) (K : Th Int × Th s.p.ty → Prop) (e : Ex) (σ : St) : Prop :=
  match e with
  | .exit _ => False
  | _ => ((resultsV rs ctx σ.tm).bind fun vs => finVs true [[none]] vs).wp ⟨[], []⟩ σ.hp fun us hp => leftMu s σ.up us K hp
def vcFnMu (E : Env0) (n f : Nat) (fn : Func) (s : Mu) (x : Th s.p.ty) (ins : Args s.pars) (K : Th Int × Th s.p.ty → Prop) : Prop :=
  match fn.body with
  | some c => if !decide (s.pars.length + 1 ≤ fn.ntmps) then False else
      (outKs (backKs 1 ((s.p.encA x).map (outA true))) ((s.p.encA x).map (outA true))).wp ⟨[], []⟩ .leaf fun ds hp => if (argMu s.p ds).isTup then False else
        vc (E.ctx f 64 fn.ntmps) ⟨[], []⟩ (vcCall E ⟨[], []⟩ n) c ⟨argTm 0 (argMu s.p ds :: encArgs s.pars ins), hp, [Tr.set .leaf 0 (argMu s.p ds)]⟩ (finMu (E.ctx f 0 0) fn.results.toList s K)
  | none => False
def SpecForMu (E : (Nat → Nat → Option Ann) → (Nat → Nat → Option Ann) → Env0) (f : Nat) (fn : Func) (s : Mu) : Prop := ∀ x ins K, OkPt s.p x → OkArgs s.pars ins → (s.run x ins).wp K → ∃ an cut n, vcFnMu (E an cut) n f fn s x ins K

section
variable {P : Program} {ctx : Ctx} {B : Base} {e e' ef : Env} {a : Act} {w w' : World} {σ τ : St} {L : Locks} {hp hp' : Hp} {N : Nat → Prop}

/-! ## What is taken -/
def flC (cs : List C) : List (Option Nat) := cs.map fun c => match c with
  | .own k _ => some k
  | _ => none
def MuA (e : Env) (hp : Hp) (w : World) : List Value → List C → List (A × Nat) → Prop
  | [], [], [] => True
  | v :: vs, c :: cs, x :: gs => (match c with
      | .own k ver => ∃ t l, x.1 = .list t l ∧ hp.get k = (ver, .row true x.2 t l) ∧ v = e.E k ∧ OwnA e.om k w [] v (.list t l)
      | .nil => v = .slice none 0 0 ∧ ∃ t, x.1 = .list t fun _ => []
      | .att b => x.1 = b ∧ Rep e.S w v b ∧ (∀ t l, b ≠ .list t l)
      | _ => False) ∧ MuA e hp w vs cs gs
  | _, _, _ => False

theorem step_die (h : HR e hp w) {k ver : Nat} {g : Nat} {t : RT} {l : Th (List t.ty)} (hx : hp.get k = (ver, .row true g t l)) : HR e (hp.set k (ver, .dead)) w ∧ SR e hp w e (hp.set k (ver, .dead)) w := by
  have hsr : SR e hp w e (hp.set k (ver, .dead)) w := ⟨fun b hb => ⟨hb, rfl⟩, fun k' => by
    by_cases hkk : k' = k
    · subst hkk
      exact .upd (by rw [Tr.get_set_same, hx]) rfl (by rw [Tr.get_set_same]; exact .dead _)
    · exact .same (Tr.get_set_ne _ _ hkk) rfl fun b q hb => ⟨hb, rfl⟩⟩
  refine ⟨⟨fun k' => ?_, h.sOk, h.oOk⟩, hsr⟩
  by_cases hkk : k' = k
  · subst hkk
    rw [Tr.get_set_same]
    trivial
  · rw [Tr.get_set_ne _ _ hkk]
    exact ChR.mono hsr.S hsr.k rfl (fun b q hb => ⟨hb, rfl⟩) (h.chs k')

theorem SR.tr {e1 : Env} {hp1 : Hp} (h1 : SR e hp w e hp' w) (h2 : ∀ x v, VR e hp' w v x → VR e1 hp1 w v x) : ∀ x v, VR e hp w v x → VR e1 hp1 w v x := fun x v hv => h2 x v (VR.mono h1 x v hv)

theorem takeMu_sound : ∀ (cs : List C) (os : List (Option RT)) (vs : List Value) (hp : Hp) (K : List (A × Nat) → Hp → Prop), HR e hp w → CRs e hp w vs cs → (takeMu os cs).wp L hp K →
    ∃ hp2 gs, HR e hp2 w ∧ (∀ x v, VR e hp w v x → VR e hp2 w v x) ∧ MuA e hp w vs cs gs ∧ (∀ k, some k ∈ flC cs → hp2.get k = ((hp.get k).1, .dead)) ∧ (∀ k, some k ∉ flC cs → hp2.get k = hp.get k) ∧ (flC cs).Pairwise (fun x y => ∀ k, x = some k → y ≠ some k) ∧
      (∀ k, some k ∈ flC cs → ∃ v g t l, hp.get k = (v, .row true g t l)) ∧ K gs hp2
  | [], os, vs, hp, K, h, hc, hm => by
    cases vs with
    | nil => exact ⟨hp, [], h, fun _ _ h => h, trivial, fun k hk => by simp [flC] at hk, fun _ _ => rfl, .nil, fun k hk => by simp [flC] at hk, hm⟩
    | cons _ _ => simp only [CRs] at hc
  | c :: cs, os, vs, hp, K, h, hc, hm => by
    cases vs with
    | nil => simp only [CRs] at hc
    | cons v vs =>
      simp only [CRs] at hc
      obtain ⟨hc1, hc2⟩ := hc
      unfold takeMu at hm
      split at hm
      · rename_i k ver
        replace hm := M.wp_get hm
        split at hm
        · rename_i v' g t l hx
          have hmg := M.wp_guard hm
          clear hm
          obtain ⟨hg, hm⟩ := hmg
          have hver : ver = v' := by simpa using hg
          subst hver
          replace hm := M.wp_set hm
          obtain ⟨_, hm⟩ := hm
          rw [M.wp_bind] at hm
          obtain ⟨hd1, hd2⟩ := step_die h hx
          obtain ⟨hp2, gs, r1, r2, r3, r4, r5, r6, r7, hK⟩ := takeMu_sound cs os.tail vs _ _ hd1 (CRs.mono hd2.S hd2.k _ _ hc2) hm
          have hkn : some k ∉ flC cs := fun hk => by
            obtain ⟨v2, g2, t2, l2, h2⟩ := r7 k hk
            rw [Tr.get_set_same] at h2
            cases h2
          have hch := h.chs k
          rw [hx] at hch
          simp only [CR, hx] at hc1
          have hvE := hc1.2 trivial
          refine ⟨hp2, (.list t l, g) :: gs, r1, hd2.tr r2, ?_, fun k' hk' => ?_, fun k' hk' => ?_, ?_, fun k' hk' => ?_, hK⟩
          · have lift : ∀ (cs : List C) (vs : List Value) (gs : List (A × Nat)), some k ∉ flC cs → MuA e (hp.set k (ver, .dead)) w vs cs gs → MuA e hp w vs cs gs := by
              intro cs
              induction cs with
              | nil => intro vs gs _ hh; cases vs <;> cases gs <;> exact hh
              | cons c cs ih =>
                intro vs gs hn hh
                cases vs with
                | nil => exact hh.elim
                | cons v vs => cases gs with
                  | nil => exact hh.elim
                  | cons x gs =>
                    refine ⟨?_, ih vs gs (fun hk => hn (List.mem_cons_of_mem _ hk)) hh.2⟩
                    have h1 := hh.1
                    cases c with
                    | own k2 v2 =>
                      obtain ⟨t2, l2, g1, g2, g3⟩ := h1
                      have hne : k2 ≠ k := fun he => hn (by subst he; simp [flC])
                      rw [Tr.get_set_ne _ _ hne] at g2
                      exact ⟨t2, l2, g1, g2, g3⟩
                    | _ => exact h1
            refine ⟨⟨t, l, rfl, hx, hvE, by rw [hvE]; exact hch⟩, lift cs vs gs hkn r3⟩
          · by_cases hkk : k' = k
            · subst hkk
              rw [r5 k' hkn, Tr.get_set_same, hx]
            · have hk2 : some k' ∈ flC cs := by
                simp only [flC, List.map_cons, List.mem_cons, Option.some.injEq] at hk'
                exact hk'.resolve_left hkk
              rw [r4 k' hk2, Tr.get_set_ne _ _ hkk]
          · have hkk : k' ≠ k := fun he => hk' (by subst he; simp [flC])
            rw [r5 k' (fun hk2 => hk' (List.mem_cons_of_mem _ hk2)), Tr.get_set_ne _ _ hkk]
          · simp only [flC, List.map_cons, List.pairwise_cons]
            refine ⟨fun y hy k' hk' hy' => ?_, r6⟩
            cases hk'
            subst hy'
            exact hkn hy
          · by_cases hkk : k' = k
            · subst hkk
              exact ⟨_, _, _, _, hx⟩
            · have hk2 : some k' ∈ flC cs := by
                simp only [flC, List.map_cons, List.mem_cons, Option.some.injEq] at hk'
                exact hk'.resolve_left hkk
              obtain ⟨v2, g2, t2, l2, h2⟩ := r7 k' hk2
              rw [Tr.get_set_ne _ _ hkk] at h2
              exact ⟨v2, g2, t2, l2, h2⟩
        · exact hm.elim
      · split at hm
        · rename_i t os'
          rw [M.wp_bind] at hm
          obtain ⟨hp2, gs, r1, r2, r3, r4, r5, r6, r7, hK⟩ := takeMu_sound cs _ vs hp _ h hc2 hm
          simp only [CR] at hc1
          exact ⟨hp2, (.list t fun _ => [], 0) :: gs, r1, r2, ⟨⟨hc1, t, rfl⟩, r3⟩, fun k hk => r4 k (by simpa [flC] using hk), fun k hk => r5 k (fun h2 => hk (by simpa [flC] using h2)), by simpa [flC] using r6, fun k hk => r7 k (by simpa [flC] using hk), hK⟩
        · exact hm.elim
      · split at hm
        · exact hm.elim
        · rename_i b hb
          have hb := notList (by simpa using hb)
          rw [M.wp_bind] at hm
          obtain ⟨hp2, gs, r1, r2, r3, r4, r5, r6, r7, hK⟩ := takeMu_sound cs _ vs hp _ h hc2 hm
          simp only [CR] at hc1
          exact ⟨hp2, (b, 0) :: gs, r1, r2, ⟨⟨rfl, hc1, hb⟩, r3⟩, fun k hk => r4 k (by simpa [flC] using hk), fun k hk => r5 k (fun h2 => hk (by simpa [flC] using h2)), by simpa [flC] using r6, fun k hk => r7 k (by simpa [flC] using hk), hK⟩
      · exact hm.elim

theorem MuA.fin {vs : List Value} {cs : List C} {gs : List (A × Nat)} : MuA e hp w vs cs gs → FinCs e w vs ((gs.map fun x => x.1).map (outA true)) (flC cs) := by
  induction cs generalizing vs gs with
  | nil => intro h; cases vs <;> cases gs <;> first | exact h.elim | trivial
  | cons c cs ih =>
    intro h
    cases vs with
    | nil => exact h.elim
    | cons v vs => cases gs with
      | nil => exact h.elim
      | cons x gs =>
        refine ⟨?_, ih h.2⟩
        have h1 := h.1
        cases c with
        | own k ver =>
          obtain ⟨t, l, g1, g2, g3, g4⟩ := h1
          show FinC e w v (outA true x.1) (some k)
          rw [g1]
          exact .inl ⟨k, rfl, g4⟩
        | nil =>
          obtain ⟨g1, t, g2⟩ := h1
          show FinC e w v (outA true x.1) none
          rw [g2]
          exact .inr ⟨rfl, g1, rfl⟩
        | att b =>
          obtain ⟨g1, g2, g3⟩ := h1
          show FinC e w v (outA true x.1) none
          rw [g1]
          cases b with
          | list t l => exact absurd rfl (g3 t l)
          | int k n => exact ⟨rfl, g2⟩
          | bool b => exact ⟨rfl, g2⟩
        | _ => exact h1.elim
theorem MuA.okA {vs : List Value} {cs : List C} {gs : List (A × Nat)} : MuA e hp w vs cs gs → ∀ a ∈ gs.map (fun x => x.1), OkA a := by
  induction cs generalizing vs gs with
  | nil => intro h; cases vs <;> cases gs <;> first | exact h.elim | (intro a ha; cases ha)
  | cons c cs ih =>
    intro h
    cases vs with
    | nil => exact h.elim
    | cons v vs => cases gs with
      | nil => exact h.elim
      | cons x gs =>
        intro a ha
        simp only [List.map_cons, List.mem_cons] at ha
        rcases ha with rfl | ha
        · have h1 := h.1
          cases c with
          | own k ver =>
            obtain ⟨t, l, g1, g2, g3, g4⟩ := h1
            rw [g1]
            exact (g4.rep (S := fun _ => True) (w' := w) fun b r hb => ⟨trivial, rfl⟩).ok
          | nil =>
            obtain ⟨g1, t, g2⟩ := h1
            rw [g2]
            exact (Rep.nil (S := fun _ => True) (w := w) t _ rfl).ok
          | att b =>
            obtain ⟨g1, g2, g3⟩ := h1
            rw [g1]
            exact g2.ok
          | _ => exact h1.elim
        · exact ih h.2 a ha

/-! ## What is put -/
def PutA (hp : Hp) : List C → List (A × Nat) → List A → Prop
  | [], [], [] => True
  | c :: cs, x :: gs, a :: as => (match c with
      | .own k v => ∃ t l l0, x.1 = .list t l0 ∧ a = .list t l ∧ hp.get k = (v, .row true (x.2 + 1) t l)
      | .nil => ∃ t l, a = .list t l ∧ l () = []
      | .att _ => True
      | _ => False) ∧ PutA hp cs gs as
  | _, _, _ => False
theorem putMu_sound : ∀ (cs : List C) (gs : List (A × Nat)) (as : List A) (hp : Hp) (K : Unit → Hp → Prop), (flC cs).Pairwise (fun x y => ∀ k, x = some k → y ≠ some k) → (putMu cs gs as).wp L hp K → ∃ hpC, PutA hpC cs gs as ∧ (∀ k, some k ∉ flC cs → hpC.get k = hp.get k) ∧ K () hpC
  | [], gs, as, hp, K, hp', hm => by
    cases gs with
    | nil => cases as with
      | nil => exact ⟨hp, trivial, fun _ _ => rfl, hm⟩
      | cons _ _ => exact hm.elim
    | cons _ _ => cases as <;> exact hm.elim
  | c :: cs, gs, as, hp, K, hpw, hm => by
    cases gs with
    | nil => cases as <;> exact hm.elim
    | cons x gs => cases as with
      | nil => exact hm.elim
      | cons a as =>
        have hpw2 := (List.pairwise_cons.1 hpw)
        unfold putMu at hm
        split at hm
        · rename_i k v
          split at hm
          · rename_i t l
            have hmg := M.wp_guard hm
            clear hm
            obtain ⟨hg, hm⟩ := hmg
            replace hm := M.wp_set hm
            obtain ⟨_, hm⟩ := hm
            obtain ⟨hpC, r1, r2, hK⟩ := putMu_sound cs gs as _ K hpw2.2 hm
            have hkn : some k ∉ flC cs := fun hk => hpw2.1 _ hk k rfl rfl
            refine ⟨hpC, ⟨?_, r1⟩, fun k' hk' => ?_, hK⟩
            · unfold isListOf at hg
              split at hg
              · rename_i t' l' heq
                obtain rfl : t' = t := by simpa using hg
                exact ⟨t', l, l', heq, rfl, by rw [r2 k hkn, Tr.get_set_same]⟩
              · cases hg
            · have hkk : k' ≠ k := fun he => hk' (by subst he; simp [flC])
              rw [r2 k' (fun h2 => hk' (List.mem_cons_of_mem _ h2)), Tr.get_set_ne _ _ hkk]
          · exact hm.elim
        · split at hm
          · rename_i t l
            obtain ⟨hl, hm⟩ := hm
            obtain ⟨hpC, r1, r2, hK⟩ := putMu_sound cs gs as hp K hpw2.2 hm
            exact ⟨hpC, ⟨⟨t, l, rfl, hl.out⟩, r1⟩, fun k hk => r2 k (fun h2 => hk (by simpa [flC] using h2)), hK⟩
          · exact hm.elim
        · obtain ⟨hpC, r1, r2, hK⟩ := putMu_sound cs gs as hp K hpw2.2 hm
          exact ⟨hpC, ⟨trivial, r1⟩, fun k hk => r2 k (fun h2 => hk (by simpa [flC] using h2)), hK⟩
        · exact hm.elim

/-! ## What is left -/
def LeftA (e : Env) (hp : Hp) (w : World) : List Value → List C → List A → Prop
  | [], [], [] => True
  | v :: vs, d :: ds, a :: as => (match d with
      | .own κ ver => ∃ t l g, a = .list t l ∧ hp.get κ = (ver, .row true g t l) ∧ OwnA e.om κ w [] v (.list t l)
      | .att b => a = b ∧ ∀ t l, b ≠ .list t l
      | _ => False) ∧ LeftA e hp w vs ds as
  | _, _, _ => False
theorem leftAs_sound (h : HR e hp w) : ∀ (ds : List C) (vs : List Value) (as : List A), CRs e hp w vs ds → leftAs hp ds = some as → LeftA e hp w vs ds as
  | [], vs, as, hc, ha => by
    cases vs with
    | nil => cases ha; trivial
    | cons _ _ => simp only [CRs] at hc
  | d :: ds, vs, as, hc, ha => by
    cases vs with
    | nil => simp only [CRs] at hc
    | cons v vs =>
      simp only [CRs] at hc
      unfold leftAs at ha
      split at ha
      · cases ha
      · rename_i r hr
        have ih := leftAs_sound h ds vs r hc.2 hr
        split at ha
        · rename_i k ver
          split at ha
          · rename_i v' g t l hx
            split at ha
            · rename_i hv
              subst hv
              cases ha
              refine ⟨⟨t, l, g, rfl, hx, ?_⟩, ih⟩
              have hch := h.chs k
              rw [hx] at hch
              have h1 := hc.1
              simp only [CR, hx] at h1
              rw [h1.2 trivial]
              exact hch
            · cases ha
          · cases ha
        · split at ha
          · cases ha
          · rename_i hb
            cases ha
            exact ⟨⟨rfl, notList (by simpa using hb)⟩, ih⟩
        · cases ha

/-- Whose a callee's key is. -/
def mapK : List C → List C → Nat → Option Nat
  | c :: cs, d :: ds, κ => match c, d with
    | .own k _, .own κ' _ => if κ' = κ then some k else mapK cs ds κ
    | _, _ => mapK cs ds κ
  | _, _, _ => none
theorem mapK_mem : ∀ {cs ds : List C} {κ k : Nat}, mapK cs ds κ = some k → κ ∈ ownKs ds ∧ some k ∈ flC cs
  | [], _, _, _, h => by simp [mapK] at h
  | _ :: _, [], _, _, h => by simp [mapK] at h
  | c :: cs, d :: ds, κ, k, h => by
    have lift : mapK cs ds κ = some k → κ ∈ ownKs (d :: ds) ∧ some k ∈ flC (c :: cs) := fun h => by
      obtain ⟨h1, h2⟩ := mapK_mem h
      refine ⟨?_, List.mem_cons_of_mem _ h2⟩
      cases d <;> simp [ownKs, h1]
    unfold mapK at h
    split at h
    · rename_i k1 _ κ1 _
      split at h
      · rename_i he
        subst he
        cases h
        exact ⟨by simp [ownKs], by simp [flC]⟩
      · exact lift h
    · exact lift h
theorem nodupB_cons {k : Nat} {ks : List Nat} (h : nodupB (k :: ks) = true) : k ∉ ks ∧ nodupB ks = true := by
  simp only [nodupB, Bool.and_eq_true, Bool.not_eq_true', List.contains_eq_mem, decide_eq_false_iff_not] at h
  exact h

/-- The caller's rows behind the call. -/
theorem mu_rows {e0 : Env} {hp0 hpC hpf : Hp} {w0 : World} : ∀ (cs ds : List C) (vs : List Value) (gs : List (A × Nat)) (as bs : List A), MuA e0 hp0 w0 vs cs gs → LeftA ef hpf w' vs ds as → Same as bs → PutA hpC cs gs bs → nodupB (ownKs ds) = true →
    ∀ k, some k ∈ flC cs → ∃ ver g t l l' κ, hp0.get k = (ver, .row true g t l) ∧ hpC.get k = (ver, .row true (g + 1) t l') ∧ OwnA ef.om κ w' [] (e0.E k) (.list t l') ∧ mapK cs ds κ = some k
  | [], _, _, _, _, _, _, _, _, _, _, k, hk => by simp [flC] at hk
  | c :: cs, ds, vs, gs, as, bs, hA, hL, hs, hP, hn, k, hk => by
    cases vs with
    | nil => exact hA.elim
    | cons v vs => cases gs with
      | nil => exact hA.elim
      | cons x gs => cases ds with
        | nil => cases as <;> exact hL.elim
        | cons d ds => cases hs with
          | nil => exact hL.elim
          | cons h1 h2 =>
            rename_i a b as bs
            have hrest : ∀ hk2 : some k ∈ flC cs, nodupB (ownKs ds) = true → (∀ κ, mapK cs ds κ = some k → mapK (c :: cs) (d :: ds) κ = some k) → ∃ ver g t l l' κ, hp0.get k = (ver, .row true g t l) ∧ hpC.get k = (ver, .row true (g + 1) t l') ∧ OwnA ef.om κ w' [] (e0.E k) (.list t l') ∧ mapK (c :: cs) (d :: ds) κ = some k := fun hk2 hn2 hmap => by
              obtain ⟨ver, g, t, l, l', κ, r1, r2, r3, r4⟩ := mu_rows cs ds vs gs as bs hA.2 hL.2 h2 hP.2 hn2 k hk2
              exact ⟨ver, g, t, l, l', κ, r1, r2, r3, hmap κ r4⟩
            cases c with
            | own k1 ver =>
              obtain ⟨t, l, g1, g2, g3, g4⟩ := hA.1
              obtain ⟨t2, l2, l0, p1, p2, p3⟩ := hP.1
              rw [g1] at p1
              cases p1
              cases d with
              | own κ v2 =>
                obtain ⟨t3, l3, g', q1, q2, q3⟩ := hL.1
                subst q1
                subst p2
                cases h1 with
                | list _ _ _ he =>
                  obtain rfl : l3 = l2 := funext fun _ => he
                  obtain ⟨n1, n2⟩ := nodupB_cons (show nodupB (κ :: ownKs ds) = true from hn)
                  by_cases hkk : k = k1
                  · subst hkk
                    refine ⟨ver, x.2, t, l, l3, κ, g2, p3, by rw [← g3]; exact q3, by simp [mapK]⟩
                  · have hk2 : some k ∈ flC cs := by
                      simp only [flC, List.map_cons, List.mem_cons, Option.some.injEq] at hk
                      exact hk.resolve_left hkk
                    refine hrest hk2 n2 fun κ' hκ' => ?_
                    have hne : κ ≠ κ' := fun he => n1 (by subst he; exact (mapK_mem hκ').1)
                    simp [mapK, hne, hκ']
              | att b2 =>
                obtain ⟨q1, q2⟩ := hL.1
                by_cases hkk : k = k1
                · subst p2
                  cases h1 with
                  | list _ m _ he => exact absurd q1.symm (q2 _ _)
                · have hk2 : some k ∈ flC cs := by
                    simp only [flC, List.map_cons, List.mem_cons, Option.some.injEq] at hk
                    exact hk.resolve_left hkk
                  exact hrest hk2 (by simpa [ownKs] using hn) fun κ' hκ' => by simpa [mapK] using hκ'
              | _ => exact hL.1.elim
            | _ =>
              have hk2 : some k ∈ flC cs := by simpa [flC] using hk
              refine hrest hk2 ?_ fun κ' hκ' => by simpa [mapK] using hκ'
              cases d with
              | own κ v2 => exact (nodupB_cons (show nodupB (κ :: ownKs ds) = true from hn)).2
              | _ => simpa [ownKs] using hn

/-- The caller's blocks behind the call: what the callee's rows own is the caller's rows' again. -/
def Env.muC (e ef : Env) (fl : List (Option Nat)) (m : Nat → Option Nat) : Env := ⟨e.S, fun b => match ef.om b with
  | some (κ, q) => match m κ with
    | some k => some (k, q)
    | none => (e.drop fl).om b
  | none => (e.drop fl).om b, e.E⟩

theorem step_mu (h : HR e hp w) {fl : List (Option Nat)} {m : Nat → Option Nat} {hpC : Hp} (hrow : ∀ k, some k ∈ fl → ∃ ver g t l l' κ, hp.get k = (ver, .row true g t l) ∧ hpC.get k = (ver, .row true (g + 1) t l') ∧ OwnA ef.om κ w' [] (e.E k) (.list t l') ∧ m κ = some k)
    (hrest : ∀ k, some k ∉ fl → hpC.get k = hp.get k) (hos : w'.os = w.os) (htp : w'.tape = w.tape) (hou : w'.output = w.output) (hsz : w.heap.size ≤ w'.heap.size)
    (hold : ∀ b, b < w.heap.size → (∀ k q, e.om b = some (k, q) → some k ∉ fl) → w'.heap[b]? = w.heap[b]? ∧ ef.om b = none) (hlt : ∀ b x, ef.om b = some x → b < w'.heap.size) : Stp e hp w (e.muC ef fl m) hpC w' := by
  have hsame : ∀ b k q, e.om b = some (k, q) → some k ∉ fl → (e.muC ef fl m).om b = some (k, q) ∧ w'.heap[b]? = w.heap[b]? := fun b k q hb hn => by
    obtain ⟨h1, h2⟩ := hold b (h.oOk b _ hb) fun k3 q3 h3 => by
      rw [hb] at h3
      cases h3
      exact hn
    exact ⟨by simp only [Env.muC, h2]; exact drop_out hb hn, h1⟩
  have hnone : ∀ b, b < w.heap.size → e.om b = none → (e.muC ef fl m).om b = none ∧ w'.heap[b]? = w.heap[b]? := fun b hb ho => by
    obtain ⟨h1, h2⟩ := hold b hb fun k q hq => by rw [ho] at hq; cases hq
    exact ⟨by simp only [Env.muC, h2]; exact drop_none ho, h1⟩
  have hsr : SR e hp w (e.muC ef fl m) hpC w' := by
    refine ⟨fun b hb => ⟨hb, (hnone b (h.sOk b hb).2 (h.sOk b hb).1).2⟩, fun k => ?_⟩
    by_cases hf : some k ∈ fl
    · obtain ⟨ver, g, t, l, l', κ, r1, r2, r3, r4⟩ := hrow k hf
      refine .upd (by rw [r1, r2]) rfl ?_
      rw [r1, r2]
      exact .row _ _ _ _ _ _ _ (Nat.lt_succ_self g)
    · exact .same (hrest k hf) rfl fun b q hb => hsame b k q hb hf
  refine ⟨h.step hsr (fun k => ?_) (fun b hb => ⟨(hnone b (h.sOk b hb).2 (h.sOk b hb).1).1, Nat.lt_of_lt_of_le (h.sOk b hb).2 hsz⟩) (fun b y hb => ?_), hsr, ⟨hos, htp, hou, fun b hb => .inl hb, hsz, fun b hb ho => ⟨(hnone b hb ho).2, (hnone b hb ho).1⟩, fun b k off n cs arr T h1 h2 h3 h4 h5 => ?_⟩⟩
  · by_cases hf : some k ∈ fl
    · right
      obtain ⟨ver, g, t, l, l', κ, r1, r2, r3, r4⟩ := hrow k hf
      rw [r2]
      exact r3.mono [] fun b r hb => ⟨by simp only [Env.muC]; rw [hb]; simp [r4], rfl⟩
    · left
      exact ⟨hrest k hf, rfl, fun b q hb => hsame b k q hb hf⟩
  · have hdrop : ∀ y, (e.drop fl).om b = some y → b < w'.heap.size := fun y hy => Nat.lt_of_lt_of_le (h.oOk b _ (drop_some hy).1) hsz
    cases ho : ef.om b with
    | some x => exact hlt b x ho
    | none =>
      simp only [Env.muC, ho] at hb
      exact hdrop y hb
  · have hf : some k ∉ fl := fun hf => by
      obtain ⟨ver, g, t, l, l', κ, r1, _⟩ := hrow k hf
      rw [r1] at h3
      cases h3
    obtain ⟨g1, g2⟩ := hsame b k [] h1 hf
    exact ⟨g1, rfl, ⟨cs, by rw [hrest k hf]; exact h3, h4⟩, arr, by rw [g2]; exact h5, rfl, fun _ _ => rfl⟩

/-! ## The body, run -/
def RunPostMu (B : Base) (s : Mu) (K : Th Int × Th s.p.ty → Prop) (en : Ending) (w' : World) : Prop := ∃ v vs us e' hp' up, en = .returned v ∧ HR e' hp' w' ∧ FR B e' hp' w' ∧ UpR e' hp' w' B.up up ∧ VRs e' hp' w' us vs ∧ (v = if h : us.toArray.size = 1 then us.toArray[0] else .tuple us.toArray) ∧
  (finVs true [[none]] vs).wp ⟨[], []⟩ hp' fun us hp => leftMu s up us K hp

theorem fn_runMu {E : Env0} (hE : EnvOk P E) {n f off : Nat} {fn : Func} {c : Code} (hfn : P.funcs[f]? = some fn) (hc : fn.body = some c) (hbo : bodyOk (E.plan f) fn = true) {s : Mu} {K : Th Int × Th s.p.ty → Prop} {hp0 : Hp} {args : List V} {vals : List Value} {e0 : Env} {up : List (Tr V)}
    (hv : vc (E.ctx f off fn.ntmps) ⟨[], []⟩ (vcCall E ⟨[], []⟩ n) c ⟨argTm 0 args, hp0, up⟩ (finMu (E.ctx f 0 0) fn.results.toList s K)) (hlen : args.length ≤ fn.ntmps) (h : HR e0 hp0 w) (hf : FR B e0 hp0 w) (hu : UpR e0 hp0 w B.up up) (ha : VRs e0 hp0 w vals args) :
    Calls P f vals.toArray w (RunPostMu B s K) := by
  have hbo' : codeOk (E.plan f) c = true := by simpa [bodyOk, hc] using hbo
  have hl := ha.length
  have hrel : Rel B e0 w (vals.toArray ++ Array.replicate (fn.ntmps - vals.toArray.size) undef) ⟨argTm 0 args, hp0, up⟩ :=
    ⟨h, hf, hu, fun t => arg_tmps ha _ t⟩
  refine calls_of_wp hfn hc (wp_mono (vc_sound hE.mix (ctx := E.ctx f off fn.ntmps) hE.spec (vcCall_sound hE n) hE.ty c _ w e0 _ _ hbo' rfl ?_ hrel hv) fun ex a' w' hq => ?_)
  · simp only [Array.size_append, List.size_toArray, Array.size_replicate, Env0.ctx]
    omega
  · have fin : At B (E.ctx f off fn.ntmps).nt (fun σ' => ((resultsV fn.results.toList (E.ctx f 0 0) σ'.tm).bind fun vs => finVs true [[none]] vs).wp ⟨[], []⟩ σ'.hp fun us hp => leftMu s σ'.up us K hp) a' w' →
        a'.defers = [] ∧ ∃ v, (results fn a'.tmps).run P w' = .ok v w' ∧ RunPostMu B s K (.returned v) w' := by
      rintro ⟨hA, _, e', σ', h', hm'⟩
      rw [M.wp_bind] at hm'
      obtain ⟨us, vs, r1, r2, r3⟩ := results_list (ctx := E.ctx f 0 0) hE.ty h' hm'
      exact ⟨hA, _, r1, _, vs, us, e', σ'.hp, σ'.up, rfl, h'.hr, h'.fr, h'.up, r2, rfl, r3⟩
    cases ex with
    | normal => exact fin hq
    | ret => exact fin hq
    | exit id => obtain ⟨_, _, _, _, _, hm'⟩ := hq; exact hm'.elim
    | _ => exact hq.elim

theorem mu_cells {v0 : V} {v : Value} (hv : VR e hp w v v0) (ht : v0.isTup = false) (hk : ∀ c, v0 = .one c → c ≠ .unk) : ∃ vs, CRs e hp w vs v0.cells ∧ (∀ u ∈ vs, one u) ∧ (v0.isAgg = true → ∃ arr, v = .agg arr ∧ arr.toList = vs) ∧ (v0.isAgg = false → vs = [v]) := by
  cases v0 with
  | tup _ => cases ht
  | one c =>
    simp only [VR] at hv
    have h1 : one v := by
      have h2 := hv.2
      unfold OneIf at h2
      split at h2
      · exact absurd rfl (hk .unk rfl)
      · exact h2
    exact ⟨[v], by simp only [V.cells, CRs]; exact ⟨hv.1, trivial⟩, (fun u hu => by simp at hu; subst hu; exact h1), (fun h => by cases h), fun _ => rfl⟩
  | agg cs =>
    simp only [VR] at hv
    obtain ⟨arr, h1, h2, h3⟩ := hv
    exact ⟨arr.toList, h2, h3, fun _ => ⟨arr, h1, rfl⟩, (fun h => by cases h)⟩

theorem mu_sound {E : (Nat → Nat → Option Ann) → (Nat → Nat → Option Ann) → Env0} (hE : ∀ an cut, EnvOk P (E an cut)) {f : Nat} {fn : Func} {c : Code} (hfn : P.funcs[f]? = some fn) (hc : fn.body = some c) (hname : (fn.name == "runtime.NumGoroutine") = false) (hbo : ∀ an cut, bodyOk ((E an cut).plan f) fn = true) {s : Mu} (hs : SpecForMu E f fn s) :
    ∀ L, ClOk P fun _ f' args σ K => f' = f ∧ (callMu s args).wp L σ.hp fun v hp => K v ⟨σ.tm, hp, σ.up⟩ := by
  intro L key f' args σ K ⟨hff, hm⟩
  subst hff
  refine ⟨⟨fn, c, hfn, hname, hc⟩, fun B e w tmps vals h hv => ?_⟩
  unfold callMu at hm
  split at hm
  rotate_left
  · exact hm.elim
  rename_i v0 args'
  cases vals with
  | nil => simp only [VRs] at hv
  | cons val vals =>
  simp only [VRs] at hv
  obtain ⟨hv0, hv⟩ := hv
  have hmg := M.wp_guard hm
  clear hm
  obtain ⟨hg, hm⟩ := hmg
  simp only [Bool.and_eq_true, Bool.not_eq_true', beq_iff_eq] at hg
  obtain ⟨htup, hagg⟩ := hg
  rw [M.wp_bind] at hm
  have hunk : ∀ c, v0 = .one c → c ≠ .unk := fun c he hu => by
    subst he hu
    simp only [V.cells, takeMu] at hm
    exact hm.elim
  obtain ⟨vs, hvc, hv1, hva, hvo⟩ := mu_cells hv0 htup hunk
  obtain ⟨hp2, gs, hr2, hvr2, hA, hdead, hother, hpw, hrows, hm⟩ := takeMu_sound v0.cells _ vs σ.hp _ h.hr hvc hm
  split at hm
  rotate_left
  · exact hm.elim
  rename_i x hxd
  rw [M.wp_bind] at hm
  have hvs2 : ∀ {us : List Value} {xs : List V}, VRs e σ.hp w us xs → VRs e hp2 w us xs := by
    intro us
    induction us with
    | nil => intro xs hh; cases xs with
      | nil => simp only [VRs]
      | cons _ _ => simp only [VRs] at hh
    | cons u us ih =>
      intro xs hh
      cases xs with
      | nil => simp only [VRs] at hh
      | cons y ys =>
        simp only [VRs] at hh ⊢
        exact ⟨hvr2 _ _ hh.1, ih hh.2⟩
  obtain ⟨ins, hin, hm⟩ := lendVs_sound hr2 (ks := lentK (lentCs args')) s.pars args' vals _ (hvs2 hv) (fun k hk => hk) hm
  rw [M.wp_bind, Rn.lift_wp] at hm
  have hsame := s.p.decA_spec _ x hxd
  obtain ⟨an, cut, n, hvc2⟩ := hs x ins _ (same_ok hsame hA.okA) hin.ok hm
  clear hm
  unfold vcFnMu at hvc2
  rw [hc] at hvc2
  simp only at hvc2
  split at hvc2
  · exact hvc2.elim
  rename_i hlen
  have hlen' : s.pars.length + 1 ≤ fn.ntmps := by simpa using hlen
  have hSlt : ∀ b, LentS e hp2 (lentK (lentCs args')) b → b < w.heap.size := fun b hb => by
    rcases hb with hb | ⟨k', q, hb, _⟩
    · exact (hr2.sOk b hb).2
    · exact hr2.oOk b _ hb
  obtain ⟨hr0, _⟩ := ro_entry hSlt
  have hfin0 : FinCs e w vs ((s.p.encA x).map (outA true)) (flC v0.cells) := by
    have h1 := hA.fin
    have h2 : ∀ (as bs : List A) (vs : List Value) (fl : List (Option Nat)), Same as bs → FinCs e w vs (as.map (outA true)) fl → FinCs e w vs (bs.map (outA true)) fl := by
      intro as
      induction as with
      | nil => intro bs vs fl hs hf; cases hs; exact hf
      | cons a as ih =>
        intro bs vs fl hs hf
        cases hs with
        | cons e1 e2 =>
          cases vs with
          | nil => exact hf.elim
          | cons v vs => cases fl with
            | nil => exact hf.elim
            | cons f fl =>
              refine ⟨?_, ih _ vs fl e2 hf.2⟩
              have h3 := hf.1
              cases e1 with
              | int k m n he => exact ⟨h3.1, h3.2.same (.int _ _ _ he)⟩
              | bool b c he => exact ⟨h3.1, h3.2.same (.bool _ _ he)⟩
              | list t l m he =>
                obtain rfl : l = m := funext fun _ => he
                exact h3
    exact h2 _ _ _ _ hsame h1
  have hdis0 : Dis (fun _ => True) w e (flC v0.cells) ⟨LentS e hp2 (lentK (lentCs args')), fun _ => none, fun _ => undef⟩ := fun κ hκ b q hb => by
    refine ⟨trivial, rfl, fun hS => ?_, hr2.oOk b _ hb⟩
    rcases hS with hS | ⟨k', q', hb', _, hrow⟩
    · rw [(hr2.sOk b hS).1] at hb
      cases hb
    · rw [hb] at hb'
      cases hb'
      rw [hdead _ hκ] at hrow
      exact hrow
  obtain ⟨e2, hpc, ds, G, hds, hvc2⟩ := outKs_sound (N := fun _ => True) _ _ vs (flC v0.cells) _ _ _ hr0 hfin0 hv1 hdis0 hpw (outA_noshare _) hvc2
  split at hvc2
  · exact hvc2.elim
  rename_i htup2
  have hFR : FR ⟨w, LentS e hp2 (lentK (lentCs args')), e2.om, fun _ => none, [#[val]]⟩ e2 hpc w :=
    ⟨rfl, rfl, rfl, fun b hb => .inl ((G.S b).1 hb), Nat.le_refl _, fun b hb ho => ⟨rfl, ho⟩, fun b k off n hb => by cases hb⟩
  have hv0' : VR e2 hpc w val (argMu s.p ds) := by
    unfold argMu
    cases hpa : s.p.isAgg with
    | true =>
      obtain ⟨arr, rfl, harr⟩ := hva (by rw [hagg, hpa])
      simp only [VR]
      exact ⟨arr, rfl, by rw [harr]; exact hds, fun u hu => hv1 u (by rw [← harr]; exact hu)⟩
    | false =>
      obtain rfl := hvo (by rw [hagg, hpa])
      match ds, hds.length with
      | [d], _ =>
        simp only [CRs] at hds
        simp only [VR]
        exact ⟨hds.1, OneIf.of_one (hv1 val (by simp))⟩
      | [], hl => simp at hl
      | _ :: _ :: _, hl => simp at hl
  have hU : UpR e2 hpc w [#[val]] [Tr.set .leaf 0 (argMu s.p ds)] := by
    refine ⟨fun i => ?_, trivial⟩
    rw [Tr.get_set]
    by_cases hi : i = 0
    · subst hi
      simpa using hv0'
    · rw [if_neg hi]
      show VR e2 hpc w _ (.one .unk)
      simp only [VR, CR, OneIf]
      exact ⟨trivial, trivial⟩
  refine (fn_runMu (hE an cut) hfn hc (hbo an cut) hvc2 (by simp [encArgs_length]; omega) G.hr hFR hU (vals := val :: vals) (by
    simp only [VRs]
    exact ⟨hv0', hin.VRs fun b hb => (G.S b).2 hb⟩)).mono fun en w' hp => ?_
  obtain ⟨v, vsR, usR, e', hp', up, rfl, hr', hf', hu', hvs', hveq, hfin⟩ := hp
  obtain ⟨ef, hpf, rs, fl1, F1, hrs, hl⟩ := finVs_sound vsR _ usR e' hp' _ hr' hvs' hfin
  have hu2 := F1.sr.upR hu'
  unfold leftMu at hl
  split at hl
  rotate_left
  · exact hl.elim
  rename_i t
  split at hl
  rotate_left
  · exact hl.elim
  rename_i nr
  split at hl
  rotate_left
  · exact hl.elim
  rename_i as has
  split at hl
  rotate_left
  · exact hl.elim
  rename_i x2 hxd2
  split at hl
  rotate_left
  · exact hl.elim
  rename_i hnd
  have hveq2 : v = usR.headD undef ∧ Rep ef.S w' v (.int .i64 nr) := by
    cases usR with
    | nil => exact hrs.elim
    | cons u us => cases us with
      | nil =>
        obtain ⟨f1, f2, rfl, h1, h2⟩ := hrs
        obtain ⟨f, hf1, h3, h4⟩ := h1
        have hvu : v = u := by rw [hveq]; simp
        exact ⟨by simpa using hvu, by rw [hvu]; exact h3.2⟩
      | cons u2 us => obtain ⟨f1, f2, _, _, f3, f4, _, h5, _⟩ := hrs
  have hup0 : VR ef hpf w' val (t.get 0) := by simpa using hu2.1 0
  have hcells : CRs ef hpf w' vs (t.get 0).cells := by
    cases ht : t.get 0 with
    | tup us =>
      rw [ht] at has
      simp only [V.cells, leftAs] at has
      cases has
      rw [ht] at hup0
      simp only [VR] at hup0
      obtain ⟨arr, harr, _⟩ := hup0
      have hva1 : val = .tuple arr := harr
      exfalso
      cases hpa : v0.isAgg with
      | true =>
        obtain ⟨arr2, h2, _⟩ := hva hpa
        rw [h2] at hva1
        cases hva1
      | false =>
        have h2 := hvo hpa
        have := hv1 val (by rw [h2]; simp)
        rw [hva1] at this
        cases this
    | one d =>
      rw [ht] at hup0
      simp only [VR] at hup0
      cases hpa : v0.isAgg with
      | true =>
        obtain ⟨arr2, h2, h3⟩ := hva hpa
        rw [ht] at has
        have h1 := hup0.2
        unfold OneIf at h1
        split at h1
        · simp only [V.cells, leftAs] at has
          cases has
        · rw [h2] at h1
          cases h1
      | false =>
        rw [hvo hpa]
        simp only [V.cells, CRs]
        exact ⟨hup0.1, trivial⟩
    | agg cs2 =>
      rw [ht] at hup0
      simp only [VR] at hup0
      obtain ⟨arr, h1, h2, h3⟩ := hup0
      cases hpa : v0.isAgg with
      | true =>
        obtain ⟨arr2, h4, h5⟩ := hva hpa
        rw [h4] at h1
        cases h1
        rw [← h5]
        exact h2
      | false =>
        have h4 := hvo hpa
        have := hv1 val (by rw [h4]; simp)
        rw [h1] at this
        cases this
  have hL := leftAs_sound F1.hr _ vs as hcells has
  have hsame2 := s.p.decA_spec as x2 hxd2
  have hm : ((putMu v0.cells gs (s.p.encA x2)).bind fun _ => M.ret (.one (.att (.int .i64 nr)))).wp L hp2 (fun v hp => K v ⟨σ.tm, hp, σ.up⟩) := hl
  rw [M.wp_bind] at hm
  obtain ⟨hpC, hP, hC, hK⟩ := putMu_sound _ gs _ hp2 _ hpw hm
  have hrows2 := mu_rows _ _ vs gs as _ hA hL hsame2 hP hnd
  have hold : ∀ b, b < w.heap.size → (∀ k q, e.om b = some (k, q) → some k ∉ flC v0.cells) → w'.heap[b]? = w.heap[b]? ∧ ef.om b = none := fun b hlt hno => by
    obtain ⟨g1, g2⟩ := hf'.old b hlt (G.rest b rfl hno)
    exact ⟨g1, F1.om b g2⟩
  have stp := step_mu (ef := ef) (m := mapK v0.cells (t.get 0).cells) (hpC := hpC) h.hr hrows2 (fun k hk => by rw [hC k hk, hother k hk]) hf'.os hf'.tape hf'.output hf'.size hold (fun b x hb => F1.hr.oOk b x hb)
  refine ⟨v, .one (.att (.int .i64 nr)), _, ⟨σ.tm, hpC, σ.up⟩, rfl, hK, ⟨stp.1, h.fr.step stp.2.2, UpR.mono stp.2.1 _ _ h.up, fun i => VR.mono stp.2.1 _ _ (h.tm i)⟩, ?_⟩
  simp only [VR, CR]
  have hrep := hveq2.2
  cases hrep with
  | int _ _ a1 a2 => exact ⟨.int _ nr a1 a2, OneIf.of_one rfl⟩

theorem mu1 {T : Tab} (h : TabOk P T) {ss : List (Nat × SpecX)} (hs : SpecsAll P ss) {f : Nat} {fn : Func} {c : Code} {s : Mu} (hfn : T.fns f = some fn) (hc : fn.body = some c) (hv : SpecForMu (T.env ss) f fn s) : SpecOk1 P f (.raw fun _ => callMu s) := by
  obtain ⟨h1, h2, h3⟩ := h.fns f fn hfn
  exact fun L _ => mu_sound (h.env (specs_all hs)) h1 hc h2 (fun _ _ => h3) hv L

end

end Go.Sx
