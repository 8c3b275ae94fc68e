/-
  Elements put into a row: copies, what it does to memory.
-/
import Derived.Test.YtfgphaokmjdcbaaGreatS2
import Derived.Lib.Overlaps
import Derived.Lib.AppendZerosOnto
import Derived.Shelf.Spec.SlicesInsert
import Derived.Test.YtfgphaokmjdcbaaGreatS4d
import Derived.Test.YtfgphaokmjdcbaaGreatS4e
import Derived.OpenShut
import Derived.Below
set_option linter.unusedVariables false
set_option linter.unusedSimpArgs false
namespace Go.Sx

section
variable {P : Program} {w w' : World}

/-- The row after elements were put in at a place. -/
structure InsM (w w' : World) (size : Nat) (s v : Value) (n i m b cap : Nat) (cs : Array Value) (us : List Value) (b' cap' : Nat) (cs' : Array Value) (T' : Nat) : Prop where
  hv : v = .slice (some ⟨b', 0, none⟩) (n + m) cap'
  hh : w'.heap[b']? = some (.cells cs' T' (0, 0))
  hc : n + m ≤ cap'
  hm : cap' ≤ maxLen
  hs : cs'.size = cap' * size
  old : ∀ o, o < i * size → cs'[o]? = cs[o]?
  new : ∀ o, o < m * size → cs'[i * size + o]? = us[o]?
  tail : ∀ o, i * size ≤ o → o < n * size → cs'[m * size + o]? = cs[o]?
  os : w'.os = w.os
  tape : w'.tape = w.tape
  output : w'.output = w.output
  size' : w.heap.size ≤ w'.heap.size
  at_ : (b' = b ∧ (∃ n', s = .slice (some ⟨b, 0, none⟩) n' cap) ∧ ∀ x, x ≠ b → w'.heap[x]? = w.heap[x]?) ∨ (b' = w.heap.size ∧ w.heap.size < w'.heap.size ∧ ∀ x, x < w.heap.size → w'.heap[x]? = w.heap[x]?)

theorem AppM.ins {size n m b cap b' cap' T' : Nat} {s v : Value} {cs cs' : Array Value} {us : List Value} (h : AppM w w' size s v n m b cap cs us b' cap' cs' T') : InsM w w' size s v n n m b cap cs us b' cap' cs' T' :=
  ⟨h.hv, h.hh, h.hc, h.hm, h.hs, h.old, h.new, fun o h1 h2 => by omega, h.os, h.tape, h.output, h.size', h.at_⟩

/-- What a row's cells are when the rest is moved, and then the new ones are put in. -/
def shifted (cs : Array Value) (size n i : Nat) (us : List Value) : List Value :=
  putAt (putAt cs.toList ((i + 1) * size) ((cs.toList.take (n * size)).drop (i * size))) (i * size) us

theorem tail_len {cs : Array Value} {size n i cap : Nat} (hs : cs.size = cap * size) (hc : n ≤ cap) : ((cs.toList.take (n * size)).drop (i * size)).length = (n - i) * size := by
  have : n * size ≤ cap * size := Nat.mul_le_mul_right _ hc
  rw [List.length_drop, List.length_take, Array.length_toList, hs, Nat.min_eq_left this, Nat.sub_mul]

theorem shifted_spec {cs : Array Value} {size n i cap : Nat} {us : List Value} (hs : cs.size = cap * size) (hc : n + 1 ≤ cap) (hi : i < n) (hu : us.length = size) :
    (shifted cs size n i us).length = cs.size ∧ (∀ o, o < i * size → (shifted cs size n i us)[o]? = cs[o]?) ∧ (∀ o, o < 1 * size → (shifted cs size n i us)[i * size + o]? = us[o]?) ∧
      (∀ o, i * size ≤ o → o < n * size → (shifted cs size n i us)[1 * size + o]? = cs[o]?) := by
  have ht := tail_len (i := i) hs (show n ≤ cap by omega)
  have h1 : (n + 1) * size ≤ cap * size := Nat.mul_le_mul_right _ hc
  have h2 : (i + 1) * size + (n - i) * size = (n + 1) * size := by rw [← Nat.add_mul]; congr 1; omega
  have h3 : (i + 1) * size = i * size + size := by rw [Nat.add_mul, Nat.one_mul]
  have h4 : (i + 1) * size ≤ (n + 1) * size := Nat.mul_le_mul_right _ (by omega)
  have hf1 : (i + 1) * size + ((cs.toList.take (n * size)).drop (i * size)).length ≤ cs.toList.length := by rw [ht, Array.length_toList, hs]; omega
  have hl1 : (putAt cs.toList ((i + 1) * size) ((cs.toList.take (n * size)).drop (i * size))).length = cs.size := by rw [putAt_length _ _ _ hf1, Array.length_toList]
  have hf2 : i * size + us.length ≤ (putAt cs.toList ((i + 1) * size) ((cs.toList.take (n * size)).drop (i * size))).length := by rw [hl1, hu, hs]; omega
  refine ⟨by rw [shifted, putAt_length _ _ _ hf2, hl1], fun o ho => ?_, fun o ho => ?_, fun o ho1 ho2 => ?_⟩
  · rw [shifted, putAt_out _ _ _ hf2 _ (by omega), putAt_out _ _ _ hf1 _ (by omega)]
    simp
  · rw [shifted, putAt_in _ _ _ hf2 _ (by rw [hu]; omega)]
  · rw [shifted, putAt_out _ _ _ hf2 _ (by rw [hu]; omega)]
    rw [show 1 * size + o = (i + 1) * size + (o - i * size) by omega, putAt_in _ _ _ hf1 _ (by rw [ht, Nat.sub_mul]; omega), List.getElem?_drop, List.getElem?_take, if_pos (by omega)]
    rw [show i * size + (o - i * size) = o by omega]
    simp

/-- In place. -/
theorem InsM.room {size n i cap b T : Nat} {cs : Array Value} {us : List Value} (hh : w.heap[b]? = some (.cells cs T (0, 0))) (hs : cs.size = cap * size) (hc : n + 1 ≤ cap) (hm : cap ≤ maxLen) (hi : i < n) (hu : us.length = size)
    (h' : w'.heap[b]? = some (.cells (shifted cs size n i us).toArray T (0, 0))) (ho : ∀ x, x ≠ b → w'.heap[x]? = w.heap[x]?) (h1 : w'.os = w.os) (h2 : w'.tape = w.tape) (h3 : w'.output = w.output) (h4 : w.heap.size ≤ w'.heap.size) :
    InsM w w' size (.slice (some ⟨b, 0, none⟩) n cap) (.slice (some ⟨b, 0, none⟩) (n + 1) cap) n i 1 b cap cs us b cap (shifted cs size n i us).toArray T := by
  obtain ⟨e1, e2, e3, e4⟩ := shifted_spec hs hc hi hu
  exact ⟨rfl, h', hc, hm, by rw [List.size_toArray, e1, hs], fun o h => by rw [toArray_get]; exact e2 o h, fun o h => by rw [toArray_get]; exact e3 o h, fun o g1 g2 => by rw [toArray_get]; exact e4 o g1 g2, h1, h2, h3, h4, .inl ⟨rfl, ⟨n, rfl⟩, ho⟩⟩

end

end Go.Sx

/-
  An element put into a row of one's own: the library's slices.Insert, zs a program of chunks.
-/
namespace Go.Sx

def insL {α : Type} (l : List α) (n : Nat) (m : List α) : List α := l.take n ++ (m ++ l.drop n)

theorem insL_len {α : Type} {l m : List α} {n : Nat} (h : n ≤ l.length) : (insL l n m).length = l.length + m.length := by
  simp only [insL, List.length_append, List.length_take, List.length_drop]
  omega
section
variable {P : Program} {B : Base} {e : Env} {w w' : World} {σ : St} {L : Locks} {hp : Hp}

end

end Go.Sx

/-
  Arguments opened: structs of integers and of slices, as cells; how long their lists are; and all of them, if none is too long.
-/
namespace Go.Sx
set_option linter.unusedVariables false

section
variable {H : Type} {ec : TypeId × Value → H} {P : Program} {w : World} {base : Nat} {spare : Nat → Bool} {held : Bool}

/-- How a list is told if it may be too long. -/
def RT.lk : RT → RT
  | .pcls => .longs
  | .ints => .longs
  | _ => .long
def fitK : (k : RT) → List k.ty → Prop
  | .long, l => l.length ≤ 1048576
  | .longs, l => l.length ≤ 1048576 ∧ ∀ x ∈ (l : List (List Unit)), x.length ≤ 1048576
  | _, _ => False

def Sw (w : World) : Nat → Prop := fun b => b < w.heap.size

/-- What a cell of an argument is: a number; or a list, of which the length is known; and all of it, if it isn't too long. -/
def Opened (w : World) (v : Value) : Option RT → Prop
  | none => ∃ n : Int, v = .int .i64 n ∧ -9223372036854775808 ≤ n ∧ n ≤ 9223372036854775807
  | some t => ∃ l : List t.lk.ty, Rep (Sw w) w v (.list t.lk fun _ => l) ∧ (fitK t.lk l → ∃ m : List t.ty, Rep (Sw w) w v (.list t fun _ => m))

theorem Opened.mk {v : Value} {t k : RT} (hk : t.lk = k) (l : List k.ty) (h : Rep (Sw w) w v (.list k fun _ => l)) (hm : fitK k l → ∃ m : List t.ty, Rep (Sw w) w v (.list t fun _ => m)) : Opened w v (some t) := by
  subst hk
  exact ⟨l, h, hm⟩
theorem Opened.out {v : Value} {t k : RT} (hk : t.lk = k) (h : Opened w v (some t)) : ∃ l : List k.ty, Rep (Sw w) w v (.list k fun _ => l) ∧ (fitK k l → ∃ m : List t.ty, Rep (Sw w) w v (.list t fun _ => m)) := by
  subst hk
  exact h
theorem LenOk.long {t : RT} {n : Nat} (ht : t.isLong = true) (h : n ≤ 9223372036854775807) : LenOk t n := by
  refine ⟨?_, h⟩
  have : t.bytes = 0 := by cases t <;> first | rfl | cases ht
  simp [this]

end

end Go.Sx

/-
  A law's contract, told of memory: what came in as bytes.
-/
namespace Go.Sx
open Go.RowKit

/-- What is told of bytes that came in: nil; or a row of 'cap' cells (those behind the first 'len' are spare). -/
def IsRow (k : IntKind) (w : World) (a : Option Addr) (len cap : Nat) (zs : List Int) : Prop :=
  (a = none ∧ len = 0 ∧ cap = 0 ∧ zs = []) ∨
  ∃ x, a = some x ∧ len ≤ cap ∧ cap ≤ maxLen ∧ zs.length = cap ∧ (∀ i, i < zs.length → w.cell? (x.add i) = some (.int k (zs.getD i 0))) ∧ ∀ n ∈ zs, (Lit.int k n).wf = true

def S0 (w : World) : Nat → Prop := fun b => b < w.heap.size

theorem addr_eta {x : Addr} (h : x.spot = none) : x = ⟨x.block, x.off, none⟩ := by cases x; cases h; rfl

theorem IsRow.rep {w : World} {a : Option Addr} {len cap : Nat} {zs : List Int} (h : IsRow .u8 w a len cap zs) (hlen : len ≤ 140737488355328) : Rep (S0 w) w (.slice a len cap) (.list .byte fun _ => zs.take len) := by
  rcases h with ⟨rfl, rfl, rfl, rfl⟩ | ⟨x, rfl, h1, h2, h3, h4, h5⟩
  · exact .nil .byte _ rfl
  · rcases Nat.eq_zero_or_pos len with h0 | h0
    · subst h0
      exact .emp .byte _ x cap (by simp)
    · have hc0 := h4 0 (by omega)
      have hsp : x.spot = none ∧ ∃ cs T fz, w.heap[x.block]? = some (.cells cs T fz) := by
        unfold World.cell? at hc0
        simp only [Addr.add, if_true] at hc0
        split at hc0
        · rename_i cs T fz hh
          split at hc0
          · cases hc0
          · rename_i hs
            exact ⟨by simpa using hs, cs, T, fz, hh⟩
        · cases hc0
      obtain ⟨hs, cs, T, fz, hh⟩ := hsp
      have hx := addr_eta hs
      have hl : (zs.take len).length = len := by rw [List.length_take]; omega
      have hcell : ∀ i, i < len → cs[x.off + i]? = some (.int .u8 (zs.getD i 0)) := fun i hi => by
        have := h4 i (by omega)
        rw [hx, addr_add, cell_at hh] at this
        exact this
      have hnth : ∀ i, i < len → nth .byte (zs.take len) i = zs.getD i 0 := fun i hi => by
        simp [nth, List.getD, List.getElem?_take, hi, RT.dflt]
      have hr := Rep.row (S := S0 w) (w := w) .byte (fun _ => zs.take len) x.block x.off cap cs T fz (fun i _ => .int .u8 (zs.getD i 0)) (fun i _ => .int .u8 fun _ => nth .byte (zs.take len) i)
        (Array.getElem?_eq_some_iff.1 hh).1 hh (by rw [hl]; exact h1) (by rw [hl]; exact LenOk.of (by simpa [RT.bytes] using hlen) rfl)
        (fun i j hi hj => by
          rw [hl] at hi
          have hj0 : j = 0 := by
            have : RT.size .byte = 1 := rfl
            omega
          subst hj0
          refine ⟨rfl, ?_⟩
          have := hcell i hi
          simpa [RT.size] using this)
        (fun i j hi hj => by
          rw [hl] at hi
          have hw := h5 (zs.getD i 0) (by
            rw [List.getD_eq_getElem?_getD, List.getElem?_eq_getElem (by omega : i < zs.length)]
            exact List.getElem_mem _)
          have hn := hnth i hi
          rw [← hn] at hw ⊢
          refine .int .u8 (fun _ => nth .byte (zs.take len) i) ?_ ?_
          · simp [Lit.wf] at hw
            exact hw.1
          · simp [Lit.wf] at hw
            exact hw.2)
      rw [hl, ← hx] at hr
      exact hr

theorem law_end {B : Base} {K : V → St → Prop} {en : Ending} {w w' : World} (hB : B.w0 = w) (ho : B.om0 = fun _ => none) (hK : ∀ v σ, K v σ → v = .one (.att (.bool (.of fun _ => true)))) (h : CallPost B K #[] en w') : en = .returned (.bool true) ∧ Below w.heap.size w w' := by
  obtain ⟨v, x, e', σ', rfl, hk, hr, hv⟩ := h
  rw [hK _ _ hk] at hv
  simp only [VR, CR] at hv
  have hvv := hv.1
  cases hvv with
  | bool b =>
    refine ⟨rfl, ?_⟩
    have hf := hr.fr
    subst hB
    exact ⟨hf.os, hf.tape, hf.output, hf.size, fun k hk => (hf.old k hk (by rw [ho])).1⟩

theorem law1 {P : Program} {f : Nat} (h : ∀ L kb, ClOk P fun _ f' args σ K => f' = f ∧ (callX (.sp ⟨false, true, [.list .byte], [], fun _ _ _ => .ret (.one (.att (.bool (.of fun _ => true))), fun _ => 0)⟩) kb args).wp L σ.hp fun v hp => K v ⟨σ.tm, hp, σ.up⟩)
    {w : World} {a0 : Option Addr} {l0 c0 : Nat} {z0 : List Int} (w0 : IsRow .u8 w a0 l0 c0 z0) (h0 : l0 ≤ 140737488355328) :
    Calls P f #[.slice a0 l0 c0] w fun e w' => e = .returned (.bool true) ∧ Below w.heap.size w w' := by
  obtain ⟨hr, hf⟩ := ro_entry (w := w) (S := S0 w) fun b hb => hb
  have hrep0 := w0.rep h0
  refine ((h ⟨[], []⟩ 0 0 f [.one (.att (.list .byte fun _ => z0.take l0))] ⟨.leaf, .leaf, []⟩ (fun v _ => v = .one (.att (.bool (.of fun _ => true)))) ⟨rfl, ?_⟩).2
    ⟨w, S0 w, fun _ => none, fun _ => none, []⟩ ⟨S0 w, fun _ => none, fun _ => undef⟩ w #[] [.slice a0 l0 c0] ⟨hr, hf, trivial, fun t => ?_⟩ ?_).mono fun en w' hp => law_end (B := ⟨w, S0 w, fun _ => none, fun _ => none, []⟩) rfl rfl (fun v σ hh => hh) hp
  · exact rfl
  · simp only [VR, CR]
    exact ⟨trivial, trivial⟩
  · simp only [VRs, VR, CR]
    exact ⟨⟨hrep0, OneIf.of_one rfl⟩, trivial⟩

end Go.Sx
