/-
  Elements put into a row: copies, what it does to memory.
-/
import Derived.Test.YtmonhpdodgonbaaGreatS2
import Derived.Lib.Overlaps
import Derived.Lib.AppendZerosOnto
import Derived.Shelf.Spec.SlicesInsert
import Derived.Test.YtmonhpdodgonbaaGreatS4d
import Derived.Test.YtmonhpdodgonbaaGreatS4e
import Derived.OpenShut
import Derived.Below
set_option linter.unusedVariables false
set_option linter.unusedSimpArgs false
namespace Go.Sx

section
variable {P : Program} {w w' : World}

theorem wrote_heap {b o T : Nat} {cs : Array Value} {us : List Value} (hh : w.heap[b]? = some (.cells cs T (0, 0))) : (wrote w b o cs us).heap[b]? = some (.cells (putAt cs.toList o us).toArray T (0, 0)) := setRow_heap w b cs _ T _ hh
theorem wrote_other {b o x : Nat} {cs : Array Value} {us : List Value} (h : x ≠ b) : (wrote w b o cs us).heap[x]? = w.heap[x]? := setRow_other w b x _ h

theorem run_copy_big {dT sT ty E b o T : Nat} {dLen dCap sLen sCap k : Nat} {a : Addr} {inf : TypeInfo} {cs : Array Value} {us : List Value} (hu : P.underlying dT = some (.slice E)) (hi : P.info? E = some inf) (hk : Nat.min sLen dLen = k)
    (hl : us.length = k * inf.size) (hsrc : ∀ j v, us[j]? = some v → w.cell? (a.add j) = some v) (hh : w.heap[b]? = some (.cells cs T (0, 0))) (hfit : o + us.length ≤ cs.size) (h1 : ∀ u ∈ us, one u) :
    (Builtin.copy_ #[dT, sT] ty #[.slice (some ⟨b, o, none⟩) dLen dCap, .slice (some a) sLen sCap]).run P w = .ok (goInt k) (wrote w b o cs us) := by
  have hf := run_firstCells_some (P := P) w inf.size k a sLen sCap us hl hsrc
  have hst := run_store_cells (P := P) (o := o) hh hfit h1
  simp [Builtin.copy_, run_underlying hu, Builtin.lenOf, sizeOf, typeInfo, hi, hk, hf, hst]

theorem alloc_old' (w : World) (o : Obj) (x : Nat) (hx : x < w.heap.size) : (w.drew.alloc o).heap[x]? = w.heap[x]? := heap_alloc_old w.drew o (by exact hx)
theorem alloc_new' (w : World) (o : Obj) : (w.drew.alloc o).heap[w.heap.size]? = some o := heap_alloc_new w.drew o

/-- The row after elements were put in at a place. -/
structure InsM (w w' : World) (size : Nat) (s v : Value) (n i m b cap : Nat) (cs : Array Value) (us : List Value) (b' cap' : Nat) (cs' : Array Value) (T' : Nat) : Prop where
  hv : v = .slice (some ⟨b', 0, none⟩) (n + m) cap'
  hh : w'.heap[b']? = some (.cells cs' T' (0, 0))
  hc : n + m ≤ cap'
  hm : cap' ≤ maxLen
  hs : cs'.size = cap' * size
  old : ∀ o, o < i * size → cs'[o]? = cs[o]?
  new : ∀ o, o < m * size → cs'[i * size + o]? = us[o]?
  tail : ∀ o, i * size ≤ o → o < n * size → cs'[m * size + o]? = cs[o]?
  os : w'.os = w.os
  tape : w'.tape = w.tape
  output : w'.output = w.output
  size' : w.heap.size ≤ w'.heap.size
  at_ : (b' = b ∧ (∃ n', s = .slice (some ⟨b, 0, none⟩) n' cap) ∧ ∀ x, x ≠ b → w'.heap[x]? = w.heap[x]?) ∨ (b' = w.heap.size ∧ w.heap.size < w'.heap.size ∧ ∀ x, x < w.heap.size → w'.heap[x]? = w.heap[x]?)

/-- .. somehow. -/
def InsE (w w' : World) (size : Nat) (s v : Value) (n i m b cap : Nat) (cs : Array Value) (us : List Value) : Prop := ∃ b' cap' cs' T', InsM w w' size s v n i m b cap cs us b' cap' cs' T'

theorem AppM.ins {size n m b cap b' cap' T' : Nat} {s v : Value} {cs cs' : Array Value} {us : List Value} (h : AppM w w' size s v n m b cap cs us b' cap' cs' T') : InsM w w' size s v n n m b cap cs us b' cap' cs' T' :=
  ⟨h.hv, h.hh, h.hc, h.hm, h.hs, h.old, h.new, fun o h1 h2 => by omega, h.os, h.tape, h.output, h.size', h.at_⟩

/-- What a row's cells are when the rest is moved, and then the new ones are put in. -/
def shifted (cs : Array Value) (size n i : Nat) (us : List Value) : List Value :=
  putAt (putAt cs.toList ((i + 1) * size) ((cs.toList.take (n * size)).drop (i * size))) (i * size) us

theorem tail_len {cs : Array Value} {size n i cap : Nat} (hs : cs.size = cap * size) (hc : n ≤ cap) : ((cs.toList.take (n * size)).drop (i * size)).length = (n - i) * size := by
  have : n * size ≤ cap * size := Nat.mul_le_mul_right _ hc
  rw [List.length_drop, List.length_take, Array.length_toList, hs, Nat.min_eq_left this, Nat.sub_mul]

theorem shifted_spec {cs : Array Value} {size n i cap : Nat} {us : List Value} (hs : cs.size = cap * size) (hc : n + 1 ≤ cap) (hi : i < n) (hu : us.length = size) :
    (shifted cs size n i us).length = cs.size ∧ (∀ o, o < i * size → (shifted cs size n i us)[o]? = cs[o]?) ∧ (∀ o, o < 1 * size → (shifted cs size n i us)[i * size + o]? = us[o]?) ∧
      (∀ o, i * size ≤ o → o < n * size → (shifted cs size n i us)[1 * size + o]? = cs[o]?) := by
  have ht := tail_len (i := i) hs (show n ≤ cap by omega)
  have h1 : (n + 1) * size ≤ cap * size := Nat.mul_le_mul_right _ hc
  have h2 : (i + 1) * size + (n - i) * size = (n + 1) * size := by rw [← Nat.add_mul]; congr 1; omega
  have h3 : (i + 1) * size = i * size + size := by rw [Nat.add_mul, Nat.one_mul]
  have h4 : (i + 1) * size ≤ (n + 1) * size := Nat.mul_le_mul_right _ (by omega)
  have hf1 : (i + 1) * size + ((cs.toList.take (n * size)).drop (i * size)).length ≤ cs.toList.length := by rw [ht, Array.length_toList, hs]; omega
  have hl1 : (putAt cs.toList ((i + 1) * size) ((cs.toList.take (n * size)).drop (i * size))).length = cs.size := by rw [putAt_length _ _ _ hf1, Array.length_toList]
  have hf2 : i * size + us.length ≤ (putAt cs.toList ((i + 1) * size) ((cs.toList.take (n * size)).drop (i * size))).length := by rw [hl1, hu, hs]; omega
  refine ⟨by rw [shifted, putAt_length _ _ _ hf2, hl1], fun o ho => ?_, fun o ho => ?_, fun o ho1 ho2 => ?_⟩
  · rw [shifted, putAt_out _ _ _ hf2 _ (by omega), putAt_out _ _ _ hf1 _ (by omega)]
    simp
  · rw [shifted, putAt_in _ _ _ hf2 _ (by rw [hu]; omega)]
  · rw [shifted, putAt_out _ _ _ hf2 _ (by rw [hu]; omega)]
    rw [show 1 * size + o = (i + 1) * size + (o - i * size) by omega, putAt_in _ _ _ hf1 _ (by rw [ht, Nat.sub_mul]; omega), List.getElem?_drop, List.getElem?_take, if_pos (by omega)]
    rw [show i * size + (o - i * size) = o by omega]
    simp

/-- In place. -/
theorem InsM.room {size n i cap b T : Nat} {cs : Array Value} {us : List Value} (hh : w.heap[b]? = some (.cells cs T (0, 0))) (hs : cs.size = cap * size) (hc : n + 1 ≤ cap) (hm : cap ≤ maxLen) (hi : i < n) (hu : us.length = size)
    (h' : w'.heap[b]? = some (.cells (shifted cs size n i us).toArray T (0, 0))) (ho : ∀ x, x ≠ b → w'.heap[x]? = w.heap[x]?) (h1 : w'.os = w.os) (h2 : w'.tape = w.tape) (h3 : w'.output = w.output) (h4 : w.heap.size ≤ w'.heap.size) :
    InsM w w' size (.slice (some ⟨b, 0, none⟩) n cap) (.slice (some ⟨b, 0, none⟩) (n + 1) cap) n i 1 b cap cs us b cap (shifted cs size n i us).toArray T := by
  obtain ⟨e1, e2, e3, e4⟩ := shifted_spec hs hc hi hu
  exact ⟨rfl, h', hc, hm, by rw [List.size_toArray, e1, hs], fun o h => by rw [toArray_get]; exact e2 o h, fun o h => by rw [toArray_get]; exact e3 o h, fun o g1 g2 => by rw [toArray_get]; exact e4 o g1 g2, h1, h2, h3, h4, .inl ⟨rfl, ⟨n, rfl⟩, ho⟩⟩

/-- What a new row's cells are. -/
def grownL (row : List Value) (cs : Array Value) (size n i : Nat) (us : List Value) : List Value :=
  putAt (putAt row (i * size) us) ((i + 1) * size) ((cs.toList.take (n * size)).drop (i * size))

theorem grownL_spec {row : List Value} {cs : Array Value} {size n i cap cap' : Nat} {us : List Value} (hr : row.length = cap' * size) (hs : cs.size = cap * size) (hc : n ≤ cap) (hc' : n + 1 ≤ cap') (hi : i < n) (hu : us.length = size) (h0 : ∀ o, o < i * size → row[o]? = cs[o]?) :
    (grownL row cs size n i us).length = cap' * size ∧ (∀ o, o < i * size → (grownL row cs size n i us)[o]? = cs[o]?) ∧ (∀ o, o < 1 * size → (grownL row cs size n i us)[i * size + o]? = us[o]?) ∧
      (∀ o, i * size ≤ o → o < n * size → (grownL row cs size n i us)[1 * size + o]? = cs[o]?) := by
  have ht := tail_len (i := i) hs hc
  have h1 : (n + 1) * size ≤ cap' * size := Nat.mul_le_mul_right _ hc'
  have h2 : (i + 1) * size + (n - i) * size = (n + 1) * size := by rw [← Nat.add_mul]; congr 1; omega
  have h3 : (i + 1) * size = i * size + size := by rw [Nat.add_mul, Nat.one_mul]
  have h4 : (i + 1) * size ≤ (n + 1) * size := Nat.mul_le_mul_right _ (by omega)
  have hf1 : i * size + us.length ≤ row.length := by rw [hu, hr]; omega
  have hl1 := putAt_length row (i * size) us hf1
  have hf2 : (i + 1) * size + ((cs.toList.take (n * size)).drop (i * size)).length ≤ (putAt row (i * size) us).length := by rw [hl1, hr, ht]; omega
  refine ⟨by rw [grownL, putAt_length _ _ _ hf2, hl1, hr], fun o ho => ?_, fun o ho => ?_, fun o ho1 ho2 => ?_⟩
  · rw [grownL, putAt_out _ _ _ hf2 _ (by omega), putAt_out _ _ _ hf1 _ (by omega), h0 o ho]
  · rw [grownL, putAt_out _ _ _ hf2 _ (by omega), putAt_in _ _ _ hf1 _ (by rw [hu]; omega)]
  · rw [grownL, show 1 * size + o = (i + 1) * size + (o - i * size) by omega, putAt_in _ _ _ hf2 _ (by rw [ht, Nat.sub_mul]; omega), List.getElem?_drop, List.getElem?_take, if_pos (by omega)]
    rw [show i * size + (o - i * size) = o by omega]
    simp

theorem InsM.grow {row : List Value} {size n i cap cap' b b' T' : Nat} {cs : Array Value} {us : List Value} {s : Value} (hr : row.length = cap' * size) (hs : cs.size = cap * size) (hc : n ≤ cap) (hc' : n + 1 ≤ cap') (hm : cap' ≤ maxLen) (hi : i < n) (hu : us.length = size)
    (h0 : ∀ o, o < i * size → row[o]? = cs[o]?) (h' : w'.heap[b']? = some (.cells (grownL row cs size n i us).toArray T' (0, 0))) (hb : b' = w.heap.size) (hlt : w.heap.size < w'.heap.size) (ho : ∀ x, x < w.heap.size → w'.heap[x]? = w.heap[x]?) (h1 : w'.os = w.os) (h2 : w'.tape = w.tape) (h3 : w'.output = w.output) :
    InsM w w' size s (.slice (some ⟨b', 0, none⟩) (n + 1) cap') n i 1 b cap cs us b' cap' (grownL row cs size n i us).toArray T' := by
  obtain ⟨e1, e2, e3, e4⟩ := grownL_spec hr hs hc hc' hi hu h0
  exact ⟨rfl, h', hc', hm, by rw [List.size_toArray, e1], fun o h => by rw [toArray_get]; exact e2 o h, fun o h => by rw [toArray_get]; exact e3 o h, fun o g1 g2 => by rw [toArray_get]; exact e4 o g1 g2, h1, h2, h3, by omega, .inr ⟨hb, hlt, ho⟩⟩

end

end Go.Sx

/-
  An element put into a row of one's own: the library's slices.Insert, zs a program of chunks.
-/
namespace Go.Sx

def insL {α : Type} (l : List α) (n : Nat) (m : List α) : List α := l.take n ++ (m ++ l.drop n)

theorem insL_len {α : Type} {l m : List α} {n : Nat} (h : n ≤ l.length) : (insL l n m).length = l.length + m.length := by
  simp only [insL, List.length_append, List.length_take, List.length_drop]
  omega
theorem insL_lt {α : Type} {l m : List α} {n i : Nat} (h : n ≤ l.length) (hi : i < n) : (insL l n m)[i]? = l[i]? := by
  rw [insL, List.getElem?_append_left (by rw [List.length_take]; omega), List.getElem?_take, if_pos hi]
theorem insL_eq {α : Type} {l m : List α} {n : Nat} (h : n ≤ l.length) (hm : m.length = 1) : (insL l n m)[n]? = m[0]? := by
  rw [insL, List.getElem?_append_right (by rw [List.length_take]; omega), List.length_take, Nat.min_eq_left h, Nat.sub_self, List.getElem?_append_left (by omega)]
theorem insL_gt {α : Type} {l m : List α} {n i : Nat} (h : n ≤ l.length) (hm : m.length = 1) (hi : n < i) : (insL l n m)[i]? = l[i - 1]? := by
  rw [insL, List.getElem?_append_right (by rw [List.length_take]; omega), List.length_take, Nat.min_eq_left h, List.getElem?_append_right (by omega), hm, List.getElem?_drop]
  congr 1; omega

theorem celA_congr {t : RT} {l m : List t.ty} {i i' j : Nat} (h : l[i]? = m[i']?) : celA t l i j = celA t m i' j := by
  unfold celA nth
  rw [List.getD_eq_getElem?_getD, List.getD_eq_getElem?_getD, h]

def insM (t : RT) (kb : Nat) (args : List V) : M V :=
  match args with
  | [.one (.own k v), .one (.att (.int .i64 n)), .one (.own kx vx)] => .get kx fun ex => match ex with
    | (vx', .row true _ tx lx) => M.guard (vx == vx') (if hx : tx = t then
        .asrt (fun _ => (castL hx lx ()).length = 1) (.set kx (vx' + 1, .dead) (.get k fun e => match e with
          | (v', .row true _ t' l) => M.guard (v == v') (if h : t' = t then
              .asrt (fun _ => 0 ≤ n () ∧ n () ≤ ((castL h l ()).length : Int)) (askM t.bytes (fun _ => (castL h l ()).length + 1) (.set k (v' + 1, .dead) (newRow kb true t (fun _ => insL (castL h l ()) (n ()).toNat (castL hx lx ())))))
            else .fail)
          | _ => .fail)) else .fail)
    | _ => .fail
  | _ => .fail

/-- A function that does so in memory. -/
def InsFn (P : Program) (f : Nat) (t : RT) : Prop := ∀ (w : World) (s : Value) (n b cap : Nat) (cs : Array Value) (T i vb vcap vT : Nat) (vcs : Array Value) (us : List Value), Old w t.size s n b cap cs T → i ≤ n → ((∃ n', s = .slice (some ⟨b, 0, none⟩) n' cap) → vb ≠ b) →
  w.heap[vb]? = some (.cells vcs vT (0, 0)) → us.length = t.size → (∀ (j : Nat) u, us[j]? = some u → w.cell? ⟨vb, 0 + j, none⟩ = some u) → (∀ u ∈ us, one u) → (∀ u ∈ cs.toList.take (n * t.size), one u) → (n + 1) * t.bytes ≤ 140737488355328 →
  Calls P f #[s, .int .i64 i, .slice (some ⟨vb, 0, none⟩) 1 vcap] w fun e w' => ∃ v, e = .returned v ∧ InsE w w' t.size s v n i 1 b cap cs us

section
variable {P : Program} {B : Base} {e : Env} {w w' : World} {σ : St} {L : Locks} {hp : Hp}

theorem ins_core (h : HR e hp w) {f k kx key n : Nat} {t : RT} {s x : Value} {l lx : Th (List t.ty)} (hf : InsFn P f t) (hs : OwnA e.om k w [] s (.list t l)) (hxo : OwnA e.om kx w [] x (.list t lx)) (hx1 : (lx ()).length = 1) (hn : n ≤ (l ()).length)
    (hkd : (hp.get k).2 = .dead) (hkxd : (hp.get kx).2 = .dead) (hne : k ≠ kx) (hL : ((l ()).length + 1) * t.bytes ≤ 140737488355328) (hlg : t.isLong = false) (hk : keeps (hp.get key) ((hp.get key).1 + 1, .row true 0 t (fun _ => insL (l ()) n (lx ()))) = true) :
    Calls P f #[s, .int .i64 n, x] w fun en w' => ∃ v e', en = .returned v ∧ Stp e hp w e' (hp.set key ((hp.get key).1 + 1, .row true 0 t (fun _ => insL (l ()) n (lx ())))) w' ∧ e'.E key = v ∧ one v := by
  rcases hxo.list with ⟨_, h0⟩ | ⟨bx, capx, csx, Tx, vsx, asx, Rx, hbx, hownx⟩
  · rw [h0] at hx1; cases hx1
  have hcapx : t.size ≤ csx.size := by
    have h2 := Rx.hc
    rw [hx1] at h2
    rw [Rx.hs]
    exact Nat.le_mul_of_pos_left _ h2
  have hus : ∀ j, (csx.toList.take t.size)[j]? = if j < t.size then csx[j]? else none := fun j => by rw [List.getElem?_take]; simp
  have hul : (csx.toList.take t.size).length = t.size := by rw [List.length_take, Array.length_toList]; omega
  have hxj : ∀ j, j < t.size → csx[j]? = some (vsx 0 j) := fun j hj => by
    have := (Rx.hg 0 j (by omega) hj).2
    simpa using this
  have hnews : ∀ (j : Nat) u, (csx.toList.take t.size)[j]? = some u → w.cell? ⟨bx, 0 + j, none⟩ = some u := fun j u hj => by
    rw [hus] at hj
    split at hj
    · rw [cell_at Rx.hh, Nat.zero_add]; exact hj
    · cases hj
  have hone : ∀ u ∈ csx.toList.take t.size, one u := fun u hu => by
    obtain ⟨j, hj⟩ := List.getElem?_of_mem hu
    rw [hus] at hj
    split at hj
    · rename_i hlt
      rw [hxj j hlt] at hj
      cases hj
      exact (hownx 0 j (by omega) hlt).one
    · cases hj
  have hxv : x = .slice (some ⟨bx, 0, none⟩) 1 capx := by rw [Rx.hv, hx1]
  -- what comes behind the run
  have fin : ∀ (b cap : Nat) (cs : Array Value) (v : Value) (w' : World), ((s = .slice none 0 0 ∧ l () = []) ∨ ∃ (T : Nat) (vs : Nat → Nat → Value) (zs : Nat → Nat → A), RowM w t (l ()) s b cap cs T vs zs ∧ e.om b = some (k, []) ∧ ∀ i j, i < (l ()).length → j < t.size → OwnA e.om k w ([] ++ [(i, j)]) (vs i j) (zs i j)) →
      InsE w w' t.size s v (l ()).length n 1 b cap cs (csx.toList.take t.size) →
      ∃ e', Stp e hp w e' (hp.set key ((hp.get key).1 + 1, .row true 0 t (fun _ => insL (l ()) n (lx ())))) w' ∧ e'.E key = v ∧ one v := by
    intro b cap cs v w' hO ⟨b', cap', cs', T', A⟩
    have go : ∀ (ob : Option Nat) (g : Nat → Path → Option Path), (∀ k q p, g k q = some p → (hp.get k).2 = .dead) → (∀ x, ob = some x → w.heap.size ≤ x ∧ x < w'.heap.size) →
        (∀ x, x < w.heap.size → w'.heap[x]? = w.heap[x]? ∨ ∃ k q, e.om x = some (k, q) ∧ (hp.get k).2 = .dead) → (e.mv key ob v g).om b' = some (key, []) →
        (∀ i j q, g k ((i, j) :: q) = some ((if i < n then i else i + 1, j) :: q)) → (∀ i j q, g kx ((i, j) :: q) = some ((n + i, j) :: q)) →
        (∀ x k y q, e.om x = some (k, y :: q) → w'.heap[x]? = w.heap[x]?) →
        ∃ e', Stp e hp w e' (hp.set key ((hp.get key).1 + 1, .row true 0 t (fun _ => insL (l ()) n (lx ())))) w' ∧ e'.E key = v ∧ one v := by
      intro ob g hg hob hold hb' hg0 hg2 hheap
      refine ⟨e.mv key ob v g, ?_, by simp [Env.mv], by rw [A.hv]; rfl⟩
      refine step_mv h key v _ ob g (Nat.lt_succ_self _) hk hg A.os A.tape A.output A.size' hob hold fun hsr => ?_
      have hnob : ∀ x y, e.om x = some y → ob ≠ some x := fun x y h1 h2 => by have := h.oOk x y h1; have := (hob x h2).1; omega
      have hll : (insL (l ()) n (lx ())).length = (l ()).length + 1 := by rw [insL_len hn, hx1]
      let vs' : Nat → Nat → Value := fun i j => (cs'[i * t.size + j]?).getD .nilFunc
      have hv' : ∀ i j, i < (insL (l ()) n (lx ())).length → j < t.size → cs'[i * t.size + j]? = some (vs' i j) := fun i j hi hj => by
        rw [hll] at hi
        have h1 := idx_lt hi hj
        have h2 : ((l ()).length + 1) * t.size ≤ cap' * t.size := Nat.mul_le_mul_right _ A.hc
        have h3 : i * t.size + j < cs'.size := by rw [A.hs]; omega
        simp only [vs', Array.getElem?_eq_getElem h3, Option.getD_some]
      have hRow : RowM w' t (insL (l ()) n (lx ())) v b' cap' cs' T' vs' (asOf t (insL (l ()) n (lx ()))) :=
        ⟨by rw [hll]; exact A.hv, A.hh, by rw [hll]; exact A.hc, A.hm, A.hs, by rw [hll]; exact LenOk.of hL hlg, fun i j hi hj => ⟨asOf_spec hj, hv' i j hi hj⟩⟩
      -- an old cell, in its new place
      have hcell : ∀ i i' j, i < (l ()).length → j < t.size → i' < (insL (l ()) n (lx ())).length → i' = (if i < n then i else i + 1) → cs'[i' * t.size + j]? = cs[i * t.size + j]? → celA t (insL (l ()) n (lx ())) i' j = celA t (l ()) i j →
          OwnA (e.mv key ob v g).om key w' ([] ++ [(i', j)]) (vs' i' j) (asOf t (insL (l ()) n (lx ())) i' j) := by
        intro i i' j hi hj hi' he hc hcel
        rcases hO with ⟨_, h2⟩ | ⟨T, vs, zs, R, hbo, hown⟩
        · rw [h2] at hi; simp at hi
        · obtain ⟨r1, r2⟩ := R.hg i j hi hj
          have h3 := hv' i' j hi' hj
          rw [hc, r2] at h3
          rw [← Option.some.inj h3, asOf_of (hcel.trans r1), he]
          exact (hown i j hi hj).mono _ fun b'' r hb'' => ⟨Env.mv_at (hnob _ _ hb'') hb'' (by simpa using hg0 i j r), hheap b'' k (i, j) r hb''⟩
      show OwnA (e.mv key ob v g).om key w' [] ((e.mv key ob v g).E key) (.list t fun _ => insL (l ()) n (lx ()))
      rw [show (e.mv key ob v g).E key = v by simp [Env.mv]]
      refine hRow.own hb' fun i j hi hj => ?_
      rw [hll] at hi
      have hij := idx_lt (show i < i + 1 by omega) hj
      rcases Nat.lt_trichotomy i n with hlt | heq | hgt
      · refine hcell i i j (by omega) hj (by rw [hll]; omega) (by rw [if_pos hlt]) (A.old _ (idx_lt hlt hj)) (celA_congr (insL_lt hn hlt))
      · subst heq
        have h1 := A.new j (by omega)
        have h2 := hv' i j (by rw [hll]; omega) hj
        rw [h1, hus, if_pos hj, hxj j hj] at h2
        have hcel : celA t (insL (l ()) i (lx ())) i j = celA t (lx ()) 0 j := celA_congr (insL_eq hn hx1)
        rw [← Option.some.inj h2, asOf_of (hcel.trans (Rx.hg 0 j (by omega) hj).1)]
        exact (hownx 0 j (by omega) hj).mono _ fun b'' r hb'' => ⟨Env.mv_at (hnob _ _ hb'') hb'' (by simpa using hg2 0 j r), hheap b'' kx (0, j) r hb''⟩
      · obtain ⟨i0, rfl⟩ : ∃ i0, i = i0 + 1 := ⟨i - 1, by omega⟩
        refine hcell i0 (i0 + 1) j (by omega) hj (by rw [hll]; omega) (by rw [if_neg (by omega)]) ?_ (celA_congr (insL_gt hn hx1 hgt))
        have h5 : n * t.size ≤ i0 * t.size := Nat.mul_le_mul_right _ (by omega)
        have h6 := A.tail (i0 * t.size + j) (by omega) (idx_lt (by omega) hj)
        rw [← h6]
        congr 1
        rw [Nat.add_mul, Nat.one_mul]
        omega
    let g : Bool → Nat → Path → Option Path := fun inplace k' q => if k' = k then (match q with
        | [] => if inplace then some [] else none
        | y :: r => some ((if y.1 < n then y.1 else y.1 + 1, y.2) :: r))
      else if k' = kx then (match q with
        | [] => none
        | y :: r => some ((n + y.1, y.2) :: r))
      else none
    have hgd : ∀ ip k q p, g ip k q = some p → (hp.get k).2 = .dead := fun ip k' q p hg => by
      simp only [g] at hg
      split at hg
      · rename_i hk'; rw [hk']; exact hkd
      · split at hg
        · rename_i hk'; rw [hk']; exact hkxd
        · cases hg
    have hg0 : ∀ ip i j q, g ip k ((i, j) :: q) = some ((if i < n then i else i + 1, j) :: q) := fun ip i j q => by simp [g]
    have hg2 : ∀ ip i j q, g ip kx ((i, j) :: q) = some ((n + i, j) :: q) := fun ip i j q => by simp [g, Ne.symm hne]
    rcases A.at_ with ⟨hbb, ⟨n', hsv⟩, hoth⟩ | ⟨hbb, hlt, hall⟩
    · rcases hO with ⟨h1, _⟩ | ⟨T, vs, zs, R, hbo, hown⟩
      · rw [h1] at hsv; cases hsv
      · subst hbb
        refine go none (g true) (hgd true) (fun x hx => by cases hx) (fun x hx => ?_) (Env.mv_at (by simp) hbo (by simp [g])) (hg0 true) (hg2 true) fun x k' y q hx => hoth x fun hh => ?_
        · by_cases hxb : x = b'
          · subst hxb; exact .inr ⟨k, [], hbo, hkd⟩
          · exact .inl (hoth x hxb)
        · rw [hh, hbo] at hx
          cases hx
    · subst hbb
      exact go (some w.heap.size) (g false) (hgd false) (fun x hx => by cases hx; exact ⟨Nat.le_refl _, hlt⟩) (fun x hx => .inl (hall x hx)) Env.mv_new (hg0 false) (hg2 false) fun x k' y q hx => hall x (h.oOk x _ hx)
  rw [hxv]
  rcases hs.list with ⟨h1, h2⟩ | ⟨b, cap, cs, T, vs, zs, R, hbo, hown⟩
  · have h0 : (l ()).length = 0 := by rw [h2]; rfl
    refine (hf w s 0 0 0 #[] 0 n bx capx Tx csx (csx.toList.take t.size) (by rw [h1]; exact .nil _ _ _ _ rfl rfl) (by omega) (fun ⟨n', hh⟩ => by rw [h1] at hh; cases hh) Rx.hh hul hnews hone (fun u hu => by simp at hu) (by rw [h0] at hL; exact hL)).mono ?_
    rintro en w' ⟨v, rfl, hE⟩
    have hE' : InsE w w' t.size s v (l ()).length n 1 0 0 #[] (csx.toList.take t.size) := by rw [h0]; exact hE
    obtain ⟨e', g1, g2, g3⟩ := fin 0 0 #[] v w' (.inl ⟨h1, h2⟩) hE'
    exact ⟨v, e', rfl, g1, g2, g3⟩
  · refine (hf w s (l ()).length b cap cs T n bx capx Tx csx (csx.toList.take t.size) (by rw [R.hv]; exact .row _ b cap cs T R.hh R.hc R.hm R.hs) hn (fun _ hh => ?_) Rx.hh hul hnews hone (fun u hu => ?_) hL).mono ?_
    · rw [hh, hbo] at hbx
      cases hbx
      exact hne rfl
    · obtain ⟨o, ho⟩ := List.getElem?_of_mem hu
      rw [List.getElem?_take] at ho
      split at ho
      · rename_i hlt
        have hsz : 0 < t.size := by
          rcases Nat.eq_zero_or_pos t.size with h0 | h0
          · rw [h0] at hlt; simp at hlt
          · exact h0
        have hi : o / t.size < (l ()).length := Nat.div_lt_of_lt_mul (by rw [Nat.mul_comm]; exact hlt)
        have hj := Nat.mod_lt o hsz
        have h2 := (R.hg _ _ hi hj).2
        rw [Nat.mul_comm, Nat.div_add_mod] at h2
        rw [Array.getElem?_toList, h2] at ho
        cases ho
        exact (hown _ _ hi hj).one
      · cases ho
    · rintro en w' ⟨v, rfl, hE⟩
      obtain ⟨e', g1, g2, g3⟩ := fin b cap cs v w' (.inr ⟨T, vs, zs, R, hbo, hown⟩) hE
      exact ⟨v, e', rfl, g1, g2, g3⟩

theorem ins_ok {f : Nat} {t : RT} (he : enters P f) (hf : InsFn P f t) (hlg : t.isLong = false := by rfl) : ∀ L kb, ClOk P fun _ f' args σ K => f' = f ∧ (callX (.raw (insM t)) kb args).wp L σ.hp fun v hp => K v ⟨σ.tm, hp, σ.up⟩ := by
  intro L kb key f' args σ K ⟨hff, hm⟩
  subst hff
  refine ⟨he, fun B e w tmps vals h hv => ?_⟩
  unfold callX insM at hm
  simp only at hm
  split at hm
  · rename_i k v n kx vx
    match vals, hv with
    | [s, i, x], hv =>
      simp only [VRs] at hv
      obtain ⟨hvs, hvi, hvx, _⟩ := hv
      obtain ⟨hi, _⟩ := VR_int hvi
      simp only [VR] at hvs hvx
      have hvs := hvs.1
      have hvx := hvx.1
      simp only [CR] at hvs hvx
      replace hm := M.wp_get hm
      split at hm
      · rename_i vx' gx tx lx hxx
        replace hm := M.wp_guard hm
        obtain ⟨hg, hm⟩ := hm
        have hg : vx = vx' := by simpa using hg
        subst hg
        split at hm
        · rename_i htx
          subst htx
          simp only [castL] at hm
          obtain ⟨ho1, hm⟩ := hm
          replace hm := M.wp_set hm
          obtain ⟨hk1, hm⟩ := hm
          have hst1 := step_kill h.hr kx (vx + 1) (by rw [hxx]; exact Nat.lt_succ_self _) hk1
          have hr1 := (Stps.one hst1).hr h.hr
          replace hm := M.wp_get hm
          split at hm
          · rename_i v' g t' l hxk
            replace hm := M.wp_guard hm
            obtain ⟨hg, hm⟩ := hm
            have hg : v = v' := by simpa using hg
            subst hg
            split at hm
            · rename_i htt
              subst htt
              simp only at hm
              obtain ⟨ho2, hm⟩ := hm
              obtain ⟨ho3, hm⟩ := hm
              replace hm := M.wp_set hm
              obtain ⟨hk2, hm⟩ := hm
              have hne : k ≠ kx := by
                rintro rfl
                rw [Tr.get_set_same] at hxk
                cases hxk
              have hst2 := step_kill hr1 k (v + 1) (by rw [hxk]; exact Nat.lt_succ_self _) hk2
              have hr2 := (Stps.one hst2).hr hr1
              have hxk0 := hxk
              rw [Tr.get_set_ne _ _ hne] at hxk0
              have hcs := h.hr.chs k
              rw [hxk0] at hcs
              have hcx := h.hr.chs kx
              rw [hxx] at hcx
              simp only [ChR] at hcs hcx
              have hs' : s = e.E k := hvs.2 (by rw [hxk0])
              have hx' : x = e.E kx := hvx.2 (by rw [hxx])
              rw [← hs'] at hcs
              rw [← hx'] at hcx
              have ho2 := ho2.out
              have ho3 : ((l ()).length + 1) * t'.bytes ≤ 140737488355328 := ho3.out
              obtain ⟨hk3, hK⟩ := newRow_wp hm
              rw [show [s, i, x].toArray = #[s, .int .i64 ((n ()).toNat : Int), x] by rw [hi, Int.toNat_of_nonneg ho2.1]]
              refine (ins_core hr2 (key := kb) hf hcs hcx ho1.out (by have := ho2.2; omega) (by rw [Tr.get_set_same]) (by rw [Tr.get_set_ne _ _ (Ne.symm hne), Tr.get_set_same]) hne ho3 hlg hk3).mono ?_
              rintro en w' ⟨v, e', rfl, hst3, hE, h1⟩
              have hall := (Stps.one hst1).trans ((Stps.one hst2).trans (.one hst3))
              exact ⟨v, _, e', _, rfl, hK, hall.rel (tm := σ.tm) (up := σ.up) h, VR_own h1 hE⟩
            · exact hm.elim
          · exact hm.elim
        · exact hm.elim
      · exact hm.elim
    | [], hv => simp only [VRs] at hv
    | [_], hv => simp only [VRs] at hv; exact hv.2.elim
    | [_, _], hv => simp only [VRs] at hv; exact hv.2.2.elim
    | _ :: _ :: _ :: _ :: _, hv => simp only [VRs] at hv; exact hv.2.2.2.elim
  · exact hm.elim

end

end Go.Sx

/-
  Arguments opened: structs of integers and of slices, as cells; how long their lists are; and all of them, if none is too long.
-/
namespace Go.Sx
set_option linter.unusedVariables false

section
variable {H : Type} {ec : TypeId × Value → H} {P : Program} {w : World} {base : Nat} {spare : Nat → Bool} {held : Bool}

/-- Fields one behind the other, from a cell to another. -/
def tilesB (P : Program) : List Field → Nat → Nat → Bool
  | [], o, n => o == n
  | g :: r, o, n => g.offset == o && tilesB P r (o + P.cellsOf g.type) n
theorem tiles_in {P : Program} : ∀ {l : List Field} {o n : Nat}, tilesB P l o n = true → ∀ j, o ≤ j → j < n → ∃ g ∈ l, g.offset ≤ j ∧ j < g.offset + P.cellsOf g.type
  | [], o, n, h, j, h1, h2 => by
    simp only [tilesB, beq_iff_eq] at h
    omega
  | g :: r, o, n, h, j, h1, h2 => by
    simp only [tilesB, Bool.and_eq_true, beq_iff_eq] at h
    by_cases hj : j < o + P.cellsOf g.type
    · exact ⟨g, .head _, by omega, by omega⟩
    · obtain ⟨g', hg, h3, h4⟩ := tiles_in h.2 j (by omega) h2
      exact ⟨g', .tail _ hg, h3, h4⟩

/-- How a list is told if it may be too long. -/
def RT.lk : RT → RT
  | .pcls => .longs
  | .ints => .longs
  | _ => .long
def RT.flatI : RT → Bool
  | .int => true
  | .wlk => true
  | .pcl => true
  | .rcd => true
  | _ => false
def RT.argE (t : RT) : Bool := t.flatI || match t with
  | .pcls => true
  | .ints => true
  | _ => false
def fitK : (k : RT) → List k.ty → Prop
  | .long, l => l.length ≤ 1048576
  | .longs, l => l.length ≤ 1048576 ∧ ∀ x ∈ (l : List (List Unit)), x.length ≤ 1048576
  | _, _ => False

/-- Does a type have such cells? -/
def openB (P : Program) : Nat → TypeId → List (Option RT) → Bool
  | 0, _, _ => false
  | f + 1, t, sh => match P.underlying t with
    | some (.int .i64) => match sh with
      | [none] => true
      | _ => false
    | some (.slice e) => match sh with
      | [some r] => openB P f e r.shape && P.cellsOf e == r.size && r.argE
      | _ => false
    | some (.struct fs) => tilesB P fs.toList 0 (P.cellsOf t) && sh.length == P.cellsOf t && fs.toList.all fun g => openB P f g.type ((sh.drop g.offset).take (P.cellsOf g.type))
    | _ => false

def Sw (w : World) : Nat → Prop := fun b => b < w.heap.size

/-- What a cell of an argument is: a number; or a list, of which the length is known; and all of it, if it isn't too long. -/
def Opened (w : World) (v : Value) : Option RT → Prop
  | none => ∃ n : Int, v = .int .i64 n ∧ -9223372036854775808 ≤ n ∧ n ≤ 9223372036854775807
  | some t => ∃ l : List t.lk.ty, Rep (Sw w) w v (.list t.lk fun _ => l) ∧ (fitK t.lk l → ∃ m : List t.ty, Rep (Sw w) w v (.list t fun _ => m))

theorem Opened.mk {v : Value} {t k : RT} (hk : t.lk = k) (l : List k.ty) (h : Rep (Sw w) w v (.list k fun _ => l)) (hm : fitK k l → ∃ m : List t.ty, Rep (Sw w) w v (.list t fun _ => m)) : Opened w v (some t) := by
  subst hk
  exact ⟨l, h, hm⟩
theorem Opened.out {v : Value} {t k : RT} (hk : t.lk = k) (h : Opened w v (some t)) : ∃ l : List k.ty, Rep (Sw w) w v (.list k fun _ => l) ∧ (fitK k l → ∃ m : List t.ty, Rep (Sw w) w v (.list t fun _ => m)) := by
  subst hk
  exact h
theorem add_plain (b off i : Nat) : (⟨b, off, none⟩ : Addr).add i = ⟨b, off + i, none⟩ := by
  unfold Addr.add
  split
  · rename_i h; subst h; rfl
  · rfl

def ofInts : (t : RT) → (Nat → Int) → t.ty
  | .int, n => n 0
  | .wlk, n => ⟨n 0, n 1, n 2, n 3, n 4⟩
  | .pcl, n => ⟨n 0, n 1, ⟨n 2, n 3, n 4, n 5, n 6⟩, n 7⟩
  | .rcd, n => ⟨n 0, ⟨n 1, n 2, n 3, n 4, n 5⟩, n 6, ⟨n 7, n 8, ⟨n 9, n 10, n 11, n 12, n 13⟩, n 14⟩, n 15⟩
  | t, _ => t.dflt
theorem enc_ofInts (t : RT) (h : t.flatI = true) (n : Nat → Int) : enc t (fun _ => ofInts t n) = (List.range t.size).map fun j => .int .i64 fun _ => n j := by
  cases t <;> first | rfl | cases h
theorem flat_shape (t : RT) (h : t.flatI = true) (j : Nat) (hj : j < t.size) : t.shape[j]? = some none := by
  have : t.shape = List.replicate t.size none := by cases t <;> first | rfl | cases h
  rw [this]
  simp [hj]

theorem cells_get {n : Nat} {a : Addr} {cs : List Value} (h : w.cells? base a n = some cs) : cs.length = n ∧ ∀ j, j < n → w.cell? (a.add j) = cs[j]? := by
  unfold World.cells? at h
  split at h
  · exact ⟨by simpa using mapM_some_length h, fun j hj => mapM_some_get h j j (by simp [hj])⟩
  · cases h

/-- Cells that are there, as a row. -/
theorem row_open {b off len cap : Nat} {cs : Array Value} {T : Nat} {fz : Nat × Nat} (hh : w.heap[b]? = some (.cells cs T fz)) (t : RT) (m : List t.ty) (hlen : m.length = len) (hcap : len ≤ cap) (hL : LenOk t len)
    (hc : ∀ i j, i < len → j < t.size → ∃ v A, cs[off + i * t.size + j]? = some v ∧ celA t m i j = some A ∧ Rep (Sw w) w v A) : Rep (Sw w) w (.slice (some ⟨b, off, none⟩) len cap) (.list t fun _ => m) := by
  subst hlen
  refine .row t (fun _ => m) b off cap cs T fz (fun i j => (cs[off + i * t.size + j]?).getD undef) (fun i j => (celA t m i j).getD (.bool .tt)) (Array.getElem?_eq_some_iff.1 hh).1 hh hcap hL (fun i j hi hj => ?_) fun i j hi hj => ?_
  · obtain ⟨v, A, h1, h2, _⟩ := hc i j hi hj
    simp only [h1, h2, Option.getD_some, and_self]
  · obtain ⟨v, A, h1, h2, h3⟩ := hc i j hi hj
    simp only [h1, h2, Option.getD_some]
    exact h3

theorem LenOk.small {t : RT} {n : Nat} (h : n ≤ 1048576) : LenOk t n := by
  refine ⟨?_, by omega⟩
  have : t.bytes ≤ 200 := by cases t <;> decide
  calc n * t.bytes ≤ 1048576 * 200 := Nat.mul_le_mul h this
    _ ≤ 140737488355328 := by decide
theorem LenOk.long {t : RT} {n : Nat} (ht : t.isLong = true) (h : n ≤ 9223372036854775807) : LenOk t n := by
  refine ⟨?_, h⟩
  have : t.bytes = 0 := by cases t <;> first | rfl | cases ht
  simp [this]

theorem open_slice {a : Addr} {len cap : Nat} {r : RT} (hr : r.argE = true) (hcap : len ≤ cap) (hm : cap ≤ maxLen) (h0 : 0 < len)
    (hE : ∀ i, i < len → ∀ j o, r.shape[j]? = some o → ∃ v, w.cell? ((a.add (i * r.size)).add j) = some v ∧ Opened w v o) : Opened w (.slice (some a) len cap) (some r) := by
  have hsz : 0 < r.size ∧ ∃ o, r.shape[0]? = some o := by cases r <;> first | exact ⟨by decide, _, rfl⟩ | cases hr
  obtain ⟨v0, hv0, _⟩ := hE 0 h0 0 _ hsz.2.choose_spec
  have hsp : a.spot = none ∧ ∃ cs T fz, w.heap[a.block]? = some (.cells cs T fz) := by
    have hv0 : w.cell? a = some v0 := by simpa [Addr.add] using hv0
    unfold World.cell? at hv0
    split at hv0
    · rename_i cs T fz hh
      split at hv0
      · cases hv0
      · rename_i hs
        exact ⟨by simpa using hs, cs, T, fz, hh⟩
    · cases hv0
  obtain ⟨hs, cs, T, fz, hh⟩ := hsp
  obtain ⟨b, off, sp⟩ := a
  simp only at hs hh
  subst hs
  have hE' : ∀ i, i < len → ∀ j o, r.shape[j]? = some o → ∃ v, cs[off + i * r.size + j]? = some v ∧ Opened w v o := fun i hi j o hj => by
    obtain ⟨v, h1, h2⟩ := hE i hi j o hj
    rw [add_plain, add_plain, cell_at hh] at h1
    exact ⟨v, h1, h2⟩
  have hmx : len ≤ 9223372036854775807 := Nat.le_trans hcap hm
  by_cases hf : r.flatI = true
  · have hlk : r.lk = .long := by cases r <;> first | rfl | cases hf
    have hsh : ∀ j, j < r.size → r.shape[j]? = some none := flat_shape r hf
    obtain ⟨n, hn⟩ : ∃ n : Nat → Nat → Int, ∀ i j, i < len → j < r.size → cs[off + i * r.size + j]? = some (.int .i64 (n i j)) ∧ -9223372036854775808 ≤ n i j ∧ n i j ≤ 9223372036854775807 := by
      refine ⟨fun i j => match cs[off + i * r.size + j]? with
        | some (.int .i64 n) => n
        | _ => 0, fun i j hi hj => ?_⟩
      obtain ⟨v, h1, n, rfl, h2, h3⟩ := hE' i hi j none (hsh j hj)
      simp only [h1]
      exact ⟨trivial, h2, h3⟩
    refine Opened.mk hlk (List.replicate len ()) (row_open hh .long _ (by simp) hcap (LenOk.long rfl hmx) fun i j _ hj => (by simp [RT.size] at hj)) fun hfit => ?_
    have hle : len ≤ 1048576 := by simpa [fitK] using hfit
    refine ⟨(List.range len).map fun i => ofInts r (n i), row_open hh r _ (by simp) hcap (LenOk.small hle) fun i j hi hj => ?_⟩
    obtain ⟨h1, h2, h3⟩ := hn i j hi hj
    refine ⟨_, .int .i64 fun _ => n i j, h1, ?_, .int .i64 (fun _ => n i j) h2 h3⟩
    unfold celA
    have : nth r ((List.range len).map fun i => ofInts r (n i)) i = ofInts r (n i) := by simp [nth, List.getD, hi]
    rw [this, enc_ofInts r hf]
    simp [hj]
  · have hone : ∃ t : RT, t.lk = .long ∧ r.shape = [some t] ∧ r.size = 1 ∧ r.lk = .longs ∧ ∃ he : r.ty = List t.ty, ∀ e : Th (List t.ty), enc r (fun _ => he ▸ e ()) = [.list t e] := by
      cases r <;> first | exact ⟨.pcl, rfl, rfl, rfl, rfl, rfl, fun _ => rfl⟩ | exact ⟨.int, rfl, rfl, rfl, rfl, rfl, fun _ => rfl⟩ | exact (hf rfl).elim | cases hr
    obtain ⟨t, htl, hsh, hs1, hrl, he, henc⟩ := hone
    have hcl : ∀ i, i < len → ∃ v, cs[off + i * 1 + 0]? = some v ∧ Opened w v (some t) := fun i hi => by
      obtain ⟨v, h1, h2⟩ := hE' i hi 0 (some t) (by rw [hsh]; rfl)
      rw [hs1] at h1
      exact ⟨v, h1, h2⟩
    have hch : ∃ L : Nat → List Unit, ∀ i, i < len → ∃ v, cs[off + i * 1 + 0]? = some v ∧ Rep (Sw w) w v (.list .long fun _ => L i) ∧ ((L i).length ≤ 1048576 → ∃ m : List t.ty, Rep (Sw w) w v (.list t fun _ => m)) := by
      have : ∀ i, ∃ l : List Unit, i < len → ∃ v, cs[off + i * 1 + 0]? = some v ∧ Rep (Sw w) w v (.list .long fun _ => l) ∧ (l.length ≤ 1048576 → ∃ m : List t.ty, Rep (Sw w) w v (.list t fun _ => m)) := fun i => by
        by_cases hi : i < len
        · obtain ⟨v, h1, ho⟩ := hcl i hi
          obtain ⟨l, h2, h3⟩ := ho.out htl
          exact ⟨l, fun _ => ⟨v, h1, h2, h3⟩⟩
        · exact ⟨[], fun h => (hi h).elim⟩
      exact ⟨fun i => (this i).choose, fun i hi => (this i).choose_spec hi⟩
    obtain ⟨L, hL⟩ := hch
    refine Opened.mk hrl ((List.range len).map L) (row_open hh .longs _ (by simp) hcap (LenOk.long rfl hmx) fun i j hi hj => ?_) fun hfit => ?_
    · obtain rfl : j = 0 := by simp [RT.size] at hj; exact hj
      obtain ⟨v, h1, h2, _⟩ := hL i hi
      refine ⟨v, .list .long fun _ => L i, h1, ?_, h2⟩
      have : nth .longs ((List.range len).map L) i = L i := by simp [nth, List.getD, hi]
      unfold celA
      rw [this]
      rfl
    · obtain ⟨hle, hin⟩ : len ≤ 1048576 ∧ ∀ i, i < len → (L i).length ≤ 1048576 := by
        simp only [fitK, List.length_map, List.length_range] at hfit
        exact ⟨hfit.1, fun i hi => hfit.2 _ (List.mem_map.2 ⟨i, List.mem_range.2 hi, rfl⟩)⟩
      have hch2 : ∃ M : Nat → List t.ty, ∀ i, i < len → ∃ v, cs[off + i * 1 + 0]? = some v ∧ Rep (Sw w) w v (.list t fun _ => M i) := by
        have : ∀ i, ∃ m : List t.ty, i < len → ∃ v, cs[off + i * 1 + 0]? = some v ∧ Rep (Sw w) w v (.list t fun _ => m) := fun i => by
          by_cases hi : i < len
          · obtain ⟨v, h1, _, h3⟩ := hL i hi
            obtain ⟨m, hm⟩ := h3 (hin i hi)
            exact ⟨m, fun _ => ⟨v, h1, hm⟩⟩
          · exact ⟨[], fun h => (hi h).elim⟩
        exact ⟨fun i => (this i).choose, fun i hi => (this i).choose_spec hi⟩
      obtain ⟨M, hM⟩ := hch2
      refine ⟨(List.range len).map fun i => he ▸ M i, row_open hh r _ (by simp) hcap (LenOk.small hle) fun i j hi hj => ?_⟩
      obtain rfl : j = 0 := by omega
      obtain ⟨v, h1, h2⟩ := hM i hi
      refine ⟨v, .list t fun _ => M i, by rw [hs1]; exact h1, ?_, h2⟩
      have : nth r ((List.range len).map fun i => he ▸ M i) i = he ▸ M i := by simp [nth, List.getD, hi]
      unfold celA
      rw [this, henc fun _ => M i]
      rfl

theorem open_cells : ∀ (f : Nat) (T : TypeId) (sh : List (Option RT)) (fuel : Nat) (cs : List Value) (x : DataW H × List MemPlace), openB P f T sh = true → DataW.trod ec P w base spare held fuel T cs = some x →
    cs.length = sh.length ∧ ∀ (j : Nat) (v : Value) (o : Option RT), cs[j]? = some v → sh[j]? = some o → Opened w v o
  | 0, _, _, _, _, _, h, _ => by cases h
  | f + 1, T, sh, fuel, cs, x, h, ht => by
    unfold openB at h
    split at h
    · rename_i hu
      split at h
      · obtain ⟨n, rfl, _, hw⟩ := DataW.trod_int hu ht
        refine ⟨rfl, fun j v o hj ho => ?_⟩
        cases j with
        | zero =>
          simp at hj ho
          subst hj ho
          exact ⟨n, rfl, bounds_i64 hw⟩
        | succ j => simp at hj
      · cases h
    · rename_i e hu
      split at h
      · rename_i r
        simp only [Bool.and_eq_true, beq_iff_eq] at h
        obtain ⟨⟨h1, h2⟩, h3⟩ := h
        rcases DataW.trod_slice hu ht with ⟨rfl, _⟩ | ⟨a, len, cap, elems, rest, n, _, rfl, _, _, hlc, hcm, hel, he, _⟩
        · refine ⟨rfl, fun j v o hj ho => ?_⟩
          cases j with
          | zero =>
            simp at hj ho
            subst hj ho
            exact ⟨[], .nil _ _ rfl, fun _ => ⟨[], .nil _ _ rfl⟩⟩
          | succ j => simp at hj
        · refine ⟨rfl, fun j v o hj ho => ?_⟩
          cases j with
          | succ j => simp at hj
          | zero =>
            simp at hj ho
            subst hj ho
            by_cases h0 : len = 0
            · subst h0
              exact ⟨[], .emp _ _ a cap rfl, fun _ => ⟨[], .emp _ _ a cap rfl⟩⟩
            · refine open_slice h3 hlc hcm (by omega) fun i hi j o hj => ?_
              have hei := he i hi
              rw [List.getElem?_eq_getElem (by omega : i < elems.length), Option.bind_eq_some_iff] at hei
              obtain ⟨ci, hci, hti⟩ := hei
              obtain ⟨g1, g2⟩ := cells_get hci
              obtain ⟨k1, k2⟩ := open_cells f e r.shape n ci _ h1 hti
              have hjl : j < r.shape.length := (List.getElem?_eq_some_iff.1 hj).1
              have hjc : j < ci.length := by omega
              refine ⟨ci[j], ?_, k2 j _ o (List.getElem?_eq_getElem hjc) hj⟩
              rw [← h2, g2 j (by omega)]
              exact List.getElem?_eq_getElem hjc
      · cases h
    · rename_i fs hu
      simp only [Bool.and_eq_true, List.all_eq_true, beq_iff_eq] at h
      obtain ⟨⟨h1, h2⟩, h3⟩ := h
      obtain ⟨xs, n, _, _, hl, hlx, hf⟩ := DataW.trod_struct hu ht
      refine ⟨by omega, fun j v o hj ho => ?_⟩
      have hjl : j < cs.length := (List.getElem?_eq_some_iff.1 hj).1
      obtain ⟨g, hg, g1, g2⟩ := tiles_in h1 j (Nat.zero_le _) (by omega)
      obtain ⟨i, hi, hgi⟩ := List.getElem_of_mem hg
      have hi' : i < fs.size := by simpa using hi
      have hfi := hf i g (by rw [Array.getElem?_eq_getElem hi']; simpa using hgi)
      rw [List.getElem?_eq_getElem (by omega : i < xs.length)] at hfi
      obtain ⟨k1, k2⟩ := open_cells f g.type _ n _ _ (h3 g hg) hfi
      refine k2 (j - g.offset) v o ?_ ?_
      · rw [List.getElem?_take, if_pos (by omega), List.getElem?_drop]
        rw [show g.offset + (j - g.offset) = j from by omega]
        exact hj
      · rw [List.getElem?_take, if_pos (by omega), List.getElem?_drop]
        rw [show g.offset + (j - g.offset) = j from by omega]
        exact ho
    · cases h
end

end Go.Sx

/-
  A law's contract, told of memory: what came in as bytes.
-/
namespace Go.Sx
open Go.RowKit

/-- What is told of bytes that came in: nil; or a row of 'cap' cells (those behind the first 'len' are spare). -/
def IsRow (k : IntKind) (w : World) (a : Option Addr) (len cap : Nat) (zs : List Int) : Prop :=
  (a = none ∧ len = 0 ∧ cap = 0 ∧ zs = []) ∨
  ∃ x, a = some x ∧ len ≤ cap ∧ cap ≤ maxLen ∧ zs.length = cap ∧ (∀ i, i < zs.length → w.cell? (x.add i) = some (.int k (zs.getD i 0))) ∧ ∀ n ∈ zs, (Lit.int k n).wf = true

def S0 (w : World) : Nat → Prop := fun b => b < w.heap.size

theorem addr_eta {x : Addr} (h : x.spot = none) : x = ⟨x.block, x.off, none⟩ := by cases x; cases h; rfl

theorem IsRow.rep {w : World} {a : Option Addr} {len cap : Nat} {zs : List Int} (h : IsRow .u8 w a len cap zs) (hlen : len ≤ 140737488355328) : Rep (S0 w) w (.slice a len cap) (.list .byte fun _ => zs.take len) := by
  rcases h with ⟨rfl, rfl, rfl, rfl⟩ | ⟨x, rfl, h1, h2, h3, h4, h5⟩
  · exact .nil .byte _ rfl
  · rcases Nat.eq_zero_or_pos len with h0 | h0
    · subst h0
      exact .emp .byte _ x cap (by simp)
    · have hc0 := h4 0 (by omega)
      have hsp : x.spot = none ∧ ∃ cs T fz, w.heap[x.block]? = some (.cells cs T fz) := by
        unfold World.cell? at hc0
        simp only [Addr.add, if_true] at hc0
        split at hc0
        · rename_i cs T fz hh
          split at hc0
          · cases hc0
          · rename_i hs
            exact ⟨by simpa using hs, cs, T, fz, hh⟩
        · cases hc0
      obtain ⟨hs, cs, T, fz, hh⟩ := hsp
      have hx := addr_eta hs
      have hl : (zs.take len).length = len := by rw [List.length_take]; omega
      have hcell : ∀ i, i < len → cs[x.off + i]? = some (.int .u8 (zs.getD i 0)) := fun i hi => by
        have := h4 i (by omega)
        rw [hx, addr_add, cell_at hh] at this
        exact this
      have hnth : ∀ i, i < len → nth .byte (zs.take len) i = zs.getD i 0 := fun i hi => by
        simp [nth, List.getD, List.getElem?_take, hi, RT.dflt]
      have hr := Rep.row (S := S0 w) (w := w) .byte (fun _ => zs.take len) x.block x.off cap cs T fz (fun i _ => .int .u8 (zs.getD i 0)) (fun i _ => .int .u8 fun _ => nth .byte (zs.take len) i)
        (Array.getElem?_eq_some_iff.1 hh).1 hh (by rw [hl]; exact h1) (by rw [hl]; exact LenOk.of (by simpa [RT.bytes] using hlen) rfl)
        (fun i j hi hj => by
          rw [hl] at hi
          have hj0 : j = 0 := by
            have : RT.size .byte = 1 := rfl
            omega
          subst hj0
          refine ⟨rfl, ?_⟩
          have := hcell i hi
          simpa [RT.size] using this)
        (fun i j hi hj => by
          rw [hl] at hi
          have hw := h5 (zs.getD i 0) (by
            rw [List.getD_eq_getElem?_getD, List.getElem?_eq_getElem (by omega : i < zs.length)]
            exact List.getElem_mem _)
          have hn := hnth i hi
          rw [← hn] at hw ⊢
          refine .int .u8 (fun _ => nth .byte (zs.take len) i) ?_ ?_
          · simp [Lit.wf] at hw
            exact hw.1
          · simp [Lit.wf] at hw
            exact hw.2)
      rw [hl, ← hx] at hr
      exact hr

theorem law_end {B : Base} {K : V → St → Prop} {en : Ending} {w w' : World} (hB : B.w0 = w) (ho : B.om0 = fun _ => none) (hK : ∀ v σ, K v σ → v = .one (.att (.bool (.of fun _ => true)))) (h : CallPost B K #[] en w') : en = .returned (.bool true) ∧ Below w.heap.size w w' := by
  obtain ⟨v, x, e', σ', rfl, hk, hr, hv⟩ := h
  rw [hK _ _ hk] at hv
  simp only [VR, CR] at hv
  have hvv := hv.1
  cases hvv with
  | bool b =>
    refine ⟨rfl, ?_⟩
    have hf := hr.fr
    subst hB
    exact ⟨hf.os, hf.tape, hf.output, hf.size, fun k hk => (hf.old k hk (by rw [ho])).1⟩

theorem law2 {P : Program} {f : Nat} (h : ∀ L kb, ClOk P fun _ f' args σ K => f' = f ∧ (callX (.sp ⟨false, true, [.list .byte, .list .byte], [], fun _ _ _ => .ret (.one (.att (.bool (.of fun _ => true))), fun _ => 0)⟩) kb args).wp L σ.hp fun v hp => K v ⟨σ.tm, hp, σ.up⟩)
    {w : World} {a0 a1 : Option Addr} {l0 c0 l1 c1 : Nat} {z0 z1 : List Int} (w0 : IsRow .u8 w a0 l0 c0 z0) (w1 : IsRow .u8 w a1 l1 c1 z1) (h0 : l0 ≤ 140737488355328) (h1 : l1 ≤ 140737488355328) :
    Calls P f #[.slice a0 l0 c0, .slice a1 l1 c1] w fun e w' => e = .returned (.bool true) ∧ Below w.heap.size w w' := by
  obtain ⟨hr, hf⟩ := ro_entry (w := w) (S := S0 w) fun b hb => hb
  have hrep0 := w0.rep h0
  have hrep1 := w1.rep h1
  refine ((h ⟨[], []⟩ 0 0 f [.one (.att (.list .byte fun _ => z0.take l0)), .one (.att (.list .byte fun _ => z1.take l1))] ⟨.leaf, .leaf, []⟩ (fun v _ => v = .one (.att (.bool (.of fun _ => true)))) ⟨rfl, ?_⟩).2
    ⟨w, S0 w, fun _ => none, fun _ => none, []⟩ ⟨S0 w, fun _ => none, fun _ => undef⟩ w #[] [.slice a0 l0 c0, .slice a1 l1 c1] ⟨hr, hf, trivial, fun t => ?_⟩ ?_).mono fun en w' hp => law_end (B := ⟨w, S0 w, fun _ => none, fun _ => none, []⟩) rfl rfl (fun v σ hh => hh) hp
  · exact rfl
  · simp only [VR, CR]
    exact ⟨trivial, trivial⟩
  · simp only [VRs, VR, CR]
    exact ⟨⟨hrep0, OneIf.of_one rfl⟩, ⟨hrep1, OneIf.of_one rfl⟩, trivial⟩

theorem law1 {P : Program} {f : Nat} (h : ∀ L kb, ClOk P fun _ f' args σ K => f' = f ∧ (callX (.sp ⟨false, true, [.list .byte], [], fun _ _ _ => .ret (.one (.att (.bool (.of fun _ => true))), fun _ => 0)⟩) kb args).wp L σ.hp fun v hp => K v ⟨σ.tm, hp, σ.up⟩)
    {w : World} {a0 : Option Addr} {l0 c0 : Nat} {z0 : List Int} (w0 : IsRow .u8 w a0 l0 c0 z0) (h0 : l0 ≤ 140737488355328) :
    Calls P f #[.slice a0 l0 c0] w fun e w' => e = .returned (.bool true) ∧ Below w.heap.size w w' := by
  obtain ⟨hr, hf⟩ := ro_entry (w := w) (S := S0 w) fun b hb => hb
  have hrep0 := w0.rep h0
  refine ((h ⟨[], []⟩ 0 0 f [.one (.att (.list .byte fun _ => z0.take l0))] ⟨.leaf, .leaf, []⟩ (fun v _ => v = .one (.att (.bool (.of fun _ => true)))) ⟨rfl, ?_⟩).2
    ⟨w, S0 w, fun _ => none, fun _ => none, []⟩ ⟨S0 w, fun _ => none, fun _ => undef⟩ w #[] [.slice a0 l0 c0] ⟨hr, hf, trivial, fun t => ?_⟩ ?_).mono fun en w' hp => law_end (B := ⟨w, S0 w, fun _ => none, fun _ => none, []⟩) rfl rfl (fun v σ hh => hh) hp
  · exact rfl
  · simp only [VR, CR]
    exact ⟨trivial, trivial⟩
  · simp only [VRs, VR, CR]
    exact ⟨⟨hrep0, OneIf.of_one rfl⟩, trivial⟩

end Go.Sx
