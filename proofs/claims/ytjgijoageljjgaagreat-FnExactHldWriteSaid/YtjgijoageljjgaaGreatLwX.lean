/-
  A law's contract, told of memory: what came in as structs, with lists of any length.
-/
import Derived.Test.YtjgijoageljjgaaGreatS5
import Derived.WideShapes
set_option linter.unusedVariables false
set_option linter.unusedSimpArgs false
namespace Go.Sx
open Go.RowKit Go.WideShapes
set_option linter.unusedVariables false

/-! ## What came in -/
def fitC (c : LCll) : Prop := fitK .long c.wlks ∧ fitK .longs c.outs ∧ fitK .long c.next ∧ fitK .long c.ins
def fitS (s : LSto) : Prop := fitC s.base ∧ fitK .long s.recs
def fitH (h : LHld) : Prop := fitC h.state

theorem Opened.int {w : World} {v : Value} (h : Opened w v none) : ∃ n : Int, Rep (Sw w) w v (.int .i64 fun _ => n) := by
  obtain ⟨n, rfl, h1, h2⟩ := h
  exact ⟨n, .int .i64 (fun _ => n) h1 h2⟩

theorem open_cll {w : World} {v0 v1 v2 v3 v4 v5 : Value} (o0 : Opened w v0 none) (o1 : Opened w v1 (some .wlk)) (o2 : Opened w v2 none) (o3 : Opened w v3 (some .pcls)) (o4 : Opened w v4 (some .int)) (o5 : Opened w v5 (some .int)) :
    ∃ c : LCll, InA (Sw w) w [v0, v1, v2, v3, v4, v5] (encLCll fun _ => c) ∧ (fitC c → ∃ x : Cll, InA (Sw w) w [v0, v1, v2, v3, v4, v5] (encCll fun _ => x)) := by
  obtain ⟨n0, r0⟩ := o0.int
  obtain ⟨l1, r1, f1⟩ := o1.out (k := .long) rfl
  obtain ⟨n2, r2⟩ := o2.int
  obtain ⟨l3, r3, f3⟩ := o3.out (k := .longs) rfl
  obtain ⟨l4, r4, f4⟩ := o4.out (k := .long) rfl
  obtain ⟨l5, r5, f5⟩ := o5.out (k := .long) rfl
  refine ⟨⟨n0, l1, n2, l3, l4, l5⟩, ⟨⟨r0, r0.one⟩, ⟨r1, r1.one⟩, ⟨r2, r2.one⟩, ⟨r3, r3.one⟩, ⟨r4, r4.one⟩, ⟨r5, r5.one⟩, trivial⟩, fun ⟨g1, g2, g3, g4⟩ => ?_⟩
  obtain ⟨m1, k1⟩ := f1 g1
  obtain ⟨m3, k3⟩ := f3 g2
  obtain ⟨m4, k4⟩ := f4 g3
  obtain ⟨m5, k5⟩ := f5 g4
  exact ⟨⟨n0, m1, n2, m3, m4, m5⟩, ⟨r0, r0.one⟩, ⟨k1, k1.one⟩, ⟨r2, r2.one⟩, ⟨k3, k3.one⟩, ⟨k4, k4.one⟩, ⟨k5, k5.one⟩, trivial⟩

section
variable {H : Type} {ec : TypeId × Value → H} {P : Program} {w : World} {base : Nat} {spare : Nat → Bool} {held : Bool} {T : TypeId} {v : Value} {d : DataW H} {ps : List MemPlace} {r : Reach} {b0 : Nat}

theorem arg_cells {fs : Array Field} {sh : List (Option RT)} (hu : P.underlying T = some (.struct fs)) (hO : openB P 8 T sh = true) (hv : Value.okWide P w r b0 T v) (h : DataW.Trod ec P w base spare held T v d ps) :
    ∃ arr : Array Value, v = .agg arr ∧ arr.toList.length = sh.length ∧ ∀ (j : Nat) (u : Value) (o : Option RT), arr.toList[j]? = some u → sh[j]? = some o → Opened w u o := by
  obtain ⟨cs, rfl, _⟩ := okWide_struct hu hv
  obtain ⟨fuel, hf⟩ := h
  obtain ⟨h1, h2⟩ := open_cells 8 T sh fuel _ _ hO hf
  exact ⟨cs, rfl, h1, h2⟩

theorem arg_cll {fs : Array Field} (hu : P.underlying T = some (.struct fs)) (hO : openB P 8 T nCll = true) (hv : Value.okWide P w r b0 T v) (h : DataW.Trod ec P w base spare held T v d ps) :
    ∃ c : LCll, InV (Sw w) w v (.row .lcll) (fun _ => c) ∧ (fitC c → ∃ x : Cll, InV (Sw w) w v (.row .cll) fun _ => x) := by
  obtain ⟨arr, rfl, hl, ho⟩ := arg_cells hu hO hv h
  match hc : arr.toList, hl with
  | [v0, v1, v2, v3, v4, v5], _ =>
    rw [hc] at ho
    obtain ⟨c, h1, h2⟩ := open_cll (ho 0 v0 _ rfl rfl) (ho 1 v1 _ rfl rfl) (ho 2 v2 _ rfl rfl) (ho 3 v3 _ rfl rfl) (ho 4 v4 _ rfl rfl) (ho 5 v5 _ rfl rfl)
    refine ⟨c, ⟨arr, rfl, by rw [hc]; exact h1⟩, fun hf => ?_⟩
    obtain ⟨x, hx⟩ := h2 hf
    exact ⟨x, arr, rfl, by rw [hc]; exact hx⟩
theorem arg_sto {fs : Array Field} (hu : P.underlying T = some (.struct fs)) (hO : openB P 8 T nSto = true) (hv : Value.okWide P w r b0 T v) (h : DataW.Trod ec P w base spare held T v d ps) :
    ∃ c : LSto, InV (Sw w) w v (.row .lsto) (fun _ => c) ∧ (fitS c → ∃ x : Sto, InV (Sw w) w v (.row .sto) fun _ => x) := by
  obtain ⟨arr, rfl, hl, ho⟩ := arg_cells hu hO hv h
  match hc : arr.toList, hl with
  | [va, v0, v1, v2, v3, v4, v5, vr], _ =>
    rw [hc] at ho
    obtain ⟨c, h1, h2⟩ := open_cll (ho 1 v0 _ rfl rfl) (ho 2 v1 _ rfl rfl) (ho 3 v2 _ rfl rfl) (ho 4 v3 _ rfl rfl) (ho 5 v4 _ rfl rfl) (ho 6 v5 _ rfl rfl)
    obtain ⟨na, ra⟩ := (ho 0 va _ rfl rfl).int
    obtain ⟨lr, rr, fr⟩ := (ho 7 vr (some .rcd) rfl rfl).out (k := .long) rfl
    obtain ⟨i0, i1, i2, i3, i4, i5, _⟩ := h1
    refine ⟨⟨na, c, lr⟩, ⟨arr, rfl, by rw [hc]; exact ⟨⟨ra, ra.one⟩, i0, i1, i2, i3, i4, i5, ⟨rr, rr.one⟩, trivial⟩⟩, fun hf => ?_⟩
    obtain ⟨x, j0, j1, j2, j3, j4, j5, _⟩ := h2 hf.1
    obtain ⟨mr, kr⟩ := fr hf.2
    exact ⟨⟨na, x, mr⟩, arr, rfl, by rw [hc]; exact ⟨⟨ra, ra.one⟩, j0, j1, j2, j3, j4, j5, ⟨kr, kr.one⟩, trivial⟩⟩
theorem arg_hld {fs : Array Field} (hu : P.underlying T = some (.struct fs)) (hO : openB P 8 T nHld = true) (hv : Value.okWide P w r b0 T v) (h : DataW.Trod ec P w base spare held T v d ps) :
    ∃ c : LHld, InV (Sw w) w v (.row .lhld) (fun _ => c) ∧ (fitH c → ∃ x : Hld, InV (Sw w) w v (.row .hld) fun _ => x) := by
  obtain ⟨arr, rfl, hl, ho⟩ := arg_cells hu hO hv h
  match hc : arr.toList, hl with
  | [va, vb, v0, v1, v2, v3, v4, v5], _ =>
    rw [hc] at ho
    obtain ⟨c, h1, h2⟩ := open_cll (ho 2 v0 _ rfl rfl) (ho 3 v1 _ rfl rfl) (ho 4 v2 _ rfl rfl) (ho 5 v3 _ rfl rfl) (ho 6 v4 _ rfl rfl) (ho 7 v5 _ rfl rfl)
    obtain ⟨na, ra⟩ := (ho 0 va _ rfl rfl).int
    obtain ⟨nb, rb⟩ := (ho 1 vb _ rfl rfl).int
    obtain ⟨i0, i1, i2, i3, i4, i5, _⟩ := h1
    refine ⟨⟨na, nb, c⟩, ⟨arr, rfl, by rw [hc]; exact ⟨⟨ra, ra.one⟩, ⟨rb, rb.one⟩, i0, i1, i2, i3, i4, i5, trivial⟩⟩, fun hf => ?_⟩
    obtain ⟨x, j0, j1, j2, j3, j4, j5, _⟩ := h2 hf
    exact ⟨⟨na, nb, x⟩, arr, rfl, by rw [hc]; exact ⟨⟨ra, ra.one⟩, ⟨rb, rb.one⟩, j0, j1, j2, j3, j4, j5, trivial⟩⟩
theorem arg_map {fs : Array Field} (hu : P.underlying T = some (.struct fs)) (hO : openB P 8 T [none, none] = true) (hv : Value.okWide P w r b0 T v) (h : DataW.Trod ec P w base spare held T v d ps) :
    ∃ m : PMap, InV (Sw w) w v .map fun _ => m := by
  obtain ⟨arr, rfl, hl, ho⟩ := arg_cells hu hO hv h
  match hc : arr.toList, hl with
  | [v0, v1], _ =>
    rw [hc] at ho
    obtain ⟨n0, r0⟩ := (ho 0 v0 _ rfl rfl).int
    obtain ⟨n1, r1⟩ := (ho 1 v1 _ rfl rfl).int
    exact ⟨⟨n0, n1⟩, arr, rfl, by rw [hc]; exact ⟨⟨r0, r0.one⟩, ⟨r1, r1.one⟩, trivial⟩⟩
theorem arg_rcd {fs : Array Field} (hu : P.underlying T = some (.struct fs)) (hO : openB P 8 T (RT.shape .rcd) = true) (hv : Value.okWide P w r b0 T v) (h : DataW.Trod ec P w base spare held T v d ps) :
    ∃ x : Rec, InV (Sw w) w v (.row .rcd) fun _ => x := by
  obtain ⟨arr, rfl, hl, ho⟩ := arg_cells hu hO hv h
  match hc : arr.toList, hl with
  | [v0, v1, v2, v3, v4, v5, v6, v7, v8, v9, v10, v11, v12, v13, v14, v15], _ =>
    rw [hc] at ho
    obtain ⟨n0, r0⟩ := (ho 0 v0 _ rfl rfl).int
    obtain ⟨n1, r1⟩ := (ho 1 v1 _ rfl rfl).int
    obtain ⟨n2, r2⟩ := (ho 2 v2 _ rfl rfl).int
    obtain ⟨n3, r3⟩ := (ho 3 v3 _ rfl rfl).int
    obtain ⟨n4, r4⟩ := (ho 4 v4 _ rfl rfl).int
    obtain ⟨n5, r5⟩ := (ho 5 v5 _ rfl rfl).int
    obtain ⟨n6, r6⟩ := (ho 6 v6 _ rfl rfl).int
    obtain ⟨n7, r7⟩ := (ho 7 v7 _ rfl rfl).int
    obtain ⟨n8, r8⟩ := (ho 8 v8 _ rfl rfl).int
    obtain ⟨n9, r9⟩ := (ho 9 v9 _ rfl rfl).int
    obtain ⟨n10, r10⟩ := (ho 10 v10 _ rfl rfl).int
    obtain ⟨n11, r11⟩ := (ho 11 v11 _ rfl rfl).int
    obtain ⟨n12, r12⟩ := (ho 12 v12 _ rfl rfl).int
    obtain ⟨n13, r13⟩ := (ho 13 v13 _ rfl rfl).int
    obtain ⟨n14, r14⟩ := (ho 14 v14 _ rfl rfl).int
    obtain ⟨n15, r15⟩ := (ho 15 v15 _ rfl rfl).int
    exact ⟨⟨n0, ⟨n1, n2, n3, n4, n5⟩, n6, ⟨n7, n8, ⟨n9, n10, n11, n12, n13⟩, n14⟩, n15⟩, arr, rfl, by
      rw [hc]
      exact ⟨⟨r0, r0.one⟩, ⟨r1, r1.one⟩, ⟨r2, r2.one⟩, ⟨r3, r3.one⟩, ⟨r4, r4.one⟩, ⟨r5, r5.one⟩, ⟨r6, r6.one⟩, ⟨r7, r7.one⟩, ⟨r8, r8.one⟩, ⟨r9, r9.one⟩, ⟨r10, r10.one⟩, ⟨r11, r11.one⟩, ⟨r12, r12.one⟩, ⟨r13, r13.one⟩, ⟨r14, r14.one⟩, ⟨r15, r15.one⟩, trivial⟩⟩
theorem arg_int (hu : P.underlying T = some (.int .i64)) (hv : Value.okWide P w r b0 T v) (h : DataW.Trod ec P w base spare held T v d ps) : ∃ n : Int, InV (Sw w) w v (.int .i64) fun _ => n := by
  obtain ⟨n, rfl⟩ := okWide_int hu hv
  obtain ⟨fuel, hf⟩ := h
  obtain ⟨n', hc, _, hw⟩ := DataW.trod_int hu hf
  simp [Value.cells] at hc
  subst hc
  have hb := bounds_i64 hw
  exact ⟨n, ⟨.int .i64 (fun _ => n) hb.1 hb.2, rfl⟩, trivial⟩
theorem arg_list {E : TypeId} {t : RT} (ht : t.lk = .long) (hu : P.underlying T = some (.slice E)) (hO : openB P 8 T [some t] = true) (hv : Value.okWide P w r b0 T v) (h : DataW.Trod ec P w base spare held T v d ps) :
    ∃ l : List Unit, InV (Sw w) w v (.list .long) (fun _ => l) ∧ (fitK .long l → ∃ x : List t.ty, InV (Sw w) w v (.list t) fun _ => x) := by
  obtain ⟨a, len, cap, rfl⟩ := okWide_slice hu hv
  obtain ⟨fuel, hf⟩ := h
  obtain ⟨_, h2⟩ := open_cells 8 T [some t] fuel _ _ hO hf
  obtain ⟨l, h3, h4⟩ := (h2 0 _ (some t) rfl rfl).out ht
  refine ⟨l, ⟨⟨h3, h3.one⟩, trivial⟩, fun hfit => ?_⟩
  obtain ⟨m, hm⟩ := h4 hfit
  exact ⟨m, ⟨⟨hm, hm.one⟩, trivial⟩⟩
end

/-! ## A law, called -/
theorem lendAs_at {L : Locks} {hp : Hp} : ∀ (l : List A) (s : List (Option RT)) (K : List A → Hp → Prop), K l hp → (lendAs s (l.map C.att)).wp L hp K
  | [], s, K, h => by cases s <;> exact h
  | a :: l, [], K, h => by
    simp only [List.map_cons, lendAs, lendA, M.bind]
    rw [M.wp_bind]
    exact lendAs_at l [] _ h
  | a :: l, o :: s, K, h => by
    simp only [List.map_cons, lendAs, lendA, M.bind]
    rw [M.wp_bind]
    exact lendAs_at l s _ h
theorem decA_encA (p : PT) (e : Th p.ty) : p.decA (p.encA e) = some e := by
  cases p with
  | row t => cases t <;> rfl
  | int k => simp [PT.decA, PT.encA]
  | list t => simp [PT.decA, PT.encA]
  | _ => rfl
theorem lendP_enc {L : Locks} {hp : Hp} (p : PT) (e : Th p.ty) {K : Th p.ty → Hp → Prop} (h : K e hp) : (lendP p (p.enc e)).wp L hp K := by
  have hone : p.isAgg = false → ∃ a, p.encA e = [a] := by cases p <;> intro h <;> first | exact ⟨_, rfl⟩ | cases h
  unfold lendP PT.enc
  cases hp' : p.isAgg with
  | true =>
    simp only [V.isTup, V.isAgg, V.cells, if_true, Bool.false_eq_true, if_false]
    rw [M.wp_bind]
    refine lendAs_at _ _ _ ?_
    rw [decA_encA]
    exact h
  | false =>
    obtain ⟨a, ha⟩ := hone hp'
    simp only [ha, List.map_cons, List.map_nil, V.isTup, V.isAgg, V.cells, if_true, Bool.false_eq_true, if_false]
    rw [M.wp_bind]
    refine lendAs_at [a] _ _ ?_
    have := decA_encA p e
    rw [ha] at this
    rw [this]
    exact h
theorem lendVs_enc {L : Locks} {hp : Hp} : ∀ (ps : List PT) (x : Args ps) (K : Args ps → Hp → Prop), K x hp → (lendVs ps (encArgs ps x)).wp L hp K
  | [], _, K, h => h
  | p :: ps, x, K, h => by
    simp only [encArgs, lendVs]
    rw [M.wp_bind]
    refine lendP_enc p x.1 ?_
    rw [M.wp_bind]
    exact lendVs_enc ps x.2 _ h

theorem lawN {P : Program} {f : Nat} {ps : List PT} {pre : Args ps → Prop} (h : SpecOk1 P f (.sp ⟨false, true, ps, [], fun _ _ x => .asrt (fun _ => pre x) (.ret (.one (.att (.bool (.of fun _ => true))), fun _ => 0))⟩))
    {w : World} {vs : List Value} {x : Args ps} (hv : InVs (Sw w) w vs ps x) (hp : pre x) : Calls P f vs.toArray w fun e w' => e = .returned (.bool true) ∧ Below w.heap.size w w' := by
  obtain ⟨hr, hf⟩ := ro_entry (w := w) (S := Sw w) fun b hb => hb
  refine ((h ⟨[], []⟩ 0 0 f (encArgs ps x) ⟨.leaf, .leaf, []⟩ (fun v _ => v = .one (.att (.bool (.of fun _ => true)))) ⟨rfl, ?_⟩).2
    ⟨w, Sw w, fun _ => none, fun _ => none, []⟩ ⟨Sw w, fun _ => none, fun _ => undef⟩ w #[] vs ⟨hr, hf, trivial, fun t => ?_⟩ ?_).mono fun en w' hp => law_end (B := ⟨w, Sw w, fun _ => none, fun _ => none, []⟩) rfl rfl (fun v σ hh => hh) hp
  · simp only [callX, callM]
    rw [M.wp_bind]
    refine lendVs_enc ps x _ ?_
    exact ⟨⟨hp⟩, rfl⟩
  · simp only [VR, CR]
    exact ⟨trivial, trivial⟩
  · exact hv.VRs fun b hb => hb

end Go.Sx
