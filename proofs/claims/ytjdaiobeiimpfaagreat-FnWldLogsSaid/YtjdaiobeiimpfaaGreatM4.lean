/-
  Plain models: the one world.
-/
import Derived.Test.YtjdaiobeiimpfaaGreatM2
import Derived.Test.YtjdaiobeiimpfaaGreatS5
import Derived.Test.YtjdaiobeiimpfaaGreatM3
set_option linter.unusedVariables false
set_option linter.unusedSimpArgs false
namespace Go.Mo
open Go.Sx
def owAt (m : PMap) (l : List OW) (i : Nat) : Bool := wlkOk m (nth .ow l i).wlk && (decide (i = 0) || decide ((nth .ow l (i - 1)).wlk.id < (nth .ow l i).wlk.id))
def oneHead (o : One) : Bool := decide (plcOk o.map = true ∧ (o.ground.length : Int) = o.map.cells ∧ (o.air.length : Int) = o.map.cells)
def purse (o : One) (i : Nat) : Bool := decide (0 ≤ nth .int o.ground i ∧ nth .int o.ground i ≤ 900 ∧ (nth .ints o.air i).length = 2 ∧ 0 ≤ nth .int (nth .ints o.air i) 0 ∧ nth .int (nth .ints o.air i) 0 ≤ 100000 ∧ 0 ≤ nth .int (nth .ints o.air i) 1 ∧ nth .int (nth .ints o.air i) 1 ≤ 100000)
def purses (o : One) : Bool := allTo o.ground.length (purse o)
def oneOk (o : One) : Bool := oneHead o && purses o && allTo o.wlks.length (owAt o.map o.wlks)
theorem oneHead_iff {o : One} : oneHead o = true ↔ plcOk o.map = true ∧ (o.ground.length : Int) = o.map.cells ∧ (o.air.length : Int) = o.map.cells := by simp [oneHead]
theorem oneOk_iff {o : One} : oneOk o = true ↔ oneHead o = true ∧ purses o = true ∧ allTo o.wlks.length (owAt o.map o.wlks) = true := by simp [oneOk, and_assoc]
def isOw (id : Int) (x : OW) : Bool := decide (x.wlk.id = id)
def owPlace (l : List OW) (id : Int) : Int := idx (isOw id) l
structure OC where
 o : One
 code : Int
def oSet (o : One) (k : Nat) (x : OW) (g : List Int) (a : List (List Int)) : One := ⟨o.map, o.wlks.set k x, g, a⟩
def oFin (o : One) (k : Nat) (w : Wlk) (seq : Int) (here : Bool) (g : List Int) (a : List (List Int)) (code : Int) : OC := ⟨oSet o k ⟨⟨w.id, w.pos, w.coins, seq, code⟩, here⟩ g a, code⟩
def airAdd (a : List (List Int)) (d s : Int) (n : Int) : List (List Int) := a.set d.toNat ((nth .ints a d.toNat).set s.toNat (nth .int (nth .ints a d.toNat) s.toNat + n))
def oStep (o : One) (k : Nat) (w : Wlk) (r : Ord) : OC :=
 if plcCell o.map (w.pos + (2 * r.dest - 1)) = -1 then oFin o k w r.seq true o.ground o.air 2
 else oFin o k ⟨w.id, w.pos + (2 * r.dest - 1), w.coins, w.seq, w.last⟩ r.seq (decide (plcCell o.map (w.pos + (2 * r.dest - 1)) = plcCell o.map w.pos)) o.ground o.air 1
def oGive (o : One) (k : Nat) (w : Wlk) (r : Ord) : OC :=
 let j := owPlace o.wlks r.dest
 let v := nth .ow o.wlks j.toNat
 if ¬ (0 ≤ j ∧ v.here = true ∧ plcCell o.map v.wlk.pos = plcCell o.map w.pos) then oFin o k w r.seq true o.ground o.air 4
 else if w.coins < r.n then oFin o k w r.seq true o.ground o.air 3
 else if 99 < v.wlk.coins + r.n then oFin o k w r.seq true o.ground o.air 5
 else ⟨⟨o.map, (o.wlks.set k ⟨⟨w.id, w.pos, w.coins - r.n, r.seq, 1⟩, true⟩).set j.toNat ⟨⟨v.wlk.id, v.wlk.pos, v.wlk.coins + r.n, v.wlk.seq, v.wlk.last⟩, v.here⟩, o.ground, o.air⟩, 1⟩
def oDrop (o : One) (k : Nat) (w : Wlk) (r : Ord) : OC :=
 let c := (plcCell o.map w.pos).toNat
 if w.coins < r.n then oFin o k w r.seq true o.ground o.air 3
 else if 900 < nth .int o.ground c + r.n then oFin o k w r.seq true o.ground o.air 5
 else oFin o k ⟨w.id, w.pos, w.coins - r.n, w.seq, w.last⟩ r.seq true (o.ground.set c (nth .int o.ground c + r.n)) o.air 1
def oPick (o : One) (k : Nat) (w : Wlk) (r : Ord) : OC :=
 let c := (plcCell o.map w.pos).toNat
 if nth .int o.ground c < r.n then oFin o k w r.seq true o.ground o.air 6
 else if 99 < w.coins + r.n then oFin o k w r.seq true o.ground o.air 5
 else oFin o k ⟨w.id, w.pos, w.coins + r.n, w.seq, w.last⟩ r.seq true (o.ground.set c (nth .int o.ground c - r.n)) o.air 1
def oThrow (o : One) (k : Nat) (w : Wlk) (r : Ord) : OC :=
 let d := plcSide o.map (plcCell o.map w.pos) r.dest
 if plcEdge o.map w.pos r.dest = false then oFin o k w r.seq true o.ground o.air 7
 else if w.coins < r.n then oFin o k w r.seq true o.ground o.air 3
 else if 100000 < nth .int (nth .ints o.air d.toNat) (1 - r.dest).toNat + r.n then oFin o k w r.seq true o.ground o.air 5
 else oFin o k ⟨w.id, w.pos, w.coins - r.n, w.seq, w.last⟩ r.seq true o.ground (airAdd o.air d (1 - r.dest) r.n) 1
def oKind (o : One) (k : Nat) (w : Wlk) (r : Ord) : OC :=
 if r.kind = 1 then oStep o k w r
 else if r.kind = 2 then oGive o k w r
 else if r.kind = 3 then oDrop o k w r
 else if r.kind = 4 then oPick o k w r
 else if r.kind = 5 then oThrow o k w r
 else oFin o k w r.seq true o.ground o.air 1
def oneDo (o : One) (r : Ord) : OC :=
 let k := owPlace o.wlks r.who
 let x := nth .ow o.wlks k.toNat
 if ¬ (0 ≤ k ∧ x.here = true) then ⟨o, 9⟩
 else if r.seq < x.wlk.seq then ⟨o, 8⟩
 else if r.seq = x.wlk.seq then ⟨o, x.wlk.last⟩
 else oKind o k.toNat x.wlk r
def oneLand (o : One) (id : Int) : One := if 0 ≤ owPlace o.wlks id then ⟨o.map, o.wlks.set (owPlace o.wlks id).toNat ⟨(nth .ow o.wlks (owPlace o.wlks id).toNat).wlk, true⟩, o.ground, o.air⟩ else o
def oneDown (o : One) (c s n : Int) : One :=
 if 0 ≤ c ∧ c < o.map.cells ∧ (s = 0 ∨ s = 1) ∧ 1 ≤ n ∧ n ≤ nth .int (nth .ints o.air c.toNat) s.toNat ∧ nth .int o.ground c.toNat + n ≤ 900 then
  ⟨o.map, o.wlks, o.ground.set c.toNat (nth .int o.ground c.toNat + n), o.air.set c.toNat ((nth .ints o.air c.toNat).set s.toNat (nth .int (nth .ints o.air c.toNat) s.toNat - n))⟩
 else o
def owSum (l : List OW) : Nat → Int
 | 0 => 0
 | k + 1 => owSum l k + (nth .ow l k).wlk.coins
def gaSum (o : One) : Nat → Int
 | 0 => 0
 | k + 1 => gaSum o k + (nth .int o.ground k + nth .int (nth .ints o.air k) 0 + nth .int (nth .ints o.air k) 1)
def oneCoins (o : One) : Int := if oneOk o = true then owSum o.wlks o.wlks.length + gaSum o o.ground.length else 0
theorem owSum_zero (l : List OW) : owSum l 0 = 0 := rfl
theorem owSum_succ (l : List OW) (k : Nat) : owSum l (k + 1) = owSum l k + (nth .ow l k).wlk.coins := rfl
theorem gaSum_zero (o : One) : gaSum o 0 = 0 := rfl
theorem gaSum_succ (o : One) (k : Nat) : gaSum o (k + 1) = gaSum o k + (nth .int o.ground k + nth .int (nth .ints o.air k) 0 + nth .int (nth .ints o.air k) 1) := rfl
def grantMsg (t : Arb) (cell server : Int) : Msg := ⟨1, server, cell, 0, nth .int t.ages cell.toNat, zeroOrd, zeroPcl, zeroGst⟩
inductive StepC (w : Wld) : Wld → Prop
 | same : StepC w w
 | grant (cell server : Int) (hg : (arbGrant w.table w.servers.length cell server).ok = true) : StepC w (wSend ⟨w.map, w.servers, w.stores, (arbGrant w.table w.servers.length cell server).t, w.rows, w.net, w.notes⟩ [grantMsg (arbGrant w.table w.servers.length cell server).t cell server])
 | ask (who what dest n : Int) : StepC w ⟨w.map, w.servers, w.stores, w.table, (gwyAsk w.rows who what dest n).b, w.net, w.notes⟩
 | say (who : Int) (hs : (gwySay w.rows w.table who).ok = true) : StepC w (wSend w [(gwySay w.rows w.table who).x])
 | gate (i : Nat) (hi : i < w.net.length) (hd : (nth .msg w.net i).dest = -1) : StepC w (wGate (wCut w i) (nth .msg w.net i))
 | hear (i : Nat) (hi : i < w.net.length) (hd : ¬ (nth .msg w.net i).dest = -1) : StepC w (wHear (wCut w i) (nth .msg w.net i))
 | lose (i : Nat) (hi : i < w.net.length) : StepC w (wCut w i)
 | twice (i : Nat) (hi : i < w.net.length) : StepC w (wSend w [nth .msg w.net i])
 | tick (i : Nat) (hi : i < w.servers.length) (cell : Int) : StepC w (wSend w (srvTick w.map (nth .srv w.servers i) w.table cell))
 | fall (i : Nat) (hi : i < w.servers.length) : StepC w ⟨w.map, w.servers.set i ⟨false, [], []⟩, w.stores, w.table, w.rows, w.net, w.notes⟩
 | rise (i : Nat) (hi : i < w.servers.length) (hu : (nth .srv w.servers i).up = false) : StepC w ⟨w.map, w.servers.set i ⟨true, [], []⟩, w.stores, w.table, w.rows, w.net, w.notes⟩
theorem step_cases (w : Wld) (e : Evt) : StepC w (wStep w e) := by
 unfold wStep
 by_cases k1 : e.kind = 1
 ·rw [if_pos k1]
  simp only
  split
  ·rename_i hg
   exact .grant e.pos e.dest hg
  ·exact .same
 rw [if_neg k1]
 by_cases k2 : e.kind = 2
 ·rw [if_pos k2]
  exact .ask _ _ _ _
 rw [if_neg k2]
 by_cases k3 : e.kind = 3
 ·rw [if_pos k3]
  split
  ·rename_i hs
   exact .say _ hs
  ·exact .same
 rw [if_neg k3]
 split
 ·split
  ·rename_i hp
   have hi : e.pos.toNat < w.net.length := by omega
   split
   ·unfold wBring
    simp only
    split
    ·rename_i hd
     exact .gate _ hi hd
    ·rename_i hd
     exact .hear _ hi hd
   ·split
    ·exact .lose _ hi
    ·exact .twice _ hi
  ·exact .same
 ·split
  ·split
   ·rename_i hp
    have hi : e.pos.toNat < w.servers.length := by omega
    split
    ·exact .tick _ hi _
    ·split
     ·exact .fall _ hi
     ·split
      ·rename_i hu
       exact .rise _ hi hu
      ·exact .same
   ·exact .same
  ·exact .same
theorem foldTo_more {m : PMap} {c : Cll} {l l' : List Rec} : ∀ {k : Nat}, k ≤ l.length → foldTo m c (l ++ l') k = foldTo m c l k
 | 0, _ => rfl
 | k + 1, h => by
  have ih := foldTo_more (m := m) (c := c) (l := l) (l' := l') (k := k) (by omega)
  have hn : nth .rcd (l ++ l') k = nth .rcd l k := by simp [nth, List.getD, List.getElem?_append_left (show k < l.length by omega)]
  simp only [foldTo, ih, hn]
def stAt (st : List Sto) (c : Int) : Sto := nth .sto st c.toNat
structure HoldInv (m : PMap) (st : List Sto) (h : Hld) : Prop where
 age : h.age ≤ (stAt st h.state.cell).age
 zero : 0 ≤ h.count
 count : h.count ≤ (stAt st h.state.cell).recs.length
 state : h.state = foldTo m (stAt st h.state.cell).base (stAt st h.state.cell).recs h.count.toNat
 all : h.age = (stAt st h.state.cell).age → h.count = (stAt st h.state.cell).recs.length
inductive Tok (w : Wld) (i : Nat) (c n : Int) : Prop
 | hold (hi : i < w.servers.length) (h : Hld) (hm : h ∈ (nth .srv w.servers i).holds) (hc : h.state.cell = c) (hn : h.age = n)
 | word (x : Msg) (hx : x ∈ w.net) (hk : x.kind = 1) (hd : x.dest = (i : Int)) (hc : x.cell = c) (hn : x.n = n)
 | table (h0 : 0 ≤ c) (hc : c.toNat < w.table.servers.length) (hs : @Eq Int (nth .int w.table.servers c.toNat) (i : Int)) (hn : @Eq Int (nth .int w.table.ages c.toNat) n)
structure Fence (w : Wld) : Prop where
 hold : ∀ i, i < w.servers.length → ∀ h ∈ (nth .srv w.servers i).holds, HoldInv w.map w.stores h
 one : ∀ i j c n, Tok w i c n → Tok w j c n → i = j
theorem sto_set {l : List Sto} {c c' : Int} {s : Sto} (hc : c.toNat < l.length) : stAt (l.set c.toNat s) c' = if c'.toNat = c.toNat then s else stAt l c' := by
 unfold stAt
 exact set_nth .sto hc
structure Grow (m : PMap) (st st' : List Sto) : Prop where
 len : st'.length = st.length
 base : ∀ c : Int, (stAt st' c).base = (stAt st c).base
 recs : ∀ c : Int, ∃ l, (stAt st' c).recs = (stAt st c).recs ++ l
theorem Grow.refl (m : PMap) (st : List Sto) : Grow m st st := ⟨rfl, fun _ => rfl, fun _ => ⟨[], by simp⟩⟩
theorem Grow.fold {m : PMap} {st st' : List Sto} (h : Grow m st st') (c : Int) {k : Nat} (hk : k ≤ (stAt st c).recs.length) : foldTo m (stAt st' c).base (stAt st' c).recs k = foldTo m (stAt st c).base (stAt st c).recs k := by
 obtain ⟨l, hl⟩ := h.recs c
 rw [h.base, hl, foldTo_more hk]
theorem Grow.le {m : PMap} {st st' : List Sto} (h : Grow m st st') (c : Int) : (stAt st c).recs.length ≤ (stAt st' c).recs.length := by
 obtain ⟨l, hl⟩ := h.recs c
 rw [hl, List.length_append]
 omega
structure Heard (w : Wld) (k : Nat) (x : Msg) (X : SH) : Prop where
 mem : x ∈ w.net
 ok : msgOk w.map w.servers.length x = true
 dest : 0 ≤ x.dest
 lt : x.dest.toNat < w.servers.length
 srv : srvOk w.map (nth .srv w.servers x.dest.toNat) = true
 stos : stosOk w.map w.stores = true
 eff : Eff w.map (nth .srv w.servers x.dest.toNat) w.stores x X.srv X.stores
 is : X = srvHears w.map (nth .srv w.servers x.dest.toNat) w.stores w.table x
 arb : arbOk w.map w.table w.servers.length = true
theorem heard {w : Wld} (hok : wldOk w = true) {k : Nat} (hk : k < w.net.length) (hd : ¬ (nth .msg w.net k).dest = -1) : ∃ X, Heard w k (nth .msg w.net k) X ∧
  wHear (wCut w k) (nth .msg w.net k) = wSend ⟨w.map, w.servers.set (nth .msg w.net k).dest.toNat X.srv, X.stores, w.table, w.rows, w.net.eraseIdx k, w.notes⟩ X.out := by
 obtain ⟨h1, h2, h3, h4, h5, h6, h7, h8, h9⟩ := wldOk_iff.1 hok
 have hxm := nth_mem .msg hk
 have hx1 := (h8 _ hxm).1
 have hdd : 0 ≤ (nth .msg w.net k).dest ∧ (nth .msg w.net k).dest < w.servers.length := by
  rcases msg_kinds hx1 with ⟨_, g1, g2⟩ | ⟨_, g⟩
  ·exact ⟨g1, g2⟩
  ·exact absurd g hd
 have hdn : (nth .msg w.net k).dest.toNat < w.servers.length := by omega
 obtain ⟨o1, _⟩ := h7 _ (nth_mem .srv hdn)
 exact ⟨srvHears w.map (nth .srv w.servers (nth .msg w.net k).dest.toNat) w.stores w.table (nth .msg w.net k), ⟨hxm, hx1, hdd.1, hdn, o1, h2, hears_eff o1 h2 hx1, rfl, h1⟩, rfl⟩
structure GhOk (m : PMap) (st : List Sto) (g : Gst) : Prop where
 zero : 0 ≤ g.count
 count : g.count ≤ (stAt st g.src).recs.length
 mem : g.wlk ∈ (foldTo m (stAt st g.src).base (stAt st g.src).recs g.count.toNat).wlks
theorem GhOk.grow {m : PMap} {st st' : List Sto} {g : Gst} (h : GhOk m st g) (hg : Grow m st st') : GhOk m st' g :=
 ⟨h.zero, by have := hg.le g.src; have := h.count; omega, by rw [hg.fold g.src (by have := h.count; have := h.zero; omega)]; exact h.mem⟩
structure Shown (w : Wld) : Prop where
 srv : ∀ i, i < w.servers.length → ∀ g ∈ (nth .srv w.servers i).ghosts, GhOk w.map w.stores g
 net : ∀ x ∈ w.net, x.kind = 7 → GhOk w.map w.stores x.gst
end Go.Mo
