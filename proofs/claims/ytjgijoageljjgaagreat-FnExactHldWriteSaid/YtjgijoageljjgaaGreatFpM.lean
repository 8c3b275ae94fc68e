/-
  Loops that mark: how they are told.
-/
import Derived.Test.YtjgijoageljjgaaGreatFpH
set_option linter.unusedVariables false
set_option linter.unusedSimpArgs false
namespace Go.Sx
/-- What an evaluator reduces on both sides. -/
inductive Imp (P Q : Prop) : Prop where
  | mk (h : P → Q) : Imp P Q
theorem Imp.out {P Q : Prop} (h : Imp P Q) : P → Q := let ⟨h⟩ := h; h
inductive MeasLt (a b : Th Nat) : Prop where
  | mk (h : a () < b ()) : MeasLt a b
theorem MeasLt.out {a b : Th Nat} (h : MeasLt a b) : a () < b () := let ⟨h⟩ := h; h
theorem LoopIn.w {A : Ann} {σ0 σ : St} (f : St → A.ι) (hc : A.cond σ0 (f σ) ()) (hm : matchSt σ (A.st σ0 (f σ))) : LoopIn A σ0 σ := ⟨f σ, hc, hm⟩
theorem LoopBack.w {A : Ann} {σ0 σ : St} {i : A.ι} (f : St → A.ι) (hc : A.cond σ0 (f σ) ()) (hd : MeasLt (A.meas σ0 (f σ)) (A.meas σ0 i)) (hm : matchSt σ (A.st σ0 (f σ))) : LoopBack A σ0 i σ := ⟨f σ, hc, hd.out, hm⟩

def thI (σ : St) (d : Nat) : Th Int := match σ.tm.get d with
  | .one (.att (.int _ n)) => n
  | _ => fun _ => 0
/-- The list that the header in temporary 0 stands for. -/
def thL (t : RT) (σ : St) : Th (List t.ty) := match σ.tm.get 0 with
  | .one (.own k _) => match (σ.hp.get k).2 with
    | .row _ _ t' l => if h : t' = t then castL h l else fun _ => []
    | _ => fun _ => []
  | .one (.pref k _ _ pre i j) => match (σ.hp.get k).2 with
    | .row _ _ t0 l0 => match subA t0 l0 (pre ++ [(i, j)]) with
      | some (.list t' l) => if h : t' = t then castL h l else fun _ => []
      | _ => fun _ => []
    | _ => fun _ => []
  | _ => fun _ => []
def putL (t : RT) (σ : St) (L : Th (List t.ty)) : St := match σ.tm.get 0 with
  | .one (.own k _) => match σ.hp.get k with
    | (v, .row dp g _ _) => σ.h k (v, .row dp g t L)
    | _ => σ
  | .one (.pref k _ _ pre i j) => match σ.hp.get k with
    | (v, .row dp g t0 l0) => match updA (fun t' _ => if h : t = t' then some (castL h L) else none) t0 l0 (pre ++ [(i, j)]) with
      | some l' => σ.h k (v, .row dp g t0 l')
      | none => σ
    | _ => σ
  | _ => σ
def tI (n : Th Int) : V := .one (.att (.int .i64 n))
def mulAdd (a : Th Int) (n : Int) (b : Th Int) : Th Int := fun _ => a () + n * b ()
def pcAdd (a : Th Int) (l : Th (List (List Pcl))) (b : Th Int) : Th Int := fun _ => a () + 8 * (Go.Mo.pcTo (l ()) (b ()).toNat : Int)
def lenSub {α : Type} (l : Th (List α)) (i : Th Int) : Th Nat := fun _ => (l ()).length - (i ()).toNat
/-- How far a marking loop has come. -/
inductive Mkg (t : RT) (n : Int) (f : Int → t.ty) (k : Th Int) (l : Th (List t.ty)) (i : Th Int) : Prop where
  | mk (h : (0 ≤ k () ∧ k () ≤ 1152921504606846976) ∧ (l ()).length ≤ 4194304 ∧ (0 ≤ i () ∧ i () ≤ ((l ()).length : Int)) ∧ Go.Mo.mkd t n f (k ()) (l ()) (i ()).toNat) : Mkg t n f k l i
inductive MkgQ (k : Th Int) (l : Th (List (List Pcl))) (i : Th Int) : Prop where
  | mk (h : (0 ≤ k () ∧ k () ≤ 1152921504606846976) ∧ ((l ()).length ≤ 4194304 ∧ Go.Mo.pcnt (l ()) ≤ 17592186044416) ∧ (0 ≤ i () ∧ i () ≤ ((l ()).length : Int)) ∧ Go.Mo.mkdP (k ()) (l ()) (i ()).toNat) : MkgQ k l i
/-- .. a row of rows: as long as it was. -/
inductive MkgP (k : Th Int) (l0 l : Th (List Pcl)) (i : Th Int) : Prop where
  | mk (h : (0 ≤ k () ∧ k () ≤ 2305843009213693952) ∧ ((l ()).length = (l0 ()).length ∧ (l ()).length ≤ 17592186044416) ∧ (0 ≤ i () ∧ i () ≤ ((l ()).length : Int)) ∧ Go.Mo.mkd .pcl 8 Go.Mo.pAt (k ()) (l ()) (i ()).toNat) : MkgP k l0 l i
def annM (t : RT) (n : Int) (f : Int → t.ty) : Ann := ⟨Th Int × Th (List t.ty), [], fun σ q => putL t ((σ.t 5 (tI q.1)).t 1 (tI (mulAdd (thI σ 1) n q.1))) q.2, fun σ q _ => Mkg t n f (thI σ 1) q.2 q.1, fun _ q => lenSub q.2 q.1⟩
def annQ : Ann := ⟨Th Int × Th (List (List Pcl)), [], fun σ q => putL .pcls ((σ.t 5 (tI q.1)).t 1 (tI (pcAdd (thI σ 1) q.2 q.1))) q.2, fun σ q _ => MkgQ (thI σ 1) q.2 q.1, fun _ q => lenSub q.2 q.1⟩
def annP : Ann := ⟨Th Int × Th (List Pcl), [], fun σ q => putL .pcl ((σ.t 5 (tI q.1)).t 1 (tI (mulAdd (thI σ 1) 8 q.1))) q.2, fun σ q _ => MkgP (thI σ 1) (thL .pcl σ) q.2 q.1, fun _ q => lenSub q.2 q.1⟩
def rdW (σ : St) : Th Int × Th (List Wlk) := (thI σ 5, thL .wlk σ)
def rdI (σ : St) : Th Int × Th (List Int) := (thI σ 5, thL .int σ)
def rdP (σ : St) : Th Int × Th (List Pcl) := (thI σ 5, thL .pcl σ)
def rdR (σ : St) : Th Int × Th (List Sx.Rec) := (thI σ 5, thL .rcd σ)
def rdQ (σ : St) : Th Int × Th (List (List Pcl)) := (thI σ 5, thL .pcls σ)
end Go.Sx
