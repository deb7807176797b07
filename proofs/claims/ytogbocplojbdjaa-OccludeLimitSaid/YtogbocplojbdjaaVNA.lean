/-
  A part of the proof: what some of the program's functions compute.
-/
import Derived.Test.YtogbocplojbdjaaVRB
namespace Go.Proofs.Ytogbocplojbdjaa
open Go Go.E Go.Proofs
set_option linter.unusedVariables false
set_option linter.unusedSimpArgs false
def usableR (r : Rect) : Bool := decide (r.1 ≥ -16384) && decide (r.2.1 ≥ -16384) && decide (r.2.2.1 ≤ 16384) && decide (r.2.2.2 ≤ 16384) && decide (r.1 < r.2.2.1) && decide (r.2.1 < r.2.2.2)
def insL (n : Int) : List Int → List Int
  | [] => [n]
  | x :: r => if n ≤ x then (if n < x then n :: x :: r else x :: r) else x :: insL n r
theorem insL_len (n : Int) : ∀ l, (insL n l).length ≤ l.length + 1
  | [] => by simp [insL]
  | x :: r => by
    have := insL_len n r
    simp only [insL]
    split
    · split <;> simp
    · simp; omega
theorem drop_at {l : List Int} {i : Nat} (h : i < l.length) : l.drop i = elemAt (t := I64) l i :: l.drop (i + 1) := by
  have hx := elemAt_get (t := I64) l i h
  rw [List.drop_eq_getElem_cons h]
  congr 1
  rw [List.getElem?_eq_getElem h] at hx
  exact Option.some.inj hx
def pairsOf : List Int → List (Int × Int)
  | a :: b :: r => (a, b) :: pairsOf r
  | _ => []
def inL (runs : List Int) (x : Int) : Bool := (pairsOf runs).any fun p => decide (p.1 ≤ x) && decide (x < p.2)
def addStep (s : List Int × List Int × Int × Int) (p : Int × Int) : List Int × List Int × Int × Int :=
  if p.2 < s.2.2.1 then (s.1 ++ [p.1, p.2], s.2) else if p.1 > s.2.2.2 then (s.1, s.2.1 ++ [p.1, p.2], s.2.2) else (s.1, s.2.1, min s.2.2.1 p.1, max s.2.2.2 p.2)
def addS (runs : List Int) (x0 x1 : Int) (k : Nat) : List Int × List Int × Int × Int := ((pairsOf runs).take k).foldl addStep ([], [], x0, x1)
def addL (runs : List Int) (x0 x1 : Int) : List Int := (addS runs x0 x1 runs.length).1 ++ [(addS runs x0 x1 runs.length).2.2.1, (addS runs x0 x1 runs.length).2.2.2] ++ (addS runs x0 x1 runs.length).2.1
theorem pairsOf_len : ∀ l : List Int, (pairsOf l).length = l.length / 2
  | [] => rfl
  | [a] => by simp [pairsOf]
  | a :: b :: r => by simp only [pairsOf, List.length_cons, pairsOf_len r]; omega
theorem pairsOf_drop : ∀ (k : Nat) (l : List Int), pairsOf (l.drop (2 * k)) = (pairsOf l).drop k
  | 0, l => rfl
  | k + 1, [] => by simp [pairsOf]
  | k + 1, [a] => by simp [pairsOf, show 2 * (k + 1) = 2 * k + 1 + 1 by omega]
  | k + 1, a :: b :: r => by
    rw [show 2 * (k + 1) = 2 * k + 1 + 1 by omega]
    simp only [List.drop_succ_cons, pairsOf]
    exact pairsOf_drop k r
theorem pairsOf_get {l : List Int} {k : Nat} (h : 2 * k + 1 < l.length) : (pairsOf l)[k]? = some (elemAt (t := I64) l (2 * k), elemAt (t := I64) l (2 * k + 1)) := by
  have d1 := drop_at (l := l) (i := 2 * k) (by omega)
  have d2 := drop_at (l := l) (i := 2 * k + 1) (by omega)
  have hp := pairsOf_drop k l
  rw [d1, d2] at hp
  simp only [pairsOf] at hp
  have := congrArg (fun z => z[0]?) hp
  simp only [List.getElem?_cons_zero, List.getElem?_drop, Nat.add_zero] at this
  exact this.symm
theorem addS_step {l : List Int} {x0 x1 : Int} {k : Nat} (h : 2 * k + 1 < l.length) : addS l x0 x1 (k + 1) = addStep (addS l x0 x1 k) (elemAt (t := I64) l (2 * k), elemAt (t := I64) l (2 * k + 1)) := by
  unfold addS
  rw [List.take_add_one, pairsOf_get h, List.foldl_append]
  rfl
theorem addS_len (l : List Int) (x0 x1 : Int) (k : Nat) : (addS l x0 x1 k).1.length + (addS l x0 x1 k).2.1.length ≤ 2 * k := by
  have : ∀ (ps : List (Int × Int)) (s : List Int × List Int × Int × Int), (ps.foldl addStep s).1.length + (ps.foldl addStep s).2.1.length ≤ s.1.length + s.2.1.length + 2 * ps.length := by
    intro ps
    induction ps with
    | nil => intro s; simp
    | cons p r ih =>
      intro s
      rw [List.foldl_cons]
      refine Nat.le_trans (ih _) ?_
      unfold addStep
      split
      · simp; omega
      · split
        · simp; omega
        · simp; omega
  have h := this ((pairsOf l).take k) ([], [], x0, x1)
  unfold addS
  simp only [List.length_nil, List.length_take] at h
  omega
end Go.Proofs.Ytogbocplojbdjaa
