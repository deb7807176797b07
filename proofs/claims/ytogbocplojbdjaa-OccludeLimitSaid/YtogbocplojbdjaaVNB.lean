/-
  A part of the proof: what some of the program's functions compute.
-/
import Derived.Test.YtogbocplojbdjaaVNA
namespace Go.Proofs.Ytogbocplojbdjaa
open Go Go.E Go.Proofs
set_option linter.unusedVariables false
set_option linter.unusedSimpArgs false
theorem addS_even (l : List Int) (x0 x1 : Int) (k : Nat) : (addS l x0 x1 k).1.length % 2 = 0 ∧ (addS l x0 x1 k).2.1.length % 2 = 0 := by
  have : ∀ (ps : List (Int × Int)) (s : List Int × List Int × Int × Int), s.1.length % 2 = 0 ∧ s.2.1.length % 2 = 0 → (ps.foldl addStep s).1.length % 2 = 0 ∧ (ps.foldl addStep s).2.1.length % 2 = 0 := by
    intro ps
    induction ps with
    | nil => intro s h; exact h
    | cons p r ih =>
      intro s h
      rw [List.foldl_cons]
      refine ih _ ?_
      unfold addStep
      split
      · simp; omega
      · split
        · simp; omega
        · exact h
  exact this _ _ ⟨rfl, rfl⟩
theorem addL_len {l : List Int} {x0 x1 : Int} (h : l.length % 2 = 0) : (addL l x0 x1).length ≤ l.length + 2 ∧ (addL l x0 x1).length % 2 = 0 := by
  have h1 := addS_even l x0 x1 l.length
  have h2 : addS l x0 x1 l.length = addS l x0 x1 (l.length / 2) := by
    unfold addS
    rw [List.take_of_length_le (by rw [pairsOf_len]; omega), List.take_of_length_le (by rw [pairsOf_len]; omega)]
  have h3 := addS_len l x0 x1 (l.length / 2)
  rw [← h2] at h3
  unfold addL
  simp
  omega
def hitR (y : Int) (r : Rect) : Bool := usableR r && decide (r.2.1 ≤ y) && decide (y < r.2.2.2)
def rowStep (y : Int) (out : List Int) (r : Rect) : List Int := if hitR y r = true then addL out r.1 r.2.2.1 else out
def rowL (l : List Rect) (y : Int) : List Int := l.foldl (rowStep y) []
theorem rowL_step {l : List Rect} {y : Int} {i : Nat} (h : i < l.length) : rowL (l.take (i + 1)) y = rowStep y (rowL (l.take i) y) (elemAt (t := RectT) l i) := by
  unfold rowL
  rw [List.take_add_one, elemAt_get (t := RectT) l i h, List.foldl_append]
  rfl
theorem rowL_len (l : List Rect) (y : Int) : (rowL l y).length ≤ 2 * l.length ∧ (rowL l y).length % 2 = 0 := by
  have : ∀ (l : List Rect) (o : List Int), o.length % 2 = 0 → (l.foldl (rowStep y) o).length ≤ o.length + 2 * l.length ∧ (l.foldl (rowStep y) o).length % 2 = 0 := by
    intro l
    induction l with
    | nil => intro o h; exact ⟨by simp, h⟩
    | cons r rs ih =>
      intro o h
      rw [List.foldl_cons]
      have hs : (rowStep y o r).length ≤ o.length + 2 ∧ (rowStep y o r).length % 2 = 0 := by
        unfold rowStep
        split
        · exact addL_len h
        · exact ⟨by omega, h⟩
      have h2 := ih _ hs.2
      simp only [List.length_cons]
      exact ⟨by omega, h2.2⟩
  have h := this l [] rfl
  exact ⟨by simpa [rowL] using h.1, h.2⟩
def insAll (xs l : List Int) : List Int := l.foldl (fun xs n => insL n xs) xs
theorem insAll_step {xs l : List Int} {i : Nat} (h : i < l.length) : insAll xs (l.take (i + 1)) = insL (elemAt (t := I64) l i) (insAll xs (l.take i)) := by
  unfold insAll
  rw [List.take_add_one, elemAt_get (t := I64) l i h, List.foldl_append]
  rfl
theorem insAll_len : ∀ (l xs : List Int), (insAll xs l).length ≤ xs.length + l.length
  | [], xs => by simp [insAll]
  | n :: r, xs => by
    have h1 := insAll_len r (insL n xs)
    have h2 := insL_len n xs
    unfold insAll at *
    rw [List.foldl_cons]
    simp only [List.length_cons]
    omega
def modeB (m : Int) (x y : Bool) : Bool := m == 1 && (x || y) || m == 2 && x && y || m == 3 && x && !y
def xsOf (a b : List Int) : List Int := insAll (insAll [] a) b
def mergeStep (a b : List Int) (m : Int) (out : List Int) (i : Nat) : List Int :=
  if modeB m (inL a (elemAt (t := I64) (xsOf a b) i)) (inL b (elemAt (t := I64) (xsOf a b) i)) = true then addL out (elemAt (t := I64) (xsOf a b) i) (elemAt (t := I64) (xsOf a b) (i + 1)) else out
def mergeK (a b : List Int) (m : Int) (k : Nat) : List Int := (List.range k).foldl (mergeStep a b m) []
theorem mergeK_step (a b : List Int) (m : Int) (k : Nat) : mergeK a b m (k + 1) = mergeStep a b m (mergeK a b m k) k := by
  unfold mergeK
  rw [List.range_succ, List.foldl_append]
  rfl
theorem mergeK_len (a b : List Int) (m : Int) : ∀ k, (mergeK a b m k).length ≤ 2 * k ∧ (mergeK a b m k).length % 2 = 0
  | 0 => by simp [mergeK]
  | k + 1 => by
    have h := mergeK_len a b m k
    rw [mergeK_step]
    unfold mergeStep
    split
    · have := addL_len (x0 := elemAt (t := I64) (xsOf a b) k) (x1 := elemAt (t := I64) (xsOf a b) (k + 1)) h.2
      omega
    · omega
def mergedL (a b : List Int) (m : Int) : List Int := mergeK a b m ((xsOf a b).length - 1)
end Go.Proofs.Ytogbocplojbdjaa
