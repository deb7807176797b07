/-
  A part of the proof: what some of the program's functions compute.
-/
import Derived.Test.YtogbocplojbdjaaVNJ
namespace Go.Proofs.Ytogbocplojbdjaa
open Go Go.E Go.Proofs
set_option linter.unusedVariables false
set_option linter.unusedSimpArgs false
theorem usable_empty (r : Rect) : usableR r = !emptyR r := by
  rw [Bool.eq_iff_iff]
  simp only [usableR, emptyR, validR, coordOk, Bool.not_or, Bool.not_not, Bool.and_eq_true, decide_eq_true_eq, Bool.not_eq_true', decide_eq_false_iff_not]
  omega
theorem contains5_rg (l : List Rect) (x y : Int) : contains5 l x y = rgContains l x y := by
  unfold contains5 rgContains
  congr 1
  funext r
  unfold containsR canonR
  cases he : emptyR r with
  | true =>
    have hu : usableR r = false := by rw [usable_empty, he]; rfl
    rw [hu]
    simp
  | false =>
    have hu : usableR r = true := by rw [usable_empty, he]; rfl
    rw [hu]
    simp
def inW (x : Int) : Bool := decide (-16384 ≤ x) && decide (x < 16384)
theorem within5_coord {lo hi d x : Int} (h0 : -16384 ≤ lo) (h1 : hi ≤ 16384) (h2 : lo < hi) :
    (within5 (lo + d) ≤ x ∧ x < within5 (hi + d)) ↔ (lo ≤ x - d ∧ x - d < hi ∧ -16384 ≤ x ∧ x < 16384) := by
  unfold within5
  constructor
  · rintro ⟨g1, g2⟩
    refine ⟨by omega, by omega, by omega, by omega⟩
  · rintro ⟨g1, g2, g3, g4⟩
    exact ⟨by omega, by omega⟩
theorem within5_in (n : Int) : -16384 ≤ within5 n ∧ within5 n ≤ 16384 := by unfold within5; omega
theorem contains5_shift {l : List Rect} {dx dy : Int} (hx : -65536 ≤ dx ∧ dx ≤ 65536) (hy : -65536 ≤ dy ∧ dy ≤ 65536) (x y : Int) :
    contains5 (shiftsL l dx dy) x y = (contains5 l (x - dx) (y - dy) && (inW x && inW y)) := by
  have c1 : clampD dx = dx := by unfold clampD; omega
  have c2 : clampD dy = dy := by unfold clampD; omega
  unfold contains5 shiftsL
  rw [List.any_map, List.any_filter, Bool.eq_iff_iff, Bool.and_eq_true, List.any_eq_true, List.any_eq_true]
  have key : ∀ r : Rect, (usableR r = true ∧ (usableR (shift5 dx dy r) && decide ((shift5 dx dy r).1 ≤ x) && decide (x < (shift5 dx dy r).2.2.1) && decide ((shift5 dx dy r).2.1 ≤ y) && decide (y < (shift5 dx dy r).2.2.2)) = true) ↔
      ((usableR r && decide (r.1 ≤ x - dx) && decide (x - dx < r.2.2.1) && decide (r.2.1 ≤ y - dy) && decide (y - dy < r.2.2.2)) = true ∧ (inW x && inW y) = true) := by
    intro r
    unfold shift5
    rw [c1, c2]
    simp only [usableR, inW, Bool.and_eq_true, decide_eq_true_eq]
    have w1 := within5_in (r.1 + dx)
    have w2 := within5_in (r.2.1 + dy)
    have w3 := within5_in (r.2.2.1 + dx)
    have w4 := within5_in (r.2.2.2 + dy)
    constructor
    · rintro ⟨⟨⟨⟨⟨⟨u1, u2⟩, u3⟩, u4⟩, u5⟩, u6⟩, ⟨⟨⟨_, g1⟩, g2⟩, g3⟩, g4⟩
      have k1 := (within5_coord (d := dx) u1 u3 u5).1 ⟨g1, g2⟩
      have k2 := (within5_coord (d := dy) u2 u4 u6).1 ⟨g3, g4⟩
      exact ⟨⟨⟨⟨⟨⟨⟨⟨⟨⟨u1, u2⟩, u3⟩, u4⟩, u5⟩, u6⟩, k1.1⟩, k1.2.1⟩, k2.1⟩, k2.2.1⟩, k1.2.2, k2.2.2⟩
    · rintro ⟨⟨⟨⟨⟨⟨⟨⟨⟨⟨u1, u2⟩, u3⟩, u4⟩, u5⟩, u6⟩, q1⟩, q2⟩, q3⟩, q4⟩, q5, q6⟩
      have k1 := (within5_coord (d := dx) u1 u3 u5).2 ⟨q1, q2, q5⟩
      have k2 := (within5_coord (d := dy) u2 u4 u6).2 ⟨q3, q4, q6⟩
      exact ⟨⟨⟨⟨⟨⟨u1, u2⟩, u3⟩, u4⟩, u5⟩, u6⟩, ⟨⟨⟨⟨⟨⟨⟨⟨⟨w1.1, w2.1⟩, w3.2⟩, w4.2⟩, Int.lt_of_le_of_lt k1.1 k1.2⟩, Int.lt_of_le_of_lt k2.1 k2.2⟩, k1.1⟩, k1.2⟩, k2.1⟩, k2.2⟩⟩
  constructor
  · rintro ⟨r, hr, h⟩
    rw [Bool.and_eq_true] at h
    have := (key r).1 h
    exact ⟨⟨r, hr, this.1⟩, this.2⟩
  · rintro ⟨⟨r, hr, h⟩, g⟩
    have := (key r).2 ⟨h, g⟩
    exact ⟨r, hr, by rw [Bool.and_eq_true]; exact this⟩
end Go.Proofs.Ytogbocplojbdjaa
