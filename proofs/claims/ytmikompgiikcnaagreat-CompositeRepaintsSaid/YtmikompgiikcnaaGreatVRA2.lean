/-
  A part of the proof: what some of the program's functions compute.
-/
import Derived.Test.YtmikompgiikcnaaGreatVH0
namespace Go.Proofs.YtmikompgiikcnaaGreat
open Go Go.E Go.Proofs
set_option linter.unusedVariables false
set_option linter.unusedSimpArgs false
theorem canonR_range (r : Rect) : (-16384 ≤ (canonR r).1 ∧ (canonR r).1 ≤ 16384) ∧ (-16384 ≤ (canonR r).2.1 ∧ (canonR r).2.1 ≤ 16384) ∧ (-16384 ≤ (canonR r).2.2.1 ∧ (canonR r).2.2.1 ≤ 16384) ∧ (-16384 ≤ (canonR r).2.2.2 ∧ (canonR r).2.2.2 ≤ 16384) := by
  unfold canonR
  split
  · simp
  · rename_i h
    simp [emptyR, validR, coordOk] at h
    omega
def areaR (r : Rect) : Int := ((canonR r).2.2.1 - (canonR r).1) * ((canonR r).2.2.2 - (canonR r).2.1)
end Go.Proofs.YtmikompgiikcnaaGreat
