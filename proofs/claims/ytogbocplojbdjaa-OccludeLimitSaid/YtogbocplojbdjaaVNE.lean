/-
  A part of the proof: what some of the program's functions compute.
-/
import Derived.Test.YtogbocplojbdjaaVND
namespace Go.Proofs.Ytogbocplojbdjaa
open Go Go.E Go.Proofs
set_option linter.unusedVariables false
set_option linter.unusedSimpArgs false
theorem pix_iff (p : Pix) : pixOk p = !(decide (p.1 > p.2.2.2) || decide (p.2.1 > p.2.2.2) || decide (p.2.2.1 > p.2.2.2)) := by
  unfold pixOk clampP
  rw [Bool.eq_iff_iff]
  simp
  omega
def cutL (i : Item) (l : List Rect) : List Rect := combinedL l [(0, 0, i.2.2.2.2.1.1, i.2.2.2.2.1.2.1)] 2
def movL (i : Item) (l : List Rect) : List Rect := combinedL (shiftsL (limL (cutL i l)) i.2.2.1 i.2.2.2.1) [] 1
def placedL (i : Item) (l : List Rect) : List Rect := if boundsI i = (0, 0, 0, 0) then [] else if limE (cutL i l) ≠ 0 then [] else if limE (movL i l) ≠ 0 then [] else limL (movL i l)
end Go.Proofs.Ytogbocplojbdjaa
