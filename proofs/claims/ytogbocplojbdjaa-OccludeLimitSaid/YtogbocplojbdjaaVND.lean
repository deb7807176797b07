/-
  A part of the proof: what some of the program's functions compute.
-/
import Derived.Test.YtogbocplojbdjaaVNC
namespace Go.Proofs.Ytogbocplojbdjaa
open Go Go.E Go.Proofs
set_option linter.unusedVariables false
set_option linter.unusedSimpArgs false
def limL (xs : List Rect) : List Rect := if xs.length ≤ 256 then xs else []
def limE (xs : List Rect) : Int := if xs.length ≤ 256 then 0 else 5
def g_limited : GC where
  X := List Rect
  rd := fun H ys => match ys with
    | [.sl l] => rdR ⟨[], H, 0, []⟩ l RectT
    | _ => none
  args := fun _ => [.sl 0]
  hp := fun xs => [(0, .row RectT xs)]
  pre := fun _ => True
  F := fun xs => ⟨[(0, .tup [.sl 9, .int .i64 (limE xs)])], [(9, .row RectT (limL xs))], 1, [.junk]⟩
def within5 (n : Int) : Int := max (-16384) (min 16384 n)
def contains5 (l : List Rect) (x y : Int) : Bool := l.any fun r => usableR r && decide (r.1 ≤ x) && decide (x < r.2.2.1) && decide (r.2.1 ≤ y) && decide (y < r.2.2.2)
def clampD (d : Int) : Int := max (-65536) (min 65536 d)
def shift5 (dx dy : Int) (r : Rect) : Rect := (within5 (r.1 + clampD dx), within5 (r.2.1 + clampD dy), within5 (r.2.2.1 + clampD dx), within5 (r.2.2.2 + clampD dy))
def shiftsL (l : List Rect) (dx dy : Int) : List Rect := (l.filter usableR).map (shift5 dx dy)
end Go.Proofs.Ytogbocplojbdjaa
