/-
  A part of the proof: what some of the program's functions compute.
-/
import Derived.Test.YtmikompgiikcnaaGreatVNC
namespace Go.Proofs.YtmikompgiikcnaaGreat
open Go Go.E Go.Proofs
set_option linter.unusedVariables false
set_option linter.unusedSimpArgs false
def limL (xs : List Rect) : List Rect := if xs.length ≤ 256 then xs else []
def limE (xs : List Rect) : Int := if xs.length ≤ 256 then 0 else 5
def g_limited : GC where
  X := List Rect
  rd := fun H ys => match ys with
    | [.sl l] => rdR ⟨[], H, 0, []⟩ l RectT
    | _ => none
  args := fun _ => [.sl 0]
  hp := fun xs => [(0, .row RectT xs)]
  pre := fun _ => True
  F := fun xs => ⟨[(0, .tup [.sl 9, .int .i64 (limE xs)])], [(9, .row RectT (limL xs))], 1, [.junk]⟩
theorem s_r5limited : KSound Tryz.prog 69 (fun Γc => gCon Γc g_limited) := by
  refine gsoundF (K := K25) (Γc := C9) (Γr := R0) (fun _ => []) hm HK25 HC9 HR0 Tryz.call69 Tryz.func69 (by kernel_rfl) (fun _ => by kernel_rfl) (fun _ => rfl) ?_
  intro xs _
  refine Eq.mpr (β := (True ∧ True ∧ True ∧ True ∧ True ∧ (@Eq Bool (@decide (@GT.gt Int _ (@Nat.cast Int _ (List.length xs)) 256) (Int.decLt 256 (@Nat.cast Int _ (List.length xs)))) true → (True ∧ True ∧ (True ∧ True ∧ True) ∧ (True ∧ True) ∧ ((True ∧ @Eq Int 5 (limE xs) ∧ True) ∧ True) ∧ @Eq _ (limL xs) ([] : List (Ty.T RectT)) ∧ True)) ∧ (@Eq Bool (@decide (@GT.gt Int _ (@Nat.cast Int _ (List.length xs)) 256) (Int.decLt 256 (@Nat.cast Int _ (List.length xs)))) false → (True ∧ True ∧ True ∧ (True ∧ True ∧ True) ∧ (True ∧ True) ∧ ((True ∧ @Eq Int 0 (limE xs) ∧ True) ∧ True) ∧ @Eq _ xs (limL xs) ∧ True)))) (by kernel_rfl) ?_
  simp only [true_and, and_true, decide_eq_true_eq, decide_eq_false_iff_not, forall_const, implies_true, and_self]
  refine ⟨fun h => ?_, fun h => ?_⟩
  · have h : ¬ List.length xs ≤ 256 := by omega
    simp [limL, limE, h]
  · have h : List.length xs ≤ 256 := by omega
    simp [limL, limE, h]
abbrev K26 : KCons := (69, fun Γc => gCon Γc g_limited) :: K25
theorem HK26 : KS Tryz.prog K26 := ks_add (s_r5limited) HK25
theorem s_r5Intersect : PSound Tryz.prog 57 (pcon [.d (.list RectT), .d (.list RectT)] fun x => (x.1.length ≤ 1000 ∧ x.2.1.length ≤ 1000, .tup [.own RectT (limL (combinedL x.1 x.2.1 2)), .int .i64 (limE (combinedL x.1 x.2.1 2))])) := by
  refine psoundF (K := K26) (Γc := C9) (Γr := R0) (fun _ => []) hm HK26 HC9 HR0 Tryz.call57 Tryz.func57 (by kernel_rfl) ?_
  rintro ⟨a, b, _⟩ hx
  have hx : a.length ≤ 1000 ∧ b.length ≤ 1000 := hx
  refine Eq.mpr (β := (True ∧ True ∧ True ∧ True ∧ (@LE.le Nat _ (List.length a) 1000 ∧ @LE.le Nat _ (List.length b) 1000) ∧ (True ∧ (True ∧ True) ∧ @Eq _ (combinedL a b 2) (combinedL a b 2) ∧ True) ∧ True ∧ True ∧ True ∧ True ∧ (True ∧ True ∧ True) ∧ @Eq _ (limL (combinedL a b 2)) (limL (combinedL a b 2)) ∧ @Eq Int (limE (combinedL a b 2)) (limE (combinedL a b 2)) ∧ True)) (by kernel_rfl) ?_
  simp only [true_and, and_true, decide_eq_true_eq, decide_eq_false_iff_not, forall_const, implies_true, and_self]
  exact hx
abbrev K27 : KCons := (57, fun Γc => pure_ Γc ((pcon [.d (.list RectT), .d (.list RectT)] fun x => (x.1.length ≤ 1000 ∧ x.2.1.length ≤ 1000, .tup [.own RectT (limL (combinedL x.1 x.2.1 2)), .int .i64 (limE (combinedL x.1 x.2.1 2))])))) :: K26
theorem HK27 : KS Tryz.prog K27 := ks_add (ksound_pure (s_r5Intersect)) HK26
def within5 (n : Int) : Int := max (-16384) (min 16384 n)
def contains5 (l : List Rect) (x y : Int) : Bool := l.any fun r => usableR r && decide (r.1 ≤ x) && decide (x < r.2.2.1) && decide (r.2.1 ≤ y) && decide (y < r.2.2.2)
def clampD (d : Int) : Int := max (-65536) (min 65536 d)
def shift5 (dx dy : Int) (r : Rect) : Rect := (within5 (r.1 + clampD dx), within5 (r.2.1 + clampD dy), within5 (r.2.2.1 + clampD dx), within5 (r.2.2.2 + clampD dy))
def shiftsL (l : List Rect) (dx dy : Int) : List Rect := (l.filter usableR).map (shift5 dx dy)
end Go.Proofs.YtmikompgiikcnaaGreat
