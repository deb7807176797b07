/-
  A part of the proof: what some of the program's functions compute.
-/
import Derived.Test.YtogbocplojbdjaaVFA
namespace Go.Proofs.Ytogbocplojbdjaa
open Go Go.E Go.Proofs
set_option linter.unusedVariables false
set_option linter.unusedSimpArgs false
def prodU (a b : Int) : Int := IntKind.u8.wrap (IntKind.i64.wrap ((IntKind.i64.wrap (IntKind.i64.wrap (IntKind.i64.wrap a * IntKind.i64.wrap b) + 127)).tdiv 255))
def scaleP (p : Pix) (k : Int) : Pix := (prodU (clampP p).1 k, prodU (clampP p).2.1 k, prodU (clampP p).2.2.1 k, prodU (clampP p).2.2.2 k)
def overP (s d : Pix) : Pix :=
  (IntKind.u8.wrap ((clampP s).1 + (scaleP d (IntKind.u8.wrap (255 - s.2.2.2))).1), IntKind.u8.wrap ((clampP s).2.1 + (scaleP d (IntKind.u8.wrap (255 - s.2.2.2))).2.1),
   IntKind.u8.wrap ((clampP s).2.2.1 + (scaleP d (IntKind.u8.wrap (255 - s.2.2.2))).2.2.1), IntKind.u8.wrap (s.2.2.2 + (scaleP d (IntKind.u8.wrap (255 - s.2.2.2))).2.2.2))
def insideR (r : Rect) (x y : Int) : Bool := !emptyR r && (decide (r.1 ≤ x) && (decide (x < r.2.2.1) && (decide (r.2.1 ≤ y) && decide (y < r.2.2.2))))
def interQ (a b : Rect) : Rect := if emptyR a = true ∨ emptyR b = true then (0, 0, 0, 0) else canonR (max a.1 b.1, max a.2.1 b.2.1, min a.2.2.1 b.2.2.1, min a.2.2.2 b.2.2.2)
theorem inter_go (a b : Rect) : ((emptyR a || emptyR b) = true → 0 = (interQ a b).1 ∧ 0 = (interQ a b).2.1 ∧ 0 = (interQ a b).2.2.1 ∧ 0 = (interQ a b).2.2.2) ∧
    ((emptyR a || emptyR b) = false → (canonR (if b.1 > a.1 then b.1 else a.1, if b.2.1 > a.2.1 then b.2.1 else a.2.1, if b.2.2.1 < a.2.2.1 then b.2.2.1 else a.2.2.1, if b.2.2.2 < a.2.2.2 then b.2.2.2 else a.2.2.2)).1 = (interQ a b).1 ∧
      (canonR (if b.1 > a.1 then b.1 else a.1, if b.2.1 > a.2.1 then b.2.1 else a.2.1, if b.2.2.1 < a.2.2.1 then b.2.2.1 else a.2.2.1, if b.2.2.2 < a.2.2.2 then b.2.2.2 else a.2.2.2)).2.1 = (interQ a b).2.1 ∧
      (canonR (if b.1 > a.1 then b.1 else a.1, if b.2.1 > a.2.1 then b.2.1 else a.2.1, if b.2.2.1 < a.2.2.1 then b.2.2.1 else a.2.2.1, if b.2.2.2 < a.2.2.2 then b.2.2.2 else a.2.2.2)).2.2.1 = (interQ a b).2.2.1 ∧
      (canonR (if b.1 > a.1 then b.1 else a.1, if b.2.1 > a.2.1 then b.2.1 else a.2.1, if b.2.2.1 < a.2.2.1 then b.2.2.1 else a.2.2.1, if b.2.2.2 < a.2.2.2 then b.2.2.2 else a.2.2.2)).2.2.2 = (interQ a b).2.2.2) := by
  refine ⟨fun h => ?_, fun h => ?_⟩
  · rw [Bool.or_eq_true] at h
    rw [interQ, if_pos h]
    exact ⟨rfl, rfl, rfl, rfl⟩
  · have h : ¬ (emptyR a = true ∨ emptyR b = true) := by rw [← Bool.or_eq_true, h]; simp
    rw [interQ, if_neg h]
    simp only [min_if, max_if, and_self]
theorem s_rcIntersect : PSound Try.prog 14 (pcon [.d RectT, .d RectT] fun x => (True, .agg (enc RectT (interQ x.1 x.2.1)))) := by
  refine psoundF (K := K54) (Γc := C33) (Γr := R0) (fun _ => []) hm HK54 HC33 HR0 Try.call14 Try.func14 (by kernel_rfl) ?_
  rintro ⟨a, b, _⟩ _
  refine Eq.mpr (β := (True ∧ True ∧ True ∧ True ∧ True ∧ True ∧ (@Eq Bool (emptyR a) false → True) ∧ (@Eq Bool (emptyR a) false → True) ∧ True ∧ (@Eq Bool (or (emptyR a) (emptyR b)) true → (True ∧ True ∧ (True ∧ True) ∧ @Eq Int 0 (interQ a b).1 ∧ @Eq Int 0 (interQ a b).2.1 ∧ @Eq Int 0 (interQ a b).2.2.1 ∧ @Eq Int 0 (interQ a b).2.2.2 ∧ True)) ∧ (@Eq Bool (or (emptyR a) (emptyR b)) false → (True ∧ True ∧ True ∧ True ∧ True ∧ True ∧ True ∧ True ∧ True ∧ True ∧ True ∧ True ∧ True ∧ True ∧ True ∧ True ∧ True ∧ True ∧ True ∧ True ∧ True ∧ True ∧ True ∧ (True ∧ True) ∧ @Eq Int (canonR ((if (@GT.gt Int _ b.1 a.1) then b.1 else a.1), ((if (@GT.gt Int _ b.2.1 a.2.1) then b.2.1 else a.2.1), ((if (@LT.lt Int _ b.2.2.1 a.2.2.1) then b.2.2.1 else a.2.2.1), (if (@LT.lt Int _ b.2.2.2 a.2.2.2) then b.2.2.2 else a.2.2.2))))).1 (interQ a b).1 ∧ @Eq Int (canonR ((if (@GT.gt Int _ b.1 a.1) then b.1 else a.1), ((if (@GT.gt Int _ b.2.1 a.2.1) then b.2.1 else a.2.1), ((if (@LT.lt Int _ b.2.2.1 a.2.2.1) then b.2.2.1 else a.2.2.1), (if (@LT.lt Int _ b.2.2.2 a.2.2.2) then b.2.2.2 else a.2.2.2))))).2.1 (interQ a b).2.1 ∧ @Eq Int (canonR ((if (@GT.gt Int _ b.1 a.1) then b.1 else a.1), ((if (@GT.gt Int _ b.2.1 a.2.1) then b.2.1 else a.2.1), ((if (@LT.lt Int _ b.2.2.1 a.2.2.1) then b.2.2.1 else a.2.2.1), (if (@LT.lt Int _ b.2.2.2 a.2.2.2) then b.2.2.2 else a.2.2.2))))).2.2.1 (interQ a b).2.2.1 ∧ @Eq Int (canonR ((if (@GT.gt Int _ b.1 a.1) then b.1 else a.1), ((if (@GT.gt Int _ b.2.1 a.2.1) then b.2.1 else a.2.1), ((if (@LT.lt Int _ b.2.2.1 a.2.2.1) then b.2.2.1 else a.2.2.1), (if (@LT.lt Int _ b.2.2.2 a.2.2.2) then b.2.2.2 else a.2.2.2))))).2.2.2 (interQ a b).2.2.2 ∧ True)))) (by kernel_rfl) ?_
  simp only [true_and, and_true, decide_eq_true_eq, decide_eq_false_iff_not, forall_const, implies_true, and_self]
  exact inter_go a b
abbrev K55 : KCons := (14, fun Γc => pure_ Γc ((pcon [.d RectT, .d RectT] fun x => (True, .agg (enc RectT (interQ x.1 x.2.1)))))) :: K54
theorem HK55 : KS Try.prog K55 := ks_add (ksound_pure (s_rcIntersect)) HK54
end Go.Proofs.Ytogbocplojbdjaa
