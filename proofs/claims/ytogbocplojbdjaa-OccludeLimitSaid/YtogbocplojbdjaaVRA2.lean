/-
  A part of the proof: what some of the program's functions compute.
-/
import Derived.Test.YtogbocplojbdjaaVH0
namespace Go.Proofs.Ytogbocplojbdjaa
open Go Go.E Go.Proofs
set_option linter.unusedVariables false
set_option linter.unusedSimpArgs false
def movedI (a d : Int) : Int := min (max (IntKind.i64.wrap (a + min (max d (-32768)) 32768)) (-16384)) 16384
theorem s_moved : PSound Try.prog 91 (pcon [.d I64, .d I64] fun x => (True, .int .i64 (movedI x.1 x.2.1))) := by
  refine psoundF (K := K19) (Γc := C14) (Γr := R0) (fun _ => []) hm HK19 HC14 HR0 Try.call91 Try.func91 (by kernel_rfl) ?_
  rintro ⟨a, d, _⟩ _
  refine Eq.mpr (β := (True ∧ True ∧ True ∧ True ∧ True ∧ True ∧ True ∧ True ∧ True ∧ True ∧ True ∧ (True ∧ True) ∧ @Eq Int (if (@LT.lt Int _ 16384 (if (@GT.gt Int _ (Neg.neg 16384) (IntKind.i64.wrap (@HAdd.hAdd Int Int Int _ a (if (@LT.lt Int _ 32768 (if (@GT.gt Int _ (Neg.neg 32768) d) then (Neg.neg 32768) else d)) then 32768 else (if (@GT.gt Int _ (Neg.neg 32768) d) then (Neg.neg 32768) else d))))) then (Neg.neg 16384) else (IntKind.i64.wrap (@HAdd.hAdd Int Int Int _ a (if (@LT.lt Int _ 32768 (if (@GT.gt Int _ (Neg.neg 32768) d) then (Neg.neg 32768) else d)) then 32768 else (if (@GT.gt Int _ (Neg.neg 32768) d) then (Neg.neg 32768) else d)))))) then 16384 else (if (@GT.gt Int _ (Neg.neg 16384) (IntKind.i64.wrap (@HAdd.hAdd Int Int Int _ a (if (@LT.lt Int _ 32768 (if (@GT.gt Int _ (Neg.neg 32768) d) then (Neg.neg 32768) else d)) then 32768 else (if (@GT.gt Int _ (Neg.neg 32768) d) then (Neg.neg 32768) else d))))) then (Neg.neg 16384) else (IntKind.i64.wrap (@HAdd.hAdd Int Int Int _ a (if (@LT.lt Int _ 32768 (if (@GT.gt Int _ (Neg.neg 32768) d) then (Neg.neg 32768) else d)) then 32768 else (if (@GT.gt Int _ (Neg.neg 32768) d) then (Neg.neg 32768) else d)))))) (movedI a d))) (by kernel_rfl) ?_
  simp only [true_and, and_true, decide_eq_true_eq, decide_eq_false_iff_not, forall_const, implies_true, and_self]
  have e1 : ∀ x : Int, (if -32768 > x then -32768 else x) = max x (-32768) := by intro x; split <;> omega
  have e2 : ∀ x : Int, (if 32768 < x then 32768 else x) = min x 32768 := by intro x; split <;> omega
  have e3 : ∀ x : Int, (if -16384 > x then -16384 else x) = max x (-16384) := by intro x; split <;> omega
  have e4 : ∀ x : Int, (if 16384 < x then 16384 else x) = min x 16384 := by intro x; split <;> omega
  rw [e1, e2, e3, e4]
  rfl
abbrev K20 : KCons := (91, fun Γc => pure_ Γc ((pcon [.d I64, .d I64] fun x => (True, .int .i64 (movedI x.1 x.2.1))))) :: K19
theorem HK20 : KS Try.prog K20 := ks_add (ksound_pure (s_moved)) HK19
def translR (r : Rect) (dx dy : Int) : Rect := if emptyR r = true then (0, 0, 0, 0) else canonR (movedI r.1 dx, movedI r.2.1 dy, movedI r.2.2.1 dx, movedI r.2.2.2 dy)
theorem s_rTranslate : PSound Try.prog 80 (pcon [.d RectT, .d I64, .d I64] fun x => (True, .agg (enc RectT (translR x.1 x.2.1 x.2.2.1)))) := by
  refine psoundF (K := K20) (Γc := C14) (Γr := R0) (fun _ => []) hm HK20 HC14 HR0 Try.call80 Try.func80 (by kernel_rfl) ?_
  rintro ⟨⟨a, b, c, d⟩, dx, dy, _⟩ _
  refine Eq.mpr (β := (True ∧ True ∧ True ∧ True ∧ (@Eq Bool (emptyR (a, (b, (c, d)))) true → (True ∧ True ∧ (True ∧ True) ∧ @Eq Int 0 (translR (a, (b, (c, d))) dx dy).1 ∧ @Eq Int 0 (translR (a, (b, (c, d))) dx dy).2.1 ∧ @Eq Int 0 (translR (a, (b, (c, d))) dx dy).2.2.1 ∧ @Eq Int 0 (translR (a, (b, (c, d))) dx dy).2.2.2 ∧ True)) ∧ (@Eq Bool (emptyR (a, (b, (c, d)))) false → ((True ∧ True ∧ True ∧ True ∧ True ∧ True ∧ True ∧ True ∧ True ∧ True ∧ True ∧ True ∧ True ∧ True ∧ True ∧ True ∧ True ∧ True ∧ True ∧ True) ∧ (True ∧ True) ∧ @Eq Int (canonR ((movedI a dx), ((movedI b dy), ((movedI c dx), (movedI d dy))))).1 (translR (a, (b, (c, d))) dx dy).1 ∧ @Eq Int (canonR ((movedI a dx), ((movedI b dy), ((movedI c dx), (movedI d dy))))).2.1 (translR (a, (b, (c, d))) dx dy).2.1 ∧ @Eq Int (canonR ((movedI a dx), ((movedI b dy), ((movedI c dx), (movedI d dy))))).2.2.1 (translR (a, (b, (c, d))) dx dy).2.2.1 ∧ @Eq Int (canonR ((movedI a dx), ((movedI b dy), ((movedI c dx), (movedI d dy))))).2.2.2 (translR (a, (b, (c, d))) dx dy).2.2.2 ∧ True)))) (by kernel_rfl) ?_
  simp only [true_and, and_true, decide_eq_true_eq, decide_eq_false_iff_not, forall_const, implies_true, and_self]
  exact ⟨fun h => by simp [translR, h], fun h => by simp [translR, h]⟩
abbrev K21 : KCons := (80, fun Γc => pure_ Γc ((pcon [.d RectT, .d I64, .d I64] fun x => (True, .agg (enc RectT (translR x.1 x.2.1 x.2.2.1)))))) :: K20
theorem HK21 : KS Try.prog K21 := ks_add (ksound_pure (s_rTranslate)) HK20
theorem canonR_range (r : Rect) : (-16384 ≤ (canonR r).1 ∧ (canonR r).1 ≤ 16384) ∧ (-16384 ≤ (canonR r).2.1 ∧ (canonR r).2.1 ≤ 16384) ∧ (-16384 ≤ (canonR r).2.2.1 ∧ (canonR r).2.2.1 ≤ 16384) ∧ (-16384 ≤ (canonR r).2.2.2 ∧ (canonR r).2.2.2 ≤ 16384) := by
  unfold canonR
  split
  · simp
  · rename_i h
    simp [emptyR, validR, coordOk] at h
    omega
def areaR (r : Rect) : Int := ((canonR r).2.2.1 - (canonR r).1) * ((canonR r).2.2.2 - (canonR r).2.1)
theorem s_rArea : PSound Try.prog 24 (pcon [.d RectT] fun x => (True, .int .i64 (areaR x.1))) := by
  refine psoundF (K := K21) (Γc := C14) (Γr := R0) (fun _ => []) hm HK21 HC14 HR0 Try.call24 Try.func24 (by kernel_rfl) ?_
  rintro ⟨r, _⟩ _
  refine Eq.mpr (β := (True ∧ True ∧ True ∧ True ∧ True ∧ True ∧ True ∧ True ∧ True ∧ True ∧ True ∧ True ∧ True ∧ True ∧ True ∧ True ∧ True ∧ (True ∧ True) ∧ @Eq Int (IntKind.i64.wrap (@HMul.hMul Int Int Int _ (IntKind.i64.wrap (@HSub.hSub Int Int Int _ (canonR r).2.2.1 (canonR r).1)) (IntKind.i64.wrap (@HSub.hSub Int Int Int _ (canonR r).2.2.2 (canonR r).2.1)))) (areaR r))) (by kernel_rfl) ?_
  simp only [true_and, and_true, decide_eq_true_eq, decide_eq_false_iff_not, forall_const, implies_true, and_self]
  have h := canonR_range r
  show IntKind.i64.wrap (IntKind.i64.wrap ((canonR r).2.2.1 - (canonR r).1) * IntKind.i64.wrap ((canonR r).2.2.2 - (canonR r).2.1)) = areaR r
  rw [wrap_in (n := (canonR r).2.2.1 - (canonR r).1) (by omega), wrap_in (n := (canonR r).2.2.2 - (canonR r).2.1) (by omega)]
  have := mul_range (p := (canonR r).2.2.1 - (canonR r).1) (q := (canonR r).2.2.2 - (canonR r).2.1) (B := 32768) (by omega) (by omega)
  rw [wrap_in (by omega)]
  rfl
abbrev K22 : KCons := (24, fun Γc => pure_ Γc ((pcon [.d RectT] fun x => (True, .int .i64 (areaR x.1))))) :: K21
theorem HK22 : KS Try.prog K22 := ks_add (ksound_pure (s_rArea)) HK21
end Go.Proofs.Ytogbocplojbdjaa
