/-
  A part of the proof: what some of the program's functions compute.
-/
import Derived.Test.YtogbocplojbdjaaVRA2
namespace Go.Proofs.Ytogbocplojbdjaa
open Go Go.E Go.Proofs
set_option linter.unusedVariables false
set_option linter.unusedSimpArgs false
def cleanL (xs : List Rect) : List Rect := xs.filter fun r => !emptyR r
theorem cleanL_step {xs : List Rect} {i : Nat} {x : Rect} (h : xs[i]? = some x) : cleanL (xs.take (i + 1)) = cleanL (xs.take i) ++ (if (!emptyR x) = true then [x] else []) := by
  unfold cleanL
  rw [List.take_add_one, h, List.filter_append]
  simp only [Option.toList]
  by_cases hp : (!emptyR x) = true <;> simp [List.filter, hp]
theorem cleanL_len (xs : List Rect) : (cleanL xs).length ≤ xs.length := List.length_filter_le _ _
theorem s_clean : PSound Try.prog 59 (pcon [.d (.list RectT)] fun x => (x.1.length ≤ 1000000, .arr RectT (cleanL x.1))) := by
  refine psoundF (K := K22) (Γc := C14) (Γr := R0) (fun x => [(3, annP [.slot 8 I64, .own 3 RectT] (fun _ y => 0 ≤ y.1 ∧ y.1 ≤ x.1.length ∧ y.2.1 = cleanL (x.1.take y.1.toNat)) (fun y => (x.1.length - y.1 : Int).toNat))]) hm HK22 HC14 HR0 Try.call59 Try.func59 (by kernel_rfl) ?_
  rintro ⟨xs, _⟩ hx
  have hlen : xs.length ≤ 1000000 := hx
  clear hx
  refine Eq.mpr (β := (True ∧ True ∧ True ∧ True ∧ True ∧ ((True ∧ (@Eq Int 0 0 ∧ @Eq Int (@Nat.cast Int _ (List.length xs)) (@Nat.cast Int _ (List.length xs)) ∧ @Eq _ xs xs ∧ True ∧ True ∧ @Eq _ xs xs ∧ True) ∧ @Eq _ ([] : List (Ty.T RectT)) ([] : List (Ty.T RectT)) ∧ True) ∧ @LE.le Int _ 0 0 ∧ @LE.le Int _ 0 (@Nat.cast (Pl.T (Pl.slot 8 I64)) _ (List.length xs)) ∧ @Eq _ ([] : List (Ty.T RectT)) (cleanL (List.take 0 xs))) ∧ (∀ (v0 : (Prod Int (Prod (List Rect) Unit))), ((@LE.le Int _ 0 v0.1 ∧ @LE.le Int _ v0.1 (@Nat.cast (Pl.T (Pl.slot 8 I64)) _ (List.length xs)) ∧ @Eq _ v0.2.1 (cleanL (List.take (Int.toNat v0.1) xs))) → (True ∧ (@Eq Bool (@decide (@LT.lt Int _ v0.1 (@Nat.cast Int _ (List.length xs))) (Int.decLt v0.1 (@Nat.cast Int _ (List.length xs)))) true → ((@LE.le Int _ 0 v0.1 ∧ @LE.le Int _ (@HAdd.hAdd Int Int Int _ v0.1 1) (@Nat.cast Int _ (List.length xs))) ∧ True ∧ True ∧ True ∧ True ∧ True ∧ True ∧ (@Eq Bool (not (emptyR (@elemAt RectT xs (Int.toNat v0.1)))) true → (True ∧ True ∧ True ∧ @LE.le Nat _ (@HMul.hMul Nat Nat Nat _ (@HAdd.hAdd Nat Nat Nat _ (List.length v0.2.1) (List.length ((@elemAt RectT xs (Int.toNat v0.1)) :: ([] : List (Ty.T RectT))))) 32) 140737488355328 ∧ True ∧ True ∧ True ∧ (True ∧ (@Eq Int (IntKind.i64.wrap (@HAdd.hAdd Int Int Int _ v0.1 1)) (IntKind.i64.wrap (@HAdd.hAdd Int Int Int _ v0.1 1)) ∧ @Eq Int (@Nat.cast Int _ (List.length xs)) (@Nat.cast Int _ (List.length xs)) ∧ @Eq _ xs xs ∧ True ∧ True ∧ @Eq _ xs xs ∧ True) ∧ @Eq _ (HAppend.hAppend v0.2.1 ((@elemAt RectT xs (Int.toNat v0.1)) :: ([] : List (Ty.T RectT)))) (HAppend.hAppend v0.2.1 ((@elemAt RectT xs (Int.toNat v0.1)) :: ([] : List (Ty.T RectT)))) ∧ True) ∧ (@LE.le Int _ 0 (IntKind.i64.wrap (@HAdd.hAdd Int Int Int _ v0.1 1)) ∧ @LE.le Int _ (IntKind.i64.wrap (@HAdd.hAdd Int Int Int _ v0.1 1)) (@Nat.cast (Pl.T (Pl.slot 8 I64)) _ (List.length xs)) ∧ @Eq _ (HAppend.hAppend v0.2.1 ((@elemAt RectT xs (Int.toNat v0.1)) :: ([] : List (Ty.T RectT)))) (cleanL (List.take (Int.toNat (IntKind.i64.wrap (@HAdd.hAdd Int Int Int _ v0.1 1))) xs))) ∧ @LT.lt Nat _ (Int.toNat (@HSub.hSub Int Int Int _ (@Nat.cast Int _ (List.length xs)) (IntKind.i64.wrap (@HAdd.hAdd Int Int Int _ v0.1 1)))) (Int.toNat (@HSub.hSub Int Int Int _ (@Nat.cast Int _ (List.length xs)) v0.1)))) ∧ (@Eq Bool (not (emptyR (@elemAt RectT xs (Int.toNat v0.1)))) false → (True ∧ True ∧ (True ∧ (@Eq Int (IntKind.i64.wrap (@HAdd.hAdd Int Int Int _ v0.1 1)) (IntKind.i64.wrap (@HAdd.hAdd Int Int Int _ v0.1 1)) ∧ @Eq Int (@Nat.cast Int _ (List.length xs)) (@Nat.cast Int _ (List.length xs)) ∧ @Eq _ xs xs ∧ True ∧ True ∧ @Eq _ xs xs ∧ True) ∧ @Eq _ v0.2.1 v0.2.1 ∧ True) ∧ (@LE.le Int _ 0 (IntKind.i64.wrap (@HAdd.hAdd Int Int Int _ v0.1 1)) ∧ @LE.le Int _ (IntKind.i64.wrap (@HAdd.hAdd Int Int Int _ v0.1 1)) (@Nat.cast (Pl.T (Pl.slot 8 I64)) _ (List.length xs)) ∧ @Eq _ v0.2.1 (cleanL (List.take (Int.toNat (IntKind.i64.wrap (@HAdd.hAdd Int Int Int _ v0.1 1))) xs))) ∧ @LT.lt Nat _ (Int.toNat (@HSub.hSub Int Int Int _ (@Nat.cast Int _ (List.length xs)) (IntKind.i64.wrap (@HAdd.hAdd Int Int Int _ v0.1 1)))) (Int.toNat (@HSub.hSub Int Int Int _ (@Nat.cast Int _ (List.length xs)) v0.1)))))) ∧ (@Eq Bool (@decide (@LT.lt Int _ v0.1 (@Nat.cast Int _ (List.length xs))) (Int.decLt v0.1 (@Nat.cast Int _ (List.length xs)))) false → (True ∧ True ∧ (True ∧ True) ∧ @Eq _ v0.2.1 (cleanL xs)))))))) (by kernel_rfl) ?_
  simp only [true_and, and_true, decide_eq_true_eq, decide_eq_false_iff_not, forall_const, implies_true, and_self]
  refine ⟨⟨by omega, by omega, by simp [cleanL]⟩, ?_⟩
  rintro ⟨i, out, _⟩ ⟨h1, h2, h3⟩
  simp only at h1 h2 h3 ⊢
  have hout : out.length ≤ xs.length := by
    rw [h3]; exact Nat.le_trans (List.length_filter_le _ _) (by rw [List.length_take]; omega)
  refine ⟨fun hi => ?_, fun hi => ?_⟩
  · have hx := elemAt_get (t := RectT) xs i.toNat (by omega)
    have hst := cleanL_step hx
    rw [wrap_in (by omega)]
    have e : (i + 1).toNat = i.toNat + 1 := by omega
    refine ⟨⟨h1, by omega⟩, fun hp => ⟨?_, ⟨by omega, by omega, ?_⟩, ?_⟩, fun hp => ⟨⟨by omega, by omega, ?_⟩, ?_⟩⟩
    · simp; omega
    · rw [e, hst, ← h3, if_pos (by simpa using hp)]
    · omega
    · rw [e, hst, ← h3, if_neg (by simpa using hp)]; simp
    · omega
  · rw [h3, List.take_of_length_le (by omega)]
abbrev K23 : KCons := (59, fun Γc => pure_ Γc ((pcon [.d (.list RectT)] fun x => (x.1.length ≤ 1000000, .arr RectT (cleanL x.1))))) :: K22
theorem HK23 : KS Try.prog K23 := ks_add (ksound_pure (s_clean)) HK22
end Go.Proofs.Ytogbocplojbdjaa
