/-
  A part of the proof: what some of the program's functions compute.
-/
import Derived.Test.YtogbocplojbdjaaVRJ
namespace Go.Proofs.Ytogbocplojbdjaa
open Go Go.E Go.Proofs
set_option linter.unusedVariables false
set_option linter.unusedSimpArgs false
theorem comb_len {a b : List Rect} (m : Int) (h : a.length + b.length ≤ 2000) : (combinedL a b m).length ≤ 16000000 := by
  unfold combinedL
  have h1 := (combS_len a b m (ysOf a b) ((ysOf a b).length - 1)).1
  have h2 : (ysOf a b).length ≤ 2 * (a.length + b.length) := by
    unfold ysOf
    have g1 := rowsL_len b (rowsL a [])
    have g2 := rowsL_len a []
    simp only [List.length_nil] at g2
    omega
  refine Nat.le_trans h1 ?_
  have : ((ysOf a b).length - 1) * (2 * (a.length + b.length)) ≤ 4000 * 4000 := Nat.mul_le_mul (by omega) (by omega)
  omega
theorem keep_one : keepF (fun v => v.1 || v.2.1) = modeB 1 := by
  funext p q
  cases p <;> cases q <;> rfl
theorem keep_two : keepF (fun v => v.1 && v.2.1) = modeB 2 := by
  funext p q
  cases p <;> cases q <;> rfl
theorem keep_three : keepF (fun v => v.1 && !v.2.1) = modeB 3 := by
  funext p q
  cases p <;> cases q <;> rfl
theorem bandsP_len (a b : List Rect) (keep : Keep) (h : a.length + b.length ≤ 2000) : (bandsP a b keep).length ≤ 4000 := by
  unfold bandsP
  refine Nat.le_trans (bandK_len _ _ _) ?_
  have := ysP_len a b
  omega
theorem s_limited : KSound Try.prog 43 (fun Γc => gCon Γc g_limited) := by
  refine gsoundF (K := K43) (Γc := C33) (Γr := R0) (fun _ => []) hm HK43 HC33 HR0 Try.call43 Try.func43 (by kernel_rfl) (fun _ => by kernel_rfl) (fun _ => rfl) ?_
  intro xs _
  refine Eq.mpr (β := (True ∧ True ∧ True ∧ True ∧ True ∧ (@Eq Bool (@decide (@GT.gt Int _ (@Nat.cast Int _ (List.length xs)) 256) (Int.decLt 256 (@Nat.cast Int _ (List.length xs)))) true → (True ∧ True ∧ (True ∧ True ∧ True) ∧ (True ∧ True) ∧ ((True ∧ @Eq Int 5 (limE xs) ∧ True) ∧ True) ∧ @Eq _ (limL xs) ([] : List (Ty.T RectT)) ∧ True)) ∧ (@Eq Bool (@decide (@GT.gt Int _ (@Nat.cast Int _ (List.length xs)) 256) (Int.decLt 256 (@Nat.cast Int _ (List.length xs)))) false → (True ∧ True ∧ True ∧ (True ∧ True ∧ True) ∧ (True ∧ True) ∧ ((True ∧ @Eq Int 0 (limE xs) ∧ True) ∧ True) ∧ @Eq _ xs (limL xs) ∧ True)))) (by kernel_rfl) ?_
  simp only [true_and, and_true, decide_eq_true_eq, decide_eq_false_iff_not, forall_const, implies_true, and_self]
  refine ⟨fun h => ?_, fun h => ?_⟩
  · have h : ¬ List.length xs ≤ 256 := by omega
    simp [limL, limE, h]
  · have h : List.length xs ≤ 256 := by omega
    simp [limL, limE, h]
abbrev K44 : KCons := (43, fun Γc => gCon Γc g_limited) :: K43
theorem HK44 : KS Try.prog K44 := ks_add (s_limited) HK43
theorem s_canonical : PSound Try.prog 39 (pcon [.d (.list RectT)] fun x => (x.1.length ≤ 1000, .own RectT (combinedL x.1 [] 1))) := by
  refine psoundF (K := K44) (Γc := C33) (Γr := R0) (fun _ => []) hm HK44 HC33 HR0 Try.call39 Try.func39 (by kernel_rfl) ?_
  rintro ⟨a, _⟩ hx
  have hx : List.length a ≤ 1000 := hx
  refine Eq.mpr (β := (True ∧ True ∧ (@LE.le Nat _ (List.length a) 1000 ∧ @LE.le Nat _ (List.length ([] : List (Ty.T RectT))) 1000) ∧ (@LE.le Nat _ (List.length (bandsP a ([] : List (Ty.T RectT)) (keepF (fun (v0 : (Ts (Ty.bool :: (Ty.bool :: ([] : List Ty))))) => (or v0.1 v0.2.1))))) 1000000000 ∧ @LE.le Nat _ (List.length (rectsB (bandsP a ([] : List (Ty.T RectT)) (keepF (fun (v0 : (Ts (Ty.bool :: (Ty.bool :: ([] : List Ty))))) => (or v0.1 v0.2.1)))))) 1000000000) ∧ True ∧ (True ∧ True) ∧ @Eq _ (rectsB (bandsP a ([] : List (Ty.T RectT)) (keepF (fun (v0 : (Ts (Ty.bool :: (Ty.bool :: ([] : List Ty))))) => (or v0.1 v0.2.1))))) (combinedL a ([] : List Rect) 1))) (by kernel_rfl) ?_
  simp only [true_and, and_true, decide_eq_true_eq, decide_eq_false_iff_not, forall_const, implies_true, and_self]
  rw [show keepF _ = modeB 1 from keep_one, bandsP_is]
  have h1 := comb_len (a := a) (b := []) 1 (by simp; omega)
  have h2 := bandsP_len a [] (modeB 1) (by simp; omega)
  exact ⟨⟨hx, by simp⟩, ⟨by omega, by omega⟩, rfl⟩
abbrev K45 : KCons := (39, fun Γc => pure_ Γc ((pcon [.d (.list RectT)] fun x => (x.1.length ≤ 1000, .own RectT (combinedL x.1 [] 1))))) :: K44
theorem HK45 : KS Try.prog K45 := ks_add (ksound_pure (s_canonical)) HK44
theorem s_rNew : PSound Try.prog 50 (pcon [.d (.list RectT)] fun x => (x.1.length ≤ 1000, .tup [.own RectT (limL (combinedL x.1 [] 1)), .int .i64 (limE (combinedL x.1 [] 1))])) := by
  refine psoundF (K := K45) (Γc := C33) (Γr := R0) (fun _ => []) hm HK45 HC33 HR0 Try.call50 Try.func50 (by kernel_rfl) ?_
  rintro ⟨a, _⟩ hx
  have hx : List.length a ≤ 1000 := hx
  refine Eq.mpr (β := (True ∧ True ∧ True ∧ @LE.le Nat _ (List.length a) 1000 ∧ (True ∧ (True ∧ True) ∧ @Eq _ (combinedL a ([] : List Rect) 1) (combinedL a ([] : List Rect) 1) ∧ True) ∧ True ∧ True ∧ True ∧ True ∧ (True ∧ True ∧ True) ∧ @Eq _ (limL (combinedL a ([] : List Rect) 1)) (limL (combinedL a ([] : List Rect) 1)) ∧ @Eq Int (limE (combinedL a ([] : List Rect) 1)) (limE (combinedL a ([] : List Rect) 1)) ∧ True)) (by kernel_rfl) ?_
  simp only [true_and, and_true, decide_eq_true_eq, decide_eq_false_iff_not, forall_const, implies_true, and_self]
  exact hx
abbrev K46 : KCons := (50, fun Γc => pure_ Γc ((pcon [.d (.list RectT)] fun x => (x.1.length ≤ 1000, .tup [.own RectT (limL (combinedL x.1 [] 1)), .int .i64 (limE (combinedL x.1 [] 1))])))) :: K45
theorem HK46 : KS Try.prog K46 := ks_add (ksound_pure (s_rNew)) HK45
theorem sameRects_comm (a b : List Rect) : sameRects a b = sameRects b a := by
  unfold sameRects
  rw [Bool.eq_iff_iff]
  simp only [decide_eq_true_eq]
  exact ⟨Eq.symm, Eq.symm⟩
def isCan (l : List Rect) : Bool := decide ((l.length : Int) ≤ 256) && sameRects (combinedL l [] 1) l
theorem s_rIsCanonical : PSound Try.prog 16 (pcon [.d (.list RectT)] fun x => (x.1.length ≤ 1000, .bool (isCan x.1))) := by
  refine psoundF (K := K46) (Γc := C33) (Γr := R0) (fun _ => []) hm HK46 HC33 HR0 Try.call16 Try.func16 (by kernel_rfl) ?_
  rintro ⟨a, _⟩ hx
  have hx : List.length a ≤ 1000 := hx
  refine Eq.mpr (β := (True ∧ True ∧ True ∧ True ∧ True ∧ (@Eq Bool (@decide (@LE.le Int _ (@Nat.cast Int _ (List.length a)) 256) (Int.decLe (@Nat.cast Int _ (List.length a)) 256)) true → True) ∧ (@Eq Bool (@decide (@LE.le Int _ (@Nat.cast Int _ (List.length a)) 256) (Int.decLe (@Nat.cast Int _ (List.length a)) 256)) true → @LE.le Nat _ (List.length a) 1000) ∧ (@Eq Bool (@decide (@LE.le Int _ (@Nat.cast Int _ (List.length a)) 256) (Int.decLe (@Nat.cast Int _ (List.length a)) 256)) true → True) ∧ (@Eq Bool (@decide (@LE.le Int _ (@Nat.cast Int _ (List.length a)) 256) (Int.decLe (@Nat.cast Int _ (List.length a)) 256)) true → (@LE.le Nat _ (List.length (combinedL a ([] : List Rect) 1)) 1000000000 ∧ @LE.le Nat _ (List.length a) 1000000000)) ∧ True ∧ True ∧ (True ∧ True) ∧ @Eq Bool (and (@decide (@LE.le Int _ (@Nat.cast Int _ (List.length a)) 256) (Int.decLe (@Nat.cast Int _ (List.length a)) 256)) (sameRects (combinedL a ([] : List Rect) 1) a)) (isCan a))) (by kernel_rfl) ?_
  simp only [true_and, and_true, decide_eq_true_eq, decide_eq_false_iff_not, forall_const, implies_true, and_self]
  have h1 := comb_len (a := a) (b := []) 1 (by simp; omega)
  exact ⟨fun _ => hx, fun _ => ⟨by omega, by omega⟩, rfl⟩
abbrev K47 : KCons := (16, fun Γc => pure_ Γc ((pcon [.d (.list RectT)] fun x => (x.1.length ≤ 1000, .bool (isCan x.1))))) :: K46
theorem HK47 : KS Try.prog K47 := ks_add (ksound_pure (s_rIsCanonical)) HK46
def opOut (a b : List Rect) (m : Int) : AV := .tup [.own RectT (limL (combinedL a b m)), .int .i64 (limE (combinedL a b m))]
theorem s_rUnionOp : PSound Try.prog 54 (pcon [.d (.list RectT), .d (.list RectT)] fun x => (x.1.length ≤ 1000 ∧ x.2.1.length ≤ 1000, opOut x.1 x.2.1 1)) := by
  refine psoundF (K := K47) (Γc := C33) (Γr := R0) (fun _ => []) hm HK47 HC33 HR0 Try.call54 Try.func54 (by kernel_rfl) ?_
  rintro ⟨a, b, _⟩ hx
  obtain ⟨ha, hb⟩ : List.length a ≤ 1000 ∧ List.length b ≤ 1000 := hx
  refine Eq.mpr (β := (True ∧ True ∧ True ∧ True ∧ (@LE.le Nat _ (List.length a) 1000 ∧ @LE.le Nat _ (List.length b) 1000) ∧ (@LE.le Nat _ (List.length (bandsP a b (keepF (fun (v0 : (Ts (Ty.bool :: (Ty.bool :: ([] : List Ty))))) => (or v0.1 v0.2.1))))) 1000000000 ∧ @LE.le Nat _ (List.length (rectsB (bandsP a b (keepF (fun (v0 : (Ts (Ty.bool :: (Ty.bool :: ([] : List Ty))))) => (or v0.1 v0.2.1)))))) 1000000000) ∧ (True ∧ (True ∧ True) ∧ @Eq _ (rectsB (bandsP a b (keepF (fun (v0 : (Ts (Ty.bool :: (Ty.bool :: ([] : List Ty))))) => (or v0.1 v0.2.1))))) (rectsB (bandsP a b (keepF (fun (v0 : (Ts (Ty.bool :: (Ty.bool :: ([] : List Ty))))) => (or v0.1 v0.2.1))))) ∧ True) ∧ True ∧ True ∧ True ∧ True ∧ (True ∧ True ∧ True) ∧ @Eq _ (limL (rectsB (bandsP a b (keepF (fun (v0 : (Ts (Ty.bool :: (Ty.bool :: ([] : List Ty))))) => (or v0.1 v0.2.1)))))) (limL (combinedL a b 1)) ∧ @Eq Int (limE (rectsB (bandsP a b (keepF (fun (v0 : (Ts (Ty.bool :: (Ty.bool :: ([] : List Ty))))) => (or v0.1 v0.2.1)))))) (limE (combinedL a b 1)) ∧ True)) (by kernel_rfl) ?_
  simp only [true_and, and_true, decide_eq_true_eq, decide_eq_false_iff_not, forall_const, implies_true, and_self]
  rw [show keepF _ = modeB 1 from keep_one, bandsP_is]
  have h1 := comb_len (a := a) (b := b) 1 (by omega)
  have h2 := bandsP_len a b (modeB 1) (by omega)
  exact ⟨⟨ha, hb⟩, ⟨by omega, by omega⟩, rfl, rfl⟩
abbrev K48 : KCons := (54, fun Γc => pure_ Γc ((pcon [.d (.list RectT), .d (.list RectT)] fun x => (x.1.length ≤ 1000 ∧ x.2.1.length ≤ 1000, opOut x.1 x.2.1 1)))) :: K47
theorem HK48 : KS Try.prog K48 := ks_add (ksound_pure (s_rUnionOp)) HK47
theorem s_rIntersect : PSound Try.prog 25 (pcon [.d (.list RectT), .d (.list RectT)] fun x => (x.1.length ≤ 1000 ∧ x.2.1.length ≤ 1000, opOut x.1 x.2.1 2)) := by
  refine psoundF (K := K48) (Γc := C33) (Γr := R0) (fun _ => []) hm HK48 HC33 HR0 Try.call25 Try.func25 (by kernel_rfl) ?_
  rintro ⟨a, b, _⟩ hx
  obtain ⟨ha, hb⟩ : List.length a ≤ 1000 ∧ List.length b ≤ 1000 := hx
  refine Eq.mpr (β := (True ∧ True ∧ True ∧ True ∧ (@LE.le Nat _ (List.length a) 1000 ∧ @LE.le Nat _ (List.length b) 1000) ∧ (@LE.le Nat _ (List.length (bandsP a b (keepF (fun (v0 : (Ts (Ty.bool :: (Ty.bool :: ([] : List Ty))))) => (and v0.1 v0.2.1))))) 1000000000 ∧ @LE.le Nat _ (List.length (rectsB (bandsP a b (keepF (fun (v0 : (Ts (Ty.bool :: (Ty.bool :: ([] : List Ty))))) => (and v0.1 v0.2.1)))))) 1000000000) ∧ (True ∧ (True ∧ True) ∧ @Eq _ (rectsB (bandsP a b (keepF (fun (v0 : (Ts (Ty.bool :: (Ty.bool :: ([] : List Ty))))) => (and v0.1 v0.2.1))))) (rectsB (bandsP a b (keepF (fun (v0 : (Ts (Ty.bool :: (Ty.bool :: ([] : List Ty))))) => (and v0.1 v0.2.1))))) ∧ True) ∧ True ∧ True ∧ True ∧ True ∧ (True ∧ True ∧ True) ∧ @Eq _ (limL (rectsB (bandsP a b (keepF (fun (v0 : (Ts (Ty.bool :: (Ty.bool :: ([] : List Ty))))) => (and v0.1 v0.2.1)))))) (limL (combinedL a b 2)) ∧ @Eq Int (limE (rectsB (bandsP a b (keepF (fun (v0 : (Ts (Ty.bool :: (Ty.bool :: ([] : List Ty))))) => (and v0.1 v0.2.1)))))) (limE (combinedL a b 2)) ∧ True)) (by kernel_rfl) ?_
  simp only [true_and, and_true, decide_eq_true_eq, decide_eq_false_iff_not, forall_const, implies_true, and_self]
  rw [show keepF _ = modeB 2 from keep_two, bandsP_is]
  have h1 := comb_len (a := a) (b := b) 2 (by omega)
  have h2 := bandsP_len a b (modeB 2) (by omega)
  exact ⟨⟨ha, hb⟩, ⟨by omega, by omega⟩, rfl, rfl⟩
abbrev K49 : KCons := (25, fun Γc => pure_ Γc ((pcon [.d (.list RectT), .d (.list RectT)] fun x => (x.1.length ≤ 1000 ∧ x.2.1.length ≤ 1000, opOut x.1 x.2.1 2)))) :: K48
theorem HK49 : KS Try.prog K49 := ks_add (ksound_pure (s_rIntersect)) HK48
theorem s_rSubtract : PSound Try.prog 41 (pcon [.d (.list RectT), .d (.list RectT)] fun x => (x.1.length ≤ 1000 ∧ x.2.1.length ≤ 1000, opOut x.1 x.2.1 3)) := by
  refine psoundF (K := K49) (Γc := C33) (Γr := R0) (fun _ => []) hm HK49 HC33 HR0 Try.call41 Try.func41 (by kernel_rfl) ?_
  rintro ⟨a, b, _⟩ hx
  obtain ⟨ha, hb⟩ : List.length a ≤ 1000 ∧ List.length b ≤ 1000 := hx
  refine Eq.mpr (β := (True ∧ True ∧ True ∧ True ∧ (@LE.le Nat _ (List.length a) 1000 ∧ @LE.le Nat _ (List.length b) 1000) ∧ (@LE.le Nat _ (List.length (bandsP a b (keepF (fun (v0 : (Ts (Ty.bool :: (Ty.bool :: ([] : List Ty))))) => (and v0.1 (not v0.2.1)))))) 1000000000 ∧ @LE.le Nat _ (List.length (rectsB (bandsP a b (keepF (fun (v0 : (Ts (Ty.bool :: (Ty.bool :: ([] : List Ty))))) => (and v0.1 (not v0.2.1))))))) 1000000000) ∧ (True ∧ (True ∧ True) ∧ @Eq _ (rectsB (bandsP a b (keepF (fun (v0 : (Ts (Ty.bool :: (Ty.bool :: ([] : List Ty))))) => (and v0.1 (not v0.2.1)))))) (rectsB (bandsP a b (keepF (fun (v0 : (Ts (Ty.bool :: (Ty.bool :: ([] : List Ty))))) => (and v0.1 (not v0.2.1)))))) ∧ True) ∧ True ∧ True ∧ True ∧ True ∧ (True ∧ True ∧ True) ∧ @Eq _ (limL (rectsB (bandsP a b (keepF (fun (v0 : (Ts (Ty.bool :: (Ty.bool :: ([] : List Ty))))) => (and v0.1 (not v0.2.1))))))) (limL (combinedL a b 3)) ∧ @Eq Int (limE (rectsB (bandsP a b (keepF (fun (v0 : (Ts (Ty.bool :: (Ty.bool :: ([] : List Ty))))) => (and v0.1 (not v0.2.1))))))) (limE (combinedL a b 3)) ∧ True)) (by kernel_rfl) ?_
  simp only [true_and, and_true, decide_eq_true_eq, decide_eq_false_iff_not, forall_const, implies_true, and_self]
  rw [show keepF _ = modeB 3 from keep_three, bandsP_is]
  have h1 := comb_len (a := a) (b := b) 3 (by omega)
  have h2 := bandsP_len a b (modeB 3) (by omega)
  exact ⟨⟨ha, hb⟩, ⟨by omega, by omega⟩, rfl, rfl⟩
abbrev K50 : KCons := (41, fun Γc => pure_ Γc ((pcon [.d (.list RectT), .d (.list RectT)] fun x => (x.1.length ≤ 1000 ∧ x.2.1.length ≤ 1000, opOut x.1 x.2.1 3)))) :: K49
theorem HK50 : KS Try.prog K50 := ks_add (ksound_pure (s_rSubtract)) HK49
def eqReg (a b : List Rect) : Bool := sameRects (combinedL a [] 1) (combinedL b [] 1)
end Go.Proofs.Ytogbocplojbdjaa
