/-
  A part of the proof: what some of the program's functions compute.
-/
import Derived.Test.YtmikompgiikcnaaGreatVRJ
namespace Go.Proofs.YtmikompgiikcnaaGreat
open Go Go.E Go.Proofs
set_option linter.unusedVariables false
set_option linter.unusedSimpArgs false
theorem comb_len {a b : List Rect} (m : Int) (h : a.length + b.length ≤ 2000) : (combinedL a b m).length ≤ 16000000 := by
  unfold combinedL
  have h1 := (combS_len a b m (ysOf a b) ((ysOf a b).length - 1)).1
  have h2 : (ysOf a b).length ≤ 2 * (a.length + b.length) := by
    unfold ysOf
    have g1 := rowsL_len b (rowsL a [])
    have g2 := rowsL_len a []
    simp only [List.length_nil] at g2
    omega
  refine Nat.le_trans h1 ?_
  have : ((ysOf a b).length - 1) * (2 * (a.length + b.length)) ≤ 4000 * 4000 := Nat.mul_le_mul (by omega) (by omega)
  omega
theorem keep_one : keepF (fun v => v.1 || v.2.1) = modeB 1 := by
  funext p q
  cases p <;> cases q <;> rfl
theorem keep_two : keepF (fun v => v.1 && v.2.1) = modeB 2 := by
  funext p q
  cases p <;> cases q <;> rfl
theorem keep_three : keepF (fun v => v.1 && !v.2.1) = modeB 3 := by
  funext p q
  cases p <;> cases q <;> rfl
theorem bandsP_len (a b : List Rect) (keep : Keep) (h : a.length + b.length ≤ 2000) : (bandsP a b keep).length ≤ 4000 := by
  unfold bandsP
  refine Nat.le_trans (bandK_len _ _ _) ?_
  have := ysP_len a b
  omega
theorem s_limited : KSound Tryz.prog 84 (fun Γc => gCon Γc g_limited) := by
  refine gsoundF (K := K51) (Γc := C41) (Γr := R0) (fun _ => []) hm HK51 HC41 HR0 Tryz.call84 Tryz.func84 (by kernel_rfl) (fun _ => by kernel_rfl) (fun _ => rfl) ?_
  intro xs _
  refine Eq.mpr (β := (True ∧ True ∧ True ∧ True ∧ True ∧ (@Eq Bool (@decide (@GT.gt Int _ (@Nat.cast Int _ (List.length xs)) 256) (Int.decLt 256 (@Nat.cast Int _ (List.length xs)))) true → (True ∧ True ∧ (True ∧ True ∧ True) ∧ (True ∧ True) ∧ ((True ∧ @Eq Int 5 (limE xs) ∧ True) ∧ True) ∧ @Eq _ (limL xs) ([] : List (Ty.T RectT)) ∧ True)) ∧ (@Eq Bool (@decide (@GT.gt Int _ (@Nat.cast Int _ (List.length xs)) 256) (Int.decLt 256 (@Nat.cast Int _ (List.length xs)))) false → (True ∧ True ∧ True ∧ (True ∧ True ∧ True) ∧ (True ∧ True) ∧ ((True ∧ @Eq Int 0 (limE xs) ∧ True) ∧ True) ∧ @Eq _ xs (limL xs) ∧ True)))) (by kernel_rfl) ?_
  simp only [true_and, and_true, decide_eq_true_eq, decide_eq_false_iff_not, forall_const, implies_true, and_self]
  refine ⟨fun h => ?_, fun h => ?_⟩
  · have h : ¬ List.length xs ≤ 256 := by omega
    simp [limL, limE, h]
  · have h : List.length xs ≤ 256 := by omega
    simp [limL, limE, h]
abbrev K52 : KCons := (84, fun Γc => gCon Γc g_limited) :: K51
theorem HK52 : KS Tryz.prog K52 := ks_add (s_limited) HK51
theorem s_canonical : PSound Tryz.prog 83 (pcon [.d (.list RectT)] fun x => (x.1.length ≤ 1000, .own RectT (combinedL x.1 [] 1))) := by
  refine psoundF (K := K52) (Γc := C41) (Γr := R0) (fun _ => []) hm HK52 HC41 HR0 Tryz.call83 Tryz.func83 (by kernel_rfl) ?_
  rintro ⟨a, _⟩ hx
  have hx : List.length a ≤ 1000 := hx
  refine Eq.mpr (β := (True ∧ True ∧ (@LE.le Nat _ (List.length a) 1000 ∧ @LE.le Nat _ (List.length ([] : List (Ty.T RectT))) 1000) ∧ (@LE.le Nat _ (List.length (bandsP a ([] : List (Ty.T RectT)) (keepF (fun (v0 : (Ts (Ty.bool :: (Ty.bool :: ([] : List Ty))))) => (or v0.1 v0.2.1))))) 1000000000 ∧ @LE.le Nat _ (List.length (rectsB (bandsP a ([] : List (Ty.T RectT)) (keepF (fun (v0 : (Ts (Ty.bool :: (Ty.bool :: ([] : List Ty))))) => (or v0.1 v0.2.1)))))) 1000000000) ∧ True ∧ (True ∧ True) ∧ @Eq _ (rectsB (bandsP a ([] : List (Ty.T RectT)) (keepF (fun (v0 : (Ts (Ty.bool :: (Ty.bool :: ([] : List Ty))))) => (or v0.1 v0.2.1))))) (combinedL a ([] : List Rect) 1))) (by kernel_rfl) ?_
  simp only [true_and, and_true, decide_eq_true_eq, decide_eq_false_iff_not, forall_const, implies_true, and_self]
  rw [show keepF _ = modeB 1 from keep_one, bandsP_is]
  have h1 := comb_len (a := a) (b := []) 1 (by simp; omega)
  have h2 := bandsP_len a [] (modeB 1) (by simp; omega)
  exact ⟨⟨hx, by simp⟩, ⟨by omega, by omega⟩, rfl⟩
abbrev K53 : KCons := (83, fun Γc => pure_ Γc ((pcon [.d (.list RectT)] fun x => (x.1.length ≤ 1000, .own RectT (combinedL x.1 [] 1))))) :: K52
theorem HK53 : KS Tryz.prog K53 := ks_add (ksound_pure (s_canonical)) HK52
theorem sameRects_comm (a b : List Rect) : sameRects a b = sameRects b a := by
  unfold sameRects
  rw [Bool.eq_iff_iff]
  simp only [decide_eq_true_eq]
  exact ⟨Eq.symm, Eq.symm⟩
def isCan (l : List Rect) : Bool := decide ((l.length : Int) ≤ 256) && sameRects (combinedL l [] 1) l
theorem s_rIsCanonical : PSound Tryz.prog 72 (pcon [.d (.list RectT)] fun x => (x.1.length ≤ 1000, .bool (isCan x.1))) := by
  refine psoundF (K := K53) (Γc := C41) (Γr := R0) (fun _ => []) hm HK53 HC41 HR0 Tryz.call72 Tryz.func72 (by kernel_rfl) ?_
  rintro ⟨a, _⟩ hx
  have hx : List.length a ≤ 1000 := hx
  refine Eq.mpr (β := (True ∧ True ∧ True ∧ True ∧ True ∧ (@Eq Bool (@decide (@LE.le Int _ (@Nat.cast Int _ (List.length a)) 256) (Int.decLe (@Nat.cast Int _ (List.length a)) 256)) true → True) ∧ (@Eq Bool (@decide (@LE.le Int _ (@Nat.cast Int _ (List.length a)) 256) (Int.decLe (@Nat.cast Int _ (List.length a)) 256)) true → @LE.le Nat _ (List.length a) 1000) ∧ (@Eq Bool (@decide (@LE.le Int _ (@Nat.cast Int _ (List.length a)) 256) (Int.decLe (@Nat.cast Int _ (List.length a)) 256)) true → True) ∧ (@Eq Bool (@decide (@LE.le Int _ (@Nat.cast Int _ (List.length a)) 256) (Int.decLe (@Nat.cast Int _ (List.length a)) 256)) true → (@LE.le Nat _ (List.length (combinedL a ([] : List Rect) 1)) 1000000000 ∧ @LE.le Nat _ (List.length a) 1000000000)) ∧ True ∧ True ∧ (True ∧ True) ∧ @Eq Bool (and (@decide (@LE.le Int _ (@Nat.cast Int _ (List.length a)) 256) (Int.decLe (@Nat.cast Int _ (List.length a)) 256)) (sameRects (combinedL a ([] : List Rect) 1) a)) (isCan a))) (by kernel_rfl) ?_
  simp only [true_and, and_true, decide_eq_true_eq, decide_eq_false_iff_not, forall_const, implies_true, and_self]
  have h1 := comb_len (a := a) (b := []) 1 (by simp; omega)
  exact ⟨fun _ => hx, fun _ => ⟨by omega, by omega⟩, rfl⟩
abbrev K54 : KCons := (72, fun Γc => pure_ Γc ((pcon [.d (.list RectT)] fun x => (x.1.length ≤ 1000, .bool (isCan x.1))))) :: K53
theorem HK54 : KS Tryz.prog K54 := ks_add (ksound_pure (s_rIsCanonical)) HK53
def opOut (a b : List Rect) (m : Int) : AV := .tup [.own RectT (limL (combinedL a b m)), .int .i64 (limE (combinedL a b m))]
theorem s_rSubtract : PSound Tryz.prog 73 (pcon [.d (.list RectT), .d (.list RectT)] fun x => (x.1.length ≤ 1000 ∧ x.2.1.length ≤ 1000, opOut x.1 x.2.1 3)) := by
  refine psoundF (K := K54) (Γc := C41) (Γr := R0) (fun _ => []) hm HK54 HC41 HR0 Tryz.call73 Tryz.func73 (by kernel_rfl) ?_
  rintro ⟨a, b, _⟩ hx
  obtain ⟨ha, hb⟩ : List.length a ≤ 1000 ∧ List.length b ≤ 1000 := hx
  refine Eq.mpr (β := (True ∧ True ∧ True ∧ True ∧ (@LE.le Nat _ (List.length a) 1000 ∧ @LE.le Nat _ (List.length b) 1000) ∧ (@LE.le Nat _ (List.length (bandsP a b (keepF (fun (v0 : (Ts (Ty.bool :: (Ty.bool :: ([] : List Ty))))) => (and v0.1 (not v0.2.1)))))) 1000000000 ∧ @LE.le Nat _ (List.length (rectsB (bandsP a b (keepF (fun (v0 : (Ts (Ty.bool :: (Ty.bool :: ([] : List Ty))))) => (and v0.1 (not v0.2.1))))))) 1000000000) ∧ (True ∧ (True ∧ True) ∧ @Eq _ (rectsB (bandsP a b (keepF (fun (v0 : (Ts (Ty.bool :: (Ty.bool :: ([] : List Ty))))) => (and v0.1 (not v0.2.1)))))) (rectsB (bandsP a b (keepF (fun (v0 : (Ts (Ty.bool :: (Ty.bool :: ([] : List Ty))))) => (and v0.1 (not v0.2.1)))))) ∧ True) ∧ True ∧ True ∧ True ∧ True ∧ (True ∧ True ∧ True) ∧ @Eq _ (limL (rectsB (bandsP a b (keepF (fun (v0 : (Ts (Ty.bool :: (Ty.bool :: ([] : List Ty))))) => (and v0.1 (not v0.2.1))))))) (limL (combinedL a b 3)) ∧ @Eq Int (limE (rectsB (bandsP a b (keepF (fun (v0 : (Ts (Ty.bool :: (Ty.bool :: ([] : List Ty))))) => (and v0.1 (not v0.2.1))))))) (limE (combinedL a b 3)) ∧ True)) (by kernel_rfl) ?_
  simp only [true_and, and_true, decide_eq_true_eq, decide_eq_false_iff_not, forall_const, implies_true, and_self]
  rw [show keepF _ = modeB 3 from keep_three, bandsP_is]
  have h1 := comb_len (a := a) (b := b) 3 (by omega)
  have h2 := bandsP_len a b (modeB 3) (by omega)
  exact ⟨⟨ha, hb⟩, ⟨by omega, by omega⟩, rfl, rfl⟩
abbrev K55 : KCons := (73, fun Γc => pure_ Γc ((pcon [.d (.list RectT), .d (.list RectT)] fun x => (x.1.length ≤ 1000 ∧ x.2.1.length ≤ 1000, opOut x.1 x.2.1 3)))) :: K54
theorem HK55 : KS Tryz.prog K55 := ks_add (ksound_pure (s_rSubtract)) HK54
def eqReg (a b : List Rect) : Bool := sameRects (combinedL a [] 1) (combinedL b [] 1)
theorem s_r5IsCanonical : PSound Tryz.prog 59 (pcon [.d (.list RectT)] fun x => (x.1.length ≤ 1000, .bool (isCan x.1))) := by
  refine psoundF (K := K55) (Γc := C41) (Γr := R0) (fun _ => []) hm HK55 HC41 HR0 Tryz.call59 Tryz.func59 (by kernel_rfl) ?_
  rintro ⟨a, _⟩ hx
  have hx : List.length a ≤ 1000 := hx
  refine Eq.mpr (β := (True ∧ True ∧ True ∧ True ∧ True ∧ (@Eq Bool (@decide (@LE.le Int _ (@Nat.cast Int _ (List.length a)) 256) (Int.decLe (@Nat.cast Int _ (List.length a)) 256)) true → True) ∧ (@Eq Bool (@decide (@LE.le Int _ (@Nat.cast Int _ (List.length a)) 256) (Int.decLe (@Nat.cast Int _ (List.length a)) 256)) true → True) ∧ (@Eq Bool (@decide (@LE.le Int _ (@Nat.cast Int _ (List.length a)) 256) (Int.decLe (@Nat.cast Int _ (List.length a)) 256)) true → (@LE.le Nat _ (List.length a) 1000 ∧ @LE.le Nat _ (List.length ([] : List (Ty.T RectT))) 1000)) ∧ (@Eq Bool (@decide (@LE.le Int _ (@Nat.cast Int _ (List.length a)) 256) (Int.decLe (@Nat.cast Int _ (List.length a)) 256)) true → (@LE.le Nat _ (List.length a) 1000000000 ∧ @LE.le Nat _ (List.length (combinedL a ([] : List (Ty.T RectT)) 1)) 1000000000)) ∧ True ∧ True ∧ (True ∧ True) ∧ @Eq Bool (and (@decide (@LE.le Int _ (@Nat.cast Int _ (List.length a)) 256) (Int.decLe (@Nat.cast Int _ (List.length a)) 256)) (sameRects a (combinedL a ([] : List (Ty.T RectT)) 1))) (isCan a))) (by kernel_rfl) ?_
  simp only [true_and, and_true, decide_eq_true_eq, decide_eq_false_iff_not, forall_const, implies_true, and_self]
  have h1 := comb_len (a := a) (b := []) 1 (by simp; omega)
  refine ⟨fun _ => ⟨hx, by simp⟩, fun _ => ⟨by omega, by omega⟩, ?_⟩
  unfold isCan
  rw [sameRects_comm]
abbrev K56 : KCons := (59, fun Γc => pure_ Γc ((pcon [.d (.list RectT)] fun x => (x.1.length ≤ 1000, .bool (isCan x.1))))) :: K55
theorem HK56 : KS Tryz.prog K56 := ks_add (ksound_pure (s_r5IsCanonical)) HK55
end Go.Proofs.YtmikompgiikcnaaGreat
