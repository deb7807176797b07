/-
  A part of the proof: what some of the program's functions compute.
-/
import Derived.Test.YtogbocplojbdjaaGreatVRJ
namespace Go.Proofs.YtogbocplojbdjaaGreat
open Go Go.E Go.Proofs
set_option linter.unusedVariables false
set_option linter.unusedSimpArgs false
theorem comb_len {a b : List Rect} (m : Int) (h : a.length + b.length ≤ 2000) : (combinedL a b m).length ≤ 16000000 := by
  unfold combinedL
  have h1 := (combS_len a b m (ysOf a b) ((ysOf a b).length - 1)).1
  have h2 : (ysOf a b).length ≤ 2 * (a.length + b.length) := by
    unfold ysOf
    have g1 := rowsL_len b (rowsL a [])
    have g2 := rowsL_len a []
    simp only [List.length_nil] at g2
    omega
  refine Nat.le_trans h1 ?_
  have : ((ysOf a b).length - 1) * (2 * (a.length + b.length)) ≤ 4000 * 4000 := Nat.mul_le_mul (by omega) (by omega)
  omega
theorem keep_one : keepF (fun v => v.1 || v.2.1) = modeB 1 := by
  funext p q
  cases p <;> cases q <;> rfl
theorem keep_two : keepF (fun v => v.1 && v.2.1) = modeB 2 := by
  funext p q
  cases p <;> cases q <;> rfl
theorem keep_three : keepF (fun v => v.1 && !v.2.1) = modeB 3 := by
  funext p q
  cases p <;> cases q <;> rfl
theorem bandsP_len (a b : List Rect) (keep : Keep) (h : a.length + b.length ≤ 2000) : (bandsP a b keep).length ≤ 4000 := by
  unfold bandsP
  refine Nat.le_trans (bandK_len _ _ _) ?_
  have := ysP_len a b
  omega
theorem s_limited : KSound Tryz.prog 68 (fun Γc => gCon Γc g_limited) := by
  refine gsoundF (K := K58) (Γc := C48) (Γr := R0) (fun _ => []) hm HK58 HC48 HR0 Tryz.call68 Tryz.func68 (by kernel_rfl) (fun _ => by kernel_rfl) (fun _ => rfl) ?_
  intro xs _
  refine Eq.mpr (β := (True ∧ True ∧ True ∧ True ∧ True ∧ (@Eq Bool (@decide (@GT.gt Int _ (@Nat.cast Int _ (List.length xs)) 256) (Int.decLt 256 (@Nat.cast Int _ (List.length xs)))) true → (True ∧ True ∧ (True ∧ True ∧ True) ∧ (True ∧ True) ∧ ((True ∧ @Eq Int 5 (limE xs) ∧ True) ∧ True) ∧ @Eq _ (limL xs) ([] : List (Ty.T RectT)) ∧ True)) ∧ (@Eq Bool (@decide (@GT.gt Int _ (@Nat.cast Int _ (List.length xs)) 256) (Int.decLt 256 (@Nat.cast Int _ (List.length xs)))) false → (True ∧ True ∧ True ∧ (True ∧ True ∧ True) ∧ (True ∧ True) ∧ ((True ∧ @Eq Int 0 (limE xs) ∧ True) ∧ True) ∧ @Eq _ xs (limL xs) ∧ True)))) (by kernel_rfl) ?_
  simp only [true_and, and_true, decide_eq_true_eq, decide_eq_false_iff_not, forall_const, implies_true, and_self]
  refine ⟨fun h => ?_, fun h => ?_⟩
  · have h : ¬ List.length xs ≤ 256 := by omega
    simp [limL, limE, h]
  · have h : List.length xs ≤ 256 := by omega
    simp [limL, limE, h]
abbrev K59 : KCons := (68, fun Γc => gCon Γc g_limited) :: K58
theorem HK59 : KS Tryz.prog K59 := ks_add (s_limited) HK58
theorem s_canonical : PSound Tryz.prog 78 (pcon [.d (.list RectT)] fun x => (x.1.length ≤ 1000, .own RectT (combinedL x.1 [] 1))) := by
  refine psoundF (K := K59) (Γc := C48) (Γr := R0) (fun _ => []) hm HK59 HC48 HR0 Tryz.call78 Tryz.func78 (by kernel_rfl) ?_
  rintro ⟨a, _⟩ hx
  have hx : List.length a ≤ 1000 := hx
  refine Eq.mpr (β := (True ∧ True ∧ (@LE.le Nat _ (List.length a) 1000 ∧ @LE.le Nat _ (List.length ([] : List (Ty.T RectT))) 1000) ∧ (@LE.le Nat _ (List.length (bandsP a ([] : List (Ty.T RectT)) (keepF (fun (v0 : (Ts (Ty.bool :: (Ty.bool :: ([] : List Ty))))) => (or v0.1 v0.2.1))))) 1000000000 ∧ @LE.le Nat _ (List.length (rectsB (bandsP a ([] : List (Ty.T RectT)) (keepF (fun (v0 : (Ts (Ty.bool :: (Ty.bool :: ([] : List Ty))))) => (or v0.1 v0.2.1)))))) 1000000000) ∧ True ∧ (True ∧ True) ∧ @Eq _ (rectsB (bandsP a ([] : List (Ty.T RectT)) (keepF (fun (v0 : (Ts (Ty.bool :: (Ty.bool :: ([] : List Ty))))) => (or v0.1 v0.2.1))))) (combinedL a ([] : List Rect) 1))) (by kernel_rfl) ?_
  simp only [true_and, and_true, decide_eq_true_eq, decide_eq_false_iff_not, forall_const, implies_true, and_self]
  rw [show keepF _ = modeB 1 from keep_one, bandsP_is]
  have h1 := comb_len (a := a) (b := []) 1 (by simp; omega)
  have h2 := bandsP_len a [] (modeB 1) (by simp; omega)
  exact ⟨⟨hx, by simp⟩, ⟨by omega, by omega⟩, rfl⟩
abbrev K60 : KCons := (78, fun Γc => pure_ Γc ((pcon [.d (.list RectT)] fun x => (x.1.length ≤ 1000, .own RectT (combinedL x.1 [] 1))))) :: K59
theorem HK60 : KS Tryz.prog K60 := ks_add (ksound_pure (s_canonical)) HK59
theorem s_rNew : PSound Tryz.prog 52 (pcon [.d (.list RectT)] fun x => (x.1.length ≤ 1000, .tup [.own RectT (limL (combinedL x.1 [] 1)), .int .i64 (limE (combinedL x.1 [] 1))])) := by
  refine psoundF (K := K60) (Γc := C48) (Γr := R0) (fun _ => []) hm HK60 HC48 HR0 Tryz.call52 Tryz.func52 (by kernel_rfl) ?_
  rintro ⟨a, _⟩ hx
  have hx : List.length a ≤ 1000 := hx
  refine Eq.mpr (β := (True ∧ True ∧ True ∧ @LE.le Nat _ (List.length a) 1000 ∧ (True ∧ (True ∧ True) ∧ @Eq _ (combinedL a ([] : List Rect) 1) (combinedL a ([] : List Rect) 1) ∧ True) ∧ True ∧ True ∧ True ∧ True ∧ (True ∧ True ∧ True) ∧ @Eq _ (limL (combinedL a ([] : List Rect) 1)) (limL (combinedL a ([] : List Rect) 1)) ∧ @Eq Int (limE (combinedL a ([] : List Rect) 1)) (limE (combinedL a ([] : List Rect) 1)) ∧ True)) (by kernel_rfl) ?_
  simp only [true_and, and_true, decide_eq_true_eq, decide_eq_false_iff_not, forall_const, implies_true, and_self]
  exact hx
abbrev K61 : KCons := (52, fun Γc => pure_ Γc ((pcon [.d (.list RectT)] fun x => (x.1.length ≤ 1000, .tup [.own RectT (limL (combinedL x.1 [] 1)), .int .i64 (limE (combinedL x.1 [] 1))])))) :: K60
theorem HK61 : KS Tryz.prog K61 := ks_add (ksound_pure (s_rNew)) HK60
theorem sameRects_comm (a b : List Rect) : sameRects a b = sameRects b a := by
  unfold sameRects
  rw [Bool.eq_iff_iff]
  simp only [decide_eq_true_eq]
  exact ⟨Eq.symm, Eq.symm⟩
def isCan (l : List Rect) : Bool := decide ((l.length : Int) ≤ 256) && sameRects (combinedL l [] 1) l
theorem s_rIsCanonical : PSound Tryz.prog 102 (pcon [.d (.list RectT)] fun x => (x.1.length ≤ 1000, .bool (isCan x.1))) := by
  refine psoundF (K := K61) (Γc := C48) (Γr := R0) (fun _ => []) hm HK61 HC48 HR0 Tryz.call102 Tryz.func102 (by kernel_rfl) ?_
  rintro ⟨a, _⟩ hx
  have hx : List.length a ≤ 1000 := hx
  refine Eq.mpr (β := (True ∧ True ∧ True ∧ True ∧ True ∧ (@Eq Bool (@decide (@LE.le Int _ (@Nat.cast Int _ (List.length a)) 256) (Int.decLe (@Nat.cast Int _ (List.length a)) 256)) true → True) ∧ (@Eq Bool (@decide (@LE.le Int _ (@Nat.cast Int _ (List.length a)) 256) (Int.decLe (@Nat.cast Int _ (List.length a)) 256)) true → @LE.le Nat _ (List.length a) 1000) ∧ (@Eq Bool (@decide (@LE.le Int _ (@Nat.cast Int _ (List.length a)) 256) (Int.decLe (@Nat.cast Int _ (List.length a)) 256)) true → True) ∧ (@Eq Bool (@decide (@LE.le Int _ (@Nat.cast Int _ (List.length a)) 256) (Int.decLe (@Nat.cast Int _ (List.length a)) 256)) true → (@LE.le Nat _ (List.length (combinedL a ([] : List Rect) 1)) 1000000000 ∧ @LE.le Nat _ (List.length a) 1000000000)) ∧ True ∧ True ∧ (True ∧ True) ∧ @Eq Bool (and (@decide (@LE.le Int _ (@Nat.cast Int _ (List.length a)) 256) (Int.decLe (@Nat.cast Int _ (List.length a)) 256)) (sameRects (combinedL a ([] : List Rect) 1) a)) (isCan a))) (by kernel_rfl) ?_
  simp only [true_and, and_true, decide_eq_true_eq, decide_eq_false_iff_not, forall_const, implies_true, and_self]
  have h1 := comb_len (a := a) (b := []) 1 (by simp; omega)
  exact ⟨fun _ => hx, fun _ => ⟨by omega, by omega⟩, rfl⟩
abbrev K62 : KCons := (102, fun Γc => pure_ Γc ((pcon [.d (.list RectT)] fun x => (x.1.length ≤ 1000, .bool (isCan x.1))))) :: K61
theorem HK62 : KS Tryz.prog K62 := ks_add (ksound_pure (s_rIsCanonical)) HK61
def opOut (a b : List Rect) (m : Int) : AV := .tup [.own RectT (limL (combinedL a b m)), .int .i64 (limE (combinedL a b m))]
theorem s_rUnionOp : PSound Tryz.prog 64 (pcon [.d (.list RectT), .d (.list RectT)] fun x => (x.1.length ≤ 1000 ∧ x.2.1.length ≤ 1000, opOut x.1 x.2.1 1)) := by
  refine psoundF (K := K62) (Γc := C48) (Γr := R0) (fun _ => []) hm HK62 HC48 HR0 Tryz.call64 Tryz.func64 (by kernel_rfl) ?_
  rintro ⟨a, b, _⟩ hx
  obtain ⟨ha, hb⟩ : List.length a ≤ 1000 ∧ List.length b ≤ 1000 := hx
  refine Eq.mpr (β := (True ∧ True ∧ True ∧ True ∧ (@LE.le Nat _ (List.length a) 1000 ∧ @LE.le Nat _ (List.length b) 1000) ∧ (@LE.le Nat _ (List.length (bandsP a b (keepF (fun (v0 : (Ts (Ty.bool :: (Ty.bool :: ([] : List Ty))))) => (or v0.1 v0.2.1))))) 1000000000 ∧ @LE.le Nat _ (List.length (rectsB (bandsP a b (keepF (fun (v0 : (Ts (Ty.bool :: (Ty.bool :: ([] : List Ty))))) => (or v0.1 v0.2.1)))))) 1000000000) ∧ (True ∧ (True ∧ True) ∧ @Eq _ (rectsB (bandsP a b (keepF (fun (v0 : (Ts (Ty.bool :: (Ty.bool :: ([] : List Ty))))) => (or v0.1 v0.2.1))))) (rectsB (bandsP a b (keepF (fun (v0 : (Ts (Ty.bool :: (Ty.bool :: ([] : List Ty))))) => (or v0.1 v0.2.1))))) ∧ True) ∧ True ∧ True ∧ True ∧ True ∧ (True ∧ True ∧ True) ∧ @Eq _ (limL (rectsB (bandsP a b (keepF (fun (v0 : (Ts (Ty.bool :: (Ty.bool :: ([] : List Ty))))) => (or v0.1 v0.2.1)))))) (limL (combinedL a b 1)) ∧ @Eq Int (limE (rectsB (bandsP a b (keepF (fun (v0 : (Ts (Ty.bool :: (Ty.bool :: ([] : List Ty))))) => (or v0.1 v0.2.1)))))) (limE (combinedL a b 1)) ∧ True)) (by kernel_rfl) ?_
  simp only [true_and, and_true, decide_eq_true_eq, decide_eq_false_iff_not, forall_const, implies_true, and_self]
  rw [show keepF _ = modeB 1 from keep_one, bandsP_is]
  have h1 := comb_len (a := a) (b := b) 1 (by omega)
  have h2 := bandsP_len a b (modeB 1) (by omega)
  exact ⟨⟨ha, hb⟩, ⟨by omega, by omega⟩, rfl, rfl⟩
abbrev K63 : KCons := (64, fun Γc => pure_ Γc ((pcon [.d (.list RectT), .d (.list RectT)] fun x => (x.1.length ≤ 1000 ∧ x.2.1.length ≤ 1000, opOut x.1 x.2.1 1)))) :: K62
theorem HK63 : KS Tryz.prog K63 := ks_add (ksound_pure (s_rUnionOp)) HK62
theorem s_rIntersect : PSound Tryz.prog 62 (pcon [.d (.list RectT), .d (.list RectT)] fun x => (x.1.length ≤ 1000 ∧ x.2.1.length ≤ 1000, opOut x.1 x.2.1 2)) := by
  refine psoundF (K := K63) (Γc := C48) (Γr := R0) (fun _ => []) hm HK63 HC48 HR0 Tryz.call62 Tryz.func62 (by kernel_rfl) ?_
  rintro ⟨a, b, _⟩ hx
  obtain ⟨ha, hb⟩ : List.length a ≤ 1000 ∧ List.length b ≤ 1000 := hx
  refine Eq.mpr (β := (True ∧ True ∧ True ∧ True ∧ (@LE.le Nat _ (List.length a) 1000 ∧ @LE.le Nat _ (List.length b) 1000) ∧ (@LE.le Nat _ (List.length (bandsP a b (keepF (fun (v0 : (Ts (Ty.bool :: (Ty.bool :: ([] : List Ty))))) => (and v0.1 v0.2.1))))) 1000000000 ∧ @LE.le Nat _ (List.length (rectsB (bandsP a b (keepF (fun (v0 : (Ts (Ty.bool :: (Ty.bool :: ([] : List Ty))))) => (and v0.1 v0.2.1)))))) 1000000000) ∧ (True ∧ (True ∧ True) ∧ @Eq _ (rectsB (bandsP a b (keepF (fun (v0 : (Ts (Ty.bool :: (Ty.bool :: ([] : List Ty))))) => (and v0.1 v0.2.1))))) (rectsB (bandsP a b (keepF (fun (v0 : (Ts (Ty.bool :: (Ty.bool :: ([] : List Ty))))) => (and v0.1 v0.2.1))))) ∧ True) ∧ True ∧ True ∧ True ∧ True ∧ (True ∧ True ∧ True) ∧ @Eq _ (limL (rectsB (bandsP a b (keepF (fun (v0 : (Ts (Ty.bool :: (Ty.bool :: ([] : List Ty))))) => (and v0.1 v0.2.1)))))) (limL (combinedL a b 2)) ∧ @Eq Int (limE (rectsB (bandsP a b (keepF (fun (v0 : (Ts (Ty.bool :: (Ty.bool :: ([] : List Ty))))) => (and v0.1 v0.2.1)))))) (limE (combinedL a b 2)) ∧ True)) (by kernel_rfl) ?_
  simp only [true_and, and_true, decide_eq_true_eq, decide_eq_false_iff_not, forall_const, implies_true, and_self]
  rw [show keepF _ = modeB 2 from keep_two, bandsP_is]
  have h1 := comb_len (a := a) (b := b) 2 (by omega)
  have h2 := bandsP_len a b (modeB 2) (by omega)
  exact ⟨⟨ha, hb⟩, ⟨by omega, by omega⟩, rfl, rfl⟩
abbrev K64 : KCons := (62, fun Γc => pure_ Γc ((pcon [.d (.list RectT), .d (.list RectT)] fun x => (x.1.length ≤ 1000 ∧ x.2.1.length ≤ 1000, opOut x.1 x.2.1 2)))) :: K63
theorem HK64 : KS Tryz.prog K64 := ks_add (ksound_pure (s_rIntersect)) HK63
theorem s_rSubtract : PSound Tryz.prog 43 (pcon [.d (.list RectT), .d (.list RectT)] fun x => (x.1.length ≤ 1000 ∧ x.2.1.length ≤ 1000, opOut x.1 x.2.1 3)) := by
  refine psoundF (K := K64) (Γc := C48) (Γr := R0) (fun _ => []) hm HK64 HC48 HR0 Tryz.call43 Tryz.func43 (by kernel_rfl) ?_
  rintro ⟨a, b, _⟩ hx
  obtain ⟨ha, hb⟩ : List.length a ≤ 1000 ∧ List.length b ≤ 1000 := hx
  refine Eq.mpr (β := (True ∧ True ∧ True ∧ True ∧ (@LE.le Nat _ (List.length a) 1000 ∧ @LE.le Nat _ (List.length b) 1000) ∧ (@LE.le Nat _ (List.length (bandsP a b (keepF (fun (v0 : (Ts (Ty.bool :: (Ty.bool :: ([] : List Ty))))) => (and v0.1 (not v0.2.1)))))) 1000000000 ∧ @LE.le Nat _ (List.length (rectsB (bandsP a b (keepF (fun (v0 : (Ts (Ty.bool :: (Ty.bool :: ([] : List Ty))))) => (and v0.1 (not v0.2.1))))))) 1000000000) ∧ (True ∧ (True ∧ True) ∧ @Eq _ (rectsB (bandsP a b (keepF (fun (v0 : (Ts (Ty.bool :: (Ty.bool :: ([] : List Ty))))) => (and v0.1 (not v0.2.1)))))) (rectsB (bandsP a b (keepF (fun (v0 : (Ts (Ty.bool :: (Ty.bool :: ([] : List Ty))))) => (and v0.1 (not v0.2.1)))))) ∧ True) ∧ True ∧ True ∧ True ∧ True ∧ (True ∧ True ∧ True) ∧ @Eq _ (limL (rectsB (bandsP a b (keepF (fun (v0 : (Ts (Ty.bool :: (Ty.bool :: ([] : List Ty))))) => (and v0.1 (not v0.2.1))))))) (limL (combinedL a b 3)) ∧ @Eq Int (limE (rectsB (bandsP a b (keepF (fun (v0 : (Ts (Ty.bool :: (Ty.bool :: ([] : List Ty))))) => (and v0.1 (not v0.2.1))))))) (limE (combinedL a b 3)) ∧ True)) (by kernel_rfl) ?_
  simp only [true_and, and_true, decide_eq_true_eq, decide_eq_false_iff_not, forall_const, implies_true, and_self]
  rw [show keepF _ = modeB 3 from keep_three, bandsP_is]
  have h1 := comb_len (a := a) (b := b) 3 (by omega)
  have h2 := bandsP_len a b (modeB 3) (by omega)
  exact ⟨⟨ha, hb⟩, ⟨by omega, by omega⟩, rfl, rfl⟩
abbrev K65 : KCons := (43, fun Γc => pure_ Γc ((pcon [.d (.list RectT), .d (.list RectT)] fun x => (x.1.length ≤ 1000 ∧ x.2.1.length ≤ 1000, opOut x.1 x.2.1 3)))) :: K64
theorem HK65 : KS Tryz.prog K65 := ks_add (ksound_pure (s_rSubtract)) HK64
def eqReg (a b : List Rect) : Bool := sameRects (combinedL a [] 1) (combinedL b [] 1)
theorem s_r5New : PSound Tryz.prog 33 (pcon [.d (.list RectT)] fun x => (x.1.length ≤ 1000, opOut x.1 [] 1)) := by
  refine psoundF (K := K65) (Γc := C48) (Γr := R0) (fun _ => []) hm HK65 HC48 HR0 Tryz.call33 Tryz.func33 (by kernel_rfl) ?_
  rintro ⟨a, _⟩ hx
  have hx : List.length a ≤ 1000 := hx
  refine Eq.mpr (β := (True ∧ True ∧ True ∧ (@LE.le Nat _ (List.length a) 1000 ∧ @LE.le Nat _ (List.length ([] : List (Ty.T RectT))) 1000) ∧ (True ∧ (True ∧ True) ∧ @Eq _ (combinedL a ([] : List (Ty.T RectT)) 1) (combinedL a ([] : List (Ty.T RectT)) 1) ∧ True) ∧ True ∧ True ∧ True ∧ True ∧ (True ∧ True ∧ True) ∧ @Eq _ (limL (combinedL a ([] : List (Ty.T RectT)) 1)) (limL (combinedL a ([] : List Rect) 1)) ∧ @Eq Int (limE (combinedL a ([] : List (Ty.T RectT)) 1)) (limE (combinedL a ([] : List Rect) 1)) ∧ True)) (by kernel_rfl) ?_
  simp only [true_and, and_true, decide_eq_true_eq, decide_eq_false_iff_not, forall_const, implies_true, and_self]
  exact ⟨hx, by simp⟩
abbrev K66 : KCons := (33, fun Γc => pure_ Γc ((pcon [.d (.list RectT)] fun x => (x.1.length ≤ 1000, opOut x.1 [] 1)))) :: K65
theorem HK66 : KS Tryz.prog K66 := ks_add (ksound_pure (s_r5New)) HK65
theorem s_r5Union : PSound Tryz.prog 67 (pcon [.d (.list RectT), .d (.list RectT)] fun x => (x.1.length ≤ 1000 ∧ x.2.1.length ≤ 1000, opOut x.1 x.2.1 1)) := by
  refine psoundF (K := K66) (Γc := C48) (Γr := R0) (fun _ => []) hm HK66 HC48 HR0 Tryz.call67 Tryz.func67 (by kernel_rfl) ?_
  rintro ⟨a, b, _⟩ hx
  have hx : List.length a ≤ 1000 ∧ List.length b ≤ 1000 := hx
  refine Eq.mpr (β := (True ∧ True ∧ True ∧ True ∧ (@LE.le Nat _ (List.length a) 1000 ∧ @LE.le Nat _ (List.length b) 1000) ∧ (True ∧ (True ∧ True) ∧ @Eq _ (combinedL a b 1) (combinedL a b 1) ∧ True) ∧ True ∧ True ∧ True ∧ True ∧ (True ∧ True ∧ True) ∧ @Eq _ (limL (combinedL a b 1)) (limL (combinedL a b 1)) ∧ @Eq Int (limE (combinedL a b 1)) (limE (combinedL a b 1)) ∧ True)) (by kernel_rfl) ?_
  simp only [true_and, and_true, decide_eq_true_eq, decide_eq_false_iff_not, forall_const, implies_true, and_self]
  exact hx
abbrev K67 : KCons := (67, fun Γc => pure_ Γc ((pcon [.d (.list RectT), .d (.list RectT)] fun x => (x.1.length ≤ 1000 ∧ x.2.1.length ≤ 1000, opOut x.1 x.2.1 1)))) :: K66
theorem HK67 : KS Tryz.prog K67 := ks_add (ksound_pure (s_r5Union)) HK66
theorem s_r5Subtract : PSound Tryz.prog 45 (pcon [.d (.list RectT), .d (.list RectT)] fun x => (x.1.length ≤ 1000 ∧ x.2.1.length ≤ 1000, opOut x.1 x.2.1 3)) := by
  refine psoundF (K := K67) (Γc := C48) (Γr := R0) (fun _ => []) hm HK67 HC48 HR0 Tryz.call45 Tryz.func45 (by kernel_rfl) ?_
  rintro ⟨a, b, _⟩ hx
  have hx : List.length a ≤ 1000 ∧ List.length b ≤ 1000 := hx
  refine Eq.mpr (β := (True ∧ True ∧ True ∧ True ∧ (@LE.le Nat _ (List.length a) 1000 ∧ @LE.le Nat _ (List.length b) 1000) ∧ (True ∧ (True ∧ True) ∧ @Eq _ (combinedL a b 3) (combinedL a b 3) ∧ True) ∧ True ∧ True ∧ True ∧ True ∧ (True ∧ True ∧ True) ∧ @Eq _ (limL (combinedL a b 3)) (limL (combinedL a b 3)) ∧ @Eq Int (limE (combinedL a b 3)) (limE (combinedL a b 3)) ∧ True)) (by kernel_rfl) ?_
  simp only [true_and, and_true, decide_eq_true_eq, decide_eq_false_iff_not, forall_const, implies_true, and_self]
  exact hx
abbrev K68 : KCons := (45, fun Γc => pure_ Γc ((pcon [.d (.list RectT), .d (.list RectT)] fun x => (x.1.length ≤ 1000 ∧ x.2.1.length ≤ 1000, opOut x.1 x.2.1 3)))) :: K67
theorem HK68 : KS Tryz.prog K68 := ks_add (ksound_pure (s_r5Subtract)) HK67
theorem s_r5IsCanonical : PSound Tryz.prog 85 (pcon [.d (.list RectT)] fun x => (x.1.length ≤ 1000, .bool (isCan x.1))) := by
  refine psoundF (K := K68) (Γc := C48) (Γr := R0) (fun _ => []) hm HK68 HC48 HR0 Tryz.call85 Tryz.func85 (by kernel_rfl) ?_
  rintro ⟨a, _⟩ hx
  have hx : List.length a ≤ 1000 := hx
  refine Eq.mpr (β := (True ∧ True ∧ True ∧ True ∧ True ∧ (@Eq Bool (@decide (@LE.le Int _ (@Nat.cast Int _ (List.length a)) 256) (Int.decLe (@Nat.cast Int _ (List.length a)) 256)) true → True) ∧ (@Eq Bool (@decide (@LE.le Int _ (@Nat.cast Int _ (List.length a)) 256) (Int.decLe (@Nat.cast Int _ (List.length a)) 256)) true → True) ∧ (@Eq Bool (@decide (@LE.le Int _ (@Nat.cast Int _ (List.length a)) 256) (Int.decLe (@Nat.cast Int _ (List.length a)) 256)) true → (@LE.le Nat _ (List.length a) 1000 ∧ @LE.le Nat _ (List.length ([] : List (Ty.T RectT))) 1000)) ∧ (@Eq Bool (@decide (@LE.le Int _ (@Nat.cast Int _ (List.length a)) 256) (Int.decLe (@Nat.cast Int _ (List.length a)) 256)) true → (@LE.le Nat _ (List.length a) 1000000000 ∧ @LE.le Nat _ (List.length (combinedL a ([] : List (Ty.T RectT)) 1)) 1000000000)) ∧ True ∧ True ∧ (True ∧ True) ∧ @Eq Bool (and (@decide (@LE.le Int _ (@Nat.cast Int _ (List.length a)) 256) (Int.decLe (@Nat.cast Int _ (List.length a)) 256)) (sameRects a (combinedL a ([] : List (Ty.T RectT)) 1))) (isCan a))) (by kernel_rfl) ?_
  simp only [true_and, and_true, decide_eq_true_eq, decide_eq_false_iff_not, forall_const, implies_true, and_self]
  have h1 := comb_len (a := a) (b := []) 1 (by simp; omega)
  refine ⟨fun _ => ⟨hx, by simp⟩, fun _ => ⟨by omega, by omega⟩, ?_⟩
  unfold isCan
  rw [sameRects_comm]
abbrev K69 : KCons := (85, fun Γc => pure_ Γc ((pcon [.d (.list RectT)] fun x => (x.1.length ≤ 1000, .bool (isCan x.1))))) :: K68
theorem HK69 : KS Tryz.prog K69 := ks_add (ksound_pure (s_r5IsCanonical)) HK68
end Go.Proofs.YtogbocplojbdjaaGreat
