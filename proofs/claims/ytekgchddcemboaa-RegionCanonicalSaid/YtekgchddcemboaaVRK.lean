/-
  A part of the proof: what some of the program's functions compute.
-/
import Derived.Test.YtekgchddcemboaaVRJ
namespace Go.Proofs.Ytekgchddcemboaa
open Go Go.E Go.Proofs
set_option linter.unusedVariables false
set_option linter.unusedSimpArgs false
/-! regions -/
theorem comb_len {a b : List Rect} (m : Int) (h : a.length + b.length ≤ 2000) : (combinedL a b m).length ≤ 16000000 := by
  unfold combinedL
  have h1 := (combS_len a b m (ysOf a b) ((ysOf a b).length - 1)).1
  have h2 : (ysOf a b).length ≤ 2 * (a.length + b.length) := by
    unfold ysOf
    have g1 := rowsL_len b (rowsL a [])
    have g2 := rowsL_len a []
    simp only [List.length_nil] at g2
    omega
  refine Nat.le_trans h1 ?_
  have : ((ysOf a b).length - 1) * (2 * (a.length + b.length)) ≤ 4000 * 4000 := Nat.mul_le_mul (by omega) (by omega)
  omega
theorem keep_one : keepF (fun v => v.1 || v.2.1) = modeB 1 := by
  funext p q
  cases p <;> cases q <;> rfl
theorem keep_two : keepF (fun v => v.1 && v.2.1) = modeB 2 := by
  funext p q
  cases p <;> cases q <;> rfl
theorem keep_three : keepF (fun v => v.1 && !v.2.1) = modeB 3 := by
  funext p q
  cases p <;> cases q <;> rfl
theorem bandsP_len (a b : List Rect) (keep : Keep) (h : a.length + b.length ≤ 2000) : (bandsP a b keep).length ≤ 4000 := by
  unfold bandsP
  refine Nat.le_trans (bandK_len _ _ _) ?_
  have := ysP_len a b
  omega
theorem s_limited : KSound Try.prog 33 (fun Γc => gCon Γc g_limited) := by
  refine gsoundF (K := K49) (Γc := C39) (Γr := R0) (fun _ => []) hm HK49 HC39 HR0 Try.call33 Try.func33 (by kernel_rfl) (fun _ => by kernel_rfl) (fun _ => rfl) ?_
  intro xs _
  refine Eq.mpr (β := (True ∧ True ∧ True ∧ True ∧ True ∧ (@Eq Bool (@decide (@GT.gt Int Int.instLTInt (@Nat.cast Int _ (List.length xs)) (256:Int)) (Int.decLt (256:Int) (@Nat.cast Int _ (List.length xs)))) true → (True ∧ True ∧ (True ∧ True ∧ True) ∧ (True ∧ True) ∧ ((True ∧ @Eq Int (5:Int) (limE xs) ∧ True) ∧ True) ∧ @Eq _ (limL xs) ([] : List (Ty.T RectT)) ∧ True)) ∧ (@Eq Bool (@decide (@GT.gt Int Int.instLTInt (@Nat.cast Int _ (List.length xs)) (256:Int)) (Int.decLt (256:Int) (@Nat.cast Int _ (List.length xs)))) false → (True ∧ True ∧ True ∧ (True ∧ True ∧ True) ∧ (True ∧ True) ∧ ((True ∧ @Eq Int (0:Int) (limE xs) ∧ True) ∧ True) ∧ @Eq _ xs (limL xs) ∧ True)))) (by kernel_rfl) ?_
  simp only [true_and, and_true, decide_eq_true_eq, decide_eq_false_iff_not, forall_const, implies_true, and_self]
  refine ⟨fun h => ?_, fun h => ?_⟩
  · have h : ¬ List.length xs ≤ 256 := by omega
    simp [limL, limE, h]
  · have h : List.length xs ≤ 256 := by omega
    simp [limL, limE, h]
abbrev K50 : KCons := (33, fun Γc => gCon Γc g_limited) :: K49
theorem HK50 : KS Try.prog K50 := ks_add (s_limited) HK49
theorem s_canonical : PSound Try.prog 42 (pcon [.d (.list RectT)] fun x => (x.1.length ≤ 1000, .own RectT (combinedL x.1 [] 1))) := by
  refine psoundF (K := K50) (Γc := C39) (Γr := R0) (fun _ => []) hm HK50 HC39 HR0 Try.call42 Try.func42 (by kernel_rfl) ?_
  rintro ⟨a, _⟩ hx
  have hx : List.length a ≤ 1000 := hx
  refine Eq.mpr (β := (True ∧ True ∧ (@LE.le Nat instLENat (List.length a) (1000:Nat) ∧ @LE.le Nat instLENat (List.length ([] : List (Ty.T RectT))) (1000:Nat)) ∧ (@LE.le Nat instLENat (List.length (bandsP a ([] : List (Ty.T RectT)) (keepF (fun (v0 : (Ts (Ty.bool :: (Ty.bool :: ([] : List Ty))))) => (or v0.1 v0.2.1))))) (1000000000:Nat) ∧ @LE.le Nat instLENat (List.length (rectsB (bandsP a ([] : List (Ty.T RectT)) (keepF (fun (v0 : (Ts (Ty.bool :: (Ty.bool :: ([] : List Ty))))) => (or v0.1 v0.2.1)))))) (1000000000:Nat)) ∧ True ∧ (True ∧ True) ∧ @Eq _ (rectsB (bandsP a ([] : List (Ty.T RectT)) (keepF (fun (v0 : (Ts (Ty.bool :: (Ty.bool :: ([] : List Ty))))) => (or v0.1 v0.2.1))))) (combinedL a ([] : List Rect) (1:Int)))) (by kernel_rfl) ?_
  simp only [true_and, and_true, decide_eq_true_eq, decide_eq_false_iff_not, forall_const, implies_true, and_self]
  rw [show keepF _ = modeB 1 from keep_one, bandsP_is]
  have h1 := comb_len (a := a) (b := []) 1 (by simp; omega)
  have h2 := bandsP_len a [] (modeB 1) (by simp; omega)
  exact ⟨⟨hx, by simp⟩, ⟨by omega, by omega⟩, rfl⟩
abbrev K51 : KCons := (42, fun Γc => pure_ Γc ((pcon [.d (.list RectT)] fun x => (x.1.length ≤ 1000, .own RectT (combinedL x.1 [] 1))))) :: K50
theorem HK51 : KS Try.prog K51 := ks_add (ksound_pure (s_canonical)) HK50
theorem s_rNew : PSound Try.prog 20 (pcon [.d (.list RectT)] fun x => (x.1.length ≤ 1000, .tup [.own RectT (limL (combinedL x.1 [] 1)), .int .i64 (limE (combinedL x.1 [] 1))])) := by
  refine psoundF (K := K51) (Γc := C39) (Γr := R0) (fun _ => []) hm HK51 HC39 HR0 Try.call20 Try.func20 (by kernel_rfl) ?_
  rintro ⟨a, _⟩ hx
  have hx : List.length a ≤ 1000 := hx
  refine Eq.mpr (β := (True ∧ True ∧ True ∧ @LE.le Nat instLENat (List.length a) (1000:Nat) ∧ (True ∧ (True ∧ True) ∧ @Eq _ (combinedL a ([] : List Rect) (1:Int)) (combinedL a ([] : List Rect) (1:Int)) ∧ True) ∧ True ∧ True ∧ True ∧ True ∧ (True ∧ True ∧ True) ∧ @Eq _ (limL (combinedL a ([] : List Rect) (1:Int))) (limL (combinedL a ([] : List Rect) (1:Int))) ∧ @Eq Int (limE (combinedL a ([] : List Rect) (1:Int))) (limE (combinedL a ([] : List Rect) (1:Int))) ∧ True)) (by kernel_rfl) ?_
  simp only [true_and, and_true, decide_eq_true_eq, decide_eq_false_iff_not, forall_const, implies_true, and_self]
  exact hx
abbrev K52 : KCons := (20, fun Γc => pure_ Γc ((pcon [.d (.list RectT)] fun x => (x.1.length ≤ 1000, .tup [.own RectT (limL (combinedL x.1 [] 1)), .int .i64 (limE (combinedL x.1 [] 1))])))) :: K51
theorem HK52 : KS Try.prog K52 := ks_add (ksound_pure (s_rNew)) HK51
theorem sameRects_comm (a b : List Rect) : sameRects a b = sameRects b a := by
  unfold sameRects
  rw [Bool.eq_iff_iff]
  simp only [decide_eq_true_eq]
  exact ⟨Eq.symm, Eq.symm⟩
def isCan (l : List Rect) : Bool := decide ((l.length : Int) ≤ 256) && sameRects (combinedL l [] 1) l
theorem s_rIsCanonical : PSound Try.prog 22 (pcon [.d (.list RectT)] fun x => (x.1.length ≤ 1000, .bool (isCan x.1))) := by
  refine psoundF (K := K52) (Γc := C39) (Γr := R0) (fun _ => []) hm HK52 HC39 HR0 Try.call22 Try.func22 (by kernel_rfl) ?_
  rintro ⟨a, _⟩ hx
  have hx : List.length a ≤ 1000 := hx
  refine Eq.mpr (β := (True ∧ True ∧ True ∧ True ∧ True ∧ (@Eq Bool (@decide (@LE.le Int Int.instLEInt (@Nat.cast Int _ (List.length a)) (256:Int)) (Int.decLe (@Nat.cast Int _ (List.length a)) (256:Int))) true → True) ∧ (@Eq Bool (@decide (@LE.le Int Int.instLEInt (@Nat.cast Int _ (List.length a)) (256:Int)) (Int.decLe (@Nat.cast Int _ (List.length a)) (256:Int))) true → @LE.le Nat instLENat (List.length a) (1000:Nat)) ∧ (@Eq Bool (@decide (@LE.le Int Int.instLEInt (@Nat.cast Int _ (List.length a)) (256:Int)) (Int.decLe (@Nat.cast Int _ (List.length a)) (256:Int))) true → True) ∧ (@Eq Bool (@decide (@LE.le Int Int.instLEInt (@Nat.cast Int _ (List.length a)) (256:Int)) (Int.decLe (@Nat.cast Int _ (List.length a)) (256:Int))) true → (@LE.le Nat instLENat (List.length (combinedL a ([] : List Rect) (1:Int))) (1000000000:Nat) ∧ @LE.le Nat instLENat (List.length a) (1000000000:Nat))) ∧ True ∧ True ∧ (True ∧ True) ∧ @Eq Bool (and (@decide (@LE.le Int Int.instLEInt (@Nat.cast Int _ (List.length a)) (256:Int)) (Int.decLe (@Nat.cast Int _ (List.length a)) (256:Int))) (sameRects (combinedL a ([] : List Rect) (1:Int)) a)) (isCan a))) (by kernel_rfl) ?_
  simp only [true_and, and_true, decide_eq_true_eq, decide_eq_false_iff_not, forall_const, implies_true, and_self]
  have h1 := comb_len (a := a) (b := []) 1 (by simp; omega)
  exact ⟨fun _ => hx, fun _ => ⟨by omega, by omega⟩, rfl⟩
abbrev K53 : KCons := (22, fun Γc => pure_ Γc ((pcon [.d (.list RectT)] fun x => (x.1.length ≤ 1000, .bool (isCan x.1))))) :: K52
theorem HK53 : KS Try.prog K53 := ks_add (ksound_pure (s_rIsCanonical)) HK52
def opOut (a b : List Rect) (m : Int) : AV := .tup [.own RectT (limL (combinedL a b m)), .int .i64 (limE (combinedL a b m))]
theorem s_rUnionOp : PSound Try.prog 11 (pcon [.d (.list RectT), .d (.list RectT)] fun x => (x.1.length ≤ 1000 ∧ x.2.1.length ≤ 1000, opOut x.1 x.2.1 1)) := by
  refine psoundF (K := K53) (Γc := C39) (Γr := R0) (fun _ => []) hm HK53 HC39 HR0 Try.call11 Try.func11 (by kernel_rfl) ?_
  rintro ⟨a, b, _⟩ hx
  obtain ⟨ha, hb⟩ : List.length a ≤ 1000 ∧ List.length b ≤ 1000 := hx
  refine Eq.mpr (β := (True ∧ True ∧ True ∧ True ∧ (@LE.le Nat instLENat (List.length a) (1000:Nat) ∧ @LE.le Nat instLENat (List.length b) (1000:Nat)) ∧ (@LE.le Nat instLENat (List.length (bandsP a b (keepF (fun (v0 : (Ts (Ty.bool :: (Ty.bool :: ([] : List Ty))))) => (or v0.1 v0.2.1))))) (1000000000:Nat) ∧ @LE.le Nat instLENat (List.length (rectsB (bandsP a b (keepF (fun (v0 : (Ts (Ty.bool :: (Ty.bool :: ([] : List Ty))))) => (or v0.1 v0.2.1)))))) (1000000000:Nat)) ∧ (True ∧ (True ∧ True) ∧ @Eq _ (rectsB (bandsP a b (keepF (fun (v0 : (Ts (Ty.bool :: (Ty.bool :: ([] : List Ty))))) => (or v0.1 v0.2.1))))) (rectsB (bandsP a b (keepF (fun (v0 : (Ts (Ty.bool :: (Ty.bool :: ([] : List Ty))))) => (or v0.1 v0.2.1))))) ∧ True) ∧ True ∧ True ∧ True ∧ True ∧ (True ∧ True ∧ True) ∧ @Eq _ (limL (rectsB (bandsP a b (keepF (fun (v0 : (Ts (Ty.bool :: (Ty.bool :: ([] : List Ty))))) => (or v0.1 v0.2.1)))))) (limL (combinedL a b (1:Int))) ∧ @Eq Int (limE (rectsB (bandsP a b (keepF (fun (v0 : (Ts (Ty.bool :: (Ty.bool :: ([] : List Ty))))) => (or v0.1 v0.2.1)))))) (limE (combinedL a b (1:Int))) ∧ True)) (by kernel_rfl) ?_
  simp only [true_and, and_true, decide_eq_true_eq, decide_eq_false_iff_not, forall_const, implies_true, and_self]
  rw [show keepF _ = modeB 1 from keep_one, bandsP_is]
  have h1 := comb_len (a := a) (b := b) 1 (by omega)
  have h2 := bandsP_len a b (modeB 1) (by omega)
  exact ⟨⟨ha, hb⟩, ⟨by omega, by omega⟩, rfl, rfl⟩
abbrev K54 : KCons := (11, fun Γc => pure_ Γc ((pcon [.d (.list RectT), .d (.list RectT)] fun x => (x.1.length ≤ 1000 ∧ x.2.1.length ≤ 1000, opOut x.1 x.2.1 1)))) :: K53
theorem HK54 : KS Try.prog K54 := ks_add (ksound_pure (s_rUnionOp)) HK53
theorem s_rIntersect : PSound Try.prog 14 (pcon [.d (.list RectT), .d (.list RectT)] fun x => (x.1.length ≤ 1000 ∧ x.2.1.length ≤ 1000, opOut x.1 x.2.1 2)) := by
  refine psoundF (K := K54) (Γc := C39) (Γr := R0) (fun _ => []) hm HK54 HC39 HR0 Try.call14 Try.func14 (by kernel_rfl) ?_
  rintro ⟨a, b, _⟩ hx
  obtain ⟨ha, hb⟩ : List.length a ≤ 1000 ∧ List.length b ≤ 1000 := hx
  refine Eq.mpr (β := (True ∧ True ∧ True ∧ True ∧ (@LE.le Nat instLENat (List.length a) (1000:Nat) ∧ @LE.le Nat instLENat (List.length b) (1000:Nat)) ∧ (@LE.le Nat instLENat (List.length (bandsP a b (keepF (fun (v0 : (Ts (Ty.bool :: (Ty.bool :: ([] : List Ty))))) => (and v0.1 v0.2.1))))) (1000000000:Nat) ∧ @LE.le Nat instLENat (List.length (rectsB (bandsP a b (keepF (fun (v0 : (Ts (Ty.bool :: (Ty.bool :: ([] : List Ty))))) => (and v0.1 v0.2.1)))))) (1000000000:Nat)) ∧ (True ∧ (True ∧ True) ∧ @Eq _ (rectsB (bandsP a b (keepF (fun (v0 : (Ts (Ty.bool :: (Ty.bool :: ([] : List Ty))))) => (and v0.1 v0.2.1))))) (rectsB (bandsP a b (keepF (fun (v0 : (Ts (Ty.bool :: (Ty.bool :: ([] : List Ty))))) => (and v0.1 v0.2.1))))) ∧ True) ∧ True ∧ True ∧ True ∧ True ∧ (True ∧ True ∧ True) ∧ @Eq _ (limL (rectsB (bandsP a b (keepF (fun (v0 : (Ts (Ty.bool :: (Ty.bool :: ([] : List Ty))))) => (and v0.1 v0.2.1)))))) (limL (combinedL a b (2:Int))) ∧ @Eq Int (limE (rectsB (bandsP a b (keepF (fun (v0 : (Ts (Ty.bool :: (Ty.bool :: ([] : List Ty))))) => (and v0.1 v0.2.1)))))) (limE (combinedL a b (2:Int))) ∧ True)) (by kernel_rfl) ?_
  simp only [true_and, and_true, decide_eq_true_eq, decide_eq_false_iff_not, forall_const, implies_true, and_self]
  rw [show keepF _ = modeB 2 from keep_two, bandsP_is]
  have h1 := comb_len (a := a) (b := b) 2 (by omega)
  have h2 := bandsP_len a b (modeB 2) (by omega)
  exact ⟨⟨ha, hb⟩, ⟨by omega, by omega⟩, rfl, rfl⟩
abbrev K55 : KCons := (14, fun Γc => pure_ Γc ((pcon [.d (.list RectT), .d (.list RectT)] fun x => (x.1.length ≤ 1000 ∧ x.2.1.length ≤ 1000, opOut x.1 x.2.1 2)))) :: K54
theorem HK55 : KS Try.prog K55 := ks_add (ksound_pure (s_rIntersect)) HK54
theorem s_rSubtract : PSound Try.prog 16 (pcon [.d (.list RectT), .d (.list RectT)] fun x => (x.1.length ≤ 1000 ∧ x.2.1.length ≤ 1000, opOut x.1 x.2.1 3)) := by
  refine psoundF (K := K55) (Γc := C39) (Γr := R0) (fun _ => []) hm HK55 HC39 HR0 Try.call16 Try.func16 (by kernel_rfl) ?_
  rintro ⟨a, b, _⟩ hx
  obtain ⟨ha, hb⟩ : List.length a ≤ 1000 ∧ List.length b ≤ 1000 := hx
  refine Eq.mpr (β := (True ∧ True ∧ True ∧ True ∧ (@LE.le Nat instLENat (List.length a) (1000:Nat) ∧ @LE.le Nat instLENat (List.length b) (1000:Nat)) ∧ (@LE.le Nat instLENat (List.length (bandsP a b (keepF (fun (v0 : (Ts (Ty.bool :: (Ty.bool :: ([] : List Ty))))) => (and v0.1 (not v0.2.1)))))) (1000000000:Nat) ∧ @LE.le Nat instLENat (List.length (rectsB (bandsP a b (keepF (fun (v0 : (Ts (Ty.bool :: (Ty.bool :: ([] : List Ty))))) => (and v0.1 (not v0.2.1))))))) (1000000000:Nat)) ∧ (True ∧ (True ∧ True) ∧ @Eq _ (rectsB (bandsP a b (keepF (fun (v0 : (Ts (Ty.bool :: (Ty.bool :: ([] : List Ty))))) => (and v0.1 (not v0.2.1)))))) (rectsB (bandsP a b (keepF (fun (v0 : (Ts (Ty.bool :: (Ty.bool :: ([] : List Ty))))) => (and v0.1 (not v0.2.1)))))) ∧ True) ∧ True ∧ True ∧ True ∧ True ∧ (True ∧ True ∧ True) ∧ @Eq _ (limL (rectsB (bandsP a b (keepF (fun (v0 : (Ts (Ty.bool :: (Ty.bool :: ([] : List Ty))))) => (and v0.1 (not v0.2.1))))))) (limL (combinedL a b (3:Int))) ∧ @Eq Int (limE (rectsB (bandsP a b (keepF (fun (v0 : (Ts (Ty.bool :: (Ty.bool :: ([] : List Ty))))) => (and v0.1 (not v0.2.1))))))) (limE (combinedL a b (3:Int))) ∧ True)) (by kernel_rfl) ?_
  simp only [true_and, and_true, decide_eq_true_eq, decide_eq_false_iff_not, forall_const, implies_true, and_self]
  rw [show keepF _ = modeB 3 from keep_three, bandsP_is]
  have h1 := comb_len (a := a) (b := b) 3 (by omega)
  have h2 := bandsP_len a b (modeB 3) (by omega)
  exact ⟨⟨ha, hb⟩, ⟨by omega, by omega⟩, rfl, rfl⟩
abbrev K56 : KCons := (16, fun Γc => pure_ Γc ((pcon [.d (.list RectT), .d (.list RectT)] fun x => (x.1.length ≤ 1000 ∧ x.2.1.length ≤ 1000, opOut x.1 x.2.1 3)))) :: K55
theorem HK56 : KS Try.prog K56 := ks_add (ksound_pure (s_rSubtract)) HK55
def eqReg (a b : List Rect) : Bool := sameRects (combinedL a [] 1) (combinedL b [] 1)
theorem s_rEqual : PSound Try.prog 18 (pcon [.d (.list RectT), .d (.list RectT)] fun x => (x.1.length ≤ 1000 ∧ x.2.1.length ≤ 1000, .bool (eqReg x.1 x.2.1))) := by
  refine psoundF (K := K56) (Γc := C39) (Γr := R0) (fun _ => []) hm HK56 HC39 HR0 Try.call18 Try.func18 (by kernel_rfl) ?_
  rintro ⟨a, b, _⟩ hx
  obtain ⟨ha, hb⟩ : List.length a ≤ 1000 ∧ List.length b ≤ 1000 := hx
  refine Eq.mpr (β := (True ∧ True ∧ @LE.le Nat instLENat (List.length a) (1000:Nat) ∧ True ∧ @LE.le Nat instLENat (List.length b) (1000:Nat) ∧ (@LE.le Nat instLENat (List.length (combinedL a ([] : List Rect) (1:Int))) (1000000000:Nat) ∧ @LE.le Nat instLENat (List.length (combinedL b ([] : List Rect) (1:Int))) (1000000000:Nat)) ∧ True ∧ (True ∧ True) ∧ @Eq Bool (sameRects (combinedL a ([] : List Rect) (1:Int)) (combinedL b ([] : List Rect) (1:Int))) (eqReg a b))) (by kernel_rfl) ?_
  simp only [true_and, and_true, decide_eq_true_eq, decide_eq_false_iff_not, forall_const, implies_true, and_self]
  have h1 := comb_len (a := a) (b := []) 1 (by simp; omega)
  have h2 := comb_len (a := b) (b := []) 1 (by simp; omega)
  exact ⟨ha, hb, ⟨by omega, by omega⟩, rfl⟩
abbrev K57 : KCons := (18, fun Γc => pure_ Γc ((pcon [.d (.list RectT), .d (.list RectT)] fun x => (x.1.length ≤ 1000 ∧ x.2.1.length ≤ 1000, .bool (eqReg x.1 x.2.1))))) :: K56
theorem HK57 : KS Try.prog K57 := ks_add (ksound_pure (s_rEqual)) HK56
/-! the reference's -/
theorem s_r5New : PSound Try.prog 28 (pcon [.d (.list RectT)] fun x => (x.1.length ≤ 1000, opOut x.1 [] 1)) := by
  refine psoundF (K := K57) (Γc := C39) (Γr := R0) (fun _ => []) hm HK57 HC39 HR0 Try.call28 Try.func28 (by kernel_rfl) ?_
  rintro ⟨a, _⟩ hx
  have hx : List.length a ≤ 1000 := hx
  refine Eq.mpr (β := (True ∧ True ∧ True ∧ (@LE.le Nat instLENat (List.length a) (1000:Nat) ∧ @LE.le Nat instLENat (List.length ([] : List (Ty.T RectT))) (1000:Nat)) ∧ (True ∧ (True ∧ True) ∧ @Eq _ (combinedL a ([] : List (Ty.T RectT)) (1:Int)) (combinedL a ([] : List (Ty.T RectT)) (1:Int)) ∧ True) ∧ True ∧ True ∧ True ∧ True ∧ (True ∧ True ∧ True) ∧ @Eq _ (limL (combinedL a ([] : List (Ty.T RectT)) (1:Int))) (limL (combinedL a ([] : List Rect) (1:Int))) ∧ @Eq Int (limE (combinedL a ([] : List (Ty.T RectT)) (1:Int))) (limE (combinedL a ([] : List Rect) (1:Int))) ∧ True)) (by kernel_rfl) ?_
  simp only [true_and, and_true, decide_eq_true_eq, decide_eq_false_iff_not, forall_const, implies_true, and_self]
  exact ⟨hx, by simp⟩
abbrev K58 : KCons := (28, fun Γc => pure_ Γc ((pcon [.d (.list RectT)] fun x => (x.1.length ≤ 1000, opOut x.1 [] 1)))) :: K57
theorem HK58 : KS Try.prog K58 := ks_add (ksound_pure (s_r5New)) HK57
theorem s_r5Union : PSound Try.prog 12 (pcon [.d (.list RectT), .d (.list RectT)] fun x => (x.1.length ≤ 1000 ∧ x.2.1.length ≤ 1000, opOut x.1 x.2.1 1)) := by
  refine psoundF (K := K58) (Γc := C39) (Γr := R0) (fun _ => []) hm HK58 HC39 HR0 Try.call12 Try.func12 (by kernel_rfl) ?_
  rintro ⟨a, b, _⟩ hx
  have hx : List.length a ≤ 1000 ∧ List.length b ≤ 1000 := hx
  refine Eq.mpr (β := (True ∧ True ∧ True ∧ True ∧ (@LE.le Nat instLENat (List.length a) (1000:Nat) ∧ @LE.le Nat instLENat (List.length b) (1000:Nat)) ∧ (True ∧ (True ∧ True) ∧ @Eq _ (combinedL a b (1:Int)) (combinedL a b (1:Int)) ∧ True) ∧ True ∧ True ∧ True ∧ True ∧ (True ∧ True ∧ True) ∧ @Eq _ (limL (combinedL a b (1:Int))) (limL (combinedL a b (1:Int))) ∧ @Eq Int (limE (combinedL a b (1:Int))) (limE (combinedL a b (1:Int))) ∧ True)) (by kernel_rfl) ?_
  simp only [true_and, and_true, decide_eq_true_eq, decide_eq_false_iff_not, forall_const, implies_true, and_self]
  exact hx
abbrev K59 : KCons := (12, fun Γc => pure_ Γc ((pcon [.d (.list RectT), .d (.list RectT)] fun x => (x.1.length ≤ 1000 ∧ x.2.1.length ≤ 1000, opOut x.1 x.2.1 1)))) :: K58
theorem HK59 : KS Try.prog K59 := ks_add (ksound_pure (s_r5Union)) HK58
theorem s_r5Subtract : PSound Try.prog 17 (pcon [.d (.list RectT), .d (.list RectT)] fun x => (x.1.length ≤ 1000 ∧ x.2.1.length ≤ 1000, opOut x.1 x.2.1 3)) := by
  refine psoundF (K := K59) (Γc := C39) (Γr := R0) (fun _ => []) hm HK59 HC39 HR0 Try.call17 Try.func17 (by kernel_rfl) ?_
  rintro ⟨a, b, _⟩ hx
  have hx : List.length a ≤ 1000 ∧ List.length b ≤ 1000 := hx
  refine Eq.mpr (β := (True ∧ True ∧ True ∧ True ∧ (@LE.le Nat instLENat (List.length a) (1000:Nat) ∧ @LE.le Nat instLENat (List.length b) (1000:Nat)) ∧ (True ∧ (True ∧ True) ∧ @Eq _ (combinedL a b (3:Int)) (combinedL a b (3:Int)) ∧ True) ∧ True ∧ True ∧ True ∧ True ∧ (True ∧ True ∧ True) ∧ @Eq _ (limL (combinedL a b (3:Int))) (limL (combinedL a b (3:Int))) ∧ @Eq Int (limE (combinedL a b (3:Int))) (limE (combinedL a b (3:Int))) ∧ True)) (by kernel_rfl) ?_
  simp only [true_and, and_true, decide_eq_true_eq, decide_eq_false_iff_not, forall_const, implies_true, and_self]
  exact hx
abbrev K60 : KCons := (17, fun Γc => pure_ Γc ((pcon [.d (.list RectT), .d (.list RectT)] fun x => (x.1.length ≤ 1000 ∧ x.2.1.length ≤ 1000, opOut x.1 x.2.1 3)))) :: K59
theorem HK60 : KS Try.prog K60 := ks_add (ksound_pure (s_r5Subtract)) HK59
theorem s_r5IsCanonical : PSound Try.prog 29 (pcon [.d (.list RectT)] fun x => (x.1.length ≤ 1000, .bool (isCan x.1))) := by
  refine psoundF (K := K60) (Γc := C39) (Γr := R0) (fun _ => []) hm HK60 HC39 HR0 Try.call29 Try.func29 (by kernel_rfl) ?_
  rintro ⟨a, _⟩ hx
  have hx : List.length a ≤ 1000 := hx
  refine Eq.mpr (β := (True ∧ True ∧ True ∧ True ∧ True ∧ (@Eq Bool (@decide (@LE.le Int Int.instLEInt (@Nat.cast Int _ (List.length a)) (256:Int)) (Int.decLe (@Nat.cast Int _ (List.length a)) (256:Int))) true → True) ∧ (@Eq Bool (@decide (@LE.le Int Int.instLEInt (@Nat.cast Int _ (List.length a)) (256:Int)) (Int.decLe (@Nat.cast Int _ (List.length a)) (256:Int))) true → True) ∧ (@Eq Bool (@decide (@LE.le Int Int.instLEInt (@Nat.cast Int _ (List.length a)) (256:Int)) (Int.decLe (@Nat.cast Int _ (List.length a)) (256:Int))) true → (@LE.le Nat instLENat (List.length a) (1000:Nat) ∧ @LE.le Nat instLENat (List.length ([] : List (Ty.T RectT))) (1000:Nat))) ∧ (@Eq Bool (@decide (@LE.le Int Int.instLEInt (@Nat.cast Int _ (List.length a)) (256:Int)) (Int.decLe (@Nat.cast Int _ (List.length a)) (256:Int))) true → (@LE.le Nat instLENat (List.length a) (1000000000:Nat) ∧ @LE.le Nat instLENat (List.length (combinedL a ([] : List (Ty.T RectT)) (1:Int))) (1000000000:Nat))) ∧ True ∧ True ∧ (True ∧ True) ∧ @Eq Bool (and (@decide (@LE.le Int Int.instLEInt (@Nat.cast Int _ (List.length a)) (256:Int)) (Int.decLe (@Nat.cast Int _ (List.length a)) (256:Int))) (sameRects a (combinedL a ([] : List (Ty.T RectT)) (1:Int)))) (isCan a))) (by kernel_rfl) ?_
  simp only [true_and, and_true, decide_eq_true_eq, decide_eq_false_iff_not, forall_const, implies_true, and_self]
  have h1 := comb_len (a := a) (b := []) 1 (by simp; omega)
  refine ⟨fun _ => ⟨hx, by simp⟩, fun _ => ⟨by omega, by omega⟩, ?_⟩
  unfold isCan
  rw [sameRects_comm]
abbrev K61 : KCons := (29, fun Γc => pure_ Γc ((pcon [.d (.list RectT)] fun x => (x.1.length ≤ 1000, .bool (isCan x.1))))) :: K60
theorem HK61 : KS Try.prog K61 := ks_add (ksound_pure (s_r5IsCanonical)) HK60
theorem s_r5Equal : PSound Try.prog 19 (pcon [.d (.list RectT), .d (.list RectT)] fun x => (x.1.length ≤ 1000 ∧ x.2.1.length ≤ 1000, .bool (eqReg x.1 x.2.1))) := by
  refine psoundF (K := K61) (Γc := C39) (Γr := R0) (fun _ => []) hm HK61 HC39 HR0 Try.call19 Try.func19 (by kernel_rfl) ?_
  rintro ⟨a, b, _⟩ hx
  obtain ⟨ha, hb⟩ : List.length a ≤ 1000 ∧ List.length b ≤ 1000 := hx
  refine Eq.mpr (β := (True ∧ True ∧ (@LE.le Nat instLENat (List.length a) (1000:Nat) ∧ @LE.le Nat instLENat (List.length ([] : List (Ty.T RectT))) (1000:Nat)) ∧ True ∧ (@LE.le Nat instLENat (List.length b) (1000:Nat) ∧ @LE.le Nat instLENat (List.length ([] : List (Ty.T RectT))) (1000:Nat)) ∧ (@LE.le Nat instLENat (List.length (combinedL a ([] : List (Ty.T RectT)) (1:Int))) (1000000000:Nat) ∧ @LE.le Nat instLENat (List.length (combinedL b ([] : List (Ty.T RectT)) (1:Int))) (1000000000:Nat)) ∧ True ∧ (True ∧ True) ∧ @Eq Bool (sameRects (combinedL a ([] : List (Ty.T RectT)) (1:Int)) (combinedL b ([] : List (Ty.T RectT)) (1:Int))) (eqReg a b))) (by kernel_rfl) ?_
  simp only [true_and, and_true, decide_eq_true_eq, decide_eq_false_iff_not, forall_const, implies_true, and_self]
  have h1 := comb_len (a := a) (b := []) 1 (by simp; omega)
  have h2 := comb_len (a := b) (b := []) 1 (by simp; omega)
  exact ⟨⟨ha, by simp⟩, ⟨hb, by simp⟩, ⟨by omega, by omega⟩, rfl⟩
abbrev K62 : KCons := (19, fun Γc => pure_ Γc ((pcon [.d (.list RectT), .d (.list RectT)] fun x => (x.1.length ≤ 1000 ∧ x.2.1.length ≤ 1000, .bool (eqReg x.1 x.2.1))))) :: K61
theorem HK62 : KS Try.prog K62 := ks_add (ksound_pure (s_r5Equal)) HK61
end Go.Proofs.Ytekgchddcemboaa
