/-
  A part of the proof: what some of the program's functions compute.
-/
import Derived.Test.YtijmbmncdchjkaaGreatVRJ
namespace Go.Proofs.YtijmbmncdchjkaaGreat
open Go Go.E Go.Proofs
set_option linter.unusedVariables false
set_option linter.unusedSimpArgs false
/-! regions -/
theorem comb_len {a b : List Rect} (m : Int) (h : a.length + b.length ≤ 2000) : (combinedL a b m).length ≤ 16000000 := by
  unfold combinedL
  have h1 := (combS_len a b m (ysOf a b) ((ysOf a b).length - 1)).1
  have h2 : (ysOf a b).length ≤ 2 * (a.length + b.length) := by
    unfold ysOf
    have g1 := rowsL_len b (rowsL a [])
    have g2 := rowsL_len a []
    simp only [List.length_nil] at g2
    omega
  refine Nat.le_trans h1 ?_
  have : ((ysOf a b).length - 1) * (2 * (a.length + b.length)) ≤ 4000 * 4000 := Nat.mul_le_mul (by omega) (by omega)
  omega
theorem keep_one : keepF (fun v => v.1 || v.2.1) = modeB 1 := by
  funext p q
  cases p <;> cases q <;> rfl
theorem keep_two : keepF (fun v => v.1 && v.2.1) = modeB 2 := by
  funext p q
  cases p <;> cases q <;> rfl
theorem keep_three : keepF (fun v => v.1 && !v.2.1) = modeB 3 := by
  funext p q
  cases p <;> cases q <;> rfl
theorem bandsP_len (a b : List Rect) (keep : Keep) (h : a.length + b.length ≤ 2000) : (bandsP a b keep).length ≤ 4000 := by
  unfold bandsP
  refine Nat.le_trans (bandK_len _ _ _) ?_
  have := ysP_len a b
  omega
theorem s_limited : KSound Tryz.prog 53 (fun Γc => gCon Γc g_limited) := by
  refine gsoundF (K := K68) (Γc := C58) (Γr := R0) (fun _ => []) hm HK68 HC58 HR0 Tryz.call53 Tryz.func53 (by kernel_rfl) (fun _ => by kernel_rfl) (fun _ => rfl) ?_
  intro xs _
  refine Eq.mpr (β := (True ∧ True ∧ True ∧ True ∧ True ∧ (@Eq Bool (@decide (@GT.gt Int Int.instLTInt (@Nat.cast Int _ (List.length xs)) (256:Int)) (Int.decLt (256:Int) (@Nat.cast Int _ (List.length xs)))) true → (True ∧ True ∧ (True ∧ True ∧ True) ∧ (True ∧ True) ∧ ((True ∧ @Eq Int (5:Int) (limE xs) ∧ True) ∧ True) ∧ @Eq _ (limL xs) ([] : List (Ty.T RectT)) ∧ True)) ∧ (@Eq Bool (@decide (@GT.gt Int Int.instLTInt (@Nat.cast Int _ (List.length xs)) (256:Int)) (Int.decLt (256:Int) (@Nat.cast Int _ (List.length xs)))) false → (True ∧ True ∧ True ∧ (True ∧ True ∧ True) ∧ (True ∧ True) ∧ ((True ∧ @Eq Int (0:Int) (limE xs) ∧ True) ∧ True) ∧ @Eq _ xs (limL xs) ∧ True)))) (by kernel_rfl) ?_
  simp only [true_and, and_true, decide_eq_true_eq, decide_eq_false_iff_not, forall_const, implies_true, and_self]
  refine ⟨fun h => ?_, fun h => ?_⟩
  · have h : ¬ List.length xs ≤ 256 := by omega
    simp [limL, limE, h]
  · have h : List.length xs ≤ 256 := by omega
    simp [limL, limE, h]
abbrev K69 : KCons := (53, fun Γc => gCon Γc g_limited) :: K68
theorem HK69 : KS Tryz.prog K69 := ks_add (s_limited) HK68
theorem s_canonical : PSound Tryz.prog 52 (pcon [.d (.list RectT)] fun x => (x.1.length ≤ 1000, .own RectT (combinedL x.1 [] 1))) := by
  refine psoundF (K := K69) (Γc := C58) (Γr := R0) (fun _ => []) hm HK69 HC58 HR0 Tryz.call52 Tryz.func52 (by kernel_rfl) ?_
  rintro ⟨a, _⟩ hx
  have hx : List.length a ≤ 1000 := hx
  refine Eq.mpr (β := (True ∧ True ∧ (@LE.le Nat instLENat (List.length a) (1000:Nat) ∧ @LE.le Nat instLENat (List.length ([] : List (Ty.T RectT))) (1000:Nat)) ∧ (@LE.le Nat instLENat (List.length (bandsP a ([] : List (Ty.T RectT)) (keepF (fun (v0 : (Ts (Ty.bool :: (Ty.bool :: ([] : List Ty))))) => (or v0.1 v0.2.1))))) (1000000000:Nat) ∧ @LE.le Nat instLENat (List.length (rectsB (bandsP a ([] : List (Ty.T RectT)) (keepF (fun (v0 : (Ts (Ty.bool :: (Ty.bool :: ([] : List Ty))))) => (or v0.1 v0.2.1)))))) (1000000000:Nat)) ∧ True ∧ (True ∧ True) ∧ @Eq _ (rectsB (bandsP a ([] : List (Ty.T RectT)) (keepF (fun (v0 : (Ts (Ty.bool :: (Ty.bool :: ([] : List Ty))))) => (or v0.1 v0.2.1))))) (combinedL a ([] : List Rect) (1:Int)))) (by kernel_rfl) ?_
  simp only [true_and, and_true, decide_eq_true_eq, decide_eq_false_iff_not, forall_const, implies_true, and_self]
  rw [show keepF _ = modeB 1 from keep_one, bandsP_is]
  have h1 := comb_len (a := a) (b := []) 1 (by simp; omega)
  have h2 := bandsP_len a [] (modeB 1) (by simp; omega)
  exact ⟨⟨hx, by simp⟩, ⟨by omega, by omega⟩, rfl⟩
abbrev K70 : KCons := (52, fun Γc => pure_ Γc ((pcon [.d (.list RectT)] fun x => (x.1.length ≤ 1000, .own RectT (combinedL x.1 [] 1))))) :: K69
theorem HK70 : KS Tryz.prog K70 := ks_add (ksound_pure (s_canonical)) HK69
theorem sameRects_comm (a b : List Rect) : sameRects a b = sameRects b a := by
  unfold sameRects
  rw [Bool.eq_iff_iff]
  simp only [decide_eq_true_eq]
  exact ⟨Eq.symm, Eq.symm⟩
def isCan (l : List Rect) : Bool := decide ((l.length : Int) ≤ 256) && sameRects (combinedL l [] 1) l
theorem s_rIsCanonical : PSound Tryz.prog 40 (pcon [.d (.list RectT)] fun x => (x.1.length ≤ 1000, .bool (isCan x.1))) := by
  refine psoundF (K := K70) (Γc := C58) (Γr := R0) (fun _ => []) hm HK70 HC58 HR0 Tryz.call40 Tryz.func40 (by kernel_rfl) ?_
  rintro ⟨a, _⟩ hx
  have hx : List.length a ≤ 1000 := hx
  refine Eq.mpr (β := (True ∧ True ∧ True ∧ True ∧ True ∧ (@Eq Bool (@decide (@LE.le Int Int.instLEInt (@Nat.cast Int _ (List.length a)) (256:Int)) (Int.decLe (@Nat.cast Int _ (List.length a)) (256:Int))) true → True) ∧ (@Eq Bool (@decide (@LE.le Int Int.instLEInt (@Nat.cast Int _ (List.length a)) (256:Int)) (Int.decLe (@Nat.cast Int _ (List.length a)) (256:Int))) true → @LE.le Nat instLENat (List.length a) (1000:Nat)) ∧ (@Eq Bool (@decide (@LE.le Int Int.instLEInt (@Nat.cast Int _ (List.length a)) (256:Int)) (Int.decLe (@Nat.cast Int _ (List.length a)) (256:Int))) true → True) ∧ (@Eq Bool (@decide (@LE.le Int Int.instLEInt (@Nat.cast Int _ (List.length a)) (256:Int)) (Int.decLe (@Nat.cast Int _ (List.length a)) (256:Int))) true → (@LE.le Nat instLENat (List.length (combinedL a ([] : List Rect) (1:Int))) (1000000000:Nat) ∧ @LE.le Nat instLENat (List.length a) (1000000000:Nat))) ∧ True ∧ True ∧ (True ∧ True) ∧ @Eq Bool (and (@decide (@LE.le Int Int.instLEInt (@Nat.cast Int _ (List.length a)) (256:Int)) (Int.decLe (@Nat.cast Int _ (List.length a)) (256:Int))) (sameRects (combinedL a ([] : List Rect) (1:Int)) a)) (isCan a))) (by kernel_rfl) ?_
  simp only [true_and, and_true, decide_eq_true_eq, decide_eq_false_iff_not, forall_const, implies_true, and_self]
  have h1 := comb_len (a := a) (b := []) 1 (by simp; omega)
  exact ⟨fun _ => hx, fun _ => ⟨by omega, by omega⟩, rfl⟩
abbrev K71 : KCons := (40, fun Γc => pure_ Γc ((pcon [.d (.list RectT)] fun x => (x.1.length ≤ 1000, .bool (isCan x.1))))) :: K70
theorem HK71 : KS Tryz.prog K71 := ks_add (ksound_pure (s_rIsCanonical)) HK70
def opOut (a b : List Rect) (m : Int) : AV := .tup [.own RectT (limL (combinedL a b m)), .int .i64 (limE (combinedL a b m))]
theorem s_rSubtract : PSound Tryz.prog 41 (pcon [.d (.list RectT), .d (.list RectT)] fun x => (x.1.length ≤ 1000 ∧ x.2.1.length ≤ 1000, opOut x.1 x.2.1 3)) := by
  refine psoundF (K := K71) (Γc := C58) (Γr := R0) (fun _ => []) hm HK71 HC58 HR0 Tryz.call41 Tryz.func41 (by kernel_rfl) ?_
  rintro ⟨a, b, _⟩ hx
  obtain ⟨ha, hb⟩ : List.length a ≤ 1000 ∧ List.length b ≤ 1000 := hx
  refine Eq.mpr (β := (True ∧ True ∧ True ∧ True ∧ (@LE.le Nat instLENat (List.length a) (1000:Nat) ∧ @LE.le Nat instLENat (List.length b) (1000:Nat)) ∧ (@LE.le Nat instLENat (List.length (bandsP a b (keepF (fun (v0 : (Ts (Ty.bool :: (Ty.bool :: ([] : List Ty))))) => (and v0.1 (not v0.2.1)))))) (1000000000:Nat) ∧ @LE.le Nat instLENat (List.length (rectsB (bandsP a b (keepF (fun (v0 : (Ts (Ty.bool :: (Ty.bool :: ([] : List Ty))))) => (and v0.1 (not v0.2.1))))))) (1000000000:Nat)) ∧ (True ∧ (True ∧ True) ∧ @Eq _ (rectsB (bandsP a b (keepF (fun (v0 : (Ts (Ty.bool :: (Ty.bool :: ([] : List Ty))))) => (and v0.1 (not v0.2.1)))))) (rectsB (bandsP a b (keepF (fun (v0 : (Ts (Ty.bool :: (Ty.bool :: ([] : List Ty))))) => (and v0.1 (not v0.2.1)))))) ∧ True) ∧ True ∧ True ∧ True ∧ True ∧ (True ∧ True ∧ True) ∧ @Eq _ (limL (rectsB (bandsP a b (keepF (fun (v0 : (Ts (Ty.bool :: (Ty.bool :: ([] : List Ty))))) => (and v0.1 (not v0.2.1))))))) (limL (combinedL a b (3:Int))) ∧ @Eq Int (limE (rectsB (bandsP a b (keepF (fun (v0 : (Ts (Ty.bool :: (Ty.bool :: ([] : List Ty))))) => (and v0.1 (not v0.2.1))))))) (limE (combinedL a b (3:Int))) ∧ True)) (by kernel_rfl) ?_
  simp only [true_and, and_true, decide_eq_true_eq, decide_eq_false_iff_not, forall_const, implies_true, and_self]
  rw [show keepF _ = modeB 3 from keep_three, bandsP_is]
  have h1 := comb_len (a := a) (b := b) 3 (by omega)
  have h2 := bandsP_len a b (modeB 3) (by omega)
  exact ⟨⟨ha, hb⟩, ⟨by omega, by omega⟩, rfl, rfl⟩
abbrev K72 : KCons := (41, fun Γc => pure_ Γc ((pcon [.d (.list RectT), .d (.list RectT)] fun x => (x.1.length ≤ 1000 ∧ x.2.1.length ≤ 1000, opOut x.1 x.2.1 3)))) :: K71
theorem HK72 : KS Tryz.prog K72 := ks_add (ksound_pure (s_rSubtract)) HK71
def eqReg (a b : List Rect) : Bool := sameRects (combinedL a [] 1) (combinedL b [] 1)
/-! the reference's -/
end Go.Proofs.YtijmbmncdchjkaaGreat
