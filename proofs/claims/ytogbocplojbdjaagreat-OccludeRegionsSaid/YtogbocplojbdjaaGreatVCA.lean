/-
  A part of the proof: what some of the program's functions compute.
-/
import Derived.Test.YtogbocplojbdjaaGreatVFA
namespace Go.Proofs.YtogbocplojbdjaaGreat
open Go Go.E Go.Proofs
set_option linter.unusedVariables false
set_option linter.unusedSimpArgs false
def prodU (a b : Int) : Int := IntKind.u8.wrap (IntKind.i64.wrap ((IntKind.i64.wrap (IntKind.i64.wrap (IntKind.i64.wrap a * IntKind.i64.wrap b) + 127)).tdiv 255))
def scaleP (p : Pix) (k : Int) : Pix := (prodU (clampP p).1 k, prodU (clampP p).2.1 k, prodU (clampP p).2.2.1 k, prodU (clampP p).2.2.2 k)
def overP (s d : Pix) : Pix :=
  (IntKind.u8.wrap ((clampP s).1 + (scaleP d (IntKind.u8.wrap (255 - s.2.2.2))).1), IntKind.u8.wrap ((clampP s).2.1 + (scaleP d (IntKind.u8.wrap (255 - s.2.2.2))).2.1),
   IntKind.u8.wrap ((clampP s).2.2.1 + (scaleP d (IntKind.u8.wrap (255 - s.2.2.2))).2.2.1), IntKind.u8.wrap (s.2.2.2 + (scaleP d (IntKind.u8.wrap (255 - s.2.2.2))).2.2.2))
theorem s_r4coord : PSound Tryz.prog 164 c_rvalid := by
  refine psoundF (K := K72) (Γc := C48) (Γr := R0) (fun _ => []) hm HK72 HC48 HR0 Tryz.call164 Tryz.func164 (by kernel_rfl) ?_
  rintro ⟨n, _⟩ _
  refine Eq.mpr (β := (True ∧ True ∧ True ∧ True ∧ (@Eq Bool (@decide (@GE.ge Int Int.instLEInt n (Neg.neg 16384)) (Int.decLe (Neg.neg 16384) n)) true → True) ∧ (@Eq Bool (@decide (@GE.ge Int Int.instLEInt n (Neg.neg 16384)) (Int.decLe (Neg.neg 16384) n)) true → True) ∧ True ∧ True ∧ (True ∧ True) ∧ @Eq Bool (and (@decide (@GE.ge Int Int.instLEInt n (Neg.neg 16384)) (Int.decLe (Neg.neg 16384) n)) (@decide (@LE.le Int _ n 16384) (Int.decLe n 16384))) (coordOk n))) (by kernel_rfl) ?_
  simp [coordOk]
abbrev K73 : KCons := (164, fun Γc => pure_ Γc (c_rvalid)) :: K72
theorem HK73 : KS Tryz.prog K73 := ks_add (ksound_pure (s_r4coord)) HK72
theorem s_r4Valid : PSound Tryz.prog 143 c_rValid := by
  refine psoundF (K := K73) (Γc := C48) (Γr := R0) (fun _ => []) hm HK73 HC48 HR0 Tryz.call143 Tryz.func143 (by kernel_rfl) ?_
  rintro ⟨⟨a, b, c, d⟩, _⟩ _
  refine Eq.mpr (β := (True ∧ True ∧ True ∧ True ∧ True ∧ True ∧ (@Eq Bool (coordOk a) true → True) ∧ (@Eq Bool (coordOk a) true → True) ∧ (@Eq Bool (coordOk a) true → True) ∧ True ∧ True ∧ (@Eq Bool (and (coordOk a) (coordOk b)) true → True) ∧ (@Eq Bool (and (coordOk a) (coordOk b)) true → True) ∧ (@Eq Bool (and (coordOk a) (coordOk b)) true → True) ∧ True ∧ True ∧ (@Eq Bool (and (and (coordOk a) (coordOk b)) (coordOk c)) true → True) ∧ (@Eq Bool (and (and (coordOk a) (coordOk b)) (coordOk c)) true → True) ∧ (@Eq Bool (and (and (coordOk a) (coordOk b)) (coordOk c)) true → True) ∧ True ∧ True ∧ (True ∧ True) ∧ @Eq Bool (and (and (and (coordOk a) (coordOk b)) (coordOk c)) (coordOk d)) (validR (a, (b, (c, d)))))) (by kernel_rfl) ?_
  simp [validR]
abbrev K74 : KCons := (143, fun Γc => pure_ Γc (c_rValid)) :: K73
theorem HK74 : KS Tryz.prog K74 := ks_add (ksound_pure (s_r4Valid)) HK73
theorem s_r4Empty : PSound Tryz.prog 129 c_rEmpty := by
  refine psoundF (K := K74) (Γc := C48) (Γr := R0) (fun _ => []) hm HK74 HC48 HR0 Tryz.call129 Tryz.func129 (by kernel_rfl) ?_
  rintro ⟨⟨a, b, c, d⟩, _⟩ _
  refine Eq.mpr (β := (True ∧ True ∧ True ∧ True ∧ True ∧ True ∧ (@Eq Bool (not (validR (a, (b, (c, d))))) false → True) ∧ (@Eq Bool (not (validR (a, (b, (c, d))))) false → True) ∧ (@Eq Bool (not (validR (a, (b, (c, d))))) false → True) ∧ (@Eq Bool (not (validR (a, (b, (c, d))))) false → True) ∧ (@Eq Bool (not (validR (a, (b, (c, d))))) false → True) ∧ True ∧ True ∧ (@Eq Bool (or (not (validR (a, (b, (c, d))))) (@decide (@GE.ge Int Int.instLEInt a c) (Int.decLe c a))) false → True) ∧ (@Eq Bool (or (not (validR (a, (b, (c, d))))) (@decide (@GE.ge Int Int.instLEInt a c) (Int.decLe c a))) false → True) ∧ (@Eq Bool (or (not (validR (a, (b, (c, d))))) (@decide (@GE.ge Int Int.instLEInt a c) (Int.decLe c a))) false → True) ∧ (@Eq Bool (or (not (validR (a, (b, (c, d))))) (@decide (@GE.ge Int Int.instLEInt a c) (Int.decLe c a))) false → True) ∧ (@Eq Bool (or (not (validR (a, (b, (c, d))))) (@decide (@GE.ge Int Int.instLEInt a c) (Int.decLe c a))) false → True) ∧ True ∧ True ∧ (True ∧ True) ∧ @Eq Bool (or (or (not (validR (a, (b, (c, d))))) (@decide (@GE.ge Int Int.instLEInt a c) (Int.decLe c a))) (@decide (@GE.ge Int Int.instLEInt b d) (Int.decLe d b))) (emptyR (a, (b, (c, d)))))) (by kernel_rfl) ?_
  simp [emptyR]
abbrev K75 : KCons := (129, fun Γc => pure_ Γc (c_rEmpty)) :: K74
theorem HK75 : KS Tryz.prog K75 := ks_add (ksound_pure (s_r4Empty)) HK74
theorem s_r4Canonical : PSound Tryz.prog 130 c_rCanonical := by
  refine psoundF (K := K75) (Γc := C48) (Γr := R0) (fun _ => []) hm HK75 HC48 HR0 Tryz.call130 Tryz.func130 (by kernel_rfl) ?_
  rintro ⟨⟨a, b, c, d⟩, _⟩ _
  refine Eq.mpr (β := (True ∧ True ∧ True ∧ True ∧ (@Eq Bool (emptyR (a, (b, (c, d)))) true → (True ∧ True ∧ (True ∧ True) ∧ @Eq Int 0 (canonR (a, (b, (c, d)))).1 ∧ @Eq Int 0 (canonR (a, (b, (c, d)))).2.1 ∧ @Eq Int 0 (canonR (a, (b, (c, d)))).2.2.1 ∧ @Eq Int 0 (canonR (a, (b, (c, d)))).2.2.2 ∧ True)) ∧ (@Eq Bool (emptyR (a, (b, (c, d)))) false → (True ∧ True ∧ (True ∧ True) ∧ @Eq Int a (canonR (a, (b, (c, d)))).1 ∧ @Eq Int b (canonR (a, (b, (c, d)))).2.1 ∧ @Eq Int (c, d).1 (canonR (a, (b, (c, d)))).2.2.1 ∧ @Eq Int (c, d).2 (canonR (a, (b, (c, d)))).2.2.2 ∧ True)))) (by kernel_rfl) ?_
  simp only [true_and, and_true]
  exact ⟨fun h => by simp [canonR, h], fun h => by simp [canonR, h]⟩
abbrev K76 : KCons := (130, fun Γc => pure_ Γc (c_rCanonical)) :: K75
theorem HK76 : KS Tryz.prog K76 := ks_add (ksound_pure (s_r4Canonical)) HK75
def insideR (r : Rect) (x y : Int) : Bool := !emptyR r && (decide (r.1 ≤ x) && (decide (x < r.2.2.1) && (decide (r.2.1 ≤ y) && decide (y < r.2.2.2))))
def interQ (a b : Rect) : Rect := if emptyR a = true ∨ emptyR b = true then (0, 0, 0, 0) else canonR (max a.1 b.1, max a.2.1 b.2.1, min a.2.2.1 b.2.2.1, min a.2.2.2 b.2.2.2)
theorem inter_go (a b : Rect) : ((emptyR a || emptyR b) = true → 0 = (interQ a b).1 ∧ 0 = (interQ a b).2.1 ∧ 0 = (interQ a b).2.2.1 ∧ 0 = (interQ a b).2.2.2) ∧
    ((emptyR a || emptyR b) = false → (canonR (if b.1 > a.1 then b.1 else a.1, if b.2.1 > a.2.1 then b.2.1 else a.2.1, if b.2.2.1 < a.2.2.1 then b.2.2.1 else a.2.2.1, if b.2.2.2 < a.2.2.2 then b.2.2.2 else a.2.2.2)).1 = (interQ a b).1 ∧
      (canonR (if b.1 > a.1 then b.1 else a.1, if b.2.1 > a.2.1 then b.2.1 else a.2.1, if b.2.2.1 < a.2.2.1 then b.2.2.1 else a.2.2.1, if b.2.2.2 < a.2.2.2 then b.2.2.2 else a.2.2.2)).2.1 = (interQ a b).2.1 ∧
      (canonR (if b.1 > a.1 then b.1 else a.1, if b.2.1 > a.2.1 then b.2.1 else a.2.1, if b.2.2.1 < a.2.2.1 then b.2.2.1 else a.2.2.1, if b.2.2.2 < a.2.2.2 then b.2.2.2 else a.2.2.2)).2.2.1 = (interQ a b).2.2.1 ∧
      (canonR (if b.1 > a.1 then b.1 else a.1, if b.2.1 > a.2.1 then b.2.1 else a.2.1, if b.2.2.1 < a.2.2.1 then b.2.2.1 else a.2.2.1, if b.2.2.2 < a.2.2.2 then b.2.2.2 else a.2.2.2)).2.2.2 = (interQ a b).2.2.2) := by
  refine ⟨fun h => ?_, fun h => ?_⟩
  · rw [Bool.or_eq_true] at h
    rw [interQ, if_pos h]
    exact ⟨rfl, rfl, rfl, rfl⟩
  · have h : ¬ (emptyR a = true ∨ emptyR b = true) := by rw [← Bool.or_eq_true, h]; simp
    rw [interQ, if_neg h]
    simp only [min_if, max_if, and_self]
theorem s_rcIntersect : PSound Tryz.prog 61 (pcon [.d RectT, .d RectT] fun x => (True, .agg (enc RectT (interQ x.1 x.2.1)))) := by
  refine psoundF (K := K76) (Γc := C48) (Γr := R0) (fun _ => []) hm HK76 HC48 HR0 Tryz.call61 Tryz.func61 (by kernel_rfl) ?_
  rintro ⟨a, b, _⟩ _
  refine Eq.mpr (β := (True ∧ True ∧ True ∧ True ∧ True ∧ True ∧ (@Eq Bool (emptyR a) false → True) ∧ (@Eq Bool (emptyR a) false → True) ∧ True ∧ (@Eq Bool (or (emptyR a) (emptyR b)) true → (True ∧ True ∧ (True ∧ True) ∧ @Eq Int 0 (interQ a b).1 ∧ @Eq Int 0 (interQ a b).2.1 ∧ @Eq Int 0 (interQ a b).2.2.1 ∧ @Eq Int 0 (interQ a b).2.2.2 ∧ True)) ∧ (@Eq Bool (or (emptyR a) (emptyR b)) false → (True ∧ True ∧ True ∧ True ∧ True ∧ True ∧ True ∧ True ∧ True ∧ True ∧ True ∧ True ∧ True ∧ True ∧ True ∧ True ∧ True ∧ True ∧ True ∧ True ∧ True ∧ True ∧ True ∧ (True ∧ True) ∧ @Eq Int (canonR ((if (@GT.gt Int _ b.1 a.1) then b.1 else a.1), ((if (@GT.gt Int _ b.2.1 a.2.1) then b.2.1 else a.2.1), ((if (@LT.lt Int _ b.2.2.1 a.2.2.1) then b.2.2.1 else a.2.2.1), (if (@LT.lt Int _ b.2.2.2 a.2.2.2) then b.2.2.2 else a.2.2.2))))).1 (interQ a b).1 ∧ @Eq Int (canonR ((if (@GT.gt Int _ b.1 a.1) then b.1 else a.1), ((if (@GT.gt Int _ b.2.1 a.2.1) then b.2.1 else a.2.1), ((if (@LT.lt Int _ b.2.2.1 a.2.2.1) then b.2.2.1 else a.2.2.1), (if (@LT.lt Int _ b.2.2.2 a.2.2.2) then b.2.2.2 else a.2.2.2))))).2.1 (interQ a b).2.1 ∧ @Eq Int (canonR ((if (@GT.gt Int _ b.1 a.1) then b.1 else a.1), ((if (@GT.gt Int _ b.2.1 a.2.1) then b.2.1 else a.2.1), ((if (@LT.lt Int _ b.2.2.1 a.2.2.1) then b.2.2.1 else a.2.2.1), (if (@LT.lt Int _ b.2.2.2 a.2.2.2) then b.2.2.2 else a.2.2.2))))).2.2.1 (interQ a b).2.2.1 ∧ @Eq Int (canonR ((if (@GT.gt Int _ b.1 a.1) then b.1 else a.1), ((if (@GT.gt Int _ b.2.1 a.2.1) then b.2.1 else a.2.1), ((if (@LT.lt Int _ b.2.2.1 a.2.2.1) then b.2.2.1 else a.2.2.1), (if (@LT.lt Int _ b.2.2.2 a.2.2.2) then b.2.2.2 else a.2.2.2))))).2.2.2 (interQ a b).2.2.2 ∧ True)))) (by kernel_rfl) ?_
  simp only [true_and, and_true, decide_eq_true_eq, decide_eq_false_iff_not, forall_const, implies_true, and_self]
  exact inter_go a b
abbrev K77 : KCons := (61, fun Γc => pure_ Γc ((pcon [.d RectT, .d RectT] fun x => (True, .agg (enc RectT (interQ x.1 x.2.1)))))) :: K76
theorem HK77 : KS Tryz.prog K77 := ks_add (ksound_pure (s_rcIntersect)) HK76
end Go.Proofs.YtogbocplojbdjaaGreat
