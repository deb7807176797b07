/-
  A part of the proof: what some of the program's functions compute.
-/
import Derived.Test.YtogbocplojbdjaaVRK
namespace Go.Proofs.Ytogbocplojbdjaa
open Go Go.E Go.Proofs
set_option linter.unusedVariables false
set_option linter.unusedSimpArgs false
def small (r : Rect) : Prop := (-16384 ≤ r.1 ∧ r.1 < r.2.2.1 ∧ r.2.2.1 ≤ 16384) ∧ -16384 ≤ r.2.1 ∧ r.2.1 < r.2.2.2 ∧ r.2.2.2 ≤ 16384
theorem region_small {l : List Rect} (h : Region l) : ∀ r ∈ l, small r := by
  obtain ⟨bs, rfl, hc, hb⟩ := h
  intro r hr
  unfold rectsB at hr
  obtain ⟨b, hbm, hr⟩ := List.mem_flatMap.1 hr
  unfold rectsB1 at hr
  obtain ⟨p, hp, rfl⟩ := List.mem_map.1 hr
  obtain ⟨c1, _, c3⟩ := hc.ok b hbm
  obtain ⟨k1, k2, k3⟩ := hb b hbm
  obtain ⟨k4, k5⟩ := k3 p hp
  have := c1.1 p hp
  unfold inB at k1 k2 k4 k5
  unfold small
  simp only
  omega
theorem small_area {r : Rect} (h : small r) : areaR r = areaOne r ∧ 0 ≤ areaOne r ∧ areaOne r ≤ 1073741824 := by
  unfold small at h
  have he : emptyR r = false := by
    simp [emptyR, validR, coordOk]
    omega
  have hm := mul_range (p := r.2.2.1 - r.1) (q := r.2.2.2 - r.2.1) (B := 32768) (by omega) (by omega)
  have hn : 0 ≤ (r.2.2.1 - r.1) * (r.2.2.2 - r.2.1) := Int.mul_nonneg (by omega) (by omega)
  unfold areaR canonR areaOne
  rw [he]
  simp only [Bool.false_eq_true, if_false]
  refine ⟨trivial, hn, by omega⟩
theorem areaL_take {l : List Rect} {i : Nat} (h : i < l.length) : areaL (l.take (i + 1)) = areaL (l.take i) + areaOne (elemAt (t := RectT) l i) := by
  rw [List.take_add_one, elemAt_get (t := RectT) l i h, areaL_append]
  simp [areaL]
theorem areaL_bound : ∀ {l : List Rect}, (∀ r ∈ l, small r) → 0 ≤ areaL l ∧ areaL l ≤ l.length * 1073741824
  | [], _ => by simp [areaL]
  | r :: l, h => by
    obtain ⟨h1, h2⟩ := areaL_bound (l := l) fun x hx => h x (List.mem_cons_of_mem _ hx)
    obtain ⟨_, h3, h4⟩ := small_area (h r (List.mem_cons_self ..))
    simp only [areaL, List.length_cons]
    push_cast
    omega
theorem s_rArea2 : PSound Try.prog 23 (pcon [.d (.list RectT)] fun x => (x.1.length ≤ 1000, .int .i64 (areaL (combinedL x.1 [] 1)))) := by
  refine psoundF (K := K50) (Γc := C33) (Γr := R0) (fun x => [(3, annP [.slot 9 I64, .slot 3 I64] (fun _ y => (0 ≤ y.1 ∧ y.1 ≤ (combinedL x.1 [] 1).length) ∧ y.2.1 = areaL (List.take y.1.toNat (combinedL x.1 [] 1))) (fun y => ((combinedL x.1 [] 1).length - y.1 : Int).toNat))]) hm HK50 HC33 HR0 Try.call23 Try.func23 (by kernel_rfl) ?_
  rintro ⟨a, _⟩ hx
  have hx : List.length a ≤ 1000 := hx
  have h1 := comb_len (a := a) (b := []) 1 (by simp; omega)
  refine Eq.mpr (β := (True ∧ True ∧ True ∧ @LE.le Nat _ (List.length a) 1000 ∧ True ∧ True ∧ ((True ∧ (@Eq Int 0 0 ∧ @Eq Int (@Nat.cast Int _ (List.length (combinedL a ([] : List Rect) 1))) (@Nat.cast Int _ (List.length (combinedL a ([] : List Rect) 1))) ∧ True ∧ @Eq _ a a ∧ @Eq Int 0 0 ∧ @Eq Int 0 0 ∧ @Eq _ a a ∧ True) ∧ @Eq _ (combinedL a ([] : List Rect) 1) (combinedL a ([] : List Rect) 1) ∧ True) ∧ (@LE.le Int _ 0 0 ∧ @LE.le Int _ 0 (@Nat.cast (Pl.T (Pl.slot 9 I64)) _ (List.length (combinedL a ([] : List Rect) 1)))) ∧ @Eq Int 0 (areaL (List.take 0 (combinedL a ([] : List Rect) 1)))) ∧ (∀ (v0 : (Prod Int (Prod Int Unit))), (((@LE.le Int _ 0 v0.1 ∧ @LE.le Int _ v0.1 (@Nat.cast (Pl.T (Pl.slot 9 I64)) _ (List.length (combinedL a ([] : List Rect) 1)))) ∧ @Eq Int v0.2.1 (areaL (List.take (Int.toNat v0.1) (combinedL a ([] : List Rect) 1)))) → (True ∧ (@Eq Bool (@decide (@LT.lt Int _ v0.1 (@Nat.cast Int _ (List.length (combinedL a ([] : List Rect) 1)))) (Int.decLt v0.1 (@Nat.cast Int _ (List.length (combinedL a ([] : List Rect) 1))))) true → ((@LE.le Int _ 0 v0.1 ∧ @LE.le Int _ (@HAdd.hAdd Int Int Int _ v0.1 1) (@Nat.cast Int _ (List.length (combinedL a ([] : List Rect) 1)))) ∧ @LT.lt Nat _ (Int.toNat v0.1) (List.length (combinedL a ([] : List Rect) 1)) ∧ True ∧ True ∧ True ∧ True ∧ True ∧ True ∧ True ∧ True ∧ True ∧ (True ∧ (@Eq Int (IntKind.i64.wrap (@HAdd.hAdd Int Int Int _ v0.1 1)) (IntKind.i64.wrap (@HAdd.hAdd Int Int Int _ v0.1 1)) ∧ @Eq Int (@Nat.cast Int _ (List.length (combinedL a ([] : List Rect) 1))) (@Nat.cast Int _ (List.length (combinedL a ([] : List Rect) 1))) ∧ True ∧ @Eq _ a a ∧ @Eq Int (IntKind.i64.wrap (@HAdd.hAdd Int Int Int _ v0.2.1 (areaR (@elemAt RectT (combinedL a ([] : List Rect) 1) (Int.toNat v0.1))))) (IntKind.i64.wrap (@HAdd.hAdd Int Int Int _ v0.2.1 (areaR (@elemAt RectT (combinedL a ([] : List Rect) 1) (Int.toNat v0.1))))) ∧ @Eq Int 0 0 ∧ @Eq _ a a ∧ True) ∧ @Eq _ (combinedL a ([] : List Rect) 1) (combinedL a ([] : List Rect) 1) ∧ True) ∧ ((@LE.le Int _ 0 (IntKind.i64.wrap (@HAdd.hAdd Int Int Int _ v0.1 1)) ∧ @LE.le Int _ (IntKind.i64.wrap (@HAdd.hAdd Int Int Int _ v0.1 1)) (@Nat.cast (Pl.T (Pl.slot 9 I64)) _ (List.length (combinedL a ([] : List Rect) 1)))) ∧ @Eq Int (IntKind.i64.wrap (@HAdd.hAdd Int Int Int _ v0.2.1 (areaR (@elemAt RectT (combinedL a ([] : List Rect) 1) (Int.toNat v0.1))))) (areaL (List.take (Int.toNat (IntKind.i64.wrap (@HAdd.hAdd Int Int Int _ v0.1 1))) (combinedL a ([] : List Rect) 1)))) ∧ @LT.lt Nat _ (Int.toNat (@HSub.hSub Int Int Int _ (@Nat.cast Int _ (List.length (combinedL a ([] : List Rect) 1))) (IntKind.i64.wrap (@HAdd.hAdd Int Int Int _ v0.1 1)))) (Int.toNat (@HSub.hSub Int Int Int _ (@Nat.cast Int _ (List.length (combinedL a ([] : List Rect) 1))) v0.1)))) ∧ (@Eq Bool (@decide (@LT.lt Int _ v0.1 (@Nat.cast Int _ (List.length (combinedL a ([] : List Rect) 1)))) (Int.decLt v0.1 (@Nat.cast Int _ (List.length (combinedL a ([] : List Rect) 1))))) false → (True ∧ True ∧ (True ∧ True) ∧ @Eq Int v0.2.1 (areaL (combinedL a ([] : List Rect) 1))))))))) (by kernel_rfl) ?_
  simp only [true_and, and_true, decide_eq_true_eq, decide_eq_false_iff_not, forall_const, implies_true, and_self]
  have hsm := region_small (combined_region a [] 1)
  generalize combinedL a [] 1 = C at h1 hsm ⊢
  refine ⟨hx, ⟨⟨by omega, Int.natCast_nonneg _⟩, rfl⟩, ?_⟩
  rintro ⟨i, n, _⟩ ⟨⟨i0, i1⟩, he⟩
  simp only at i0 i1 he ⊢
  refine ⟨fun hi => ?_, fun hi => ?_⟩
  · have hs := hsm _ (List.mem_of_getElem? (elemAt_get (t := RectT) C i.toNat (by omega)))
    obtain ⟨a1, a2, a3⟩ := small_area hs
    obtain ⟨b1, b2⟩ := areaL_bound (l := List.take i.toNat C) fun r hr => hsm r (List.mem_of_mem_take hr)
    rw [← he] at b1 b2
    have hl : (List.take i.toNat C).length ≤ 16000000 := by rw [List.length_take]; omega
    have ht := areaL_take (l := C) (i := i.toNat) (by omega)
    rw [← he] at ht
    rw [wrap_in (n := i + 1) (by omega), show (i + 1).toNat = i.toNat + 1 by omega, a1, ht, wrap_in (by omega)]
    exact ⟨⟨i0, by omega⟩, by omega, ⟨⟨by omega, by omega⟩, rfl⟩, by omega⟩
  · rw [he, List.take_of_length_le (by omega)]
abbrev K51 : KCons := (23, fun Γc => pure_ Γc ((pcon [.d (.list RectT)] fun x => (x.1.length ≤ 1000, .int .i64 (areaL (combinedL x.1 [] 1)))))) :: K50
theorem HK51 : KS Try.prog K51 := ks_add (ksound_pure (s_rArea2)) HK50
theorem s_rTranslateR : PSound Try.prog 65 (pcon [.d (.list RectT), .d I64, .d I64] fun x => (x.1.length ≤ 1000, opOut ((cleanL x.1).map fun r => translR r x.2.1 x.2.2.1) [] 1)) := by
  refine psoundF (K := K51) (Γc := C33) (Γr := R0) (fun x => [(3, annP [.slot 14 I64, .own 8 RectT] (fun _ y => (0 ≤ y.1 ∧ y.1 ≤ (cleanL x.1).length) ∧ y.2.1 = (List.take y.1.toNat (cleanL x.1)).map fun r => translR r x.2.1 x.2.2.1) (fun y => ((cleanL x.1).length - y.1 : Int).toNat))]) hm HK51 HC33 HR0 Try.call65 Try.func65 (by kernel_rfl) ?_
  rintro ⟨a, dx, dy, _⟩ hx
  have hx : List.length a ≤ 1000 := hx
  refine Eq.mpr (β := (True ∧ True ∧ True ∧ True ∧ @LE.le Nat _ (List.length a) 1000000 ∧ True ∧ True ∧ ((True ∧ (@Eq Int 0 0 ∧ @Eq Int (@Nat.cast Int _ (List.length (cleanL a))) (@Nat.cast Int _ (List.length (cleanL a))) ∧ @Eq _ (cleanL a) (cleanL a) ∧ @Eq _ a a ∧ True ∧ @Eq Int 0 0 ∧ True ∧ @Eq _ a a ∧ @Eq Int dx dx ∧ @Eq Int dy dy ∧ True) ∧ @Eq _ ([] : List (Ty.T RectT)) ([] : List (Ty.T RectT)) ∧ True) ∧ (@LE.le Int _ 0 0 ∧ @LE.le Int _ 0 (@Nat.cast (Pl.T (Pl.slot 14 I64)) _ (List.length (cleanL a)))) ∧ @Eq _ ([] : List (Ty.T RectT)) (List.map (fun (v0 : Rect) => (translR v0 dx dy)) (List.take 0 (cleanL a)))) ∧ (∀ (v0 : (Prod Int (Prod (List Rect) Unit))), (((@LE.le Int _ 0 v0.1 ∧ @LE.le Int _ v0.1 (@Nat.cast (Pl.T (Pl.slot 14 I64)) _ (List.length (cleanL a)))) ∧ @Eq _ v0.2.1 (List.map (fun (v1 : Rect) => (translR v1 dx dy)) (List.take (Int.toNat v0.1) (cleanL a)))) → (True ∧ (@Eq Bool (@decide (@LT.lt Int _ v0.1 (@Nat.cast Int _ (List.length (cleanL a)))) (Int.decLt v0.1 (@Nat.cast Int _ (List.length (cleanL a))))) true → ((@LE.le Int _ 0 v0.1 ∧ @LE.le Int _ (@HAdd.hAdd Int Int Int _ v0.1 1) (@Nat.cast Int _ (List.length (cleanL a)))) ∧ True ∧ True ∧ True ∧ True ∧ True ∧ True ∧ True ∧ True ∧ True ∧ @LE.le Nat _ (@HMul.hMul Nat Nat Nat _ (@HAdd.hAdd Nat Nat Nat _ (List.length v0.2.1) (List.length ((translR (@elemAt RectT (cleanL a) (Int.toNat v0.1)) dx dy) :: ([] : List (Ty.T RectT))))) 32) 140737488355328 ∧ True ∧ True ∧ True ∧ (True ∧ (@Eq Int (IntKind.i64.wrap (@HAdd.hAdd Int Int Int _ v0.1 1)) (IntKind.i64.wrap (@HAdd.hAdd Int Int Int _ v0.1 1)) ∧ @Eq Int (@Nat.cast Int _ (List.length (cleanL a))) (@Nat.cast Int _ (List.length (cleanL a))) ∧ @Eq _ (cleanL a) (cleanL a) ∧ @Eq _ a a ∧ True ∧ @Eq Int 0 0 ∧ True ∧ @Eq _ a a ∧ @Eq Int dx dx ∧ @Eq Int dy dy ∧ True) ∧ @Eq _ (HAppend.hAppend v0.2.1 ((translR (@elemAt RectT (cleanL a) (Int.toNat v0.1)) dx dy) :: ([] : List (Ty.T RectT)))) (HAppend.hAppend v0.2.1 ((translR (@elemAt RectT (cleanL a) (Int.toNat v0.1)) dx dy) :: ([] : List (Ty.T RectT)))) ∧ True) ∧ ((@LE.le Int _ 0 (IntKind.i64.wrap (@HAdd.hAdd Int Int Int _ v0.1 1)) ∧ @LE.le Int _ (IntKind.i64.wrap (@HAdd.hAdd Int Int Int _ v0.1 1)) (@Nat.cast (Pl.T (Pl.slot 14 I64)) _ (List.length (cleanL a)))) ∧ @Eq _ (HAppend.hAppend v0.2.1 ((translR (@elemAt RectT (cleanL a) (Int.toNat v0.1)) dx dy) :: ([] : List (Ty.T RectT)))) (List.map (fun (v1 : Rect) => (translR v1 dx dy)) (List.take (Int.toNat (IntKind.i64.wrap (@HAdd.hAdd Int Int Int _ v0.1 1))) (cleanL a)))) ∧ @LT.lt Nat _ (Int.toNat (@HSub.hSub Int Int Int _ (@Nat.cast Int _ (List.length (cleanL a))) (IntKind.i64.wrap (@HAdd.hAdd Int Int Int _ v0.1 1)))) (Int.toNat (@HSub.hSub Int Int Int _ (@Nat.cast Int _ (List.length (cleanL a))) v0.1)))) ∧ (@Eq Bool (@decide (@LT.lt Int _ v0.1 (@Nat.cast Int _ (List.length (cleanL a)))) (Int.decLt v0.1 (@Nat.cast Int _ (List.length (cleanL a))))) false → (True ∧ @LE.le Nat _ (List.length v0.2.1) 1000 ∧ True ∧ True ∧ True ∧ True ∧ (True ∧ True ∧ True) ∧ @Eq _ (limL (combinedL v0.2.1 ([] : List Rect) 1)) (limL (combinedL (List.map (fun (v1 : Rect) => (translR v1 dx dy)) (cleanL a)) ([] : List Rect) 1)) ∧ @Eq Int (limE (combinedL v0.2.1 ([] : List Rect) 1)) (limE (combinedL (List.map (fun (v1 : Rect) => (translR v1 dx dy)) (cleanL a)) ([] : List Rect) 1)) ∧ True))))))) (by kernel_rfl) ?_
  simp only [true_and, and_true, decide_eq_true_eq, decide_eq_false_iff_not, forall_const, implies_true, and_self]
  have hcl := cleanL_len a
  refine ⟨by omega, ⟨⟨by omega, Int.natCast_nonneg _⟩, rfl⟩, ?_⟩
  rintro ⟨i, out, _⟩ ⟨⟨i0, i1⟩, he⟩
  simp only at i0 i1 he ⊢
  have hol : out.length ≤ 1000 := by
    rw [he, List.length_map, List.length_take]
    omega
  refine ⟨fun hi => ?_, fun hi => ?_⟩
  · have hx2 := elemAt_get (t := RectT) (cleanL a) i.toNat (by omega)
    rw [wrap_in (by omega), show (i + 1).toNat = i.toNat + 1 by omega, List.take_add_one, hx2, List.map_append, ← he]
    refine ⟨⟨i0, by omega⟩, ?_, ⟨⟨by omega, by omega⟩, rfl⟩, by omega⟩
    simp only [List.length_singleton]
    omega
  · rw [List.take_of_length_le (by omega)] at he
    rw [← he]
    exact ⟨hol, rfl, rfl⟩
abbrev K52 : KCons := (65, fun Γc => pure_ Γc ((pcon [.d (.list RectT), .d I64, .d I64] fun x => (x.1.length ≤ 1000, opOut ((cleanL x.1).map fun r => translR r x.2.1 x.2.2.1) [] 1)))) :: K51
theorem HK52 : KS Try.prog K52 := ks_add (ksound_pure (s_rTranslateR)) HK51
end Go.Proofs.Ytogbocplojbdjaa
