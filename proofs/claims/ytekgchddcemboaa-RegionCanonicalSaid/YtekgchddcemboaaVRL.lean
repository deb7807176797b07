/-
  A part of the proof: what some of the program's functions compute.
-/
import Derived.Test.YtekgchddcemboaaVRK
namespace Go.Proofs.Ytekgchddcemboaa
open Go Go.E Go.Proofs
set_option linter.unusedVariables false
set_option linter.unusedSimpArgs false
/-! areas, bounds, moving -/
def small (r : Rect) : Prop := (-16384 ≤ r.1 ∧ r.1 < r.2.2.1 ∧ r.2.2.1 ≤ 16384) ∧ -16384 ≤ r.2.1 ∧ r.2.1 < r.2.2.2 ∧ r.2.2.2 ≤ 16384
theorem region_small {l : List Rect} (h : Region l) : ∀ r ∈ l, small r := by
  obtain ⟨bs, rfl, hc, hb⟩ := h
  intro r hr
  unfold rectsB at hr
  obtain ⟨b, hbm, hr⟩ := List.mem_flatMap.1 hr
  unfold rectsB1 at hr
  obtain ⟨p, hp, rfl⟩ := List.mem_map.1 hr
  obtain ⟨c1, _, c3⟩ := hc.ok b hbm
  obtain ⟨k1, k2, k3⟩ := hb b hbm
  obtain ⟨k4, k5⟩ := k3 p hp
  have := c1.1 p hp
  unfold inB at k1 k2 k4 k5
  unfold small
  simp only
  omega
theorem small_area {r : Rect} (h : small r) : areaR r = areaOne r ∧ 0 ≤ areaOne r ∧ areaOne r ≤ 1073741824 := by
  unfold small at h
  have he : emptyR r = false := by
    simp [emptyR, validR, coordOk]
    omega
  have hm := mul_range (p := r.2.2.1 - r.1) (q := r.2.2.2 - r.2.1) (B := 32768) (by omega) (by omega)
  have hn : 0 ≤ (r.2.2.1 - r.1) * (r.2.2.2 - r.2.1) := Int.mul_nonneg (by omega) (by omega)
  unfold areaR canonR areaOne
  rw [he]
  simp only [Bool.false_eq_true, if_false]
  refine ⟨trivial, hn, by omega⟩
theorem areaL_take {l : List Rect} {i : Nat} (h : i < l.length) : areaL (l.take (i + 1)) = areaL (l.take i) + areaOne (elemAt (t := RectT) l i) := by
  rw [List.take_add_one, elemAt_get (t := RectT) l i h, areaL_append]
  simp [areaL]
theorem areaL_bound : ∀ {l : List Rect}, (∀ r ∈ l, small r) → 0 ≤ areaL l ∧ areaL l ≤ l.length * 1073741824
  | [], _ => by simp [areaL]
  | r :: l, h => by
    obtain ⟨h1, h2⟩ := areaL_bound (l := l) fun x hx => h x (List.mem_cons_of_mem _ hx)
    obtain ⟨_, h3, h4⟩ := small_area (h r (List.mem_cons_self ..))
    simp only [areaL, List.length_cons]
    push_cast
    omega
theorem s_rArea2 : PSound Try.prog 24 (pcon [.d (.list RectT)] fun x => (x.1.length ≤ 1000, .int .i64 (areaL (combinedL x.1 [] 1)))) := by
  refine psoundF (K := K62) (Γc := C39) (Γr := R0) (fun x => [(3, annP [.slot 9 I64, .slot 3 I64] (fun _ y => (0 ≤ y.1 ∧ y.1 ≤ (combinedL x.1 [] 1).length) ∧ y.2.1 = areaL (List.take y.1.toNat (combinedL x.1 [] 1))) (fun y => ((combinedL x.1 [] 1).length - y.1 : Int).toNat))]) hm HK62 HC39 HR0 Try.call24 Try.func24 (by kernel_rfl) ?_
  rintro ⟨a, _⟩ hx
  have hx : List.length a ≤ 1000 := hx
  have h1 := comb_len (a := a) (b := []) 1 (by simp; omega)
  refine Eq.mpr (β := (True ∧ True ∧ True ∧ @LE.le Nat instLENat (List.length a) (1000:Nat) ∧ True ∧ True ∧ ((True ∧ (@Eq Int (Int.ofNat 0) (Int.ofNat 0) ∧ @Eq Int (@Nat.cast Int _ (List.length (combinedL a ([] : List Rect) (1:Int)))) (@Nat.cast Int _ (List.length (combinedL a ([] : List Rect) (1:Int)))) ∧ True ∧ @Eq _ a a ∧ @Eq Int (Int.ofNat 0) (Int.ofNat 0) ∧ @Eq Int (Int.ofNat 0) (Int.ofNat 0) ∧ @Eq _ a a ∧ True) ∧ @Eq _ (combinedL a ([] : List Rect) (1:Int)) (combinedL a ([] : List Rect) (1:Int)) ∧ True) ∧ (@LE.le Int Int.instLEInt (0:Int) (0:Int) ∧ @LE.le Int Int.instLEInt (0:Int) (@Nat.cast (Pl.T (Pl.slot (9:Nat) I64)) _ (List.length (combinedL a ([] : List Rect) (1:Int))))) ∧ @Eq Int (0:Int) (areaL (List.take (0:Nat) (combinedL a ([] : List Rect) (1:Int))))) ∧ (∀ (v0 : (Prod Int (Prod Int Unit))), (((@LE.le Int Int.instLEInt (0:Int) v0.1 ∧ @LE.le Int Int.instLEInt v0.1 (@Nat.cast (Pl.T (Pl.slot (9:Nat) I64)) _ (List.length (combinedL a ([] : List Rect) (1:Int))))) ∧ @Eq Int v0.2.1 (areaL (List.take (Int.toNat v0.1) (combinedL a ([] : List Rect) (1:Int))))) → (True ∧ (@Eq Bool (@decide (@LT.lt Int Int.instLTInt v0.1 (@Nat.cast Int _ (List.length (combinedL a ([] : List Rect) (1:Int))))) (Int.decLt v0.1 (@Nat.cast Int _ (List.length (combinedL a ([] : List Rect) (1:Int)))))) true → ((@LE.le Int Int.instLEInt (0:Int) v0.1 ∧ @LE.le Int Int.instLEInt (@HAdd.hAdd Int Int Int _ v0.1 (1:Int)) (@Nat.cast Int _ (List.length (combinedL a ([] : List Rect) (1:Int))))) ∧ @LT.lt Nat instLTNat (Int.toNat v0.1) (List.length (combinedL a ([] : List Rect) (1:Int))) ∧ True ∧ True ∧ True ∧ True ∧ True ∧ True ∧ True ∧ True ∧ True ∧ (True ∧ (@Eq Int (IntKind.wrap IntKind.i64 (@HAdd.hAdd Int Int Int _ v0.1 (1:Int))) (IntKind.wrap IntKind.i64 (@HAdd.hAdd Int Int Int _ v0.1 (1:Int))) ∧ @Eq Int (@Nat.cast Int _ (List.length (combinedL a ([] : List Rect) (1:Int)))) (@Nat.cast Int _ (List.length (combinedL a ([] : List Rect) (1:Int)))) ∧ True ∧ @Eq _ a a ∧ @Eq Int (IntKind.wrap IntKind.i64 (@HAdd.hAdd Int Int Int _ v0.2.1 (areaR (@elemAt RectT (combinedL a ([] : List Rect) (1:Int)) (Int.toNat v0.1))))) (IntKind.wrap IntKind.i64 (@HAdd.hAdd Int Int Int _ v0.2.1 (areaR (@elemAt RectT (combinedL a ([] : List Rect) (1:Int)) (Int.toNat v0.1))))) ∧ @Eq Int (Int.ofNat 0) (Int.ofNat 0) ∧ @Eq _ a a ∧ True) ∧ @Eq _ (combinedL a ([] : List Rect) (1:Int)) (combinedL a ([] : List Rect) (1:Int)) ∧ True) ∧ ((@LE.le Int Int.instLEInt (0:Int) (IntKind.wrap IntKind.i64 (@HAdd.hAdd Int Int Int _ v0.1 (1:Int))) ∧ @LE.le Int Int.instLEInt (IntKind.wrap IntKind.i64 (@HAdd.hAdd Int Int Int _ v0.1 (1:Int))) (@Nat.cast (Pl.T (Pl.slot (9:Nat) I64)) _ (List.length (combinedL a ([] : List Rect) (1:Int))))) ∧ @Eq Int (IntKind.wrap IntKind.i64 (@HAdd.hAdd Int Int Int _ v0.2.1 (areaR (@elemAt RectT (combinedL a ([] : List Rect) (1:Int)) (Int.toNat v0.1))))) (areaL (List.take (Int.toNat (IntKind.wrap IntKind.i64 (@HAdd.hAdd Int Int Int _ v0.1 (1:Int)))) (combinedL a ([] : List Rect) (1:Int))))) ∧ @LT.lt Nat instLTNat (Int.toNat (@HSub.hSub Int Int Int _ (@Nat.cast Int _ (List.length (combinedL a ([] : List Rect) (1:Int)))) (IntKind.wrap IntKind.i64 (@HAdd.hAdd Int Int Int _ v0.1 (1:Int))))) (Int.toNat (@HSub.hSub Int Int Int _ (@Nat.cast Int _ (List.length (combinedL a ([] : List Rect) (1:Int)))) v0.1)))) ∧ (@Eq Bool (@decide (@LT.lt Int Int.instLTInt v0.1 (@Nat.cast Int _ (List.length (combinedL a ([] : List Rect) (1:Int))))) (Int.decLt v0.1 (@Nat.cast Int _ (List.length (combinedL a ([] : List Rect) (1:Int)))))) false → (True ∧ True ∧ (True ∧ True) ∧ @Eq Int v0.2.1 (areaL (combinedL a ([] : List Rect) (1:Int)))))))))) (by kernel_rfl) ?_
  simp only [true_and, and_true, decide_eq_true_eq, decide_eq_false_iff_not, forall_const, implies_true, and_self]
  have hsm := region_small (combined_region a [] 1)
  generalize combinedL a [] 1 = C at h1 hsm ⊢
  refine ⟨hx, ⟨⟨by omega, Int.natCast_nonneg _⟩, rfl⟩, ?_⟩
  rintro ⟨i, n, _⟩ ⟨⟨i0, i1⟩, he⟩
  simp only at i0 i1 he ⊢
  refine ⟨fun hi => ?_, fun hi => ?_⟩
  · have hs := hsm _ (List.mem_of_getElem? (elemAt_get (t := RectT) C i.toNat (by omega)))
    obtain ⟨a1, a2, a3⟩ := small_area hs
    obtain ⟨b1, b2⟩ := areaL_bound (l := List.take i.toNat C) fun r hr => hsm r (List.mem_of_mem_take hr)
    rw [← he] at b1 b2
    have hl : (List.take i.toNat C).length ≤ 16000000 := by rw [List.length_take]; omega
    have ht := areaL_take (l := C) (i := i.toNat) (by omega)
    rw [← he] at ht
    rw [wrap_in (n := i + 1) (by omega), show (i + 1).toNat = i.toNat + 1 by omega, a1, ht, wrap_in (by omega)]
    exact ⟨⟨i0, by omega⟩, by omega, ⟨⟨by omega, by omega⟩, rfl⟩, by omega⟩
  · rw [he, List.take_of_length_le (by omega)]
abbrev K63 : KCons := (24, fun Γc => pure_ Γc ((pcon [.d (.list RectT)] fun x => (x.1.length ≤ 1000, .int .i64 (areaL (combinedL x.1 [] 1)))))) :: K62
theorem HK63 : KS Try.prog K63 := ks_add (ksound_pure (s_rArea2)) HK62
theorem s_r5Area : PSound Try.prog 31 (pcon [.d (.list RectT)] fun x => (x.1.length ≤ 1000, .int .i64 (areaL (combinedL x.1 [] 1)))) := by
  refine psoundF (K := K63) (Γc := C39) (Γr := R0) (fun x => [(4, annP [.slot 5 I64, .slot 4 I64] (fun _ y => (0 ≤ y.1 ∧ y.1 ≤ (combinedL x.1 [] 1).length) ∧ y.2.1 = areaL (List.take y.1.toNat (combinedL x.1 [] 1))) (fun y => ((combinedL x.1 [] 1).length - y.1 : Int).toNat))]) hm HK63 HC39 HR0 Try.call31 Try.func31 (by kernel_rfl) ?_
  rintro ⟨a, _⟩ hx
  have hx : List.length a ≤ 1000 := hx
  have h1 := comb_len (a := a) (b := []) 1 (by simp; omega)
  refine Eq.mpr (β := (True ∧ True ∧ (@LE.le Nat instLENat (List.length a) (1000:Nat) ∧ @LE.le Nat instLENat (List.length ([] : List (Ty.T RectT))) (1000:Nat)) ∧ True ∧ True ∧ True ∧ ((True ∧ (@Eq Int (Int.ofNat 0) (Int.ofNat 0) ∧ @Eq Int (Int.ofNat 0) (Int.ofNat 0) ∧ True ∧ True ∧ @Eq _ a a ∧ @Eq Int (Int.ofNat 0) (Int.ofNat 0) ∧ @Eq _ a a ∧ True) ∧ @Eq _ (combinedL a ([] : List (Ty.T RectT)) (1:Int)) (combinedL a ([] : List (Ty.T RectT)) (1:Int)) ∧ True) ∧ (@LE.le Int Int.instLEInt (0:Int) (0:Int) ∧ @LE.le Int Int.instLEInt (0:Int) (@Nat.cast (Pl.T (Pl.slot (5:Nat) I64)) _ (List.length (combinedL a ([] : List Rect) (1:Int))))) ∧ @Eq Int (0:Int) (areaL (List.take (0:Nat) (combinedL a ([] : List Rect) (1:Int))))) ∧ (∀ (v0 : (Prod Int (Prod Int Unit))), (((@LE.le Int Int.instLEInt (0:Int) v0.1 ∧ @LE.le Int Int.instLEInt v0.1 (@Nat.cast (Pl.T (Pl.slot (5:Nat) I64)) _ (List.length (combinedL a ([] : List Rect) (1:Int))))) ∧ @Eq Int v0.2.1 (areaL (List.take (Int.toNat v0.1) (combinedL a ([] : List Rect) (1:Int))))) → (True ∧ True ∧ True ∧ True ∧ (@Eq Bool (@decide (@LT.lt Int Int.instLTInt v0.1 (@Nat.cast Int _ (List.length (combinedL a ([] : List (Ty.T RectT)) (1:Int))))) (Int.decLt v0.1 (@Nat.cast Int _ (List.length (combinedL a ([] : List (Ty.T RectT)) (1:Int)))))) true → ((True ∧ True ∧ True ∧ (@LE.le Int Int.instLEInt (0:Int) v0.1 ∧ @LE.le Int Int.instLEInt (@HAdd.hAdd Int Int Int _ v0.1 (1:Int)) (@Nat.cast Int _ (List.length (combinedL a ([] : List (Ty.T RectT)) (1:Int))))) ∧ True ∧ @LT.lt Nat instLTNat (Int.toNat v0.1) (List.length (combinedL a ([] : List (Ty.T RectT)) (1:Int))) ∧ True ∧ True ∧ (@LE.le Int Int.instLEInt (0:Int) v0.1 ∧ @LE.le Int Int.instLEInt (@HAdd.hAdd Int Int Int _ v0.1 (1:Int)) (@Nat.cast Int _ (List.length (combinedL a ([] : List (Ty.T RectT)) (1:Int))))) ∧ True ∧ @LT.lt Nat instLTNat (Int.toNat v0.1) (List.length (combinedL a ([] : List (Ty.T RectT)) (1:Int))) ∧ True ∧ True ∧ True ∧ (@LE.le Int Int.instLEInt (0:Int) v0.1 ∧ @LE.le Int Int.instLEInt (@HAdd.hAdd Int Int Int _ v0.1 (1:Int)) (@Nat.cast Int _ (List.length (combinedL a ([] : List (Ty.T RectT)) (1:Int))))) ∧ True ∧ @LT.lt Nat instLTNat (Int.toNat v0.1) (List.length (combinedL a ([] : List (Ty.T RectT)) (1:Int))) ∧ True ∧ True ∧ (@LE.le Int Int.instLEInt (0:Int) v0.1 ∧ @LE.le Int Int.instLEInt (@HAdd.hAdd Int Int Int _ v0.1 (1:Int)) (@Nat.cast Int _ (List.length (combinedL a ([] : List (Ty.T RectT)) (1:Int))))) ∧ True ∧ @LT.lt Nat instLTNat (Int.toNat v0.1) (List.length (combinedL a ([] : List (Ty.T RectT)) (1:Int))) ∧ True ∧ True ∧ True ∧ True ∧ True) ∧ True ∧ True ∧ True ∧ (True ∧ (@Eq Int (IntKind.wrap IntKind.i64 (@HAdd.hAdd Int Int Int _ v0.1 (1:Int))) (IntKind.wrap IntKind.i64 (@HAdd.hAdd Int Int Int _ v0.1 (1:Int))) ∧ @Eq Int (IntKind.wrap IntKind.i64 (@HAdd.hAdd Int Int Int _ v0.2.1 (IntKind.wrap IntKind.i64 (@HMul.hMul Int Int Int _ (IntKind.wrap IntKind.i64 (@HSub.hSub Int Int Int _ (@elemAt RectT (combinedL a ([] : List (Ty.T RectT)) (1:Int)) (Int.toNat v0.1)).2.2.1 (@elemAt RectT (combinedL a ([] : List (Ty.T RectT)) (1:Int)) (Int.toNat v0.1)).1)) (IntKind.wrap IntKind.i64 (@HSub.hSub Int Int Int _ (@elemAt RectT (combinedL a ([] : List (Ty.T RectT)) (1:Int)) (Int.toNat v0.1)).2.2.2 (@elemAt RectT (combinedL a ([] : List (Ty.T RectT)) (1:Int)) (Int.toNat v0.1)).2.1)))))) (IntKind.wrap IntKind.i64 (@HAdd.hAdd Int Int Int _ v0.2.1 (IntKind.wrap IntKind.i64 (@HMul.hMul Int Int Int _ (IntKind.wrap IntKind.i64 (@HSub.hSub Int Int Int _ (@elemAt RectT (combinedL a ([] : List (Ty.T RectT)) (1:Int)) (Int.toNat v0.1)).2.2.1 (@elemAt RectT (combinedL a ([] : List (Ty.T RectT)) (1:Int)) (Int.toNat v0.1)).1)) (IntKind.wrap IntKind.i64 (@HSub.hSub Int Int Int _ (@elemAt RectT (combinedL a ([] : List (Ty.T RectT)) (1:Int)) (Int.toNat v0.1)).2.2.2 (@elemAt RectT (combinedL a ([] : List (Ty.T RectT)) (1:Int)) (Int.toNat v0.1)).2.1)))))) ∧ True ∧ True ∧ @Eq _ a a ∧ @Eq Int (Int.ofNat 0) (Int.ofNat 0) ∧ @Eq _ a a ∧ True) ∧ @Eq _ (combinedL a ([] : List (Ty.T RectT)) (1:Int)) (combinedL a ([] : List (Ty.T RectT)) (1:Int)) ∧ True) ∧ ((@LE.le Int Int.instLEInt (0:Int) (IntKind.wrap IntKind.i64 (@HAdd.hAdd Int Int Int _ v0.1 (1:Int))) ∧ @LE.le Int Int.instLEInt (IntKind.wrap IntKind.i64 (@HAdd.hAdd Int Int Int _ v0.1 (1:Int))) (@Nat.cast (Pl.T (Pl.slot (5:Nat) I64)) _ (List.length (combinedL a ([] : List Rect) (1:Int))))) ∧ @Eq Int (IntKind.wrap IntKind.i64 (@HAdd.hAdd Int Int Int _ v0.2.1 (IntKind.wrap IntKind.i64 (@HMul.hMul Int Int Int _ (IntKind.wrap IntKind.i64 (@HSub.hSub Int Int Int _ (@elemAt RectT (combinedL a ([] : List (Ty.T RectT)) (1:Int)) (Int.toNat v0.1)).2.2.1 (@elemAt RectT (combinedL a ([] : List (Ty.T RectT)) (1:Int)) (Int.toNat v0.1)).1)) (IntKind.wrap IntKind.i64 (@HSub.hSub Int Int Int _ (@elemAt RectT (combinedL a ([] : List (Ty.T RectT)) (1:Int)) (Int.toNat v0.1)).2.2.2 (@elemAt RectT (combinedL a ([] : List (Ty.T RectT)) (1:Int)) (Int.toNat v0.1)).2.1)))))) (areaL (List.take (Int.toNat (IntKind.wrap IntKind.i64 (@HAdd.hAdd Int Int Int _ v0.1 (1:Int)))) (combinedL a ([] : List Rect) (1:Int))))) ∧ @LT.lt Nat instLTNat (Int.toNat (@HSub.hSub Int Int Int _ (@Nat.cast Int _ (List.length (combinedL a ([] : List Rect) (1:Int)))) (IntKind.wrap IntKind.i64 (@HAdd.hAdd Int Int Int _ v0.1 (1:Int))))) (Int.toNat (@HSub.hSub Int Int Int _ (@Nat.cast Int _ (List.length (combinedL a ([] : List Rect) (1:Int)))) v0.1)))) ∧ (@Eq Bool (@decide (@LT.lt Int Int.instLTInt v0.1 (@Nat.cast Int _ (List.length (combinedL a ([] : List (Ty.T RectT)) (1:Int))))) (Int.decLt v0.1 (@Nat.cast Int _ (List.length (combinedL a ([] : List (Ty.T RectT)) (1:Int)))))) false → (True ∧ True ∧ (True ∧ True) ∧ @Eq Int v0.2.1 (areaL (combinedL a ([] : List Rect) (1:Int)))))))))) (by kernel_rfl) ?_
  simp only [true_and, and_true, decide_eq_true_eq, decide_eq_false_iff_not, forall_const, implies_true, and_self]
  have hsm := region_small (combined_region a [] 1)
  generalize combinedL a [] 1 = C at h1 hsm ⊢
  refine ⟨⟨hx, by simp⟩, ⟨⟨by omega, Int.natCast_nonneg _⟩, rfl⟩, ?_⟩
  rintro ⟨i, n, _⟩ ⟨⟨i0, i1⟩, he⟩
  simp only at i0 i1 he ⊢
  refine ⟨fun hi => ?_, fun hi => ?_⟩
  · have hs := hsm _ (List.mem_of_getElem? (elemAt_get (t := RectT) C i.toNat (by omega)))
    obtain ⟨a1, a2, a3⟩ := small_area hs
    obtain ⟨b1, b2⟩ := areaL_bound (l := List.take i.toNat C) fun r hr => hsm r (List.mem_of_mem_take hr)
    rw [← he] at b1 b2
    have hl : (List.take i.toNat C).length ≤ 16000000 := by rw [List.length_take]; omega
    have ht := areaL_take (l := C) (i := i.toNat) (by omega)
    rw [← he] at ht
    unfold small at hs
    have a1 : areaOne (elemAt (t := RectT) C i.toNat) = ((elemAt (t := RectT) C i.toNat).2.2.1 - (elemAt (t := RectT) C i.toNat).1) * ((elemAt (t := RectT) C i.toNat).2.2.2 - (elemAt (t := RectT) C i.toNat).2.1) := rfl
    rw [wrap_in (n := (elemAt (t := RectT) C i.toNat).2.2.1 - (elemAt (t := RectT) C i.toNat).1) (by omega), wrap_in (n := (elemAt (t := RectT) C i.toNat).2.2.2 - (elemAt (t := RectT) C i.toNat).2.1) (by omega), ← a1, wrap_in (n := areaOne (elemAt (t := RectT) C i.toNat)) (by omega)]
    rw [wrap_in (n := i + 1) (by omega), show (i + 1).toNat = i.toNat + 1 by omega, ht, wrap_in (by omega)]
    exact ⟨⟨⟨i0, by omega⟩, by omega, ⟨i0, by omega⟩, by omega, ⟨i0, by omega⟩, by omega, ⟨i0, by omega⟩, by omega⟩, ⟨⟨by omega, by omega⟩, rfl⟩, by omega⟩
  · rw [he, List.take_of_length_le (by omega)]
abbrev K64 : KCons := (31, fun Γc => pure_ Γc ((pcon [.d (.list RectT)] fun x => (x.1.length ≤ 1000, .int .i64 (areaL (combinedL x.1 [] 1)))))) :: K63
theorem HK64 : KS Try.prog K64 := ks_add (ksound_pure (s_r5Area)) HK63
def boundsL (l : List Rect) : Rect := l.foldl unionR (0, 0, 0, 0)
theorem s_rBounds : PSound Try.prog 27 (pcon [.d (.list RectT)] fun x => (x.1.length ≤ 1000000, .agg (enc RectT (boundsL x.1)))) := by
  refine psoundF (K := K64) (Γc := C39) (Γr := R0) (fun x => [(3, annP [.slot 8 I64, .cell 3 0 RectT] (fun _ y => (0 ≤ y.1 ∧ y.1 ≤ x.1.length) ∧ y.2.1 = boundsL (List.take y.1.toNat (x.1 : List Rect))) (fun y => (x.1.length - y.1 : Int).toNat))]) hm HK64 HC39 HR0 Try.call27 Try.func27 (by kernel_rfl) ?_
  rintro ⟨a, _⟩ hx
  have hx : List.length a ≤ 1000000 := hx
  refine Eq.mpr (β := (True ∧ True ∧ True ∧ True ∧ True ∧ ((True ∧ (@Eq Int (Int.ofNat 0) (Int.ofNat 0) ∧ @Eq Int (@Nat.cast Int _ (List.length a)) (@Nat.cast Int _ (List.length a)) ∧ @Eq _ a a ∧ True ∧ True ∧ @Eq _ a a ∧ True) ∧ (@Eq Int (Int.ofNat 0) (Int.ofNat 0) ∧ @Eq Int (Int.ofNat 0) (Int.ofNat 0) ∧ @Eq Int (Int.ofNat 0) (Int.ofNat 0) ∧ @Eq Int (Int.ofNat 0) (Int.ofNat 0) ∧ True) ∧ (@Eq Int (Int.ofNat 0) (Int.ofNat 0) ∧ @Eq Int (Int.ofNat 0) (Int.ofNat 0) ∧ @Eq Int (Int.ofNat 0) (Int.ofNat 0) ∧ @Eq Int (Int.ofNat 0) (Int.ofNat 0) ∧ True) ∧ True) ∧ (@LE.le Int Int.instLEInt (0:Int) (0:Int) ∧ @LE.le Int Int.instLEInt (0:Int) (@Nat.cast (Pl.T (Pl.slot (8:Nat) I64)) _ (List.length a))) ∧ @Eq _ ((0:Int), ((0:Int), ((0:Int), (0:Int)))) (boundsL (List.take (0:Nat) a))) ∧ (∀ (v0 : (Prod Int (Prod (Prod Int (Prod Int (Prod Int Int))) Unit))), (((@LE.le Int Int.instLEInt (0:Int) v0.1 ∧ @LE.le Int Int.instLEInt v0.1 (@Nat.cast (Pl.T (Pl.slot (8:Nat) I64)) _ (List.length a))) ∧ @Eq _ v0.2.1 (boundsL (List.take (Int.toNat v0.1) a))) → (True ∧ (@Eq Bool (@decide (@LT.lt Int Int.instLTInt v0.1 (@Nat.cast Int _ (List.length a))) (Int.decLt v0.1 (@Nat.cast Int _ (List.length a)))) true → ((@LE.le Int Int.instLEInt (0:Int) v0.1 ∧ @LE.le Int Int.instLEInt (@HAdd.hAdd Int Int Int _ v0.1 (1:Int)) (@Nat.cast Int _ (List.length a))) ∧ True ∧ True ∧ True ∧ True ∧ True ∧ True ∧ True ∧ True ∧ True ∧ (True ∧ (@Eq Int (IntKind.wrap IntKind.i64 (@HAdd.hAdd Int Int Int _ v0.1 (1:Int))) (IntKind.wrap IntKind.i64 (@HAdd.hAdd Int Int Int _ v0.1 (1:Int))) ∧ @Eq Int (@Nat.cast Int _ (List.length a)) (@Nat.cast Int _ (List.length a)) ∧ @Eq _ a a ∧ True ∧ True ∧ @Eq _ a a ∧ True) ∧ (@Eq Int (Int.ofNat 0) (Int.ofNat 0) ∧ @Eq Int (Int.ofNat 0) (Int.ofNat 0) ∧ @Eq Int (Int.ofNat 0) (Int.ofNat 0) ∧ @Eq Int (Int.ofNat 0) (Int.ofNat 0) ∧ True) ∧ (@Eq Int (unionR v0.2.1 (@elemAt RectT a (Int.toNat v0.1))).1 (unionR v0.2.1 (@elemAt RectT a (Int.toNat v0.1))).1 ∧ @Eq Int (unionR v0.2.1 (@elemAt RectT a (Int.toNat v0.1))).2.1 (unionR v0.2.1 (@elemAt RectT a (Int.toNat v0.1))).2.1 ∧ @Eq Int (unionR v0.2.1 (@elemAt RectT a (Int.toNat v0.1))).2.2.1 (unionR v0.2.1 (@elemAt RectT a (Int.toNat v0.1))).2.2.1 ∧ @Eq Int (unionR v0.2.1 (@elemAt RectT a (Int.toNat v0.1))).2.2.2 (unionR v0.2.1 (@elemAt RectT a (Int.toNat v0.1))).2.2.2 ∧ True) ∧ True) ∧ ((@LE.le Int Int.instLEInt (0:Int) (IntKind.wrap IntKind.i64 (@HAdd.hAdd Int Int Int _ v0.1 (1:Int))) ∧ @LE.le Int Int.instLEInt (IntKind.wrap IntKind.i64 (@HAdd.hAdd Int Int Int _ v0.1 (1:Int))) (@Nat.cast (Pl.T (Pl.slot (8:Nat) I64)) _ (List.length a))) ∧ @Eq _ (unionR v0.2.1 (@elemAt RectT a (Int.toNat v0.1))) (boundsL (List.take (Int.toNat (IntKind.wrap IntKind.i64 (@HAdd.hAdd Int Int Int _ v0.1 (1:Int)))) a))) ∧ @LT.lt Nat instLTNat (Int.toNat (@HSub.hSub Int Int Int _ (@Nat.cast Int _ (List.length a)) (IntKind.wrap IntKind.i64 (@HAdd.hAdd Int Int Int _ v0.1 (1:Int))))) (Int.toNat (@HSub.hSub Int Int Int _ (@Nat.cast Int _ (List.length a)) v0.1)))) ∧ (@Eq Bool (@decide (@LT.lt Int Int.instLTInt v0.1 (@Nat.cast Int _ (List.length a))) (Int.decLt v0.1 (@Nat.cast Int _ (List.length a)))) false → (True ∧ True ∧ (True ∧ True) ∧ @Eq Int v0.2.1.1 (boundsL a).1 ∧ @Eq Int v0.2.1.2.1 (boundsL a).2.1 ∧ @Eq Int v0.2.1.2.2.1 (boundsL a).2.2.1 ∧ @Eq Int v0.2.1.2.2.2 (boundsL a).2.2.2 ∧ True))))))) (by kernel_rfl) ?_
  simp only [true_and, and_true, decide_eq_true_eq, decide_eq_false_iff_not, forall_const, implies_true, and_self]
  refine ⟨⟨⟨by omega, Int.natCast_nonneg _⟩, rfl⟩, ?_⟩
  rintro ⟨i, b, _⟩ ⟨⟨i0, i1⟩, he⟩
  simp only at i0 i1 he ⊢
  refine ⟨fun hi => ?_, fun hi => ?_⟩
  · have ht : boundsL (List.take (i.toNat + 1) a) = unionR (boundsL (List.take i.toNat a)) (elemAt (t := RectT) a i.toNat) := by
      unfold boundsL
      rw [List.take_add_one, elemAt_get (t := RectT) a i.toNat (by omega), List.foldl_append]
      rfl
    rw [wrap_in (by omega), show (i + 1).toNat = i.toNat + 1 by omega, ht, ← he]
    exact ⟨⟨i0, by omega⟩, ⟨⟨by omega, by omega⟩, rfl⟩, by omega⟩
  · rw [he, List.take_of_length_le (by omega)]
    exact ⟨rfl, rfl, rfl, rfl⟩
abbrev K65 : KCons := (27, fun Γc => pure_ Γc ((pcon [.d (.list RectT)] fun x => (x.1.length ≤ 1000000, .agg (enc RectT (boundsL x.1)))))) :: K64
theorem HK65 : KS Try.prog K65 := ks_add (ksound_pure (s_rBounds)) HK64
def hull (a b : Rect) : Rect := (min a.1 b.1, min a.2.1 b.2.1, max a.2.2.1 b.2.2.1, max a.2.2.2 b.2.2.2)
def bound5Step (s : Rect × Bool) (r : Rect) : Rect × Bool := if usableR r = true then (hull (if s.2 = true then s.1 else r) r, true) else s
def bounds5 (l : List Rect) : Rect × Bool := l.foldl bound5Step ((0, 0, 0, 0), false)
theorem s_r5Bounds : PSound Try.prog 32 (pcon [.d (.list RectT)] fun x => (x.1.length ≤ 1000000, .agg (enc RectT (bounds5 x.1).1))) := by
  refine psoundF (K := K65) (Γc := C39) (Γr := R0) (fun x => [(4, annP [.slot 5 I64, .cell 3 0 RectT, .slot 4 .bool] (fun _ y => (0 ≤ y.1 ∧ y.1 ≤ x.1.length) ∧ (y.2.1, y.2.2.1) = bounds5 (List.take y.1.toNat (x.1 : List Rect))) (fun y => (x.1.length - y.1 : Int).toNat)),
    (1000007, annP [.cell 3 0 RectT, .slot 4 .bool, .slot 5 I64] (fun y0 y => y.2 = y0.2 ∧ y.1 = if y0.2.1 = true then y0.1 else elemAt (t := RectT) x.1 y0.2.2.1.toNat) (fun _ => 0))]) hm HK65 HC39 HR0 Try.call32 Try.func32 (by kernel_rfl) ?_
  rintro ⟨a, _⟩ hx
  have hx : List.length a ≤ 1000000 := hx
  refine Eq.mpr (β := (True ∧ True ∧ True ∧ True ∧ ((True ∧ (@Eq Int (Int.ofNat 0) (Int.ofNat 0) ∧ @Eq Bool false false ∧ True ∧ True ∧ @Eq _ a a ∧ True) ∧ (@Eq Int (Int.ofNat 0) (Int.ofNat 0) ∧ @Eq Int (Int.ofNat 0) (Int.ofNat 0) ∧ @Eq Int (Int.ofNat 0) (Int.ofNat 0) ∧ @Eq Int (Int.ofNat 0) (Int.ofNat 0) ∧ True) ∧ (@Eq Int (Int.ofNat 0) (Int.ofNat 0) ∧ @Eq Int (Int.ofNat 0) (Int.ofNat 0) ∧ @Eq Int (Int.ofNat 0) (Int.ofNat 0) ∧ @Eq Int (Int.ofNat 0) (Int.ofNat 0) ∧ True) ∧ True) ∧ (@LE.le Int Int.instLEInt (0:Int) (0:Int) ∧ @LE.le Int Int.instLEInt (0:Int) (@Nat.cast (Pl.T (Pl.slot (5:Nat) I64)) _ (List.length a))) ∧ @Eq _ (((0:Int), ((0:Int), ((0:Int), (0:Int)))), (false, Unit.unit).1) (bounds5 (List.take (0:Nat) a))) ∧ (∀ (v0 : (Prod Int (Prod (Prod Int (Prod Int (Prod Int Int))) (Prod Bool Unit)))), (((@LE.le Int Int.instLEInt (0:Int) v0.1 ∧ @LE.le Int Int.instLEInt v0.1 (@Nat.cast (Pl.T (Pl.slot (5:Nat) I64)) _ (List.length a))) ∧ @Eq _ (v0.2.1, v0.2.2.1) (bounds5 (List.take (Int.toNat v0.1) a))) → (True ∧ True ∧ True ∧ True ∧ (@Eq Bool (@decide (@LT.lt Int Int.instLTInt v0.1 (@Nat.cast Int _ (List.length a))) (Int.decLt v0.1 (@Nat.cast Int _ (List.length a)))) true → (True ∧ True ∧ (@LE.le Int Int.instLEInt (0:Int) v0.1 ∧ @LE.le Int Int.instLEInt (@HAdd.hAdd Int Int Int _ v0.1 (1:Int)) (@Nat.cast Int _ (List.length a))) ∧ True ∧ True ∧ True ∧ (@Eq Bool (not (usableR (@elemAt RectT a (Int.toNat v0.1)))) true → (True ∧ True ∧ True ∧ (True ∧ (@Eq Int (IntKind.wrap IntKind.i64 (@HAdd.hAdd Int Int Int _ v0.1 (1:Int))) (IntKind.wrap IntKind.i64 (@HAdd.hAdd Int Int Int _ v0.1 (1:Int))) ∧ @Eq Bool v0.2.2.1 (v0.2.2.1, Unit.unit).1 ∧ True ∧ True ∧ @Eq _ a a ∧ True) ∧ (@Eq Int (Int.ofNat 0) (Int.ofNat 0) ∧ @Eq Int (Int.ofNat 0) (Int.ofNat 0) ∧ @Eq Int (Int.ofNat 0) (Int.ofNat 0) ∧ @Eq Int (Int.ofNat 0) (Int.ofNat 0) ∧ True) ∧ (@Eq Int v0.2.1.1 v0.2.1.1 ∧ @Eq Int v0.2.1.2.1 v0.2.1.2.1 ∧ @Eq Int v0.2.1.2.2.1 v0.2.1.2.2.1 ∧ @Eq Int v0.2.1.2.2.2 v0.2.1.2.2.2 ∧ True) ∧ True) ∧ ((@LE.le Int Int.instLEInt (0:Int) (IntKind.wrap IntKind.i64 (@HAdd.hAdd Int Int Int _ v0.1 (1:Int))) ∧ @LE.le Int Int.instLEInt (IntKind.wrap IntKind.i64 (@HAdd.hAdd Int Int Int _ v0.1 (1:Int))) (@Nat.cast (Pl.T (Pl.slot (5:Nat) I64)) _ (List.length a))) ∧ @Eq _ (v0.2.1, (v0.2.2.1, Unit.unit).1) (bounds5 (List.take (Int.toNat (IntKind.wrap IntKind.i64 (@HAdd.hAdd Int Int Int _ v0.1 (1:Int)))) a))) ∧ @LT.lt Nat instLTNat (Int.toNat (@HSub.hSub Int Int Int _ (@Nat.cast Int _ (List.length a)) (IntKind.wrap IntKind.i64 (@HAdd.hAdd Int Int Int _ v0.1 (1:Int))))) (Int.toNat (@HSub.hSub Int Int Int _ (@Nat.cast Int _ (List.length a)) v0.1)))) ∧ (@Eq Bool (not (usableR (@elemAt RectT a (Int.toNat v0.1)))) false → ((True ∧ True ∧ (@Eq Bool (not v0.2.2.1) true → (True ∧ True ∧ (@LE.le Int Int.instLEInt (0:Int) v0.1 ∧ @LE.le Int Int.instLEInt (@HAdd.hAdd Int Int Int _ v0.1 (1:Int)) (@Nat.cast Int _ (List.length a))) ∧ True ∧ True ∧ (True ∧ (@Eq Bool (not (usableR (@elemAt RectT a (Int.toNat v0.1)))) (not (usableR (@elemAt RectT a (Int.toNat v0.1)))) ∧ @Eq Bool (usableR (@elemAt RectT a (Int.toNat v0.1))) (usableR (@elemAt RectT a (Int.toNat v0.1))) ∧ (@Eq Int (@elemAt RectT a (Int.toNat v0.1)).1 (@elemAt RectT a (Int.toNat v0.1)).1 ∧ @Eq Int (@elemAt RectT a (Int.toNat v0.1)).2.1 (@elemAt RectT a (Int.toNat v0.1)).2.1 ∧ @Eq Int (@elemAt RectT a (Int.toNat v0.1)).2.2.1 (@elemAt RectT a (Int.toNat v0.1)).2.2.1 ∧ @Eq Int (@elemAt RectT a (Int.toNat v0.1)).2.2.2 (@elemAt RectT a (Int.toNat v0.1)).2.2.2 ∧ True) ∧ @Eq _ (@elemAt RectT a (Int.toNat v0.1)) (@elemAt RectT a (Int.toNat v0.1)) ∧ @Eq Int v0.1 v0.1 ∧ @Eq _ a a ∧ @Eq Bool (@decide (@LT.lt Int Int.instLTInt v0.1 (@Nat.cast Int _ (List.length a))) (Int.decLt v0.1 (@Nat.cast Int _ (List.length a)))) (@decide (@LT.lt Int Int.instLTInt v0.1 (@Nat.cast Int _ (List.length a))) (Int.decLt v0.1 (@Nat.cast Int _ (List.length a)))) ∧ @Eq Int (@Nat.cast Int _ (List.length a)) (@Nat.cast Int _ (List.length a)) ∧ @Eq _ a a ∧ @Eq Int v0.1 v0.1 ∧ @Eq Int v0.1 (v0.1, Unit.unit).1 ∧ @Eq Bool v0.2.2.1 v0.2.2.1 ∧ True ∧ True ∧ @Eq _ a a ∧ True) ∧ (@Eq Int (Int.ofNat 0) (Int.ofNat 0) ∧ @Eq Int (Int.ofNat 0) (Int.ofNat 0) ∧ @Eq Int (Int.ofNat 0) (Int.ofNat 0) ∧ @Eq Int (Int.ofNat 0) (Int.ofNat 0) ∧ True) ∧ (@Eq Int (@elemAt RectT a (Int.toNat v0.1)).1 (@elemAt RectT a (Int.toNat v0.1)).1 ∧ @Eq Int (@elemAt RectT a (Int.toNat v0.1)).2.1 (@elemAt RectT a (Int.toNat v0.1)).2.1 ∧ @Eq Int (@elemAt RectT a (Int.toNat v0.1)).2.2.1 (@elemAt RectT a (Int.toNat v0.1)).2.2.1 ∧ @Eq Int (@elemAt RectT a (Int.toNat v0.1)).2.2.2 (@elemAt RectT a (Int.toNat v0.1)).2.2.2 ∧ True) ∧ True) ∧ @Eq _ (v0.2.2.1, (v0.1, Unit.unit)) (v0.2.2.1, (v0.1, Unit.unit)) ∧ @Eq _ (@elemAt RectT a (Int.toNat v0.1)) (if (@Eq Bool v0.2.2.1 true) then v0.2.1 else (@elemAt RectT a (Int.toNat (v0.1, Unit.unit).1))))) ∧ (@Eq Bool (not v0.2.2.1) false → ((True ∧ (@Eq Bool (not (usableR (@elemAt RectT a (Int.toNat v0.1)))) (not (usableR (@elemAt RectT a (Int.toNat v0.1)))) ∧ @Eq Bool (usableR (@elemAt RectT a (Int.toNat v0.1))) (usableR (@elemAt RectT a (Int.toNat v0.1))) ∧ (@Eq Int (@elemAt RectT a (Int.toNat v0.1)).1 (@elemAt RectT a (Int.toNat v0.1)).1 ∧ @Eq Int (@elemAt RectT a (Int.toNat v0.1)).2.1 (@elemAt RectT a (Int.toNat v0.1)).2.1 ∧ @Eq Int (@elemAt RectT a (Int.toNat v0.1)).2.2.1 (@elemAt RectT a (Int.toNat v0.1)).2.2.1 ∧ @Eq Int (@elemAt RectT a (Int.toNat v0.1)).2.2.2 (@elemAt RectT a (Int.toNat v0.1)).2.2.2 ∧ True) ∧ @Eq _ (@elemAt RectT a (Int.toNat v0.1)) (@elemAt RectT a (Int.toNat v0.1)) ∧ @Eq Int v0.1 v0.1 ∧ @Eq _ a a ∧ @Eq Bool (@decide (@LT.lt Int Int.instLTInt v0.1 (@Nat.cast Int _ (List.length a))) (Int.decLt v0.1 (@Nat.cast Int _ (List.length a)))) (@decide (@LT.lt Int Int.instLTInt v0.1 (@Nat.cast Int _ (List.length a))) (Int.decLt v0.1 (@Nat.cast Int _ (List.length a)))) ∧ @Eq Int (@Nat.cast Int _ (List.length a)) (@Nat.cast Int _ (List.length a)) ∧ @Eq _ a a ∧ @Eq Int v0.1 v0.1 ∧ @Eq Int v0.1 (v0.1, Unit.unit).1 ∧ @Eq Bool v0.2.2.1 v0.2.2.1 ∧ True ∧ True ∧ @Eq _ a a ∧ True) ∧ (@Eq Int (Int.ofNat 0) (Int.ofNat 0) ∧ @Eq Int (Int.ofNat 0) (Int.ofNat 0) ∧ @Eq Int (Int.ofNat 0) (Int.ofNat 0) ∧ @Eq Int (Int.ofNat 0) (Int.ofNat 0) ∧ True) ∧ (@Eq Int v0.2.1.1 v0.2.1.1 ∧ @Eq Int v0.2.1.2.1 v0.2.1.2.1 ∧ @Eq Int v0.2.1.2.2.1 v0.2.1.2.2.1 ∧ @Eq Int v0.2.1.2.2.2 v0.2.1.2.2.2 ∧ True) ∧ True) ∧ @Eq _ (v0.2.2.1, (v0.1, Unit.unit)) (v0.2.2.1, (v0.1, Unit.unit)) ∧ @Eq _ v0.2.1 (if (@Eq Bool v0.2.2.1 true) then v0.2.1 else (@elemAt RectT a (Int.toNat (v0.1, Unit.unit).1)))))) ∧ (∀ (v1 : (Prod (Prod Int (Prod Int (Prod Int Int))) (Prod Bool (Prod Int Unit)))), ((@Eq _ v1.2 (v0.2.2.1, (v0.1, Unit.unit)) ∧ @Eq _ v1.1 (if (@Eq Bool v0.2.2.1 true) then v0.2.1 else (@elemAt RectT a (Int.toNat (v0.1, Unit.unit).1)))) → (True ∧ (True ∧ True ∧ True ∧ True ∧ (@LE.le Int Int.instLEInt (0:Int) v1.2.2.1 ∧ @LE.le Int Int.instLEInt (@HAdd.hAdd Int Int Int _ v1.2.2.1 (1:Int)) (@Nat.cast Int _ (List.length a))) ∧ True ∧ True ∧ True ∧ True ∧ True ∧ True ∧ True ∧ (@LE.le Int Int.instLEInt (0:Int) v1.2.2.1 ∧ @LE.le Int Int.instLEInt (@HAdd.hAdd Int Int Int _ v1.2.2.1 (1:Int)) (@Nat.cast Int _ (List.length a))) ∧ True ∧ True ∧ True ∧ True ∧ True ∧ True ∧ True ∧ (@LE.le Int Int.instLEInt (0:Int) v1.2.2.1 ∧ @LE.le Int Int.instLEInt (@HAdd.hAdd Int Int Int _ v1.2.2.1 (1:Int)) (@Nat.cast Int _ (List.length a))) ∧ True ∧ True ∧ True ∧ True ∧ True ∧ True ∧ True ∧ (@LE.le Int Int.instLEInt (0:Int) v1.2.2.1 ∧ @LE.le Int Int.instLEInt (@HAdd.hAdd Int Int Int _ v1.2.2.1 (1:Int)) (@Nat.cast Int _ (List.length a))) ∧ True ∧ True ∧ True ∧ True ∧ True ∧ True) ∧ True ∧ True ∧ True ∧ (True ∧ (@Eq Int (IntKind.wrap IntKind.i64 (@HAdd.hAdd Int Int Int _ v1.2.2.1 (1:Int))) (IntKind.wrap IntKind.i64 (@HAdd.hAdd Int Int Int _ v1.2.2.1 (1:Int))) ∧ @Eq Bool true (true, Unit.unit).1 ∧ True ∧ True ∧ @Eq _ a a ∧ True) ∧ (@Eq Int (Int.ofNat 0) (Int.ofNat 0) ∧ @Eq Int (Int.ofNat 0) (Int.ofNat 0) ∧ @Eq Int (Int.ofNat 0) (Int.ofNat 0) ∧ @Eq Int (Int.ofNat 0) (Int.ofNat 0) ∧ True) ∧ (@Eq Int (if (@LT.lt Int Int.instLTInt (@elemAt RectT a (Int.toNat v1.2.2.1)).1 v1.1.1) then (@elemAt RectT a (Int.toNat v1.2.2.1)).1 else v1.1.1) ((if (@LT.lt Int Int.instLTInt (@elemAt RectT a (Int.toNat v1.2.2.1)).1 v1.1.1) then (@elemAt RectT a (Int.toNat v1.2.2.1)).1 else v1.1.1), ((if (@LT.lt Int Int.instLTInt (@elemAt RectT a (Int.toNat v1.2.2.1)).2.1 v1.1.2.1) then (@elemAt RectT a (Int.toNat v1.2.2.1)).2.1 else v1.1.2.1), ((if (@GT.gt Int Int.instLTInt (@elemAt RectT a (Int.toNat v1.2.2.1)).2.2.1 v1.1.2.2.1) then (@elemAt RectT a (Int.toNat v1.2.2.1)).2.2.1 else v1.1.2.2.1), (if (@GT.gt Int Int.instLTInt (@elemAt RectT a (Int.toNat v1.2.2.1)).2.2.2 v1.1.2.2.2) then (@elemAt RectT a (Int.toNat v1.2.2.1)).2.2.2 else v1.1.2.2.2)))).1 ∧ @Eq Int (if (@LT.lt Int Int.instLTInt (@elemAt RectT a (Int.toNat v1.2.2.1)).2.1 v1.1.2.1) then (@elemAt RectT a (Int.toNat v1.2.2.1)).2.1 else v1.1.2.1) ((if (@LT.lt Int Int.instLTInt (@elemAt RectT a (Int.toNat v1.2.2.1)).1 v1.1.1) then (@elemAt RectT a (Int.toNat v1.2.2.1)).1 else v1.1.1), ((if (@LT.lt Int Int.instLTInt (@elemAt RectT a (Int.toNat v1.2.2.1)).2.1 v1.1.2.1) then (@elemAt RectT a (Int.toNat v1.2.2.1)).2.1 else v1.1.2.1), ((if (@GT.gt Int Int.instLTInt (@elemAt RectT a (Int.toNat v1.2.2.1)).2.2.1 v1.1.2.2.1) then (@elemAt RectT a (Int.toNat v1.2.2.1)).2.2.1 else v1.1.2.2.1), (if (@GT.gt Int Int.instLTInt (@elemAt RectT a (Int.toNat v1.2.2.1)).2.2.2 v1.1.2.2.2) then (@elemAt RectT a (Int.toNat v1.2.2.1)).2.2.2 else v1.1.2.2.2)))).2.1 ∧ @Eq Int (if (@GT.gt Int Int.instLTInt (@elemAt RectT a (Int.toNat v1.2.2.1)).2.2.1 v1.1.2.2.1) then (@elemAt RectT a (Int.toNat v1.2.2.1)).2.2.1 else v1.1.2.2.1) ((if (@LT.lt Int Int.instLTInt (@elemAt RectT a (Int.toNat v1.2.2.1)).1 v1.1.1) then (@elemAt RectT a (Int.toNat v1.2.2.1)).1 else v1.1.1), ((if (@LT.lt Int Int.instLTInt (@elemAt RectT a (Int.toNat v1.2.2.1)).2.1 v1.1.2.1) then (@elemAt RectT a (Int.toNat v1.2.2.1)).2.1 else v1.1.2.1), ((if (@GT.gt Int Int.instLTInt (@elemAt RectT a (Int.toNat v1.2.2.1)).2.2.1 v1.1.2.2.1) then (@elemAt RectT a (Int.toNat v1.2.2.1)).2.2.1 else v1.1.2.2.1), (if (@GT.gt Int Int.instLTInt (@elemAt RectT a (Int.toNat v1.2.2.1)).2.2.2 v1.1.2.2.2) then (@elemAt RectT a (Int.toNat v1.2.2.1)).2.2.2 else v1.1.2.2.2)))).2.2.1 ∧ @Eq Int (if (@GT.gt Int Int.instLTInt (@elemAt RectT a (Int.toNat v1.2.2.1)).2.2.2 v1.1.2.2.2) then (@elemAt RectT a (Int.toNat v1.2.2.1)).2.2.2 else v1.1.2.2.2) ((if (@LT.lt Int Int.instLTInt (@elemAt RectT a (Int.toNat v1.2.2.1)).1 v1.1.1) then (@elemAt RectT a (Int.toNat v1.2.2.1)).1 else v1.1.1), ((if (@LT.lt Int Int.instLTInt (@elemAt RectT a (Int.toNat v1.2.2.1)).2.1 v1.1.2.1) then (@elemAt RectT a (Int.toNat v1.2.2.1)).2.1 else v1.1.2.1), ((if (@GT.gt Int Int.instLTInt (@elemAt RectT a (Int.toNat v1.2.2.1)).2.2.1 v1.1.2.2.1) then (@elemAt RectT a (Int.toNat v1.2.2.1)).2.2.1 else v1.1.2.2.1), (if (@GT.gt Int Int.instLTInt (@elemAt RectT a (Int.toNat v1.2.2.1)).2.2.2 v1.1.2.2.2) then (@elemAt RectT a (Int.toNat v1.2.2.1)).2.2.2 else v1.1.2.2.2)))).2.2.2 ∧ True) ∧ True) ∧ ((@LE.le Int Int.instLEInt (0:Int) (IntKind.wrap IntKind.i64 (@HAdd.hAdd Int Int Int _ v1.2.2.1 (1:Int))) ∧ @LE.le Int Int.instLEInt (IntKind.wrap IntKind.i64 (@HAdd.hAdd Int Int Int _ v1.2.2.1 (1:Int))) (@Nat.cast (Pl.T (Pl.slot (5:Nat) I64)) _ (List.length a))) ∧ @Eq _ (((if (@LT.lt Int Int.instLTInt (@elemAt RectT a (Int.toNat v1.2.2.1)).1 v1.1.1) then (@elemAt RectT a (Int.toNat v1.2.2.1)).1 else v1.1.1), ((if (@LT.lt Int Int.instLTInt (@elemAt RectT a (Int.toNat v1.2.2.1)).2.1 v1.1.2.1) then (@elemAt RectT a (Int.toNat v1.2.2.1)).2.1 else v1.1.2.1), ((if (@GT.gt Int Int.instLTInt (@elemAt RectT a (Int.toNat v1.2.2.1)).2.2.1 v1.1.2.2.1) then (@elemAt RectT a (Int.toNat v1.2.2.1)).2.2.1 else v1.1.2.2.1), (if (@GT.gt Int Int.instLTInt (@elemAt RectT a (Int.toNat v1.2.2.1)).2.2.2 v1.1.2.2.2) then (@elemAt RectT a (Int.toNat v1.2.2.1)).2.2.2 else v1.1.2.2.2)))), (true, Unit.unit).1) (bounds5 (List.take (Int.toNat (IntKind.wrap IntKind.i64 (@HAdd.hAdd Int Int Int _ v1.2.2.1 (1:Int)))) a))) ∧ @LT.lt Nat instLTNat (Int.toNat (@HSub.hSub Int Int Int _ (@Nat.cast Int _ (List.length a)) (IntKind.wrap IntKind.i64 (@HAdd.hAdd Int Int Int _ v1.2.2.1 (1:Int))))) (Int.toNat (@HSub.hSub Int Int Int _ (@Nat.cast Int _ (List.length a)) v0.1))))))))) ∧ (@Eq Bool (@decide (@LT.lt Int Int.instLTInt v0.1 (@Nat.cast Int _ (List.length a))) (Int.decLt v0.1 (@Nat.cast Int _ (List.length a)))) false → (True ∧ True ∧ (True ∧ True) ∧ @Eq Int v0.2.1.1 (bounds5 a).1.1 ∧ @Eq Int v0.2.1.2.1 (bounds5 a).1.2.1 ∧ @Eq Int v0.2.1.2.2.1 (bounds5 a).1.2.2.1 ∧ @Eq Int v0.2.1.2.2.2 (bounds5 a).1.2.2.2 ∧ True))))))) (by kernel_rfl) ?_
  simp only [true_and, and_true, decide_eq_true_eq, decide_eq_false_iff_not, forall_const, implies_true, and_self]
  refine ⟨⟨⟨by omega, Int.natCast_nonneg _⟩, rfl⟩, ?_⟩
  rintro ⟨i, b, some, _⟩ ⟨⟨i0, i1⟩, he⟩
  simp only at i0 i1 he ⊢
  refine ⟨fun hi => ?_, fun hi => ?_⟩
  · have ht : bounds5 (List.take (i.toNat + 1) a) = bound5Step (bounds5 (List.take i.toNat a)) (elemAt (t := RectT) a i.toNat) := by
      unfold bounds5
      rw [List.take_add_one, elemAt_get (t := RectT) a i.toNat (by omega), List.foldl_append]
      rfl
    rw [← he] at ht
    unfold bound5Step at ht
    rw [wrap_in (by omega), show (i + 1).toNat = i.toNat + 1 by omega]
    refine ⟨⟨i0, by omega⟩, fun hu => ?_, fun hu => ⟨⟨fun hs => ⟨⟨i0, by omega⟩, ?_⟩, fun hs => ?_⟩, ?_⟩⟩
    · have hu : ¬ usableR (elemAt (t := RectT) a i.toNat) = true := by simpa using hu
      rw [if_neg hu] at ht
      exact ⟨⟨⟨by omega, by omega⟩, ht.symm⟩, by omega⟩
    · rw [if_neg (by simpa using hs)]
    · rw [if_pos (by simpa using hs)]
    · have hu : usableR (elemAt (t := RectT) a i.toNat) = true := by simpa using hu
      rw [if_pos hu] at ht
      rintro ⟨b2, s2, i2, _⟩ ⟨e1, e2⟩
      simp only [Prod.mk.injEq] at e1 e2 ⊢
      obtain ⟨rfl, rfl, _⟩ := e1
      have hmn : ∀ p q : Int, (if q < p then q else p) = min p q := fun p q => by split <;> omega
      have hmx : ∀ p q : Int, (if q > p then q else p) = max p q := fun p q => by split <;> omega
      rw [wrap_in (by omega), show (i2 + 1).toNat = i2.toNat + 1 by omega, hmn, hmn, hmx, hmx, ht, ← e2]
      exact ⟨⟨i0, by omega⟩, ⟨⟨by omega, by omega⟩, rfl⟩, by omega⟩
  · rw [List.take_of_length_le (by omega)] at he
    rw [← he]
    exact ⟨rfl, rfl, rfl, rfl⟩
abbrev K66 : KCons := (32, fun Γc => pure_ Γc ((pcon [.d (.list RectT)] fun x => (x.1.length ≤ 1000000, .agg (enc RectT (bounds5 x.1).1))))) :: K65
theorem HK66 : KS Try.prog K66 := ks_add (ksound_pure (s_r5Bounds)) HK65
/-- the two bounds are the same -/
theorem bounds_is (l : List Rect) : boundsL l = (bounds5 l).1 := by
  have hz : emptyR ((0, 0, 0, 0) : Rect) = true := by decide
  have key : ∀ (l : List Rect) (s : Rect × Bool), (s.2 = true → usableR s.1 = true) → (s.2 = false → s.1 = (0, 0, 0, 0)) → l.foldl unionR s.1 = (l.foldl bound5Step s).1 := by
    intro l
    induction l with
    | nil => intro s _ _; rfl
    | cons r rs ih =>
      rintro ⟨b, some⟩ h1 h2
      simp only at h1 h2
      have he : ∀ q : Rect, emptyR q = !usableR q := fun q => by rw [usable_empty, Bool.not_not]
      rw [List.foldl_cons, List.foldl_cons]
      by_cases hu : usableR r = true
      · have hst : unionR b r = (bound5Step (b, some) r).1 := by
          unfold unionR bound5Step
          simp only
          rw [if_pos hu]
          cases some with
          | false =>
            rw [h2 rfl, if_pos hz]
            unfold canonR
            rw [he, hu]
            obtain ⟨a1, a2, a3, a4⟩ := r
            simp [hull]
          | true =>
            rw [he, he, h1 rfl, hu]
            simp [hull]
        have hgood : (bound5Step (b, some) r).2 = true ∧ usableR (bound5Step (b, some) r).1 = true := by
          unfold bound5Step
          simp only
          rw [if_pos hu]
          refine ⟨rfl, ?_⟩
          cases some with
          | false =>
            simp only [usableR, hull, Bool.and_eq_true, decide_eq_true_eq, Bool.false_eq_true, if_false] at hu ⊢
            omega
          | true =>
            have h1 := h1 rfl
            simp only [usableR, hull, Bool.and_eq_true, decide_eq_true_eq, if_true] at h1 hu ⊢
            omega
        rw [hst]
        exact ih _ (fun _ => hgood.2) fun h => by rw [hgood.1] at h; cases h
      · have hst : unionR b r = b := by
          have hu' : usableR r = false := by simpa using hu
          unfold unionR
          cases some with
          | false =>
            rw [h2 rfl, if_pos hz]
            unfold canonR
            rw [he, hu']
            rfl
          | true =>
            rw [he, he, h1 rfl, hu']
            rfl
        have hb : bound5Step (b, some) r = (b, some) := by
          unfold bound5Step
          rw [if_neg hu]
        rw [hst, hb]
        exact ih (b, some) h1 h2
  exact key l ((0, 0, 0, 0), false) (fun h => by cases h) fun _ => rfl
theorem s_rTranslateR : PSound Try.prog 25 (pcon [.d (.list RectT), .d I64, .d I64] fun x => (x.1.length ≤ 1000, opOut ((cleanL x.1).map fun r => translR r x.2.1 x.2.2.1) [] 1)) := by
  refine psoundF (K := K66) (Γc := C39) (Γr := R0) (fun x => [(3, annP [.slot 14 I64, .own 8 RectT] (fun _ y => (0 ≤ y.1 ∧ y.1 ≤ (cleanL x.1).length) ∧ y.2.1 = (List.take y.1.toNat (cleanL x.1)).map fun r => translR r x.2.1 x.2.2.1) (fun y => ((cleanL x.1).length - y.1 : Int).toNat))]) hm HK66 HC39 HR0 Try.call25 Try.func25 (by kernel_rfl) ?_
  rintro ⟨a, dx, dy, _⟩ hx
  have hx : List.length a ≤ 1000 := hx
  refine Eq.mpr (β := (True ∧ True ∧ True ∧ True ∧ @LE.le Nat instLENat (List.length a) (1000000:Nat) ∧ True ∧ True ∧ ((True ∧ (@Eq Int (Int.ofNat 0) (Int.ofNat 0) ∧ @Eq Int (@Nat.cast Int _ (List.length (cleanL a))) (@Nat.cast Int _ (List.length (cleanL a))) ∧ @Eq _ (cleanL a) (cleanL a) ∧ @Eq _ a a ∧ True ∧ @Eq Int (Int.ofNat 0) (Int.ofNat 0) ∧ True ∧ @Eq _ a a ∧ @Eq Int dx dx ∧ @Eq Int dy dy ∧ True) ∧ @Eq _ ([] : List (Ty.T RectT)) ([] : List (Ty.T RectT)) ∧ True) ∧ (@LE.le Int Int.instLEInt (0:Int) (0:Int) ∧ @LE.le Int Int.instLEInt (0:Int) (@Nat.cast (Pl.T (Pl.slot (14:Nat) I64)) _ (List.length (cleanL a)))) ∧ @Eq _ ([] : List (Ty.T RectT)) (List.map (fun (v0 : Rect) => (translR v0 dx (dy, ()).1)) (List.take (0:Nat) (cleanL a)))) ∧ (∀ (v0 : (Prod Int (Prod (List (Prod Int (Prod Int (Prod Int Int)))) Unit))), (((@LE.le Int Int.instLEInt (0:Int) v0.1 ∧ @LE.le Int Int.instLEInt v0.1 (@Nat.cast (Pl.T (Pl.slot (14:Nat) I64)) _ (List.length (cleanL a)))) ∧ @Eq _ v0.2.1 (List.map (fun (v1 : Rect) => (translR v1 dx (dy, ()).1)) (List.take (Int.toNat v0.1) (cleanL a)))) → (True ∧ (@Eq Bool (@decide (@LT.lt Int Int.instLTInt v0.1 (@Nat.cast Int _ (List.length (cleanL a)))) (Int.decLt v0.1 (@Nat.cast Int _ (List.length (cleanL a))))) true → ((@LE.le Int Int.instLEInt (0:Int) v0.1 ∧ @LE.le Int Int.instLEInt (@HAdd.hAdd Int Int Int _ v0.1 (1:Int)) (@Nat.cast Int _ (List.length (cleanL a)))) ∧ True ∧ True ∧ True ∧ True ∧ True ∧ True ∧ True ∧ True ∧ True ∧ @LE.le Nat instLENat (@HMul.hMul Nat Nat Nat _ (@HAdd.hAdd Nat Nat Nat _ (List.length v0.2.1) (List.length ((translR (@elemAt RectT (cleanL a) (Int.toNat v0.1)) dx dy) :: ([] : List (Ty.T (Ty.prod (Ty.int IntKind.i64) (Ty.prod (Ty.int IntKind.i64) (Ty.prod (Ty.int IntKind.i64) (Ty.int IntKind.i64))))))))) (32:Nat)) (140737488355328:Nat) ∧ True ∧ True ∧ True ∧ (True ∧ (@Eq Int (IntKind.wrap IntKind.i64 (@HAdd.hAdd Int Int Int _ v0.1 (1:Int))) (IntKind.wrap IntKind.i64 (@HAdd.hAdd Int Int Int _ v0.1 (1:Int))) ∧ @Eq Int (@Nat.cast Int _ (List.length (cleanL a))) (@Nat.cast Int _ (List.length (cleanL a))) ∧ @Eq _ (cleanL a) (cleanL a) ∧ @Eq _ a a ∧ True ∧ @Eq Int (Int.ofNat 0) (Int.ofNat 0) ∧ True ∧ @Eq _ a a ∧ @Eq Int dx dx ∧ @Eq Int dy dy ∧ True) ∧ @Eq _ (HAppend.hAppend v0.2.1 ((translR (@elemAt RectT (cleanL a) (Int.toNat v0.1)) dx dy) :: ([] : List (Ty.T (Ty.prod (Ty.int IntKind.i64) (Ty.prod (Ty.int IntKind.i64) (Ty.prod (Ty.int IntKind.i64) (Ty.int IntKind.i64)))))))) (HAppend.hAppend v0.2.1 ((translR (@elemAt RectT (cleanL a) (Int.toNat v0.1)) dx dy) :: ([] : List (Ty.T (Ty.prod (Ty.int IntKind.i64) (Ty.prod (Ty.int IntKind.i64) (Ty.prod (Ty.int IntKind.i64) (Ty.int IntKind.i64)))))))) ∧ True) ∧ ((@LE.le Int Int.instLEInt (0:Int) (IntKind.wrap IntKind.i64 (@HAdd.hAdd Int Int Int _ v0.1 (1:Int))) ∧ @LE.le Int Int.instLEInt (IntKind.wrap IntKind.i64 (@HAdd.hAdd Int Int Int _ v0.1 (1:Int))) (@Nat.cast (Pl.T (Pl.slot (14:Nat) I64)) _ (List.length (cleanL a)))) ∧ @Eq _ (HAppend.hAppend v0.2.1 ((translR (@elemAt RectT (cleanL a) (Int.toNat v0.1)) dx dy) :: ([] : List (Ty.T (Ty.prod (Ty.int IntKind.i64) (Ty.prod (Ty.int IntKind.i64) (Ty.prod (Ty.int IntKind.i64) (Ty.int IntKind.i64)))))))) (List.map (fun (v1 : Rect) => (translR v1 dx (dy, ()).1)) (List.take (Int.toNat (IntKind.wrap IntKind.i64 (@HAdd.hAdd Int Int Int _ v0.1 (1:Int)))) (cleanL a)))) ∧ @LT.lt Nat instLTNat (Int.toNat (@HSub.hSub Int Int Int _ (@Nat.cast Int _ (List.length (cleanL a))) (IntKind.wrap IntKind.i64 (@HAdd.hAdd Int Int Int _ v0.1 (1:Int))))) (Int.toNat (@HSub.hSub Int Int Int _ (@Nat.cast Int _ (List.length (cleanL a))) v0.1)))) ∧ (@Eq Bool (@decide (@LT.lt Int Int.instLTInt v0.1 (@Nat.cast Int _ (List.length (cleanL a)))) (Int.decLt v0.1 (@Nat.cast Int _ (List.length (cleanL a))))) false → (True ∧ @LE.le Nat instLENat (List.length v0.2.1) (1000:Nat) ∧ True ∧ True ∧ True ∧ True ∧ (True ∧ True ∧ True) ∧ @Eq _ (limL (combinedL v0.2.1 ([] : List Rect) (1:Int))) (limL (combinedL (List.map (fun (v1 : Rect) => (translR v1 dx (dy, ()).1)) (cleanL a)) ([] : List Rect) (1:Int))) ∧ @Eq Int (limE (combinedL v0.2.1 ([] : List Rect) (1:Int))) (limE (combinedL (List.map (fun (v1 : Rect) => (translR v1 dx (dy, ()).1)) (cleanL a)) ([] : List Rect) (1:Int))) ∧ True))))))) (by kernel_rfl) ?_
  simp only [true_and, and_true, decide_eq_true_eq, decide_eq_false_iff_not, forall_const, implies_true, and_self]
  have hcl := cleanL_len a
  refine ⟨by omega, ⟨⟨by omega, Int.natCast_nonneg _⟩, rfl⟩, ?_⟩
  rintro ⟨i, out, _⟩ ⟨⟨i0, i1⟩, he⟩
  simp only at i0 i1 he ⊢
  have hol : out.length ≤ 1000 := by
    rw [he, List.length_map, List.length_take]
    omega
  refine ⟨fun hi => ?_, fun hi => ?_⟩
  · have hx2 := elemAt_get (t := RectT) (cleanL a) i.toNat (by omega)
    rw [wrap_in (by omega), show (i + 1).toNat = i.toNat + 1 by omega, List.take_add_one, hx2, List.map_append, ← he]
    refine ⟨⟨i0, by omega⟩, ?_, ⟨⟨by omega, by omega⟩, rfl⟩, by omega⟩
    simp only [List.length_singleton]
    omega
  · rw [List.take_of_length_le (by omega)] at he
    rw [← he]
    exact ⟨hol, rfl, rfl⟩
abbrev K67 : KCons := (25, fun Γc => pure_ Γc ((pcon [.d (.list RectT), .d I64, .d I64] fun x => (x.1.length ≤ 1000, opOut ((cleanL x.1).map fun r => translR r x.2.1 x.2.2.1) [] 1)))) :: K66
theorem HK67 : KS Try.prog K67 := ks_add (ksound_pure (s_rTranslateR)) HK66
end Go.Proofs.Ytekgchddcemboaa
