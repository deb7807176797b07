/-
  A part of the proof: what some of the program's functions compute.
-/
import Derived.Test.YtogbocplojbdjaaVNI
namespace Go.Proofs.Ytogbocplojbdjaa
open Go Go.E Go.Proofs
set_option linter.unusedVariables false
set_option linter.unusedSimpArgs false
theorem gap {xs : List Int} {x : Int} (hs : xs.Pairwise (· < ·)) {i : Nat} (h : i + 1 < xs.length) (hx : x < xs[i + 1]) : ∀ z ∈ xs, ¬ (xs[i] < z ∧ z ≤ x) := by
  rintro z hz ⟨h1, h2⟩
  obtain ⟨j, hj, rfl⟩ := List.getElem_of_mem hz
  have hp := List.pairwise_iff_getElem.1 hs
  rcases Nat.lt_trichotomy j (i + 1) with hji | hji | hji
  · rcases Nat.lt_or_eq_of_le (Nat.le_of_lt_succ hji) with hji | hji
    · have := hp j i hj (by omega) hji
      omega
    · subst hji
      omega
  · subst hji
    omega
  · have := hp (i + 1) j h hj hji
    omega
theorem rowsL_sorted : ∀ (l : List Rect) {ys : List Int}, ys.Pairwise (· < ·) → (rowsL l ys).Pairwise (· < ·)
  | [], ys, h => h
  | r :: rs, ys, h => by
    show (rowsL rs (rowsStep ys r)).Pairwise _
    refine rowsL_sorted rs ?_
    unfold rowsStep
    split
    · exact insL_sorted (insL_sorted h)
    · exact h
theorem rowsL_keep : ∀ (l : List Rect) {ys : List Int} {z : Int}, z ∈ ys → z ∈ rowsL l ys
  | [], ys, z, h => h
  | r :: rs, ys, z, h => by
    show z ∈ rowsL rs (rowsStep ys r)
    refine rowsL_keep rs ?_
    unfold rowsStep
    split
    · exact insL_mem.2 (.inr (insL_mem.2 (.inr h)))
    · exact h
theorem rowsL_has : ∀ (l : List Rect) {ys : List Int} {r : Rect}, r ∈ l → usableR r = true → r.2.1 ∈ rowsL l ys ∧ r.2.2.2 ∈ rowsL l ys
  | q :: rs, ys, r, h, hu => by
    show r.2.1 ∈ rowsL rs (rowsStep ys q) ∧ r.2.2.2 ∈ rowsL rs (rowsStep ys q)
    rcases List.mem_cons.1 h with rfl | h
    · unfold rowsStep
      rw [if_pos hu]
      exact ⟨rowsL_keep rs (insL_mem.2 (.inr (insL_mem.2 (.inl rfl)))), rowsL_keep rs (insL_mem.2 (.inl rfl))⟩
    · exact rowsL_has rs h hu
theorem contains5_hit (l : List Rect) (x y : Int) : contains5 l x y = l.any (hitX x y) := by
  unfold contains5
  congr 1
  funext r
  unfold hitX hitR hitP
  simp only
  cases usableR r <;> cases decide (r.1 ≤ x) <;> cases decide (x < r.2.2.1) <;> cases decide (r.2.1 ≤ y) <;> cases decide (y < r.2.2.2) <;> rfl
theorem any_same {l : List Rect} {ys : List Int} {lo x y : Int} (hl : ∀ r ∈ l, usableR r = true → r.2.1 ∈ ys ∧ r.2.2.2 ∈ ys) (hle : lo ≤ y) (hno : ∀ z ∈ ys, ¬ (lo < z ∧ z ≤ y)) : l.any (hitX x y) = l.any (hitX x lo) := by
  have key : ∀ r ∈ l, (hitX x y r = true ↔ hitX x lo r = true) := by
    intro r hr
    unfold hitX hitR
    simp only [Bool.and_eq_true, decide_eq_true_eq]
    constructor
    · rintro ⟨⟨⟨hu, h1⟩, h2⟩, h3⟩
      obtain ⟨g1, g2⟩ := hl r hr hu
      have n1 := hno _ g1
      have n2 := hno _ g2
      exact ⟨⟨⟨hu, by omega⟩, by omega⟩, h3⟩
    · rintro ⟨⟨⟨hu, h1⟩, h2⟩, h3⟩
      obtain ⟨g1, g2⟩ := hl r hr hu
      have n1 := hno _ g1
      have n2 := hno _ g2
      exact ⟨⟨⟨hu, by omega⟩, by omega⟩, h3⟩
  rw [Bool.eq_iff_iff, List.any_eq_true, List.any_eq_true]
  exact ⟨fun ⟨p, hp, h⟩ => ⟨p, hp, (key p hp).1 h⟩, fun ⟨p, hp, h⟩ => ⟨p, hp, (key p hp).2 h⟩⟩
theorem contains5_combined (a b : List Rect) (m : Int) (x y : Int) : contains5 (combinedL a b m) x y = modeB m (contains5 a x y) (contains5 b x y) := by
  have hs : (ysOf a b).Pairwise (· < ·) := rowsL_sorted b (rowsL_sorted a List.Pairwise.nil)
  have hb := bord_ysOf a b
  have la : ∀ r ∈ a, usableR r = true → r.2.1 ∈ ysOf a b ∧ r.2.2.2 ∈ ysOf a b := fun r hr hu => ⟨rowsL_keep b (rowsL_has a hr hu).1, rowsL_keep b (rowsL_has a hr hu).2⟩
  have lb : ∀ r ∈ b, usableR r = true → r.2.1 ∈ ysOf a b ∧ r.2.2.2 ∈ ysOf a b := fun r hr hu => rowsL_has b hr hu
  have hz : modeB m (contains5 a x y) (contains5 b x y) = true → ∃ z1 z2, z1 ∈ ysOf a b ∧ z1 ≤ y ∧ z2 ∈ ysOf a b ∧ y < z2 := by
    intro h
    have hh : contains5 a x y = true ∨ contains5 b x y = true := by
      cases h1 : contains5 a x y with
      | true => exact .inl rfl
      | false => cases h2 : contains5 b x y with
        | true => exact .inr rfl
        | false => rw [h1, h2, modeB_none] at h; cases h
    have pick : ∀ l : List Rect, (∀ r ∈ l, usableR r = true → r.2.1 ∈ ysOf a b ∧ r.2.2.2 ∈ ysOf a b) → contains5 l x y = true → ∃ z1 z2, z1 ∈ ysOf a b ∧ z1 ≤ y ∧ z2 ∈ ysOf a b ∧ y < z2 := by
      intro l hl h
      rw [contains5_hit, List.any_eq_true] at h
      obtain ⟨r, hr, hx⟩ := h
      unfold hitX hitR at hx
      simp only [Bool.and_eq_true, decide_eq_true_eq] at hx
      exact ⟨r.2.1, r.2.2.2, (hl r hr hx.1.1.1).1, hx.1.1.2, (hl r hr hx.1.1.1).2, hx.1.2⟩
    rcases hh with hh | hh
    · exact pick a la hh
    · exact pick b lb hh
  by_cases h0 : (ysOf a b).length = 0
  · have e : contains5 (combinedL a b m) x y = false := by
      unfold combinedL
      rw [h0]
      simp [combS, contains5]
    rw [e]
    cases h : modeB m (contains5 a x y) (contains5 b x y) with
    | false => rfl
    | true =>
      obtain ⟨z1, _, hz1, _⟩ := hz h
      rw [List.length_eq_zero_iff.1 h0] at hz1
      cases hz1
  have hi := (combS_inv a b m hb hs ((ysOf a b).length - 1) (by omega)).pts x y
  unfold combinedL
  rw [hi, Bool.eq_iff_iff, List.any_eq_true]
  constructor
  · rintro ⟨i, hr, h⟩
    rw [List.mem_range] at hr
    have h1 : i + 1 < (ysOf a b).length := by omega
    rw [Bool.and_eq_true, inL_runsAt, el_at (by omega), el_at h1] at h
    obtain ⟨g1, g2⟩ := h
    simp only [hitP, Bool.and_eq_true, decide_eq_true_eq] at g1
    rw [contains5_hit, contains5_hit, any_same la g1.1 (gap hs h1 g1.2), any_same lb g1.1 (gap hs h1 g1.2)]
    exact g2
  · intro h
    obtain ⟨z1, z2, m1, l1, m2, l2⟩ := hz h
    obtain ⟨i, hi, g1, g2⟩ := between hs m1 l1 m2 l2
    refine ⟨i, List.mem_range.2 (by omega), ?_⟩
    rw [Bool.and_eq_true, inL_runsAt, el_at (by omega), el_at hi, ← any_same la g1 (gap hs hi g2), ← any_same lb g1 (gap hs hi g2), ← contains5_hit, ← contains5_hit]
    refine ⟨?_, h⟩
    simp only [hitP, Bool.and_eq_true, decide_eq_true_eq]
    exact ⟨g1, g2⟩
end Go.Proofs.Ytogbocplojbdjaa
