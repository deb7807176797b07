/-
  A part of the proof: what some of the program's functions compute.
-/
import Derived.Test.YtogbocplojbdjaaVNG
namespace Go.Proofs.Ytogbocplojbdjaa
open Go Go.E Go.Proofs
set_option linter.unusedVariables false
set_option linter.unusedSimpArgs false
theorem el_at {l : List Int} {i : Nat} (h : i < l.length) : elemAt (t := I64) l i = l[i] := by
  have e := elemAt_get (t := I64) l i h
  rw [List.getElem?_eq_getElem h] at e
  exact (Option.some.inj e).symm
theorem pairsOf_mem : ∀ {l : List Int} {p : Int × Int}, p ∈ pairsOf l → p.1 ∈ l ∧ p.2 ∈ l
  | [], p, h => by simp [pairsOf] at h
  | [a], p, h => by simp [pairsOf] at h
  | a :: b :: r, p, h => by
    simp only [pairsOf, List.mem_cons] at h
    rcases h with rfl | h
    · simp
    · have := pairsOf_mem h
      exact ⟨List.mem_cons_of_mem _ (List.mem_cons_of_mem _ this.1), List.mem_cons_of_mem _ (List.mem_cons_of_mem _ this.2)⟩
theorem inL_same {l xs : List Int} {lo x : Int} (hl : ∀ z ∈ l, z ∈ xs) (hle : lo ≤ x) (hno : ∀ z ∈ xs, ¬ (lo < z ∧ z ≤ x)) : inL l x = inL l lo := by
  rw [inL_def, inL_def, Bool.eq_iff_iff, List.any_eq_true, List.any_eq_true]
  have key : ∀ p ∈ pairsOf l, (hitP x p = true ↔ hitP lo p = true) := by
    intro p hp
    obtain ⟨h1, h2⟩ := pairsOf_mem hp
    have n1 := hno _ (hl _ h1)
    have n2 := hno _ (hl _ h2)
    simp only [hitP, Bool.and_eq_true, decide_eq_true_eq]
    omega
  exact ⟨fun ⟨p, hp, h⟩ => ⟨p, hp, (key p hp).1 h⟩, fun ⟨p, hp, h⟩ => ⟨p, hp, (key p hp).2 h⟩⟩
theorem between : ∀ {xs : List Int} {x z1 z2 : Int}, xs.Pairwise (· < ·) → z1 ∈ xs → z1 ≤ x → z2 ∈ xs → x < z2 → ∃ i, ∃ h : i + 1 < xs.length, xs[i] ≤ x ∧ x < xs[i + 1]
  | [], x, z1, z2, _, h, _, _, _ => by cases h
  | [c], x, z1, z2, _, h1, g1, h2, g2 => by
    rw [List.mem_singleton] at h1 h2
    omega
  | c :: d :: r, x, z1, z2, hs, h1, g1, h2, g2 => by
    obtain ⟨s1, s2⟩ := List.pairwise_cons.1 hs
    have hcd := s1 d (List.mem_cons_self ..)
    by_cases hd : x < d
    · refine ⟨0, by simp, ?_, hd⟩
      rcases List.mem_cons.1 h1 with rfl | h1
      · exact g1
      · exfalso
        rcases List.mem_cons.1 h1 with rfl | h1
        · omega
        · have := (List.pairwise_cons.1 s2).1 z1 h1
          omega
    · have h2' : z2 ∈ d :: r := by
        rcases List.mem_cons.1 h2 with rfl | h2
        · omega
        · exact h2
      obtain ⟨i, hi, a1, a2⟩ := between (x := x) (z1 := d) s2 (List.mem_cons_self ..) (by omega) h2' g2
      exact ⟨i + 1, by simp at hi ⊢; omega, a1, a2⟩
theorem inL_mergeK (a b : List Int) (m x : Int) : ∀ k, inL (mergeK a b m k) x = (List.range k).any fun i =>
    modeB m (inL a (elemAt (t := I64) (xsOf a b) i)) (inL b (elemAt (t := I64) (xsOf a b) i)) && hitP x (elemAt (t := I64) (xsOf a b) i, elemAt (t := I64) (xsOf a b) (i + 1))
  | 0 => by simp [mergeK, inL_def, pairsOf]
  | k + 1 => by
    rw [mergeK_step, List.range_succ, List.any_append, ← inL_mergeK a b m x k]
    simp only [List.any_cons, List.any_nil, Bool.or_false]
    unfold mergeStep
    split
    · rename_i h
      rw [inL_addL, h, Bool.true_and]
    · rename_i h
      rw [Bool.not_eq_true] at h
      rw [h, Bool.false_and, Bool.or_false]
theorem modeB_none (m : Int) : modeB m false false = false := by simp [modeB]
theorem inL_mergedL (a b : List Int) (m x : Int) : inL (mergedL a b m) x = modeB m (inL a x) (inL b x) := by
  have hs : (xsOf a b).Pairwise (· < ·) := insAll_sorted (insAll_sorted List.Pairwise.nil)
  have ha : ∀ z ∈ a, z ∈ xsOf a b := fun z hz => insAll_mem.2 (.inl (insAll_mem.2 (.inr hz)))
  have hb : ∀ z ∈ b, z ∈ xsOf a b := fun z hz => insAll_mem.2 (.inr hz)
  have hno : ∀ i (h : i + 1 < (xsOf a b).length), x < (xsOf a b)[i + 1] → ∀ z ∈ xsOf a b, ¬ ((xsOf a b)[i] < z ∧ z ≤ x) := by
    rintro i h hx z hz ⟨h1, h2⟩
    obtain ⟨j, hj, rfl⟩ := List.getElem_of_mem hz
    have hp := List.pairwise_iff_getElem.1 hs
    rcases Nat.lt_trichotomy j (i + 1) with hji | hji | hji
    · rcases Nat.lt_or_eq_of_le (Nat.le_of_lt_succ hji) with hji | hji
      · have := hp j i hj (by omega) hji
        omega
      · subst hji
        omega
    · subst hji
      omega
    · have := hp (i + 1) j h hj hji
      omega
  unfold mergedL
  rw [inL_mergeK, Bool.eq_iff_iff, List.any_eq_true]
  constructor
  · rintro ⟨i, hi, h⟩
    rw [List.mem_range] at hi
    have h1 : i + 1 < (xsOf a b).length := by omega
    simp only [Bool.and_eq_true] at h
    rw [el_at (by omega), el_at h1] at h
    obtain ⟨g1, g2⟩ := h
    simp only [hitP, Bool.and_eq_true, decide_eq_true_eq] at g2
    rw [inL_same ha g2.1 (hno i h1 g2.2), inL_same hb g2.1 (hno i h1 g2.2)]
    exact g1
  · intro h
    have hz : ∃ z1 z2, z1 ∈ xsOf a b ∧ z1 ≤ x ∧ z2 ∈ xsOf a b ∧ x < z2 := by
      have hh : inL a x = true ∨ inL b x = true := by
        cases h1 : inL a x with
        | true => exact .inl rfl
        | false => cases h2 : inL b x with
          | true => exact .inr rfl
          | false => rw [h1, h2, modeB_none] at h; cases h
      rcases hh with hh | hh
      · rw [inL_def, List.any_eq_true] at hh
        obtain ⟨p, hp, hx⟩ := hh
        simp only [hitP, Bool.and_eq_true, decide_eq_true_eq] at hx
        exact ⟨p.1, p.2, ha _ (pairsOf_mem hp).1, hx.1, ha _ (pairsOf_mem hp).2, hx.2⟩
      · rw [inL_def, List.any_eq_true] at hh
        obtain ⟨p, hp, hx⟩ := hh
        simp only [hitP, Bool.and_eq_true, decide_eq_true_eq] at hx
        exact ⟨p.1, p.2, hb _ (pairsOf_mem hp).1, hx.1, hb _ (pairsOf_mem hp).2, hx.2⟩
    obtain ⟨z1, z2, m1, l1, m2, l2⟩ := hz
    obtain ⟨i, hi, g1, g2⟩ := between hs m1 l1 m2 l2
    refine ⟨i, List.mem_range.2 (by omega), ?_⟩
    rw [el_at (by omega), el_at hi, ← inL_same ha g1 (hno i hi g2), ← inL_same hb g1 (hno i hi g2), h]
    simp only [hitP, Bool.true_and, Bool.and_eq_true, decide_eq_true_eq]
    exact ⟨g1, g2⟩
theorem inL_runsAt (a b : List Rect) (m : Int) (ys : List Int) (i : Nat) (x : Int) : inL (runsAt a b m ys i) x = modeB m (a.any (hitX x (elemAt (t := I64) ys i))) (b.any (hitX x (elemAt (t := I64) ys i))) := by
  unfold runsAt
  rw [inL_mergedL, inL_rowL, inL_rowL]
end Go.Proofs.Ytogbocplojbdjaa
