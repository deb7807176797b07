/-
  A part of the proof: what some of the program's functions compute.
-/
import Derived.Test.YtogbocplojbdjaaVCB
namespace Go.Proofs.Ytogbocplojbdjaa
open Go Go.E Go.Proofs
set_option linter.unusedVariables false
set_option linter.unusedSimpArgs false
theorem limL_le (l : List Rect) : (limL l).length ≤ 256 := by
  unfold limL
  split
  · assumption
  · simp
theorem same_self (a : List Rect) : sameRects a a = true := by simp [sameRects]
theorem lim_cases (l : List Rect) : (limE l = 0 ∧ limL l = l ∧ l.length ≤ 256) ∨ (limE l = 5 ∧ limL l = []) := by
  unfold limE limL
  by_cases h : l.length ≤ 256
  · exact .inl ⟨if_pos h, if_pos h, h⟩
  · exact .inr ⟨if_neg h, if_neg h⟩
theorem lim_ok {l : List Rect} (h : limE l = 0) : limL l = l ∧ l.length ≤ 256 := by
  rcases lim_cases l with ⟨_, h1, h2⟩ | ⟨h1, _⟩
  · exact ⟨h1, h2⟩
  · rw [h] at h1
    cases h1
theorem lim_few {l : List Rect} (h : l.length ≤ 256) : limL l = l ∧ limE l = 0 := by
  unfold limE limL
  rw [if_pos h, if_pos h]
  exact ⟨rfl, rfl⟩
theorem limE_zero {l : List Rect} : limE l = 0 ↔ l.length ≤ 256 := ⟨fun h => (lim_ok h).2, fun h => (lim_few h).2⟩
theorem mode1 (p q : Bool) : modeB 1 p q = (p || q) := by cases p <;> cases q <;> rfl
theorem mode2 (p q : Bool) : modeB 2 p q = (p && q) := by cases p <;> cases q <;> rfl
theorem mode3 (p q : Bool) : modeB 3 p q = (p && !q) := by cases p <;> cases q <;> rfl
theorem region_nil : Region [] := ⟨[], rfl, canonB_nil, fun b hb => (by cases hb)⟩
theorem contains5_nil (x y : Int) : contains5 [] x y = false := rfl
theorem cov_or (a b : List Rect) (x y : Int) : contains5 (combinedL a b 1) x y = (contains5 a x y || contains5 b x y) := by rw [contains5_combined, mode1]
theorem cov_and (a b : List Rect) (x y : Int) : contains5 (combinedL a b 2) x y = (contains5 a x y && contains5 b x y) := by rw [contains5_combined, mode2]
theorem cov_sub (a b : List Rect) (x y : Int) : contains5 (combinedL a b 3) x y = (contains5 a x y && !contains5 b x y) := by rw [contains5_combined, mode3]
theorem cov_one (a : List Rect) (x y : Int) : contains5 (combinedL a [] 1) x y = contains5 a x y := by rw [contains5_combined, contains5_nil, mode_one]
theorem comb_congr {a b c d : List Rect} (m : Int) (h1 : ∀ x y, contains5 a x y = contains5 c x y) (h2 : ∀ x y, contains5 b x y = contains5 d x y) : combinedL a b m = combinedL c d m :=
  region_unique (combined_region a b m) (combined_region c d m) fun x y => by rw [contains5_combined, contains5_combined, h1, h2]
theorem moved_is {a d : Int} (h : -16384 ≤ a ∧ a ≤ 16384) : movedI a d = within5 (a + clampD d) := by
  unfold movedI within5 clampD
  rw [wrap_in (by omega)]
  omega
theorem contains5_moved (l : List Rect) (dx dy x y : Int) : contains5 ((cleanL l).map fun r => translR r dx dy) x y = contains5 (shiftsL l dx dy) x y := by
  have hc : cleanL l = l.filter usableR := by
    unfold cleanL
    refine List.filter_congr fun r _ => ?_
    rw [usable_empty]
  unfold shiftsL
  rw [hc, contains5_hit, contains5_hit, List.any_map, List.any_map, Bool.eq_iff_iff, List.any_eq_true, List.any_eq_true]
  have key : ∀ r ∈ l.filter usableR, hitX x y (translR r dx dy) = hitX x y (shift5 dx dy r) := by
    intro r hr
    have hu := (List.mem_filter.1 hr).2
    have he : emptyR r = false := by rw [usable_empty] at hu; simpa using hu
    simp only [usableR, Bool.and_eq_true, decide_eq_true_eq] at hu
    have ht : translR r dx dy = canonR (shift5 dx dy r) := by
      unfold translR shift5
      rw [he, moved_is (by omega), moved_is (by omega), moved_is (by omega), moved_is (by omega)]
      rfl
    rw [ht]
    generalize shift5 dx dy r = q
    unfold canonR
    by_cases hq : emptyR q = true
    · rw [if_pos hq]
      have h1 : usableR q = false := by rw [usable_empty, hq]; rfl
      have h2 : usableR ((0, 0, 0, 0) : Rect) = false := by decide
      unfold hitX hitR
      rw [h1, h2]
      rfl
    · rw [if_neg hq]
  constructor
  · rintro ⟨r, hr, h⟩
    exact ⟨r, hr, by simp only [Function.comp_apply] at h ⊢; rw [← key r hr]; exact h⟩
  · rintro ⟨r, hr, h⟩
    exact ⟨r, hr, by simp only [Function.comp_apply] at h ⊢; rw [key r hr]; exact h⟩
def inR (r : Rect) (x y : Int) : Bool := !emptyR r && (decide (r.1 ≤ x ∧ x < r.2.2.1) && decide (r.2.1 ≤ y ∧ y < r.2.2.2))
theorem inR_iff {r : Rect} {x y : Int} : inR r x y = true ↔ emptyR r = false ∧ (r.1 ≤ x ∧ x < r.2.2.1) ∧ r.2.1 ≤ y ∧ y < r.2.2.2 := by
  unfold inR
  simp only [Bool.and_eq_true, Bool.not_eq_true', decide_eq_true_eq]
theorem contains5_one (r : Rect) (x y : Int) : contains5 [r] x y = inR r x y := by
  unfold contains5
  rw [List.any_cons, List.any_nil, Bool.or_false, usable_empty, Bool.eq_iff_iff, inR_iff]
  simp only [Bool.and_eq_true, Bool.not_eq_true', decide_eq_true_eq]
  exact ⟨fun h => ⟨h.1.1.1.1, ⟨h.1.1.1.2, h.1.1.2⟩, h.1.2, h.2⟩, fun h => ⟨⟨⟨⟨h.1, h.2.1.1⟩, h.2.1.2⟩, h.2.2.1⟩, h.2.2.2⟩⟩
theorem contains_inR (r : Rect) (x y : Int) : containsR r x y = inR r x y := by
  unfold containsR canonR inR
  by_cases h : emptyR r = true
  · rw [if_pos h, h]
    simp only [Bool.not_true, Bool.false_and, Bool.and_eq_false_iff, decide_eq_false_iff_not]
    omega
  · rw [if_neg h]
    rw [Bool.not_eq_true] at h
    rw [h, Bool.eq_iff_iff]
    simp only [Bool.not_false, Bool.true_and, Bool.and_eq_true, decide_eq_true_eq]
    omega
theorem zero_empty : emptyR (0, 0, 0, 0) = true := by decide
theorem inR_zero (x y : Int) : inR (0, 0, 0, 0) x y = false := by
  unfold inR
  rw [zero_empty]
  rfl
theorem inR_canon (r : Rect) (x y : Int) : inR (canonR r) x y = inR r x y := by
  unfold canonR
  split
  · rename_i h
    rw [inR_zero, inR, h]
    rfl
  · rfl
theorem empty_at {r : Rect} : emptyR r = false ↔ ((-16384 ≤ r.1 ∧ r.1 ≤ 16384) ∧ (-16384 ≤ r.2.1 ∧ r.2.1 ≤ 16384) ∧ (-16384 ≤ r.2.2.1 ∧ r.2.2.1 ≤ 16384) ∧ (-16384 ≤ r.2.2.2 ∧ r.2.2.2 ≤ 16384)) ∧ r.1 < r.2.2.1 ∧ r.2.1 < r.2.2.2 := by
  unfold emptyR validR coordOk
  simp only [Bool.or_eq_false_iff, Bool.not_eq_false', Bool.and_eq_true, decide_eq_true_eq, decide_eq_false_iff_not]
  omega
theorem inR_inter (a b : Rect) (x y : Int) : inR (interQ a b) x y = (inR a x y && inR b x y) := by
  unfold interQ
  by_cases h : emptyR a = true ∨ emptyR b = true
  · rw [if_pos h, inR_zero]
    rcases h with h | h
    · simp [inR, h]
    · simp [inR, h]
  · rw [if_neg h, inR_canon, Bool.eq_iff_iff, Bool.and_eq_true, inR_iff, inR_iff, inR_iff]
    rw [not_or, Bool.not_eq_true, Bool.not_eq_true] at h
    obtain ⟨h1, h2⟩ := h
    have k1 := empty_at.1 h1
    have k2 := empty_at.1 h2
    constructor
    · rintro ⟨h3, h4⟩
      simp only at h4
      refine ⟨⟨h1, ?_⟩, h2, ?_⟩ <;> omega
    · rintro ⟨⟨_, h3⟩, _, h4⟩
      refine ⟨empty_at.2 ?_, ?_⟩ <;> simp only <;> omega
theorem canon_one {p : Run} (h : p.1 < p.2) : Canon [p] := ⟨fun r hr => by rw [List.mem_singleton] at hr; rw [hr]; exact h, List.pairwise_singleton ..⟩
theorem region_one {r : Rect} (h : emptyR r = false) : Region [r] := by
  have k := empty_at.1 h
  refine ⟨[(r.2.1, r.2.2.2, [(r.1, r.2.2.1)])], rfl, canonB_snoc canonB_nil ⟨?_, by simp, k.2.2⟩ (fun b hb => by cases hb) (fun pre a e => by cases pre <;> cases e), ?_⟩
  · exact canon_one k.2.1
  · intro b hb
    rw [List.mem_singleton] at hb
    subst hb
    refine ⟨k.1.2.1, k.1.2.2.2, fun q hq => ?_⟩
    rw [List.mem_singleton] at hq
    subst hq
    exact ⟨k.1.1, k.1.2.2.1⟩
def regR (r : Rect) : List Rect := if emptyR r = true then [] else [r]
theorem regR_region (r : Rect) : Region (regR r) := by
  unfold regR
  split
  · exact region_nil
  · rename_i h
    exact region_one (by simpa using h)
theorem regR_cov (r : Rect) (x y : Int) : contains5 (regR r) x y = inR r x y := by
  unfold regR
  split
  · rename_i h
    rw [contains5_nil, inR, h]
    rfl
  · exact contains5_one r x y
theorem regR_len (r : Rect) : (regR r).length ≤ 1 := by
  unfold regR
  split <;> simp
theorem area_reg (r : Rect) : areaL (regR r) = areaR r := by
  unfold regR areaR canonR
  split
  · rfl
  · simp [areaL, areaOne]
theorem region_empty {l : List Rect} (h : Region l) (hn : ∀ x y, contains5 l x y = false) : l = [] := region_unique h region_nil fun x y => by rw [hn, contains5_nil]
theorem region_point {l : List Rect} (h : Region l) (hn : l ≠ []) : ∃ x y, contains5 l x y = true := by
  refine Classical.byContradiction fun hh => hn (region_empty h fun x y => ?_)
  rw [← Bool.not_eq_true]
  exact fun hc => hh ⟨x, y, hc⟩
end Go.Proofs.Ytogbocplojbdjaa
