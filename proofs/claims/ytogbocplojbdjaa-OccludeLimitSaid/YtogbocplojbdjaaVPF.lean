/-
  A part of the proof: what some of the program's functions compute.
-/
import Derived.Test.YtogbocplojbdjaaVPE
namespace Go.Proofs.Ytogbocplojbdjaa
open Go Go.E Go.Proofs
set_option linter.unusedVariables false
set_option linter.unusedSimpArgs false
theorem scene_len {l : List Item} (h : sceneOk l = true) : l.length ≤ 128 := by
  rw [sceneOk, Bool.and_eq_true, decide_eq_true_eq] at h
  omega
theorem isCan_region {l : List Rect} (h : isCan l = true) : l.length ≤ 256 ∧ Region l := by
  rw [isCan, Bool.and_eq_true, decide_eq_true_eq] at h
  have e : combinedL l [] 1 = l := of_decide_eq_true h.2
  refine ⟨by omega, ?_⟩
  rw [← e]
  exact combined_region _ _ _
theorem lim_zero {xs : List Rect} (h : limE xs = 0) : limL xs = xs := by
  unfold limE at h
  unfold limL
  split at h
  · rename_i hh
    rw [if_pos hh]
  · exact absurd h (by decide)
theorem mode_two (a b : Bool) : modeB 2 a b = (a && b) := by cases a <;> cases b <;> rfl
theorem mode_three (a b : Bool) : modeB 3 a b = (a && !b) := by cases a <;> cases b <;> rfl
theorem within_inside (i : Item) (l : List Rect) : withinL l (0, 0, i.2.2.2.2.1.1, i.2.2.2.2.1.2.1) = insideQ i l := by
  unfold withinL insideQ
  by_cases hc : isCan l = true
  · obtain ⟨h256, hr⟩ := isCan_region hc
    rw [hc, Bool.true_and, Bool.true_and, Bool.eq_iff_iff]
    simp only [Bool.and_eq_true, beq_iff_eq, sameRects, decide_eq_true_eq]
    have k3 := contains5_combined l [(0, 0, i.2.2.2.2.1.1, i.2.2.2.2.1.2.1)] 3
    have k2 := contains5_combined l [(0, 0, i.2.2.2.2.1.1, i.2.2.2.2.1.2.1)] 2
    constructor
    · rintro ⟨h1, h2⟩
      rw [lim_zero h1] at h2
      have h3 := List.eq_nil_of_length_eq_zero h2
      have h4 : cutL i l = l := combined_is hr fun x y => by
        have h5 := k3 x y
        rw [h3, mode_three] at h5
        rw [mode_two]
        have h5 : false = (contains5 l x y && !contains5 [(0, 0, i.2.2.2.2.1.1, i.2.2.2.2.1.2.1)] x y) := h5
        revert h5
        cases contains5 l x y <;> cases contains5 [(0, 0, i.2.2.2.2.1.1, i.2.2.2.2.1.2.1)] x y <;> simp
      rw [h4]
      exact ⟨(lim_few h256).2, (lim_few h256).1.symm⟩
    · rintro ⟨h1, h2⟩
      rw [lim_zero h1] at h2
      have h4 : combinedL l [(0, 0, i.2.2.2.2.1.1, i.2.2.2.2.1.2.1)] 3 = [] := combined_is region_nil fun x y => by
        have h5 := k2 x y
        rw [show combinedL l [(0, 0, i.2.2.2.2.1.1, i.2.2.2.2.1.2.1)] 2 = l from h2.symm, mode_two] at h5
        rw [mode_three]
        show false = (contains5 l x y && !contains5 [(0, 0, i.2.2.2.2.1.1, i.2.2.2.2.1.2.1)] x y)
        revert h5
        cases contains5 l x y <;> cases contains5 [(0, 0, i.2.2.2.2.1.1, i.2.2.2.2.1.2.1)] x y <;> simp
      rw [h4]
      exact ⟨rfl, rfl⟩
  · rw [Bool.not_eq_true] at hc
    rw [hc]
    simp
theorem zeroR_iff (r : Rect) : zeroR r = true ↔ r = (0, 0, 0, 0) := by
  obtain ⟨a, b, c, d⟩ := r
  simp [zeroR]
theorem good_is (i : Item) : refGood i = itemGood i := by
  unfold refGood itemGood
  rcases areaI_cases i with h | ⟨h, h1, h2, h3, h4, h5⟩
  · have hb : boundsI i = (0, 0, 0, 0) := by rw [boundsI, if_pos h]
    rw [(zeroR_iff _).2 hb, (zeroR_iff _).2 h]
    simp
  · have hn : ¬ areaI i = (0, 0, 0, 0) := by
      rw [h]
      intro e
      injection e with _ e
      injection e with _ e
      injection e with e _
      omega
    have hb : zeroR (boundsI i) = false := by
      rw [← Bool.not_eq_true, zeroR_iff, boundsI, if_neg hn, h]
      intro e
      injection e with e1 e
      injection e with e2 e
      injection e with e3 _
      simp only at e1 e3
      omega
    have ha : zeroR (areaI i) = false := by
      rw [← Bool.not_eq_true, zeroR_iff]
      exact hn
    rw [hb, ha, h, within_inside, within_inside]
theorem ok_is (l : List Item) : refOk l = sceneOk l := by
  rw [refOk, sceneOk, show refGood = itemGood from funext good_is]
theorem ok_sub {a b : List Item} (h : a.Sublist b) (hb : sceneOk b = true) : sceneOk a = true := by
  rw [sceneOk, Bool.and_eq_true, Bool.and_eq_true, decide_eq_true_eq, decide_eq_true_eq] at *
  refine ⟨by have := h.length_le; omega, ?_, (h.map _).nodup hb.2.2⟩
  rw [List.all_eq_true] at *
  exact fun x hx => hb.2.1 x (h.subset hx)
structure ItemIn (i : Item) : Prop where
  bounds : boundsI i = (i.2.2.1, i.2.2.2.1, i.2.2.1 + i.2.2.2.2.1.1, i.2.2.2.1 + i.2.2.2.2.1.2.1)
  w : 1 ≤ i.2.2.2.2.1.1 ∧ i.2.2.2.2.1.1 ≤ 256
  h : 1 ≤ i.2.2.2.2.1.2.1 ∧ i.2.2.2.2.1.2.1 ≤ 256
  x : -16384 ≤ i.2.2.1 ∧ i.2.2.1 ≤ 16128
  y : -16384 ≤ i.2.2.2.1 ∧ i.2.2.2.1 ≤ 16128
  len : (i.2.2.2.2.1.2.2.length : Int) = i.2.2.2.2.1.1 * i.2.2.2.2.1.2.1
theorem good_in {i : Item} (hg : itemGood i = true) : ItemIn i := by
  unfold itemGood at hg
  simp only [Bool.not_eq_true', Bool.or_eq_false_iff] at hg
  have hz := hg.1.1.2
  rcases areaI_cases i with h | ⟨h, h1, h2, h3, h4, h5, h6, h7, h8⟩
  · rw [(zeroR_iff _).2 h] at hz
    cases hz
  · have hn : ¬ areaI i = (0, 0, 0, 0) := by
      rw [← zeroR_iff, hz]
      simp
    refine ⟨by rw [boundsI, if_neg hn, h], ⟨h1, h2⟩, ⟨h3, h4⟩, ⟨h5, h6⟩, ⟨h7, h8⟩, ?_⟩
    unfold areaI at hn
    split at hn
    · rename_i hh
      rw [Bool.and_eq_true, bufOk] at hh
      have := hh.1
      simp only [Bool.and_eq_true, decide_eq_true_eq] at this
      exact this.1.2
    · exact absurd rfl hn
theorem scene_in {l : List Item} (h : sceneOk l = true) : ∀ i ∈ l, ItemIn i := by
  intro i hi
  rw [sceneOk, Bool.and_eq_true, Bool.and_eq_true] at h
  exact good_in (List.all_eq_true.1 h.2.1 i hi)
end Go.Proofs.Ytogbocplojbdjaa
