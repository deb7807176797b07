/-
  A part of the proof: what some of the program's functions compute.
-/
import Derived.Test.YtijmbmncdchjkaaGreatVNM
namespace Go.Proofs.YtijmbmncdchjkaaGreat
open Go Go.E Go.Proofs
set_option linter.unusedVariables false
set_option linter.unusedSimpArgs false
def xsI (l : List Rect) (w : Int) : List Int := (l.flatMap fun r => [r.1, r.2.2.1]) ++ [0, w]
def ysI (l : List Rect) (h : Int) : List Int := (l.flatMap fun r => [r.2.1, r.2.2.2]) ++ [0, h]
theorem flat_two {α : Type} (f g : α → Int) : ∀ l : List α, (l.flatMap fun r => [f r, g r]).length = 2 * l.length
  | [] => rfl
  | a :: r => by rw [List.flatMap_cons, List.length_append, flat_two f g r]; simp; omega
theorem cut_all (i : Item) (l : List Rect) : (∀ r ∈ l, (r.1 ∈ xsI l i.2.2.2.2.1.1 ∧ r.2.2.1 ∈ xsI l i.2.2.2.2.1.1) ∧ r.2.1 ∈ ysI l i.2.2.2.2.1.2.1 ∧ r.2.2.2 ∈ ysI l i.2.2.2.2.1.2.1) ∧
    ∀ r ∈ [((0, 0, i.2.2.2.2.1.1, i.2.2.2.2.1.2.1) : Rect)], (r.1 ∈ xsI l i.2.2.2.2.1.1 ∧ r.2.2.1 ∈ xsI l i.2.2.2.2.1.1) ∧ r.2.1 ∈ ysI l i.2.2.2.2.1.2.1 ∧ r.2.2.2 ∈ ysI l i.2.2.2.2.1.2.1 := by
  unfold xsI ysI
  constructor
  · intro r hr
    refine ⟨⟨List.mem_append_left _ (List.mem_flatMap.2 ⟨r, hr, by simp⟩), List.mem_append_left _ (List.mem_flatMap.2 ⟨r, hr, by simp⟩)⟩, List.mem_append_left _ (List.mem_flatMap.2 ⟨r, hr, by simp⟩), List.mem_append_left _ (List.mem_flatMap.2 ⟨r, hr, by simp⟩)⟩
  · intro r hr
    rw [List.mem_singleton] at hr
    subst hr
    simp
theorem cut_few (i : Item) {l : List Rect} (hl : l.length ≤ 10) : (cutL i l).length ≤ 256 := by
  obtain ⟨h1, h2⟩ := cut_all i l
  have h := combined_few (fun r hr => (h1 r hr).1) (fun r hr => (h2 r hr).1) (fun r hr => (h1 r hr).2) (fun r hr => (h2 r hr).2) 2
  have e1 : (xsI l i.2.2.2.2.1.1).length ≤ 22 := by unfold xsI; rw [List.length_append, flat_two]; simp; omega
  have e2 : (ysI l i.2.2.2.2.1.2.1).length ≤ 22 := by unfold ysI; rw [List.length_append, flat_two]; simp; omega
  unfold cutL
  refine Nat.le_trans h (Nat.le_trans (Nat.mul_le_mul e2 (Nat.div_le_div_right (c := 2) e1)) (by omega))
theorem mov_few (i : Item) {l : List Rect} (hl : l.length ≤ 10) : (movL i l).length ≤ 256 := by
  obtain ⟨h1, h2⟩ := cut_all i l
  have hc := combined_all (Q := fun z => z ∈ xsI l i.2.2.2.2.1.1) (R := fun z => z ∈ ysI l i.2.2.2.2.1.2.1) (fun r hr => (h1 r hr).1) (fun r hr => (h2 r hr).1) (fun r hr => (h1 r hr).2) (fun r hr => (h2 r hr).2) 2
  have e1 : (xsI l i.2.2.2.2.1.1).length ≤ 22 := by unfold xsI; rw [List.length_append, flat_two]; simp; omega
  have e2 : (ysI l i.2.2.2.2.1.2.1).length ≤ 22 := by unfold ysI; rw [List.length_append, flat_two]; simp; omega
  have e : limL (cutL i l) = cutL i l := by unfold limL; rw [if_pos (cut_few i hl)]
  have hm : ∀ r ∈ shiftsL (limL (cutL i l)) i.2.2.1 i.2.2.2.1, (r.1 ∈ (xsI l i.2.2.2.2.1.1).map (fun z => within5 (z + clampD i.2.2.1)) ∧ r.2.2.1 ∈ (xsI l i.2.2.2.2.1.1).map (fun z => within5 (z + clampD i.2.2.1))) ∧
      r.2.1 ∈ (ysI l i.2.2.2.2.1.2.1).map (fun z => within5 (z + clampD i.2.2.2.1)) ∧ r.2.2.2 ∈ (ysI l i.2.2.2.2.1.2.1).map (fun z => within5 (z + clampD i.2.2.2.1)) := by
    intro r hr
    rw [e] at hr
    unfold shiftsL at hr
    obtain ⟨q, hq, rfl⟩ := List.mem_map.1 hr
    have := hc q (List.mem_filter.1 hq).1
    exact ⟨⟨List.mem_map.2 ⟨_, this.1.1, rfl⟩, List.mem_map.2 ⟨_, this.1.2, rfl⟩⟩, List.mem_map.2 ⟨_, this.2.1, rfl⟩, List.mem_map.2 ⟨_, this.2.2, rfl⟩⟩
  have h := combined_few (b := []) (fun r hr => (hm r hr).1) (fun r hr => by cases hr) (fun r hr => (hm r hr).2) (fun r hr => by cases hr) 1
  rw [List.length_map, List.length_map] at h
  unfold movL
  refine Nat.le_trans h (Nat.le_trans (Nat.mul_le_mul e2 (Nat.div_le_div_right (c := 2) e1)) (by omega))
/-- the reference's hit is the program's -/
theorem hit5_is (i : Item) (hl : i.2.2.2.2.2.2.length ≤ 10) (x y : Int) : hit5 x y i = acceptsI i x y := by
  unfold hit5
  by_cases hb : boundsI i = (0, 0, 0, 0)
  · unfold placedL acceptsI
    rw [if_pos hb, hb, if_pos (by simp only; omega)]
    rfl
  · have ha : ¬ areaI i = (0, 0, 0, 0) := fun h => hb (by unfold boundsI; rw [if_pos h])
    have hc : (bufOk i.2.2.2.2.1 && posOk i.2.2.1 i.2.2.2.1) = true := by
      cases h : (bufOk i.2.2.2.2.1 && posOk i.2.2.1 i.2.2.2.1) with
      | true => rfl
      | false => exact absurd (by unfold areaI; rw [h]; rfl) ha
    have hB : boundsI i = (i.2.2.1, i.2.2.2.1, i.2.2.1 + i.2.2.2.2.1.1, i.2.2.2.1 + i.2.2.2.2.1.2.1) := by
      unfold boundsI
      rw [if_neg ha]
      unfold areaI
      rw [if_pos hc]
    rw [Bool.and_eq_true] at hc
    obtain ⟨hw, hp⟩ := hc
    have h1 := cut_few i hl
    have h2 := mov_few i hl
    have hm := contains5_mov i i.2.2.2.2.2.2 hp h1 x y
    have e0 : placedL i i.2.2.2.2.2.2 = movL i i.2.2.2.2.2.2 := by
      unfold placedL limE limL
      rw [if_neg hb, if_pos h1, if_pos h2, if_pos h2]
      rfl
    rw [e0, hm, contains5_rg]
    unfold acceptsI
    rw [hB]
    unfold bufOk at hw
    simp only [sizeOk, Bool.and_eq_true, decide_eq_true_eq] at hw
    unfold posOk at hp
    simp only [Bool.and_eq_true, decide_eq_true_eq] at hp
    have hA : contains5 [((0, 0, i.2.2.2.2.1.1, i.2.2.2.2.1.2.1) : Rect)] (x - i.2.2.1) (y - i.2.2.2.1) = (decide (i.2.2.1 ≤ x) && decide (x < i.2.2.1 + i.2.2.2.2.1.1) && decide (i.2.2.2.1 ≤ y) && decide (y < i.2.2.2.1 + i.2.2.2.2.1.2.1)) := by
      rw [Bool.eq_iff_iff]
      simp only [contains5, usableR, List.any_cons, List.any_nil, Bool.or_false, Bool.and_eq_true, decide_eq_true_eq]
      omega
    rw [hA]
    split
    · rename_i h
      have : (decide (i.2.2.1 ≤ x) && decide (x < i.2.2.1 + i.2.2.2.2.1.1) && decide (i.2.2.2.1 ≤ y) && decide (y < i.2.2.2.1 + i.2.2.2.2.1.2.1)) = false := by
        rw [Bool.eq_false_iff]
        intro hh
        simp only [Bool.and_eq_true, decide_eq_true_eq] at hh
        simp only at h
        omega
      rw [this]
      simp
    · rename_i h
      simp only at h
      have e1 : (decide (i.2.2.1 ≤ x) && decide (x < i.2.2.1 + i.2.2.2.2.1.1) && decide (i.2.2.2.1 ≤ y) && decide (y < i.2.2.2.1 + i.2.2.2.2.1.2.1)) = true := by
        simp only [Bool.and_eq_true, decide_eq_true_eq]
        omega
      have e2 : (inW x && inW y) = true := by
        simp only [inW, Bool.and_eq_true, decide_eq_true_eq]
        omega
      rw [e1, e2, Bool.and_true, Bool.and_true]
theorem at5_is10 {l : List Item} (h : ∀ i ∈ l, i.2.2.2.2.2.2.length ≤ 10) (x y : Int) : at5 l x y = atI l x y := by
  unfold at5 lastIdx atI
  have : l.reverse.findIdx? (hit5 x y) = l.reverse.findIdx? (fun i => acceptsI i x y) := by
    have : ∀ m : List Item, (∀ i ∈ m, i.2.2.2.2.2.2.length ≤ 10) → m.findIdx? (hit5 x y) = m.findIdx? (fun i => acceptsI i x y) := by
      intro m
      induction m with
      | nil => intro _; rfl
      | cons i r ih =>
        intro hm
        rw [List.findIdx?_cons, List.findIdx?_cons, hit5_is i (hm i (List.mem_cons_self ..)), ih fun j hj => hm j (List.mem_cons_of_mem _ hj)]
    exact this _ fun i hi => h i (List.mem_reverse.1 hi)
  rw [this]
  cases List.findIdx? (fun i => acceptsI i x y) l.reverse <;> rfl
theorem at5_is {l : List Item} (h : ∀ i ∈ l, i.2.2.2.2.2.2.length ≤ 8) (x y : Int) : at5 l x y = atI l x y := at5_is10 (fun i hi => Nat.le_trans (h i hi) (by decide)) x y
end Go.Proofs.YtijmbmncdchjkaaGreat
