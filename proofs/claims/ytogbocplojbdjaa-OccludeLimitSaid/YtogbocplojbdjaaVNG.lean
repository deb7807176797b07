/-
  A part of the proof: what some of the program's functions compute.
-/
import Derived.Test.YtogbocplojbdjaaVNE
namespace Go.Proofs.Ytogbocplojbdjaa
open Go Go.E Go.Proofs
set_option linter.unusedVariables false
set_option linter.unusedSimpArgs false
def hitP (x : Int) (p : Int × Int) : Bool := decide (p.1 ≤ x) && decide (x < p.2)
theorem inL_def (l : List Int) (x : Int) : inL l x = (pairsOf l).any (hitP x) := rfl
theorem pairsOf_append : ∀ {l : List Int} (r : List Int), l.length % 2 = 0 → pairsOf (l ++ r) = pairsOf l ++ pairsOf r
  | [], r, _ => by simp [pairsOf]
  | [a], r, h => by simp at h
  | a :: b :: l, r, h => by
    simp only [List.cons_append, pairsOf]
    rw [pairsOf_append r (by simp at h; omega)]
theorem inL_append {l : List Int} (r : List Int) (x : Int) (h : l.length % 2 = 0) : inL (l ++ r) x = (inL l x || inL r x) := by
  rw [inL_def, pairsOf_append r h, List.any_append]
  rfl
theorem inL_two (a b x : Int) : inL [a, b] x = hitP x (a, b) := by simp [inL_def, pairsOf]
def inS (s : List Int × List Int × Int × Int) (x : Int) : Bool := inL s.1 x || inL s.2.1 x || hitP x (s.2.2.1, s.2.2.2)
theorem addStep_in {s : List Int × List Int × Int × Int} (h : s.1.length % 2 = 0 ∧ s.2.1.length % 2 = 0) (p : Int × Int) (x : Int) : inS (addStep s p) x = (inS s x || hitP x p) := by
  unfold addStep
  split
  · unfold inS
    simp only
    rw [inL_append _ _ h.1, inL_two]
    cases inL s.1 x <;> cases inL s.2.1 x <;> cases hitP x p <;> cases hitP x (s.2.2.1, s.2.2.2) <;> rfl
  · split
    · unfold inS
      simp only
      rw [inL_append _ _ h.2, inL_two]
      cases inL s.1 x <;> cases inL s.2.1 x <;> cases hitP x p <;> cases hitP x (s.2.2.1, s.2.2.2) <;> rfl
    · unfold inS
      simp only
      have : hitP x (min s.2.2.1 p.1, max s.2.2.2 p.2) = (hitP x (s.2.2.1, s.2.2.2) || hitP x p) := by
        rw [Bool.eq_iff_iff]
        simp only [hitP, Bool.or_eq_true, Bool.and_eq_true, decide_eq_true_eq]
        omega
      rw [this, Bool.or_assoc]
      cases inL s.1 x <;> cases inL s.2.1 x <;> rfl
theorem inS_fold (x : Int) : ∀ (ps : List (Int × Int)) (s : List Int × List Int × Int × Int), s.1.length % 2 = 0 ∧ s.2.1.length % 2 = 0 → inS (ps.foldl addStep s) x = (inS s x || ps.any (hitP x))
  | [], s, _ => by simp
  | p :: r, s, h => by
    have h2 : (addStep s p).1.length % 2 = 0 ∧ (addStep s p).2.1.length % 2 = 0 := by
      unfold addStep
      split
      · simp; omega
      · split
        · simp; omega
        · exact h
    rw [List.foldl_cons, inS_fold x r _ h2, addStep_in h, List.any_cons, Bool.or_assoc]
theorem inL_addL {l : List Int} {x0 x1 : Int} (x : Int) : inL (addL l x0 x1) x = (inL l x || hitP x (x0, x1)) := by
  have he := addS_even l x0 x1 l.length
  have h := inS_fold x ((pairsOf l).take l.length) ([], [], x0, x1) ⟨rfl, rfl⟩
  rw [List.take_of_length_le (by rw [pairsOf_len]; omega)] at h
  have hs : addS l x0 x1 l.length = (pairsOf l).foldl addStep ([], [], x0, x1) := by
    unfold addS
    rw [List.take_of_length_le (by rw [pairsOf_len]; omega)]
  rw [← hs] at h
  unfold addL
  rw [inL_append _ _ (by simp; omega), inL_append _ _ he.1, inL_two]
  unfold inS at h
  simp only at h
  rw [inL_def l x]
  have e1 : inL [] x = false := rfl
  rw [e1] at h
  simp only [Bool.false_or] at h
  rw [Bool.or_comm ((pairsOf l).any (hitP x)), ← h]
  cases inL (addS l x0 x1 l.length).1 x <;> cases inL (addS l x0 x1 l.length).2.1 x <;> cases hitP x ((addS l x0 x1 l.length).2.2.1, (addS l x0 x1 l.length).2.2.2) <;> rfl
def hitX (x y : Int) (r : Rect) : Bool := hitR y r && hitP x (r.1, r.2.2.1)
theorem inL_rowL (l : List Rect) (x y : Int) : inL (rowL l y) x = l.any (hitX x y) := by
  have : ∀ (l : List Rect) (o : List Int), inL (l.foldl (rowStep y) o) x = (inL o x || l.any (hitX x y)) := by
    intro l
    induction l with
    | nil => intro o; simp
    | cons r rs ih =>
      intro o
      rw [List.foldl_cons, ih, List.any_cons]
      unfold rowStep hitX
      split
      · rename_i h
        rw [inL_addL, h, Bool.true_and, Bool.or_assoc]
      · rename_i h
        have h : hitR y r = false := by simpa using h
        rw [h, Bool.false_and, Bool.false_or]
  have h := this l []
  have e1 : inL [] x = false := rfl
  rw [e1, Bool.false_or] at h
  exact h
theorem insL_mem {n x : Int} : ∀ {l : List Int}, x ∈ insL n l ↔ x = n ∨ x ∈ l
  | [] => by simp [insL]
  | a :: r => by
    simp only [insL]
    split
    · split
      · simp
      · rename_i h1 h2
        have : n = a := by omega
        subst this
        simp
    · rw [List.mem_cons, insL_mem, List.mem_cons]
      constructor
      · rintro (h | h | h)
        · exact .inr (.inl h)
        · exact .inl h
        · exact .inr (.inr h)
      · rintro (h | h | h)
        · exact .inr (.inl h)
        · exact .inl h
        · exact .inr (.inr h)
theorem insL_sorted {n : Int} : ∀ {l : List Int}, l.Pairwise (· < ·) → (insL n l).Pairwise (· < ·)
  | [], _ => by simp [insL]
  | a :: r, h => by
    obtain ⟨h1, h2⟩ := List.pairwise_cons.1 h
    simp only [insL]
    split
    · split
      · rename_i hn hlt
        refine List.pairwise_cons.2 ⟨fun x hx => ?_, h⟩
        rcases List.mem_cons.1 hx with rfl | hx
        · exact hlt
        · exact Int.lt_trans hlt (h1 x hx)
      · exact h
    · refine List.pairwise_cons.2 ⟨fun x hx => ?_, insL_sorted h2⟩
      rcases insL_mem.1 hx with rfl | hx
      · omega
      · exact h1 x hx
theorem insAll_mem {x : Int} : ∀ {l xs : List Int}, x ∈ insAll xs l ↔ x ∈ xs ∨ x ∈ l
  | [], xs => by simp [insAll]
  | n :: r, xs => by
    show x ∈ insAll (insL n xs) r ↔ _
    rw [insAll_mem, insL_mem, List.mem_cons]
    constructor
    · rintro ((h | h) | h)
      · exact .inr (.inl h)
      · exact .inl h
      · exact .inr (.inr h)
    · rintro (h | h | h)
      · exact .inl (.inr h)
      · exact .inl (.inl h)
      · exact .inr h
theorem insAll_sorted : ∀ {l xs : List Int}, xs.Pairwise (· < ·) → (insAll xs l).Pairwise (· < ·)
  | [], xs, h => h
  | n :: r, xs, h => by
    show (insAll (insL n xs) r).Pairwise _
    exact insAll_sorted (insL_sorted h)
end Go.Proofs.Ytogbocplojbdjaa
