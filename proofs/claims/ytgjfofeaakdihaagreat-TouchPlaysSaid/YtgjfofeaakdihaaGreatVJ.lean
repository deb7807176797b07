/-
  A part of the proof: what some of the program's functions compute.
-/
import Derived.Test.YtgjfofeaakdihaaGreatVI
namespace Go.Proofs.YtgjfofeaakdihaaGreat
open Go Go.E Go.Proofs
set_option linter.unusedVariables false
set_option linter.unusedSimpArgs false
/-! what a call of Feed hands back -/
theorem feed_err {T : TouchD} {l : List Item} {e : Inp} (h : (feedT T l e).1.2 ≠ 0) : (feedT T l e).1.1 = [] ∧ (feedT T l e).2 = T ∧ checkT T.2.1 e ≠ 0 := by
  by_cases hc : checkT T.2.1 e ≠ 0
  · unfold feedT
    rw [if_pos hc]
    exact ⟨rfl, rfl, hc⟩
  · exfalso
    apply h
    unfold feedT
    rw [if_neg hc]
    split <;> rfl
theorem feed_fine {T : TouchD} {l : List Item} {e : Inp} (h : (feedT T l e).1.2 = 0) : checkT T.2.1 e = 0 ∧ (feedT T l e).2.2 = (feedS T l e).2 ∧
    ((feedT T l e).1.1 = [] ∧ (feedC T l e).1.2.2.1 = 0 ∧ (feedT T l e).2 = feedS T l e ∨ (feedC T l e).1.2.2.1 ≠ 0 ∧ (feedT T l e).1.1 = [(delT (feedS T l e) (feedC T l e) e.1).1] ∧ (feedT T l e).2 = (delT (feedS T l e) (feedC T l e) e.1).2) := by
  by_cases hc : checkT T.2.1 e ≠ 0
  · exfalso
    unfold feedT at h
    rw [if_pos hc] at h
    exact hc h
  · have hc' : checkT T.2.1 e = 0 := by simpa using hc
    unfold feedT
    rw [if_neg hc]
    split
    · rename_i h0
      exact ⟨hc', rfl, .inl ⟨rfl, h0, rfl⟩⟩
    · rename_i h0
      refine ⟨hc', ?_, .inr ⟨h0, rfl, rfl⟩⟩
      unfold delT
      split
      · rfl
      · split <;> rfl
theorem del_time (T : TouchD) (p : Contact) (k : Int) : (delT T p k).1.2.2.2.1 = T.2.2.2.2 := by
  unfold delT
  split
  · rfl
  · split <;> rfl
theorem feed_time {T : TouchD} {l : List Item} {e : Inp} (h : (feedT T l e).1.2 = 0) : (feedT T l e).2.2.2.2.1 = true ∧ (feedT T l e).2.2.2.2.2 = feedTime T e ∧ ∀ d ∈ (feedT T l e).1.1, d.2.2.2.1 = feedTime T e := by
  obtain ⟨_, h2, h3⟩ := feed_fine h
  refine ⟨by rw [h2]; rfl, by rw [h2]; rfl, fun d hd => ?_⟩
  rcases h3 with ⟨h3, _⟩ | ⟨_, h3, _⟩
  · rw [h3] at hd; cases hd
  · rw [h3] at hd
    rw [List.mem_singleton.1 hd, del_time]
    rfl
theorem feed_len {T : TouchD} {l : List Item} {e : Inp} (h : (feedT T l e).1.2 = 0) : (feedT T l e).1.1.length ≤ 1 := by
  rcases (feed_fine h).2.2 with ⟨h3, _⟩ | ⟨_, h3, _⟩ <;> rw [h3] <;> simp
end Go.Proofs.YtgjfofeaakdihaaGreat
