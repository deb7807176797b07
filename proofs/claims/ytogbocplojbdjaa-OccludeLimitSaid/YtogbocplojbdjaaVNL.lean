/-
  A part of the proof: what some of the program's functions compute.
-/
import Derived.Test.YtogbocplojbdjaaVNK
namespace Go.Proofs.Ytogbocplojbdjaa
open Go Go.E Go.Proofs
set_option linter.unusedVariables false
set_option linter.unusedSimpArgs false
def flatP (ps : List (Int × Int)) : List Int := ps.flatMap fun p => [p.1, p.2]
theorem flat_pairs : ∀ {l : List Int}, l.length % 2 = 0 → flatP (pairsOf l) = l
  | [], _ => rfl
  | [a], h => by simp at h
  | a :: b :: r, h => by
    have := flat_pairs (l := r) (by simp at h; omega)
    simp only [pairsOf, flatP, List.flatMap_cons] at this ⊢
    rw [this]
    rfl
theorem fold_low : ∀ (ps : List (Int × Int)) (s : List Int × List Int × Int × Int), (∀ p ∈ ps, p.2 < s.2.2.1) → ps.foldl addStep s = (s.1 ++ flatP ps, s.2)
  | [], s, _ => by simp [flatP]
  | p :: r, s, h => by
    have hp := h p (List.mem_cons_self ..)
    have e : addStep s p = (s.1 ++ [p.1, p.2], s.2) := by unfold addStep; rw [if_pos hp]
    rw [List.foldl_cons, e, fold_low r (s.1 ++ [p.1, p.2], s.2) (fun q hq => h q (List.mem_cons_of_mem _ hq))]
    simp [flatP]
theorem addL_si {l : List Int} {x0 x1 : Int} (he : l.length % 2 = 0) (hs : l.Pairwise (· < ·)) (hle : ∀ z ∈ l, z ≤ x0) (h : x0 < x1) : (addL l x0 x1).Pairwise (· < ·) ∧ ∀ z ∈ addL l x0 x1, z ∈ l ∨ z = x0 ∨ z = x1 := by
  have hS : addS l x0 x1 l.length = (pairsOf l).foldl addStep ([], [], x0, x1) := by
    unfold addS
    rw [List.take_of_length_le (by rw [pairsOf_len]; omega)]
  have hf := flat_pairs he
  rcases List.eq_nil_or_concat (pairsOf l) with hn | ⟨qs, p, hq⟩
  · rw [hn] at hS hf
    have hl : l = [] := hf.symm
    subst hl
    refine ⟨?_, fun z hz => ?_⟩
    · show [x0, x1].Pairwise _
      simpa using h
    · have hz : z ∈ [x0, x1] := hz
      simp at hz
      exact .inr hz
  · rw [List.concat_eq_append] at hq
    rw [hq] at hS hf
    have hl : l = flatP qs ++ [p.1, p.2] := by rw [← hf]; simp [flatP]
    rw [hl, List.pairwise_append] at hs
    obtain ⟨s1, s2, s3⟩ := hs
    have hp : p.1 < p.2 := by simpa using s2
    have hp0 : p.2 ≤ x0 := hle _ (by rw [hl]; simp)
    have hqs : ∀ q ∈ qs, q.2 < x0 := by
      intro q hq
      have : q.2 ∈ flatP qs := List.mem_flatMap.2 ⟨q, hq, by simp⟩
      have := s3 _ this p.1 (by simp)
      omega
    rw [List.foldl_append, fold_low qs _ hqs] at hS
    simp only [List.nil_append, List.foldl_cons, List.foldl_nil] at hS
    by_cases hc : p.2 < x0
    · have e : addL l x0 x1 = l ++ [x0, x1] := by
        unfold addL
        rw [hS]
        unfold addStep
        rw [if_pos hc, hl]
        simp
      rw [e]
      refine ⟨?_, fun z hz => ?_⟩
      · rw [List.pairwise_append]
        refine ⟨by rw [hl, List.pairwise_append]; exact ⟨s1, s2, s3⟩, by simpa using h, fun z hz w hw => ?_⟩
        have hz0 : z < x0 := by
          rw [hl] at hz
          rcases List.mem_append.1 hz with hz | hz
          · have := s3 z hz p.1 (by simp)
            omega
          · simp at hz
            omega
        simp at hw
        omega
      · rcases List.mem_append.1 hz with hz | hz
        · exact .inl hz
        · simp at hz
          exact .inr hz
    · have e : addL l x0 x1 = flatP qs ++ [p.1, x1] := by
        unfold addL
        rw [hS]
        unfold addStep
        rw [if_neg hc, if_neg (by simp only; omega)]
        simp only [List.append_nil]
        rw [show min x0 p.1 = p.1 by omega, show max x1 p.2 = x1 by omega]
      rw [e]
      refine ⟨?_, fun z hz => ?_⟩
      · rw [List.pairwise_append]
        refine ⟨s1, ?_, fun z hz w hw => ?_⟩
        · have : p.1 < x1 := by omega
          simpa using this
        · have h1 := s3 z hz p.1 (by simp)
          simp at hw
          omega
      · rcases List.mem_append.1 hz with hz | hz
        · exact .inl (by rw [hl]; exact List.mem_append_left _ hz)
        · simp at hz
          rcases hz with hz | hz
          · exact .inl (by rw [hl, hz]; simp)
          · exact .inr (.inr hz)
theorem mergeK_si (a b : List Int) (m : Int) : ∀ k, k + 1 ≤ (xsOf a b).length → (mergeK a b m k).Pairwise (· < ·) ∧ ∀ z ∈ mergeK a b m k, z ∈ xsOf a b ∧ z ≤ elemAt (t := I64) (xsOf a b) k
  | 0, _ => ⟨by simp [mergeK], fun z hz => by simp [mergeK] at hz⟩
  | k + 1, hk => by
    have hs : (xsOf a b).Pairwise (· < ·) := insAll_sorted (insAll_sorted List.Pairwise.nil)
    obtain ⟨h1, h2⟩ := mergeK_si a b m k (by omega)
    have hlt : @LT.lt Int _ (elemAt (t := I64) (xsOf a b) k) (elemAt (t := I64) (xsOf a b) (k + 1)) := by
      rw [el_at (by omega), el_at (by omega)]
      exact List.pairwise_iff_getElem.1 hs k (k + 1) (by omega) (by omega) (by omega)
    have m0 : elemAt (t := I64) (xsOf a b) k ∈ xsOf a b := by rw [el_at (by omega)]; exact List.getElem_mem _
    have m1 : elemAt (t := I64) (xsOf a b) (k + 1) ∈ xsOf a b := by rw [el_at (by omega)]; exact List.getElem_mem _
    rw [mergeK_step]
    unfold mergeStep
    split
    · obtain ⟨g1, g2⟩ := addL_si (mergeK_len a b m k).2 h1 (fun z hz => (h2 z hz).2) hlt
      refine ⟨g1, fun z hz => ?_⟩
      rcases g2 z hz with hz | hz | hz
      · have := h2 z hz
        exact ⟨this.1, Int.le_trans this.2 (Int.le_of_lt hlt)⟩
      · rw [hz]
        exact ⟨m0, Int.le_of_lt hlt⟩
      · rw [hz]
        exact ⟨m1, Int.le_refl _⟩
    · exact ⟨h1, fun z hz => ⟨(h2 z hz).1, Int.le_trans (h2 z hz).2 (Int.le_of_lt hlt)⟩⟩
theorem mergedL_si (a b : List Int) (m : Int) : (mergedL a b m).Pairwise (· < ·) ∧ ∀ z ∈ mergedL a b m, z ∈ a ∨ z ∈ b := by
  unfold mergedL
  have hx : ∀ z ∈ xsOf a b, z ∈ a ∨ z ∈ b := fun z hz => (insAll_mem.1 hz).elim (fun h => (insAll_mem.1 h).elim (fun h => by cases h) .inl) .inr
  by_cases h0 : (xsOf a b).length = 0
  · rw [h0]
    exact ⟨by simp [mergeK], fun z hz => by simp [mergeK] at hz⟩
  · obtain ⟨h1, h2⟩ := mergeK_si a b m ((xsOf a b).length - 1) (by omega)
    exact ⟨h1, fun z hz => hx z (h2 z hz).1⟩
theorem si_len {l s : List Int} (h : l.Pairwise (· < ·)) (hs : ∀ z ∈ l, z ∈ s) : l.length ≤ s.length :=
  List.Nodup.length_le_of_subset (h.imp fun h => by omega) hs
end Go.Proofs.Ytogbocplojbdjaa
