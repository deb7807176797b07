/-
  A part of the proof: what some of the program's functions compute.
-/
import Derived.Test.YtgjfofeaakdihaaGreatVJ
namespace Go.Proofs.YtgjfofeaakdihaaGreat
open Go Go.E Go.Proofs
set_option linter.unusedVariables false
set_option linter.unusedSimpArgs false
/-! the points of a device, plainly -/
theorem pts_mem_iff {M : MapD} {p : Pt} : p ∈ pointsM M ↔ ∃ e ∈ M, e.2.2.1 = p := by
  unfold pointsM
  rw [(isort_perm cmpPt _).mem_iff, List.mem_map]
theorem pts_length (M : MapD) : (pointsM M).length = M.length := by
  unfold pointsM
  rw [(isort_perm cmpPt _).length_eq, List.length_map]
theorem pts_strict {T : TouchD} (h : TouchOk T) : (pointsM T.2.1).Pairwise (fun a b => a.1 < b.1) := by
  have hs : (pointsM T.2.1).Pairwise (fun a b => a.1 ≤ b.1) := isort_sorted byKey_pt _
  have hn : ((pointsM T.2.1).map (fun p : Pt => p.1)).Nodup := by
    have hp := (isort_perm cmpPt (T.2.1.map fun e => e.2.2.1)).map (fun p : Pt => p.1)
    refine hp.symm.nodup ?_
    rw [List.map_map]
    have : T.2.1.map ((fun p : Pt => p.1) ∘ fun e => e.2.2.1) = T.2.1.map (·.2.1) := List.map_congr_left fun e he => h.id e he
    rw [this]
    exact h.key
  have hne : (pointsM T.2.1).Pairwise (fun a b => a.1 ≠ b.1) := List.pairwise_map.1 hn
  exact (hs.and hne).imp fun h => by have h1 := h.1; have h2 := h.2; omega
theorem pts_at {T : TouchD} (h : TouchOk T) {i j : Nat} (hij : i < j) (hj : j < (pointsM T.2.1).length) : (elemAt (t := PtT) (pointsM T.2.1) i).1 < (elemAt (t := PtT) (pointsM T.2.1) j).1 := by
  have h1 := elemAt_get (t := PtT) (pointsM T.2.1) i (by omega)
  have h2 := elemAt_get (t := PtT) (pointsM T.2.1) j hj
  rw [List.getElem?_eq_getElem (by omega)] at h1 h2
  injection h1 with h1
  injection h2 with h2
  rw [← h1, ← h2]
  exact List.pairwise_iff_getElem.1 (pts_strict h) i j _ _ hij
theorem mDel_len {V : Type} : ∀ {M : List (Nat × Int × V)} {n : Int}, (mGet M n).isSome = true → (mDel M n).length + 1 = M.length
  | [], n, h => by simp [mGet] at h
  | y :: r, n, h => by
    simp only [mGet] at h
    simp only [mDel]
    split at h
    · rename_i hx
      rw [if_pos hx]
      simp
    · rename_i hx
      rw [if_neg hx]
      simp [mDel_len h]
theorem mPut_self {V : Type} : ∀ (M : List (Nat × Int × V)) (n : Int) (c : Nat) (x : V), ∃ b, (b, n, x) ∈ mPut M c n x
  | [], n, c, x => ⟨c, by simp [mPut]⟩
  | y :: r, n, c, x => by
    simp only [mPut]
    split
    · exact ⟨_, List.mem_cons_self ..⟩
    · obtain ⟨b, hb⟩ := mPut_self r n c x
      exact ⟨b, List.mem_cons_of_mem _ hb⟩
theorem feed_map {T : TouchD} {l : List Item} {e : Inp} (h : (feedT T l e).1.2 = 0) : (feedT T l e).2.2.1 = (feedM T l e).1 := by
  rw [(feed_fine h).2.1]
  rfl
theorem feed_count {T : TouchD} {l : List Item} {e : Inp} (h : (feedT T l e).1.2 = 0) : ((feedT T l e).2.2.1.length : Int) = T.2.1.length + (if e.1 = 5 then 1 else if e.1 = 7 then -1 else 0) := by
  rw [feed_map h]
  unfold feedM
  rcases check_zero (feed_fine h).1 with ⟨h5, hn, hl⟩ | ⟨h5, h67, hs⟩
  · rw [if_neg (by omega), mPut_new _ _ hn, if_pos h5]
    simp
  · rw [if_neg h5]
    rcases h67 with h6 | h7
    · rw [if_neg (by omega), if_neg (by omega)]
      have := congrArg List.length (mPut_fst (M := T.2.1) (n := e.2.2.2.2.1) T.2.2.1 (feedC T l e) hs).1
      simp at this
      simp [this]
    · rw [if_pos h7, if_pos h7]
      have := mDel_len hs
      simp only
      omega
/-- points without a surface -/
def Bare (M : MapD) : Prop := ∀ e ∈ M, e.2.2.1.2.1 = 0 ∧ e.2.2.1.2.2.1 = 0
theorem at_nil (x y : Int) : atI [] x y = -1 := by simp [atI]
theorem bare_P {T : TouchD} (h : Bare T.2.1) (e : Inp) : (feedP T [] e).1.2.1 = 0 ∧ (feedP T [] e).1.2.2.1 = 0 := by
  unfold feedP
  split
  · rw [if_neg (by rw [at_nil]; decide)]
    exact ⟨rfl, rfl⟩
  · cases hg : mGet T.2.1 e.2.2.2.2.1 with
    | none => exact ⟨rfl, rfl⟩
    | some x =>
      obtain ⟨y, hy, _, h2⟩ := mGet_some hg
      rw [Option.getD_some, ← h2]
      exact h y hy
theorem bare_C {T : TouchD} (h : Bare T.2.1) (e : Inp) : (feedC T [] e).1.2.1 = 0 ∧ (feedC T [] e).1.2.2.1 = 0 := by
  unfold feedC
  split <;> exact bare_P h e
theorem bare_feed {T : TouchD} (h : Bare T.2.1) (e : Inp) : Bare (feedT T [] e).2.2.1 ∧ (feedT T [] e).1.1 = [] := by
  by_cases he : (feedT T [] e).1.2 = 0
  · refine ⟨?_, ?_⟩
    · rw [feed_map he]
      unfold feedM
      split
      · exact fun x hx => h x ((mDel_sub _ _).subset hx)
      · intro x hx
        rcases mPut_mem hx with hx | hx
        · exact h x hx
        · rw [hx]
          exact bare_C h e
    · rcases (feed_fine he).2.2 with ⟨h3, _⟩ | ⟨h3, _⟩
      · exact h3
      · exact absurd (bare_C h e).2 h3
  · obtain ⟨h1, h2, _⟩ := feed_err he
    rw [h2]
    exact ⟨h, h1⟩
theorem feed_found {T : TouchD} (hT : TouchOk T) (h : Bare T.2.1) {e : Inp} (he : (feedT T [] e).1.2 = 0) (h7 : e.1 ≠ 7) : ((e.2.2.2.2.1, 0, 0, e.2.2.1, e.2.2.2.1) : Pt) ∈ pointsM (feedT T [] e).2.2.1 := by
  rw [pts_mem_iff, feed_map he]
  unfold feedM
  rw [if_neg h7]
  obtain ⟨b, hb⟩ := mPut_self T.2.1 e.2.2.2.2.1 T.2.2.1 (feedC T [] e)
  refine ⟨_, hb, ?_⟩
  have h1 := feedP_id hT [] e (feed_fine he).1
  obtain ⟨h2, h3⟩ := bare_P h e
  simp only [feedC, if_neg h7, h1, h2, h3]
end Go.Proofs.YtgjfofeaakdihaaGreat
