/-
  A part of the proof: what some of the program's functions compute.
-/
import Derived.Test.YtgjfofeaakdihaaGreatVF
namespace Go.Proofs.YtgjfofeaakdihaaGreat
open Go Go.E Go.Proofs
set_option linter.unusedVariables false
set_option linter.unusedSimpArgs false
/-! plain facts on the device -/
theorem mGet_none {V : Type} : ∀ {M : List (Nat × Int × V)} {n : Int}, mGet M n = none → ∀ e ∈ M, e.2.1 ≠ n
  | [], n, h, e, he => by cases he
  | x :: r, n, h, e, he => by
    simp only [mGet] at h
    split at h
    · cases h
    · rename_i hx
      rcases List.mem_cons.1 he with rfl | he
      · simpa using hx
      · exact mGet_none h e he
theorem mGet_some {V : Type} : ∀ {M : List (Nat × Int × V)} {n : Int} {x : V}, mGet M n = some x → ∃ e ∈ M, e.2.1 = n ∧ e.2.2 = x
  | [], n, x, h => by simp [mGet] at h
  | y :: r, n, x, h => by
    simp only [mGet] at h
    split at h
    · rename_i hx
      injection h with h
      exact ⟨y, List.mem_cons_self .., by simpa using hx, h⟩
    · obtain ⟨e, he, h1, h2⟩ := mGet_some h
      exact ⟨e, List.mem_cons_of_mem _ he, h1, h2⟩
theorem mPut_new {V : Type} : ∀ {M : List (Nat × Int × V)} {n : Int} (c : Nat) (x : V), mGet M n = none → mPut M c n x = M ++ [(c, n, x)]
  | [], n, c, x, h => rfl
  | y :: r, n, c, x, h => by
    simp only [mGet] at h
    split at h
    · cases h
    · rename_i hx
      simp only [mPut]
      rw [if_neg hx, mPut_new c x h]
      rfl
theorem mPut_fst {V : Type} : ∀ {M : List (Nat × Int × V)} {n : Int} (c : Nat) (x : V), (mGet M n).isSome = true → (mPut M c n x).map (·.1) = M.map (·.1) ∧ (mPut M c n x).map (·.2.1) = M.map (·.2.1)
  | [], n, c, x, h => by simp [mGet] at h
  | y :: r, n, c, x, h => by
    simp only [mGet] at h
    simp only [mPut]
    split at h
    · rename_i hx
      have : y.2.1 = n := by simpa using hx
      rw [if_pos hx]
      simp [this]
    · rename_i hx
      rw [if_neg hx]
      obtain ⟨h1, h2⟩ := mPut_fst c x h
      simp [h1, h2]
theorem mPut_mem {V : Type} : ∀ {M : List (Nat × Int × V)} {n : Int} {c : Nat} {x : V} {e : Nat × Int × V}, e ∈ mPut M c n x → e ∈ M ∨ e.2 = (n, x)
  | [], n, c, x, e, h => by
    right
    rw [List.mem_singleton.1 h]
  | y :: r, n, c, x, e, h => by
    simp only [mPut] at h
    split at h
    · rcases List.mem_cons.1 h with rfl | h
      · right; rfl
      · left; exact List.mem_cons_of_mem _ h
    · rcases List.mem_cons.1 h with rfl | h
      · left; exact List.mem_cons_self ..
      · rcases mPut_mem h with h | h
        · left; exact List.mem_cons_of_mem _ h
        · right; exact h
theorem mDel_sub {V : Type} : ∀ (M : List (Nat × Int × V)) (n : Int), List.Sublist (mDel M n) M
  | [], n => List.Sublist.refl _
  | y :: r, n => by
    simp only [mDel]
    split
    · exact List.sublist_cons_self y r
    · exact (mDel_sub r n).cons_cons y
theorem issue_ok {L : LogD} (h : LogOk L) (a b c : Int) : LogOk (issueL L a b c).2 ∧ (issueL L a b c).2.1 = L.1 := by
  obtain ⟨h1, h2, h3⟩ := h
  unfold issueL
  split
  · exact ⟨⟨h1, h2, h3⟩, rfl⟩
  · refine ⟨⟨?_, ?_, ?_⟩, rfl⟩
    · exact Int.emod_nonneg _ (by decide)
    · exact Int.emod_lt_of_pos _ (by decide)
    · simpa using h3
theorem touch_log {T : TouchD} (h : TouchOk T) {L : LogD} (hL : LogOk L) (hv : L.1 = true) : TouchOk (L, T.2) := ⟨hL, hv, h.born, h.bnd, h.key, h.id, h.len⟩
theorem del_ok {T : TouchD} (h : TouchOk T) (p : Contact) (k : Int) : TouchOk (delT T p k).2 ∧ (delT T p k).2.2 = T.2 := by
  unfold delT
  split
  · exact ⟨touch_log h (issue_ok h.log _ _ _).1 ((issue_ok h.log _ _ _).2.trans h.valid), rfl⟩
  · split
    · exact ⟨h, rfl⟩
    · exact ⟨touch_log h (issue_ok h.log _ _ _).1 ((issue_ok h.log _ _ _).2.trans h.valid), rfl⟩
theorem touch_sub {T : TouchD} (h : TouchOk T) {M : MapD} (hs : List.Sublist M T.2.1) (t : Bool) (n : Int) : TouchOk (T.1, M, T.2.2.1, t, n) :=
  ⟨h.log, h.valid, fun e he => h.born e (hs.subset he), (hs.map _).nodup h.bnd, (hs.map _).nodup h.key, fun e he => h.id e (hs.subset he), Nat.le_trans hs.length_le h.len⟩
theorem check_zero {M : MapD} {e : Inp} (h : checkT M e = 0) : (e.1 = 5 ∧ mGet M e.2.2.2.2.1 = none ∧ M.length < 10) ∨ (e.1 ≠ 5 ∧ (e.1 = 6 ∨ e.1 = 7) ∧ (mGet M e.2.2.2.2.1).isSome = true) := by
  unfold checkT at h
  split at h
  · cases h
  rename_i h1
  split at h
  · cases h
  split at h
  · cases h
  rename_i h3
  split at h
  · cases h
  rename_i h4
  split at h
  · cases h
  rename_i h5
  by_cases h6 : e.1 = 5
  · left
    refine ⟨h6, ?_, ?_⟩
    · cases hg : mGet M e.2.2.2.2.1 with
      | none => rfl
      | some x => simp [h6, hg] at h3
    · simp [h6] at h4
      omega
  · right
    refine ⟨h6, ?_, ?_⟩
    · simp [h6] at h1
      omega
    · cases hg : mGet M e.2.2.2.2.1 with
      | none => simp [h6, hg] at h5
      | some x => rfl
theorem feedP_id {T : TouchD} (h : TouchOk T) (l : List Item) (e : Inp) (hc : checkT T.2.1 e = 0) : (feedP T l e).1.1 = e.2.2.2.2.1 := by
  unfold feedP
  rcases check_zero hc with ⟨h5, _, _⟩ | ⟨h5, _, h6⟩
  · rw [if_pos h5]
    split <;> rfl
  · rw [if_neg h5]
    obtain ⟨x, hx⟩ := Option.isSome_iff_exists.1 h6
    obtain ⟨y, hy, h1, h2⟩ := mGet_some hx
    rw [hx, Option.getD_some, ← h2, h.id y hy, h1]
theorem feedC_id {T : TouchD} (h : TouchOk T) (l : List Item) (e : Inp) (hc : checkT T.2.1 e = 0) : (feedC T l e).1.1 = e.2.2.2.2.1 := by
  unfold feedC
  split <;> exact feedP_id h l e hc
theorem feedS_ok {T : TouchD} (h : TouchOk T) (l : List Item) (e : Inp) (hc : checkT T.2.1 e = 0) : TouchOk (feedS T l e) := by
  unfold feedS feedM
  split
  · exact touch_sub h (mDel_sub _ _) _ _
  · rename_i h7
    simp only
    have hid := feedC_id h l e hc
    rcases check_zero hc with ⟨h5, hn, hl⟩ | ⟨h5, _, h6⟩
    · have hclk : mClk T.2.1 e.2.2.2.2.1 T.2.2.1 = T.2.2.1 + 1 := by unfold mClk; rw [hn]; rfl
      rw [hclk, mPut_new _ _ hn]
      refine ⟨h.log, h.valid, fun x hx => ?_, ?_, ?_, fun x hx => ?_, ?_⟩
      · show x.1 < T.2.2.1 + 1
        rcases List.mem_append.1 hx with hx | hx
        · have := h.born x hx; omega
        · rw [List.mem_singleton.1 hx]; simp
      · show ((T.2.1 ++ [(T.2.2.1, e.2.2.2.2.1, feedC T l e)]).map (fun x : Nat × Int × Contact => x.1)).Nodup
        rw [List.map_append, List.nodup_append]
        refine ⟨h.bnd, by simp, fun a ha b hb => ?_⟩
        obtain ⟨x, hx, rfl⟩ := List.mem_map.1 ha
        have := h.born x hx
        simp at hb
        omega
      · show ((T.2.1 ++ [(T.2.2.1, e.2.2.2.2.1, feedC T l e)]).map (fun x : Nat × Int × Contact => x.2.1)).Nodup
        rw [List.map_append, List.nodup_append]
        refine ⟨h.key, by simp, fun a ha b hb => ?_⟩
        obtain ⟨x, hx, rfl⟩ := List.mem_map.1 ha
        have := mGet_none hn x hx
        simp at hb
        subst hb
        exact this
      · rcases List.mem_append.1 hx with hx | hx
        · exact h.id x hx
        · rw [List.mem_singleton.1 hx]; exact hid
      · show (T.2.1 ++ [_]).length ≤ 10
        simp; omega
    · have hclk : mClk T.2.1 e.2.2.2.2.1 T.2.2.1 = T.2.2.1 := by unfold mClk; rw [h6]; rfl
      rw [hclk]
      obtain ⟨g1, g2⟩ := mPut_fst (M := T.2.1) (n := e.2.2.2.2.1) T.2.2.1 (feedC T l e) h6
      have hlen : (mPut T.2.1 T.2.2.1 e.2.2.2.2.1 (feedC T l e)).length = T.2.1.length := by
        have := congrArg List.length g1
        simpa using this
      refine ⟨h.log, h.valid, fun x hx => ?_, ?_, ?_, fun x hx => ?_, ?_⟩
      · have : x.1 ∈ T.2.1.map (·.1) := by rw [← g1]; exact List.mem_map.2 ⟨x, hx, rfl⟩
        obtain ⟨y, hy, he⟩ := List.mem_map.1 this
        have := h.born y hy
        show x.1 < T.2.2.1
        omega
      · show ((mPut T.2.1 T.2.2.1 e.2.2.2.2.1 (feedC T l e)).map (·.1)).Nodup
        rw [g1]; exact h.bnd
      · show ((mPut T.2.1 T.2.2.1 e.2.2.2.2.1 (feedC T l e)).map (·.2.1)).Nodup
        rw [g2]; exact h.key
      · rcases mPut_mem hx with hx | hx
        · exact h.id x hx
        · rw [hx]; exact hid
      · show (mPut T.2.1 T.2.2.1 e.2.2.2.2.1 (feedC T l e)).length ≤ 10
        rw [hlen]; exact h.len
theorem feed_ok {T : TouchD} (h : TouchOk T) (l : List Item) (e : Inp) : TouchOk (feedT T l e).2 := by
  unfold feedT
  split
  · exact h
  rename_i hc
  have hc : checkT T.2.1 e = 0 := by simpa using hc
  split
  · exact feedS_ok h l e hc
  · exact (del_ok (feedS_ok h l e hc) _ _).1
theorem log0_ok : LogOk log0 := ⟨by decide, by decide, List.length_replicate⟩
theorem tNew_ok {L : LogD} (h : LogOk L) (hv : L.1 = true) : TouchOk (tNew L) := ⟨h, hv, by simp [tNew], by simp [tNew], by simp [tNew], by simp [tNew], by simp [tNew]⟩
theorem remove_sub (M : MapD) : ∀ (ps : List Pt), List.Sublist (ps.foldl (fun M p => mDel M p.1) M) M := by
  intro ps
  induction ps generalizing M with
  | nil => exact List.Sublist.refl _
  | cons p r ih => exact (ih _).trans (mDel_sub M p.1)
theorem remove_ok {T : TouchD} (h : TouchOk T) (g : Pt → Bool) : TouchOk (removeT T g).2 := touch_sub h (remove_sub _ _) _ _
end Go.Proofs.YtgjfofeaakdihaaGreat
