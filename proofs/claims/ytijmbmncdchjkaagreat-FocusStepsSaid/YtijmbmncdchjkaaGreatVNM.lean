/-
  A part of the proof: what some of the program's functions compute.
-/
import Derived.Test.YtijmbmncdchjkaaGreatVNL
namespace Go.Proofs.YtijmbmncdchjkaaGreat
open Go Go.E Go.Proofs
set_option linter.unusedVariables false
set_option linter.unusedSimpArgs false
/-! how many rectangles there are -/
theorem addL_all {Q : Int → Prop} {l : List Int} {x0 x1 : Int} (hl : ∀ z ∈ l, Q z) (h0 : Q x0) (h1 : Q x1) : ∀ z ∈ addL l x0 x1, Q z := by
  have : ∀ (ps : List (Int × Int)) (s : List Int × List Int × Int × Int), (∀ p ∈ ps, Q p.1 ∧ Q p.2) → ((∀ z ∈ s.1, Q z) ∧ (∀ z ∈ s.2.1, Q z) ∧ Q s.2.2.1 ∧ Q s.2.2.2) →
      (∀ z ∈ (ps.foldl addStep s).1, Q z) ∧ (∀ z ∈ (ps.foldl addStep s).2.1, Q z) ∧ Q (ps.foldl addStep s).2.2.1 ∧ Q (ps.foldl addStep s).2.2.2 := by
    intro ps
    induction ps with
    | nil => intro s _ h; exact h
    | cons p r ih =>
      intro s hp h
      obtain ⟨a1, a2, a3, a4⟩ := h
      obtain ⟨p1, p2⟩ := hp p (List.mem_cons_self ..)
      have two : ∀ {t : List Int}, (∀ z ∈ t, Q z) → ∀ z ∈ t ++ [p.1, p.2], Q z := by
        intro t ht z hz
        rcases List.mem_append.1 hz with hz | hz
        · exact ht z hz
        · simp at hz
          rcases hz with rfl | rfl
          · exact p1
          · exact p2
      rw [List.foldl_cons]
      refine ih _ (fun q hq => hp q (List.mem_cons_of_mem _ hq)) ?_
      unfold addStep
      split
      · exact ⟨two a1, a2, a3, a4⟩
      · split
        · exact ⟨a1, two a2, a3, a4⟩
        · refine ⟨a1, a2, ?_, ?_⟩
          · simp only
            rcases Int.le_total s.2.2.1 p.1 with h | h
            · rw [Int.min_eq_left h]; exact a3
            · rw [Int.min_eq_right h]; exact p1
          · simp only
            rcases Int.le_total s.2.2.2 p.2 with h | h
            · rw [Int.max_eq_right h]; exact p2
            · rw [Int.max_eq_left h]; exact a4
  have h := this ((pairsOf l).take l.length) ([], [], x0, x1) (fun p hp => ⟨hl _ (pairsOf_mem (List.mem_of_mem_take hp)).1, hl _ (pairsOf_mem (List.mem_of_mem_take hp)).2⟩) ⟨(fun z hz => by cases hz), (fun z hz => by cases hz), h0, h1⟩
  intro z hz
  unfold addL at hz
  rcases List.mem_append.1 hz with hz | hz
  · rcases List.mem_append.1 hz with hz | hz
    · exact h.1 z hz
    · simp at hz
      rcases hz with rfl | rfl
      · exact h.2.2.1
      · exact h.2.2.2
  · exact h.2.1 z hz
theorem rowL_all {Q : Int → Prop} {l : List Rect} (hl : ∀ r ∈ l, Q r.1 ∧ Q r.2.2.1) (y : Int) : ∀ z ∈ rowL l y, Q z := by
  have : ∀ (l : List Rect) (o : List Int), (∀ r ∈ l, Q r.1 ∧ Q r.2.2.1) → (∀ z ∈ o, Q z) → ∀ z ∈ l.foldl (rowStep y) o, Q z := by
    intro l
    induction l with
    | nil => intro o _ h; exact h
    | cons r rs ih =>
      intro o hl h
      rw [List.foldl_cons]
      refine ih _ (fun q hq => hl q (List.mem_cons_of_mem _ hq)) ?_
      unfold rowStep
      split
      · exact addL_all h (hl r (List.mem_cons_self ..)).1 (hl r (List.mem_cons_self ..)).2
      · exact h
  exact this l [] hl fun z hz => by cases hz
theorem runsAt_all {Q : Int → Prop} {a b : List Rect} (ha : ∀ r ∈ a, Q r.1 ∧ Q r.2.2.1) (hb : ∀ r ∈ b, Q r.1 ∧ Q r.2.2.1) (m : Int) (ys : List Int) (i : Nat) : ∀ z ∈ runsAt a b m ys i, Q z :=
  fun z hz => ((mergedL_si _ _ m).2 z hz).elim (rowL_all ha _ z) (rowL_all hb _ z)
theorem runsAt_few {a b : List Rect} {sx : List Int} (ha : ∀ r ∈ a, r.1 ∈ sx ∧ r.2.2.1 ∈ sx) (hb : ∀ r ∈ b, r.1 ∈ sx ∧ r.2.2.1 ∈ sx) (m : Int) (ys : List Int) (i : Nat) : (runsAt a b m ys i).length ≤ sx.length :=
  si_len (mergedL_si _ _ m).1 (runsAt_all (Q := fun z => z ∈ sx) ha hb m ys i)
theorem combS_few {a b : List Rect} {sx : List Int} (ha : ∀ r ∈ a, r.1 ∈ sx ∧ r.2.2.1 ∈ sx) (hb : ∀ r ∈ b, r.1 ∈ sx ∧ r.2.2.1 ∈ sx) (m : Int) (ys : List Int) : ∀ k, (combS a b m ys k).1.length ≤ k * (sx.length / 2)
  | 0 => by simp [combS]
  | k + 1 => by
    have h := combS_few ha hb m ys k
    have hr := runsAt_few ha hb m ys k
    rw [combS_step, Nat.add_mul, Nat.one_mul]
    unfold combStep
    split
    · simp only [setTo_len]
      omega
    · simp only [List.length_append, rectsOf_len]
      have : (runsAt a b m ys k).length / 2 ≤ sx.length / 2 := Nat.div_le_div_right hr
      omega
theorem rowsL_all {Q : Int → Prop} : ∀ (l : List Rect) {ys : List Int}, (∀ r ∈ l, Q r.2.1 ∧ Q r.2.2.2) → (∀ z ∈ ys, Q z) → ∀ z ∈ rowsL l ys, Q z
  | [], ys, _, h => h
  | r :: rs, ys, hl, h => by
    show ∀ z ∈ rowsL rs (rowsStep ys r), Q z
    refine rowsL_all rs (fun q hq => hl q (List.mem_cons_of_mem _ hq)) ?_
    have hr := hl r (List.mem_cons_self ..)
    unfold rowsStep
    split
    · intro z hz
      rcases insL_mem.1 hz with rfl | hz
      · exact hr.2
      · rcases insL_mem.1 hz with rfl | hz
        · exact hr.1
        · exact h z hz
    · exact h
theorem ysOf_all {Q : Int → Prop} {a b : List Rect} (ha : ∀ r ∈ a, Q r.2.1 ∧ Q r.2.2.2) (hb : ∀ r ∈ b, Q r.2.1 ∧ Q r.2.2.2) : ∀ z ∈ ysOf a b, Q z :=
  rowsL_all b hb (rowsL_all a ha fun z hz => by cases hz)
theorem combined_few {a b : List Rect} {sx sy : List Int} (ha : ∀ r ∈ a, r.1 ∈ sx ∧ r.2.2.1 ∈ sx) (hb : ∀ r ∈ b, r.1 ∈ sx ∧ r.2.2.1 ∈ sx) (ga : ∀ r ∈ a, r.2.1 ∈ sy ∧ r.2.2.2 ∈ sy) (gb : ∀ r ∈ b, r.2.1 ∈ sy ∧ r.2.2.2 ∈ sy) (m : Int) :
    (combinedL a b m).length ≤ sy.length * (sx.length / 2) := by
  have hs : (ysOf a b).Pairwise (· < ·) := rowsL_sorted b (rowsL_sorted a List.Pairwise.nil)
  have hy := si_len hs (ysOf_all (Q := fun z => z ∈ sy) ga gb)
  unfold combinedL
  refine Nat.le_trans (combS_few ha hb m _ _) (Nat.mul_le_mul_right _ ?_)
  omega
/-- its numbers are those of the two lists -/
theorem combined_all {Q R : Int → Prop} {a b : List Rect} (ha : ∀ r ∈ a, Q r.1 ∧ Q r.2.2.1) (hb : ∀ r ∈ b, Q r.1 ∧ Q r.2.2.1) (ga : ∀ r ∈ a, R r.2.1 ∧ R r.2.2.2) (gb : ∀ r ∈ b, R r.2.1 ∧ R r.2.2.2) (m : Int) :
    ∀ r ∈ combinedL a b m, (Q r.1 ∧ Q r.2.2.1) ∧ R r.2.1 ∧ R r.2.2.2 := by
  have hy := ysOf_all ga gb
  have hat : ∀ i, i < (ysOf a b).length → R (elemAt (t := I64) (ysOf a b) i) := fun i hi => by rw [el_at hi]; exact hy _ (List.getElem_mem hi)
  have : ∀ k, k + 1 ≤ (ysOf a b).length → ∀ r ∈ (combS a b m (ysOf a b) k).1, (Q r.1 ∧ Q r.2.2.1) ∧ R r.2.1 ∧ R r.2.2.2 := by
    intro k
    induction k with
    | zero => intro _ r hr; simp [combS] at hr
    | succ k ih =>
      intro hk r hr
      have ih := ih (by omega)
      rw [combS_step] at hr
      unfold combStep at hr
      split at hr
      · simp only [setTo] at hr
        rw [List.mem_mapIdx] at hr
        obtain ⟨j, hj, rfl⟩ := hr
        have := ih _ (List.getElem_mem hj)
        split
        · exact ⟨this.1, this.2.1, hat (k + 1) (by omega)⟩
        · exact this
      · rcases List.mem_append.1 hr with hr | hr
        · exact ih r hr
        · unfold rectsOf at hr
          obtain ⟨p, hp, rfl⟩ := List.mem_map.1 hr
          obtain ⟨m1, m2⟩ := pairsOf_mem hp
          exact ⟨⟨runsAt_all ha hb m _ _ _ m1, runsAt_all ha hb m _ _ _ m2⟩, hat k (by omega), hat (k + 1) (by omega)⟩
  unfold combinedL
  by_cases h0 : (ysOf a b).length = 0
  · rw [h0]
    intro r hr
    simp [combS] at hr
  · exact this _ (by omega)
end Go.Proofs.YtijmbmncdchjkaaGreat
