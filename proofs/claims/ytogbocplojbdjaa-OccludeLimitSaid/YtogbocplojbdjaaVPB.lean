/-
  A part of the proof: what some of the program's functions compute.
-/
import Derived.Test.YtogbocplojbdjaaVPA
namespace Go.Proofs.Ytogbocplojbdjaa
open Go Go.E Go.Proofs
set_option linter.unusedVariables false
set_option linter.unusedSimpArgs false
abbrev BandT : Ty := .prod I64 (.prod I64 (.list RunT))
abbrev Band := Int × Int × List Run
def lastB (out : List Band) : Band := elemAt (t := BandT) out (out.length - 1)
def bandStep (runs : Nat → List Run) (ys : List Int) (out : List Band) (i : Nat) : List Band :=
  if (runs i).length = 0 then out
  else if 0 < out.length ∧ (lastB out).2.1 = elemAt (t := I64) ys i ∧ (lastB out).2.2 = runs i then out.set (out.length - 1) ((lastB out).1, elemAt (t := I64) ys (i + 1), (lastB out).2.2)
  else out ++ [(elemAt (t := I64) ys i, elemAt (t := I64) ys (i + 1), runs i)]
def bandK (runs : Nat → List Run) (ys : List Int) (k : Nat) : List Band := (List.range k).foldl (bandStep runs ys) []
def rectsB1 (b : Band) : List Rect := b.2.2.map fun r => (r.1, b.1, r.2, b.2.1)
def rectsB (l : List Band) : List Rect := l.flatMap rectsB1
theorem bandK_step (runs : Nat → List Run) (ys : List Int) (k : Nat) : bandK runs ys (k + 1) = bandStep runs ys (bandK runs ys k) k := by
  unfold bandK
  rw [List.range_succ, List.foldl_append]
  rfl
theorem lastB_snoc (pre : List Band) (p : Band) : lastB (pre ++ [p]) = p := by
  unfold lastB
  have := elemAt_get (t := BandT) (pre ++ [p]) ((pre ++ [p]).length - 1) (by simp)
  rw [List.getElem?_append_right (by simp)] at this
  simp at this
  simpa using this.symm
theorem setB_snoc (pre : List Band) (p q : Band) : (pre ++ [p]).set ((pre ++ [p]).length - 1) q = pre ++ [q] := by simp
theorem rectsB_append (a b : List Band) : rectsB (a ++ b) = rectsB a ++ rectsB b := by
  unfold rectsB
  rw [List.flatMap_append]
theorem rectsB_one (y0 y1 : Int) (runs : List Int) : rectsB [(y0, y1, pairsOf runs)] = rectsOf runs y0 y1 := by
  unfold rectsB rectsB1 rectsOf
  simp
theorem pairs_inj {l r : List Int} (hl : l.length % 2 = 0) (hr : r.length % 2 = 0) (h : pairsOf l = pairsOf r) : l = r := by
  rw [← flat_pairs hl, ← flat_pairs hr, h]
theorem bandK_len (runs : Nat → List Run) (ys : List Int) : ∀ k, (bandK runs ys k).length ≤ k
  | 0 => by simp [bandK]
  | k + 1 => by
    have h := bandK_len runs ys k
    rw [bandK_step]
    unfold bandStep
    split
    · omega
    · split <;> simp <;> omega
structure BandInv (ys : List Int) (k : Nat) (out : List Band) (s : List Rect × List Int × Int) : Prop where
  rects : rectsB out = s.1
  even : s.2.1.length % 2 = 0
  last : s.2.1 ≠ [] → ∃ pre y0, out = pre ++ [(y0, elemAt (t := I64) ys k, pairsOf s.2.1)] ∧ s.2.2 = (rectsB pre).length
  none : s.2.1 = [] → ∀ b ∈ out, @LT.lt Int _ b.2.1 (elemAt (t := I64) ys k)
  le : ∀ b ∈ out, @LE.le Int _ b.2.1 (elemAt (t := I64) ys k)
theorem bandK_inv (a b : List Rect) (m : Int) {ys : List Int} (hs : ys.Pairwise (· < ·)) {runs : Nat → List Run} (hr : ∀ i, i + 1 < ys.length → runs i = pairsOf (runsAt a b m ys i)) : ∀ k, k + 1 ≤ ys.length → BandInv ys k (bandK runs ys k) (combS a b m ys k)
  | 0, _ => ⟨rfl, rfl, fun h => absurd rfl h, fun _ b hb => (by cases hb), fun b hb => (by cases hb)⟩
  | k + 1, hk => by
    obtain ⟨h1, h2, h3, h4, h5⟩ := bandK_inv a b m hs hr k (by omega)
    have hlt : @LT.lt Int _ (elemAt (t := I64) ys k) (elemAt (t := I64) ys (k + 1)) := by
      rw [el_at (by omega), el_at (by omega)]
      exact List.pairwise_iff_getElem.1 hs k (k + 1) (by omega) (by omega) (by omega)
    have hrk := hr k (by omega)
    have hev := (runsAt_len a b m ys k).2
    rw [bandK_step, combS_step]
    unfold bandStep combStep
    generalize hQ : runsAt a b m ys k = Q at hrk hev
    generalize hS : combS a b m ys k = s at h1 h2 h3 h4
    obtain ⟨s1, s2, s3⟩ := s
    simp only at h1 h2 h3 h4 ⊢
    rw [hrk]
    by_cases hq : Q = []
    · subst hq
      rw [if_pos (show (pairsOf ([] : List Int)).length = 0 from rfl), if_neg (by simp)]
      exact ⟨by simp [rectsOf, pairsOf, h1], rfl, fun h => absurd rfl h, fun _ b hb => Int.lt_of_le_of_lt (h5 b hb) hlt, fun b hb => Int.le_trans (h5 b hb) (Int.le_of_lt hlt)⟩
    · have hne : ¬ (pairsOf Q).length = 0 := by
        intro h
        apply hq
        have := flat_pairs hev
        rw [List.length_eq_zero_iff.1 h] at this
        rw [← this]
        rfl
      have hpos : 0 < Q.length := List.length_pos_iff.2 hq
      rw [if_neg hne]
      by_cases he : Q = s2
      · subst he
        obtain ⟨pre, y0, g1, g2⟩ := h3 hq
        rw [g1, lastB_snoc, setB_snoc, if_pos ⟨by simp, rfl, rfl⟩, if_pos ⟨hpos, rfl⟩]
        rw [g1, rectsB_append, rectsB_one] at h1
        refine ⟨?_, hev, fun _ => ⟨pre, y0, rfl, g2⟩, fun h => absurd h hq, fun b hb => ?_⟩
        · simp only
          rw [rectsB_append, rectsB_one, ← h1, g2, Int.toNat_natCast, setTo_tail]
        · rcases List.mem_append.1 hb with hb | hb
          · have := h5 b (by rw [g1]; exact List.mem_append_left _ hb)
            exact Int.le_trans this (Int.le_of_lt hlt)
          · rw [List.mem_singleton.1 hb]
            exact Int.le_refl _
      · have hno : ¬ (0 < (bandK runs ys k).length ∧ (lastB (bandK runs ys k)).2.1 = elemAt (t := I64) ys k ∧ (lastB (bandK runs ys k)).2.2 = pairsOf Q) := by
          rintro ⟨k1, k2, k3⟩
          by_cases hz : s2 = []
          · have hm : lastB (bandK runs ys k) ∈ bandK runs ys k := by
              unfold lastB
              exact List.mem_of_getElem? (elemAt_get (t := BandT) _ _ (by omega))
            have := h4 hz _ hm
            rw [k2] at this
            exact Int.lt_irrefl _ this
          · obtain ⟨pre, y0, g1, _⟩ := h3 hz
            rw [g1, lastB_snoc] at k3
            exact he (pairs_inj h2 hev k3).symm
        rw [if_neg hno, if_neg (fun h => he h.2)]
        refine ⟨?_, hev, fun _ => ⟨bandK runs ys k, elemAt (t := I64) ys k, rfl, by simp only; rw [h1]⟩, fun h => absurd h hq, fun b hb => ?_⟩
        · simp only
          rw [rectsB_append, rectsB_one, h1]
        · rcases List.mem_append.1 hb with hb | hb
          · exact Int.le_trans (h5 b hb) (Int.le_of_lt hlt)
          · rw [List.mem_singleton.1 hb]
            exact Int.le_refl _
theorem bands_is (a b : List Rect) (m : Int) {runs : Nat → List Run} (hr : ∀ i, i + 1 < (ysOf a b).length → runs i = pairsOf (runsAt a b m (ysOf a b) i)) :
    rectsB (bandK runs (ysOf a b) ((ysOf a b).length - 1)) = combinedL a b m := by
  have hs : (ysOf a b).Pairwise (· < ·) := rowsL_sorted b (rowsL_sorted a List.Pairwise.nil)
  unfold combinedL
  by_cases h0 : (ysOf a b).length = 0
  · rw [h0]
    rfl
  · exact (bandK_inv a b m hs hr _ (by omega)).rects
theorem sorted_ext : ∀ {a b : List Int}, a.Pairwise (· < ·) → b.Pairwise (· < ·) → (∀ x, x ∈ a ↔ x ∈ b) → a = b
  | [], [], _, _, _ => rfl
  | [], y :: b, _, _, h => by
    have := (h y).2 (List.mem_cons_self ..)
    cases this
  | x :: a, [], _, _, h => by
    have := (h x).1 (List.mem_cons_self ..)
    cases this
  | x :: a, y :: b, ha, hb, h => by
    obtain ⟨a1, a2⟩ := List.pairwise_cons.1 ha
    obtain ⟨b1, b2⟩ := List.pairwise_cons.1 hb
    have e : x = y := by
      have h1 := (h x).1 (List.mem_cons_self ..)
      have h2 := (h y).2 (List.mem_cons_self ..)
      rcases List.mem_cons.1 h1 with h1 | h1
      · exact h1
      · rcases List.mem_cons.1 h2 with h2 | h2
        · exact h2.symm
        · have := a1 y h2
          have := b1 x h1
          omega
    subst e
    rw [sorted_ext a2 b2 fun z => ?_]
    constructor
    · intro hz
      rcases List.mem_cons.1 ((h z).1 (List.mem_cons_of_mem _ hz)) with rfl | hz2
      · exact absurd (a1 z hz) (by omega)
      · exact hz2
    · intro hz
      rcases List.mem_cons.1 ((h z).2 (List.mem_cons_of_mem _ hz)) with rfl | hz2
      · exact absurd (b1 z hz) (by omega)
      · exact hz2
theorem rowsL_mem : ∀ (l : List Rect) {ys : List Int} {z : Int}, z ∈ rowsL l ys ↔ z ∈ ys ∨ ∃ r ∈ l, usableR r = true ∧ (z = r.2.1 ∨ z = r.2.2.2)
  | [], ys, z => by simp [rowsL]
  | r :: rs, ys, z => by
    show z ∈ rowsL rs (rowsStep ys r) ↔ _
    rw [rowsL_mem rs]
    unfold rowsStep
    by_cases hu : usableR r = true
    · rw [if_pos hu, insL_mem, insL_mem]
      constructor
      · rintro ((h | h | h) | ⟨q, hq, h⟩)
        · exact .inr ⟨r, List.mem_cons_self .., hu, .inr h⟩
        · exact .inr ⟨r, List.mem_cons_self .., hu, .inl h⟩
        · exact .inl h
        · exact .inr ⟨q, List.mem_cons_of_mem _ hq, h⟩
      · rintro (h | ⟨q, hq, hq2, h⟩)
        · exact .inl (.inr (.inr h))
        · rcases List.mem_cons.1 hq with rfl | hq
          · rcases h with h | h
            · exact .inl (.inr (.inl h))
            · exact .inl (.inl h)
          · exact .inr ⟨q, hq, hq2, h⟩
    · rw [if_neg hu]
      constructor
      · rintro (h | ⟨q, hq, h⟩)
        · exact .inl h
        · exact .inr ⟨q, List.mem_cons_of_mem _ hq, h⟩
      · rintro (h | ⟨q, hq, hq2, h⟩)
        · exact .inl h
        · rcases List.mem_cons.1 hq with rfl | hq
          · exact absurd hq2 hu
          · exact .inr ⟨q, hq, hq2, h⟩
theorem ysOf_mem {a b : List Rect} {z : Int} : z ∈ ysOf a b ↔ (∃ r ∈ a, usableR r = true ∧ (z = r.2.1 ∨ z = r.2.2.2)) ∨ ∃ r ∈ b, usableR r = true ∧ (z = r.2.1 ∨ z = r.2.2.2) := by
  unfold ysOf
  rw [rowsL_mem, rowsL_mem]
  simp
theorem ysOf_sorted (a b : List Rect) : (ysOf a b).Pairwise (· < ·) := rowsL_sorted b (rowsL_sorted a List.Pairwise.nil)
end Go.Proofs.Ytogbocplojbdjaa
