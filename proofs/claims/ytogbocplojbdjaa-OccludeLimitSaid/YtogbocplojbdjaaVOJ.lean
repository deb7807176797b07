/-
  A part of the proof: what some of the program's functions compute.
-/
import Derived.Test.YtogbocplojbdjaaVOH
namespace Go.Proofs.Ytogbocplojbdjaa
open Go Go.E Go.Proofs
set_option linter.unusedVariables false
set_option linter.unusedSimpArgs false
def gridRun (w : Nat) : List Run := (List.range w).map fun x : Nat => ((2 * (x : Int), 2 * (x : Int) + 1) : Run)
def gridB (w h : Nat) : List Band := (List.range h).map fun y : Nat => ((2 * (y : Int), 2 * (y : Int) + 1, gridRun w) : Band)
def gridRow (w y : Nat) : List Rect := (List.range w).map fun x : Nat => ((2 * (x : Int), 2 * (y : Int), 2 * (x : Int) + 1, 2 * (y : Int) + 1) : Rect)
def grid (w h : Nat) : List Rect := (List.range h).flatMap (gridRow w)
theorem grid_bands (w h : Nat) : grid w h = rectsB (gridB w h) := by
  unfold grid rectsB gridB
  rw [List.flatMap_map]
  congr 1
  funext y
  unfold gridRow rectsB1 gridRun
  rw [List.map_map]
  rfl
theorem gridRun_canon (w : Nat) : Canon (gridRun w) := by
  unfold gridRun
  refine ⟨fun r hr => ?_, ?_⟩
  · obtain ⟨x, _, rfl⟩ := List.mem_map.1 hr
    simp only
    omega
  · rw [List.pairwise_map]
    exact List.pairwise_lt_range.imp fun h => by
      simp only
      omega
theorem gridB_canon {w : Nat} (h : Nat) (h0 : w ≠ 0) : CanonB (gridB w h) := by
  refine ⟨fun b hb => ?_, ?_, fun pre a b post e h1 => ?_⟩
  · obtain ⟨y, _, rfl⟩ := List.mem_map.1 hb
    refine ⟨gridRun_canon w, fun hn => h0 ?_, by simp only; omega⟩
    have := congrArg List.length hn
    simpa [gridRun] using this
  · unfold gridB
    rw [List.pairwise_map]
    exact List.pairwise_lt_range.imp fun h => by
      simp only
      omega
  · exfalso
    have ha : a ∈ gridB w h := by rw [e]; simp
    have hb : b ∈ gridB w h := by rw [e]; simp
    obtain ⟨y, _, rfl⟩ := List.mem_map.1 ha
    obtain ⟨z, _, rfl⟩ := List.mem_map.1 hb
    simp only at h1
    omega
theorem gridB_bord {w h : Nat} (hw : w ≤ 20) (hh : h ≤ 20) : bordB (gridB w h) := by
  intro b hb
  obtain ⟨y, hy, rfl⟩ := List.mem_map.1 hb
  rw [List.mem_range] at hy
  unfold inB
  refine ⟨by simp only; omega, by simp only; omega, fun r hr => ?_⟩
  obtain ⟨x, hx, rfl⟩ := List.mem_map.1 hr
  rw [List.mem_range] at hx
  exact ⟨by simp only; omega, by simp only; omega⟩
theorem grid_region {w h : Nat} (h0 : w ≠ 0) (hw : w ≤ 20) (hh : h ≤ 20) : Region (grid w h) :=
  ⟨gridB w h, grid_bands w h, gridB_canon h h0, gridB_bord hw hh⟩
theorem grid_len (w h : Nat) : (grid w h).length = w * h := by
  unfold grid
  induction h with
  | zero => simp
  | succ h ih =>
    rw [List.range_succ, List.flatMap_append, List.length_append, ih]
    simp [gridRow, Nat.mul_succ]
theorem grid_succ (w h : Nat) : grid w (h + 1) = grid w h ++ gridRow w h := by
  unfold grid
  rw [List.range_succ, List.flatMap_append]
  simp
theorem gridRow_take {w y x : Nat} (h : x < w) : (gridRow w y).take (x + 1) = (gridRow w y).take x ++ [(2 * (x : Int), 2 * (y : Int), 2 * (x : Int) + 1, 2 * (y : Int) + 1)] := by
  rw [List.take_add_one]
  congr 1
  unfold gridRow
  rw [List.getElem?_map, List.getElem?_range h]
  rfl
theorem gridRow_len (w y : Nat) : (gridRow w y).length = w := by simp [gridRow]
theorem grid_area (w h : Nat) : areaL (grid w h) = (w * h : Nat) := by
  have : ∀ l : List Rect, (∀ r ∈ l, areaOne r = 1) → areaL l = l.length := by
    intro l
    induction l with
    | nil => intro _; rfl
    | cons r rs ih =>
      intro hl
      simp only [areaL, List.length_cons, hl r (List.mem_cons_self ..), ih fun x hx => hl x (List.mem_cons_of_mem _ hx)]
      push_cast
      omega
  rw [this, grid_len]
  intro r hr
  obtain ⟨y, _, hr⟩ := List.mem_flatMap.1 hr
  obtain ⟨x, _, rfl⟩ := List.mem_map.1 hr
  unfold areaOne
  simp only
  rw [show 2 * (x : Int) + 1 - 2 * (x : Int) = 1 by omega, show 2 * (y : Int) + 1 - 2 * (y : Int) = 1 by omega]
  rfl
def evenIn (n : Nat) (x : Int) : Bool := decide (0 ≤ x ∧ x < 2 * (n : Int)) && decide (x % 2 = 0)
theorem gridRun_cov (w : Nat) (x : Int) : covL (gridRun w) x = evenIn w x := by
  rw [Bool.eq_iff_iff, covL_iff, evenIn, Bool.and_eq_true, decide_eq_true_eq, decide_eq_true_eq]
  constructor
  · rintro ⟨r, hr, h1, h2⟩
    obtain ⟨k, hk, rfl⟩ := List.mem_map.1 hr
    rw [List.mem_range] at hk
    simp only at h1 h2
    omega
  · rintro ⟨⟨h1, h2⟩, h3⟩
    exact ⟨_, List.mem_map.2 ⟨(x / 2).toNat, List.mem_range.2 (by omega), rfl⟩, by simp only; omega, by simp only; omega⟩
theorem grid_cov {w h : Nat} (hw : w ≤ 20) (hh : h ≤ 20) (x y : Int) : contains5 (grid w h) x y = (evenIn w x && evenIn h y) := by
  rw [grid_bands, contains5_rectsB (gridB_bord hw hh), Bool.eq_iff_iff, ptB_iff, Bool.and_eq_true]
  constructor
  · rintro ⟨b, hb, h1, h2⟩
    obtain ⟨k, hk, rfl⟩ := List.mem_map.1 hb
    rw [List.mem_range] at hk
    simp only at h1 h2
    rw [gridRun_cov] at h2
    refine ⟨h2, ?_⟩
    rw [evenIn, Bool.and_eq_true, decide_eq_true_eq, decide_eq_true_eq]
    omega
  · rintro ⟨h1, h2⟩
    rw [evenIn, Bool.and_eq_true, decide_eq_true_eq, decide_eq_true_eq] at h2
    exact ⟨_, List.mem_map.2 ⟨(y / 2).toNat, List.mem_range.2 (by omega), rfl⟩, ⟨by simp only; omega, by simp only; omega⟩, by simp only; rw [gridRun_cov]; exact h1⟩
def gapRun (w : Nat) : List Run := (List.range w).map fun x : Nat => ((2 * (x : Int) + 1, 2 * (x : Int) + 2) : Run)
def gapB (w h : Nat) : List Band := (List.range h).flatMap fun y : Nat => [((2 * (y : Int), 2 * (y : Int) + 1, gapRun w) : Band), ((2 * (y : Int) + 1, 2 * (y : Int) + 2, [((0, 2 * (w : Int)) : Run)]) : Band)]
theorem gapRun_canon (w : Nat) : Canon (gapRun w) := by
  unfold gapRun
  refine ⟨fun r hr => ?_, ?_⟩
  · obtain ⟨x, _, rfl⟩ := List.mem_map.1 hr
    simp only
    omega
  · rw [List.pairwise_map]
    exact List.pairwise_lt_range.imp fun h => by
      simp only
      omega
theorem gapRun_cov (w : Nat) (x : Int) : covL (gapRun w) x = (decide (0 ≤ x ∧ x < 2 * (w : Int)) && !decide (x % 2 = 0)) := by
  rw [Bool.eq_iff_iff, covL_iff, Bool.and_eq_true, decide_eq_true_eq, Bool.not_eq_true', decide_eq_false_iff_not]
  constructor
  · rintro ⟨r, hr, h1, h2⟩
    obtain ⟨k, hk, rfl⟩ := List.mem_map.1 hr
    rw [List.mem_range] at hk
    simp only at h1 h2
    omega
  · rintro ⟨⟨h1, h2⟩, h3⟩
    exact ⟨_, List.mem_map.2 ⟨(x / 2).toNat, List.mem_range.2 (by omega), rfl⟩, by simp only; omega, by simp only; omega⟩
theorem gapRun_ne {w : Nat} (h0 : w ≠ 0) : gapRun w ≠ [] ∧ gapRun w ≠ [((0, 2 * (w : Int)) : Run)] := by
  constructor
  · intro h
    have := congrArg List.length h
    simp [gapRun] at this
    exact h0 this
  · intro h
    have h1 := gapRun_cov w 0
    rw [h] at h1
    simp [covL, hitP] at h1
    omega
theorem gapB_succ (w h : Nat) : gapB w (h + 1) = gapB w h ++ [((2 * (h : Int), 2 * (h : Int) + 1, gapRun w) : Band)] ++ [((2 * (h : Int) + 1, 2 * (h : Int) + 2, [((0, 2 * (w : Int)) : Run)]) : Band)] := by
  unfold gapB
  rw [List.range_succ, List.flatMap_append]
  simp
theorem gapB_canon {w : Nat} (h0 : w ≠ 0) : ∀ h : Nat, CanonB (gapB w h) ∧ (∀ b ∈ gapB w h, b.2.1 ≤ 2 * (h : Int)) ∧ ∀ pre a, gapB w h = pre ++ [a] → a.2.2 = [((0, 2 * (w : Int)) : Run)]
  | 0 => ⟨canonB_nil, fun b hb => (by cases hb), fun pre a e => by cases pre <;> cases e⟩
  | h + 1 => by
    obtain ⟨h1, h2, h3⟩ := gapB_canon h0 h
    obtain ⟨g1, g2⟩ := gapRun_ne h0
    have hA : CanonB (gapB w h ++ [((2 * (h : Int), 2 * (h : Int) + 1, gapRun w) : Band)]) := canonB_snoc h1 ⟨gapRun_canon w, g1, by simp only; omega⟩ (fun b hb => h2 b hb) fun pre a e _ hh => g2 (by rw [← h3 pre a e, hh])
    have hB : CanonB (gapB w h ++ [((2 * (h : Int), 2 * (h : Int) + 1, gapRun w) : Band)] ++ [((2 * (h : Int) + 1, 2 * (h : Int) + 2, [((0, 2 * (w : Int)) : Run)]) : Band)]) := canonB_snoc hA ⟨canon_one (by simp only; omega), by simp, by simp only; omega⟩ (fun b hb => by
      rcases List.mem_append.1 hb with hb | hb
      · have := h2 b hb
        simp only
        omega
      · rw [List.mem_singleton] at hb
        subst hb
        simp only
        omega) fun pre a e _ hh => by
      have := (List.append_inj' e rfl).2
      rw [List.singleton_inj] at this
      subst this
      exact g2 hh
    rw [gapB_succ]
    refine ⟨hB, fun b hb => ?_, fun pre a e => ?_⟩
    · rcases List.mem_append.1 hb with hb | hb
      · rcases List.mem_append.1 hb with hb | hb
        · have := h2 b hb
          push_cast
          omega
        · rw [List.mem_singleton] at hb
          subst hb
          simp only
          push_cast
          omega
      · rw [List.mem_singleton] at hb
        subst hb
        simp only
        push_cast
        omega
    · have := (List.append_inj' e rfl).2
      rw [List.singleton_inj] at this
      rw [← this]
theorem gapB_bord {w h : Nat} (hw : w ≤ 20) (hh : h ≤ 20) : bordB (gapB w h) := by
  intro b hb
  obtain ⟨y, hy, hb⟩ := List.mem_flatMap.1 hb
  rw [List.mem_range] at hy
  unfold inB
  rcases List.mem_cons.1 hb with rfl | hb
  · refine ⟨by simp only; omega, by simp only; omega, fun r hr => ?_⟩
    obtain ⟨x, hx, rfl⟩ := List.mem_map.1 hr
    rw [List.mem_range] at hx
    exact ⟨by simp only; omega, by simp only; omega⟩
  · rw [List.mem_singleton] at hb
    subst hb
    refine ⟨by simp only; omega, by simp only; omega, fun r hr => ?_⟩
    rw [List.mem_singleton] at hr
    subst hr
    exact ⟨by simp only; omega, by simp only; omega⟩
def gaps (w h : Nat) : List Rect := rectsB (gapB w h)
theorem gaps_region {w h : Nat} (h0 : w ≠ 0) (hw : w ≤ 20) (hh : h ≤ 20) : Region (gaps w h) := ⟨gapB w h, rfl, (gapB_canon h0 h).1, gapB_bord hw hh⟩
theorem gaps_len (w h : Nat) : (gaps w h).length = h * (w + 1) := by
  unfold gaps
  induction h with
  | zero => simp [gapB, rectsB]
  | succ h ih =>
    rw [gapB_succ]
    unfold rectsB at ih ⊢
    rw [List.flatMap_append, List.flatMap_append, List.length_append, List.length_append, ih]
    simp [rectsB1, gapRun, Nat.succ_mul]
    omega
theorem gaps_cov {w h : Nat} (hw : w ≤ 20) (hh : h ≤ 20) (x y : Int) : contains5 (gaps w h) x y = (decide (0 ≤ x ∧ x < 2 * (w : Int)) && decide (0 ≤ y ∧ y < 2 * (h : Int)) && !(decide (x % 2 = 0) && decide (y % 2 = 0))) := by
  rw [gaps, contains5_rectsB (gapB_bord hw hh), Bool.eq_iff_iff, ptB_iff]
  constructor
  · rintro ⟨b, hb, h1, h2⟩
    obtain ⟨k, hk, hb⟩ := List.mem_flatMap.1 hb
    rw [List.mem_range] at hk
    rcases List.mem_cons.1 hb with rfl | hb
    · simp only at h1 h2
      rw [gapRun_cov, Bool.and_eq_true, decide_eq_true_eq, Bool.not_eq_true'] at h2
      rw [h2.2, Bool.false_and, Bool.not_false, Bool.and_true, Bool.and_eq_true, decide_eq_true_eq, decide_eq_true_eq]
      omega
    · rw [List.mem_singleton] at hb
      subst hb
      simp only at h1 h2
      rw [covL_iff] at h2
      obtain ⟨r, hr, h3, h4⟩ := h2
      rw [List.mem_singleton] at hr
      subst hr
      simp only at h3 h4
      have : decide (y % 2 = 0) = false := decide_eq_false (by omega)
      rw [this, Bool.and_false, Bool.not_false, Bool.and_true, Bool.and_eq_true, decide_eq_true_eq, decide_eq_true_eq]
      omega
  · intro hc
    rw [Bool.and_eq_true, Bool.and_eq_true, decide_eq_true_eq, decide_eq_true_eq, Bool.not_eq_true', Bool.and_eq_false_iff, decide_eq_false_iff_not, decide_eq_false_iff_not] at hc
    obtain ⟨⟨hx, hy⟩, hc⟩ := hc
    by_cases hy2 : y % 2 = 0
    · refine ⟨((2 * (((y / 2).toNat : Nat) : Int), 2 * (((y / 2).toNat : Nat) : Int) + 1, gapRun w) : Band), List.mem_flatMap.2 ⟨(y / 2).toNat, List.mem_range.2 (by omega), by simp⟩, ⟨by simp only; omega, by simp only; omega⟩, ?_⟩
      simp only
      rw [gapRun_cov, Bool.and_eq_true, decide_eq_true_eq, Bool.not_eq_true', decide_eq_false_iff_not]
      omega
    · refine ⟨((2 * (((y / 2).toNat : Nat) : Int) + 1, 2 * (((y / 2).toNat : Nat) : Int) + 2, [((0, 2 * (w : Int)) : Run)]) : Band), List.mem_flatMap.2 ⟨(y / 2).toNat, List.mem_range.2 (by omega), by simp⟩, ⟨by simp only; omega, by simp only; omega⟩, ?_⟩
      simp only
      rw [covL_iff]
      exact ⟨_, List.mem_singleton.2 rfl, by simp only; omega, by simp only; omega⟩
end Go.Proofs.Ytogbocplojbdjaa
