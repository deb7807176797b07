/-
  A part of the proof: what some of the program's functions compute.
-/
import Derived.Test.YtogbocplojbdjaaVPC
namespace Go.Proofs.Ytogbocplojbdjaa
open Go Go.E Go.Proofs
set_option linter.unusedVariables false
set_option linter.unusedSimpArgs false
def side : Nat := 32768
theorem side_is : (side : Int) = 32768 := rfl
def cntP (p : Int → Bool) : Nat → Nat
  | 0 => 0
  | n + 1 => cntP p n + if p ((n : Int) - 16384) = true then 1 else 0
def dblP (p : Int → Int → Bool) : Nat → Nat
  | 0 => 0
  | n + 1 => dblP p n + cntP (fun x => p x ((n : Int) - 16384)) side
theorem cnt_congr {p q : Int → Bool} (h : ∀ x, p x = q x) : ∀ n, cntP p n = cntP q n
  | 0 => rfl
  | n + 1 => by simp only [cntP, cnt_congr h n, h]
theorem dbl_congr {p q : Int → Int → Bool} (h : ∀ x y, p x y = q x y) : ∀ n, dblP p n = dblP q n
  | 0 => rfl
  | n + 1 => by simp only [dblP, dbl_congr h n, cnt_congr (fun x => h x _)]
theorem cnt_add (p q : Int → Bool) : ∀ n, cntP (fun x => p x || q x) n + cntP (fun x => p x && q x) n = cntP p n + cntP q n
  | 0 => rfl
  | n + 1 => by
    have ih := cnt_add p q n
    simp only [cntP]
    by_cases h1 : p ((n : Int) - 16384) = true <;> by_cases h2 : q ((n : Int) - 16384) = true <;> simp [h1, h2] <;> omega
theorem dbl_add (p q : Int → Int → Bool) : ∀ n, dblP (fun x y => p x y || q x y) n + dblP (fun x y => p x y && q x y) n = dblP p n + dblP q n
  | 0 => rfl
  | n + 1 => by
    have ih := dbl_add p q n
    have := cnt_add (fun x => p x ((n : Int) - 16384)) (fun x => q x ((n : Int) - 16384)) side
    simp only [dblP]
    omega
theorem cnt_false : ∀ n, cntP (fun _ => false) n = 0
  | 0 => rfl
  | n + 1 => by simp [cntP, cnt_false n]
theorem dbl_false : ∀ n, dblP (fun _ _ => false) n = 0
  | 0 => rfl
  | n + 1 => by simp [dblP, dbl_false n, cnt_false]
theorem cnt_hit (p : Run) (h0 : -16384 ≤ p.1) (h1 : p.1 < p.2) : ∀ n : Nat, (cntP (fun x => hitP x p) n : Int) = min (max ((n : Int) - 16384 - p.1) 0) (p.2 - p.1)
  | 0 => by simp only [cntP]; omega
  | n + 1 => by
    have ih := cnt_hit p h0 h1 n
    simp only [cntP]
    by_cases hc : p.1 ≤ (n : Int) - 16384 ∧ (n : Int) - 16384 < p.2
    · rw [if_pos (hitP_iff.2 hc)]
      omega
    · rw [if_neg (fun h => hc (hitP_iff.1 h))]
      omega
def widthL : List Run → Int
  | [] => 0
  | p :: r => (p.2 - p.1) + widthL r
theorem cnt_cov : ∀ {l : List Run}, Canon l → (∀ r ∈ l, inB r.1 ∧ inB r.2) → (cntP (covL l) side : Int) = widthL l
  | [], _, _ => by
    have : cntP (covL []) side = 0 := cnt_false side
    rw [this]
    rfl
  | p :: l, hc, hb => by
    obtain ⟨c, d, e⟩ := canon_cons hc
    have ih := cnt_cov c fun r hr => hb r (List.mem_cons_of_mem _ hr)
    obtain ⟨b1, b2⟩ := hb p (List.mem_cons_self ..)
    have h1 := cnt_add (fun x => hitP x p) (covL l) side
    have h2 : cntP (fun x => hitP x p && covL l x) side = 0 := by
      rw [cnt_congr (q := fun _ => false) fun x => ?_]
      · exact cnt_false side
      · rw [Bool.eq_false_iff]
        intro h
        rw [Bool.and_eq_true, hitP_iff, covL_iff] at h
        obtain ⟨⟨_, h3⟩, r, hr, h4, _⟩ := h
        have := d r hr
        omega
    have h3 : cntP (covL (p :: l)) side = cntP (fun x => hitP x p || covL l x) side := cnt_congr (fun x => by unfold covL; rw [List.any_cons]) _
    have h4 := cnt_hit p b1.1 e side
    unfold inB at b2
    have := side_is
    rw [h3]
    simp only [widthL]
    rw [← ih]
    omega
theorem width_nonneg : ∀ {l : List Run}, Canon l → 0 ≤ widthL l
  | [], _ => by simp [widthL]
  | p :: l, hc => by
    obtain ⟨c, d, e⟩ := canon_cons hc
    have := width_nonneg c
    simp only [widthL]
    omega
theorem dbl_band (b : Band) (hc : Canon b.2.2) (hb : ∀ r ∈ b.2.2, inB r.1 ∧ inB r.2) : ∀ n, (dblP (fun x y => hitP y (b.1, b.2.1) && covL b.2.2 x) n : Int) = (cntP (fun y => hitP y (b.1, b.2.1)) n : Int) * widthL b.2.2
  | 0 => by simp [dblP, cntP]
  | n + 1 => by
    have ih := dbl_band b hc hb n
    simp only [dblP, cntP]
    by_cases h : hitP ((n : Int) - 16384) (b.1, b.2.1) = true
    · have := cnt_cov hc hb
      have e : cntP (fun x => hitP ((n : Int) - 16384) (b.1, b.2.1) && covL b.2.2 x) side = cntP (covL b.2.2) side := cnt_congr (fun x => by rw [h, Bool.true_and]) _
      rw [e, if_pos h]
      push_cast
      rw [ih, this, Int.add_mul]
      omega
    · have e : cntP (fun x => hitP ((n : Int) - 16384) (b.1, b.2.1) && covL b.2.2 x) side = 0 := by
        rw [cnt_congr (q := fun _ => false) fun x => ?_]
        · exact cnt_false _
        · rw [Bool.not_eq_true] at h
          rw [h, Bool.false_and]
      rw [e, if_neg h]
      simpa using ih
def areaB : List Band → Int
  | [] => 0
  | b :: r => (b.2.1 - b.1) * widthL b.2.2 + areaB r
theorem dbl_bands : ∀ {l : List Band}, CanonB l → bordB l → (dblP (ptB l) side : Int) = areaB l
  | [], _, _ => by
    have : dblP (ptB []) side = 0 := dbl_false side
    rw [this]
    rfl
  | b :: l, hc, hb => by
    obtain ⟨c, d, e1, e2, e3⟩ := canonB_cons hc
    have ih := dbl_bands c fun x hx => hb x (List.mem_cons_of_mem _ hx)
    obtain ⟨b1, b2, b3⟩ := hb b (List.mem_cons_self ..)
    have h1 := dbl_add (fun x y => hitP y (b.1, b.2.1) && covL b.2.2 x) (ptB l) side
    have h2 : dblP (fun x y => (hitP y (b.1, b.2.1) && covL b.2.2 x) && ptB l x y) side = 0 := by
      rw [dbl_congr (q := fun _ _ => false) fun x y => ?_]
      · exact dbl_false side
      · rw [Bool.eq_false_iff]
        intro h
        rw [Bool.and_eq_true, Bool.and_eq_true, hitP_iff, ptB_iff] at h
        obtain ⟨⟨⟨_, h3⟩, _⟩, z, hz, ⟨h4, _⟩, _⟩ := h
        have := d z hz
        simp only at h3
        omega
    have h3 : dblP (ptB (b :: l)) side = dblP (fun x y => (hitP y (b.1, b.2.1) && covL b.2.2 x) || ptB l x y) side := dbl_congr (fun x y => by unfold ptB; rw [List.any_cons]) _
    have h4 := dbl_band b e1 b3 side
    have h5 := cnt_hit (b.1, b.2.1) b1.1 e3 side
    unfold inB at b2
    have := side_is
    have h6 : (cntP (fun y => hitP y (b.1, b.2.1)) side : Int) = b.2.1 - b.1 := by
      rw [h5]
      simp only
      omega
    rw [h6] at h4
    rw [h3]
    simp only [areaB]
    rw [← ih, ← h4]
    omega
def areaOne (r : Rect) : Int := (r.2.2.1 - r.1) * (r.2.2.2 - r.2.1)
def areaL : List Rect → Int
  | [] => 0
  | r :: l => areaOne r + areaL l
theorem areaL_append : ∀ (a b : List Rect), areaL (a ++ b) = areaL a + areaL b
  | [], b => by simp [areaL]
  | r :: a, b => by
    simp only [List.cons_append, areaL, areaL_append a b]
    omega
theorem areaL_rects : ∀ l : List Band, areaL (rectsB l) = areaB l
  | [] => rfl
  | b :: l => by
    have ih := areaL_rects l
    have h1 : rectsB (b :: l) = rectsB1 b ++ rectsB l := by unfold rectsB; rw [List.flatMap_cons]
    have h2 : ∀ rs : List Run, areaL (rs.map fun r => ((r.1, b.1, r.2, b.2.1) : Rect)) = (b.2.1 - b.1) * widthL rs := by
      intro rs
      induction rs with
      | nil => simp [areaL, widthL]
      | cons p rs ih =>
        simp only [List.map_cons, areaL, widthL, ih, areaOne]
        rw [Int.mul_add, Int.mul_comm (p.2 - p.1)]
    rw [h1, areaL_append, ih]
    simp only [areaB, rectsB1, h2]
theorem area_is {l : List Rect} (h : Region l) : areaL l = (dblP (contains5 l) side : Int) := by
  obtain ⟨bs, rfl, hc, hb⟩ := h
  rw [areaL_rects, ← dbl_bands hc hb]
  rw [dbl_congr (fun x y => (contains5_rectsB hb x y).symm) side]
theorem area_split {a b c d : List Rect} (ha : Region a) (hb : Region b) (hc : Region c) (hd : Region d) (h1 : ∀ x y, contains5 a x y = (contains5 c x y || contains5 d x y)) (h2 : ∀ x y, contains5 b x y = (contains5 c x y && contains5 d x y)) : areaL a + areaL b = areaL c + areaL d := by
  rw [area_is ha, area_is hb, area_is hc, area_is hd, dbl_congr h1, dbl_congr h2]
  have := dbl_add (contains5 c) (contains5 d) side
  omega
theorem areaL_nonneg {l : List Rect} (h : Region l) : 0 ≤ areaL l := by
  rw [area_is h]
  exact Int.natCast_nonneg _
end Go.Proofs.Ytogbocplojbdjaa
