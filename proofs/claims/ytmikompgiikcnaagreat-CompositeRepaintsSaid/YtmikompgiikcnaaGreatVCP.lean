/-
  A part of the proof: what some of the program's functions compute.
-/
import Derived.Test.YtmikompgiikcnaaGreatVCC
namespace Go.Proofs.YtmikompgiikcnaaGreat
open Go Go.E Go.Proofs
set_option linter.unusedVariables false
set_option linter.unusedSimpArgs false
def paintL (P : Int → Int → Bool) (f : Int → Int → Pix) (X Y w : Int) (px : List Pix) : List Pix :=
  px.mapIdx fun j v => if P (X + (j : Int) % w) (Y + (j : Int) / w) = true then f (X + (j : Int) % w) (Y + (j : Int) / w) else v
theorem paintL_len (P : Int → Int → Bool) (f : Int → Int → Pix) (X Y w : Int) (px : List Pix) : (paintL P f X Y w px).length = px.length := by simp [paintL]
theorem paintL_get (P : Int → Int → Bool) (f : Int → Int → Pix) (X Y w : Int) (px : List Pix) (j : Nat) : (paintL P f X Y w px)[j]? = px[j]?.map fun v => if P (X + (j : Int) % w) (Y + (j : Int) / w) = true then f (X + (j : Int) % w) (Y + (j : Int) / w) else v := by
  simp [paintL]
theorem paintL_none {P : Int → Int → Bool} (f : Int → Int → Pix) {X Y w : Int} {px : List Pix} (h : ∀ j : Nat, j < px.length → P (X + (j : Int) % w) (Y + (j : Int) / w) = false) : paintL P f X Y w px = px := by
  apply List.ext_getElem?
  intro j
  rw [paintL_get]
  by_cases hj : j < px.length
  · rw [List.getElem?_eq_getElem hj]
    simp [h j hj]
  · rw [List.getElem?_eq_none (by omega)]
    rfl
theorem paintL_congr {P Q : Int → Int → Bool} {f g : Int → Int → Pix} {X Y w : Int} {px : List Pix} (h : ∀ j : Nat, j < px.length → P (X + (j : Int) % w) (Y + (j : Int) / w) = Q (X + (j : Int) % w) (Y + (j : Int) / w))
    (hf : ∀ j : Nat, j < px.length → f (X + (j : Int) % w) (Y + (j : Int) / w) = g (X + (j : Int) % w) (Y + (j : Int) / w)) : paintL P f X Y w px = paintL Q g X Y w px := by
  apply List.ext_getElem?
  intro j
  rw [paintL_get, paintL_get]
  by_cases hj : j < px.length
  · rw [h j hj, hf j hj]
  · rw [List.getElem?_eq_none (by omega)]
    rfl
theorem cell_at {X Y w x y : Int} {j : Nat} (hw : 0 < w) (hx : X ≤ x ∧ x < X + w) (hy : Y ≤ y) : (X + (j : Int) % w = x ∧ Y + (j : Int) / w = y) ↔ (j : Int) = (y - Y) * w + x - X := by
  constructor
  · rintro ⟨h1, h2⟩
    have := Int.mul_ediv_add_emod (j : Int) w
    have e : (j : Int) / w = y - Y := by omega
    rw [e, Int.mul_comm] at this
    omega
  · intro h
    have e : (j : Int) = (x - X) + w * (y - Y) := by rw [h, Int.mul_comm]; omega
    rw [e]
    rw [Int.add_mul_emod_self_left, Int.add_mul_ediv_left _ _ (by omega), Int.emod_eq_of_lt (by omega) (by omega), Int.ediv_eq_zero_of_lt (by omega) (by omega)]
    omega
theorem paintL_set {P : Int → Int → Bool} {f : Int → Int → Pix} {X Y w x y : Int} {px : List Pix} (hw : 0 < w) (hx : X ≤ x ∧ x < X + w) (hy : Y ≤ y) (h0 : 0 ≤ (y - Y) * w + x - X) :
    (paintL P f X Y w px).set ((y - Y) * w + x - X).toNat (f x y) = paintL (fun a b => P a b || (a == x && b == y)) f X Y w px := by
  apply List.ext_getElem?
  intro j
  rw [List.getElem?_set, paintL_get, paintL_get, paintL_len]
  have hc := cell_at (j := j) hw hx hy
  by_cases hj : ((y - Y) * w + x - X).toNat = j
  · have h1 := hc.2 (by omega)
    rw [h1.1, h1.2]
    simp only [hj, if_true, beq_self_eq_true, Bool.and_self, Bool.or_true]
    by_cases hl : j < px.length
    · rw [List.getElem?_eq_getElem hl]
      simp [hl]
    · rw [List.getElem?_eq_none (by omega)]
      simp [hl]
  · rw [if_neg hj]
    have h1 : ¬ (X + (j : Int) % w = x ∧ Y + (j : Int) / w = y) := fun h => hj (by have := hc.1 h; omega)
    congr 1
    funext v
    have h2 : (X + (j : Int) % w == x && Y + (j : Int) / w == y) = false := by
      rw [← Bool.not_eq_true, Bool.and_eq_true, beq_iff_eq, beq_iff_eq]
      exact h1
    rw [h2, Bool.or_false]
def doneP (A0 A1 B0 x y : Int) (a b : Int) : Bool := (decide (A0 ≤ a ∧ a < A1) && decide (B0 ≤ b ∧ b < y)) || (decide (A0 ≤ a ∧ a < x) && b == y)
theorem paintL_done {f : Int → Int → Pix} {X Y w A0 A1 B0 x y : Int} {px : List Pix} (hw : 0 < w) (hx : X ≤ x ∧ x < X + w) (hy : Y ≤ y) (h0 : 0 ≤ (y - Y) * w + x - X) (hA : A0 ≤ x) :
    (paintL (doneP A0 A1 B0 x y) f X Y w px).set ((y - Y) * w + x - X).toNat (f x y) = paintL (doneP A0 A1 B0 (x + 1) y) f X Y w px := by
  rw [paintL_set hw hx hy h0]
  apply paintL_congr _ (fun _ _ => rfl)
  intro j _
  generalize X + (j : Int) % w = a
  generalize Y + (j : Int) / w = b
  rw [Bool.eq_iff_iff]
  simp only [doneP, Bool.or_eq_true, Bool.and_eq_true, decide_eq_true_eq, beq_iff_eq]
  omega
theorem doneP_row {A0 A1 B0 y a b : Int} (hB : B0 ≤ y) (hA : A0 ≤ A1) : doneP A0 A1 B0 A1 y a b = doneP A0 A1 B0 A0 (y + 1) a b := by
  rw [Bool.eq_iff_iff]
  simp only [doneP, Bool.or_eq_true, Bool.and_eq_true, decide_eq_true_eq, beq_iff_eq]
  omega
theorem doneP_none {A0 A1 B0 a b : Int} : doneP A0 A1 B0 A0 B0 a b = false := by
  rw [← Bool.not_eq_true]
  simp only [doneP, Bool.or_eq_true, Bool.and_eq_true, decide_eq_true_eq, beq_iff_eq]
  omega
theorem doneP_all {A0 A1 B0 B1 a b : Int} : doneP A0 A1 B0 A0 B1 a b = (decide (A0 ≤ a ∧ a < A1) && decide (B0 ≤ b ∧ b < B1)) := by
  rw [Bool.eq_iff_iff]
  simp only [doneP, Bool.or_eq_true, Bool.and_eq_true, decide_eq_true_eq, beq_iff_eq]
  omega
def cells (f : Int → Int → Pix) (X Y w : Int) (n : Nat) : List Pix := (List.range n).map fun (j : Nat) => f (X + (j : Int) % w) (Y + (j : Int) / w)
theorem cells_len (f : Int → Int → Pix) (X Y w : Int) (n : Nat) : (cells f X Y w n).length = n := by simp [cells]
theorem cells_succ {f : Int → Int → Pix} {X Y w x y : Int} {n : Nat} (hw : 0 < w) (hx : X ≤ x ∧ x < X + w) (hy : Y ≤ y) (hn : (n : Int) = (y - Y) * w + x - X) : cells f X Y w n ++ [f x y] = cells f X Y w (n + 1) := by
  have h := (cell_at (j := n) hw hx hy).2 hn
  simp only [cells, List.range_succ, List.map_append, List.map_cons, List.map_nil, h.1, h.2]
theorem cells_get {f : Int → Int → Pix} {X Y w : Int} {n j : Nat} (h : j < n) : (cells f X Y w n)[j]? = some (f (X + (j : Int) % w) (Y + (j : Int) / w)) := by
  simp [cells, h]
theorem paint_all {P : Int → Int → Bool} {f : Int → Int → Pix} {X Y w : Int} {px : List Pix} (h : ∀ j : Nat, j < px.length → P (X + (j : Int) % w) (Y + (j : Int) / w) = true) : paintL P f X Y w px = cells f X Y w px.length := by
  apply List.ext_getElem?
  intro j
  rw [paintL_get]
  by_cases hj : j < px.length
  · rw [cells_get hj, List.getElem?_eq_getElem hj]
    simp [h j hj]
  · rw [List.getElem?_eq_none (by omega), List.getElem?_eq_none (by rw [cells_len]; omega)]
    rfl
theorem cell_in {X Y w h : Int} {j : Nat} (hw : 0 < w) (hj : (j : Int) < w * h) : (X ≤ X + (j : Int) % w ∧ X + (j : Int) % w < X + w) ∧ Y ≤ Y + (j : Int) / w ∧ Y + (j : Int) / w < Y + h := by
  have h1 := Int.emod_nonneg (j : Int) (show w ≠ 0 by omega)
  have h2 := Int.emod_lt_of_pos (j : Int) hw
  have h3 := Int.ediv_nonneg (show 0 ≤ (j : Int) by omega) (show 0 ≤ w by omega)
  have h4 : (j : Int) / w < h := Int.ediv_lt_of_lt_mul hw (by rw [Int.mul_comm]; exact hj)
  omega
theorem wrap_u8 (n : Int) : IntKind.u8.wrap n = n % 256 := by
  simp only [IntKind.wrap, IntKind.bits, IntKind.signed]
  simp
def pixIn (p : Pix) : Prop := (0 ≤ p.1 ∧ p.1 ≤ 255) ∧ (0 ≤ p.2.1 ∧ p.2.1 ≤ 255) ∧ (0 ≤ p.2.2.1 ∧ p.2.2.1 ≤ 255) ∧ 0 ≤ p.2.2.2 ∧ p.2.2.2 ≤ 255
theorem prod_zero (a : Int) (h : 0 ≤ a ∧ a ≤ 255) : prodU a 0 = 0 := by
  unfold prodU
  rw [wrap_in (n := a) (by omega), wrap_in (n := 0) (by omega), Int.mul_zero, wrap_in (n := 0) (by omega), wrap_in (n := 0 + 127) (by omega), wrap_u8]
  decide
theorem prod_full (a : Int) (h : 0 ≤ a ∧ a ≤ 255) : prodU a 255 = a := by
  unfold prodU
  rw [wrap_in (n := a) (by omega), wrap_in (n := 255) (by omega), wrap_in (n := a * 255) (by omega), wrap_in (n := a * 255 + 127) (by omega), Int.tdiv_eq_ediv_of_nonneg (by omega), wrap_in (by omega), wrap_u8]
  omega
theorem prod_full' (a : Int) (h : 0 ≤ a ∧ a ≤ 255) : prodU 255 a = a := by
  unfold prodU
  rw [wrap_in (n := a) (by omega), wrap_in (n := 255) (by omega), wrap_in (n := 255 * a) (by omega), wrap_in (n := 255 * a + 127) (by omega), Int.tdiv_eq_ediv_of_nonneg (by omega), wrap_in (by omega), wrap_u8]
  omega
theorem prod_in (a b : Int) : 0 ≤ prodU a b ∧ prodU a b ≤ 255 := by
  unfold prodU
  rw [wrap_u8]
  omega
theorem clamp_in {p : Pix} (h : pixIn p) : pixIn (clampP p) := by
  obtain ⟨h1, h2, h3, h4⟩ := h
  unfold clampP
  exact ⟨by simp only; omega, by simp only; omega, by simp only; omega, h4⟩
def opaqueP (p : Pix) : Prop := pixIn p ∧ p.2.2.2 = 255
theorem clamp_full {p : Pix} (h : opaqueP p) : clampP p = p := by
  obtain ⟨r, g, b, a⟩ := p
  obtain ⟨⟨h1, h2, h3, h4⟩, h5⟩ := h
  simp only at h1 h2 h3 h4 h5
  subst h5
  show (min r 255, min g 255, min b 255, (255 : Int)) = (r, g, b, 255)
  rw [Int.min_eq_left h1.2, Int.min_eq_left h2.2, Int.min_eq_left h3.2]
theorem over_opaque {s d : Pix} (hs : pixIn s) (hd : opaqueP d) : opaqueP (overP s d) := by
  have hc := clamp_full hd
  obtain ⟨r, g, b, a⟩ := s
  obtain ⟨h1, h2, h3, h4⟩ := hs
  simp only at h1 h2 h3 h4
  unfold overP scaleP
  rw [hc]
  simp only [wrap_u8]
  rw [show (255 - a) % 256 = 255 - a by omega, hd.2, prod_full' _ (by omega)]
  refine ⟨⟨?_, ?_, ?_, ?_⟩, ?_⟩ <;> simp only <;> omega
theorem over_hides {s d e : Pix} (hs : s.2.2.2 = 255) (hd : pixIn d) (he : pixIn e) : overP s d = overP s e := by
  obtain ⟨d1, d2, d3, d4⟩ := clamp_in hd
  obtain ⟨e1, e2, e3, e4⟩ := clamp_in he
  unfold overP scaleP
  rw [hs]
  rw [show IntKind.u8.wrap (255 - 255) = 0 by rw [wrap_u8]; rfl]
  rw [prod_zero _ d1, prod_zero _ d2, prod_zero _ d3, prod_zero _ d4, prod_zero _ e1, prod_zero _ e2, prod_zero _ e3, prod_zero _ e4]
theorem over_zero {d : Pix} (hd : opaqueP d) : overP (0, 0, 0, 0) d = d := by
  have hc := clamp_full hd
  obtain ⟨r, g, b, a⟩ := d
  obtain ⟨⟨h1, h2, h3, h4⟩, h5⟩ := hd
  simp only at h1 h2 h3 h4 h5
  unfold overP scaleP
  rw [hc]
  simp only [clampP, wrap_u8, Int.min_self, Int.zero_add]
  rw [show (255 - 0 : Int) % 256 = 255 by rfl, prod_full _ h1, prod_full _ h2, prod_full _ h3, prod_full _ h4]
  simp only [Prod.mk.injEq]
  omega
theorem isCan_region {l : List Rect} (h : isCan l = true) : l.length ≤ 256 ∧ Region l := by
  rw [isCan, Bool.and_eq_true, decide_eq_true_eq] at h
  have e : combinedL l [] 1 = l := of_decide_eq_true h.2
  refine ⟨by omega, ?_⟩
  rw [← e]
  exact combined_region _ _ _
theorem region_nil : Region [] := ⟨[], rfl, canonB_nil, fun b hb => by cases hb⟩
theorem lim_zero {xs : List Rect} (h : limE xs = 0) : limL xs = xs := by
  unfold limE at h
  unfold limL
  split at h
  · rename_i hh
    rw [if_pos hh]
  · exact absurd h (by decide)
theorem lim_few {xs : List Rect} (h : xs.length ≤ 256) : limE xs = 0 ∧ limL xs = xs := by
  unfold limE limL
  rw [if_pos h, if_pos h]
  exact ⟨rfl, rfl⟩
theorem mode_two (a b : Bool) : modeB 2 a b = (a && b) := by cases a <;> cases b <;> rfl
theorem mode_three (a b : Bool) : modeB 3 a b = (a && !b) := by cases a <;> cases b <;> rfl
theorem within_inside (i : Item) (l : List Rect) : withinL l (0, 0, i.2.2.2.2.1.1, i.2.2.2.2.1.2.1) = insideQ i l := by
  unfold withinL insideQ
  by_cases hc : isCan l = true
  · obtain ⟨h256, hr⟩ := isCan_region hc
    rw [hc, Bool.true_and, Bool.true_and, Bool.eq_iff_iff]
    simp only [Bool.and_eq_true, beq_iff_eq, sameRects, decide_eq_true_eq]
    have k3 := contains5_combined l [(0, 0, i.2.2.2.2.1.1, i.2.2.2.2.1.2.1)] 3
    have k2 := contains5_combined l [(0, 0, i.2.2.2.2.1.1, i.2.2.2.2.1.2.1)] 2
    constructor
    · rintro ⟨h1, h2⟩
      rw [lim_zero h1] at h2
      have h3 := List.eq_nil_of_length_eq_zero h2
      have h4 : cutL i l = l := combined_is hr fun x y => by
        have h5 := k3 x y
        rw [h3, mode_three] at h5
        rw [mode_two]
        have h5 : false = (contains5 l x y && !contains5 [(0, 0, i.2.2.2.2.1.1, i.2.2.2.2.1.2.1)] x y) := h5
        revert h5
        cases contains5 l x y <;> cases contains5 [(0, 0, i.2.2.2.2.1.1, i.2.2.2.2.1.2.1)] x y <;> simp
      rw [h4]
      exact ⟨(lim_few h256).1, (lim_few h256).2.symm⟩
    · rintro ⟨h1, h2⟩
      rw [lim_zero h1] at h2
      have h4 : combinedL l [(0, 0, i.2.2.2.2.1.1, i.2.2.2.2.1.2.1)] 3 = [] := combined_is region_nil fun x y => by
        have h5 := k2 x y
        rw [show combinedL l [(0, 0, i.2.2.2.2.1.1, i.2.2.2.2.1.2.1)] 2 = l from h2.symm, mode_two] at h5
        rw [mode_three]
        show false = (contains5 l x y && !contains5 [(0, 0, i.2.2.2.2.1.1, i.2.2.2.2.1.2.1)] x y)
        revert h5
        cases contains5 l x y <;> cases contains5 [(0, 0, i.2.2.2.2.1.1, i.2.2.2.2.1.2.1)] x y <;> simp
      rw [h4]
      exact ⟨rfl, rfl⟩
  · rw [Bool.not_eq_true] at hc
    rw [hc]
    simp
theorem zeroR_iff (r : Rect) : zeroR r = true ↔ r = (0, 0, 0, 0) := by
  obtain ⟨a, b, c, d⟩ := r
  simp [zeroR]
theorem good_is (i : Item) : refGood i = itemGood i := by
  unfold refGood itemGood
  rcases areaI_cases i with h | ⟨h, h1, h2, h3, h4, h5⟩
  · have hb : boundsI i = (0, 0, 0, 0) := by rw [boundsI, if_pos h]
    rw [(zeroR_iff _).2 hb, (zeroR_iff _).2 h]
    simp
  · have hn : ¬ areaI i = (0, 0, 0, 0) := by
      rw [h]
      intro e
      injection e with _ e
      injection e with _ e
      injection e with e _
      omega
    have hb : zeroR (boundsI i) = false := by
      rw [← Bool.not_eq_true, zeroR_iff, boundsI, if_neg hn, h]
      intro e
      injection e with e1 e
      injection e with e2 e
      injection e with e3 _
      simp only at e1 e3
      omega
    have ha : zeroR (areaI i) = false := by
      rw [← Bool.not_eq_true, zeroR_iff]
      exact hn
    rw [hb, ha, h, within_inside, within_inside]
theorem ok_is (l : List Item) : refOk l = sceneOk l := by
  rw [refOk, sceneOk, show refGood = itemGood from funext good_is]
theorem ok_sub {a b : List Item} (h : a.Sublist b) (hb : sceneOk b = true) : sceneOk a = true := by
  rw [sceneOk, Bool.and_eq_true, Bool.and_eq_true, decide_eq_true_eq, decide_eq_true_eq] at *
  refine ⟨by have := h.length_le; omega, ?_, (h.map _).nodup hb.2.2⟩
  rw [List.all_eq_true] at *
  exact fun x hx => hb.2.1 x (h.subset hx)
structure ItemIn (i : Item) : Prop where
  bounds : boundsI i = (i.2.2.1, i.2.2.2.1, i.2.2.1 + i.2.2.2.2.1.1, i.2.2.2.1 + i.2.2.2.2.1.2.1)
  w : 1 ≤ i.2.2.2.2.1.1 ∧ i.2.2.2.2.1.1 ≤ 256
  h : 1 ≤ i.2.2.2.2.1.2.1 ∧ i.2.2.2.2.1.2.1 ≤ 256
  x : -16384 ≤ i.2.2.1 ∧ i.2.2.1 ≤ 16128
  y : -16384 ≤ i.2.2.2.1 ∧ i.2.2.2.1 ≤ 16128
  len : (i.2.2.2.2.1.2.2.length : Int) = i.2.2.2.2.1.1 * i.2.2.2.2.1.2.1
theorem good_in {i : Item} (hg : itemGood i = true) : ItemIn i := by
  unfold itemGood at hg
  simp only [Bool.not_eq_true', Bool.or_eq_false_iff] at hg
  have hz := hg.1.1.2
  rcases areaI_cases i with h | ⟨h, h1, h2, h3, h4, h5, h6, h7, h8⟩
  · rw [(zeroR_iff _).2 h] at hz
    cases hz
  · have hn : ¬ areaI i = (0, 0, 0, 0) := by
      rw [← zeroR_iff, hz]
      simp
    refine ⟨by rw [boundsI, if_neg hn, h], ⟨h1, h2⟩, ⟨h3, h4⟩, ⟨h5, h6⟩, ⟨h7, h8⟩, ?_⟩
    unfold areaI at hn
    split at hn
    · rename_i hh
      rw [Bool.and_eq_true, bufOk] at hh
      have := hh.1
      simp only [Bool.and_eq_true, decide_eq_true_eq] at this
      exact this.1.2
    · exact absurd rfl hn
theorem scene_in {l : List Item} (h : sceneOk l = true) : ∀ i ∈ l, ItemIn i := by
  intro i hi
  rw [sceneOk, Bool.and_eq_true, Bool.and_eq_true] at h
  exact good_in (List.all_eq_true.1 h.2.1 i hi)
theorem item_paint {i : Item} (h : ItemIn i) : LayOk (layerOf i) := by
  obtain ⟨hb, hw, hh, hx, hy, hl⟩ := h
  refine ⟨?_, ?_, ?_, ?_, ?_⟩ <;> simp only [layerOf, hb]
  · omega
  · omega
  · omega
  · omega
  · rw [hl]
    congr 1 <;> omega
theorem scene_paint {l : List Item} (h : sceneOk l = true) (bg : Pix) : PaintOk (l.map layerOf, bg) := by
  refine ⟨by have := scene_len h; simp; omega, fun i hi => ?_⟩
  obtain ⟨j, hj, rfl⟩ := List.mem_map.1 hi
  exact item_paint (scene_in h j hj)
theorem prep_paint (l : List Item) (bg : Pix) : PaintOk (prepP l bg) := by
  unfold prepP
  split
  · exact ⟨by simp, fun i hi => by cases hi⟩
  · rename_i hb
    exact scene_paint (bad_false.1 (by simpa using hb)).2 bg
end Go.Proofs.YtmikompgiikcnaaGreat
