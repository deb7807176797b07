/-
  A part of the proof: what some of the program's functions compute.
-/
import Derived.Test.YtmikompgiikcnaaGreatVCW2
namespace Go.Proofs.YtmikompgiikcnaaGreat
open Go Go.E Go.Proofs
set_option linter.unusedVariables false
set_option linter.unusedSimpArgs false
theorem opaque_fold {x y : Int} : ∀ {ls : List Lay} {c : Pix}, (∀ i ∈ ls, LayOk i ∧ ∀ p ∈ i.2, pixIn p) → opaqueP c → opaqueP (ls.foldl (stepL x y) c)
  | [], c, _, h => h
  | i :: ls, c, hl, h => by
    rw [List.foldl_cons]
    refine opaque_fold (fun j hj => hl j (List.mem_cons_of_mem _ hj)) ?_
    unfold stepL
    split
    · rename_i hh
      obtain ⟨h1, h2⟩ := hl i (List.mem_cons_self ..)
      obtain ⟨_, g0, g1⟩ := idx_in h1 hh
      exact over_opaque (h2 _ (List.mem_of_getElem? (elemAt_get (t := PixT) i.2 _ (by omega)))) h
    · exact h
theorem lay_ok {l : List Item} (h : sceneOk l = true) (hp : PxOk l) : ∀ i ∈ l.map layerOf, LayOk i ∧ ∀ p ∈ i.2, pixIn p := by
  intro i hi
  obtain ⟨j, hj, rfl⟩ := List.mem_map.1 hi
  exact ⟨item_paint (scene_in h j hj), hp j hj⟩
theorem valid_check {l : List Item} {bg : Pix} {r : Rect} (h : validQ l (bg, r) = true) : (lightL l = true ∧ sceneOk l = true ∧ bg.2.2.2 = 255) ∧ checkE l bg r = 0 ∧ areaR r = (r.2.2.1 - r.1) * (r.2.2.2 - r.2.1) := by
  unfold validQ at h
  simp only [Bool.and_eq_true, beq_iff_eq, decide_eq_true_eq] at h
  obtain ⟨h1, h2, h3, h4, h5, h6, h7⟩ := h
  have he : emptyR r = false := by
    rw [← Bool.not_eq_true]
    intro he
    rw [areaR, canonR, if_pos he] at h4
    simp at h4
  have hr : rangeBad r = false := by
    rw [rangeBad, he, Bool.false_or, Bool.or_eq_false_iff, decide_eq_false_iff_not, decide_eq_false_iff_not]
    omega
  refine ⟨⟨h1, h2, h3⟩, ?_, by rw [areaR, canonR, if_neg (by simp [he])]⟩
  rw [checkE, if_neg (by simp [bad_false.2 ⟨h3, h2⟩]), if_neg (by simp [hr])]
theorem render_get {l : List Item} {bg : Pix} {r : Rect} (h : checkE l bg r = 0) {j : Nat} (hj : j < (renderB l bg r).2.2.length) :
    elemAt (t := PixT) (renderB l bg r).2.2 j = paintP (l.map layerOf, bg) (r.1 + (j : Int) % (r.2.2.1 - r.1)) (r.2.1 + (j : Int) / (r.2.2.1 - r.1)) := by
  have e := elemAt_get (t := PixT) _ _ hj
  rw [renderB, if_pos h] at e hj ⊢
  simp only [cells_len] at e hj ⊢
  rw [cells_get hj] at e
  injection e with e
  exact e.symm
theorem render_size {l : List Item} {bg : Pix} {r : Rect} (h : checkE l bg r = 0) : (renderB l bg r).1 = r.2.2.1 - r.1 ∧ (renderB l bg r).2.1 = r.2.2.2 - r.2.1 ∧ ((renderB l bg r).2.2.length : Int) = (r.2.2.1 - r.1) * (r.2.2.2 - r.2.1) ∧
    1 ≤ (r.2.2.1 - r.1) * (r.2.2.2 - r.2.1) ∧ (r.2.2.1 - r.1) * (r.2.2.2 - r.2.1) ≤ 65536 := by
  obtain ⟨hb, hr⟩ := check_zero h
  obtain ⟨h0, ⟨hx0, hy0⟩, hw, hh⟩ := range_ok hr
  have := mul_size (a := r.2.2.1 - r.1) (b := r.2.2.2 - r.2.1) (by simp [sizeOk]; omega) (by simp [sizeOk]; omega)
  rw [renderB, if_pos h]
  refine ⟨rfl, rfl, ?_, this⟩
  simp only [cells_len]
  omega
theorem cell_co {X Y w h i : Int} (hX : -20000 ≤ X ∧ X ≤ 20000) (hY : -20000 ≤ Y ∧ Y ≤ 20000) (hw : 1 ≤ w ∧ w ≤ 256) (hh : h ≤ 256) (hi : 0 ≤ i ∧ i < w * h) :
    i.tmod w = i % w ∧ IntKind.i64.wrap (i.tdiv w) = i / w ∧ IntKind.i64.wrap (X + i % w) = X + i % w ∧ IntKind.i64.wrap (Y + i / w) = Y + i / w ∧ (X ≤ X + i % w ∧ X + i % w < X + w) ∧ Y ≤ Y + i / w ∧ Y + i / w < Y + h := by
  have hc := cell_in (X := X) (Y := Y) (w := w) (h := h) (j := i.toNat) (by omega) (by omega)
  rw [Int.toNat_of_nonneg hi.1] at hc
  rw [Int.tmod_eq_emod_of_nonneg hi.1, Int.tdiv_eq_ediv_of_nonneg hi.1, wrap_in (n := i / w) (by omega), wrap_in (n := X + i % w) (by omega), wrap_in (n := Y + i / w) (by omega)]
  exact ⟨rfl, rfl, rfl, rfl, hc⟩
theorem pix_beq (p q : Pix) : (p.1 == q.1 && (p.2.1 == q.2.1 && (p.2.2.1 == q.2.2.1 && p.2.2.2 == q.2.2.2))) = decide (p = q) := by
  rw [Bool.eq_iff_iff]
  obtain ⟨p1, p2, p3, p4⟩ := p
  obtain ⟨q1, q2, q3, q4⟩ := q
  simp only [Bool.and_eq_true, beq_iff_eq, decide_eq_true_eq, Prod.mk.injEq]
theorem sub_from (l : List Item) (i : Int) : subList l i l.length = l.drop i.toNat := by simp [subList]
theorem sub_to (l : List Item) (i : Int) : subList l 0 i = l.take i.toNat := by simp [subList]
theorem pre_sub {a b : List Item} (h : a.Sublist b) (hb : ScPre b) : ScPre a :=
  ⟨⟨Nat.le_trans h.length_le hb.1.1, fun i hi => hb.1.2 i (h.subset hi)⟩, fun i hi => hb.2 i (h.subset hi)⟩
theorem pix_split {l : List Item} {n : Nat} (h : n < l.length) (x y : Int) (c : Pix) : (l.map layerOf).foldl (stepL x y) c =
    ((l.drop (n + 1)).map layerOf).foldl (stepL x y) (stepL x y (((l.take n).map layerOf).foldl (stepL x y) c) (layerOf (elemAt (t := ItemT) l n))) := by
  have e : l = l.take n ++ elemAt (t := ItemT) l n :: l.drop (n + 1) := by
    rw [← drop_item h, List.take_append_drop]
  conv => lhs; rw [e]
  rw [List.map_append, List.foldl_append, List.map_cons, List.foldl_cons]
theorem without_sub (l : List Item) (n : Nat) : (l.take n ++ l.drop (n + 1)).Sublist l := by
  have h : (l.take n ++ l.drop (n + 1)).Sublist (l.take n ++ l.drop n) := List.Sublist.append (List.Sublist.refl _) (by
    rw [← List.drop_drop]
    exact List.drop_sublist _ _)
  rwa [List.take_append_drop] at h
theorem black_in : opaqueP blackP := ⟨⟨by decide, by decide, by decide, by decide⟩, rfl⟩
theorem pixel_ok {l : List Item} (h : sceneOk l = true) {bg : Pix} (hb : bg.2.2.2 = 255) (x y : Int) : pixelL l bg x y = (l.map layerOf).foldl (stepL x y) bg := by
  rw [pixelL, if_neg (by simp [bad_false.2 ⟨hb, h⟩])]
  rfl
theorem take_opaque {l : List Item} (h : sceneOk l = true) (hp : PxOk l) (n : Nat) (x y : Int) : opaqueP (((l.take n).map layerOf).foldl (stepL x y) blackP) :=
  opaque_fold (fun i hi => lay_ok h hp i ((List.take_sublist n l).map layerOf |>.subset hi)) black_in
theorem hides_eq {l : List Item} (h : sceneOk l = true) (hp : PxOk l) {n : Nat} (hn : n < l.length) {x y : Int} (hh : hitL (layerOf (elemAt (t := ItemT) l n)).1 x y = true)
    (ha : (elemAt (t := PixT) (layerOf (elemAt (t := ItemT) l n)).2 (idxL (layerOf (elemAt (t := ItemT) l n)).1 x y).toNat).2.2.2 = 255) : pixelL l blackP x y = pixelL (l.drop n) (9, 8, 7, 255) x y := by
  rw [pixel_ok h rfl, pixel_ok (ok_sub (List.drop_sublist n l) h) rfl, pix_split hn, drop_item hn, List.map_cons, List.foldl_cons]
  congr 1
  rw [stepL, if_pos hh, stepL, if_pos hh]
  exact over_hides ha (take_opaque h hp n x y).1 ⟨by decide, by decide, by decide, by decide⟩
theorem without_eq {l : List Item} (h : sceneOk l = true) (hp : PxOk l) {n : Nat} (hn : n < l.length) {x y : Int}
    (hc : hitL (layerOf (elemAt (t := ItemT) l n)).1 x y = true → elemAt (t := PixT) (layerOf (elemAt (t := ItemT) l n)).2 (idxL (layerOf (elemAt (t := ItemT) l n)).1 x y).toNat = (0, 0, 0, 0)) :
    pixelL l blackP x y = pixelL (l.take n ++ l.drop (n + 1)) blackP x y := by
  rw [pixel_ok h rfl, pixel_ok (ok_sub (without_sub l n) h) rfl, pix_split hn, List.map_append, List.foldl_append]
  congr 1
  rw [stepL]
  split
  · rename_i hh
    rw [hc hh]
    exact over_zero (take_opaque h hp n x y)
  · rfl
theorem zero_beq (p : Pix) : (p.1 == 0 && (p.2.1 == 0 && (p.2.2.1 == 0 && p.2.2.2 == 0))) = decide (p = (0, 0, 0, 0)) := pix_beq p (0, 0, 0, 0)
theorem inter_in {d r : Rect} (h : emptyR (interQ d r) = false) : ((-16384 ≤ (interQ d r).1 ∧ (interQ d r).1 ≤ 16384) ∧ -16384 ≤ (interQ d r).2.1 ∧ (interQ d r).2.1 ≤ 16384) ∧ (r.1 ≤ (interQ d r).1 ∧ r.2.1 ≤ (interQ d r).2.1) ∧ ((interQ d r).2.2.1 ≤ r.2.2.1 ∧ (interQ d r).2.2.2 ≤ r.2.2.2) ∧ (interQ d r).1 < (interQ d r).2.2.1 ∧ (interQ d r).2.1 < (interQ d r).2.2.2 := by
  have h5 := (empty_iff _).1 h
  rcases inter_cases d r with ⟨hz, _⟩ | ⟨_, _, _, h4⟩
  · rw [hz] at h
    simp [emptyR] at h
  · rw [h4] at h5 ⊢
    simp only at h5 ⊢
    omega
theorem idx_size {X Y w h a b : Int} (hw : 1 ≤ w) (ha : X ≤ a ∧ a < X + w) (hb : Y ≤ b ∧ b < Y + h) : 0 ≤ (b - Y) * w + a - X ∧ (b - Y) * w + a - X + 1 ≤ w * h := by
  have m2 : (b - Y) * w ≤ (h - 1) * w := Int.mul_le_mul_of_nonneg_right (by omega) (by omega)
  have m3 : 0 ≤ (b - Y) * w := Int.mul_nonneg (by omega) (by omega)
  have m4 : (h - 1) * w = w * h - w := by rw [Int.sub_mul, Int.mul_comm, Int.one_mul]
  omega
theorem part_idx {r q : Rect} {m b : Int} (hx0 : -16384 ≤ r.1 ∧ r.1 ≤ 16384) (hy0 : -16384 ≤ r.2.1 ∧ r.2.1 ≤ 16384) (hw : 1 ≤ r.2.2.1 - r.1 ∧ r.2.2.1 - r.1 ≤ 256) (hh : 1 ≤ r.2.2.2 - r.2.1 ∧ r.2.2.2 - r.2.1 ≤ 256)
    (hq : -20000 ≤ q.1 ∧ q.1 ≤ 20000) (hm : 0 ≤ m ∧ m ≤ 256) (hb : r.2.1 ≤ b ∧ b < r.2.2.2) :
    IntKind.i64.wrap (IntKind.i64.wrap (IntKind.i64.wrap (IntKind.i64.wrap (IntKind.i64.wrap (b - r.2.1) * (r.2.2.1 - r.1)) + q.1) + m) - r.1) = (b - r.2.1) * (r.2.2.1 - r.1) + (q.1 + m) - r.1 := by
  have m0 := mul_range (p := b - r.2.1) (q := r.2.2.1 - r.1) (B := 256) (by omega) (by omega)
  rw [wrap_in (n := b - r.2.1) (by omega), wrap_in (n := (b - r.2.1) * (r.2.2.1 - r.1)) (by omega), wrap_in (n := (b - r.2.1) * (r.2.2.1 - r.1) + q.1) (by omega), wrap_in (n := (b - r.2.1) * (r.2.2.1 - r.1) + q.1 + m) (by omega), wrap_in (by omega)]
  omega
end Go.Proofs.YtmikompgiikcnaaGreat
