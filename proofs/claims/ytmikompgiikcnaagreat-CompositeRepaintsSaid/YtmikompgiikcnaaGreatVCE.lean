/-
  A part of the proof: what some of the program's functions compute.
-/
import Derived.Test.YtmikompgiikcnaaGreatVCD
namespace Go.Proofs.YtmikompgiikcnaaGreat
open Go Go.E Go.Proofs
set_option linter.unusedVariables false
set_option linter.unusedSimpArgs false
theorem range_ok {r : Rect} (h : rangeBad r = false) : emptyR r = false ∧ ((-16384 ≤ r.1 ∧ r.1 ≤ 16384) ∧ (-16384 ≤ r.2.1 ∧ r.2.1 ≤ 16384)) ∧ (1 ≤ r.2.2.1 - r.1 ∧ r.2.2.1 - r.1 ≤ 256) ∧ 1 ≤ r.2.2.2 - r.2.1 ∧ r.2.2.2 - r.2.1 ≤ 256 := by
  rw [rangeBad, Bool.or_eq_false_iff, Bool.or_eq_false_iff, decide_eq_false_iff_not, decide_eq_false_iff_not] at h
  obtain ⟨h1, h2, h3⟩ := h
  have h0 := h1
  rw [emptyR, Bool.or_eq_false_iff, Bool.or_eq_false_iff, decide_eq_false_iff_not, decide_eq_false_iff_not, Bool.not_eq_false'] at h1
  obtain ⟨⟨g1, g2⟩, g3⟩ := h1
  simp only [validR, coordOk, Bool.and_eq_true, decide_eq_true_eq] at g1
  rw [wrap_in (by omega)] at h2
  rw [wrap_in (by omega)] at h3
  refine ⟨h0, ?_⟩
  omega
theorem empty_iff (r : Rect) : emptyR r = false ↔ ((-16384 ≤ r.1 ∧ r.1 ≤ 16384) ∧ (-16384 ≤ r.2.1 ∧ r.2.1 ≤ 16384) ∧ (-16384 ≤ r.2.2.1 ∧ r.2.2.1 ≤ 16384) ∧ (-16384 ≤ r.2.2.2 ∧ r.2.2.2 ≤ 16384)) ∧ r.1 < r.2.2.1 ∧ r.2.1 < r.2.2.2 := by
  rw [emptyR, Bool.or_eq_false_iff, Bool.or_eq_false_iff, decide_eq_false_iff_not, decide_eq_false_iff_not, Bool.not_eq_false', validR, coordOk, coordOk, coordOk, coordOk]
  simp only [Bool.and_eq_true, decide_eq_true_eq]
  omega
theorem inside_iff (r : Rect) (a b : Int) : insideR r a b = true ↔ emptyR r = false ∧ r.1 ≤ a ∧ a < r.2.2.1 ∧ r.2.1 ≤ b ∧ b < r.2.2.2 := by
  simp only [insideR, Bool.and_eq_true, Bool.not_eq_true', decide_eq_true_eq]
theorem part_iff (r : Rect) (a b : Int) : inPart r a b = true ↔ (r.1 ≤ a ∧ a < r.2.2.1) ∧ r.2.1 ≤ b ∧ b < r.2.2.2 := by
  simp only [inPart, Bool.and_eq_true, decide_eq_true_eq]
theorem inter_cases (d r : Rect) : (interQ d r = (0, 0, 0, 0) ∧ ∀ a b, ¬ (insideR d a b = true ∧ insideR r a b = true)) ∨
    (emptyR d = false ∧ emptyR r = false ∧ emptyR (interQ d r) = false ∧ interQ d r = (max d.1 r.1, max d.2.1 r.2.1, min d.2.2.1 r.2.2.1, min d.2.2.2 r.2.2.2)) := by
  unfold interQ
  by_cases h : emptyR d = true ∨ emptyR r = true
  · rw [if_pos h]
    refine .inl ⟨rfl, fun a b hh => ?_⟩
    rw [inside_iff, inside_iff] at hh
    rcases h with h | h
    · rw [hh.1.1] at h
      cases h
    · rw [hh.2.1] at h
      cases h
  · rw [if_neg h]
    simp only [not_or, Bool.not_eq_true] at h
    unfold canonR
    by_cases hz : emptyR (max d.1 r.1, max d.2.1 r.2.1, min d.2.2.1 r.2.2.1, min d.2.2.2 r.2.2.2) = true
    · rw [if_pos hz]
      refine .inl ⟨rfl, fun a b hh => ?_⟩
      rw [inside_iff, inside_iff] at hh
      have h1 := (empty_iff d).1 h.1
      have h2 := (empty_iff r).1 h.2
      have : emptyR (max d.1 r.1, max d.2.1 r.2.1, min d.2.2.1 r.2.2.1, min d.2.2.2 r.2.2.2) = false := by
        rw [empty_iff]
        simp only
        omega
      rw [this] at hz
      cases hz
    · rw [if_neg hz]
      exact .inr ⟨h.1, h.2, by simpa using hz, rfl⟩
theorem inter_part (d r : Rect) (a b : Int) : inPart (interQ d r) a b = (insideR d a b && insideR r a b) := by
  rw [Bool.eq_iff_iff, Bool.and_eq_true]
  rcases inter_cases d r with ⟨h, g⟩ | ⟨h1, h2, h3, h⟩
  · rw [h, part_iff]
    constructor
    · intro hh
      simp only at hh
      omega
    · exact fun hh => absurd hh (g a b)
  · rw [h, part_iff, inside_iff, inside_iff, h1, h2]
    simp only [true_and]
    omega
theorem paint_paint (P Q : Int → Int → Bool) (f : Int → Int → Pix) (X Y w : Int) (px : List Pix) : paintL Q f X Y w (paintL P f X Y w px) = paintL (fun a b => P a b || Q a b) f X Y w px := by
  apply List.ext_getElem?
  intro j
  rw [paintL_get, paintL_get, paintL_get]
  cases px[j]? with
  | none => rfl
  | some v =>
    simp only [Option.map_some]
    cases P (X + (j : Int) % w) (Y + (j : Int) / w) <;> cases Q (X + (j : Int) % w) (Y + (j : Int) / w) <;> rfl
theorem good_prep {l : List Item} {bg : Pix} (h : badP l bg = false) : prepP l bg = (l.map layerOf, bg) := by
  rw [prepP, if_neg (by simp [h])]
def renderB (l : List Item) (bg : Pix) (r : Rect) : Buf := if checkE l bg r = 0 then (r.2.2.1 - r.1, r.2.2.2 - r.2.1, cells (paintP (l.map layerOf, bg)) r.1 r.2.1 (r.2.2.1 - r.1) ((r.2.2.1 - r.1) * (r.2.2.2 - r.2.1)).toNat) else (0, 0, [])
theorem check_zero {l : List Item} {bg : Pix} {r : Rect} (h : checkE l bg r = 0) : badP l bg = false ∧ rangeBad r = false := by
  unfold checkE at h
  split at h
  · exact absurd h (by decide)
  · rename_i h1
    split at h
    · exact absurd h (by decide)
    · rename_i h2
      exact ⟨by simpa using h1, by simpa using h2⟩
set_option maxHeartbeats 2000000 in
theorem s_cRender : PSound Tryz.prog 15 (pcon [.d (.list ItemT), .d PixT, .d RectT] fun x => (ScPre x.1, .tup [.agg (enc BufT (renderB x.1 x.2.1 x.2.2.1)), .int .i64 (checkE x.1 x.2.1 x.2.2.1)])) := by
  refine psoundF (K := K84) (Γc := C60) (Γr := R0) (fun _ => []) hm HK84 HC60 HR0 Tryz.call15 Tryz.func15 (by kernel_rfl) ?_
  rintro ⟨l, bg, ⟨X0, Y0, X1, Y1⟩, _⟩ hx
  have h2 : ScPre l := hx
  refine Eq.mpr (β := (True ∧ True ∧ True ∧ True ∧ True ∧ True ∧ True ∧ (ScPre l) ∧ True ∧ True ∧ True ∧ True ∧ True ∧ True ∧ True ∧ True ∧ (@Eq Bool (bne (checkE l bg (X0, (Y0, (X1, Y1)))) 0) true → (True ∧ True ∧ True ∧ True ∧ (True ∧ True ∧ True) ∧ (@Eq Int 0 (renderB l bg ((X0, (Y0, (X1, Y1))), ()).1).1 ∧ @Eq Int 0 (renderB l bg ((X0, (Y0, (X1, Y1))), ()).1).2.1 ∧ @Eq _ (renderB l bg ((X0, (Y0, (X1, Y1))), ()).1).2.2 ([] : List (Ty.T PixT)) ∧ True) ∧ @Eq Int (checkE l bg (X0, (Y0, (X1, Y1)))) (checkE l bg ((X0, (Y0, (X1, Y1))), ()).1) ∧ True)) ∧ (@Eq Bool (bne (checkE l bg (X0, (Y0, (X1, Y1)))) 0) false → ((True ∧ True ∧ True ∧ True ∧ True ∧ True ∧ True ∧ True ∧ True ∧ True ∧ True ∧ True ∧ True) ∧ True ∧ True ∧ True ∧ True ∧ True ∧ (@LE.le Int _ 0 (IntKind.i64.wrap (@HMul.hMul Int Int Int _ (IntKind.i64.wrap (@HSub.hSub Int Int Int _ (X1, Y1).1 X0)) (IntKind.i64.wrap (@HSub.hSub Int Int Int _ (X1, Y1).2 Y0)))) ∧ @Eq Int (IntKind.i64.wrap (@HMul.hMul Int Int Int _ (IntKind.i64.wrap (@HSub.hSub Int Int Int _ (X1, Y1).1 X0)) (IntKind.i64.wrap (@HSub.hSub Int Int Int _ (X1, Y1).2 Y0)))) (IntKind.i64.wrap (@HMul.hMul Int Int Int _ (IntKind.i64.wrap (@HSub.hSub Int Int Int _ (X1, Y1).1 X0)) (IntKind.i64.wrap (@HSub.hSub Int Int Int _ (X1, Y1).2 Y0)))) ∧ @LE.le Int _ (@HMul.hMul Int Int Int _ (IntKind.i64.wrap (@HMul.hMul Int Int Int _ (IntKind.i64.wrap (@HSub.hSub Int Int Int _ (X1, Y1).1 X0)) (IntKind.i64.wrap (@HSub.hSub Int Int Int _ (X1, Y1).2 Y0)))) (@Nat.cast Int _ 4)) 140737488355328) ∧ True ∧ True ∧ True ∧ True ∧ True ∧ True ∧ True ∧ True ∧ True ∧ True ∧ ((FillOk (((IntKind.i64.wrap (@HSub.hSub Int Int Int _ (Y0, (X1, Y1)).2.1 X0)), (IntKind.i64.wrap (@HSub.hSub Int Int Int _ (Y0, (X1, Y1)).2.2 (Y0, (X1, Y1)).1))), ((List.replicate (Int.toNat (IntKind.i64.wrap (@HMul.hMul Int Int Int _ (IntKind.i64.wrap (@HSub.hSub Int Int Int _ X1 X0)) (IntKind.i64.wrap (@HSub.hSub Int Int Int _ Y1 Y0))))) ((0:Int), ((0:Int), ((0:Int), (0:Int))))), ((X0, (Y0, (X1, Y1))), ((X0, (Y0, (X1, Y1))), (prepP l bg)))))) ∧ ((@Eq Int (IntKind.i64.wrap (@HSub.hSub Int Int Int _ (Y0, (X1, Y1)).2.1 X0)) (IntKind.i64.wrap (@HSub.hSub Int Int Int _ (Y0, (X1, Y1)).2.1 X0)) ∧ @Eq Int (IntKind.i64.wrap (@HSub.hSub Int Int Int _ (Y0, (X1, Y1)).2.2 (Y0, (X1, Y1)).1)) (IntKind.i64.wrap (@HSub.hSub Int Int Int _ (Y0, (X1, Y1)).2.2 (Y0, (X1, Y1)).1)) ∧ True ∧ True) ∧ (@Eq Int (X0, (Y0, (X1, Y1))).1 ((X0, (Y0, (X1, Y1))), ((X0, (Y0, (X1, Y1))), (prepP l bg))).1.1 ∧ @Eq Int (X0, (Y0, (X1, Y1))).2.1 ((X0, (Y0, (X1, Y1))), ((X0, (Y0, (X1, Y1))), (prepP l bg))).1.2.1 ∧ @Eq Int (X0, (Y0, (X1, Y1))).2.2.1 ((X0, (Y0, (X1, Y1))), ((X0, (Y0, (X1, Y1))), (prepP l bg))).1.2.2.1 ∧ @Eq Int (X0, (Y0, (X1, Y1))).2.2.2 ((X0, (Y0, (X1, Y1))), ((X0, (Y0, (X1, Y1))), (prepP l bg))).1.2.2.2 ∧ True) ∧ (@Eq Int (X0, (Y0, (X1, Y1))).1 ((X0, (Y0, (X1, Y1))), ((X0, (Y0, (X1, Y1))), (prepP l bg))).2.1.1 ∧ @Eq Int (X0, (Y0, (X1, Y1))).2.1 ((X0, (Y0, (X1, Y1))), ((X0, (Y0, (X1, Y1))), (prepP l bg))).2.1.2.1 ∧ @Eq Int (X0, (Y0, (X1, Y1))).2.2.1 ((X0, (Y0, (X1, Y1))), ((X0, (Y0, (X1, Y1))), (prepP l bg))).2.1.2.2.1 ∧ @Eq Int (X0, (Y0, (X1, Y1))).2.2.2 ((X0, (Y0, (X1, Y1))), ((X0, (Y0, (X1, Y1))), (prepP l bg))).2.1.2.2.2 ∧ True) ∧ (((@Eq _ (prepP l bg).1 ((X0, (Y0, (X1, Y1))), ((X0, (Y0, (X1, Y1))), (prepP l bg))).2.2.1 ∧ @Eq Int (prepP l bg).2.1 ((X0, (Y0, (X1, Y1))), ((X0, (Y0, (X1, Y1))), (prepP l bg))).2.2.2.1 ∧ @Eq Int (prepP l bg).2.2.1 ((X0, (Y0, (X1, Y1))), ((X0, (Y0, (X1, Y1))), (prepP l bg))).2.2.2.2.1 ∧ @Eq Int (prepP l bg).2.2.2.1 ((X0, (Y0, (X1, Y1))), ((X0, (Y0, (X1, Y1))), (prepP l bg))).2.2.2.2.2.1 ∧ @Eq Int (prepP l bg).2.2.2.2 ((X0, (Y0, (X1, Y1))), ((X0, (Y0, (X1, Y1))), (prepP l bg))).2.2.2.2.2.2 ∧ True) ∧ True) ∧ True) ∧ True) ∧ @Eq _ (List.replicate (Int.toNat (IntKind.i64.wrap (@HMul.hMul Int Int Int _ (IntKind.i64.wrap (@HSub.hSub Int Int Int _ X1 X0)) (IntKind.i64.wrap (@HSub.hSub Int Int Int _ Y1 Y0))))) ((0:Int), ((0:Int), ((0:Int), (0:Int))))) (List.replicate (Int.toNat (IntKind.i64.wrap (@HMul.hMul Int Int Int _ (IntKind.i64.wrap (@HSub.hSub Int Int Int _ X1 X0)) (IntKind.i64.wrap (@HSub.hSub Int Int Int _ Y1 Y0))))) ((0:Int), ((0:Int), ((0:Int), (0:Int))))) ∧ True) ∧ True ∧ True ∧ True ∧ (True ∧ True ∧ True) ∧ (@Eq Int (IntKind.i64.wrap (@HSub.hSub Int Int Int _ (Y0, (X1, Y1)).2.1 X0)) (renderB l bg ((X0, (Y0, (X1, Y1))), ()).1).1 ∧ @Eq Int (IntKind.i64.wrap (@HSub.hSub Int Int Int _ (Y0, (X1, Y1)).2.2 (Y0, (X1, Y1)).1)) (renderB l bg ((X0, (Y0, (X1, Y1))), ()).1).2.1 ∧ @Eq _ (fillX (((IntKind.i64.wrap (@HSub.hSub Int Int Int _ (X1, Y1).1 X0)), (IntKind.i64.wrap (@HSub.hSub Int Int Int _ (X1, Y1).2 Y0))), ((List.replicate (Int.toNat (IntKind.i64.wrap (@HMul.hMul Int Int Int _ (IntKind.i64.wrap (@HSub.hSub Int Int Int _ X1 X0)) (IntKind.i64.wrap (@HSub.hSub Int Int Int _ Y1 Y0))))) ((0:Int), ((0:Int), ((0:Int), (0:Int))))), ((X0, (Y0, (X1, Y1))), ((X0, (Y0, (X1, Y1))), (prepP l bg)))))) (renderB l bg ((X0, (Y0, (X1, Y1))), ()).1).2.2 ∧ True) ∧ @Eq Int 0 (checkE l bg ((X0, (Y0, (X1, Y1))), ()).1) ∧ True)))) (by kernel_rfl) ?_
  simp only [true_and, and_true, decide_eq_true_eq, decide_eq_false_iff_not, forall_const, implies_true, and_self]
  by_cases e : checkE l bg (X0, Y0, X1, Y1) = 0
  · obtain ⟨hb, hr⟩ := check_zero e
    obtain ⟨h0, ⟨hx0, hy0⟩, hw, hh⟩ := range_ok hr
    simp only at hx0 hy0 hw hh
    have m1 := mul_size (a := X1 - X0) (b := Y1 - Y0) (by simp [sizeOk]; omega) (by simp [sizeOk]; omega)
    have w1 : IntKind.i64.wrap (X1 - X0) = X1 - X0 := wrap_in (by omega)
    have w2 : IntKind.i64.wrap (Y1 - Y0) = Y1 - Y0 := wrap_in (by omega)
    have w3 : IntKind.i64.wrap ((X1 - X0) * (Y1 - Y0)) = (X1 - X0) * (Y1 - Y0) := wrap_in (by omega)
    rw [w1, w2, w3, e, renderB, if_pos e, good_prep hb]
    refine ⟨h2, fun h => by simp at h, fun _ => ⟨⟨by omega, by omega⟩, ?_, ⟨rfl, rfl, ?_⟩, rfl⟩⟩
    · refine ⟨scene_paint (bad_false.1 hb).2 bg, hw, hh, ?_, ?_, ?_, ?_, ?_⟩ <;> simp only
      · rw [List.length_replicate]
        omega
      all_goals omega
    · show paintL (inPart (X0, Y0, X1, Y1)) (paintP (l.map layerOf, bg)) X0 Y0 (X1 - X0) (List.replicate ((X1 - X0) * (Y1 - Y0)).toNat (0, 0, 0, 0)) = _
      rw [paint_all, List.length_replicate]
      intro j hj
      rw [List.length_replicate] at hj
      have := cell_in (X := X0) (Y := Y0) (w := X1 - X0) (h := Y1 - Y0) (j := j) (by omega) (by omega)
      rw [part_iff]
      simp only
      omega
  · rw [renderB, if_neg e]
    exact ⟨h2, fun _ => ⟨rfl, rfl, rfl⟩, fun h => absurd (by simpa using h) e⟩
abbrev K85 : KCons := (15, fun Γc => pure_ Γc ((pcon [.d (.list ItemT), .d PixT, .d RectT] fun x => (ScPre x.1, .tup [.agg (enc BufT (renderB x.1 x.2.1 x.2.2.1)), .int .i64 (checkE x.1 x.2.1 x.2.2.1)])))) :: K84
theorem HK85 : KS Tryz.prog K85 := ks_add (ksound_pure (s_cRender)) HK84
def bufBad (b : Buf) (r : Rect) : Bool := !bufOk b || (b.1 != IntKind.i64.wrap (r.2.2.1 - r.1) || b.2.1 != IntKind.i64.wrap (r.2.2.2 - r.2.1))
def updE (b : Buf) (l : List Item) (bg : Pix) (r : Rect) : Int := if checkE l bg r = 0 then (if bufBad b r = true then 15 else 0) else checkE l bg r
def dmg (ds : List Rect) (r : Rect) (x y : Int) : Bool := ds.any fun d => inPart (interQ d r) x y
def updB (b : Buf) (l : List Item) (bg : Pix) (r : Rect) (ds : List Rect) : Buf := if updE b l bg r = 0 then (b.1, b.2.1, paintL (dmg ds r) (paintP (l.map layerOf, bg)) r.1 r.2.1 b.1 b.2.2) else (0, 0, [])
def bufA (B : Buf) : AV := .agg [.int .i64 B.1, .int .i64 B.2.1, .own PixT B.2.2]
set_option maxHeartbeats 4000000 in
theorem s_cUpdate : PSound Tryz.prog 18 (pcon [.d BufT, .d (.list ItemT), .d PixT, .d RectT, .d (.list RectT)] fun x => ((x.1.2.2.length ≤ 9223372036854775807 ∧ ScPre x.2.1) ∧ x.2.2.2.2.1.length ≤ 9223372036854775807,
    .tup [bufA (updB x.1 x.2.1 x.2.2.1 x.2.2.2.1 x.2.2.2.2.1), .int .i64 (updE x.1 x.2.1 x.2.2.1 x.2.2.2.1)])) := by
  refine psoundF (K := K85) (Γc := C60) (Γr := R0) (fun x => [(9, annP [.slot 66 I64, .row 60 PixT] (fun _ y => (0 ≤ y.1 ∧ y.1 ≤ x.2.2.2.2.1.length) ∧ y.2.1 = paintL (dmg (List.take y.1.toNat (x.2.2.2.2.1 : List Rect)) x.2.2.2.1) (paintP (prepP x.2.1 x.2.2.1)) x.2.2.2.1.1 x.2.2.2.1.2.1 x.1.1 x.1.2.2) (fun y => (x.2.2.2.2.1.length - y.1 : Int).toNat))]) hm HK85 HC60 HR0 Tryz.call18 Tryz.func18 (by kernel_rfl) ?_
  rintro ⟨⟨w, h, px⟩, l, bg, r, ds, _⟩ hx
  obtain ⟨⟨h1, h2⟩, h3⟩ : (px.length ≤ 9223372036854775807 ∧ ScPre l) ∧ ds.length ≤ 9223372036854775807 := hx
  refine Eq.mpr (β := (True ∧ True ∧ True ∧ True ∧ True ∧ True ∧ True ∧ True ∧ (ScPre l) ∧ True ∧ True ∧ True ∧ True ∧ True ∧ True ∧ True ∧ True ∧ (@Eq Bool (bne (checkE l bg r) 0) true → (True ∧ True ∧ True ∧ True ∧ (True ∧ True ∧ True) ∧ (@Eq Int 0 (updB (w, (h, px)) l bg r ds).1 ∧ @Eq Int 0 (updB (w, (h, px)) l bg r ds).2.1 ∧ @Eq _ (updB (w, (h, px)) l bg r ds).2.2 ([] : List (Ty.T PixT)) ∧ True) ∧ @Eq Int (checkE l bg r) (updE (w, (h, px)) l bg r) ∧ True)) ∧ (@Eq Bool (bne (checkE l bg r) 0) false → (True ∧ @LE.le Nat _ (List.length (h, px).2) 9223372036854775807 ∧ True ∧ True ∧ (@Eq Bool (not (bufOk (w, (h, px)))) false → True) ∧ (@Eq Bool (not (bufOk (w, (h, px)))) false → True) ∧ (@Eq Bool (not (bufOk (w, (h, px)))) false → True) ∧ (@Eq Bool (not (bufOk (w, (h, px)))) false → True) ∧ (@Eq Bool (not (bufOk (w, (h, px)))) false → True) ∧ (@Eq Bool (not (bufOk (w, (h, px)))) false → True) ∧ (@Eq Bool (not (bufOk (w, (h, px)))) false → True) ∧ (@Eq Bool (not (bufOk (w, (h, px)))) false → True) ∧ True ∧ True ∧ (@Eq Bool (or (not (bufOk (w, (h, px)))) (bne w (IntKind.i64.wrap (@HSub.hSub Int Int Int _ r.2.2.1 r.1)))) false → True) ∧ (@Eq Bool (or (not (bufOk (w, (h, px)))) (bne w (IntKind.i64.wrap (@HSub.hSub Int Int Int _ r.2.2.1 r.1)))) false → True) ∧ (@Eq Bool (or (not (bufOk (w, (h, px)))) (bne w (IntKind.i64.wrap (@HSub.hSub Int Int Int _ r.2.2.1 r.1)))) false → True) ∧ (@Eq Bool (or (not (bufOk (w, (h, px)))) (bne w (IntKind.i64.wrap (@HSub.hSub Int Int Int _ r.2.2.1 r.1)))) false → True) ∧ (@Eq Bool (or (not (bufOk (w, (h, px)))) (bne w (IntKind.i64.wrap (@HSub.hSub Int Int Int _ r.2.2.1 r.1)))) false → True) ∧ (@Eq Bool (or (not (bufOk (w, (h, px)))) (bne w (IntKind.i64.wrap (@HSub.hSub Int Int Int _ r.2.2.1 r.1)))) false → True) ∧ (@Eq Bool (or (not (bufOk (w, (h, px)))) (bne w (IntKind.i64.wrap (@HSub.hSub Int Int Int _ r.2.2.1 r.1)))) false → True) ∧ (@Eq Bool (or (not (bufOk (w, (h, px)))) (bne w (IntKind.i64.wrap (@HSub.hSub Int Int Int _ r.2.2.1 r.1)))) false → True) ∧ True ∧ (@Eq Bool (or (or (not (bufOk (w, (h, px)))) (bne w (IntKind.i64.wrap (@HSub.hSub Int Int Int _ r.2.2.1 r.1)))) (bne h (IntKind.i64.wrap (@HSub.hSub Int Int Int _ r.2.2.2 r.2.1)))) true → (True ∧ True ∧ True ∧ (True ∧ True ∧ True) ∧ (@Eq Int 0 (updB (w, (h, px)) l bg r ds).1 ∧ @Eq Int 0 (updB (w, (h, px)) l bg r ds).2.1 ∧ @Eq _ (updB (w, (h, px)) l bg r ds).2.2 ([] : List (Ty.T PixT)) ∧ True) ∧ @Eq Int 15 (updE (w, (h, px)) l bg r) ∧ True)) ∧ (@Eq Bool (or (or (not (bufOk (w, (h, px)))) (bne w (IntKind.i64.wrap (@HSub.hSub Int Int Int _ r.2.2.1 r.1)))) (bne h (IntKind.i64.wrap (@HSub.hSub Int Int Int _ r.2.2.2 r.2.1)))) false → ((True ∧ True ∧ True ∧ True ∧ True ∧ True ∧ @LE.le Nat _ (@HMul.hMul Nat Nat Nat _ (List.length px) 4) 140737488355328 ∧ True ∧ True ∧ True ∧ True) ∧ True ∧ True ∧ True ∧ True ∧ True ∧ True ∧ ((True ∧ (@Eq Int 0 0 ∧ @Eq Int (@Nat.cast Int _ (List.length ds)) (@Nat.cast Int _ (List.length ds)) ∧ @Eq _ ds ds ∧ (((@Eq _ (prepP l bg).1 (prepP l bg).1 ∧ @Eq Int (prepP l bg).2.1 (prepP l bg).2.1 ∧ @Eq Int (prepP l bg).2.2.1 (prepP l bg).2.2.1 ∧ @Eq Int (prepP l bg).2.2.2.1 (prepP l bg).2.2.2.1 ∧ @Eq Int (prepP l bg).2.2.2.2 (prepP l bg).2.2.2.2 ∧ True) ∧ True) ∧ True) ∧ (((@Eq _ (prepP l bg).1 (prepP l bg).1 ∧ @Eq Int (prepP l bg).2.1 (prepP l bg).2.1 ∧ @Eq Int (prepP l bg).2.2.1 (prepP l bg).2.2.1 ∧ @Eq Int (prepP l bg).2.2.2.1 (prepP l bg).2.2.2.1 ∧ @Eq Int (prepP l bg).2.2.2.2 (prepP l bg).2.2.2.2 ∧ True) ∧ True) ∧ True) ∧ (@Eq _ (prepP l bg).1 (prepP l bg).1 ∧ @Eq Int (prepP l bg).2.1 (prepP l bg).2.1 ∧ @Eq Int (prepP l bg).2.2.1 (prepP l bg).2.2.1 ∧ @Eq Int (prepP l bg).2.2.2.1 (prepP l bg).2.2.2.1 ∧ @Eq Int (prepP l bg).2.2.2.2 (prepP l bg).2.2.2.2 ∧ True) ∧ True ∧ (@Eq Int w w ∧ @Eq Int h h ∧ True ∧ True) ∧ True ∧ @Eq _ px px ∧ True ∧ @Eq Int h h ∧ True ∧ @Eq Int w w ∧ True ∧ @Eq Bool (or (or (not (bufOk (w, (h, px)))) (bne w (IntKind.i64.wrap (@HSub.hSub Int Int Int _ r.2.2.1 r.1)))) (bne h (IntKind.i64.wrap (@HSub.hSub Int Int Int _ r.2.2.2 r.2.1)))) (or (or (not (bufOk (w, (h, px)))) (bne w (IntKind.i64.wrap (@HSub.hSub Int Int Int _ r.2.2.1 r.1)))) (bne h (IntKind.i64.wrap (@HSub.hSub Int Int Int _ r.2.2.2 r.2.1)))) ∧ @Eq Bool (or (not (bufOk (w, (h, px)))) (bne w (IntKind.i64.wrap (@HSub.hSub Int Int Int _ r.2.2.1 r.1)))) (or (not (bufOk (w, (h, px)))) (bne w (IntKind.i64.wrap (@HSub.hSub Int Int Int _ r.2.2.1 r.1)))) ∧ @Eq Bool (or (not (bufOk (w, (h, px)))) (bne w (IntKind.i64.wrap (@HSub.hSub Int Int Int _ r.2.2.1 r.1)))) (or (not (bufOk (w, (h, px)))) (bne w (IntKind.i64.wrap (@HSub.hSub Int Int Int _ r.2.2.1 r.1)))) ∧ @Eq Bool (not (bufOk (w, (h, px)))) (not (bufOk (w, (h, px)))) ∧ @Eq Bool (not (bufOk (w, (h, px)))) (not (bufOk (w, (h, px)))) ∧ @Eq Bool (bufOk (w, (h, px))) (bufOk (w, (h, px))) ∧ (@Eq Int w w ∧ @Eq Int h h ∧ @Eq _ px px ∧ True) ∧ @Eq Bool (bne (checkE l bg r) 0) (bne (checkE l bg r) 0) ∧ @Eq Int (checkE l bg r) (checkE l bg r) ∧ @Eq Int (checkE l bg r) (checkE l bg r) ∧ True ∧ @Eq Int (checkE l bg r) (checkE l bg r) ∧ (@Eq _ (prepP l bg).1 (prepP l bg).1 ∧ @Eq Int (prepP l bg).2.1 (prepP l bg).2.1 ∧ @Eq Int (prepP l bg).2.2.1 (prepP l bg).2.2.1 ∧ @Eq Int (prepP l bg).2.2.2.1 (prepP l bg).2.2.2.1 ∧ @Eq Int (prepP l bg).2.2.2.2 (prepP l bg).2.2.2.2 ∧ True) ∧ ((@Eq _ (prepP l bg).1 (prepP l bg).1 ∧ @Eq Int (prepP l bg).2.1 (prepP l bg).2.1 ∧ @Eq Int (prepP l bg).2.2.1 (prepP l bg).2.2.1 ∧ @Eq Int (prepP l bg).2.2.2.1 (prepP l bg).2.2.2.1 ∧ @Eq Int (prepP l bg).2.2.2.2 (prepP l bg).2.2.2.2 ∧ True) ∧ @Eq Int (checkE l bg r) (checkE l bg r) ∧ True) ∧ ((@Eq _ (prepP l bg).1 (prepP l bg).1 ∧ @Eq Int (prepP l bg).2.1 (prepP l bg).2.1 ∧ @Eq Int (prepP l bg).2.2.1 (prepP l bg).2.2.1 ∧ @Eq Int (prepP l bg).2.2.2.1 (prepP l bg).2.2.2.1 ∧ @Eq Int (prepP l bg).2.2.2.2 (prepP l bg).2.2.2.2 ∧ True) ∧ @Eq Int (checkE l bg r) (checkE l bg r) ∧ True) ∧ (@Eq Int r.1 r.1 ∧ @Eq Int r.2.1 r.2.1 ∧ @Eq Int r.2.2.1 r.2.2.1 ∧ @Eq Int r.2.2.2 r.2.2.2 ∧ True) ∧ (@Eq Int bg.1 bg.1 ∧ @Eq Int bg.2.1 bg.2.1 ∧ @Eq Int bg.2.2.1 bg.2.2.1 ∧ @Eq Int bg.2.2.2 bg.2.2.2 ∧ True) ∧ @Eq _ l l ∧ @Eq Int 0 0 ∧ True ∧ True ∧ True ∧ True ∧ (@Eq Int w w ∧ @Eq Int h h ∧ @Eq _ px px ∧ True) ∧ @Eq _ l l ∧ (@Eq Int bg.1 bg.1 ∧ @Eq Int bg.2.1 bg.2.1 ∧ @Eq Int bg.2.2.1 bg.2.2.1 ∧ @Eq Int bg.2.2.2 bg.2.2.2 ∧ True) ∧ (@Eq Int r.1 r.1 ∧ @Eq Int r.2.1 r.2.1 ∧ @Eq Int r.2.2.1 r.2.2.1 ∧ @Eq Int r.2.2.2 r.2.2.2 ∧ True) ∧ @Eq _ ds ds ∧ True) ∧ (@Eq Int w w ∧ @Eq Int h h ∧ @Eq _ px px ∧ True) ∧ (@Eq Int bg.1 bg.1 ∧ @Eq Int bg.2.1 bg.2.1 ∧ @Eq Int bg.2.2.1 bg.2.2.1 ∧ @Eq Int bg.2.2.2 bg.2.2.2 ∧ True) ∧ (@Eq Int r.1 r.1 ∧ @Eq Int r.2.1 r.2.1 ∧ @Eq Int r.2.2.1 r.2.2.1 ∧ @Eq Int r.2.2.2 r.2.2.2 ∧ True) ∧ (@Eq Int 0 0 ∧ @Eq Int 0 0 ∧ True ∧ True) ∧ (@Eq _ (prepP l bg).1 (prepP l bg).1 ∧ @Eq Int (prepP l bg).2.1 (prepP l bg).2.1 ∧ @Eq Int (prepP l bg).2.2.1 (prepP l bg).2.2.1 ∧ @Eq Int (prepP l bg).2.2.2.1 (prepP l bg).2.2.2.1 ∧ @Eq Int (prepP l bg).2.2.2.2 (prepP l bg).2.2.2.2 ∧ True) ∧ @Eq _ px px ∧ (@Eq Int w w ∧ @Eq Int h h ∧ True ∧ True) ∧ True) ∧ (@LE.le Int _ 0 0 ∧ @LE.le Int _ 0 (@Nat.cast (Pl.T (Pl.slot 66 I64)) _ (List.length ds))) ∧ @Eq _ px (paintL (dmg (List.take (Int.toNat 0) ds) r) (paintP (prepP l bg)) r.1 r.2.1 w (h, px).2)) ∧ (∀ (v0 : (Prod Int (Prod (List Rect) Unit))), (((@LE.le Int _ 0 v0.1 ∧ @LE.le Int _ v0.1 (@Nat.cast (Pl.T (Pl.slot 66 I64)) _ (List.length ds))) ∧ @Eq _ v0.2.1 (paintL (dmg (List.take (Int.toNat v0.1) ds) r) (paintP (prepP l bg)) r.1 r.2.1 w (h, px).2)) → (True ∧ (@Eq Bool (@decide (@LT.lt Int _ v0.1 (@Nat.cast Int _ (List.length ds))) (Int.decLt v0.1 (@Nat.cast Int _ (List.length ds)))) true → ((@LE.le Int _ 0 v0.1 ∧ @LE.le Int _ (@HAdd.hAdd Int Int Int _ v0.1 1) (@Nat.cast Int _ (List.length ds))) ∧ True ∧ True ∧ True ∧ True ∧ True ∧ True ∧ True ∧ True ∧ True ∧ True ∧ True ∧ (@Eq Bool (not (emptyR (interQ (@elemAt RectT ds (Int.toNat v0.1)) r))) true → (True ∧ True ∧ True ∧ True ∧ ((FillOk ((w, h), (v0.2.1, (r, ((interQ (@elemAt RectT ds (Int.toNat v0.1)) r), (prepP l bg)))))) ∧ ((@Eq Int w w ∧ @Eq Int h h ∧ True ∧ True) ∧ (@Eq Int r.1 (r, ((interQ (@elemAt RectT ds (Int.toNat v0.1)) r), (prepP l bg))).1.1 ∧ @Eq Int r.2.1 (r, ((interQ (@elemAt RectT ds (Int.toNat v0.1)) r), (prepP l bg))).1.2.1 ∧ @Eq Int r.2.2.1 (r, ((interQ (@elemAt RectT ds (Int.toNat v0.1)) r), (prepP l bg))).1.2.2.1 ∧ @Eq Int r.2.2.2 (r, ((interQ (@elemAt RectT ds (Int.toNat v0.1)) r), (prepP l bg))).1.2.2.2 ∧ True) ∧ (@Eq Int (interQ (@elemAt RectT ds (Int.toNat v0.1)) r).1 (r, ((interQ (@elemAt RectT ds (Int.toNat v0.1)) r), (prepP l bg))).2.1.1 ∧ @Eq Int (interQ (@elemAt RectT ds (Int.toNat v0.1)) r).2.1 (r, ((interQ (@elemAt RectT ds (Int.toNat v0.1)) r), (prepP l bg))).2.1.2.1 ∧ @Eq Int (interQ (@elemAt RectT ds (Int.toNat v0.1)) r).2.2.1 (r, ((interQ (@elemAt RectT ds (Int.toNat v0.1)) r), (prepP l bg))).2.1.2.2.1 ∧ @Eq Int (interQ (@elemAt RectT ds (Int.toNat v0.1)) r).2.2.2 (r, ((interQ (@elemAt RectT ds (Int.toNat v0.1)) r), (prepP l bg))).2.1.2.2.2 ∧ True) ∧ (((@Eq _ (prepP l bg).1 (r, ((interQ (@elemAt RectT ds (Int.toNat v0.1)) r), (prepP l bg))).2.2.1 ∧ @Eq Int (prepP l bg).2.1 (r, ((interQ (@elemAt RectT ds (Int.toNat v0.1)) r), (prepP l bg))).2.2.2.1 ∧ @Eq Int (prepP l bg).2.2.1 (r, ((interQ (@elemAt RectT ds (Int.toNat v0.1)) r), (prepP l bg))).2.2.2.2.1 ∧ @Eq Int (prepP l bg).2.2.2.1 (r, ((interQ (@elemAt RectT ds (Int.toNat v0.1)) r), (prepP l bg))).2.2.2.2.2.1 ∧ @Eq Int (prepP l bg).2.2.2.2 (r, ((interQ (@elemAt RectT ds (Int.toNat v0.1)) r), (prepP l bg))).2.2.2.2.2.2 ∧ True) ∧ True) ∧ True) ∧ True) ∧ @Eq _ v0.2.1 v0.2.1 ∧ True) ∧ True ∧ True ∧ (True ∧ (@Eq Int (IntKind.i64.wrap (@HAdd.hAdd Int Int Int _ v0.1 1)) (IntKind.i64.wrap (@HAdd.hAdd Int Int Int _ v0.1 1)) ∧ @Eq Int (@Nat.cast Int _ (List.length ds)) (@Nat.cast Int _ (List.length ds)) ∧ @Eq _ ds ds ∧ (((@Eq _ (prepP l bg).1 (prepP l bg).1 ∧ @Eq Int (prepP l bg).2.1 (prepP l bg).2.1 ∧ @Eq Int (prepP l bg).2.2.1 (prepP l bg).2.2.1 ∧ @Eq Int (prepP l bg).2.2.2.1 (prepP l bg).2.2.2.1 ∧ @Eq Int (prepP l bg).2.2.2.2 (prepP l bg).2.2.2.2 ∧ True) ∧ True) ∧ True) ∧ (((@Eq _ (prepP l bg).1 (prepP l bg).1 ∧ @Eq Int (prepP l bg).2.1 (prepP l bg).2.1 ∧ @Eq Int (prepP l bg).2.2.1 (prepP l bg).2.2.1 ∧ @Eq Int (prepP l bg).2.2.2.1 (prepP l bg).2.2.2.1 ∧ @Eq Int (prepP l bg).2.2.2.2 (prepP l bg).2.2.2.2 ∧ True) ∧ True) ∧ True) ∧ (@Eq _ (prepP l bg).1 (prepP l bg).1 ∧ @Eq Int (prepP l bg).2.1 (prepP l bg).2.1 ∧ @Eq Int (prepP l bg).2.2.1 (prepP l bg).2.2.1 ∧ @Eq Int (prepP l bg).2.2.2.1 (prepP l bg).2.2.2.1 ∧ @Eq Int (prepP l bg).2.2.2.2 (prepP l bg).2.2.2.2 ∧ True) ∧ True ∧ (@Eq Int w w ∧ @Eq Int h h ∧ True ∧ True) ∧ True ∧ @Eq _ px px ∧ True ∧ @Eq Int h h ∧ True ∧ @Eq Int w w ∧ True ∧ @Eq Bool (or (or (not (bufOk (w, (h, px)))) (bne w (IntKind.i64.wrap (@HSub.hSub Int Int Int _ r.2.2.1 r.1)))) (bne h (IntKind.i64.wrap (@HSub.hSub Int Int Int _ r.2.2.2 r.2.1)))) (or (or (not (bufOk (w, (h, px)))) (bne w (IntKind.i64.wrap (@HSub.hSub Int Int Int _ r.2.2.1 r.1)))) (bne h (IntKind.i64.wrap (@HSub.hSub Int Int Int _ r.2.2.2 r.2.1)))) ∧ @Eq Bool (or (not (bufOk (w, (h, px)))) (bne w (IntKind.i64.wrap (@HSub.hSub Int Int Int _ r.2.2.1 r.1)))) (or (not (bufOk (w, (h, px)))) (bne w (IntKind.i64.wrap (@HSub.hSub Int Int Int _ r.2.2.1 r.1)))) ∧ @Eq Bool (or (not (bufOk (w, (h, px)))) (bne w (IntKind.i64.wrap (@HSub.hSub Int Int Int _ r.2.2.1 r.1)))) (or (not (bufOk (w, (h, px)))) (bne w (IntKind.i64.wrap (@HSub.hSub Int Int Int _ r.2.2.1 r.1)))) ∧ @Eq Bool (not (bufOk (w, (h, px)))) (not (bufOk (w, (h, px)))) ∧ @Eq Bool (not (bufOk (w, (h, px)))) (not (bufOk (w, (h, px)))) ∧ @Eq Bool (bufOk (w, (h, px))) (bufOk (w, (h, px))) ∧ (@Eq Int w w ∧ @Eq Int h h ∧ @Eq _ px px ∧ True) ∧ @Eq Bool (bne (checkE l bg r) 0) (bne (checkE l bg r) 0) ∧ @Eq Int (checkE l bg r) (checkE l bg r) ∧ @Eq Int (checkE l bg r) (checkE l bg r) ∧ True ∧ @Eq Int (checkE l bg r) (checkE l bg r) ∧ (@Eq _ (prepP l bg).1 (prepP l bg).1 ∧ @Eq Int (prepP l bg).2.1 (prepP l bg).2.1 ∧ @Eq Int (prepP l bg).2.2.1 (prepP l bg).2.2.1 ∧ @Eq Int (prepP l bg).2.2.2.1 (prepP l bg).2.2.2.1 ∧ @Eq Int (prepP l bg).2.2.2.2 (prepP l bg).2.2.2.2 ∧ True) ∧ ((@Eq _ (prepP l bg).1 (prepP l bg).1 ∧ @Eq Int (prepP l bg).2.1 (prepP l bg).2.1 ∧ @Eq Int (prepP l bg).2.2.1 (prepP l bg).2.2.1 ∧ @Eq Int (prepP l bg).2.2.2.1 (prepP l bg).2.2.2.1 ∧ @Eq Int (prepP l bg).2.2.2.2 (prepP l bg).2.2.2.2 ∧ True) ∧ @Eq Int (checkE l bg r) (checkE l bg r) ∧ True) ∧ ((@Eq _ (prepP l bg).1 (prepP l bg).1 ∧ @Eq Int (prepP l bg).2.1 (prepP l bg).2.1 ∧ @Eq Int (prepP l bg).2.2.1 (prepP l bg).2.2.1 ∧ @Eq Int (prepP l bg).2.2.2.1 (prepP l bg).2.2.2.1 ∧ @Eq Int (prepP l bg).2.2.2.2 (prepP l bg).2.2.2.2 ∧ True) ∧ @Eq Int (checkE l bg r) (checkE l bg r) ∧ True) ∧ (@Eq Int r.1 r.1 ∧ @Eq Int r.2.1 r.2.1 ∧ @Eq Int r.2.2.1 r.2.2.1 ∧ @Eq Int r.2.2.2 r.2.2.2 ∧ True) ∧ (@Eq Int bg.1 bg.1 ∧ @Eq Int bg.2.1 bg.2.1 ∧ @Eq Int bg.2.2.1 bg.2.2.1 ∧ @Eq Int bg.2.2.2 bg.2.2.2 ∧ True) ∧ @Eq _ l l ∧ @Eq Int 0 0 ∧ True ∧ True ∧ True ∧ True ∧ (@Eq Int w w ∧ @Eq Int h h ∧ @Eq _ px px ∧ True) ∧ @Eq _ l l ∧ (@Eq Int bg.1 bg.1 ∧ @Eq Int bg.2.1 bg.2.1 ∧ @Eq Int bg.2.2.1 bg.2.2.1 ∧ @Eq Int bg.2.2.2 bg.2.2.2 ∧ True) ∧ (@Eq Int r.1 r.1 ∧ @Eq Int r.2.1 r.2.1 ∧ @Eq Int r.2.2.1 r.2.2.1 ∧ @Eq Int r.2.2.2 r.2.2.2 ∧ True) ∧ @Eq _ ds ds ∧ True) ∧ (@Eq Int w w ∧ @Eq Int h h ∧ @Eq _ px px ∧ True) ∧ (@Eq Int bg.1 bg.1 ∧ @Eq Int bg.2.1 bg.2.1 ∧ @Eq Int bg.2.2.1 bg.2.2.1 ∧ @Eq Int bg.2.2.2 bg.2.2.2 ∧ True) ∧ (@Eq Int r.1 r.1 ∧ @Eq Int r.2.1 r.2.1 ∧ @Eq Int r.2.2.1 r.2.2.1 ∧ @Eq Int r.2.2.2 r.2.2.2 ∧ True) ∧ (@Eq Int 0 0 ∧ @Eq Int 0 0 ∧ True ∧ True) ∧ (@Eq _ (prepP l bg).1 (prepP l bg).1 ∧ @Eq Int (prepP l bg).2.1 (prepP l bg).2.1 ∧ @Eq Int (prepP l bg).2.2.1 (prepP l bg).2.2.1 ∧ @Eq Int (prepP l bg).2.2.2.1 (prepP l bg).2.2.2.1 ∧ @Eq Int (prepP l bg).2.2.2.2 (prepP l bg).2.2.2.2 ∧ True) ∧ @Eq _ (fillX ((w, h), (v0.2.1, (r, ((interQ (@elemAt RectT ds (Int.toNat v0.1)) r), (prepP l bg)))))) (fillX ((w, h), (v0.2.1, (r, ((interQ (@elemAt RectT ds (Int.toNat v0.1)) r), (prepP l bg)))))) ∧ (@Eq Int w w ∧ @Eq Int h h ∧ True ∧ True) ∧ True) ∧ ((@LE.le Int _ 0 (IntKind.i64.wrap (@HAdd.hAdd Int Int Int _ v0.1 1)) ∧ @LE.le Int _ (IntKind.i64.wrap (@HAdd.hAdd Int Int Int _ v0.1 1)) (@Nat.cast (Pl.T (Pl.slot 66 I64)) _ (List.length ds))) ∧ @Eq _ (fillX ((w, h), (v0.2.1, (r, ((interQ (@elemAt RectT ds (Int.toNat v0.1)) r), (prepP l bg)))))) (paintL (dmg (List.take (Int.toNat (IntKind.i64.wrap (@HAdd.hAdd Int Int Int _ v0.1 1))) ds) r) (paintP (prepP l bg)) r.1 r.2.1 w (h, px).2)) ∧ @LT.lt Nat _ (Int.toNat (@HSub.hSub Int Int Int _ (@Nat.cast Int _ (List.length ds)) (IntKind.i64.wrap (@HAdd.hAdd Int Int Int _ v0.1 1)))) (Int.toNat (@HSub.hSub Int Int Int _ (@Nat.cast Int _ (List.length ds)) v0.1)))) ∧ (@Eq Bool (not (emptyR (interQ (@elemAt RectT ds (Int.toNat v0.1)) r))) false → (True ∧ True ∧ (True ∧ (@Eq Int (IntKind.i64.wrap (@HAdd.hAdd Int Int Int _ v0.1 1)) (IntKind.i64.wrap (@HAdd.hAdd Int Int Int _ v0.1 1)) ∧ @Eq Int (@Nat.cast Int _ (List.length ds)) (@Nat.cast Int _ (List.length ds)) ∧ @Eq _ ds ds ∧ (((@Eq _ (prepP l bg).1 (prepP l bg).1 ∧ @Eq Int (prepP l bg).2.1 (prepP l bg).2.1 ∧ @Eq Int (prepP l bg).2.2.1 (prepP l bg).2.2.1 ∧ @Eq Int (prepP l bg).2.2.2.1 (prepP l bg).2.2.2.1 ∧ @Eq Int (prepP l bg).2.2.2.2 (prepP l bg).2.2.2.2 ∧ True) ∧ True) ∧ True) ∧ (((@Eq _ (prepP l bg).1 (prepP l bg).1 ∧ @Eq Int (prepP l bg).2.1 (prepP l bg).2.1 ∧ @Eq Int (prepP l bg).2.2.1 (prepP l bg).2.2.1 ∧ @Eq Int (prepP l bg).2.2.2.1 (prepP l bg).2.2.2.1 ∧ @Eq Int (prepP l bg).2.2.2.2 (prepP l bg).2.2.2.2 ∧ True) ∧ True) ∧ True) ∧ (@Eq _ (prepP l bg).1 (prepP l bg).1 ∧ @Eq Int (prepP l bg).2.1 (prepP l bg).2.1 ∧ @Eq Int (prepP l bg).2.2.1 (prepP l bg).2.2.1 ∧ @Eq Int (prepP l bg).2.2.2.1 (prepP l bg).2.2.2.1 ∧ @Eq Int (prepP l bg).2.2.2.2 (prepP l bg).2.2.2.2 ∧ True) ∧ True ∧ (@Eq Int w w ∧ @Eq Int h h ∧ True ∧ True) ∧ True ∧ @Eq _ px px ∧ True ∧ @Eq Int h h ∧ True ∧ @Eq Int w w ∧ True ∧ @Eq Bool (or (or (not (bufOk (w, (h, px)))) (bne w (IntKind.i64.wrap (@HSub.hSub Int Int Int _ r.2.2.1 r.1)))) (bne h (IntKind.i64.wrap (@HSub.hSub Int Int Int _ r.2.2.2 r.2.1)))) (or (or (not (bufOk (w, (h, px)))) (bne w (IntKind.i64.wrap (@HSub.hSub Int Int Int _ r.2.2.1 r.1)))) (bne h (IntKind.i64.wrap (@HSub.hSub Int Int Int _ r.2.2.2 r.2.1)))) ∧ @Eq Bool (or (not (bufOk (w, (h, px)))) (bne w (IntKind.i64.wrap (@HSub.hSub Int Int Int _ r.2.2.1 r.1)))) (or (not (bufOk (w, (h, px)))) (bne w (IntKind.i64.wrap (@HSub.hSub Int Int Int _ r.2.2.1 r.1)))) ∧ @Eq Bool (or (not (bufOk (w, (h, px)))) (bne w (IntKind.i64.wrap (@HSub.hSub Int Int Int _ r.2.2.1 r.1)))) (or (not (bufOk (w, (h, px)))) (bne w (IntKind.i64.wrap (@HSub.hSub Int Int Int _ r.2.2.1 r.1)))) ∧ @Eq Bool (not (bufOk (w, (h, px)))) (not (bufOk (w, (h, px)))) ∧ @Eq Bool (not (bufOk (w, (h, px)))) (not (bufOk (w, (h, px)))) ∧ @Eq Bool (bufOk (w, (h, px))) (bufOk (w, (h, px))) ∧ (@Eq Int w w ∧ @Eq Int h h ∧ @Eq _ px px ∧ True) ∧ @Eq Bool (bne (checkE l bg r) 0) (bne (checkE l bg r) 0) ∧ @Eq Int (checkE l bg r) (checkE l bg r) ∧ @Eq Int (checkE l bg r) (checkE l bg r) ∧ True ∧ @Eq Int (checkE l bg r) (checkE l bg r) ∧ (@Eq _ (prepP l bg).1 (prepP l bg).1 ∧ @Eq Int (prepP l bg).2.1 (prepP l bg).2.1 ∧ @Eq Int (prepP l bg).2.2.1 (prepP l bg).2.2.1 ∧ @Eq Int (prepP l bg).2.2.2.1 (prepP l bg).2.2.2.1 ∧ @Eq Int (prepP l bg).2.2.2.2 (prepP l bg).2.2.2.2 ∧ True) ∧ ((@Eq _ (prepP l bg).1 (prepP l bg).1 ∧ @Eq Int (prepP l bg).2.1 (prepP l bg).2.1 ∧ @Eq Int (prepP l bg).2.2.1 (prepP l bg).2.2.1 ∧ @Eq Int (prepP l bg).2.2.2.1 (prepP l bg).2.2.2.1 ∧ @Eq Int (prepP l bg).2.2.2.2 (prepP l bg).2.2.2.2 ∧ True) ∧ @Eq Int (checkE l bg r) (checkE l bg r) ∧ True) ∧ ((@Eq _ (prepP l bg).1 (prepP l bg).1 ∧ @Eq Int (prepP l bg).2.1 (prepP l bg).2.1 ∧ @Eq Int (prepP l bg).2.2.1 (prepP l bg).2.2.1 ∧ @Eq Int (prepP l bg).2.2.2.1 (prepP l bg).2.2.2.1 ∧ @Eq Int (prepP l bg).2.2.2.2 (prepP l bg).2.2.2.2 ∧ True) ∧ @Eq Int (checkE l bg r) (checkE l bg r) ∧ True) ∧ (@Eq Int r.1 r.1 ∧ @Eq Int r.2.1 r.2.1 ∧ @Eq Int r.2.2.1 r.2.2.1 ∧ @Eq Int r.2.2.2 r.2.2.2 ∧ True) ∧ (@Eq Int bg.1 bg.1 ∧ @Eq Int bg.2.1 bg.2.1 ∧ @Eq Int bg.2.2.1 bg.2.2.1 ∧ @Eq Int bg.2.2.2 bg.2.2.2 ∧ True) ∧ @Eq _ l l ∧ @Eq Int 0 0 ∧ True ∧ True ∧ True ∧ True ∧ (@Eq Int w w ∧ @Eq Int h h ∧ @Eq _ px px ∧ True) ∧ @Eq _ l l ∧ (@Eq Int bg.1 bg.1 ∧ @Eq Int bg.2.1 bg.2.1 ∧ @Eq Int bg.2.2.1 bg.2.2.1 ∧ @Eq Int bg.2.2.2 bg.2.2.2 ∧ True) ∧ (@Eq Int r.1 r.1 ∧ @Eq Int r.2.1 r.2.1 ∧ @Eq Int r.2.2.1 r.2.2.1 ∧ @Eq Int r.2.2.2 r.2.2.2 ∧ True) ∧ @Eq _ ds ds ∧ True) ∧ (@Eq Int w w ∧ @Eq Int h h ∧ @Eq _ px px ∧ True) ∧ (@Eq Int bg.1 bg.1 ∧ @Eq Int bg.2.1 bg.2.1 ∧ @Eq Int bg.2.2.1 bg.2.2.1 ∧ @Eq Int bg.2.2.2 bg.2.2.2 ∧ True) ∧ (@Eq Int r.1 r.1 ∧ @Eq Int r.2.1 r.2.1 ∧ @Eq Int r.2.2.1 r.2.2.1 ∧ @Eq Int r.2.2.2 r.2.2.2 ∧ True) ∧ (@Eq Int 0 0 ∧ @Eq Int 0 0 ∧ True ∧ True) ∧ (@Eq _ (prepP l bg).1 (prepP l bg).1 ∧ @Eq Int (prepP l bg).2.1 (prepP l bg).2.1 ∧ @Eq Int (prepP l bg).2.2.1 (prepP l bg).2.2.1 ∧ @Eq Int (prepP l bg).2.2.2.1 (prepP l bg).2.2.2.1 ∧ @Eq Int (prepP l bg).2.2.2.2 (prepP l bg).2.2.2.2 ∧ True) ∧ @Eq _ v0.2.1 v0.2.1 ∧ (@Eq Int w w ∧ @Eq Int h h ∧ True ∧ True) ∧ True) ∧ ((@LE.le Int _ 0 (IntKind.i64.wrap (@HAdd.hAdd Int Int Int _ v0.1 1)) ∧ @LE.le Int _ (IntKind.i64.wrap (@HAdd.hAdd Int Int Int _ v0.1 1)) (@Nat.cast (Pl.T (Pl.slot 66 I64)) _ (List.length ds))) ∧ @Eq _ v0.2.1 (paintL (dmg (List.take (Int.toNat (IntKind.i64.wrap (@HAdd.hAdd Int Int Int _ v0.1 1))) ds) r) (paintP (prepP l bg)) r.1 r.2.1 w (h, px).2)) ∧ @LT.lt Nat _ (Int.toNat (@HSub.hSub Int Int Int _ (@Nat.cast Int _ (List.length ds)) (IntKind.i64.wrap (@HAdd.hAdd Int Int Int _ v0.1 1)))) (Int.toNat (@HSub.hSub Int Int Int _ (@Nat.cast Int _ (List.length ds)) v0.1)))))) ∧ (@Eq Bool (@decide (@LT.lt Int _ v0.1 (@Nat.cast Int _ (List.length ds))) (Int.decLt v0.1 (@Nat.cast Int _ (List.length ds)))) false → (True ∧ True ∧ True ∧ (True ∧ True ∧ True) ∧ (@Eq Int w (updB (w, (h, px)) l bg r ds).1 ∧ @Eq Int h (updB (w, (h, px)) l bg r ds).2.1 ∧ @Eq _ v0.2.1 (updB (w, (h, px)) l bg r ds).2.2 ∧ True) ∧ @Eq Int 0 (updE (w, (h, px)) l bg r) ∧ True))))))))))) (by kernel_rfl) ?_
  simp only [true_and, and_true, decide_eq_true_eq, decide_eq_false_iff_not, forall_const, implies_true, and_self]
  by_cases e : checkE l bg r = 0
  rotate_left
  · have eE : updE (w, h, px) l bg r = checkE l bg r := by rw [updE, if_neg e]
    have eB : updB (w, h, px) l bg r ds = (0, 0, []) := by rw [updB, if_neg (by rw [eE]; exact e)]
    rw [eE, eB]
    exact ⟨h2, fun _ => ⟨⟨rfl, rfl, rfl⟩, rfl⟩, fun h => absurd (by simpa using h) e⟩
  have hbb : (!bufOk (w, h, px) || w != IntKind.i64.wrap (r.2.2.1 - r.1) || h != IntKind.i64.wrap (r.2.2.2 - r.2.1)) = bufBad (w, h, px) r := by rw [bufBad, Bool.or_assoc]
  rw [hbb]
  refine ⟨h2, fun h => by simp [e] at h, fun _ => ⟨h1, fun hbad => ?_, fun hbad => ?_⟩⟩
  · have eE : updE (w, h, px) l bg r = 15 := by rw [updE, if_pos e, if_pos hbad]
    have eB : updB (w, h, px) l bg r ds = (0, 0, []) := by rw [updB, if_neg (by rw [eE]; decide)]
    rw [eE, eB]
    exact ⟨⟨rfl, rfl, rfl⟩, rfl⟩
  have eE : updE (w, h, px) l bg r = 0 := by rw [updE, if_pos e, if_neg (by simp [hbad])]
  obtain ⟨hb, hr⟩ := check_zero e
  obtain ⟨h0, ⟨hx0, hy0⟩, hw, hh⟩ := range_ok hr
  have hp := good_prep hb
  have hpo := scene_paint (bad_false.1 hb).2 bg
  rw [bufBad, Bool.or_eq_false_iff, Bool.or_eq_false_iff, bne_eq_false_iff_eq, bne_eq_false_iff_eq, Bool.not_eq_false'] at hbad
  obtain ⟨b1, b2, b3⟩ := hbad
  rw [wrap_in (by omega)] at b2
  rw [wrap_in (by omega)] at b3
  simp only at b2 b3
  have b4 : (List.length px : Int) = w * h := by
    rw [bufOk] at b1
    simp only [Bool.and_eq_true, decide_eq_true_eq] at b1
    exact b1.1.2
  have m1 := mul_size (a := w) (b := h) (by simp [sizeOk]; omega) (by simp [sizeOk]; omega)
  refine ⟨by omega, ⟨⟨by omega, by omega⟩, (paintL_none _ fun j _ => rfl).symm⟩, ?_⟩
  rintro ⟨i, xs, _⟩ ⟨⟨g0, g1⟩, hxs⟩
  simp only at g0 g1 hxs ⊢
  refine ⟨fun hi => ?_, fun hi => ?_⟩
  · have hlt : i.toNat < List.length ds := by omega
    have hwr : IntKind.i64.wrap (i + 1) = i + 1 := wrap_in (by omega)
    have hstep : ∀ a b, dmg (List.take (i + 1).toNat (ds : List Rect)) r a b = (dmg (List.take i.toNat (ds : List Rect)) r a b || inPart (interQ (elemAt (t := RectT) ds i.toNat) r) a b) := by
      intro a b
      rw [dmg, dmg, show (i + 1).toNat = i.toNat + 1 by omega, List.take_add_one, elemAt_get (t := RectT) ds _ hlt, List.any_append]
      simp
    have hlen : xs.length = List.length px := by rw [hxs, paintL_len]
    rw [hwr]
    refine ⟨⟨g0, by omega⟩, fun hne => ⟨?_, ⟨⟨by omega, by omega⟩, ?_⟩, by omega⟩, fun hem => ⟨⟨⟨by omega, by omega⟩, ?_⟩, by omega⟩⟩
    · rcases inter_cases (elemAt (t := RectT) ds i.toNat) r with ⟨hz, _⟩ | ⟨k1, k2, k3, k4⟩
      · rw [hz] at hne
        simp [emptyR] at hne
      · have k5 := (empty_iff _).1 k3
        rw [k4] at k5 ⊢
        simp only at k5
        rw [hp]
        refine ⟨hpo, ?_, ?_, ?_, ?_, ?_, ?_, ?_⟩ <;> simp only
        · omega
        · omega
        · omega
        all_goals omega
    · rw [fillX]
      show paintL (inPart (interQ (elemAt (t := RectT) ds i.toNat) r)) (paintP (prepP l bg)) r.1 r.2.1 w xs = _
      rw [hxs, paint_paint]
      exact paintL_congr (fun j _ => (hstep _ _).symm) fun _ _ => rfl
    · rw [hxs]
      refine paintL_congr (fun j _ => ?_) fun _ _ => rfl
      rw [hstep]
      have : inPart (interQ (elemAt (t := RectT) ds i.toNat) r) (r.1 + (j : Int) % w) (r.2.1 + (j : Int) / w) = false := by
        rcases inter_cases (elemAt (t := RectT) ds i.toNat) r with ⟨hz, hn⟩ | ⟨k1, k2, k3, k4⟩
        · rw [← Bool.not_eq_true, inter_part, Bool.and_eq_true]
          exact hn _ _
        · rw [k3] at hem
          cases hem
      rw [this, Bool.or_false]
  · rw [List.take_of_length_le (by omega)] at hxs
    rw [updB, if_pos eE, eE, hxs, hp]
    exact ⟨⟨rfl, rfl, rfl⟩, rfl⟩
abbrev K86 : KCons := (18, fun Γc => pure_ Γc ((pcon [.d BufT, .d (.list ItemT), .d PixT, .d RectT, .d (.list RectT)] fun x => ((x.1.2.2.length ≤ 9223372036854775807 ∧ ScPre x.2.1) ∧ x.2.2.2.2.1.length ≤ 9223372036854775807, .tup [bufA (updB x.1 x.2.1 x.2.2.1 x.2.2.2.1 x.2.2.2.2.1), .int .i64 (updE x.1 x.2.1 x.2.2.1 x.2.2.2.1)])))) :: K85
theorem HK86 : KS Tryz.prog K86 := ks_add (ksound_pure (s_cUpdate)) HK85
end Go.Proofs.YtmikompgiikcnaaGreat
