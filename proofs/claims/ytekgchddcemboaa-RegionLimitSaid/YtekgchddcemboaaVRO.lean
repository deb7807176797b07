/-
  A part of the proof: what some of the program's functions compute.
-/
import Derived.Test.YtekgchddcemboaaVRN
namespace Go.Proofs.Ytekgchddcemboaa
open Go Go.E Go.Proofs
set_option linter.unusedVariables false
set_option linter.unusedSimpArgs false
/-! a grid of pixels -/
def gridRun (w : Nat) : List Run := (List.range w).map fun x : Nat => ((2 * (x : Int), 2 * (x : Int) + 1) : Run)
def gridB (w h : Nat) : List Band := (List.range h).map fun y : Nat => ((2 * (y : Int), 2 * (y : Int) + 1, gridRun w) : Band)
def gridRow (w y : Nat) : List Rect := (List.range w).map fun x : Nat => ((2 * (x : Int), 2 * (y : Int), 2 * (x : Int) + 1, 2 * (y : Int) + 1) : Rect)
def grid (w h : Nat) : List Rect := (List.range h).flatMap (gridRow w)
theorem grid_bands (w h : Nat) : grid w h = rectsB (gridB w h) := by
  unfold grid rectsB gridB
  rw [List.flatMap_map]
  congr 1
  funext y
  unfold gridRow rectsB1 gridRun
  rw [List.map_map]
  rfl
theorem gridRun_canon (w : Nat) : Canon (gridRun w) := by
  unfold gridRun
  refine ⟨fun r hr => ?_, ?_⟩
  · obtain ⟨x, _, rfl⟩ := List.mem_map.1 hr
    simp only
    omega
  · rw [List.pairwise_map]
    exact List.pairwise_lt_range.imp fun h => by
      simp only
      omega
theorem grid_region {w h : Nat} (hw : w ≤ 20) (hh : h ≤ 20) : Region (grid w h) := by
  by_cases h0 : w = 0
  · refine ⟨[], ?_, canonB_nil, fun b hb => (by cases hb)⟩
    subst h0
    unfold grid gridRow
    simp [rectsB]
  · refine ⟨gridB w h, grid_bands w h, ⟨fun b hb => ?_, ?_, fun pre a b post e h1 => ?_⟩, fun b hb => ?_⟩
    · obtain ⟨y, _, rfl⟩ := List.mem_map.1 hb
      refine ⟨gridRun_canon w, fun hn => h0 ?_, by simp only; omega⟩
      have := congrArg List.length hn
      simpa [gridRun] using this
    · unfold gridB
      rw [List.pairwise_map]
      exact List.pairwise_lt_range.imp fun h => by
        simp only
        omega
    · exfalso
      have ha : a ∈ gridB w h := by rw [e]; simp
      have hb : b ∈ gridB w h := by rw [e]; simp
      obtain ⟨y, _, rfl⟩ := List.mem_map.1 ha
      obtain ⟨z, _, rfl⟩ := List.mem_map.1 hb
      simp only at h1
      omega
    · obtain ⟨y, hy, rfl⟩ := List.mem_map.1 hb
      rw [List.mem_range] at hy
      unfold inB
      refine ⟨by simp only; omega, by simp only; omega, fun r hr => ?_⟩
      obtain ⟨x, hx, rfl⟩ := List.mem_map.1 hr
      rw [List.mem_range] at hx
      exact ⟨by simp only; omega, by simp only; omega⟩
theorem grid_len (w h : Nat) : (grid w h).length = w * h := by
  unfold grid
  induction h with
  | zero => simp
  | succ h ih =>
    rw [List.range_succ, List.flatMap_append, List.length_append, ih]
    simp [gridRow, Nat.mul_succ]
theorem grid_area (w h : Nat) : areaL (grid w h) = (w * h : Nat) := by
  have : ∀ l : List Rect, (∀ r ∈ l, areaOne r = 1) → areaL l = l.length := by
    intro l
    induction l with
    | nil => intro _; rfl
    | cons r rs ih =>
      intro hl
      simp only [areaL, List.length_cons, hl r (List.mem_cons_self ..), ih fun x hx => hl x (List.mem_cons_of_mem _ hx)]
      push_cast
      omega
  rw [this, grid_len]
  intro r hr
  obtain ⟨y, _, hr⟩ := List.mem_flatMap.1 hr
  obtain ⟨x, _, rfl⟩ := List.mem_map.1 hr
  unfold areaOne
  simp only
  rw [show 2 * (x : Int) + 1 - 2 * (x : Int) = 1 by omega, show 2 * (y : Int) + 1 - 2 * (y : Int) = 1 by omega]
  rfl
theorem grid_bounds : ∀ w : Fin 21, ∀ h : Fin 21, 256 < w.1 * h.1 → boundsL (grid w.1 h.1) = (0, 0, 2 * (w.1 : Int) - 1, 2 * (h.1 : Int) - 1) := by
  decide +kernel
theorem grid_succ (w h : Nat) : grid w (h + 1) = grid w h ++ gridRow w h := by
  unfold grid
  rw [List.range_succ, List.flatMap_append]
  simp
theorem gridRow_take {w y x : Nat} (h : x < w) : (gridRow w y).take (x + 1) = (gridRow w y).take x ++ [(2 * (x : Int), 2 * (y : Int), 2 * (x : Int) + 1, 2 * (y : Int) + 1)] := by
  rw [List.take_add_one]
  congr 1
  unfold gridRow
  rw [List.getElem?_map, List.getElem?_range h]
  rfl
theorem gridRow_len (w y : Nat) : (gridRow w y).length = w := by simp [gridRow]
def sz (c : Int) : Nat := (c.tmod 21).toNat
set_option maxHeartbeats 4000000 in
theorem s_RegionLimit : PSound Try.prog 7 (pcon [.d U8, .d U8] fun x => ((0 ≤ x.1 ∧ x.1 ≤ 255) ∧ 0 ≤ x.2.1 ∧ x.2.1 ≤ 255, .bool true)) := by
  refine psoundF (K := K69) (Γc := C39) (Γr := R0) (fun x => [(4, annP [.slot 19 I64, .own 7 RectT] (fun _ y => (0 ≤ y.1 ∧ y.1 ≤ (sz x.2.1 : Int)) ∧ y.2.1 = grid (sz x.1) y.1.toNat) (fun y => ((sz x.2.1 : Int) - y.1).toNat)),
    (7, annP [.slot 23 I64, .own 7 RectT, .slot 19 I64] (fun y0 y => y.2.2.1 = y0.2.2.1 ∧ (0 ≤ y.1 ∧ y.1 ≤ (sz x.1 : Int)) ∧ y.2.1 = grid (sz x.1) y0.2.2.1.toNat ++ List.take y.1.toNat (gridRow (sz x.1) y0.2.2.1.toNat)) (fun y => ((sz x.1 : Int) - y.1).toNat))]) hm HK69 HC39 HR0 Try.call7 Try.func7 (by kernel_rfl) ?_
  rintro ⟨c, r, _⟩ hx
  obtain ⟨⟨c0, c1⟩, r0, r1⟩ : (0 ≤ c ∧ c ≤ 255) ∧ 0 ≤ r ∧ r ≤ 255 := hx
  refine Eq.mpr (β := (True ∧ True ∧ (@Eq Int (21:Int) (0:Int) → False) ∧ True ∧ True ∧ (@Eq Int (21:Int) (0:Int) → False) ∧ True ∧ True ∧ True ∧ True ∧ True ∧ True ∧ ((True ∧ (@Eq Int (Int.ofNat 0) (Int.ofNat 0) ∧ @Eq Int (IntKind.wrap IntKind.i64 (Int.tmod r (21:Int))) (IntKind.wrap IntKind.i64 (Int.tmod r (21:Int))) ∧ True ∧ @Eq Int (IntKind.wrap IntKind.i64 (Int.tmod r (21:Int))) (IntKind.wrap IntKind.i64 (Int.tmod r (21:Int))) ∧ @Eq Int (IntKind.wrap IntKind.i64 (Int.tmod c (21:Int))) (IntKind.wrap IntKind.i64 (Int.tmod c (21:Int))) ∧ @Eq Int (IntKind.wrap IntKind.i64 (Int.tmod r (21:Int))) (IntKind.wrap IntKind.i64 (Int.tmod r (21:Int))) ∧ @Eq Int (Int.tmod r (21:Int)) (Int.tmod r (21:Int)) ∧ @Eq Int r r ∧ @Eq Int (IntKind.wrap IntKind.i64 (Int.tmod c (21:Int))) (IntKind.wrap IntKind.i64 (Int.tmod c (21:Int))) ∧ @Eq Int (Int.tmod c (21:Int)) (Int.tmod c (21:Int)) ∧ @Eq Int c c ∧ @Eq Bool false false ∧ @Eq Int c c ∧ @Eq Int r r ∧ True) ∧ @Eq _ ([] : List (Ty.T RectT)) ([] : List (Ty.T RectT)) ∧ True) ∧ (@LE.le Int Int.instLEInt (0:Int) (0:Int) ∧ @LE.le Int Int.instLEInt (0:Int) (@Nat.cast Int _ (sz r))) ∧ @Eq _ ([] : List (Ty.T RectT)) (grid (sz c) (0:Nat))) ∧ (∀ (v0 : (Prod Int (Prod (List (Prod Int (Prod Int (Prod Int Int)))) Unit))), (((@LE.le Int Int.instLEInt (0:Int) v0.1 ∧ @LE.le Int Int.instLEInt v0.1 (@Nat.cast Int _ (sz r))) ∧ @Eq _ v0.2.1 (grid (sz c) (Int.toNat v0.1))) → (True ∧ (@Eq Bool (@decide (@LT.lt Int Int.instLTInt v0.1 (IntKind.wrap IntKind.i64 (Int.tmod r (21:Int)))) (Int.decLt v0.1 (IntKind.wrap IntKind.i64 (Int.tmod r (21:Int))))) true → (True ∧ True ∧ True ∧ True ∧ ((True ∧ (@Eq Int (0:Int) (0:Int) ∧ @Eq Int (IntKind.wrap IntKind.i64 (Int.tmod c (21:Int))) (IntKind.wrap IntKind.i64 (Int.tmod c (21:Int))) ∧ @Eq Int v0.1 v0.1 ∧ @Eq Int v0.1 v0.1 ∧ @Eq Bool (@decide (@LT.lt Int Int.instLTInt v0.1 (IntKind.wrap IntKind.i64 (Int.tmod r (21:Int)))) (Int.decLt v0.1 (IntKind.wrap IntKind.i64 (Int.tmod r (21:Int))))) (@decide (@LT.lt Int Int.instLTInt v0.1 (IntKind.wrap IntKind.i64 (Int.tmod r (21:Int)))) (Int.decLt v0.1 (IntKind.wrap IntKind.i64 (Int.tmod r (21:Int))))) ∧ @Eq Int v0.1 (v0.1, Unit.unit).1 ∧ @Eq Int (IntKind.wrap IntKind.i64 (Int.tmod r (21:Int))) (IntKind.wrap IntKind.i64 (Int.tmod r (21:Int))) ∧ True ∧ @Eq Int (IntKind.wrap IntKind.i64 (Int.tmod r (21:Int))) (IntKind.wrap IntKind.i64 (Int.tmod r (21:Int))) ∧ @Eq Int (IntKind.wrap IntKind.i64 (Int.tmod c (21:Int))) (IntKind.wrap IntKind.i64 (Int.tmod c (21:Int))) ∧ @Eq Int (IntKind.wrap IntKind.i64 (Int.tmod r (21:Int))) (IntKind.wrap IntKind.i64 (Int.tmod r (21:Int))) ∧ @Eq Int (Int.tmod r (21:Int)) (Int.tmod r (21:Int)) ∧ @Eq Int r r ∧ @Eq Int (IntKind.wrap IntKind.i64 (Int.tmod c (21:Int))) (IntKind.wrap IntKind.i64 (Int.tmod c (21:Int))) ∧ @Eq Int (Int.tmod c (21:Int)) (Int.tmod c (21:Int)) ∧ @Eq Int c c ∧ @Eq Bool false false ∧ @Eq Int c c ∧ @Eq Int r r ∧ True) ∧ @Eq _ v0.2.1 v0.2.1 ∧ True) ∧ @Eq Int (v0.1, Unit.unit).1 (v0.1, Unit.unit).1 ∧ (@LE.le Int Int.instLEInt (0:Int) (0:Int) ∧ @LE.le Int Int.instLEInt (0:Int) (@Nat.cast Int _ (sz c))) ∧ @Eq _ v0.2.1 (HAppend.hAppend (grid (sz c) (Int.toNat (v0.1, Unit.unit).1)) (List.take (Int.toNat (0:Int)) (gridRow (sz c) (Int.toNat (v0.1, Unit.unit).1))))) ∧ (∀ (v1 : (Prod Int (Prod (List (Prod Int (Prod Int (Prod Int Int)))) (Prod Int Unit)))), ((@Eq Int v1.2.2.1 (v0.1, Unit.unit).1 ∧ (@LE.le Int Int.instLEInt (0:Int) v1.1 ∧ @LE.le Int Int.instLEInt v1.1 (@Nat.cast Int _ (sz c))) ∧ @Eq _ v1.2.1 (HAppend.hAppend (grid (sz c) (Int.toNat (v0.1, Unit.unit).1)) (List.take (Int.toNat v1.1) (gridRow (sz c) (Int.toNat (v0.1, Unit.unit).1))))) → (True ∧ (@Eq Bool (@decide (@LT.lt Int Int.instLTInt v1.1 (IntKind.wrap IntKind.i64 (Int.tmod c (21:Int)))) (Int.decLt v1.1 (IntKind.wrap IntKind.i64 (Int.tmod c (21:Int))))) true → (True ∧ True ∧ True ∧ True ∧ True ∧ True ∧ True ∧ True ∧ True ∧ True ∧ True ∧ True ∧ True ∧ True ∧ True ∧ @LE.le Nat instLENat (@HMul.hMul Nat Nat Nat _ (@HAdd.hAdd Nat Nat Nat _ (List.length v1.2.1) (List.length (((IntKind.wrap IntKind.i64 (@HMul.hMul Int Int Int _ (2:Int) v1.1)), ((IntKind.wrap IntKind.i64 (@HMul.hMul Int Int Int _ (2:Int) v0.1)), ((IntKind.wrap IntKind.i64 (@HAdd.hAdd Int Int Int _ (IntKind.wrap IntKind.i64 (@HMul.hMul Int Int Int _ (2:Int) v1.1)) (1:Int))), (IntKind.wrap IntKind.i64 (@HAdd.hAdd Int Int Int _ (IntKind.wrap IntKind.i64 (@HMul.hMul Int Int Int _ (2:Int) v0.1)) (1:Int)))))) :: ([] : List (Ty.T (Ty.prod (Ty.int IntKind.i64) (Ty.prod (Ty.int IntKind.i64) (Ty.prod (Ty.int IntKind.i64) (Ty.int IntKind.i64))))))))) (32:Nat)) (140737488355328:Nat) ∧ True ∧ True ∧ True ∧ (True ∧ (@Eq Int (IntKind.wrap IntKind.i64 (@HAdd.hAdd Int Int Int _ v1.1 (1:Int))) (IntKind.wrap IntKind.i64 (@HAdd.hAdd Int Int Int _ v1.1 (1:Int))) ∧ @Eq Int (IntKind.wrap IntKind.i64 (Int.tmod c (21:Int))) (IntKind.wrap IntKind.i64 (Int.tmod c (21:Int))) ∧ @Eq Int v0.1 v0.1 ∧ @Eq Int v0.1 v0.1 ∧ @Eq Bool (@decide (@LT.lt Int Int.instLTInt v0.1 (IntKind.wrap IntKind.i64 (Int.tmod r (21:Int)))) (Int.decLt v0.1 (IntKind.wrap IntKind.i64 (Int.tmod r (21:Int))))) (@decide (@LT.lt Int Int.instLTInt v0.1 (IntKind.wrap IntKind.i64 (Int.tmod r (21:Int)))) (Int.decLt v0.1 (IntKind.wrap IntKind.i64 (Int.tmod r (21:Int))))) ∧ @Eq Int v1.2.2.1 (v1.2.2.1, Unit.unit).1 ∧ @Eq Int (IntKind.wrap IntKind.i64 (Int.tmod r (21:Int))) (IntKind.wrap IntKind.i64 (Int.tmod r (21:Int))) ∧ True ∧ @Eq Int (IntKind.wrap IntKind.i64 (Int.tmod r (21:Int))) (IntKind.wrap IntKind.i64 (Int.tmod r (21:Int))) ∧ @Eq Int (IntKind.wrap IntKind.i64 (Int.tmod c (21:Int))) (IntKind.wrap IntKind.i64 (Int.tmod c (21:Int))) ∧ @Eq Int (IntKind.wrap IntKind.i64 (Int.tmod r (21:Int))) (IntKind.wrap IntKind.i64 (Int.tmod r (21:Int))) ∧ @Eq Int (Int.tmod r (21:Int)) (Int.tmod r (21:Int)) ∧ @Eq Int r r ∧ @Eq Int (IntKind.wrap IntKind.i64 (Int.tmod c (21:Int))) (IntKind.wrap IntKind.i64 (Int.tmod c (21:Int))) ∧ @Eq Int (Int.tmod c (21:Int)) (Int.tmod c (21:Int)) ∧ @Eq Int c c ∧ @Eq Bool false false ∧ @Eq Int c c ∧ @Eq Int r r ∧ True) ∧ @Eq _ (HAppend.hAppend v1.2.1 (((IntKind.wrap IntKind.i64 (@HMul.hMul Int Int Int _ (2:Int) v1.1)), ((IntKind.wrap IntKind.i64 (@HMul.hMul Int Int Int _ (2:Int) v0.1)), ((IntKind.wrap IntKind.i64 (@HAdd.hAdd Int Int Int _ (IntKind.wrap IntKind.i64 (@HMul.hMul Int Int Int _ (2:Int) v1.1)) (1:Int))), (IntKind.wrap IntKind.i64 (@HAdd.hAdd Int Int Int _ (IntKind.wrap IntKind.i64 (@HMul.hMul Int Int Int _ (2:Int) v0.1)) (1:Int)))))) :: ([] : List (Ty.T (Ty.prod (Ty.int IntKind.i64) (Ty.prod (Ty.int IntKind.i64) (Ty.prod (Ty.int IntKind.i64) (Ty.int IntKind.i64)))))))) (HAppend.hAppend v1.2.1 (((IntKind.wrap IntKind.i64 (@HMul.hMul Int Int Int _ (2:Int) v1.1)), ((IntKind.wrap IntKind.i64 (@HMul.hMul Int Int Int _ (2:Int) v0.1)), ((IntKind.wrap IntKind.i64 (@HAdd.hAdd Int Int Int _ (IntKind.wrap IntKind.i64 (@HMul.hMul Int Int Int _ (2:Int) v1.1)) (1:Int))), (IntKind.wrap IntKind.i64 (@HAdd.hAdd Int Int Int _ (IntKind.wrap IntKind.i64 (@HMul.hMul Int Int Int _ (2:Int) v0.1)) (1:Int)))))) :: ([] : List (Ty.T (Ty.prod (Ty.int IntKind.i64) (Ty.prod (Ty.int IntKind.i64) (Ty.prod (Ty.int IntKind.i64) (Ty.int IntKind.i64)))))))) ∧ True) ∧ (@Eq Int (v1.2.2.1, Unit.unit).1 (v0.1, Unit.unit).1 ∧ (@LE.le Int Int.instLEInt (0:Int) (IntKind.wrap IntKind.i64 (@HAdd.hAdd Int Int Int _ v1.1 (1:Int))) ∧ @LE.le Int Int.instLEInt (IntKind.wrap IntKind.i64 (@HAdd.hAdd Int Int Int _ v1.1 (1:Int))) (@Nat.cast Int _ (sz c))) ∧ @Eq _ (HAppend.hAppend v1.2.1 (((IntKind.wrap IntKind.i64 (@HMul.hMul Int Int Int _ (2:Int) v1.1)), ((IntKind.wrap IntKind.i64 (@HMul.hMul Int Int Int _ (2:Int) v0.1)), ((IntKind.wrap IntKind.i64 (@HAdd.hAdd Int Int Int _ (IntKind.wrap IntKind.i64 (@HMul.hMul Int Int Int _ (2:Int) v1.1)) (1:Int))), (IntKind.wrap IntKind.i64 (@HAdd.hAdd Int Int Int _ (IntKind.wrap IntKind.i64 (@HMul.hMul Int Int Int _ (2:Int) v0.1)) (1:Int)))))) :: ([] : List (Ty.T (Ty.prod (Ty.int IntKind.i64) (Ty.prod (Ty.int IntKind.i64) (Ty.prod (Ty.int IntKind.i64) (Ty.int IntKind.i64)))))))) (HAppend.hAppend (grid (sz c) (Int.toNat (v0.1, Unit.unit).1)) (List.take (Int.toNat (IntKind.wrap IntKind.i64 (@HAdd.hAdd Int Int Int _ v1.1 (1:Int)))) (gridRow (sz c) (Int.toNat (v0.1, Unit.unit).1))))) ∧ @LT.lt Nat instLTNat (Int.toNat (@HSub.hSub Int Int Int _ (@Nat.cast Int _ (sz c)) (IntKind.wrap IntKind.i64 (@HAdd.hAdd Int Int Int _ v1.1 (1:Int))))) (Int.toNat (@HSub.hSub Int Int Int _ (@Nat.cast Int _ (sz c)) v1.1)))) ∧ (@Eq Bool (@decide (@LT.lt Int Int.instLTInt v1.1 (IntKind.wrap IntKind.i64 (Int.tmod c (21:Int)))) (Int.decLt v1.1 (IntKind.wrap IntKind.i64 (Int.tmod c (21:Int))))) false → (True ∧ True ∧ (True ∧ (@Eq Int (IntKind.wrap IntKind.i64 (@HAdd.hAdd Int Int Int _ v1.2.2.1 (1:Int))) (IntKind.wrap IntKind.i64 (@HAdd.hAdd Int Int Int _ v1.2.2.1 (1:Int))) ∧ @Eq Int (IntKind.wrap IntKind.i64 (Int.tmod r (21:Int))) (IntKind.wrap IntKind.i64 (Int.tmod r (21:Int))) ∧ True ∧ @Eq Int (IntKind.wrap IntKind.i64 (Int.tmod r (21:Int))) (IntKind.wrap IntKind.i64 (Int.tmod r (21:Int))) ∧ @Eq Int (IntKind.wrap IntKind.i64 (Int.tmod c (21:Int))) (IntKind.wrap IntKind.i64 (Int.tmod c (21:Int))) ∧ @Eq Int (IntKind.wrap IntKind.i64 (Int.tmod r (21:Int))) (IntKind.wrap IntKind.i64 (Int.tmod r (21:Int))) ∧ @Eq Int (Int.tmod r (21:Int)) (Int.tmod r (21:Int)) ∧ @Eq Int r r ∧ @Eq Int (IntKind.wrap IntKind.i64 (Int.tmod c (21:Int))) (IntKind.wrap IntKind.i64 (Int.tmod c (21:Int))) ∧ @Eq Int (Int.tmod c (21:Int)) (Int.tmod c (21:Int)) ∧ @Eq Int c c ∧ @Eq Bool false false ∧ @Eq Int c c ∧ @Eq Int r r ∧ True) ∧ @Eq _ v1.2.1 v1.2.1 ∧ True) ∧ ((@LE.le Int Int.instLEInt (0:Int) (IntKind.wrap IntKind.i64 (@HAdd.hAdd Int Int Int _ v1.2.2.1 (1:Int))) ∧ @LE.le Int Int.instLEInt (IntKind.wrap IntKind.i64 (@HAdd.hAdd Int Int Int _ v1.2.2.1 (1:Int))) (@Nat.cast Int _ (sz r))) ∧ @Eq _ v1.2.1 (grid (sz c) (Int.toNat (IntKind.wrap IntKind.i64 (@HAdd.hAdd Int Int Int _ v1.2.2.1 (1:Int)))))) ∧ @LT.lt Nat instLTNat (Int.toNat (@HSub.hSub Int Int Int _ (@Nat.cast Int _ (sz r)) (IntKind.wrap IntKind.i64 (@HAdd.hAdd Int Int Int _ v1.2.2.1 (1:Int))))) (Int.toNat (@HSub.hSub Int Int Int _ (@Nat.cast Int _ (sz r)) v0.1))))))))) ∧ (@Eq Bool (@decide (@LT.lt Int Int.instLTInt v0.1 (IntKind.wrap IntKind.i64 (Int.tmod r (21:Int)))) (Int.decLt v0.1 (IntKind.wrap IntKind.i64 (Int.tmod r (21:Int))))) false → (True ∧ @LE.le Nat instLENat (List.length v0.2.1) (1000:Nat) ∧ True ∧ True ∧ True ∧ True ∧ True ∧ True ∧ True ∧ True ∧ True ∧ (@Eq Bool (@decide (@GT.gt Int Int.instLTInt (IntKind.wrap IntKind.i64 (@HMul.hMul Int Int Int _ (IntKind.wrap IntKind.i64 (Int.tmod c (21:Int))) (IntKind.wrap IntKind.i64 (Int.tmod r (21:Int))))) (256:Int)) (Int.decLt (256:Int) (IntKind.wrap IntKind.i64 (@HMul.hMul Int Int Int _ (IntKind.wrap IntKind.i64 (Int.tmod c (21:Int))) (IntKind.wrap IntKind.i64 (Int.tmod r (21:Int))))))) true → (True ∧ True ∧ True ∧ (@Eq Bool (BEq.beq (limE (combinedL v0.2.1 ([] : List Rect) (1:Int))) (5:Int)) true → True) ∧ (@Eq Bool (BEq.beq (limE (combinedL v0.2.1 ([] : List Rect) (1:Int))) (5:Int)) true → True) ∧ (@Eq Bool (BEq.beq (limE (combinedL v0.2.1 ([] : List Rect) (1:Int))) (5:Int)) true → True) ∧ True ∧ True ∧ (@Eq Bool (and (BEq.beq (limE (combinedL v0.2.1 ([] : List Rect) (1:Int))) (5:Int)) (BEq.beq (@Nat.cast Int _ (List.length (limL (combinedL v0.2.1 ([] : List Rect) (1:Int))))) (0:Int))) true → True) ∧ (@Eq Bool (and (BEq.beq (limE (combinedL v0.2.1 ([] : List Rect) (1:Int))) (5:Int)) (BEq.beq (@Nat.cast Int _ (List.length (limL (combinedL v0.2.1 ([] : List Rect) (1:Int))))) (0:Int))) true → @LE.le Nat instLENat (List.length v0.2.1) (1000:Nat)) ∧ (@Eq Bool (and (BEq.beq (limE (combinedL v0.2.1 ([] : List Rect) (1:Int))) (5:Int)) (BEq.beq (@Nat.cast Int _ (List.length (limL (combinedL v0.2.1 ([] : List Rect) (1:Int))))) (0:Int))) true → True) ∧ True ∧ True ∧ (@Eq Bool (and (and (BEq.beq (limE (combinedL v0.2.1 ([] : List Rect) (1:Int))) (5:Int)) (BEq.beq (@Nat.cast Int _ (List.length (limL (combinedL v0.2.1 ([] : List Rect) (1:Int))))) (0:Int))) (not (isCan v0.2.1))) true → True) ∧ (@Eq Bool (and (and (BEq.beq (limE (combinedL v0.2.1 ([] : List Rect) (1:Int))) (5:Int)) (BEq.beq (@Nat.cast Int _ (List.length (limL (combinedL v0.2.1 ([] : List Rect) (1:Int))))) (0:Int))) (not (isCan v0.2.1))) true → @LE.le Nat instLENat (List.length v0.2.1) (1000:Nat)) ∧ (@Eq Bool (and (and (BEq.beq (limE (combinedL v0.2.1 ([] : List Rect) (1:Int))) (5:Int)) (BEq.beq (@Nat.cast Int _ (List.length (limL (combinedL v0.2.1 ([] : List Rect) (1:Int))))) (0:Int))) (not (isCan v0.2.1))) true → True) ∧ (@Eq Bool (and (and (BEq.beq (limE (combinedL v0.2.1 ([] : List Rect) (1:Int))) (5:Int)) (BEq.beq (@Nat.cast Int _ (List.length (limL (combinedL v0.2.1 ([] : List Rect) (1:Int))))) (0:Int))) (not (isCan v0.2.1))) true → True) ∧ (@Eq Bool (and (and (BEq.beq (limE (combinedL v0.2.1 ([] : List Rect) (1:Int))) (5:Int)) (BEq.beq (@Nat.cast Int _ (List.length (limL (combinedL v0.2.1 ([] : List Rect) (1:Int))))) (0:Int))) (not (isCan v0.2.1))) true → True) ∧ (@Eq Bool (and (and (BEq.beq (limE (combinedL v0.2.1 ([] : List Rect) (1:Int))) (5:Int)) (BEq.beq (@Nat.cast Int _ (List.length (limL (combinedL v0.2.1 ([] : List Rect) (1:Int))))) (0:Int))) (not (isCan v0.2.1))) true → True) ∧ True ∧ True ∧ (@Eq Bool (and (and (and (BEq.beq (limE (combinedL v0.2.1 ([] : List Rect) (1:Int))) (5:Int)) (BEq.beq (@Nat.cast Int _ (List.length (limL (combinedL v0.2.1 ([] : List Rect) (1:Int))))) (0:Int))) (not (isCan v0.2.1))) (BEq.beq (areaL (combinedL v0.2.1 ([] : List Rect) (1:Int))) (IntKind.wrap IntKind.i64 (@HMul.hMul Int Int Int _ (IntKind.wrap IntKind.i64 (Int.tmod c (21:Int))) (IntKind.wrap IntKind.i64 (Int.tmod r (21:Int))))))) true → True) ∧ (@Eq Bool (and (and (and (BEq.beq (limE (combinedL v0.2.1 ([] : List Rect) (1:Int))) (5:Int)) (BEq.beq (@Nat.cast Int _ (List.length (limL (combinedL v0.2.1 ([] : List Rect) (1:Int))))) (0:Int))) (not (isCan v0.2.1))) (BEq.beq (areaL (combinedL v0.2.1 ([] : List Rect) (1:Int))) (IntKind.wrap IntKind.i64 (@HMul.hMul Int Int Int _ (IntKind.wrap IntKind.i64 (Int.tmod c (21:Int))) (IntKind.wrap IntKind.i64 (Int.tmod r (21:Int))))))) true → @LE.le Nat instLENat (List.length v0.2.1) (1000000:Nat)) ∧ (@Eq Bool (and (and (and (BEq.beq (limE (combinedL v0.2.1 ([] : List Rect) (1:Int))) (5:Int)) (BEq.beq (@Nat.cast Int _ (List.length (limL (combinedL v0.2.1 ([] : List Rect) (1:Int))))) (0:Int))) (not (isCan v0.2.1))) (BEq.beq (areaL (combinedL v0.2.1 ([] : List Rect) (1:Int))) (IntKind.wrap IntKind.i64 (@HMul.hMul Int Int Int _ (IntKind.wrap IntKind.i64 (Int.tmod c (21:Int))) (IntKind.wrap IntKind.i64 (Int.tmod r (21:Int))))))) true → True) ∧ (@Eq Bool (and (and (and (BEq.beq (limE (combinedL v0.2.1 ([] : List Rect) (1:Int))) (5:Int)) (BEq.beq (@Nat.cast Int _ (List.length (limL (combinedL v0.2.1 ([] : List Rect) (1:Int))))) (0:Int))) (not (isCan v0.2.1))) (BEq.beq (areaL (combinedL v0.2.1 ([] : List Rect) (1:Int))) (IntKind.wrap IntKind.i64 (@HMul.hMul Int Int Int _ (IntKind.wrap IntKind.i64 (Int.tmod c (21:Int))) (IntKind.wrap IntKind.i64 (Int.tmod r (21:Int))))))) true → True) ∧ (@Eq Bool (and (and (and (BEq.beq (limE (combinedL v0.2.1 ([] : List Rect) (1:Int))) (5:Int)) (BEq.beq (@Nat.cast Int _ (List.length (limL (combinedL v0.2.1 ([] : List Rect) (1:Int))))) (0:Int))) (not (isCan v0.2.1))) (BEq.beq (areaL (combinedL v0.2.1 ([] : List Rect) (1:Int))) (IntKind.wrap IntKind.i64 (@HMul.hMul Int Int Int _ (IntKind.wrap IntKind.i64 (Int.tmod c (21:Int))) (IntKind.wrap IntKind.i64 (Int.tmod r (21:Int))))))) true → True) ∧ (@Eq Bool (and (and (and (BEq.beq (limE (combinedL v0.2.1 ([] : List Rect) (1:Int))) (5:Int)) (BEq.beq (@Nat.cast Int _ (List.length (limL (combinedL v0.2.1 ([] : List Rect) (1:Int))))) (0:Int))) (not (isCan v0.2.1))) (BEq.beq (areaL (combinedL v0.2.1 ([] : List Rect) (1:Int))) (IntKind.wrap IntKind.i64 (@HMul.hMul Int Int Int _ (IntKind.wrap IntKind.i64 (Int.tmod c (21:Int))) (IntKind.wrap IntKind.i64 (Int.tmod r (21:Int))))))) true → True) ∧ (@Eq Bool (and (and (and (BEq.beq (limE (combinedL v0.2.1 ([] : List Rect) (1:Int))) (5:Int)) (BEq.beq (@Nat.cast Int _ (List.length (limL (combinedL v0.2.1 ([] : List Rect) (1:Int))))) (0:Int))) (not (isCan v0.2.1))) (BEq.beq (areaL (combinedL v0.2.1 ([] : List Rect) (1:Int))) (IntKind.wrap IntKind.i64 (@HMul.hMul Int Int Int _ (IntKind.wrap IntKind.i64 (Int.tmod c (21:Int))) (IntKind.wrap IntKind.i64 (Int.tmod r (21:Int))))))) true → True) ∧ (@Eq Bool (and (and (and (BEq.beq (limE (combinedL v0.2.1 ([] : List Rect) (1:Int))) (5:Int)) (BEq.beq (@Nat.cast Int _ (List.length (limL (combinedL v0.2.1 ([] : List Rect) (1:Int))))) (0:Int))) (not (isCan v0.2.1))) (BEq.beq (areaL (combinedL v0.2.1 ([] : List Rect) (1:Int))) (IntKind.wrap IntKind.i64 (@HMul.hMul Int Int Int _ (IntKind.wrap IntKind.i64 (Int.tmod c (21:Int))) (IntKind.wrap IntKind.i64 (Int.tmod r (21:Int))))))) true → True) ∧ (@Eq Bool (and (and (and (BEq.beq (limE (combinedL v0.2.1 ([] : List Rect) (1:Int))) (5:Int)) (BEq.beq (@Nat.cast Int _ (List.length (limL (combinedL v0.2.1 ([] : List Rect) (1:Int))))) (0:Int))) (not (isCan v0.2.1))) (BEq.beq (areaL (combinedL v0.2.1 ([] : List Rect) (1:Int))) (IntKind.wrap IntKind.i64 (@HMul.hMul Int Int Int _ (IntKind.wrap IntKind.i64 (Int.tmod c (21:Int))) (IntKind.wrap IntKind.i64 (Int.tmod r (21:Int))))))) true → True) ∧ (@Eq Bool (and (and (and (BEq.beq (limE (combinedL v0.2.1 ([] : List Rect) (1:Int))) (5:Int)) (BEq.beq (@Nat.cast Int _ (List.length (limL (combinedL v0.2.1 ([] : List Rect) (1:Int))))) (0:Int))) (not (isCan v0.2.1))) (BEq.beq (areaL (combinedL v0.2.1 ([] : List Rect) (1:Int))) (IntKind.wrap IntKind.i64 (@HMul.hMul Int Int Int _ (IntKind.wrap IntKind.i64 (Int.tmod c (21:Int))) (IntKind.wrap IntKind.i64 (Int.tmod r (21:Int))))))) true → True) ∧ True ∧ True ∧ (@Eq Bool (and (and (and (and (BEq.beq (limE (combinedL v0.2.1 ([] : List Rect) (1:Int))) (5:Int)) (BEq.beq (@Nat.cast Int _ (List.length (limL (combinedL v0.2.1 ([] : List Rect) (1:Int))))) (0:Int))) (not (isCan v0.2.1))) (BEq.beq (areaL (combinedL v0.2.1 ([] : List Rect) (1:Int))) (IntKind.wrap IntKind.i64 (@HMul.hMul Int Int Int _ (IntKind.wrap IntKind.i64 (Int.tmod c (21:Int))) (IntKind.wrap IntKind.i64 (Int.tmod r (21:Int))))))) (and (BEq.beq (boundsL v0.2.1).1 (0:Int)) (and (BEq.beq (boundsL v0.2.1).2.1 (0:Int)) (and (BEq.beq (boundsL v0.2.1).2.2.1 (IntKind.wrap IntKind.i64 (@HSub.hSub Int Int Int _ (IntKind.wrap IntKind.i64 (@HMul.hMul Int Int Int _ (2:Int) (IntKind.wrap IntKind.i64 (Int.tmod c (21:Int))))) (1:Int)))) (BEq.beq (boundsL v0.2.1).2.2.2 (IntKind.wrap IntKind.i64 (@HSub.hSub Int Int Int _ (IntKind.wrap IntKind.i64 (@HMul.hMul Int Int Int _ (2:Int) (IntKind.wrap IntKind.i64 (Int.tmod r (21:Int))))) (1:Int)))))))) true → True) ∧ True ∧ True ∧ (True ∧ True) ∧ @Eq Bool (and (and (and (and (and (BEq.beq (limE (combinedL v0.2.1 ([] : List Rect) (1:Int))) (5:Int)) (BEq.beq (@Nat.cast Int _ (List.length (limL (combinedL v0.2.1 ([] : List Rect) (1:Int))))) (0:Int))) (not (isCan v0.2.1))) (BEq.beq (areaL (combinedL v0.2.1 ([] : List Rect) (1:Int))) (IntKind.wrap IntKind.i64 (@HMul.hMul Int Int Int _ (IntKind.wrap IntKind.i64 (Int.tmod c (21:Int))) (IntKind.wrap IntKind.i64 (Int.tmod r (21:Int))))))) (and (BEq.beq (boundsL v0.2.1).1 (0:Int)) (and (BEq.beq (boundsL v0.2.1).2.1 (0:Int)) (and (BEq.beq (boundsL v0.2.1).2.2.1 (IntKind.wrap IntKind.i64 (@HSub.hSub Int Int Int _ (IntKind.wrap IntKind.i64 (@HMul.hMul Int Int Int _ (2:Int) (IntKind.wrap IntKind.i64 (Int.tmod c (21:Int))))) (1:Int)))) (BEq.beq (boundsL v0.2.1).2.2.2 (IntKind.wrap IntKind.i64 (@HSub.hSub Int Int Int _ (IntKind.wrap IntKind.i64 (@HMul.hMul Int Int Int _ (2:Int) (IntKind.wrap IntKind.i64 (Int.tmod r (21:Int))))) (1:Int)))))))) true) true)) ∧ (@Eq Bool (@decide (@GT.gt Int Int.instLTInt (IntKind.wrap IntKind.i64 (@HMul.hMul Int Int Int _ (IntKind.wrap IntKind.i64 (Int.tmod c (21:Int))) (IntKind.wrap IntKind.i64 (Int.tmod r (21:Int))))) (256:Int)) (Int.decLt (256:Int) (IntKind.wrap IntKind.i64 (@HMul.hMul Int Int Int _ (IntKind.wrap IntKind.i64 (Int.tmod c (21:Int))) (IntKind.wrap IntKind.i64 (Int.tmod r (21:Int))))))) false → (True ∧ True ∧ True ∧ (@Eq Bool (BEq.beq (limE (combinedL v0.2.1 ([] : List Rect) (1:Int))) (0:Int)) true → True) ∧ (@Eq Bool (BEq.beq (limE (combinedL v0.2.1 ([] : List Rect) (1:Int))) (0:Int)) true → True) ∧ (@Eq Bool (BEq.beq (limE (combinedL v0.2.1 ([] : List Rect) (1:Int))) (0:Int)) true → (@LE.le Nat instLENat (List.length (limL (combinedL v0.2.1 ([] : List Rect) (1:Int)))) (1000000000:Nat) ∧ @LE.le Nat instLENat (List.length v0.2.1) (1000000000:Nat))) ∧ True ∧ True ∧ (@Eq Bool (and (BEq.beq (limE (combinedL v0.2.1 ([] : List Rect) (1:Int))) (0:Int)) (sameRects (limL (combinedL v0.2.1 ([] : List Rect) (1:Int))) v0.2.1)) true → True) ∧ (@Eq Bool (and (BEq.beq (limE (combinedL v0.2.1 ([] : List Rect) (1:Int))) (0:Int)) (sameRects (limL (combinedL v0.2.1 ([] : List Rect) (1:Int))) v0.2.1)) true → @LE.le Nat instLENat (List.length v0.2.1) (1000:Nat)) ∧ True ∧ True ∧ (@Eq Bool (and (and (BEq.beq (limE (combinedL v0.2.1 ([] : List Rect) (1:Int))) (0:Int)) (sameRects (limL (combinedL v0.2.1 ([] : List Rect) (1:Int))) v0.2.1)) (isCan v0.2.1)) true → True) ∧ (@Eq Bool (and (and (BEq.beq (limE (combinedL v0.2.1 ([] : List Rect) (1:Int))) (0:Int)) (sameRects (limL (combinedL v0.2.1 ([] : List Rect) (1:Int))) v0.2.1)) (isCan v0.2.1)) true → @LE.le Nat instLENat (List.length v0.2.1) (1000:Nat)) ∧ (@Eq Bool (and (and (BEq.beq (limE (combinedL v0.2.1 ([] : List Rect) (1:Int))) (0:Int)) (sameRects (limL (combinedL v0.2.1 ([] : List Rect) (1:Int))) v0.2.1)) (isCan v0.2.1)) true → True) ∧ (@Eq Bool (and (and (BEq.beq (limE (combinedL v0.2.1 ([] : List Rect) (1:Int))) (0:Int)) (sameRects (limL (combinedL v0.2.1 ([] : List Rect) (1:Int))) v0.2.1)) (isCan v0.2.1)) true → True) ∧ (@Eq Bool (and (and (BEq.beq (limE (combinedL v0.2.1 ([] : List Rect) (1:Int))) (0:Int)) (sameRects (limL (combinedL v0.2.1 ([] : List Rect) (1:Int))) v0.2.1)) (isCan v0.2.1)) true → True) ∧ (@Eq Bool (and (and (BEq.beq (limE (combinedL v0.2.1 ([] : List Rect) (1:Int))) (0:Int)) (sameRects (limL (combinedL v0.2.1 ([] : List Rect) (1:Int))) v0.2.1)) (isCan v0.2.1)) true → True) ∧ True ∧ True ∧ (@Eq Bool (and (and (and (BEq.beq (limE (combinedL v0.2.1 ([] : List Rect) (1:Int))) (0:Int)) (sameRects (limL (combinedL v0.2.1 ([] : List Rect) (1:Int))) v0.2.1)) (isCan v0.2.1)) (BEq.beq (areaL (combinedL v0.2.1 ([] : List Rect) (1:Int))) (IntKind.wrap IntKind.i64 (@HMul.hMul Int Int Int _ (IntKind.wrap IntKind.i64 (Int.tmod c (21:Int))) (IntKind.wrap IntKind.i64 (Int.tmod r (21:Int))))))) true → True) ∧ True ∧ True ∧ (True ∧ True) ∧ @Eq Bool (and (and (and (and (BEq.beq (limE (combinedL v0.2.1 ([] : List Rect) (1:Int))) (0:Int)) (sameRects (limL (combinedL v0.2.1 ([] : List Rect) (1:Int))) v0.2.1)) (isCan v0.2.1)) (BEq.beq (areaL (combinedL v0.2.1 ([] : List Rect) (1:Int))) (IntKind.wrap IntKind.i64 (@HMul.hMul Int Int Int _ (IntKind.wrap IntKind.i64 (Int.tmod c (21:Int))) (IntKind.wrap IntKind.i64 (Int.tmod r (21:Int))))))) true) true))))))))) (by kernel_rfl) ?_
  simp only [true_and, and_true, decide_eq_true_eq, decide_eq_false_iff_not, forall_const, implies_true, and_self]
  have hsz : ∀ n : Int, 0 ≤ n → n ≤ 255 → IntKind.i64.wrap (Int.tmod n 21) = (sz n : Int) ∧ sz n ≤ 20 := by
    intro n h0 h1
    unfold sz
    rw [Int.tmod_eq_emod_of_nonneg h0, wrap_in (by omega)]
    omega
  obtain ⟨hc, hw⟩ := hsz c c0 c1
  obtain ⟨hr, hh⟩ := hsz r r0 r1
  rw [hc, hr]
  generalize sz c = w at hw ⊢
  generalize sz r = h at hh ⊢
  have hwh : w * h ≤ 400 := Nat.mul_le_mul hw hh
  have hmul : (w : Int) * (h : Int) = ((w * h : Nat) : Int) := by push_cast; rfl
  refine ⟨fun h => (by cases h), fun h => (by cases h), ⟨⟨by omega, by omega⟩, rfl⟩, ?_⟩
  rintro ⟨y, l, _⟩ ⟨⟨y0, y1⟩, he⟩
  simp only at y0 y1 he ⊢
  refine ⟨fun hy => ⟨⟨⟨by omega, by omega⟩, ?_⟩, ?_⟩, fun hy => ?_⟩
  · rw [he]
    show _ = _ ++ []
    rw [List.append_nil]
  · rintro ⟨x, l2, y2, _⟩ ⟨e1, ⟨x0, x1⟩, he2⟩
    simp only at e1 x0 x1 he2 ⊢
    subst e1
    have hll : l2.length ≤ 420 := by
      rw [he2, List.length_append, grid_len, List.length_take, gridRow_len]
      have : w * y2.toNat ≤ 20 * 20 := Nat.mul_le_mul hw (by omega)
      omega
    refine ⟨fun hx => ?_, fun hx => ?_⟩
    · rw [wrap_in (n := 2 * x) (by omega), wrap_in (n := 2 * y2) (by omega), wrap_in (n := 2 * x + 1) (by omega), wrap_in (n := 2 * y2 + 1) (by omega), wrap_in (n := x + 1) (by omega), show (x + 1).toNat = x.toNat + 1 by omega, gridRow_take (by omega), he2]
      refine ⟨?_, ⟨rfl, ⟨by omega, by omega⟩, ?_⟩, by omega⟩
      · rw [← he2]
        simp only [List.length_singleton]
        omega
      · rw [List.append_assoc, show ((x.toNat : Nat) : Int) = x by omega, show ((y2.toNat : Nat) : Int) = y2 by omega]
    · rw [wrap_in (n := y2 + 1) (by omega), show (y2 + 1).toNat = y2.toNat + 1 by omega, grid_succ]
      rw [List.take_of_length_le (by rw [gridRow_len]; omega)] at he2
      exact ⟨⟨⟨by omega, by omega⟩, he2⟩, by omega⟩
  · have hl : l = grid w h := by rw [he, show y.toNat = h by omega]
    subst hl
    have hlen := grid_len w h
    have hself := region_self (grid_region hw hh)
    rw [hself, grid_area, hmul, wrap_in (n := ((w * h : Nat) : Int)) (by omega), wrap_in (n := 2 * (w : Int)) (by omega), wrap_in (n := 2 * (h : Int)) (by omega), wrap_in (n := 2 * (w : Int) - 1) (by omega), wrap_in (n := 2 * (h : Int) - 1) (by omega)]
    refine ⟨by omega, fun hb => ⟨fun _ => by omega, fun _ => by omega, fun _ => by omega, ?_⟩, fun hb => ⟨fun _ => ⟨?_, by omega⟩, fun _ => by omega, fun _ => by omega, ?_⟩⟩
    · have hbd := grid_bounds ⟨w, by omega⟩ ⟨h, by omega⟩ (by simp only; omega)
      simp only at hbd
      have h1 : limE (grid w h) = 5 := by unfold limE; rw [if_neg (by omega)]
      have h2 : limL (grid w h) = [] := by unfold limL; rw [if_neg (by omega)]
      have h3 : isCan (grid w h) = false := by
        unfold isCan
        rw [decide_eq_false (by omega)]
        rfl
      rw [hbd, h1, h2, h3]
      simp
    · exact Nat.le_trans (limL_le _) (by omega)
    · have h1 : limE (grid w h) = 0 := by unfold limE; rw [if_pos (by omega)]
      have h2 : limL (grid w h) = grid w h := by unfold limL; rw [if_pos (by omega)]
      have h3 : isCan (grid w h) = true := by
        unfold isCan
        rw [decide_eq_true (by omega), hself, same_self]
        rfl
      rw [h1, h2, h3, same_self]
      simp
end Go.Proofs.Ytekgchddcemboaa
