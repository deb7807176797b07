/-
  A part of the proof: what some of the program's functions compute.
-/
import Derived.Test.YtogbocplojbdjaaVRL2
namespace Go.Proofs.Ytogbocplojbdjaa
open Go Go.E Go.Proofs
set_option linter.unusedVariables false
set_option linter.unusedSimpArgs false
structure ItemsOk (l : List Item) : Prop where
  len : l.length ≤ 9223372036854775807
  all : ∀ i ∈ l, itemLen i
def withinL (l : List Rect) (r : Rect) : Bool := isCan l && (limE (combinedL l [r] 3) == 0 && (limL (combinedL l [r] 3)).length == 0)
theorem s_within : PSound Try.prog 42 (pcon [.d (.list RectT), .d RectT] fun x => (x.1.length ≤ 1000, .bool (withinL x.1 x.2.1))) := by
  refine psoundF (K := K52) (Γc := C33) (Γr := R0) (fun _ => []) hm HK52 HC33 HR0 Try.call42 Try.func42 (by kernel_rfl) ?_
  rintro ⟨l, r, _⟩ hx
  have hx : List.length l ≤ 1000 := hx
  refine Eq.mpr (β := (True ∧ True ∧ True ∧ @LE.le Nat _ (List.length l) 1000 ∧ True ∧ (@Eq Bool (not (isCan l)) true → (True ∧ (True ∧ True) ∧ @Eq Bool false (withinL l r))) ∧ (@Eq Bool (not (isCan l)) false → (True ∧ True ∧ True ∧ (@LE.le Nat _ (List.length l) 1000 ∧ @LE.le Nat _ (List.length (r :: ([] : List (Ty.T RectT)))) 1000) ∧ True ∧ True ∧ True ∧ True ∧ True ∧ True ∧ True ∧ True ∧ (@Eq Bool (BEq.beq (limE (combinedL l (r :: ([] : List (Ty.T RectT))) 3)) 0) true → True) ∧ (@Eq Bool (BEq.beq (limE (combinedL l (r :: ([] : List (Ty.T RectT))) 3)) 0) true → True) ∧ (@Eq Bool (BEq.beq (limE (combinedL l (r :: ([] : List (Ty.T RectT))) 3)) 0) true → True) ∧ True ∧ True ∧ (True ∧ True) ∧ @Eq Bool (and (BEq.beq (limE (combinedL l (r :: ([] : List (Ty.T RectT))) 3)) 0) (BEq.beq (@Nat.cast Int _ (List.length (limL (combinedL l (r :: ([] : List (Ty.T RectT))) 3)))) 0)) (withinL l r))))) (by kernel_rfl) ?_
  simp only [true_and, and_true, decide_eq_true_eq, decide_eq_false_iff_not, forall_const, implies_true, and_self]
  refine ⟨hx, fun h => ?_, fun h => ⟨⟨hx, by simp⟩, ?_⟩⟩
  · have h : isCan l = false := by simpa using h
    simp [withinL, h]
  · have h : isCan l = true := by simpa using h
    rw [withinL, h, Bool.true_and]
    congr 1
    rw [Bool.eq_iff_iff]
    simp
abbrev K53 : KCons := (42, fun Γc => pure_ Γc ((pcon [.d (.list RectT), .d RectT] fun x => (x.1.length ≤ 1000, .bool (withinL x.1 x.2.1))))) :: K52
theorem HK53 : KS Try.prog K53 := ks_add (ksound_pure (s_within)) HK52
def zeroR (r : Rect) : Bool := r.1 == 0 && (r.2.1 == 0 && (r.2.2.1 == 0 && r.2.2.2 == 0))
def itemGood (i : Item) : Bool := !(decide (i.1 < 1) || decide (i.2.1 < 1) || zeroR (areaI i) || !withinL i.2.2.2.2.2.1 (areaI i) || !withinL i.2.2.2.2.2.2 (areaI i))
def sceneOk (l : List Item) : Bool := decide ((l.length : Int) ≤ 128) && (l.all itemGood && decide (l.map (·.1)).Nodup)
abbrev MapS := List (Nat × Int × Bool)
def SeenOk (M : MapS) (ks : List Int) : Prop := ∀ s, mGet M s = if s ∈ ks then some true else none
theorem mGet_put {V : Type} : ∀ (M : List (Nat × Int × V)) (c : Nat) (n m : Int) (x : V), mGet (mPut M c n x) m = if m = n then some x else mGet M m
  | [], c, n, m, x => by
    simp only [mPut, mGet]
    by_cases h : n = m
    · simp [h]
    · have : ¬ m = n := fun e => h e.symm
      simp [h, this]
  | y :: r, c, n, m, x => by
    simp only [mPut]
    split
    · rename_i hy
      have hy : y.2.1 = n := by simpa using hy
      simp only [mGet, hy]
      by_cases h : n = m
      · simp [h]
      · have : ¬ m = n := fun e => h e.symm
        simp [h, this]
    · rename_i hy
      simp only [mGet]
      rw [mGet_put r c n m x]
      by_cases h : y.2.1 = m
      · have : ¬ m = n := fun e => hy (by rw [h, e]; simp)
        simp [h, this]
      · simp [h]
theorem seen_put {M : MapS} {ks : List Int} (h : SeenOk M ks) (c : Nat) (n : Int) : SeenOk (mPut M c n true) (ks ++ [n]) := by
  intro s
  rw [mGet_put, h s]
  by_cases hs : s = n
  · simp [hs]
  · simp [hs]
structure ScPre (l : List Item) : Prop where
  ok : ItemsOk l
  few : ∀ i ∈ l, i.2.2.2.2.2.1.length ≤ 1000 ∧ i.2.2.2.2.2.2.length ≤ 1000
set_option maxHeartbeats 2000000 in
theorem s_scValid : PSound Try.prog 21 (pcon [.d (.list ItemT)] fun x => (ScPre x.1, .bool (sceneOk x.1))) := by
  refine psoundF (K := K53) (Γc := C33) (Γr := R0) (fun x => [(5, annP [.slot 13 I64, .map 10 I64 .bool] (fun _ y => (0 ≤ y.1 ∧ y.1 ≤ x.1.length) ∧ SeenOk y.2.1.1 ((List.take y.1.toNat (x.1 : List Item)).map (·.1)) ∧ (List.take y.1.toNat (x.1 : List Item)).all itemGood = true ∧ ((List.take y.1.toNat (x.1 : List Item)).map (·.1)).Nodup) (fun y => (x.1.length - y.1 : Int).toNat))]) hm HK53 HC33 HR0 Try.call21 Try.func21 (by kernel_rfl) ?_
  rintro ⟨l, _⟩ hx
  obtain ⟨h1, h2⟩ : ScPre l := hx
  refine Eq.mpr (β := (True ∧ True ∧ True ∧ True ∧ (@Eq Bool (@decide (@GT.gt Int _ (@Nat.cast Int _ (List.length l)) 128) (Int.decLt 128 (@Nat.cast Int _ (List.length l)))) true → (True ∧ (True ∧ True) ∧ @Eq Bool false (sceneOk l))) ∧ (@Eq Bool (@decide (@GT.gt Int _ (@Nat.cast Int _ (List.length l)) 128) (Int.decLt 128 (@Nat.cast Int _ (List.length l)))) false → (True ∧ True ∧ True ∧ True ∧ True ∧ ((True ∧ (@Eq Int 0 0 ∧ @Eq Int (@Nat.cast Int _ (List.length l)) (@Nat.cast Int _ (List.length l)) ∧ @Eq _ l l ∧ True ∧ True ∧ @Eq Bool (@decide (@GT.gt Int _ (@Nat.cast Int _ (List.length l)) 128) (Int.decLt 128 (@Nat.cast Int _ (List.length l)))) (@decide (@GT.gt Int _ (@Nat.cast Int _ (List.length l)) 128) (Int.decLt 128 (@Nat.cast Int _ (List.length l)))) ∧ @Eq Int (@Nat.cast Int _ (List.length l)) (@Nat.cast Int _ (List.length l)) ∧ @Eq _ l l ∧ @Eq _ l l ∧ True) ∧ (@Eq _ (([] : List (Prod Nat (Prod (Ty.T (Ty.int IntKind.i64)) (Ty.T Ty.bool)))), 0).1 (([] : List (Prod Nat (Prod (Ty.T (Ty.int IntKind.i64)) (Ty.T Ty.bool)))), 0).1 ∧ @Eq Nat 0 0) ∧ True) ∧ (@LE.le Int _ 0 0 ∧ @LE.le Int _ 0 (@Nat.cast (Pl.T (Pl.slot 13 I64)) _ (List.length l))) ∧ (SeenOk (([] : List (Prod Nat (Prod (Ty.T (Ty.int IntKind.i64)) (Ty.T Ty.bool)))), 0).1 (List.map (fun (v0 : (Ty.T ItemT)) => v0.1) (List.take 0 l))) ∧ @Eq Bool (List.all (List.take 0 l) itemGood) true ∧ (List.Nodup (List.map (fun (v0 : (Ty.T ItemT)) => v0.1) (List.take 0 l)))) ∧ (∀ (v0 : (Prod Int (Prod (Prod (List (Prod Nat (Prod Int Bool))) Nat) Unit))), (((@LE.le Int _ 0 v0.1 ∧ @LE.le Int _ v0.1 (@Nat.cast (Pl.T (Pl.slot 13 I64)) _ (List.length l))) ∧ (SeenOk v0.2.1.1 (List.map (fun (v1 : (Ty.T ItemT)) => v1.1) (List.take (Int.toNat v0.1) l))) ∧ @Eq Bool (List.all (List.take (Int.toNat v0.1) l) itemGood) true ∧ (List.Nodup (List.map (fun (v1 : (Ty.T ItemT)) => v1.1) (List.take (Int.toNat v0.1) l)))) → (True ∧ (@Eq Bool (@decide (@LT.lt Int _ v0.1 (@Nat.cast Int _ (List.length l))) (Int.decLt v0.1 (@Nat.cast Int _ (List.length l)))) true → ((@LE.le Int _ 0 v0.1 ∧ @LE.le Int _ (@HAdd.hAdd Int Int Int _ v0.1 1) (@Nat.cast Int _ (List.length l))) ∧ True ∧ True ∧ True ∧ True ∧ (@LE.le Nat _ (List.length (@elemAt ItemT l (Int.toNat v0.1)).2.2.2.2.1.2.2) 9223372036854775807 ∧ @LE.le Nat _ (List.length (@elemAt ItemT l (Int.toNat v0.1)).2.2.2.2.2.1) 9223372036854775807 ∧ @LE.le Nat _ (List.length (@elemAt ItemT l (Int.toNat v0.1)).2.2.2.2.2.2) 9223372036854775807) ∧ True ∧ True ∧ True ∧ True ∧ True ∧ True ∧ (@Eq Bool (@decide (@LT.lt Int _ (@elemAt ItemT l (Int.toNat v0.1)).1 1) (Int.decLt (@elemAt ItemT l (Int.toNat v0.1)).1 1)) false → True) ∧ (@Eq Bool (@decide (@LT.lt Int _ (@elemAt ItemT l (Int.toNat v0.1)).1 1) (Int.decLt (@elemAt ItemT l (Int.toNat v0.1)).1 1)) false → True) ∧ (@Eq Bool (@decide (@LT.lt Int _ (@elemAt ItemT l (Int.toNat v0.1)).1 1) (Int.decLt (@elemAt ItemT l (Int.toNat v0.1)).1 1)) false → True) ∧ True ∧ True ∧ (@Eq Bool (or (@decide (@LT.lt Int _ (@elemAt ItemT l (Int.toNat v0.1)).1 1) (Int.decLt (@elemAt ItemT l (Int.toNat v0.1)).1 1)) (@decide (@LT.lt Int _ (@elemAt ItemT l (Int.toNat v0.1)).2.1 1) (Int.decLt (@elemAt ItemT l (Int.toNat v0.1)).2.1 1))) false → True) ∧ (@Eq Bool (or (@decide (@LT.lt Int _ (@elemAt ItemT l (Int.toNat v0.1)).1 1) (Int.decLt (@elemAt ItemT l (Int.toNat v0.1)).1 1)) (@decide (@LT.lt Int _ (@elemAt ItemT l (Int.toNat v0.1)).2.1 1) (Int.decLt (@elemAt ItemT l (Int.toNat v0.1)).2.1 1))) false → True) ∧ (@Eq Bool (or (@decide (@LT.lt Int _ (@elemAt ItemT l (Int.toNat v0.1)).1 1) (Int.decLt (@elemAt ItemT l (Int.toNat v0.1)).1 1)) (@decide (@LT.lt Int _ (@elemAt ItemT l (Int.toNat v0.1)).2.1 1) (Int.decLt (@elemAt ItemT l (Int.toNat v0.1)).2.1 1))) false → True) ∧ (@Eq Bool (or (@decide (@LT.lt Int _ (@elemAt ItemT l (Int.toNat v0.1)).1 1) (Int.decLt (@elemAt ItemT l (Int.toNat v0.1)).1 1)) (@decide (@LT.lt Int _ (@elemAt ItemT l (Int.toNat v0.1)).2.1 1) (Int.decLt (@elemAt ItemT l (Int.toNat v0.1)).2.1 1))) false → True) ∧ True ∧ True ∧ (@Eq Bool (or (or (@decide (@LT.lt Int _ (@elemAt ItemT l (Int.toNat v0.1)).1 1) (Int.decLt (@elemAt ItemT l (Int.toNat v0.1)).1 1)) (@decide (@LT.lt Int _ (@elemAt ItemT l (Int.toNat v0.1)).2.1 1) (Int.decLt (@elemAt ItemT l (Int.toNat v0.1)).2.1 1))) (Option.getD (mGet v0.2.1.1 (@elemAt ItemT l (Int.toNat v0.1)).1) false)) false → True) ∧ (@Eq Bool (or (or (@decide (@LT.lt Int _ (@elemAt ItemT l (Int.toNat v0.1)).1 1) (Int.decLt (@elemAt ItemT l (Int.toNat v0.1)).1 1)) (@decide (@LT.lt Int _ (@elemAt ItemT l (Int.toNat v0.1)).2.1 1) (Int.decLt (@elemAt ItemT l (Int.toNat v0.1)).2.1 1))) (Option.getD (mGet v0.2.1.1 (@elemAt ItemT l (Int.toNat v0.1)).1) false)) false → True) ∧ (@Eq Bool (or (or (@decide (@LT.lt Int _ (@elemAt ItemT l (Int.toNat v0.1)).1 1) (Int.decLt (@elemAt ItemT l (Int.toNat v0.1)).1 1)) (@decide (@LT.lt Int _ (@elemAt ItemT l (Int.toNat v0.1)).2.1 1) (Int.decLt (@elemAt ItemT l (Int.toNat v0.1)).2.1 1))) (Option.getD (mGet v0.2.1.1 (@elemAt ItemT l (Int.toNat v0.1)).1) false)) false → True) ∧ True ∧ True ∧ (@Eq Bool (or (or (or (@decide (@LT.lt Int _ (@elemAt ItemT l (Int.toNat v0.1)).1 1) (Int.decLt (@elemAt ItemT l (Int.toNat v0.1)).1 1)) (@decide (@LT.lt Int _ (@elemAt ItemT l (Int.toNat v0.1)).2.1 1) (Int.decLt (@elemAt ItemT l (Int.toNat v0.1)).2.1 1))) (Option.getD (mGet v0.2.1.1 (@elemAt ItemT l (Int.toNat v0.1)).1) false)) (and (BEq.beq (areaI (@elemAt ItemT l (Int.toNat v0.1))).1 0) (and (BEq.beq (areaI (@elemAt ItemT l (Int.toNat v0.1))).2.1 0) (and (BEq.beq (areaI (@elemAt ItemT l (Int.toNat v0.1))).2.2.1 0) (BEq.beq (areaI (@elemAt ItemT l (Int.toNat v0.1))).2.2.2 0))))) false → True) ∧ (@Eq Bool (or (or (or (@decide (@LT.lt Int _ (@elemAt ItemT l (Int.toNat v0.1)).1 1) (Int.decLt (@elemAt ItemT l (Int.toNat v0.1)).1 1)) (@decide (@LT.lt Int _ (@elemAt ItemT l (Int.toNat v0.1)).2.1 1) (Int.decLt (@elemAt ItemT l (Int.toNat v0.1)).2.1 1))) (Option.getD (mGet v0.2.1.1 (@elemAt ItemT l (Int.toNat v0.1)).1) false)) (and (BEq.beq (areaI (@elemAt ItemT l (Int.toNat v0.1))).1 0) (and (BEq.beq (areaI (@elemAt ItemT l (Int.toNat v0.1))).2.1 0) (and (BEq.beq (areaI (@elemAt ItemT l (Int.toNat v0.1))).2.2.1 0) (BEq.beq (areaI (@elemAt ItemT l (Int.toNat v0.1))).2.2.2 0))))) false → True) ∧ (@Eq Bool (or (or (or (@decide (@LT.lt Int _ (@elemAt ItemT l (Int.toNat v0.1)).1 1) (Int.decLt (@elemAt ItemT l (Int.toNat v0.1)).1 1)) (@decide (@LT.lt Int _ (@elemAt ItemT l (Int.toNat v0.1)).2.1 1) (Int.decLt (@elemAt ItemT l (Int.toNat v0.1)).2.1 1))) (Option.getD (mGet v0.2.1.1 (@elemAt ItemT l (Int.toNat v0.1)).1) false)) (and (BEq.beq (areaI (@elemAt ItemT l (Int.toNat v0.1))).1 0) (and (BEq.beq (areaI (@elemAt ItemT l (Int.toNat v0.1))).2.1 0) (and (BEq.beq (areaI (@elemAt ItemT l (Int.toNat v0.1))).2.2.1 0) (BEq.beq (areaI (@elemAt ItemT l (Int.toNat v0.1))).2.2.2 0))))) false → True) ∧ (@Eq Bool (or (or (or (@decide (@LT.lt Int _ (@elemAt ItemT l (Int.toNat v0.1)).1 1) (Int.decLt (@elemAt ItemT l (Int.toNat v0.1)).1 1)) (@decide (@LT.lt Int _ (@elemAt ItemT l (Int.toNat v0.1)).2.1 1) (Int.decLt (@elemAt ItemT l (Int.toNat v0.1)).2.1 1))) (Option.getD (mGet v0.2.1.1 (@elemAt ItemT l (Int.toNat v0.1)).1) false)) (and (BEq.beq (areaI (@elemAt ItemT l (Int.toNat v0.1))).1 0) (and (BEq.beq (areaI (@elemAt ItemT l (Int.toNat v0.1))).2.1 0) (and (BEq.beq (areaI (@elemAt ItemT l (Int.toNat v0.1))).2.2.1 0) (BEq.beq (areaI (@elemAt ItemT l (Int.toNat v0.1))).2.2.2 0))))) false → @LE.le Nat _ (List.length (@elemAt ItemT l (Int.toNat v0.1)).2.2.2.2.2.1) 1000) ∧ (@Eq Bool (or (or (or (@decide (@LT.lt Int _ (@elemAt ItemT l (Int.toNat v0.1)).1 1) (Int.decLt (@elemAt ItemT l (Int.toNat v0.1)).1 1)) (@decide (@LT.lt Int _ (@elemAt ItemT l (Int.toNat v0.1)).2.1 1) (Int.decLt (@elemAt ItemT l (Int.toNat v0.1)).2.1 1))) (Option.getD (mGet v0.2.1.1 (@elemAt ItemT l (Int.toNat v0.1)).1) false)) (and (BEq.beq (areaI (@elemAt ItemT l (Int.toNat v0.1))).1 0) (and (BEq.beq (areaI (@elemAt ItemT l (Int.toNat v0.1))).2.1 0) (and (BEq.beq (areaI (@elemAt ItemT l (Int.toNat v0.1))).2.2.1 0) (BEq.beq (areaI (@elemAt ItemT l (Int.toNat v0.1))).2.2.2 0))))) false → True) ∧ True ∧ True ∧ (@Eq Bool (or (or (or (or (@decide (@LT.lt Int _ (@elemAt ItemT l (Int.toNat v0.1)).1 1) (Int.decLt (@elemAt ItemT l (Int.toNat v0.1)).1 1)) (@decide (@LT.lt Int _ (@elemAt ItemT l (Int.toNat v0.1)).2.1 1) (Int.decLt (@elemAt ItemT l (Int.toNat v0.1)).2.1 1))) (Option.getD (mGet v0.2.1.1 (@elemAt ItemT l (Int.toNat v0.1)).1) false)) (and (BEq.beq (areaI (@elemAt ItemT l (Int.toNat v0.1))).1 0) (and (BEq.beq (areaI (@elemAt ItemT l (Int.toNat v0.1))).2.1 0) (and (BEq.beq (areaI (@elemAt ItemT l (Int.toNat v0.1))).2.2.1 0) (BEq.beq (areaI (@elemAt ItemT l (Int.toNat v0.1))).2.2.2 0))))) (not (withinL (@elemAt ItemT l (Int.toNat v0.1)).2.2.2.2.2.1 (areaI (@elemAt ItemT l (Int.toNat v0.1)))))) false → True) ∧ (@Eq Bool (or (or (or (or (@decide (@LT.lt Int _ (@elemAt ItemT l (Int.toNat v0.1)).1 1) (Int.decLt (@elemAt ItemT l (Int.toNat v0.1)).1 1)) (@decide (@LT.lt Int _ (@elemAt ItemT l (Int.toNat v0.1)).2.1 1) (Int.decLt (@elemAt ItemT l (Int.toNat v0.1)).2.1 1))) (Option.getD (mGet v0.2.1.1 (@elemAt ItemT l (Int.toNat v0.1)).1) false)) (and (BEq.beq (areaI (@elemAt ItemT l (Int.toNat v0.1))).1 0) (and (BEq.beq (areaI (@elemAt ItemT l (Int.toNat v0.1))).2.1 0) (and (BEq.beq (areaI (@elemAt ItemT l (Int.toNat v0.1))).2.2.1 0) (BEq.beq (areaI (@elemAt ItemT l (Int.toNat v0.1))).2.2.2 0))))) (not (withinL (@elemAt ItemT l (Int.toNat v0.1)).2.2.2.2.2.1 (areaI (@elemAt ItemT l (Int.toNat v0.1)))))) false → True) ∧ (@Eq Bool (or (or (or (or (@decide (@LT.lt Int _ (@elemAt ItemT l (Int.toNat v0.1)).1 1) (Int.decLt (@elemAt ItemT l (Int.toNat v0.1)).1 1)) (@decide (@LT.lt Int _ (@elemAt ItemT l (Int.toNat v0.1)).2.1 1) (Int.decLt (@elemAt ItemT l (Int.toNat v0.1)).2.1 1))) (Option.getD (mGet v0.2.1.1 (@elemAt ItemT l (Int.toNat v0.1)).1) false)) (and (BEq.beq (areaI (@elemAt ItemT l (Int.toNat v0.1))).1 0) (and (BEq.beq (areaI (@elemAt ItemT l (Int.toNat v0.1))).2.1 0) (and (BEq.beq (areaI (@elemAt ItemT l (Int.toNat v0.1))).2.2.1 0) (BEq.beq (areaI (@elemAt ItemT l (Int.toNat v0.1))).2.2.2 0))))) (not (withinL (@elemAt ItemT l (Int.toNat v0.1)).2.2.2.2.2.1 (areaI (@elemAt ItemT l (Int.toNat v0.1)))))) false → True) ∧ (@Eq Bool (or (or (or (or (@decide (@LT.lt Int _ (@elemAt ItemT l (Int.toNat v0.1)).1 1) (Int.decLt (@elemAt ItemT l (Int.toNat v0.1)).1 1)) (@decide (@LT.lt Int _ (@elemAt ItemT l (Int.toNat v0.1)).2.1 1) (Int.decLt (@elemAt ItemT l (Int.toNat v0.1)).2.1 1))) (Option.getD (mGet v0.2.1.1 (@elemAt ItemT l (Int.toNat v0.1)).1) false)) (and (BEq.beq (areaI (@elemAt ItemT l (Int.toNat v0.1))).1 0) (and (BEq.beq (areaI (@elemAt ItemT l (Int.toNat v0.1))).2.1 0) (and (BEq.beq (areaI (@elemAt ItemT l (Int.toNat v0.1))).2.2.1 0) (BEq.beq (areaI (@elemAt ItemT l (Int.toNat v0.1))).2.2.2 0))))) (not (withinL (@elemAt ItemT l (Int.toNat v0.1)).2.2.2.2.2.1 (areaI (@elemAt ItemT l (Int.toNat v0.1)))))) false → @LE.le Nat _ (List.length (@elemAt ItemT l (Int.toNat v0.1)).2.2.2.2.2.2) 1000) ∧ (@Eq Bool (or (or (or (or (@decide (@LT.lt Int _ (@elemAt ItemT l (Int.toNat v0.1)).1 1) (Int.decLt (@elemAt ItemT l (Int.toNat v0.1)).1 1)) (@decide (@LT.lt Int _ (@elemAt ItemT l (Int.toNat v0.1)).2.1 1) (Int.decLt (@elemAt ItemT l (Int.toNat v0.1)).2.1 1))) (Option.getD (mGet v0.2.1.1 (@elemAt ItemT l (Int.toNat v0.1)).1) false)) (and (BEq.beq (areaI (@elemAt ItemT l (Int.toNat v0.1))).1 0) (and (BEq.beq (areaI (@elemAt ItemT l (Int.toNat v0.1))).2.1 0) (and (BEq.beq (areaI (@elemAt ItemT l (Int.toNat v0.1))).2.2.1 0) (BEq.beq (areaI (@elemAt ItemT l (Int.toNat v0.1))).2.2.2 0))))) (not (withinL (@elemAt ItemT l (Int.toNat v0.1)).2.2.2.2.2.1 (areaI (@elemAt ItemT l (Int.toNat v0.1)))))) false → True) ∧ True ∧ (@Eq Bool (or (or (or (or (or (@decide (@LT.lt Int _ (@elemAt ItemT l (Int.toNat v0.1)).1 1) (Int.decLt (@elemAt ItemT l (Int.toNat v0.1)).1 1)) (@decide (@LT.lt Int _ (@elemAt ItemT l (Int.toNat v0.1)).2.1 1) (Int.decLt (@elemAt ItemT l (Int.toNat v0.1)).2.1 1))) (Option.getD (mGet v0.2.1.1 (@elemAt ItemT l (Int.toNat v0.1)).1) false)) (and (BEq.beq (areaI (@elemAt ItemT l (Int.toNat v0.1))).1 0) (and (BEq.beq (areaI (@elemAt ItemT l (Int.toNat v0.1))).2.1 0) (and (BEq.beq (areaI (@elemAt ItemT l (Int.toNat v0.1))).2.2.1 0) (BEq.beq (areaI (@elemAt ItemT l (Int.toNat v0.1))).2.2.2 0))))) (not (withinL (@elemAt ItemT l (Int.toNat v0.1)).2.2.2.2.2.1 (areaI (@elemAt ItemT l (Int.toNat v0.1)))))) (not (withinL (@elemAt ItemT l (Int.toNat v0.1)).2.2.2.2.2.2 (areaI (@elemAt ItemT l (Int.toNat v0.1)))))) true → (True ∧ (True ∧ True) ∧ @Eq Bool false (sceneOk l))) ∧ (@Eq Bool (or (or (or (or (or (@decide (@LT.lt Int _ (@elemAt ItemT l (Int.toNat v0.1)).1 1) (Int.decLt (@elemAt ItemT l (Int.toNat v0.1)).1 1)) (@decide (@LT.lt Int _ (@elemAt ItemT l (Int.toNat v0.1)).2.1 1) (Int.decLt (@elemAt ItemT l (Int.toNat v0.1)).2.1 1))) (Option.getD (mGet v0.2.1.1 (@elemAt ItemT l (Int.toNat v0.1)).1) false)) (and (BEq.beq (areaI (@elemAt ItemT l (Int.toNat v0.1))).1 0) (and (BEq.beq (areaI (@elemAt ItemT l (Int.toNat v0.1))).2.1 0) (and (BEq.beq (areaI (@elemAt ItemT l (Int.toNat v0.1))).2.2.1 0) (BEq.beq (areaI (@elemAt ItemT l (Int.toNat v0.1))).2.2.2 0))))) (not (withinL (@elemAt ItemT l (Int.toNat v0.1)).2.2.2.2.2.1 (areaI (@elemAt ItemT l (Int.toNat v0.1)))))) (not (withinL (@elemAt ItemT l (Int.toNat v0.1)).2.2.2.2.2.2 (areaI (@elemAt ItemT l (Int.toNat v0.1)))))) false → (True ∧ True ∧ True ∧ True ∧ True ∧ True ∧ (True ∧ (@Eq Int (IntKind.i64.wrap (@HAdd.hAdd Int Int Int _ v0.1 1)) (IntKind.i64.wrap (@HAdd.hAdd Int Int Int _ v0.1 1)) ∧ @Eq Int (@Nat.cast Int _ (List.length l)) (@Nat.cast Int _ (List.length l)) ∧ @Eq _ l l ∧ True ∧ True ∧ @Eq Bool (@decide (@GT.gt Int _ (@Nat.cast Int _ (List.length l)) 128) (Int.decLt 128 (@Nat.cast Int _ (List.length l)))) (@decide (@GT.gt Int _ (@Nat.cast Int _ (List.length l)) 128) (Int.decLt 128 (@Nat.cast Int _ (List.length l)))) ∧ @Eq Int (@Nat.cast Int _ (List.length l)) (@Nat.cast Int _ (List.length l)) ∧ @Eq _ l l ∧ @Eq _ l l ∧ True) ∧ (@Eq _ (mPut v0.2.1.1 v0.2.1.2 (@elemAt ItemT l (Int.toNat v0.1)).1 true) ((mPut v0.2.1.1 v0.2.1.2 (@elemAt ItemT l (Int.toNat v0.1)).1 true), (mClk v0.2.1.1 (@elemAt ItemT l (Int.toNat v0.1)).1 v0.2.1.2)).1 ∧ @Eq Nat (mClk v0.2.1.1 (@elemAt ItemT l (Int.toNat v0.1)).1 v0.2.1.2) ((mPut v0.2.1.1 v0.2.1.2 (@elemAt ItemT l (Int.toNat v0.1)).1 true), (mClk v0.2.1.1 (@elemAt ItemT l (Int.toNat v0.1)).1 v0.2.1.2)).2) ∧ True) ∧ ((@LE.le Int _ 0 (IntKind.i64.wrap (@HAdd.hAdd Int Int Int _ v0.1 1)) ∧ @LE.le Int _ (IntKind.i64.wrap (@HAdd.hAdd Int Int Int _ v0.1 1)) (@Nat.cast (Pl.T (Pl.slot 13 I64)) _ (List.length l))) ∧ (SeenOk ((mPut v0.2.1.1 v0.2.1.2 (@elemAt ItemT l (Int.toNat v0.1)).1 true), (mClk v0.2.1.1 (@elemAt ItemT l (Int.toNat v0.1)).1 v0.2.1.2)).1 (List.map (fun (v1 : (Ty.T ItemT)) => v1.1) (List.take (Int.toNat (IntKind.i64.wrap (@HAdd.hAdd Int Int Int _ v0.1 1))) l))) ∧ @Eq Bool (List.all (List.take (Int.toNat (IntKind.i64.wrap (@HAdd.hAdd Int Int Int _ v0.1 1))) l) itemGood) true ∧ (List.Nodup (List.map (fun (v1 : (Ty.T ItemT)) => v1.1) (List.take (Int.toNat (IntKind.i64.wrap (@HAdd.hAdd Int Int Int _ v0.1 1))) l)))) ∧ @LT.lt Nat _ (Int.toNat (@HSub.hSub Int Int Int _ (@Nat.cast Int _ (List.length l)) (IntKind.i64.wrap (@HAdd.hAdd Int Int Int _ v0.1 1)))) (Int.toNat (@HSub.hSub Int Int Int _ (@Nat.cast Int _ (List.length l)) v0.1)))))) ∧ (@Eq Bool (@decide (@LT.lt Int _ v0.1 (@Nat.cast Int _ (List.length l))) (Int.decLt v0.1 (@Nat.cast Int _ (List.length l)))) false → (True ∧ (True ∧ True) ∧ @Eq Bool true (sceneOk l)))))))))) (by kernel_rfl) ?_
  simp only [true_and, and_true, decide_eq_true_eq, decide_eq_false_iff_not, forall_const, implies_true, and_self]
  have hall : ∀ (j : Nat), j < List.length l → ∀ p : Item → Bool, ((List.take (j + 1) (l : List Item)).all p) = (((List.take j (l : List Item)).all p) && p (elemAt (t := ItemT) l j)) := by
    intro j hj p
    rw [List.take_add_one, elemAt_get (t := ItemT) l j hj, List.all_append]
    simp
  have hmap : ∀ (j : Nat), j < List.length l → (List.take (j + 1) (l : List Item)).map (·.1) = (List.take j (l : List Item)).map (·.1) ++ [(elemAt (t := ItemT) l j).1] := by
    intro j hj
    rw [List.take_add_one, elemAt_get (t := ItemT) l j hj, List.map_append]
    rfl
  refine ⟨fun h => ?_, fun h => ⟨⟨⟨by omega, by omega⟩, ?_, by simp, by simp⟩, ?_⟩⟩
  · have : decide ((List.length l : Int) ≤ 128) = false := by rw [decide_eq_false_iff_not]; omega
    simp [sceneOk, this]
  · intro s
    simp [mGet]
  rintro ⟨i, ⟨M, c⟩, _⟩ ⟨⟨g0, g1⟩, hM, ha, hn⟩
  simp only at g0 g1 hM ha hn ⊢
  refine ⟨fun hi => ?_, fun hi => ?_⟩
  · have hlt : i.toNat < List.length l := by omega
    have hmem : elemAt (t := ItemT) l i.toNat ∈ (l : List Item) := List.mem_of_getElem? (elemAt_get (t := ItemT) l i.toNat hlt)
    have hl1 := h1.2 _ hmem
    have hl2 := h2 _ hmem
    have e1 : (IntKind.i64.wrap (i + 1)).toNat = i.toNat + 1 := by rw [wrap_in (by omega)]; omega
    have hseen : (mGet M (elemAt (t := ItemT) l i.toNat).1).getD false = decide ((elemAt (t := ItemT) l i.toNat).1 ∈ (List.take i.toNat (l : List Item)).map (·.1)) := by
      rw [hM]
      split <;> rename_i hh
      · simp only [Option.getD_some]; exact (decide_eq_true hh).symm
      · simp only [Option.getD_none]; exact (decide_eq_false hh).symm
    refine ⟨⟨by omega, by omega⟩, hl1, fun _ => hl2.1, fun _ => hl2.2, fun hb => ?_, fun hb => ⟨⟨⟨?_, ?_⟩, ?_, ?_, ?_⟩, ?_⟩⟩
    · rw [eq_comm, ← Bool.not_eq_true]
      intro hs
      rw [sceneOk, Bool.and_eq_true, Bool.and_eq_true] at hs
      have hg := List.all_eq_true.1 hs.2.1 _ hmem
      have hd : ((List.take (i.toNat + 1) (l : List Item)).map (·.1)).Nodup := (((List.take_sublist (i.toNat + 1) (l : List Item)).map (·.1)).nodup (of_decide_eq_true hs.2.2))
      rw [hmap _ hlt, List.nodup_append] at hd
      have hnot : ¬ (elemAt (t := ItemT) l i.toNat).1 ∈ (List.take i.toNat (l : List Item)).map (·.1) := fun hm => hd.2.2 _ hm _ (List.mem_singleton.2 rfl) rfl
      rw [hseen, decide_eq_false hnot, Bool.or_false] at hb
      rw [itemGood, zeroR] at hg
      rw [hb] at hg
      cases hg
    · rw [wrap_in (by omega)]; omega
    · rw [wrap_in (by omega)]; omega
    · rw [e1, hmap _ hlt]
      exact seen_put hM _ _
    · rw [e1, hall _ hlt, ha, Bool.true_and]
      rw [itemGood, zeroR]
      simp only [Bool.or_eq_false_iff] at hb
      obtain ⟨⟨⟨⟨⟨b1, b2⟩, b3⟩, b4⟩, b5⟩, b6⟩ := hb
      rw [b1, b2, b4, b5, b6]
      rfl
    · rw [e1, hmap _ hlt, List.nodup_append]
      simp only [Bool.or_eq_false_iff] at hb
      obtain ⟨⟨⟨⟨⟨b1, b2⟩, b3⟩, b4⟩, b5⟩, b6⟩ := hb
      rw [hseen] at b3
      have b3 := of_decide_eq_false b3
      refine ⟨hn, by simp, fun a ha b hb he => ?_⟩
      rw [List.mem_singleton] at hb
      subst hb
      subst he
      exact b3 ha
    · rw [wrap_in (by omega)]; omega
  · rw [List.take_of_length_le (by omega)] at ha hn
    have : decide ((List.length l : Int) ≤ 128) = true := by rw [decide_eq_true_eq]; omega
    rw [sceneOk, this, ha, decide_eq_true hn]
    rfl
abbrev K54 : KCons := (21, fun Γc => pure_ Γc ((pcon [.d (.list ItemT)] fun x => (ScPre x.1, .bool (sceneOk x.1))))) :: K53
theorem HK54 : KS Try.prog K54 := ks_add (ksound_pure (s_scValid)) HK53
end Go.Proofs.Ytogbocplojbdjaa
