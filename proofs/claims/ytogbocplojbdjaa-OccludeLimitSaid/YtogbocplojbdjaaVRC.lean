/-
  A part of the proof: what some of the program's functions compute.
-/
import Derived.Test.YtogbocplojbdjaaVPD
import Derived.Test.YtogbocplojbdjaaW6
namespace Go.Proofs.Ytogbocplojbdjaa
open Go Go.E Go.Proofs
set_option linter.unusedVariables false
set_option linter.unusedSimpArgs false
theorem s_cov1 : PSound Try.prog 89 (pcon (closTs [RunT] [.p I64]) fun x => (True, .bool (hitP x.2.1 x.1))) := by
  refine psoundF (K := K23) (Γc := C14) (Γr := R0) (fun _ => []) hm HK23 HC14 HR0 Try.call89 Try.func89 (by kernel_rfl) ?_
  rintro ⟨⟨a, b⟩, x, _⟩ _
  refine Eq.mpr (β := (True ∧ True ∧ True ∧ True ∧ True ∧ True ∧ True ∧ (@Eq Bool (@decide (@LE.le Int _ a x) (Int.decLe a x)) true → True) ∧ (@Eq Bool (@decide (@LE.le Int _ a x) (Int.decLe a x)) true → True) ∧ (@Eq Bool (@decide (@LE.le Int _ a x) (Int.decLe a x)) true → True) ∧ (@Eq Bool (@decide (@LE.le Int _ a x) (Int.decLe a x)) true → True) ∧ True ∧ True ∧ (True ∧ True) ∧ @Eq Bool (and (@decide (@LE.le Int _ a x) (Int.decLe a x)) (@decide (@LT.lt Int _ x b) (Int.decLt x b))) (hitP x (a, b)))) (by kernel_rfl) ?_
  simp [hitP]
abbrev C24 : Clos := (89, ccon [RunT] .bool [.p I64] fun x c => hitP c.1 x.1) :: C14
theorem HC24 : CSound Try.prog C24 := csound_add s_cov1 rfl (fun x c => ⟨trivial, rfl⟩) HC14
theorem s_idxfRun : PSound Try.prog 106 (c_idxf RunT) := by
  refine psoundF (K := K23) (Γc := C24) (Γr := R0) (fun x => [(2, annP [.slot 8 I64] (fun _ y => idxInv x.1 (fun r => x.2.1 (r, ())) y.1) (fun y => (x.1.length - y.1 : Int).toNat))]) hm HK23 HC24 HR0 Try.call106 Try.func106 (by kernel_rfl) ?_
  rintro ⟨xs, p, _⟩ hx
  have hlen : xs.length ≤ 9223372036854775807 := hx
  clear hx
  refine Eq.mpr (β := (True ∧ True ∧ True ∧ True ∧ ((True ∧ (@Eq Int 0 0 ∧ @Eq Int (@Nat.cast Int _ (List.length xs)) (@Nat.cast Int _ (List.length xs)) ∧ @Eq _ xs xs ∧ @Eq _ xs xs ∧ @Eq _ p p ∧ True) ∧ True) ∧ (idxInv xs (fun (v0 : (Ty.T RunT)) => (Prod.fst (p, ()) (v0, Unit.unit))) 0)) ∧ (∀ (v0 : (Prod Int Unit)), ((idxInv xs (fun (v1 : (Ty.T RunT)) => (Prod.fst (p, ()) (v1, Unit.unit))) v0.1) → (True ∧ (@Eq Bool (@decide (@LT.lt Int _ v0.1 (@Nat.cast Int _ (List.length xs))) (Int.decLt v0.1 (@Nat.cast Int _ (List.length xs)))) true → (True ∧ True ∧ True ∧ True ∧ True ∧ (@LE.le Int _ 0 v0.1 ∧ @LE.le Int _ (@HAdd.hAdd Int Int Int _ v0.1 1) (@Nat.cast Int _ (List.length xs))) ∧ True ∧ True ∧ (@Eq Bool (p ((@elemAt RunT xs (Int.toNat v0.1)), Unit.unit)) true → (True ∧ True ∧ (True ∧ True) ∧ @Eq Int v0.1 (indexF (fun (v1 : (Ty.T RunT)) => (Prod.fst (p, ()) (v1, Unit.unit))) xs))) ∧ (@Eq Bool (p ((@elemAt RunT xs (Int.toNat v0.1)), Unit.unit)) false → (True ∧ True ∧ (True ∧ (@Eq Int (IntKind.i64.wrap (@HAdd.hAdd Int Int Int _ v0.1 1)) (IntKind.i64.wrap (@HAdd.hAdd Int Int Int _ v0.1 1)) ∧ @Eq Int (@Nat.cast Int _ (List.length xs)) (@Nat.cast Int _ (List.length xs)) ∧ @Eq _ xs xs ∧ @Eq _ xs xs ∧ @Eq _ p p ∧ True) ∧ True) ∧ (idxInv xs (fun (v1 : (Ty.T RunT)) => (Prod.fst (p, ()) (v1, Unit.unit))) (IntKind.i64.wrap (@HAdd.hAdd Int Int Int _ v0.1 1))) ∧ @LT.lt Nat _ (Int.toNat (@HSub.hSub Int Int Int _ (@Nat.cast Int _ (List.length xs)) (IntKind.i64.wrap (@HAdd.hAdd Int Int Int _ v0.1 1)))) (Int.toNat (@HSub.hSub Int Int Int _ (@Nat.cast Int _ (List.length xs)) v0.1)))))) ∧ (@Eq Bool (@decide (@LT.lt Int _ v0.1 (@Nat.cast Int _ (List.length xs))) (Int.decLt v0.1 (@Nat.cast Int _ (List.length xs)))) false → (True ∧ (True ∧ True) ∧ @Eq Int (Neg.neg 1) (indexF (fun (v1 : (Ty.T RunT)) => (Prod.fst (p, ()) (v1, Unit.unit))) xs)))))))) (by kernel_rfl) ?_
  simp only [true_and, and_true, decide_eq_true_eq, decide_eq_false_iff_not, forall_const, implies_true, and_self]
  exact idx_go hlen
abbrev K25 : KCons := (106, fun Γc => pure_ Γc ((c_idxf RunT))) :: K23
theorem HK25 : KS Try.prog K25 := ks_add (ksound_pure (s_idxfRun)) HK23
theorem s_confRun : PSound Try.prog 88 (c_conf RunT) := by
  refine psoundF (K := K25) (Γc := C24) (Γr := R0) (fun _ => []) hm HK25 HC24 HR0 Try.call88 Try.func88 (by kernel_rfl) ?_
  rintro ⟨xs, p, _⟩ hx
  refine Eq.mpr (β := (True ∧ True ∧ True ∧ @LE.le Nat _ (List.length xs) 9223372036854775807 ∧ True ∧ True ∧ (True ∧ True) ∧ @Eq Bool (@decide (@GE.ge Int Int.instLEInt (indexF (fun (v0 : (Ty.T RunT)) => (p (v0, Unit.unit))) xs) 0) (Int.decLe 0 (indexF (fun (v0 : (Ty.T RunT)) => (p (v0, Unit.unit))) xs))) (List.any xs (fun (v0 : (Ty.T RunT)) => (Prod.fst (p, ()) (v0, Unit.unit)))))) (by kernel_rfl) ?_
  simp only [true_and, and_true, decide_eq_true_eq, decide_eq_false_iff_not, forall_const, implies_true, and_self]
  exact ⟨hx, indexF_any _ xs⟩
abbrev K26 : KCons := (88, fun Γc => pure_ Γc ((c_conf RunT))) :: K25
theorem HK26 : KS Try.prog K26 := ks_add (ksound_pure (s_confRun)) HK25
theorem s_covers : PSound Try.prog 77 (pcon [.d (.list RunT), .d I64] fun x => (x.1.length ≤ 9223372036854775807, .bool (covL x.1 x.2.1))) := by
  refine psoundF (K := K26) (Γc := C24) (Γr := R0) (fun _ => []) hm HK26 HC24 HR0 Try.call77 Try.func77 (by kernel_rfl) ?_
  rintro ⟨xs, x, _⟩ hx
  refine Eq.mpr (β := (True ∧ True ∧ True ∧ True ∧ @LE.le Nat _ (List.length xs) 9223372036854775807 ∧ True ∧ (True ∧ True) ∧ @Eq Bool (List.any xs (fun (v0 : (Ty.T RunT)) => (hitP x v0))) (covL xs x))) (by kernel_rfl) ?_
  simp only [true_and, and_true, decide_eq_true_eq, decide_eq_false_iff_not, forall_const, implies_true, and_self]
  exact ⟨hx, rfl⟩
abbrev K27 : KCons := (77, fun Γc => pure_ Γc ((pcon [.d (.list RunT), .d I64] fun x => (x.1.length ≤ 9223372036854775807, .bool (covL x.1 x.2.1))))) :: K26
theorem HK27 : KS Try.prog K27 := ks_add (ksound_pure (s_covers)) HK26
theorem same_list {t : Ty} {a b : List t.T} (hl : a.length = b.length) (h : ∀ j : Nat, j < a.length → elemAt a j = elemAt b j) : a = b := by
  refine List.ext_getElem hl fun j h1 h2 => ?_
  have e1 := elemAt_get a j h1
  have e2 := elemAt_get b j h2
  rw [List.getElem?_eq_getElem h1] at e1
  rw [List.getElem?_eq_getElem h2] at e2
  rw [Option.some.inj e1, Option.some.inj e2]
  exact h j h1
theorem same_go {t : Ty} {same : List t.T → List t.T → Bool} {ne : t.T → t.T → Bool} (hs : ∀ a b, same a b = true ↔ a = b) (hn : ∀ x y, ne x y = false ↔ x = y) {a b : List t.T} (ha : a.length ≤ 1000000000) (hb : b.length ≤ 1000000000) :
    (((a.length : Int) != (b.length : Int)) = true → false = same a b) ∧ (((a.length : Int) != (b.length : Int)) = false →
      (((0 : Int) ≤ 0 ∧ (0 : Int) ≤ (a.length : Int)) ∧ ∀ j : Nat, (j : Int) + 1 ≤ 0 → elemAt a j = elemAt b j) ∧
      ∀ y : Int × Unit, ((0 ≤ y.1 ∧ y.1 ≤ (a.length : Int)) ∧ ∀ j : Nat, (j : Int) + 1 ≤ y.1 → elemAt a j = elemAt b j) →
        (y.1 < (a.length : Int) → ((0 ≤ y.1 ∧ y.1 + 1 ≤ (a.length : Int)) ∧ 0 ≤ y.1 ∧ y.1 + 1 ≤ (b.length : Int)) ∧
          (ne (elemAt a y.1.toNat) (elemAt b y.1.toNat) = true → false = same a b) ∧
          (ne (elemAt a y.1.toNat) (elemAt b y.1.toNat) = false → ((0 ≤ IntKind.i64.wrap (y.1 + 1) ∧ IntKind.i64.wrap (y.1 + 1) ≤ (a.length : Int)) ∧ ∀ j : Nat, (j : Int) + 1 ≤ IntKind.i64.wrap (y.1 + 1) → elemAt a j = elemAt b j) ∧
            ((a.length : Int) - IntKind.i64.wrap (y.1 + 1)).toNat < ((a.length : Int) - y.1).toNat)) ∧
        (¬ y.1 < (a.length : Int) → true = same a b)) := by
  have hf : a ≠ b → false = same a b := fun h => by
    cases hq : same a b with
    | false => rfl
    | true => exact absurd ((hs a b).1 hq) h
  refine ⟨fun h => hf fun e => ?_, fun h => ⟨⟨⟨by omega, by omega⟩, fun j hj => by omega⟩, ?_⟩⟩
  · rw [e] at h
    simp at h
  have hl : a.length = b.length := by
    simp only [bne_eq_false_iff_eq] at h
    omega
  rintro ⟨i, _⟩ ⟨⟨h0, h1⟩, he⟩
  simp only at h0 h1 he ⊢
  refine ⟨fun hi => ⟨⟨⟨h0, by omega⟩, h0, by omega⟩, fun hc => hf fun e => ?_, fun hc => ?_⟩, fun hi => ?_⟩
  · rw [e] at hc
    rw [(hn _ _).2 rfl] at hc
    cases hc
  · rw [wrap_in (by omega)]
    refine ⟨⟨⟨by omega, by omega⟩, fun j hj => ?_⟩, by omega⟩
    by_cases hji : j = i.toNat
    · subst hji
      exact (hn _ _).1 hc
    · exact he j (by omega)
  · exact ((hs a b).2 (same_list hl fun j hj => he j (by omega))).symm
def sameRuns (a b : List Run) : Bool := decide (a = b)
def sameRects (a b : List Rect) : Bool := decide (a = b)
theorem s_eqRun : PSound Try.prog 63 (pcon [.d (.list RunT), .d (.list RunT)] fun x => (x.1.length ≤ 1000000000 ∧ x.2.1.length ≤ 1000000000, .bool (sameRuns x.1 x.2.1))) := by
  refine psoundF (K := K27) (Γc := C24) (Γr := R0) (fun x => [(4, annP [.slot 13 I64] (fun _ y => (0 ≤ y.1 ∧ y.1 ≤ x.1.length) ∧ ∀ j : Nat, (j : Int) < y.1 → elemAt (t := RunT) x.1 j = elemAt (t := RunT) x.2.1 j) (fun y => (x.1.length - y.1 : Int).toNat))]) hm HK27 HC24 HR0 Try.call63 Try.func63 (by kernel_rfl) ?_
  rintro ⟨a, b, _⟩ hx
  obtain ⟨ha, hb⟩ : a.length ≤ 1000000000 ∧ b.length ≤ 1000000000 := hx
  refine Eq.mpr (β := (True ∧ True ∧ True ∧ True ∧ True ∧ True ∧ (@Eq Bool (bne (@Nat.cast Int _ (List.length a)) (@Nat.cast Int _ (List.length b))) true → (True ∧ (True ∧ True) ∧ @Eq Bool false (sameRuns a b))) ∧ (@Eq Bool (bne (@Nat.cast Int _ (List.length a)) (@Nat.cast Int _ (List.length b))) false → (True ∧ True ∧ True ∧ ((True ∧ (@Eq Int 0 0 ∧ @Eq Int (@Nat.cast Int _ (List.length a)) (@Nat.cast Int _ (List.length a)) ∧ @Eq _ a a ∧ @Eq Bool (bne (@Nat.cast Int _ (List.length a)) (@Nat.cast Int _ (List.length b))) (bne (@Nat.cast Int _ (List.length a)) (@Nat.cast Int _ (List.length b))) ∧ @Eq Int (@Nat.cast Int _ (List.length b)) (@Nat.cast Int _ (List.length b)) ∧ @Eq _ b b ∧ @Eq Int (@Nat.cast Int _ (List.length a)) (@Nat.cast Int _ (List.length a)) ∧ @Eq _ a a ∧ @Eq _ a a ∧ @Eq _ b b ∧ True) ∧ True) ∧ (@LE.le Int _ 0 0 ∧ @LE.le Int _ 0 (@Nat.cast (Pl.T (Pl.slot 13 I64)) _ (List.length a))) ∧ (∀ (v0 : Nat), (@LE.le Int _ (@HAdd.hAdd Int Int Int _ (@Nat.cast Int _ v0) 1) 0 → @Eq _ (@elemAt RunT a v0) (@elemAt RunT b v0)))) ∧ (∀ (v0 : (Prod Int Unit)), (((@LE.le Int _ 0 v0.1 ∧ @LE.le Int _ v0.1 (@Nat.cast (Pl.T (Pl.slot 13 I64)) _ (List.length a))) ∧ (∀ (v1 : Nat), (@LE.le Int _ (@HAdd.hAdd Int Int Int _ (@Nat.cast Int _ v1) 1) v0.1 → @Eq _ (@elemAt RunT a v1) (@elemAt RunT b v1)))) → (True ∧ (@Eq Bool (@decide (@LT.lt Int _ v0.1 (@Nat.cast Int _ (List.length a))) (Int.decLt v0.1 (@Nat.cast Int _ (List.length a)))) true → (True ∧ True ∧ (True ∧ True ∧ (@LE.le Int _ 0 v0.1 ∧ @LE.le Int _ (@HAdd.hAdd Int Int Int _ v0.1 1) (@Nat.cast Int _ (List.length a))) ∧ True ∧ True ∧ True ∧ (@LE.le Int _ 0 v0.1 ∧ @LE.le Int _ (@HAdd.hAdd Int Int Int _ v0.1 1) (@Nat.cast Int _ (List.length b))) ∧ True ∧ True ∧ True) ∧ (@Eq Bool (not (and (BEq.beq (@elemAt RunT a (Int.toNat v0.1)).1 (@elemAt RunT b (Int.toNat v0.1)).1) (BEq.beq (@elemAt RunT a (Int.toNat v0.1)).2 (@elemAt RunT b (Int.toNat v0.1)).2))) true → (True ∧ (True ∧ True) ∧ @Eq Bool false (sameRuns a b))) ∧ (@Eq Bool (not (and (BEq.beq (@elemAt RunT a (Int.toNat v0.1)).1 (@elemAt RunT b (Int.toNat v0.1)).1) (BEq.beq (@elemAt RunT a (Int.toNat v0.1)).2 (@elemAt RunT b (Int.toNat v0.1)).2))) false → (True ∧ True ∧ (True ∧ (@Eq Int (IntKind.i64.wrap (@HAdd.hAdd Int Int Int _ v0.1 1)) (IntKind.i64.wrap (@HAdd.hAdd Int Int Int _ v0.1 1)) ∧ @Eq Int (@Nat.cast Int _ (List.length a)) (@Nat.cast Int _ (List.length a)) ∧ @Eq _ a a ∧ @Eq Bool (bne (@Nat.cast Int _ (List.length a)) (@Nat.cast Int _ (List.length b))) (bne (@Nat.cast Int _ (List.length a)) (@Nat.cast Int _ (List.length b))) ∧ @Eq Int (@Nat.cast Int _ (List.length b)) (@Nat.cast Int _ (List.length b)) ∧ @Eq _ b b ∧ @Eq Int (@Nat.cast Int _ (List.length a)) (@Nat.cast Int _ (List.length a)) ∧ @Eq _ a a ∧ @Eq _ a a ∧ @Eq _ b b ∧ True) ∧ True) ∧ ((@LE.le Int _ 0 (IntKind.i64.wrap (@HAdd.hAdd Int Int Int _ v0.1 1)) ∧ @LE.le Int _ (IntKind.i64.wrap (@HAdd.hAdd Int Int Int _ v0.1 1)) (@Nat.cast (Pl.T (Pl.slot 13 I64)) _ (List.length a))) ∧ (∀ (v1 : Nat), (@LE.le Int _ (@HAdd.hAdd Int Int Int _ (@Nat.cast Int _ v1) 1) (IntKind.i64.wrap (@HAdd.hAdd Int Int Int _ v0.1 1)) → @Eq _ (@elemAt RunT a v1) (@elemAt RunT b v1)))) ∧ @LT.lt Nat _ (Int.toNat (@HSub.hSub Int Int Int _ (@Nat.cast Int _ (List.length a)) (IntKind.i64.wrap (@HAdd.hAdd Int Int Int _ v0.1 1)))) (Int.toNat (@HSub.hSub Int Int Int _ (@Nat.cast Int _ (List.length a)) v0.1)))))) ∧ (@Eq Bool (@decide (@LT.lt Int _ v0.1 (@Nat.cast Int _ (List.length a))) (Int.decLt v0.1 (@Nat.cast Int _ (List.length a)))) false → (True ∧ (True ∧ True) ∧ @Eq Bool true (sameRuns a b)))))))))) (by kernel_rfl) ?_
  simp only [true_and, and_true, decide_eq_true_eq, decide_eq_false_iff_not, forall_const, implies_true, and_self]
  exact same_go (t := RunT) (same := sameRuns) (ne := fun x y : Run => !(x.1 == y.1 && x.2 == y.2)) (fun a b => by simp [sameRuns]) (fun x y => by
    obtain ⟨x1, x2⟩ := x
    obtain ⟨y1, y2⟩ := y
    simp) ha hb
abbrev K28 : KCons := (63, fun Γc => pure_ Γc ((pcon [.d (.list RunT), .d (.list RunT)] fun x => (x.1.length ≤ 1000000000 ∧ x.2.1.length ≤ 1000000000, .bool (sameRuns x.1 x.2.1))))) :: K27
theorem HK28 : KS Try.prog K28 := ks_add (ksound_pure (s_eqRun)) HK27
theorem s_eqRect : PSound Try.prog 38 (pcon [.d (.list RectT), .d (.list RectT)] fun x => (x.1.length ≤ 1000000000 ∧ x.2.1.length ≤ 1000000000, .bool (sameRects x.1 x.2.1))) := by
  refine psoundF (K := K28) (Γc := C24) (Γr := R0) (fun x => [(4, annP [.slot 13 I64] (fun _ y => (0 ≤ y.1 ∧ y.1 ≤ x.1.length) ∧ ∀ j : Nat, (j : Int) < y.1 → elemAt (t := RectT) x.1 j = elemAt (t := RectT) x.2.1 j) (fun y => (x.1.length - y.1 : Int).toNat))]) hm HK28 HC24 HR0 Try.call38 Try.func38 (by kernel_rfl) ?_
  rintro ⟨a, b, _⟩ hx
  obtain ⟨ha, hb⟩ : a.length ≤ 1000000000 ∧ b.length ≤ 1000000000 := hx
  refine Eq.mpr (β := (True ∧ True ∧ True ∧ True ∧ True ∧ True ∧ (@Eq Bool (bne (@Nat.cast Int _ (List.length a)) (@Nat.cast Int _ (List.length b))) true → (True ∧ (True ∧ True) ∧ @Eq Bool false (sameRects a b))) ∧ (@Eq Bool (bne (@Nat.cast Int _ (List.length a)) (@Nat.cast Int _ (List.length b))) false → (True ∧ True ∧ True ∧ ((True ∧ (@Eq Int 0 0 ∧ @Eq Int (@Nat.cast Int _ (List.length a)) (@Nat.cast Int _ (List.length a)) ∧ @Eq _ a a ∧ @Eq Bool (bne (@Nat.cast Int _ (List.length a)) (@Nat.cast Int _ (List.length b))) (bne (@Nat.cast Int _ (List.length a)) (@Nat.cast Int _ (List.length b))) ∧ @Eq Int (@Nat.cast Int _ (List.length b)) (@Nat.cast Int _ (List.length b)) ∧ @Eq _ b b ∧ @Eq Int (@Nat.cast Int _ (List.length a)) (@Nat.cast Int _ (List.length a)) ∧ @Eq _ a a ∧ @Eq _ a a ∧ @Eq _ b b ∧ True) ∧ True) ∧ (@LE.le Int _ 0 0 ∧ @LE.le Int _ 0 (@Nat.cast (Pl.T (Pl.slot 13 I64)) _ (List.length a))) ∧ (∀ (v0 : Nat), (@LE.le Int _ (@HAdd.hAdd Int Int Int _ (@Nat.cast Int _ v0) 1) 0 → @Eq _ (@elemAt RectT a v0) (@elemAt RectT b v0)))) ∧ (∀ (v0 : (Prod Int Unit)), (((@LE.le Int _ 0 v0.1 ∧ @LE.le Int _ v0.1 (@Nat.cast (Pl.T (Pl.slot 13 I64)) _ (List.length a))) ∧ (∀ (v1 : Nat), (@LE.le Int _ (@HAdd.hAdd Int Int Int _ (@Nat.cast Int _ v1) 1) v0.1 → @Eq _ (@elemAt RectT a v1) (@elemAt RectT b v1)))) → (True ∧ (@Eq Bool (@decide (@LT.lt Int _ v0.1 (@Nat.cast Int _ (List.length a))) (Int.decLt v0.1 (@Nat.cast Int _ (List.length a)))) true → (True ∧ True ∧ (True ∧ True ∧ (@LE.le Int _ 0 v0.1 ∧ @LE.le Int _ (@HAdd.hAdd Int Int Int _ v0.1 1) (@Nat.cast Int _ (List.length a))) ∧ True ∧ True ∧ True ∧ (@LE.le Int _ 0 v0.1 ∧ @LE.le Int _ (@HAdd.hAdd Int Int Int _ v0.1 1) (@Nat.cast Int _ (List.length b))) ∧ True ∧ True ∧ True) ∧ (@Eq Bool (not (and (BEq.beq (@elemAt RectT a (Int.toNat v0.1)).1 (@elemAt RectT b (Int.toNat v0.1)).1) (and (BEq.beq (@elemAt RectT a (Int.toNat v0.1)).2.1 (@elemAt RectT b (Int.toNat v0.1)).2.1) (and (BEq.beq (@elemAt RectT a (Int.toNat v0.1)).2.2.1 (@elemAt RectT b (Int.toNat v0.1)).2.2.1) (BEq.beq (@elemAt RectT a (Int.toNat v0.1)).2.2.2 (@elemAt RectT b (Int.toNat v0.1)).2.2.2))))) true → (True ∧ (True ∧ True) ∧ @Eq Bool false (sameRects a b))) ∧ (@Eq Bool (not (and (BEq.beq (@elemAt RectT a (Int.toNat v0.1)).1 (@elemAt RectT b (Int.toNat v0.1)).1) (and (BEq.beq (@elemAt RectT a (Int.toNat v0.1)).2.1 (@elemAt RectT b (Int.toNat v0.1)).2.1) (and (BEq.beq (@elemAt RectT a (Int.toNat v0.1)).2.2.1 (@elemAt RectT b (Int.toNat v0.1)).2.2.1) (BEq.beq (@elemAt RectT a (Int.toNat v0.1)).2.2.2 (@elemAt RectT b (Int.toNat v0.1)).2.2.2))))) false → (True ∧ True ∧ (True ∧ (@Eq Int (IntKind.i64.wrap (@HAdd.hAdd Int Int Int _ v0.1 1)) (IntKind.i64.wrap (@HAdd.hAdd Int Int Int _ v0.1 1)) ∧ @Eq Int (@Nat.cast Int _ (List.length a)) (@Nat.cast Int _ (List.length a)) ∧ @Eq _ a a ∧ @Eq Bool (bne (@Nat.cast Int _ (List.length a)) (@Nat.cast Int _ (List.length b))) (bne (@Nat.cast Int _ (List.length a)) (@Nat.cast Int _ (List.length b))) ∧ @Eq Int (@Nat.cast Int _ (List.length b)) (@Nat.cast Int _ (List.length b)) ∧ @Eq _ b b ∧ @Eq Int (@Nat.cast Int _ (List.length a)) (@Nat.cast Int _ (List.length a)) ∧ @Eq _ a a ∧ @Eq _ a a ∧ @Eq _ b b ∧ True) ∧ True) ∧ ((@LE.le Int _ 0 (IntKind.i64.wrap (@HAdd.hAdd Int Int Int _ v0.1 1)) ∧ @LE.le Int _ (IntKind.i64.wrap (@HAdd.hAdd Int Int Int _ v0.1 1)) (@Nat.cast (Pl.T (Pl.slot 13 I64)) _ (List.length a))) ∧ (∀ (v1 : Nat), (@LE.le Int _ (@HAdd.hAdd Int Int Int _ (@Nat.cast Int _ v1) 1) (IntKind.i64.wrap (@HAdd.hAdd Int Int Int _ v0.1 1)) → @Eq _ (@elemAt RectT a v1) (@elemAt RectT b v1)))) ∧ @LT.lt Nat _ (Int.toNat (@HSub.hSub Int Int Int _ (@Nat.cast Int _ (List.length a)) (IntKind.i64.wrap (@HAdd.hAdd Int Int Int _ v0.1 1)))) (Int.toNat (@HSub.hSub Int Int Int _ (@Nat.cast Int _ (List.length a)) v0.1)))))) ∧ (@Eq Bool (@decide (@LT.lt Int _ v0.1 (@Nat.cast Int _ (List.length a))) (Int.decLt v0.1 (@Nat.cast Int _ (List.length a)))) false → (True ∧ (True ∧ True) ∧ @Eq Bool true (sameRects a b)))))))))) (by kernel_rfl) ?_
  simp only [true_and, and_true, decide_eq_true_eq, decide_eq_false_iff_not, forall_const, implies_true, and_self]
  exact same_go (t := RectT) (same := sameRects) (ne := fun x y : Rect => !(x.1 == y.1 && (x.2.1 == y.2.1 && (x.2.2.1 == y.2.2.1 && x.2.2.2 == y.2.2.2)))) (fun a b => by simp [sameRects]) (fun x y => by
    obtain ⟨x1, x2, x3, x4⟩ := x
    obtain ⟨y1, y2, y3, y4⟩ := y
    simp) ha hb
abbrev K29 : KCons := (38, fun Γc => pure_ Γc ((pcon [.d (.list RectT), .d (.list RectT)] fun x => (x.1.length ≤ 1000000000 ∧ x.2.1.length ≤ 1000000000, .bool (sameRects x.1 x.2.1))))) :: K28
theorem HK29 : KS Try.prog K29 := ks_add (ksound_pure (s_eqRect)) HK28
theorem s_r5Same : PSound Try.prog 17 (pcon [.d (.list RectT), .d (.list RectT)] fun x => (x.1.length ≤ 1000000000 ∧ x.2.1.length ≤ 1000000000, .bool (sameRects x.1 x.2.1))) := by
  refine psoundF (K := K29) (Γc := C24) (Γr := R0) (fun x => [(4, annP [.slot 5 I64] (fun _ y => (0 ≤ y.1 ∧ y.1 ≤ x.1.length) ∧ ∀ j : Nat, (j : Int) < y.1 → elemAt (t := RectT) x.1 j = elemAt (t := RectT) x.2.1 j) (fun y => (x.1.length - y.1 : Int).toNat))]) hm HK29 HC24 HR0 Try.call17 Try.func17 (by kernel_rfl) ?_
  rintro ⟨a, b, _⟩ hx
  obtain ⟨ha, hb⟩ : a.length ≤ 1000000000 ∧ b.length ≤ 1000000000 := hx
  refine Eq.mpr (β := (True ∧ True ∧ True ∧ True ∧ True ∧ True ∧ (@Eq Bool (bne (@Nat.cast Int _ (List.length a)) (@Nat.cast Int _ (List.length b))) true → (True ∧ (True ∧ True) ∧ @Eq Bool false (sameRects a b))) ∧ (@Eq Bool (bne (@Nat.cast Int _ (List.length a)) (@Nat.cast Int _ (List.length b))) false → (True ∧ ((True ∧ (@Eq Int 0 0 ∧ @Eq Bool (bne (@Nat.cast Int _ (List.length a)) (@Nat.cast Int _ (List.length b))) (bne (@Nat.cast Int _ (List.length a)) (@Nat.cast Int _ (List.length b))) ∧ @Eq Int (@Nat.cast Int _ (List.length b)) (@Nat.cast Int _ (List.length b)) ∧ @Eq _ b b ∧ @Eq Int (@Nat.cast Int _ (List.length a)) (@Nat.cast Int _ (List.length a)) ∧ @Eq _ a a ∧ @Eq _ a a ∧ @Eq _ b b ∧ True) ∧ True) ∧ (@LE.le Int _ 0 0 ∧ @LE.le Int _ 0 (@Nat.cast (Pl.T (Pl.slot 5 I64)) _ (List.length a))) ∧ (∀ (v0 : Nat), (@LE.le Int _ (@HAdd.hAdd Int Int Int _ (@Nat.cast Int _ v0) 1) 0 → @Eq _ (@elemAt RectT a v0) (@elemAt RectT b v0)))) ∧ (∀ (v0 : (Prod Int Unit)), (((@LE.le Int _ 0 v0.1 ∧ @LE.le Int _ v0.1 (@Nat.cast (Pl.T (Pl.slot 5 I64)) _ (List.length a))) ∧ (∀ (v1 : Nat), (@LE.le Int _ (@HAdd.hAdd Int Int Int _ (@Nat.cast Int _ v1) 1) v0.1 → @Eq _ (@elemAt RectT a v1) (@elemAt RectT b v1)))) → (True ∧ True ∧ True ∧ True ∧ (@Eq Bool (@decide (@LT.lt Int _ v0.1 (@Nat.cast Int _ (List.length a))) (Int.decLt v0.1 (@Nat.cast Int _ (List.length a)))) true → ((True ∧ True ∧ (@LE.le Int _ 0 v0.1 ∧ @LE.le Int _ (@HAdd.hAdd Int Int Int _ v0.1 1) (@Nat.cast Int _ (List.length a))) ∧ True ∧ True ∧ True ∧ (@LE.le Int _ 0 v0.1 ∧ @LE.le Int _ (@HAdd.hAdd Int Int Int _ v0.1 1) (@Nat.cast Int _ (List.length b))) ∧ True ∧ True ∧ True) ∧ (@Eq Bool (not (and (BEq.beq (@elemAt RectT a (Int.toNat v0.1)).1 (@elemAt RectT b (Int.toNat v0.1)).1) (and (BEq.beq (@elemAt RectT a (Int.toNat v0.1)).2.1 (@elemAt RectT b (Int.toNat v0.1)).2.1) (and (BEq.beq (@elemAt RectT a (Int.toNat v0.1)).2.2.1 (@elemAt RectT b (Int.toNat v0.1)).2.2.1) (BEq.beq (@elemAt RectT a (Int.toNat v0.1)).2.2.2 (@elemAt RectT b (Int.toNat v0.1)).2.2.2))))) true → (True ∧ (True ∧ True) ∧ @Eq Bool false (sameRects a b))) ∧ (@Eq Bool (not (and (BEq.beq (@elemAt RectT a (Int.toNat v0.1)).1 (@elemAt RectT b (Int.toNat v0.1)).1) (and (BEq.beq (@elemAt RectT a (Int.toNat v0.1)).2.1 (@elemAt RectT b (Int.toNat v0.1)).2.1) (and (BEq.beq (@elemAt RectT a (Int.toNat v0.1)).2.2.1 (@elemAt RectT b (Int.toNat v0.1)).2.2.1) (BEq.beq (@elemAt RectT a (Int.toNat v0.1)).2.2.2 (@elemAt RectT b (Int.toNat v0.1)).2.2.2))))) false → (True ∧ True ∧ True ∧ (True ∧ (@Eq Int (IntKind.i64.wrap (@HAdd.hAdd Int Int Int _ v0.1 1)) (IntKind.i64.wrap (@HAdd.hAdd Int Int Int _ v0.1 1)) ∧ @Eq Bool (bne (@Nat.cast Int _ (List.length a)) (@Nat.cast Int _ (List.length b))) (bne (@Nat.cast Int _ (List.length a)) (@Nat.cast Int _ (List.length b))) ∧ @Eq Int (@Nat.cast Int _ (List.length b)) (@Nat.cast Int _ (List.length b)) ∧ @Eq _ b b ∧ @Eq Int (@Nat.cast Int _ (List.length a)) (@Nat.cast Int _ (List.length a)) ∧ @Eq _ a a ∧ @Eq _ a a ∧ @Eq _ b b ∧ True) ∧ True) ∧ ((@LE.le Int _ 0 (IntKind.i64.wrap (@HAdd.hAdd Int Int Int _ v0.1 1)) ∧ @LE.le Int _ (IntKind.i64.wrap (@HAdd.hAdd Int Int Int _ v0.1 1)) (@Nat.cast (Pl.T (Pl.slot 5 I64)) _ (List.length a))) ∧ (∀ (v1 : Nat), (@LE.le Int _ (@HAdd.hAdd Int Int Int _ (@Nat.cast Int _ v1) 1) (IntKind.i64.wrap (@HAdd.hAdd Int Int Int _ v0.1 1)) → @Eq _ (@elemAt RectT a v1) (@elemAt RectT b v1)))) ∧ @LT.lt Nat _ (Int.toNat (@HSub.hSub Int Int Int _ (@Nat.cast Int _ (List.length a)) (IntKind.i64.wrap (@HAdd.hAdd Int Int Int _ v0.1 1)))) (Int.toNat (@HSub.hSub Int Int Int _ (@Nat.cast Int _ (List.length a)) v0.1)))))) ∧ (@Eq Bool (@decide (@LT.lt Int _ v0.1 (@Nat.cast Int _ (List.length a))) (Int.decLt v0.1 (@Nat.cast Int _ (List.length a)))) false → (True ∧ (True ∧ True) ∧ @Eq Bool true (sameRects a b)))))))))) (by kernel_rfl) ?_
  simp only [true_and, and_true, decide_eq_true_eq, decide_eq_false_iff_not, forall_const, implies_true, and_self]
  exact same_go (t := RectT) (same := sameRects) (ne := fun x y : Rect => !(x.1 == y.1 && (x.2.1 == y.2.1 && (x.2.2.1 == y.2.2.1 && x.2.2.2 == y.2.2.2)))) (fun a b => by simp [sameRects]) (fun x y => by
    obtain ⟨x1, x2, x3, x4⟩ := x
    obtain ⟨y1, y2, y3, y4⟩ := y
    simp) ha hb
abbrev K30 : KCons := (17, fun Γc => pure_ Γc ((pcon [.d (.list RectT), .d (.list RectT)] fun x => (x.1.length ≤ 1000000000 ∧ x.2.1.length ≤ 1000000000, .bool (sameRects x.1 x.2.1))))) :: K29
theorem HK30 : KS Try.prog K30 := ks_add (ksound_pure (s_r5Same)) HK29
theorem s_either : PSound Try.prog 57 (pcon (closTs [.bool, .bool] []) fun x => (True, .bool (x.1 || x.2.1))) := by
  refine psoundF (K := K30) (Γc := C24) (Γr := R0) (fun _ => []) hm HK30 HC24 HR0 Try.call57 Try.func57 (by kernel_rfl) ?_
  rintro ⟨a, b, _⟩ _
  refine Eq.mpr (β := (True ∧ True ∧ True ∧ (@Eq Bool a false → True) ∧ True ∧ True ∧ (True ∧ True) ∧ @Eq Bool (or a b) (or a b))) (by kernel_rfl) ?_
  simp only [true_and, and_true, decide_eq_true_eq, decide_eq_false_iff_not, forall_const, implies_true, and_self]
abbrev C31 : Clos := (57, ccon [.bool, .bool] .bool [] fun x c => x.1 || x.2.1) :: C24
theorem HC31 : CSound Try.prog C31 := csound_add s_either rfl (fun x c => ⟨trivial, rfl⟩) HC24
theorem s_int1 : PSound Try.prog 46 (pcon (closTs [.bool, .bool] []) fun x => (True, .bool (x.1 && x.2.1))) := by
  refine psoundF (K := K30) (Γc := C31) (Γr := R0) (fun _ => []) hm HK30 HC31 HR0 Try.call46 Try.func46 (by kernel_rfl) ?_
  rintro ⟨a, b, _⟩ _
  refine Eq.mpr (β := (True ∧ True ∧ True ∧ (@Eq Bool a true → True) ∧ True ∧ True ∧ (True ∧ True) ∧ @Eq Bool (and a b) (and a b))) (by kernel_rfl) ?_
  simp only [true_and, and_true, decide_eq_true_eq, decide_eq_false_iff_not, forall_const, implies_true, and_self]
abbrev C32 : Clos := (46, ccon [.bool, .bool] .bool [] fun x c => x.1 && x.2.1) :: C31
theorem HC32 : CSound Try.prog C32 := csound_add s_int1 rfl (fun x c => ⟨trivial, rfl⟩) HC31
theorem s_sub1 : PSound Try.prog 58 (pcon (closTs [.bool, .bool] []) fun x => (True, .bool (x.1 && !x.2.1))) := by
  refine psoundF (K := K30) (Γc := C32) (Γr := R0) (fun _ => []) hm HK30 HC32 HR0 Try.call58 Try.func58 (by kernel_rfl) ?_
  rintro ⟨a, b, _⟩ _
  refine Eq.mpr (β := (True ∧ True ∧ True ∧ (@Eq Bool a true → True) ∧ (@Eq Bool a true → True) ∧ True ∧ True ∧ (True ∧ True) ∧ @Eq Bool (and a (not b)) (and a (not b)))) (by kernel_rfl) ?_
  simp only [true_and, and_true, decide_eq_true_eq, decide_eq_false_iff_not, forall_const, implies_true, and_self]
abbrev C33 : Clos := (58, ccon [.bool, .bool] .bool [] fun x c => x.1 && !x.2.1) :: C32
theorem HC33 : CSound Try.prog C33 := csound_add s_sub1 rfl (fun x c => ⟨trivial, rfl⟩) HC32
end Go.Proofs.Ytogbocplojbdjaa
