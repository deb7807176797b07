/-
  A part of the proof: what some of the program's functions compute.
-/
import Derived.Test.YtogbocplojbdjaaProg
import Derived.Test.YtogbocplojbdjaaW6
namespace Go.Proofs.Ytogbocplojbdjaa
open Go Go.E Go.Proofs
set_option linter.unusedVariables false
set_option linter.unusedSimpArgs false
abbrev I64 : Ty := .int .i64
abbrev U8 : Ty := .int .u8
abbrev U32 : Ty := .int .u32
abbrev RectT : Ty := .prod I64 (.prod I64 (.prod I64 I64))
abbrev Rect := Int × Int × Int × Int
abbrev PixT : Ty := .prod U8 (.prod U8 (.prod U8 U8))
abbrev Pix := Int × Int × Int × Int
abbrev BufT : Ty := .prod I64 (.prod I64 (.list PixT))
abbrev Buf := Int × Int × List Pix
abbrev ItemT : Ty := .prod I64 (.prod I64 (.prod I64 (.prod I64 (.prod BufT (.prod (.list RectT) (.list RectT))))))
abbrev Item := Int × Int × Int × Int × Buf × List Rect × List Rect
theorem hm : Try.prog.follows .mixedOrders = true := by kernel_rfl
abbrev K0 : KCons := []
theorem HK0 : KS Try.prog K0 := ks_nil
abbrev C0 : Clos := []
theorem HC0 : CSound Try.prog C0 := cs_nil
abbrev R0 : RCons := []
theorem HR0 : RS Try.prog R0 := rcons_nil
theorem wrap_in {n : Int} (h : -9223372036854775808 ≤ n ∧ n ≤ 9223372036854775807) : IntKind.i64.wrap n = n := by
  rw [IntKind.wrap_i64]; omega
theorem elemAt_get {t : Ty} (xs : List t.T) (i : Nat) (h : i < xs.length) : xs[i]? = some (elemAt xs i) := by
  simp [elemAt, h]
theorem mul_range {p q : Int} {B : Nat} (hp : -B ≤ p ∧ p ≤ B) (hq : -B ≤ q ∧ q ≤ B) : -((B * B : Nat) : Int) ≤ p * q ∧ p * q ≤ ((B * B : Nat) : Int) := by
  have h : (p * q).natAbs ≤ B * B := by
    rw [Int.natAbs_mul]
    exact Nat.mul_le_mul (by omega) (by omega)
  omega
def coordOk (n : Int) : Bool := decide (-16384 ≤ n) && decide (n ≤ 16384)
def c_rvalid : PCon := pcon [.d I64] fun x => (True, .bool (coordOk x.1))
theorem s_rvalid : PSound Try.prog 40 c_rvalid := by
  refine psoundF (K := K0) (Γc := C0) (Γr := R0) (fun _ => []) hm HK0 HC0 HR0 Try.call40 Try.func40 (by kernel_rfl) ?_
  rintro ⟨n, _⟩ _
  refine Eq.mpr (β := (True ∧ True ∧ True ∧ True ∧ (@Eq Bool (@decide (@GE.ge Int Int.instLEInt n (Neg.neg 16384)) (Int.decLe (Neg.neg 16384) n)) true → True) ∧ (@Eq Bool (@decide (@GE.ge Int Int.instLEInt n (Neg.neg 16384)) (Int.decLe (Neg.neg 16384) n)) true → True) ∧ True ∧ True ∧ (True ∧ True) ∧ @Eq Bool (and (@decide (@GE.ge Int Int.instLEInt n (Neg.neg 16384)) (Int.decLe (Neg.neg 16384) n)) (@decide (@LE.le Int _ n 16384) (Int.decLe n 16384))) (coordOk n))) (by kernel_rfl) ?_
  simp [coordOk]
abbrev K1 : KCons := (40, fun Γc => pure_ Γc (c_rvalid)) :: K0
theorem HK1 : KS Try.prog K1 := ks_add (ksound_pure (s_rvalid)) HK0
def validR (r : Rect) : Bool := coordOk r.1 && coordOk r.2.1 && coordOk r.2.2.1 && coordOk r.2.2.2
def c_rValid : PCon := pcon [.d RectT] fun x => (True, .bool (validR x.1))
theorem s_rValid : PSound Try.prog 18 c_rValid := by
  refine psoundF (K := K1) (Γc := C0) (Γr := R0) (fun _ => []) hm HK1 HC0 HR0 Try.call18 Try.func18 (by kernel_rfl) ?_
  rintro ⟨⟨a, b, c, d⟩, _⟩ _
  refine Eq.mpr (β := (True ∧ True ∧ True ∧ True ∧ True ∧ True ∧ (@Eq Bool (coordOk a) true → True) ∧ (@Eq Bool (coordOk a) true → True) ∧ (@Eq Bool (coordOk a) true → True) ∧ True ∧ True ∧ (@Eq Bool (and (coordOk a) (coordOk b)) true → True) ∧ (@Eq Bool (and (coordOk a) (coordOk b)) true → True) ∧ (@Eq Bool (and (coordOk a) (coordOk b)) true → True) ∧ True ∧ True ∧ (@Eq Bool (and (and (coordOk a) (coordOk b)) (coordOk c)) true → True) ∧ (@Eq Bool (and (and (coordOk a) (coordOk b)) (coordOk c)) true → True) ∧ (@Eq Bool (and (and (coordOk a) (coordOk b)) (coordOk c)) true → True) ∧ True ∧ True ∧ (True ∧ True) ∧ @Eq Bool (and (and (and (coordOk a) (coordOk b)) (coordOk c)) (coordOk d)) (validR (a, (b, (c, d)))))) (by kernel_rfl) ?_
  simp [validR]
abbrev K2 : KCons := (18, fun Γc => pure_ Γc (c_rValid)) :: K1
theorem HK2 : KS Try.prog K2 := ks_add (ksound_pure (s_rValid)) HK1
def emptyR (r : Rect) : Bool := !validR r || decide (r.2.2.1 ≤ r.1) || decide (r.2.2.2 ≤ r.2.1)
def c_rEmpty : PCon := pcon [.d RectT] fun x => (True, .bool (emptyR x.1))
theorem s_rEmpty : PSound Try.prog 13 c_rEmpty := by
  refine psoundF (K := K2) (Γc := C0) (Γr := R0) (fun _ => []) hm HK2 HC0 HR0 Try.call13 Try.func13 (by kernel_rfl) ?_
  rintro ⟨⟨a, b, c, d⟩, _⟩ _
  refine Eq.mpr (β := (True ∧ True ∧ True ∧ True ∧ True ∧ True ∧ (@Eq Bool (not (validR (a, (b, (c, d))))) false → True) ∧ (@Eq Bool (not (validR (a, (b, (c, d))))) false → True) ∧ (@Eq Bool (not (validR (a, (b, (c, d))))) false → True) ∧ (@Eq Bool (not (validR (a, (b, (c, d))))) false → True) ∧ (@Eq Bool (not (validR (a, (b, (c, d))))) false → True) ∧ True ∧ True ∧ (@Eq Bool (or (not (validR (a, (b, (c, d))))) (@decide (@GE.ge Int Int.instLEInt a c) (Int.decLe c a))) false → True) ∧ (@Eq Bool (or (not (validR (a, (b, (c, d))))) (@decide (@GE.ge Int Int.instLEInt a c) (Int.decLe c a))) false → True) ∧ (@Eq Bool (or (not (validR (a, (b, (c, d))))) (@decide (@GE.ge Int Int.instLEInt a c) (Int.decLe c a))) false → True) ∧ (@Eq Bool (or (not (validR (a, (b, (c, d))))) (@decide (@GE.ge Int Int.instLEInt a c) (Int.decLe c a))) false → True) ∧ (@Eq Bool (or (not (validR (a, (b, (c, d))))) (@decide (@GE.ge Int Int.instLEInt a c) (Int.decLe c a))) false → True) ∧ True ∧ True ∧ (True ∧ True) ∧ @Eq Bool (or (or (not (validR (a, (b, (c, d))))) (@decide (@GE.ge Int Int.instLEInt a c) (Int.decLe c a))) (@decide (@GE.ge Int Int.instLEInt b d) (Int.decLe d b))) (emptyR (a, (b, (c, d)))))) (by kernel_rfl) ?_
  simp [emptyR]
abbrev K3 : KCons := (13, fun Γc => pure_ Γc (c_rEmpty)) :: K2
theorem HK3 : KS Try.prog K3 := ks_add (ksound_pure (s_rEmpty)) HK2
def canonR (r : Rect) : Rect := if emptyR r = true then (0, 0, 0, 0) else r
def c_rCanonical : PCon := pcon [.d RectT] fun x => (True, .agg (enc RectT (canonR x.1)))
theorem s_rCanonical : PSound Try.prog 36 c_rCanonical := by
  refine psoundF (K := K3) (Γc := C0) (Γr := R0) (fun _ => []) hm HK3 HC0 HR0 Try.call36 Try.func36 (by kernel_rfl) ?_
  rintro ⟨⟨a, b, c, d⟩, _⟩ _
  refine Eq.mpr (β := (True ∧ True ∧ True ∧ True ∧ (@Eq Bool (emptyR (a, (b, (c, d)))) true → (True ∧ True ∧ (True ∧ True) ∧ @Eq Int 0 (canonR (a, (b, (c, d)))).1 ∧ @Eq Int 0 (canonR (a, (b, (c, d)))).2.1 ∧ @Eq Int 0 (canonR (a, (b, (c, d)))).2.2.1 ∧ @Eq Int 0 (canonR (a, (b, (c, d)))).2.2.2 ∧ True)) ∧ (@Eq Bool (emptyR (a, (b, (c, d)))) false → (True ∧ True ∧ (True ∧ True) ∧ @Eq Int a (canonR (a, (b, (c, d)))).1 ∧ @Eq Int b (canonR (a, (b, (c, d)))).2.1 ∧ @Eq Int (c, d).1 (canonR (a, (b, (c, d)))).2.2.1 ∧ @Eq Int (c, d).2 (canonR (a, (b, (c, d)))).2.2.2 ∧ True)))) (by kernel_rfl) ?_
  simp only [true_and, and_true]
  exact ⟨fun h => by simp [canonR, h], fun h => by simp [canonR, h]⟩
abbrev K4 : KCons := (36, fun Γc => pure_ Γc (c_rCanonical)) :: K3
theorem HK4 : KS Try.prog K4 := ks_add (ksound_pure (s_rCanonical)) HK3
def containsR (r : Rect) (x y : Int) : Bool := decide ((canonR r).1 ≤ x) && decide (x < (canonR r).2.2.1) && decide ((canonR r).2.1 ≤ y) && decide (y < (canonR r).2.2.2)
def c_rContains : PCon := pcon [.d RectT, .d I64, .d I64] fun x => (True, .bool (containsR x.1 x.2.1 x.2.2.1))
theorem s_rContains : PSound Try.prog 26 c_rContains := by
  refine psoundF (K := K4) (Γc := C0) (Γr := R0) (fun _ => []) hm HK4 HC0 HR0 Try.call26 Try.func26 (by kernel_rfl) ?_
  rintro ⟨⟨a, b, c, d⟩, x, y, _⟩ _
  refine Eq.mpr (β := (True ∧ True ∧ True ∧ True ∧ True ∧ True ∧ True ∧ True ∧ True ∧ True ∧ (@Eq Bool (@decide (@LE.le Int _ (canonR (a, (b, (c, d)))).1 x) (Int.decLe (canonR (a, (b, (c, d)))).1 x)) true → True) ∧ (@Eq Bool (@decide (@LE.le Int _ (canonR (a, (b, (c, d)))).1 x) (Int.decLe (canonR (a, (b, (c, d)))).1 x)) true → True) ∧ (@Eq Bool (@decide (@LE.le Int _ (canonR (a, (b, (c, d)))).1 x) (Int.decLe (canonR (a, (b, (c, d)))).1 x)) true → True) ∧ (@Eq Bool (@decide (@LE.le Int _ (canonR (a, (b, (c, d)))).1 x) (Int.decLe (canonR (a, (b, (c, d)))).1 x)) true → True) ∧ True ∧ True ∧ (@Eq Bool (and (@decide (@LE.le Int _ (canonR (a, (b, (c, d)))).1 x) (Int.decLe (canonR (a, (b, (c, d)))).1 x)) (@decide (@LT.lt Int _ x (canonR (a, (b, (c, d)))).2.2.1) (Int.decLt x (canonR (a, (b, (c, d)))).2.2.1))) true → True) ∧ (@Eq Bool (and (@decide (@LE.le Int _ (canonR (a, (b, (c, d)))).1 x) (Int.decLe (canonR (a, (b, (c, d)))).1 x)) (@decide (@LT.lt Int _ x (canonR (a, (b, (c, d)))).2.2.1) (Int.decLt x (canonR (a, (b, (c, d)))).2.2.1))) true → True) ∧ (@Eq Bool (and (@decide (@LE.le Int _ (canonR (a, (b, (c, d)))).1 x) (Int.decLe (canonR (a, (b, (c, d)))).1 x)) (@decide (@LT.lt Int _ x (canonR (a, (b, (c, d)))).2.2.1) (Int.decLt x (canonR (a, (b, (c, d)))).2.2.1))) true → True) ∧ (@Eq Bool (and (@decide (@LE.le Int _ (canonR (a, (b, (c, d)))).1 x) (Int.decLe (canonR (a, (b, (c, d)))).1 x)) (@decide (@LT.lt Int _ x (canonR (a, (b, (c, d)))).2.2.1) (Int.decLt x (canonR (a, (b, (c, d)))).2.2.1))) true → True) ∧ True ∧ True ∧ (@Eq Bool (and (and (@decide (@LE.le Int _ (canonR (a, (b, (c, d)))).1 x) (Int.decLe (canonR (a, (b, (c, d)))).1 x)) (@decide (@LT.lt Int _ x (canonR (a, (b, (c, d)))).2.2.1) (Int.decLt x (canonR (a, (b, (c, d)))).2.2.1))) (@decide (@LE.le Int _ (canonR (a, (b, (c, d)))).2.1 y) (Int.decLe (canonR (a, (b, (c, d)))).2.1 y))) true → True) ∧ (@Eq Bool (and (and (@decide (@LE.le Int _ (canonR (a, (b, (c, d)))).1 x) (Int.decLe (canonR (a, (b, (c, d)))).1 x)) (@decide (@LT.lt Int _ x (canonR (a, (b, (c, d)))).2.2.1) (Int.decLt x (canonR (a, (b, (c, d)))).2.2.1))) (@decide (@LE.le Int _ (canonR (a, (b, (c, d)))).2.1 y) (Int.decLe (canonR (a, (b, (c, d)))).2.1 y))) true → True) ∧ (@Eq Bool (and (and (@decide (@LE.le Int _ (canonR (a, (b, (c, d)))).1 x) (Int.decLe (canonR (a, (b, (c, d)))).1 x)) (@decide (@LT.lt Int _ x (canonR (a, (b, (c, d)))).2.2.1) (Int.decLt x (canonR (a, (b, (c, d)))).2.2.1))) (@decide (@LE.le Int _ (canonR (a, (b, (c, d)))).2.1 y) (Int.decLe (canonR (a, (b, (c, d)))).2.1 y))) true → True) ∧ (@Eq Bool (and (and (@decide (@LE.le Int _ (canonR (a, (b, (c, d)))).1 x) (Int.decLe (canonR (a, (b, (c, d)))).1 x)) (@decide (@LT.lt Int _ x (canonR (a, (b, (c, d)))).2.2.1) (Int.decLt x (canonR (a, (b, (c, d)))).2.2.1))) (@decide (@LE.le Int _ (canonR (a, (b, (c, d)))).2.1 y) (Int.decLe (canonR (a, (b, (c, d)))).2.1 y))) true → True) ∧ True ∧ True ∧ (True ∧ True) ∧ @Eq Bool (and (and (and (@decide (@LE.le Int _ (canonR (a, (b, (c, d)))).1 x) (Int.decLe (canonR (a, (b, (c, d)))).1 x)) (@decide (@LT.lt Int _ x (canonR (a, (b, (c, d)))).2.2.1) (Int.decLt x (canonR (a, (b, (c, d)))).2.2.1))) (@decide (@LE.le Int _ (canonR (a, (b, (c, d)))).2.1 y) (Int.decLe (canonR (a, (b, (c, d)))).2.1 y))) (@decide (@LT.lt Int _ y (canonR (a, (b, (c, d)))).2.2.2) (Int.decLt y (canonR (a, (b, (c, d)))).2.2.2))) (containsR (a, (b, (c, d))) x y))) (by kernel_rfl) ?_
  simp [containsR]
abbrev K5 : KCons := (26, fun Γc => pure_ Γc (c_rContains)) :: K4
theorem HK5 : KS Try.prog K5 := ks_add (ksound_pure (s_rContains)) HK4
def indexF {α : Type} (p : α → Bool) (xs : List α) : Int := match xs.findIdx? p with
  | some k => k
  | none => -1
theorem indexF_some {α : Type} {p : α → Bool} {xs : List α} {i : Nat} {x : α} (hx : xs[i]? = some x) (hp : p x = true) (h : ∀ j : Nat, j < i → ∀ r, xs[j]? = some r → p r = false) : indexF p xs = i := by
  have hlt : i < xs.length := (List.getElem?_eq_some_iff.1 hx).1
  have : xs.findIdx? p = some i := by
    rw [List.findIdx?_eq_some_iff_getElem]
    refine ⟨hlt, ?_, fun j hj => ?_⟩
    · have := (List.getElem?_eq_some_iff.1 hx).2; rw [this]; exact hp
    · have := h j hj (xs[j]'(by omega)) (List.getElem?_eq_getElem _); simp [this]
  simp [indexF, this]
theorem indexF_none {α : Type} {p : α → Bool} {xs : List α} (h : ∀ j : Nat, j < xs.length → ∀ r, xs[j]? = some r → p r = false) : indexF p xs = -1 := by
  have : xs.findIdx? p = none := by
    rw [List.findIdx?_eq_none_iff]
    intro x hx
    obtain ⟨j, hj, rfl⟩ := List.getElem_of_mem hx
    exact h j hj _ (List.getElem?_eq_getElem _)
  simp [indexF, this]
theorem indexF_any {α : Type} (p : α → Bool) (xs : List α) : decide (indexF p xs ≥ 0) = xs.any p := by
  unfold indexF
  cases h : xs.findIdx? p with
  | none =>
    rw [List.findIdx?_eq_none_iff] at h
    have : xs.any p = false := by rw [List.any_eq_false]; intro x hx; simp [h x hx]
    simp [this]
  | some k =>
    rw [List.findIdx?_eq_some_iff_getElem] at h
    obtain ⟨hk, hp, _⟩ := h
    have : xs.any p = true := List.any_eq_true.2 ⟨_, List.getElem_mem hk, hp⟩
    simp [this]
def idxInv {α : Type} (xs : List α) (p : α → Bool) (i : Int) : Prop := 0 ≤ i ∧ i ≤ xs.length ∧ ∀ j : Nat, j < i → ∀ r, xs[j]? = some r → p r = false
theorem idx_go {t : Ty} {xs : List t.T} {p : t.T → Bool} (hlen : xs.length ≤ 9223372036854775807) : idxInv xs p 0 ∧ ∀ x : Int × PUnit, idxInv xs p x.1 →
    (x.1 < xs.length → (0 ≤ x.1 ∧ x.1 + 1 ≤ (xs.length : Int)) ∧ (p (elemAt xs x.1.toNat) = true → x.1 = indexF p xs) ∧
      (p (elemAt xs x.1.toNat) = false → idxInv xs p (IntKind.i64.wrap (x.1 + 1)) ∧ ((xs.length : Int) - IntKind.i64.wrap (x.1 + 1)).toNat < ((xs.length : Int) - x.1).toNat)) ∧
    (¬ x.1 < xs.length → -1 = indexF p xs) := by
  refine ⟨⟨by omega, by omega, fun j hj => by omega⟩, ?_⟩
  rintro ⟨i, _⟩ ⟨h1, h2, h3⟩
  simp only at h1 h2 h3 ⊢
  refine ⟨fun hi => ?_, fun hi => ?_⟩
  · have hx := elemAt_get xs i.toNat (by omega)
    refine ⟨⟨h1, by omega⟩, fun hp => ?_, fun hp => ?_⟩
    · rw [indexF_some (i := i.toNat) hx hp fun j hj => h3 j (by omega)]; omega
    · rw [wrap_in (by omega)]
      refine ⟨⟨by omega, by omega, fun j hj r hr => ?_⟩, by omega⟩
      by_cases he : j = i.toNat
      · subst he; rw [hx] at hr; injection hr with hr; subst hr; exact hp
      · exact h3 j (by omega) r hr
  · exact (indexF_none fun j hj => h3 j (by omega)).symm
def c_idxf (t : Ty) : PCon := pcon [.d (.list t), .f [t] .bool] fun x => (x.1.length ≤ 9223372036854775807, .int .i64 (indexF (fun r => x.2.1 (r, ())) x.1))
def c_conf (t : Ty) : PCon := pcon [.d (.list t), .f [t] .bool] fun x => (x.1.length ≤ 9223372036854775807, .bool (x.1.any fun r => x.2.1 (r, ())))
theorem s_idxfRect : PSound Try.prog 64 (c_idxf RectT) := by
  refine psoundF (K := K5) (Γc := C0) (Γr := R0) (fun x => [(2, annP [.slot 8 I64] (fun _ y => idxInv x.1 (fun r => x.2.1 (r, ())) y.1) (fun y => (x.1.length - y.1 : Int).toNat))]) hm HK5 HC0 HR0 Try.call64 Try.func64 (by kernel_rfl) ?_
  rintro ⟨xs, p, _⟩ hx
  have hlen : xs.length ≤ 9223372036854775807 := hx
  clear hx
  refine Eq.mpr (β := (True ∧ True ∧ True ∧ True ∧ ((True ∧ (@Eq Int 0 0 ∧ @Eq Int (@Nat.cast Int _ (List.length xs)) (@Nat.cast Int _ (List.length xs)) ∧ @Eq _ xs xs ∧ @Eq _ xs xs ∧ @Eq _ p p ∧ True) ∧ True) ∧ (idxInv xs (fun (v0 : (Ty.T RectT)) => (Prod.fst (p, ()) (v0, Unit.unit))) 0)) ∧ (∀ (v0 : (Prod Int Unit)), ((idxInv xs (fun (v1 : (Ty.T RectT)) => (Prod.fst (p, ()) (v1, Unit.unit))) v0.1) → (True ∧ (@Eq Bool (@decide (@LT.lt Int _ v0.1 (@Nat.cast Int _ (List.length xs))) (Int.decLt v0.1 (@Nat.cast Int _ (List.length xs)))) true → (True ∧ True ∧ True ∧ True ∧ True ∧ (@LE.le Int _ 0 v0.1 ∧ @LE.le Int _ (@HAdd.hAdd Int Int Int _ v0.1 1) (@Nat.cast Int _ (List.length xs))) ∧ True ∧ True ∧ (@Eq Bool (p ((@elemAt RectT xs (Int.toNat v0.1)), Unit.unit)) true → (True ∧ True ∧ (True ∧ True) ∧ @Eq Int v0.1 (indexF (fun (v1 : (Ty.T RectT)) => (Prod.fst (p, ()) (v1, Unit.unit))) xs))) ∧ (@Eq Bool (p ((@elemAt RectT xs (Int.toNat v0.1)), Unit.unit)) false → (True ∧ True ∧ (True ∧ (@Eq Int (IntKind.i64.wrap (@HAdd.hAdd Int Int Int _ v0.1 1)) (IntKind.i64.wrap (@HAdd.hAdd Int Int Int _ v0.1 1)) ∧ @Eq Int (@Nat.cast Int _ (List.length xs)) (@Nat.cast Int _ (List.length xs)) ∧ @Eq _ xs xs ∧ @Eq _ xs xs ∧ @Eq _ p p ∧ True) ∧ True) ∧ (idxInv xs (fun (v1 : (Ty.T RectT)) => (Prod.fst (p, ()) (v1, Unit.unit))) (IntKind.i64.wrap (@HAdd.hAdd Int Int Int _ v0.1 1))) ∧ @LT.lt Nat _ (Int.toNat (@HSub.hSub Int Int Int _ (@Nat.cast Int _ (List.length xs)) (IntKind.i64.wrap (@HAdd.hAdd Int Int Int _ v0.1 1)))) (Int.toNat (@HSub.hSub Int Int Int _ (@Nat.cast Int _ (List.length xs)) v0.1)))))) ∧ (@Eq Bool (@decide (@LT.lt Int _ v0.1 (@Nat.cast Int _ (List.length xs))) (Int.decLt v0.1 (@Nat.cast Int _ (List.length xs)))) false → (True ∧ (True ∧ True) ∧ @Eq Int (Neg.neg 1) (indexF (fun (v1 : (Ty.T RectT)) => (Prod.fst (p, ()) (v1, Unit.unit))) xs)))))))) (by kernel_rfl) ?_
  simp only [true_and, and_true, decide_eq_true_eq, decide_eq_false_iff_not, forall_const, implies_true, and_self]
  exact idx_go hlen
abbrev K6 : KCons := (64, fun Γc => pure_ Γc ((c_idxf RectT))) :: K5
theorem HK6 : KS Try.prog K6 := ks_add (ksound_pure (s_idxfRect)) HK5
theorem s_confRect : PSound Try.prog 47 (c_conf RectT) := by
  refine psoundF (K := K6) (Γc := C0) (Γr := R0) (fun _ => []) hm HK6 HC0 HR0 Try.call47 Try.func47 (by kernel_rfl) ?_
  rintro ⟨xs, p, _⟩ hx
  refine Eq.mpr (β := (True ∧ True ∧ True ∧ @LE.le Nat _ (List.length xs) 9223372036854775807 ∧ True ∧ True ∧ (True ∧ True) ∧ @Eq Bool (@decide (@GE.ge Int Int.instLEInt (indexF (fun (v0 : (Ty.T RectT)) => (p (v0, Unit.unit))) xs) 0) (Int.decLe 0 (indexF (fun (v0 : (Ty.T RectT)) => (p (v0, Unit.unit))) xs))) (List.any xs (fun (v0 : (Ty.T RectT)) => (Prod.fst (p, ()) (v0, Unit.unit)))))) (by kernel_rfl) ?_
  simp only [true_and, and_true, decide_eq_true_eq, decide_eq_false_iff_not, forall_const, implies_true, and_self]
  exact ⟨hx, indexF_any _ xs⟩
abbrev K7 : KCons := (47, fun Γc => pure_ Γc ((c_conf RectT))) :: K6
theorem HK7 : KS Try.prog K7 := ks_add (ksound_pure (s_confRect)) HK6
theorem s_idxfPix : PSound Try.prog 83 (c_idxf PixT) := by
  refine psoundF (K := K7) (Γc := C0) (Γr := R0) (fun x => [(2, annP [.slot 8 I64] (fun _ y => idxInv x.1 (fun r => x.2.1 (r, ())) y.1) (fun y => (x.1.length - y.1 : Int).toNat))]) hm HK7 HC0 HR0 Try.call83 Try.func83 (by kernel_rfl) ?_
  rintro ⟨xs, p, _⟩ hx
  have hlen : xs.length ≤ 9223372036854775807 := hx
  clear hx
  refine Eq.mpr (β := (True ∧ True ∧ True ∧ True ∧ ((True ∧ (@Eq Int 0 0 ∧ @Eq Int (@Nat.cast Int _ (List.length xs)) (@Nat.cast Int _ (List.length xs)) ∧ @Eq _ xs xs ∧ @Eq _ xs xs ∧ @Eq _ p p ∧ True) ∧ True) ∧ (idxInv xs (fun (v0 : (Ty.T PixT)) => (Prod.fst (p, ()) (v0, Unit.unit))) 0)) ∧ (∀ (v0 : (Prod Int Unit)), ((idxInv xs (fun (v1 : (Ty.T PixT)) => (Prod.fst (p, ()) (v1, Unit.unit))) v0.1) → (True ∧ (@Eq Bool (@decide (@LT.lt Int _ v0.1 (@Nat.cast Int _ (List.length xs))) (Int.decLt v0.1 (@Nat.cast Int _ (List.length xs)))) true → (True ∧ True ∧ True ∧ True ∧ True ∧ (@LE.le Int _ 0 v0.1 ∧ @LE.le Int _ (@HAdd.hAdd Int Int Int _ v0.1 1) (@Nat.cast Int _ (List.length xs))) ∧ True ∧ True ∧ (@Eq Bool (p ((@elemAt PixT xs (Int.toNat v0.1)), Unit.unit)) true → (True ∧ True ∧ (True ∧ True) ∧ @Eq Int v0.1 (indexF (fun (v1 : (Ty.T PixT)) => (Prod.fst (p, ()) (v1, Unit.unit))) xs))) ∧ (@Eq Bool (p ((@elemAt PixT xs (Int.toNat v0.1)), Unit.unit)) false → (True ∧ True ∧ (True ∧ (@Eq Int (IntKind.i64.wrap (@HAdd.hAdd Int Int Int _ v0.1 1)) (IntKind.i64.wrap (@HAdd.hAdd Int Int Int _ v0.1 1)) ∧ @Eq Int (@Nat.cast Int _ (List.length xs)) (@Nat.cast Int _ (List.length xs)) ∧ @Eq _ xs xs ∧ @Eq _ xs xs ∧ @Eq _ p p ∧ True) ∧ True) ∧ (idxInv xs (fun (v1 : (Ty.T PixT)) => (Prod.fst (p, ()) (v1, Unit.unit))) (IntKind.i64.wrap (@HAdd.hAdd Int Int Int _ v0.1 1))) ∧ @LT.lt Nat _ (Int.toNat (@HSub.hSub Int Int Int _ (@Nat.cast Int _ (List.length xs)) (IntKind.i64.wrap (@HAdd.hAdd Int Int Int _ v0.1 1)))) (Int.toNat (@HSub.hSub Int Int Int _ (@Nat.cast Int _ (List.length xs)) v0.1)))))) ∧ (@Eq Bool (@decide (@LT.lt Int _ v0.1 (@Nat.cast Int _ (List.length xs))) (Int.decLt v0.1 (@Nat.cast Int _ (List.length xs)))) false → (True ∧ (True ∧ True) ∧ @Eq Int (Neg.neg 1) (indexF (fun (v1 : (Ty.T PixT)) => (Prod.fst (p, ()) (v1, Unit.unit))) xs)))))))) (by kernel_rfl) ?_
  simp only [true_and, and_true, decide_eq_true_eq, decide_eq_false_iff_not, forall_const, implies_true, and_self]
  exact idx_go hlen
abbrev K8 : KCons := (83, fun Γc => pure_ Γc ((c_idxf PixT))) :: K7
theorem HK8 : KS Try.prog K8 := ks_add (ksound_pure (s_idxfPix)) HK7
theorem s_confPix : PSound Try.prog 71 (c_conf PixT) := by
  refine psoundF (K := K8) (Γc := C0) (Γr := R0) (fun _ => []) hm HK8 HC0 HR0 Try.call71 Try.func71 (by kernel_rfl) ?_
  rintro ⟨xs, p, _⟩ hx
  refine Eq.mpr (β := (True ∧ True ∧ True ∧ @LE.le Nat _ (List.length xs) 9223372036854775807 ∧ True ∧ True ∧ (True ∧ True) ∧ @Eq Bool (@decide (@GE.ge Int Int.instLEInt (indexF (fun (v0 : (Ty.T PixT)) => (p (v0, Unit.unit))) xs) 0) (Int.decLe 0 (indexF (fun (v0 : (Ty.T PixT)) => (p (v0, Unit.unit))) xs))) (List.any xs (fun (v0 : (Ty.T PixT)) => (Prod.fst (p, ()) (v0, Unit.unit)))))) (by kernel_rfl) ?_
  simp only [true_and, and_true, decide_eq_true_eq, decide_eq_false_iff_not, forall_const, implies_true, and_self]
  exact ⟨hx, indexF_any _ xs⟩
abbrev K9 : KCons := (71, fun Γc => pure_ Γc ((c_conf PixT))) :: K8
theorem HK9 : KS Try.prog K9 := ks_add (ksound_pure (s_confPix)) HK8
def c_rc1 : PCon := pcon (closTs [RectT] [.p I64, .p I64]) fun x => (True, .bool (containsR x.1 x.2.1 x.2.2.1))
theorem s_rc1 : PSound Try.prog 48 c_rc1 := by
  refine psoundF (K := K9) (Γc := C0) (Γr := R0) (fun _ => []) hm HK9 HC0 HR0 Try.call48 Try.func48 (by kernel_rfl) ?_
  rintro ⟨⟨a, b, c, d⟩, x, y, _⟩ _
  refine Eq.mpr (β := (True ∧ True ∧ True ∧ True ∧ True ∧ True ∧ True ∧ (True ∧ True) ∧ @Eq Bool (containsR (a, (b, (c, d))) x y) (containsR (a, (b, (c, d))) x y))) (by kernel_rfl) ?_
  simp
abbrev C10 : Clos := (48, ccon [RectT] .bool [.p I64, .p I64] fun x c => containsR x.1 c.1 c.2.1) :: C0
theorem HC10 : CSound Try.prog C10 := csound_add s_rc1 rfl (fun x c => ⟨trivial, rfl⟩) HC0
def rgContains (l : List Rect) (x y : Int) : Bool := l.any fun r => containsR r x y
def c_rgContains : PCon := pcon [.d (.list RectT), .d I64, .d I64] fun x => (x.1.length ≤ 9223372036854775807, .bool (rgContains x.1 x.2.1 x.2.2.1))
theorem s_rgContains : PSound Try.prog 27 c_rgContains := by
  refine psoundF (K := K9) (Γc := C10) (Γr := R0) (fun _ => []) hm HK9 HC10 HR0 Try.call27 Try.func27 (by kernel_rfl) ?_
  rintro ⟨xs, x, y, _⟩ hx
  refine Eq.mpr (β := (True ∧ True ∧ True ∧ True ∧ True ∧ @LE.le Nat _ (List.length xs) 9223372036854775807 ∧ True ∧ (True ∧ True) ∧ @Eq Bool (List.any xs (fun (v0 : (Ty.T RectT)) => (containsR v0 x y))) (rgContains xs x y))) (by kernel_rfl) ?_
  simp only [true_and, and_true, decide_eq_true_eq, decide_eq_false_iff_not, forall_const, implies_true, and_self]
  exact ⟨hx, rfl⟩
abbrev K11 : KCons := (27, fun Γc => pure_ Γc (c_rgContains)) :: K9
theorem HK11 : KS Try.prog K11 := ks_add (ksound_pure (s_rgContains)) HK9
def clampP (p : Pix) : Pix := (min p.1 p.2.2.2, min p.2.1 p.2.2.2, min p.2.2.1 p.2.2.2, p.2.2.2)
theorem min_if (a b : Int) : (if b < a then b else a) = min a b := by split <;> omega
theorem max_if (a b : Int) : (if b > a then b else a) = max a b := by split <;> omega
theorem min_if' (a b : Int) : (if a > b then b else a) = min a b := by split <;> omega
theorem max_if' (a b : Int) : (if a < b then b else a) = max a b := by split <;> omega
def c_pClamp : PCon := pcon [.d PixT] fun x => (True, .agg (enc PixT (clampP x.1)))
theorem s_pClamp : PSound Try.prog 84 c_pClamp := by
  refine psoundF (K := K11) (Γc := C10) (Γr := R0) (fun _ => []) hm HK11 HC10 HR0 Try.call84 Try.func84 (by kernel_rfl) ?_
  rintro ⟨⟨r, g, b, a⟩, _⟩ _
  refine Eq.mpr (β := (True ∧ True ∧ True ∧ True ∧ True ∧ True ∧ True ∧ True ∧ True ∧ True ∧ True ∧ True ∧ True ∧ True ∧ True ∧ True ∧ True ∧ True ∧ True ∧ True ∧ True ∧ (True ∧ True) ∧ @Eq Int (if (@LT.lt Int _ a r) then a else r) (clampP (r, (g, (b, a)))).1 ∧ @Eq Int (if (@LT.lt Int _ a g) then a else g) (clampP (r, (g, (b, a)))).2.1 ∧ @Eq Int (if (@LT.lt Int _ a b) then a else b) (clampP (r, (g, (b, a)))).2.2.1 ∧ @Eq Int (b, a).2 (clampP (r, (g, (b, a)))).2.2.2 ∧ True)) (by kernel_rfl) ?_
  simp only [min_if, clampP, and_self, true_and]
abbrev K12 : KCons := (84, fun Γc => pure_ Γc (c_pClamp)) :: K11
theorem HK12 : KS Try.prog K12 := ks_add (ksound_pure (s_pClamp)) HK11
def pixOk (p : Pix) : Bool := (clampP p).1 == p.1 && ((clampP p).2.1 == p.2.1 && ((clampP p).2.2.1 == p.2.2.1 && (clampP p).2.2.2 == p.2.2.2))
def c_pValid : PCon := pcon [.d PixT] fun x => (True, .bool (pixOk x.1))
theorem s_pValid : PSound Try.prog 73 c_pValid := by
  refine psoundF (K := K12) (Γc := C10) (Γr := R0) (fun _ => []) hm HK12 HC10 HR0 Try.call73 Try.func73 (by kernel_rfl) ?_
  rintro ⟨⟨r, g, b, a⟩, _⟩ _
  refine Eq.mpr (β := (True ∧ True ∧ (True ∧ True ∧ True ∧ True ∧ True ∧ True) ∧ (True ∧ True) ∧ @Eq Bool (and (BEq.beq (clampP (r, (g, (b, a)))).1 r) (and (BEq.beq (clampP (r, (g, (b, a)))).2.1 g) (and (BEq.beq (clampP (r, (g, (b, a)))).2.2.1 b) (BEq.beq (clampP (r, (g, (b, a)))).2.2.2 a)))) (pixOk (r, (g, (b, a)))))) (by kernel_rfl) ?_
  simp only [true_and, and_true, decide_eq_true_eq, decide_eq_false_iff_not, forall_const, implies_true, and_self]
  rfl
abbrev K13 : KCons := (73, fun Γc => pure_ Γc (c_pValid)) :: K12
theorem HK13 : KS Try.prog K13 := ks_add (ksound_pure (s_pValid)) HK12
def c_bv1 : PCon := pcon (closTs [PixT] []) fun x => (True, .bool (!pixOk x.1))
theorem s_bv1 : PSound Try.prog 72 c_bv1 := by
  refine psoundF (K := K13) (Γc := C10) (Γr := R0) (fun _ => []) hm HK13 HC10 HR0 Try.call72 Try.func72 (by kernel_rfl) ?_
  rintro ⟨⟨r, g, b, a⟩, _⟩ _
  refine Eq.mpr (β := (True ∧ True ∧ True ∧ True ∧ True ∧ True ∧ (True ∧ True) ∧ @Eq Bool (not (pixOk (r, (g, (b, a))))) (not (pixOk (r, (g, (b, a))))))) (by kernel_rfl) ?_
  simp only [true_and, and_true, decide_eq_true_eq, decide_eq_false_iff_not, forall_const, implies_true, and_self]
abbrev C14 : Clos := (72, ccon [PixT] .bool [] fun x c => !pixOk x.1) :: C10
theorem HC14 : CSound Try.prog C14 := csound_add s_bv1 rfl (fun x c => ⟨trivial, rfl⟩) HC10
def sizeOk (n : Int) : Bool := decide (1 ≤ n) && decide (n ≤ 256)
def c_bsize : PCon := pcon [.d I64] fun x => (True, .bool (sizeOk x.1))
theorem s_bsize : PSound Try.prog 70 c_bsize := by
  refine psoundF (K := K13) (Γc := C14) (Γr := R0) (fun _ => []) hm HK13 HC14 HR0 Try.call70 Try.func70 (by kernel_rfl) ?_
  rintro ⟨n, _⟩ _
  refine Eq.mpr (β := (True ∧ True ∧ True ∧ True ∧ (@Eq Bool (@decide (@GE.ge Int Int.instLEInt n 1) (Int.decLe 1 n)) true → True) ∧ (@Eq Bool (@decide (@GE.ge Int Int.instLEInt n 1) (Int.decLe 1 n)) true → True) ∧ True ∧ True ∧ (True ∧ True) ∧ @Eq Bool (and (@decide (@GE.ge Int Int.instLEInt n 1) (Int.decLe 1 n)) (@decide (@LE.le Int _ n 256) (Int.decLe n 256))) (sizeOk n))) (by kernel_rfl) ?_
  simp [sizeOk]
abbrev K15 : KCons := (70, fun Γc => pure_ Γc (c_bsize)) :: K13
theorem HK15 : KS Try.prog K15 := ks_add (ksound_pure (s_bsize)) HK13
def bufOk (b : Buf) : Bool := sizeOk b.1 && sizeOk b.2.1 && decide ((b.2.2.length : Int) = b.1 * b.2.1) && !(b.2.2.any fun p => !pixOk p)
theorem mul_size {a b : Int} (h : sizeOk a = true) (k : sizeOk b = true) : 1 ≤ a * b ∧ a * b ≤ 65536 := by
  simp [sizeOk] at h k
  have h1 := Int.mul_le_mul h.1 k.1 (by omega) (by omega)
  have h2 := Int.mul_le_mul h.2 k.2 (by omega) (by omega)
  omega
def c_bValid : PCon := pcon [.d BufT] fun x => (x.1.2.2.length ≤ 9223372036854775807, .bool (bufOk x.1))
theorem s_bValid : PSound Try.prog 55 c_bValid := by
  refine psoundF (K := K15) (Γc := C14) (Γr := R0) (fun _ => []) hm HK15 HC14 HR0 Try.call55 Try.func55 (by kernel_rfl) ?_
  rintro ⟨⟨bw, bh, px⟩, _⟩ hx
  have hlen : px.length ≤ 9223372036854775807 := hx
  clear hx
  refine Eq.mpr (β := (True ∧ True ∧ True ∧ True ∧ True ∧ True ∧ True ∧ (@Eq Bool (not (sizeOk bw)) false → True) ∧ (@Eq Bool (not (sizeOk bw)) false → True) ∧ (@Eq Bool (not (sizeOk bw)) false → True) ∧ (@Eq Bool (not (sizeOk bw)) false → True) ∧ True ∧ True ∧ (@Eq Bool (or (not (sizeOk bw)) (not (sizeOk bh))) false → True) ∧ (@Eq Bool (or (not (sizeOk bw)) (not (sizeOk bh))) false → True) ∧ (@Eq Bool (or (not (sizeOk bw)) (not (sizeOk bh))) false → True) ∧ (@Eq Bool (or (not (sizeOk bw)) (not (sizeOk bh))) false → True) ∧ (@Eq Bool (or (not (sizeOk bw)) (not (sizeOk bh))) false → True) ∧ (@Eq Bool (or (not (sizeOk bw)) (not (sizeOk bh))) false → True) ∧ (@Eq Bool (or (not (sizeOk bw)) (not (sizeOk bh))) false → True) ∧ (@Eq Bool (or (not (sizeOk bw)) (not (sizeOk bh))) false → True) ∧ (@Eq Bool (or (not (sizeOk bw)) (not (sizeOk bh))) false → True) ∧ True ∧ (@Eq Bool (or (or (not (sizeOk bw)) (not (sizeOk bh))) (bne (@Nat.cast Int _ (List.length px)) (IntKind.i64.wrap (@HMul.hMul Int Int Int _ bw bh)))) true → (True ∧ (True ∧ True) ∧ @Eq Bool false (bufOk (bw, (bh, px))))) ∧ (@Eq Bool (or (or (not (sizeOk bw)) (not (sizeOk bh))) (bne (@Nat.cast Int _ (List.length px)) (IntKind.i64.wrap (@HMul.hMul Int Int Int _ bw bh)))) false → (True ∧ True ∧ @LE.le Nat _ (List.length px) 9223372036854775807 ∧ True ∧ True ∧ (True ∧ True) ∧ @Eq Bool (not (List.any px (fun (v0 : (Ty.T PixT)) => (not (pixOk v0))))) (bufOk (bw, (bh, px))))))) (by kernel_rfl) ?_
  simp only [true_and, and_true, decide_eq_true_eq, decide_eq_false_iff_not, forall_const, implies_true, and_self]
  have hw : sizeOk bw = true → sizeOk bh = true → IntKind.i64.wrap (bw * bh) = bw * bh := fun h k => by
    have := mul_size h k
    exact wrap_in (by omega)
  cases h1 : sizeOk bw <;> cases h2 : sizeOk bh <;> simp [bufOk, h1, h2]
  rw [hw h1 h2]
  refine ⟨fun h => ?_, fun h => ⟨hlen, ?_⟩⟩
  · simp [h]
  · simp [h]
abbrev K16 : KCons := (55, fun Γc => pure_ Γc (c_bValid)) :: K15
theorem HK16 : KS Try.prog K16 := ks_add (ksound_pure (s_bValid)) HK15
def posOk (x y : Int) : Bool := decide (-16384 ≤ min x y) && decide (max x y ≤ 16128)
def c_scpos : PCon := pcon [.d I64, .d I64] fun x => (True, .bool (posOk x.1 x.2.1))
theorem s_scpos : PSound Try.prog 56 c_scpos := by
  refine psoundF (K := K16) (Γc := C14) (Γr := R0) (fun _ => []) hm HK16 HC14 HR0 Try.call56 Try.func56 (by kernel_rfl) ?_
  rintro ⟨x, y, _⟩ _
  refine Eq.mpr (β := (True ∧ True ∧ True ∧ True ∧ True ∧ True ∧ (@Eq Bool (@decide (@GE.ge Int Int.instLEInt (if (@LT.lt Int _ y x) then y else x) (Neg.neg 16384)) (Int.decLe (Neg.neg 16384) (if (@LT.lt Int _ y x) then y else x))) true → True) ∧ (@Eq Bool (@decide (@GE.ge Int Int.instLEInt (if (@LT.lt Int _ y x) then y else x) (Neg.neg 16384)) (Int.decLe (Neg.neg 16384) (if (@LT.lt Int _ y x) then y else x))) true → True) ∧ (@Eq Bool (@decide (@GE.ge Int Int.instLEInt (if (@LT.lt Int _ y x) then y else x) (Neg.neg 16384)) (Int.decLe (Neg.neg 16384) (if (@LT.lt Int _ y x) then y else x))) true → True) ∧ (@Eq Bool (@decide (@GE.ge Int Int.instLEInt (if (@LT.lt Int _ y x) then y else x) (Neg.neg 16384)) (Int.decLe (Neg.neg 16384) (if (@LT.lt Int _ y x) then y else x))) true → True) ∧ True ∧ True ∧ (True ∧ True) ∧ @Eq Bool (and (@decide (@GE.ge Int Int.instLEInt (if (@LT.lt Int _ y x) then y else x) (Neg.neg 16384)) (Int.decLe (Neg.neg 16384) (if (@LT.lt Int _ y x) then y else x))) (@decide (@LE.le Int _ (if (@GT.gt Int _ y x) then y else x) 16128) (Int.decLe (if (@GT.gt Int _ y x) then y else x) 16128))) (posOk x y))) (by kernel_rfl) ?_
  simp only [true_and, and_true, decide_eq_true_eq, decide_eq_false_iff_not, forall_const, implies_true, and_self]
  simp only [min_if, max_if, posOk, ge_iff_le]
abbrev K17 : KCons := (56, fun Γc => pure_ Γc (c_scpos)) :: K16
theorem HK17 : KS Try.prog K17 := ks_add (ksound_pure (s_scpos)) HK16
def areaI (i : Item) : Rect := if bufOk i.2.2.2.2.1 && posOk i.2.2.1 i.2.2.2.1 then (0, 0, i.2.2.2.2.1.1, i.2.2.2.2.1.2.1) else (0, 0, 0, 0)
def itemLen (i : Item) : Prop := i.2.2.2.2.1.2.2.length ≤ 9223372036854775807 ∧ i.2.2.2.2.2.1.length ≤ 9223372036854775807 ∧ i.2.2.2.2.2.2.length ≤ 9223372036854775807
def c_scarea : PCon := pcon [.d ItemT] fun x => (itemLen x.1, .agg (enc RectT (areaI x.1)))
theorem s_scarea : PSound Try.prog 37 c_scarea := by
  refine psoundF (K := K17) (Γc := C14) (Γr := R0) (fun _ => []) hm HK17 HC14 HR0 Try.call37 Try.func37 (by kernel_rfl) ?_
  rintro ⟨i, _⟩ hx
  have hx : itemLen i := hx
  refine Eq.mpr (β := (True ∧ True ∧ True ∧ True ∧ @LE.le Nat _ (List.length i.2.2.2.2.1.2.2) 9223372036854775807 ∧ True ∧ True ∧ (@Eq Bool (not (bufOk i.2.2.2.2.1)) false → True) ∧ (@Eq Bool (not (bufOk i.2.2.2.2.1)) false → True) ∧ (@Eq Bool (not (bufOk i.2.2.2.2.1)) false → True) ∧ (@Eq Bool (not (bufOk i.2.2.2.2.1)) false → True) ∧ (@Eq Bool (not (bufOk i.2.2.2.2.1)) false → True) ∧ (@Eq Bool (not (bufOk i.2.2.2.2.1)) false → True) ∧ True ∧ (@Eq Bool (or (not (bufOk i.2.2.2.2.1)) (not (posOk i.2.2.1 i.2.2.2.1))) true → (True ∧ True ∧ (True ∧ True) ∧ @Eq Int 0 (areaI i).1 ∧ @Eq Int 0 (areaI i).2.1 ∧ @Eq Int 0 (areaI i).2.2.1 ∧ @Eq Int 0 (areaI i).2.2.2 ∧ True)) ∧ (@Eq Bool (or (not (bufOk i.2.2.2.2.1)) (not (posOk i.2.2.1 i.2.2.2.1))) false → (True ∧ True ∧ True ∧ True ∧ True ∧ True ∧ True ∧ True ∧ (True ∧ True) ∧ @Eq Int 0 (areaI i).1 ∧ @Eq Int 0 (areaI i).2.1 ∧ @Eq Int i.2.2.2.2.1.1 (areaI i).2.2.1 ∧ @Eq Int i.2.2.2.2.1.2.1 (areaI i).2.2.2 ∧ True)))) (by kernel_rfl) ?_
  simp only [true_and, and_true, decide_eq_true_eq, decide_eq_false_iff_not, forall_const, implies_true, and_self]
  refine ⟨hx.1, fun h => ?_, fun h => ?_⟩
  · have : (bufOk i.2.2.2.2.1 && posOk i.2.2.1 i.2.2.2.1) = false := by cases h1 : bufOk i.2.2.2.2.1 <;> cases h2 : posOk i.2.2.1 i.2.2.2.1 <;> simp [h1, h2] at h ⊢
    simp [areaI, this]
  · have : (bufOk i.2.2.2.2.1 && posOk i.2.2.1 i.2.2.2.1) = true := by simpa using h
    simp [areaI, this]
abbrev K18 : KCons := (37, fun Γc => pure_ Γc (c_scarea)) :: K17
theorem HK18 : KS Try.prog K18 := ks_add (ksound_pure (s_scarea)) HK17
theorem areaI_cases (i : Item) : areaI i = (0, 0, 0, 0) ∨ (areaI i = (0, 0, i.2.2.2.2.1.1, i.2.2.2.2.1.2.1) ∧ 1 ≤ i.2.2.2.2.1.1 ∧ i.2.2.2.2.1.1 ≤ 256 ∧ 1 ≤ i.2.2.2.2.1.2.1 ∧ i.2.2.2.2.1.2.1 ≤ 256 ∧ -16384 ≤ i.2.2.1 ∧ i.2.2.1 ≤ 16128 ∧ -16384 ≤ i.2.2.2.1 ∧ i.2.2.2.1 ≤ 16128) := by
  unfold areaI
  split
  · rename_i h
    right
    simp [bufOk, sizeOk, posOk] at h
    refine ⟨rfl, ?_⟩
    omega
  · exact .inl rfl
def boundsI (i : Item) : Rect := if areaI i = (0, 0, 0, 0) then (0, 0, 0, 0) else (i.2.2.1, i.2.2.2.1, i.2.2.1 + (areaI i).2.2.1, i.2.2.2.1 + (areaI i).2.2.2)
def c_scbounds : PCon := pcon [.d ItemT] fun x => (itemLen x.1, .agg (enc RectT (boundsI x.1)))
theorem rect_eq0 (r : Rect) : ((r.1 == 0 && (r.2.1 == 0 && (r.2.2.1 == 0 && r.2.2.2 == 0))) = true) ↔ r = (0, 0, 0, 0) := by
  obtain ⟨a, b, c, d⟩ := r
  simp
theorem s_scbounds : PSound Try.prog 15 c_scbounds := by
  refine psoundF (K := K18) (Γc := C14) (Γr := R0) (fun _ => []) hm HK18 HC14 HR0 Try.call15 Try.func15 (by kernel_rfl) ?_
  rintro ⟨i, _⟩ hx
  have hx : itemLen i := hx
  refine Eq.mpr (β := (True ∧ True ∧ True ∧ (@LE.le Nat _ (List.length i.2.2.2.2.1.2.2) 9223372036854775807 ∧ @LE.le Nat _ (List.length i.2.2.2.2.2.1) 9223372036854775807 ∧ @LE.le Nat _ (List.length i.2.2.2.2.2.2) 9223372036854775807) ∧ True ∧ True ∧ True ∧ True ∧ True ∧ (@Eq Bool (and (BEq.beq (areaI i).1 0) (and (BEq.beq (areaI i).2.1 0) (and (BEq.beq (areaI i).2.2.1 0) (BEq.beq (areaI i).2.2.2 0)))) true → (True ∧ True ∧ (True ∧ True) ∧ @Eq Int (areaI i).1 (boundsI i).1 ∧ @Eq Int (areaI i).2.1 (boundsI i).2.1 ∧ @Eq Int (areaI i).2.2.1 (boundsI i).2.2.1 ∧ @Eq Int (areaI i).2.2.2 (boundsI i).2.2.2 ∧ True)) ∧ (@Eq Bool (and (BEq.beq (areaI i).1 0) (and (BEq.beq (areaI i).2.1 0) (and (BEq.beq (areaI i).2.2.1 0) (BEq.beq (areaI i).2.2.2 0)))) false → (True ∧ True ∧ True ∧ True ∧ True ∧ True ∧ True ∧ True ∧ True ∧ True ∧ True ∧ True ∧ True ∧ True ∧ True ∧ True ∧ (True ∧ True) ∧ @Eq Int i.2.2.1 (boundsI i).1 ∧ @Eq Int i.2.2.2.1 (boundsI i).2.1 ∧ @Eq Int (IntKind.i64.wrap (@HAdd.hAdd Int Int Int _ i.2.2.1 (areaI i).2.2.1)) (boundsI i).2.2.1 ∧ @Eq Int (IntKind.i64.wrap (@HAdd.hAdd Int Int Int _ i.2.2.2.1 (areaI i).2.2.2)) (boundsI i).2.2.2 ∧ True)))) (by kernel_rfl) ?_
  simp only [true_and, and_true, decide_eq_true_eq, decide_eq_false_iff_not, forall_const, implies_true, and_self]
  refine ⟨hx, fun h => ?_, fun h => ?_⟩
  · have h := (rect_eq0 _).1 h
    simp [boundsI, h]
  · have h : ¬ areaI i = (0, 0, 0, 0) := fun hh => by rw [(rect_eq0 _).2 hh] at h; cases h
    have hc := (areaI_cases i).resolve_left h
    rw [wrap_in (by rw [hc.1]; simp only; omega), wrap_in (by rw [hc.1]; simp only; omega)]
    simp [boundsI, h]
abbrev K19 : KCons := (15, fun Γc => pure_ Γc (c_scbounds)) :: K18
theorem HK19 : KS Try.prog K19 := ks_add (ksound_pure (s_scbounds)) HK18
def acceptsI (i : Item) (x y : Int) : Bool := if x < (boundsI i).1 ∨ y < (boundsI i).2.1 ∨ (boundsI i).2.2.1 ≤ x ∨ (boundsI i).2.2.2 ≤ y then false else rgContains i.2.2.2.2.2.2 (x - i.2.2.1) (y - i.2.2.2.1)
def c_scaccepts : PCon := pcon [.d ItemT, .d I64, .d I64] fun x => (itemLen x.1, .bool (acceptsI x.1 x.2.1 x.2.2.1))
end Go.Proofs.Ytogbocplojbdjaa
