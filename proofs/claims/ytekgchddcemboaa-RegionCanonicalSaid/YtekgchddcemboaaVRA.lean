/-
  A part of the proof: what some of the program's functions compute.
-/
import Derived.Test.YtekgchddcemboaaProg
import Derived.Test.YtekgchddcemboaaW6
namespace Go.Proofs.Ytekgchddcemboaa
open Go Go.E Go.Proofs
set_option linter.unusedVariables false
set_option linter.unusedSimpArgs false
abbrev I64 : Ty := .int .i64
abbrev U8 : Ty := .int .u8
abbrev U32 : Ty := .int .u32
abbrev RectT : Ty := .prod I64 (.prod I64 (.prod I64 I64))
abbrev Rect := Int × Int × Int × Int
abbrev PixT : Ty := .prod U8 (.prod U8 (.prod U8 U8))
abbrev Pix := Int × Int × Int × Int
abbrev BufT : Ty := .prod I64 (.prod I64 (.list PixT))
abbrev Buf := Int × Int × List Pix
abbrev ItemT : Ty := .prod I64 (.prod I64 (.prod I64 (.prod I64 (.prod BufT (.prod (.list RectT) (.list RectT))))))
abbrev Item := Int × Int × Int × Int × Buf × List Rect × List Rect
theorem hm : Try.prog.follows .mixedOrders = true := by kernel_rfl
abbrev K0 : KCons := []
theorem HK0 : KS Try.prog K0 := ks_nil
abbrev C0 : Clos := []
theorem HC0 : CSound Try.prog C0 := cs_nil
abbrev R0 : RCons := []
theorem HR0 : RS Try.prog R0 := rcons_nil
theorem wrap_in {n : Int} (h : -9223372036854775808 ≤ n ∧ n ≤ 9223372036854775807) : IntKind.i64.wrap n = n := by
  rw [IntKind.wrap_i64]; omega
theorem elemAt_get {t : Ty} (xs : List t.T) (i : Nat) (h : i < xs.length) : xs[i]? = some (elemAt xs i) := by
  simp [elemAt, h]
theorem mul_range {p q : Int} {B : Nat} (hp : -B ≤ p ∧ p ≤ B) (hq : -B ≤ q ∧ q ≤ B) : -((B * B : Nat) : Int) ≤ p * q ∧ p * q ≤ ((B * B : Nat) : Int) := by
  have h : (p * q).natAbs ≤ B * B := by
    rw [Int.natAbs_mul]
    exact Nat.mul_le_mul (by omega) (by omega)
  omega
/-! rect -/
def coordOk (n : Int) : Bool := decide (-16384 ≤ n) && decide (n ≤ 16384)
def c_rvalid : PCon := pcon [.d I64] fun x => (True, .bool (coordOk x.1))
theorem s_rvalid : PSound Try.prog 80 c_rvalid := by
  refine psoundF (K := K0) (Γc := C0) (Γr := R0) (fun _ => []) hm HK0 HC0 HR0 Try.call80 Try.func80 (by kernel_rfl) ?_
  rintro ⟨n, _⟩ _
  refine Eq.mpr (β := (True ∧ True ∧ True ∧ True ∧ (@Eq Bool (@decide (@GE.ge Int Int.instLEInt n (Neg.neg (16384:Int))) (Int.decLe (Neg.neg (16384:Int)) n)) true → True) ∧ (@Eq Bool (@decide (@GE.ge Int Int.instLEInt n (Neg.neg (16384:Int))) (Int.decLe (Neg.neg (16384:Int)) n)) true → True) ∧ True ∧ True ∧ (True ∧ True) ∧ @Eq Bool (and (@decide (@GE.ge Int Int.instLEInt n (Neg.neg (16384:Int))) (Int.decLe (Neg.neg (16384:Int)) n)) (@decide (@LE.le Int Int.instLEInt n (16384:Int)) (Int.decLe n (16384:Int)))) (coordOk n))) (by kernel_rfl) ?_
  simp [coordOk]
abbrev K1 : KCons := (80, fun Γc => pure_ Γc (c_rvalid)) :: K0
theorem HK1 : KS Try.prog K1 := ks_add (ksound_pure (s_rvalid)) HK0
def validR (r : Rect) : Bool := coordOk r.1 && coordOk r.2.1 && coordOk r.2.2.1 && coordOk r.2.2.2
def c_rValid : PCon := pcon [.d RectT] fun x => (True, .bool (validR x.1))
theorem s_rValid : PSound Try.prog 73 c_rValid := by
  refine psoundF (K := K1) (Γc := C0) (Γr := R0) (fun _ => []) hm HK1 HC0 HR0 Try.call73 Try.func73 (by kernel_rfl) ?_
  rintro ⟨⟨a, b, c, d⟩, _⟩ _
  refine Eq.mpr (β := (True ∧ True ∧ True ∧ True ∧ True ∧ True ∧ (@Eq Bool (coordOk a) true → True) ∧ (@Eq Bool (coordOk a) true → True) ∧ (@Eq Bool (coordOk a) true → True) ∧ True ∧ True ∧ (@Eq Bool (and (coordOk a) (coordOk b)) true → True) ∧ (@Eq Bool (and (coordOk a) (coordOk b)) true → True) ∧ (@Eq Bool (and (coordOk a) (coordOk b)) true → True) ∧ True ∧ True ∧ (@Eq Bool (and (and (coordOk a) (coordOk b)) (coordOk c)) true → True) ∧ (@Eq Bool (and (and (coordOk a) (coordOk b)) (coordOk c)) true → True) ∧ (@Eq Bool (and (and (coordOk a) (coordOk b)) (coordOk c)) true → True) ∧ True ∧ True ∧ (True ∧ True) ∧ @Eq Bool (and (and (and (coordOk a) (coordOk b)) (coordOk c)) (coordOk d)) (validR (a, (b, (c, d)))))) (by kernel_rfl) ?_
  simp [validR]
abbrev K2 : KCons := (73, fun Γc => pure_ Γc (c_rValid)) :: K1
theorem HK2 : KS Try.prog K2 := ks_add (ksound_pure (s_rValid)) HK1
def emptyR (r : Rect) : Bool := !validR r || decide (r.2.2.1 ≤ r.1) || decide (r.2.2.2 ≤ r.2.1)
def c_rEmpty : PCon := pcon [.d RectT] fun x => (True, .bool (emptyR x.1))
theorem s_rEmpty : PSound Try.prog 62 c_rEmpty := by
  refine psoundF (K := K2) (Γc := C0) (Γr := R0) (fun _ => []) hm HK2 HC0 HR0 Try.call62 Try.func62 (by kernel_rfl) ?_
  rintro ⟨⟨a, b, c, d⟩, _⟩ _
  refine Eq.mpr (β := (True ∧ True ∧ True ∧ True ∧ True ∧ True ∧ (@Eq Bool (not (validR (a, (b, (c, d))))) false → True) ∧ (@Eq Bool (not (validR (a, (b, (c, d))))) false → True) ∧ (@Eq Bool (not (validR (a, (b, (c, d))))) false → True) ∧ (@Eq Bool (not (validR (a, (b, (c, d))))) false → True) ∧ (@Eq Bool (not (validR (a, (b, (c, d))))) false → True) ∧ True ∧ True ∧ (@Eq Bool (or (not (validR (a, (b, (c, d))))) (@decide (@GE.ge Int Int.instLEInt a c) (Int.decLe c a))) false → True) ∧ (@Eq Bool (or (not (validR (a, (b, (c, d))))) (@decide (@GE.ge Int Int.instLEInt a c) (Int.decLe c a))) false → True) ∧ (@Eq Bool (or (not (validR (a, (b, (c, d))))) (@decide (@GE.ge Int Int.instLEInt a c) (Int.decLe c a))) false → True) ∧ (@Eq Bool (or (not (validR (a, (b, (c, d))))) (@decide (@GE.ge Int Int.instLEInt a c) (Int.decLe c a))) false → True) ∧ (@Eq Bool (or (not (validR (a, (b, (c, d))))) (@decide (@GE.ge Int Int.instLEInt a c) (Int.decLe c a))) false → True) ∧ True ∧ True ∧ (True ∧ True) ∧ @Eq Bool (or (or (not (validR (a, (b, (c, d))))) (@decide (@GE.ge Int Int.instLEInt a c) (Int.decLe c a))) (@decide (@GE.ge Int Int.instLEInt b d) (Int.decLe d b))) (emptyR (a, (b, (c, d)))))) (by kernel_rfl) ?_
  simp [emptyR]
abbrev K3 : KCons := (62, fun Γc => pure_ Γc (c_rEmpty)) :: K2
theorem HK3 : KS Try.prog K3 := ks_add (ksound_pure (s_rEmpty)) HK2
def canonR (r : Rect) : Rect := if emptyR r = true then (0, 0, 0, 0) else r
def c_rCanonical : PCon := pcon [.d RectT] fun x => (True, .agg (enc RectT (canonR x.1)))
theorem s_rCanonical : PSound Try.prog 61 c_rCanonical := by
  refine psoundF (K := K3) (Γc := C0) (Γr := R0) (fun _ => []) hm HK3 HC0 HR0 Try.call61 Try.func61 (by kernel_rfl) ?_
  rintro ⟨⟨a, b, c, d⟩, _⟩ _
  refine Eq.mpr (β := (True ∧ True ∧ True ∧ True ∧ (@Eq Bool (emptyR (a, (b, (c, d)))) true → (True ∧ True ∧ (True ∧ True) ∧ @Eq Int (0:Int) (canonR (a, (b, (c, d)))).1 ∧ @Eq Int (0:Int) (canonR (a, (b, (c, d)))).2.1 ∧ @Eq Int (0:Int) (canonR (a, (b, (c, d)))).2.2.1 ∧ @Eq Int (0:Int) (canonR (a, (b, (c, d)))).2.2.2 ∧ True)) ∧ (@Eq Bool (emptyR (a, (b, (c, d)))) false → (True ∧ True ∧ (True ∧ True) ∧ @Eq Int a (canonR (a, (b, (c, d)))).1 ∧ @Eq Int b (canonR (a, (b, (c, d)))).2.1 ∧ @Eq Int (c, d).1 (canonR (a, (b, (c, d)))).2.2.1 ∧ @Eq Int (c, d).2 (canonR (a, (b, (c, d)))).2.2.2 ∧ True)))) (by kernel_rfl) ?_
  simp only [true_and, and_true]
  exact ⟨fun h => by simp [canonR, h], fun h => by simp [canonR, h]⟩
abbrev K4 : KCons := (61, fun Γc => pure_ Γc (c_rCanonical)) :: K3
theorem HK4 : KS Try.prog K4 := ks_add (ksound_pure (s_rCanonical)) HK3
def containsR (r : Rect) (x y : Int) : Bool := decide ((canonR r).1 ≤ x) && decide (x < (canonR r).2.2.1) && decide ((canonR r).2.1 ≤ y) && decide (y < (canonR r).2.2.2)
def c_rContains : PCon := pcon [.d RectT, .d I64, .d I64] fun x => (True, .bool (containsR x.1 x.2.1 x.2.2.1))
theorem s_rContains : PSound Try.prog 45 c_rContains := by
  refine psoundF (K := K4) (Γc := C0) (Γr := R0) (fun _ => []) hm HK4 HC0 HR0 Try.call45 Try.func45 (by kernel_rfl) ?_
  rintro ⟨⟨a, b, c, d⟩, x, y, _⟩ _
  refine Eq.mpr (β := (True ∧ True ∧ True ∧ True ∧ True ∧ True ∧ True ∧ True ∧ True ∧ True ∧ (@Eq Bool (@decide (@LE.le Int Int.instLEInt (canonR (a, (b, (c, d)))).1 x) (Int.decLe (canonR (a, (b, (c, d)))).1 x)) true → True) ∧ (@Eq Bool (@decide (@LE.le Int Int.instLEInt (canonR (a, (b, (c, d)))).1 x) (Int.decLe (canonR (a, (b, (c, d)))).1 x)) true → True) ∧ (@Eq Bool (@decide (@LE.le Int Int.instLEInt (canonR (a, (b, (c, d)))).1 x) (Int.decLe (canonR (a, (b, (c, d)))).1 x)) true → True) ∧ (@Eq Bool (@decide (@LE.le Int Int.instLEInt (canonR (a, (b, (c, d)))).1 x) (Int.decLe (canonR (a, (b, (c, d)))).1 x)) true → True) ∧ True ∧ True ∧ (@Eq Bool (and (@decide (@LE.le Int Int.instLEInt (canonR (a, (b, (c, d)))).1 x) (Int.decLe (canonR (a, (b, (c, d)))).1 x)) (@decide (@LT.lt Int Int.instLTInt x (canonR (a, (b, (c, d)))).2.2.1) (Int.decLt x (canonR (a, (b, (c, d)))).2.2.1))) true → True) ∧ (@Eq Bool (and (@decide (@LE.le Int Int.instLEInt (canonR (a, (b, (c, d)))).1 x) (Int.decLe (canonR (a, (b, (c, d)))).1 x)) (@decide (@LT.lt Int Int.instLTInt x (canonR (a, (b, (c, d)))).2.2.1) (Int.decLt x (canonR (a, (b, (c, d)))).2.2.1))) true → True) ∧ (@Eq Bool (and (@decide (@LE.le Int Int.instLEInt (canonR (a, (b, (c, d)))).1 x) (Int.decLe (canonR (a, (b, (c, d)))).1 x)) (@decide (@LT.lt Int Int.instLTInt x (canonR (a, (b, (c, d)))).2.2.1) (Int.decLt x (canonR (a, (b, (c, d)))).2.2.1))) true → True) ∧ (@Eq Bool (and (@decide (@LE.le Int Int.instLEInt (canonR (a, (b, (c, d)))).1 x) (Int.decLe (canonR (a, (b, (c, d)))).1 x)) (@decide (@LT.lt Int Int.instLTInt x (canonR (a, (b, (c, d)))).2.2.1) (Int.decLt x (canonR (a, (b, (c, d)))).2.2.1))) true → True) ∧ True ∧ True ∧ (@Eq Bool (and (and (@decide (@LE.le Int Int.instLEInt (canonR (a, (b, (c, d)))).1 x) (Int.decLe (canonR (a, (b, (c, d)))).1 x)) (@decide (@LT.lt Int Int.instLTInt x (canonR (a, (b, (c, d)))).2.2.1) (Int.decLt x (canonR (a, (b, (c, d)))).2.2.1))) (@decide (@LE.le Int Int.instLEInt (canonR (a, (b, (c, d)))).2.1 y) (Int.decLe (canonR (a, (b, (c, d)))).2.1 y))) true → True) ∧ (@Eq Bool (and (and (@decide (@LE.le Int Int.instLEInt (canonR (a, (b, (c, d)))).1 x) (Int.decLe (canonR (a, (b, (c, d)))).1 x)) (@decide (@LT.lt Int Int.instLTInt x (canonR (a, (b, (c, d)))).2.2.1) (Int.decLt x (canonR (a, (b, (c, d)))).2.2.1))) (@decide (@LE.le Int Int.instLEInt (canonR (a, (b, (c, d)))).2.1 y) (Int.decLe (canonR (a, (b, (c, d)))).2.1 y))) true → True) ∧ (@Eq Bool (and (and (@decide (@LE.le Int Int.instLEInt (canonR (a, (b, (c, d)))).1 x) (Int.decLe (canonR (a, (b, (c, d)))).1 x)) (@decide (@LT.lt Int Int.instLTInt x (canonR (a, (b, (c, d)))).2.2.1) (Int.decLt x (canonR (a, (b, (c, d)))).2.2.1))) (@decide (@LE.le Int Int.instLEInt (canonR (a, (b, (c, d)))).2.1 y) (Int.decLe (canonR (a, (b, (c, d)))).2.1 y))) true → True) ∧ (@Eq Bool (and (and (@decide (@LE.le Int Int.instLEInt (canonR (a, (b, (c, d)))).1 x) (Int.decLe (canonR (a, (b, (c, d)))).1 x)) (@decide (@LT.lt Int Int.instLTInt x (canonR (a, (b, (c, d)))).2.2.1) (Int.decLt x (canonR (a, (b, (c, d)))).2.2.1))) (@decide (@LE.le Int Int.instLEInt (canonR (a, (b, (c, d)))).2.1 y) (Int.decLe (canonR (a, (b, (c, d)))).2.1 y))) true → True) ∧ True ∧ True ∧ (True ∧ True) ∧ @Eq Bool (and (and (and (@decide (@LE.le Int Int.instLEInt (canonR (a, (b, (c, d)))).1 x) (Int.decLe (canonR (a, (b, (c, d)))).1 x)) (@decide (@LT.lt Int Int.instLTInt x (canonR (a, (b, (c, d)))).2.2.1) (Int.decLt x (canonR (a, (b, (c, d)))).2.2.1))) (@decide (@LE.le Int Int.instLEInt (canonR (a, (b, (c, d)))).2.1 y) (Int.decLe (canonR (a, (b, (c, d)))).2.1 y))) (@decide (@LT.lt Int Int.instLTInt y (canonR (a, (b, (c, d)))).2.2.2) (Int.decLt y (canonR (a, (b, (c, d)))).2.2.2))) (containsR (a, (b, (c, d))) x (y, ()).1))) (by kernel_rfl) ?_
  simp [containsR]
abbrev K5 : KCons := (45, fun Γc => pure_ Γc (c_rContains)) :: K4
theorem HK5 : KS Try.prog K5 := ks_add (ksound_pure (s_rContains)) HK4
/-! slices -/
def indexF {α : Type} (p : α → Bool) (xs : List α) : Int := match xs.findIdx? p with
  | some k => k
  | none => -1
theorem indexF_some {α : Type} {p : α → Bool} {xs : List α} {i : Nat} {x : α} (hx : xs[i]? = some x) (hp : p x = true) (h : ∀ j : Nat, j < i → ∀ r, xs[j]? = some r → p r = false) : indexF p xs = i := by
  have hlt : i < xs.length := (List.getElem?_eq_some_iff.1 hx).1
  have : xs.findIdx? p = some i := by
    rw [List.findIdx?_eq_some_iff_getElem]
    refine ⟨hlt, ?_, fun j hj => ?_⟩
    · have := (List.getElem?_eq_some_iff.1 hx).2; rw [this]; exact hp
    · have := h j hj (xs[j]'(by omega)) (List.getElem?_eq_getElem _); simp [this]
  simp [indexF, this]
theorem indexF_none {α : Type} {p : α → Bool} {xs : List α} (h : ∀ j : Nat, j < xs.length → ∀ r, xs[j]? = some r → p r = false) : indexF p xs = -1 := by
  have : xs.findIdx? p = none := by
    rw [List.findIdx?_eq_none_iff]
    intro x hx
    obtain ⟨j, hj, rfl⟩ := List.getElem_of_mem hx
    exact h j hj _ (List.getElem?_eq_getElem _)
  simp [indexF, this]
theorem indexF_any {α : Type} (p : α → Bool) (xs : List α) : decide (indexF p xs ≥ 0) = xs.any p := by
  unfold indexF
  cases h : xs.findIdx? p with
  | none =>
    rw [List.findIdx?_eq_none_iff] at h
    have : xs.any p = false := by rw [List.any_eq_false]; intro x hx; simp [h x hx]
    simp [this]
  | some k =>
    rw [List.findIdx?_eq_some_iff_getElem] at h
    obtain ⟨hk, hp, _⟩ := h
    have : xs.any p = true := List.any_eq_true.2 ⟨_, List.getElem_mem hk, hp⟩
    simp [this]
def idxInv {α : Type} (xs : List α) (p : α → Bool) (i : Int) : Prop := 0 ≤ i ∧ i ≤ xs.length ∧ ∀ j : Nat, j < i → ∀ r, xs[j]? = some r → p r = false
/-- the proof of slices.IndexFunc at any type -/
theorem idx_go {t : Ty} {xs : List t.T} {p : t.T → Bool} (hlen : xs.length ≤ 9223372036854775807) : idxInv xs p 0 ∧ ∀ x : Int × PUnit, idxInv xs p x.1 →
    (x.1 < xs.length → (0 ≤ x.1 ∧ x.1 + 1 ≤ (xs.length : Int)) ∧ (p (elemAt xs x.1.toNat) = true → x.1 = indexF p xs) ∧
      (p (elemAt xs x.1.toNat) = false → idxInv xs p (IntKind.i64.wrap (x.1 + 1)) ∧ ((xs.length : Int) - IntKind.i64.wrap (x.1 + 1)).toNat < ((xs.length : Int) - x.1).toNat)) ∧
    (¬ x.1 < xs.length → -1 = indexF p xs) := by
  refine ⟨⟨by omega, by omega, fun j hj => by omega⟩, ?_⟩
  rintro ⟨i, _⟩ ⟨h1, h2, h3⟩
  simp only at h1 h2 h3 ⊢
  refine ⟨fun hi => ?_, fun hi => ?_⟩
  · have hx := elemAt_get xs i.toNat (by omega)
    refine ⟨⟨h1, by omega⟩, fun hp => ?_, fun hp => ?_⟩
    · rw [indexF_some (i := i.toNat) hx hp fun j hj => h3 j (by omega)]; omega
    · rw [wrap_in (by omega)]
      refine ⟨⟨by omega, by omega, fun j hj r hr => ?_⟩, by omega⟩
      by_cases he : j = i.toNat
      · subst he; rw [hx] at hr; injection hr with hr; subst hr; exact hp
      · exact h3 j (by omega) r hr
  · exact (indexF_none fun j hj => h3 j (by omega)).symm
def c_idxf (t : Ty) : PCon := pcon [.d (.list t), .f [t] .bool] fun x => (x.1.length ≤ 9223372036854775807, .int .i64 (indexF (fun r => x.2.1 (r, ())) x.1))
def c_conf (t : Ty) : PCon := pcon [.d (.list t), .f [t] .bool] fun x => (x.1.length ≤ 9223372036854775807, .bool (x.1.any fun r => x.2.1 (r, ())))
theorem s_idxfRect : PSound Try.prog 60 (c_idxf RectT) := by
  refine psoundF (K := K5) (Γc := C0) (Γr := R0) (fun x => [(2, annP [.slot 8 I64] (fun _ y => idxInv x.1 (fun r => x.2.1 (r, ())) y.1) (fun y => (x.1.length - y.1 : Int).toNat))]) hm HK5 HC0 HR0 Try.call60 Try.func60 (by kernel_rfl) ?_
  rintro ⟨xs, p, _⟩ hx
  have hlen : xs.length ≤ 9223372036854775807 := hx
  clear hx
  refine Eq.mpr (β := (True ∧ True ∧ True ∧ True ∧ ((True ∧ (@Eq Int (Int.ofNat 0) (Int.ofNat 0) ∧ @Eq Int (@Nat.cast Int _ (List.length xs)) (@Nat.cast Int _ (List.length xs)) ∧ @Eq _ xs xs ∧ @Eq _ xs xs ∧ @Eq _ p p ∧ True) ∧ True) ∧ (idxInv xs (fun (v0 : (Ty.T RectT)) => (Prod.fst (p, ()) (v0, Unit.unit))) (0:Int))) ∧ (∀ (v0 : (Prod Int Unit)), ((idxInv xs (fun (v1 : (Ty.T RectT)) => (Prod.fst (p, ()) (v1, Unit.unit))) v0.1) → (True ∧ (@Eq Bool (@decide (@LT.lt Int Int.instLTInt v0.1 (@Nat.cast Int _ (List.length xs))) (Int.decLt v0.1 (@Nat.cast Int _ (List.length xs)))) true → (True ∧ True ∧ True ∧ True ∧ True ∧ (@LE.le Int Int.instLEInt (0:Int) v0.1 ∧ @LE.le Int Int.instLEInt (@HAdd.hAdd Int Int Int _ v0.1 (1:Int)) (@Nat.cast Int _ (List.length xs))) ∧ True ∧ True ∧ (@Eq Bool (p ((@elemAt RectT xs (Int.toNat v0.1)), Unit.unit)) true → (True ∧ True ∧ (True ∧ True) ∧ @Eq Int v0.1 (indexF (fun (v1 : (Ty.T RectT)) => (Prod.fst (p, ()) (v1, Unit.unit))) xs))) ∧ (@Eq Bool (p ((@elemAt RectT xs (Int.toNat v0.1)), Unit.unit)) false → (True ∧ True ∧ (True ∧ (@Eq Int (IntKind.wrap IntKind.i64 (@HAdd.hAdd Int Int Int _ v0.1 (1:Int))) (IntKind.wrap IntKind.i64 (@HAdd.hAdd Int Int Int _ v0.1 (1:Int))) ∧ @Eq Int (@Nat.cast Int _ (List.length xs)) (@Nat.cast Int _ (List.length xs)) ∧ @Eq _ xs xs ∧ @Eq _ xs xs ∧ @Eq _ p p ∧ True) ∧ True) ∧ (idxInv xs (fun (v1 : (Ty.T RectT)) => (Prod.fst (p, ()) (v1, Unit.unit))) (IntKind.wrap IntKind.i64 (@HAdd.hAdd Int Int Int _ v0.1 (1:Int)))) ∧ @LT.lt Nat instLTNat (Int.toNat (@HSub.hSub Int Int Int _ (@Nat.cast Int _ (List.length xs)) (IntKind.wrap IntKind.i64 (@HAdd.hAdd Int Int Int _ v0.1 (1:Int))))) (Int.toNat (@HSub.hSub Int Int Int _ (@Nat.cast Int _ (List.length xs)) v0.1)))))) ∧ (@Eq Bool (@decide (@LT.lt Int Int.instLTInt v0.1 (@Nat.cast Int _ (List.length xs))) (Int.decLt v0.1 (@Nat.cast Int _ (List.length xs)))) false → (True ∧ (True ∧ True) ∧ @Eq Int (Neg.neg (1:Int)) (indexF (fun (v1 : (Ty.T RectT)) => (Prod.fst (p, ()) (v1, Unit.unit))) xs)))))))) (by kernel_rfl) ?_
  simp only [true_and, and_true, decide_eq_true_eq, decide_eq_false_iff_not, forall_const, implies_true, and_self]
  exact idx_go hlen
abbrev K6 : KCons := (60, fun Γc => pure_ Γc ((c_idxf RectT))) :: K5
theorem HK6 : KS Try.prog K6 := ks_add (ksound_pure (s_idxfRect)) HK5
theorem s_confRect : PSound Try.prog 43 (c_conf RectT) := by
  refine psoundF (K := K6) (Γc := C0) (Γr := R0) (fun _ => []) hm HK6 HC0 HR0 Try.call43 Try.func43 (by kernel_rfl) ?_
  rintro ⟨xs, p, _⟩ hx
  refine Eq.mpr (β := (True ∧ True ∧ True ∧ @LE.le Nat instLENat (List.length xs) (9223372036854775807:Nat) ∧ True ∧ True ∧ (True ∧ True) ∧ @Eq Bool (@decide (@GE.ge Int Int.instLEInt (indexF (fun (v0 : (Ty.T RectT)) => (p (v0, Unit.unit))) xs) (0:Int)) (Int.decLe (0:Int) (indexF (fun (v0 : (Ty.T RectT)) => (p (v0, Unit.unit))) xs))) (List.any xs (fun (v0 : (Ty.T RectT)) => (Prod.fst (p, ()) (v0, Unit.unit)))))) (by kernel_rfl) ?_
  simp only [true_and, and_true, decide_eq_true_eq, decide_eq_false_iff_not, forall_const, implies_true, and_self]
  exact ⟨hx, indexF_any _ xs⟩
abbrev K7 : KCons := (43, fun Γc => pure_ Γc ((c_conf RectT))) :: K6
theorem HK7 : KS Try.prog K7 := ks_add (ksound_pure (s_confRect)) HK6
/-! region -/
def c_rc1 : PCon := pcon (closTs [RectT] [.p I64, .p I64]) fun x => (True, .bool (containsR x.1 x.2.1 x.2.2.1))
theorem s_rc1 : PSound Try.prog 44 c_rc1 := by
  refine psoundF (K := K7) (Γc := C0) (Γr := R0) (fun _ => []) hm HK7 HC0 HR0 Try.call44 Try.func44 (by kernel_rfl) ?_
  rintro ⟨⟨a, b, c, d⟩, x, y, _⟩ _
  refine Eq.mpr (β := (True ∧ True ∧ True ∧ True ∧ True ∧ True ∧ True ∧ (True ∧ True) ∧ @Eq Bool (containsR (a, (b, (c, d))) x y) (containsR (a, (b, (c, d))) x (y, ()).1))) (by kernel_rfl) ?_
  simp
abbrev C8 : Clos := (44, ccon [RectT] .bool [.p I64, .p I64] fun x c => containsR x.1 c.1 c.2.1) :: C0
theorem HC8 : CSound Try.prog C8 := csound_add s_rc1 rfl (fun x c => ⟨trivial, rfl⟩) HC0
def rgContains (l : List Rect) (x y : Int) : Bool := l.any fun r => containsR r x y
def c_rgContains : PCon := pcon [.d (.list RectT), .d I64, .d I64] fun x => (x.1.length ≤ 9223372036854775807, .bool (rgContains x.1 x.2.1 x.2.2.1))
theorem s_rgContains : PSound Try.prog 23 c_rgContains := by
  refine psoundF (K := K7) (Γc := C8) (Γr := R0) (fun _ => []) hm HK7 HC8 HR0 Try.call23 Try.func23 (by kernel_rfl) ?_
  rintro ⟨xs, x, y, _⟩ hx
  refine Eq.mpr (β := (True ∧ True ∧ True ∧ True ∧ True ∧ @LE.le Nat instLENat (List.length xs) (9223372036854775807:Nat) ∧ True ∧ (True ∧ True) ∧ @Eq Bool (List.any xs (fun (v0 : (Ty.T RectT)) => (containsR v0 x y))) (rgContains xs x (y, ()).1))) (by kernel_rfl) ?_
  simp only [true_and, and_true, decide_eq_true_eq, decide_eq_false_iff_not, forall_const, implies_true, and_self]
  exact ⟨hx, rfl⟩
abbrev K9 : KCons := (23, fun Γc => pure_ Γc (c_rgContains)) :: K7
theorem HK9 : KS Try.prog K9 := ks_add (ksound_pure (s_rgContains)) HK7
def movedI (a d : Int) : Int := min (max (IntKind.i64.wrap (a + min (max d (-32768)) 32768)) (-16384)) 16384
theorem s_moved : PSound Try.prog 63 (pcon [.d I64, .d I64] fun x => (True, .int .i64 (movedI x.1 x.2.1))) := by
  refine psoundF (K := K9) (Γc := C8) (Γr := R0) (fun _ => []) hm HK9 HC8 HR0 Try.call63 Try.func63 (by kernel_rfl) ?_
  rintro ⟨a, d, _⟩ _
  refine Eq.mpr (β := (True ∧ True ∧ True ∧ True ∧ True ∧ True ∧ True ∧ True ∧ True ∧ True ∧ True ∧ (True ∧ True) ∧ @Eq Int (if (@LT.lt Int Int.instLTInt (16384:Int) (if (@GT.gt Int Int.instLTInt (Neg.neg (16384:Int)) (IntKind.wrap IntKind.i64 (@HAdd.hAdd Int Int Int _ a (if (@LT.lt Int Int.instLTInt (32768:Int) (if (@GT.gt Int Int.instLTInt (Neg.neg (32768:Int)) d) then (Neg.neg (32768:Int)) else d)) then (32768:Int) else (if (@GT.gt Int Int.instLTInt (Neg.neg (32768:Int)) d) then (Neg.neg (32768:Int)) else d))))) then (Neg.neg (16384:Int)) else (IntKind.wrap IntKind.i64 (@HAdd.hAdd Int Int Int _ a (if (@LT.lt Int Int.instLTInt (32768:Int) (if (@GT.gt Int Int.instLTInt (Neg.neg (32768:Int)) d) then (Neg.neg (32768:Int)) else d)) then (32768:Int) else (if (@GT.gt Int Int.instLTInt (Neg.neg (32768:Int)) d) then (Neg.neg (32768:Int)) else d)))))) then (16384:Int) else (if (@GT.gt Int Int.instLTInt (Neg.neg (16384:Int)) (IntKind.wrap IntKind.i64 (@HAdd.hAdd Int Int Int _ a (if (@LT.lt Int Int.instLTInt (32768:Int) (if (@GT.gt Int Int.instLTInt (Neg.neg (32768:Int)) d) then (Neg.neg (32768:Int)) else d)) then (32768:Int) else (if (@GT.gt Int Int.instLTInt (Neg.neg (32768:Int)) d) then (Neg.neg (32768:Int)) else d))))) then (Neg.neg (16384:Int)) else (IntKind.wrap IntKind.i64 (@HAdd.hAdd Int Int Int _ a (if (@LT.lt Int Int.instLTInt (32768:Int) (if (@GT.gt Int Int.instLTInt (Neg.neg (32768:Int)) d) then (Neg.neg (32768:Int)) else d)) then (32768:Int) else (if (@GT.gt Int Int.instLTInt (Neg.neg (32768:Int)) d) then (Neg.neg (32768:Int)) else d)))))) (movedI a d))) (by kernel_rfl) ?_
  simp only [true_and, and_true, decide_eq_true_eq, decide_eq_false_iff_not, forall_const, implies_true, and_self]
  have e1 : ∀ x : Int, (if -32768 > x then -32768 else x) = max x (-32768) := by intro x; split <;> omega
  have e2 : ∀ x : Int, (if 32768 < x then 32768 else x) = min x 32768 := by intro x; split <;> omega
  have e3 : ∀ x : Int, (if -16384 > x then -16384 else x) = max x (-16384) := by intro x; split <;> omega
  have e4 : ∀ x : Int, (if 16384 < x then 16384 else x) = min x 16384 := by intro x; split <;> omega
  rw [e1, e2, e3, e4]
  rfl
abbrev K10 : KCons := (63, fun Γc => pure_ Γc ((pcon [.d I64, .d I64] fun x => (True, .int .i64 (movedI x.1 x.2.1))))) :: K9
theorem HK10 : KS Try.prog K10 := ks_add (ksound_pure (s_moved)) HK9
def translR (r : Rect) (dx dy : Int) : Rect := if emptyR r = true then (0, 0, 0, 0) else canonR (movedI r.1 dx, movedI r.2.1 dy, movedI r.2.2.1 dx, movedI r.2.2.2 dy)
theorem s_rTranslate : PSound Try.prog 48 (pcon [.d RectT, .d I64, .d I64] fun x => (True, .agg (enc RectT (translR x.1 x.2.1 x.2.2.1)))) := by
  refine psoundF (K := K10) (Γc := C8) (Γr := R0) (fun _ => []) hm HK10 HC8 HR0 Try.call48 Try.func48 (by kernel_rfl) ?_
  rintro ⟨⟨a, b, c, d⟩, dx, dy, _⟩ _
  refine Eq.mpr (β := (True ∧ True ∧ True ∧ True ∧ (@Eq Bool (emptyR (a, (b, (c, d)))) true → (True ∧ True ∧ (True ∧ True) ∧ @Eq Int (0:Int) (translR (a, (b, (c, d))) dx (dy, ()).1).1 ∧ @Eq Int (0:Int) (translR (a, (b, (c, d))) dx (dy, ()).1).2.1 ∧ @Eq Int (0:Int) (translR (a, (b, (c, d))) dx (dy, ()).1).2.2.1 ∧ @Eq Int (0:Int) (translR (a, (b, (c, d))) dx (dy, ()).1).2.2.2 ∧ True)) ∧ (@Eq Bool (emptyR (a, (b, (c, d)))) false → ((True ∧ True ∧ True ∧ True ∧ True ∧ True ∧ True ∧ True ∧ True ∧ True ∧ True ∧ True ∧ True ∧ True ∧ True ∧ True ∧ True ∧ True ∧ True ∧ True) ∧ (True ∧ True) ∧ @Eq Int (canonR ((movedI a dx), ((movedI b dy), ((movedI c dx), (movedI d dy))))).1 (translR (a, (b, (c, d))) dx (dy, ()).1).1 ∧ @Eq Int (canonR ((movedI a dx), ((movedI b dy), ((movedI c dx), (movedI d dy))))).2.1 (translR (a, (b, (c, d))) dx (dy, ()).1).2.1 ∧ @Eq Int (canonR ((movedI a dx), ((movedI b dy), ((movedI c dx), (movedI d dy))))).2.2.1 (translR (a, (b, (c, d))) dx (dy, ()).1).2.2.1 ∧ @Eq Int (canonR ((movedI a dx), ((movedI b dy), ((movedI c dx), (movedI d dy))))).2.2.2 (translR (a, (b, (c, d))) dx (dy, ()).1).2.2.2 ∧ True)))) (by kernel_rfl) ?_
  simp only [true_and, and_true, decide_eq_true_eq, decide_eq_false_iff_not, forall_const, implies_true, and_self]
  exact ⟨fun h => by simp [translR, h], fun h => by simp [translR, h]⟩
abbrev K11 : KCons := (48, fun Γc => pure_ Γc ((pcon [.d RectT, .d I64, .d I64] fun x => (True, .agg (enc RectT (translR x.1 x.2.1 x.2.2.1)))))) :: K10
theorem HK11 : KS Try.prog K11 := ks_add (ksound_pure (s_rTranslate)) HK10
theorem canonR_range (r : Rect) : (-16384 ≤ (canonR r).1 ∧ (canonR r).1 ≤ 16384) ∧ (-16384 ≤ (canonR r).2.1 ∧ (canonR r).2.1 ≤ 16384) ∧ (-16384 ≤ (canonR r).2.2.1 ∧ (canonR r).2.2.1 ≤ 16384) ∧ (-16384 ≤ (canonR r).2.2.2 ∧ (canonR r).2.2.2 ≤ 16384) := by
  unfold canonR
  split
  · simp
  · rename_i h
    simp [emptyR, validR, coordOk] at h
    omega
def areaR (r : Rect) : Int := ((canonR r).2.2.1 - (canonR r).1) * ((canonR r).2.2.2 - (canonR r).2.1)
theorem s_rArea : PSound Try.prog 46 (pcon [.d RectT] fun x => (True, .int .i64 (areaR x.1))) := by
  refine psoundF (K := K11) (Γc := C8) (Γr := R0) (fun _ => []) hm HK11 HC8 HR0 Try.call46 Try.func46 (by kernel_rfl) ?_
  rintro ⟨r, _⟩ _
  refine Eq.mpr (β := (True ∧ True ∧ True ∧ True ∧ True ∧ True ∧ True ∧ True ∧ True ∧ True ∧ True ∧ True ∧ True ∧ True ∧ True ∧ True ∧ True ∧ (True ∧ True) ∧ @Eq Int (IntKind.wrap IntKind.i64 (@HMul.hMul Int Int Int _ (IntKind.wrap IntKind.i64 (@HSub.hSub Int Int Int _ (canonR r).2.2.1 (canonR r).1)) (IntKind.wrap IntKind.i64 (@HSub.hSub Int Int Int _ (canonR r).2.2.2 (canonR r).2.1)))) (areaR r))) (by kernel_rfl) ?_
  simp only [true_and, and_true, decide_eq_true_eq, decide_eq_false_iff_not, forall_const, implies_true, and_self]
  have h := canonR_range r
  show IntKind.i64.wrap (IntKind.i64.wrap ((canonR r).2.2.1 - (canonR r).1) * IntKind.i64.wrap ((canonR r).2.2.2 - (canonR r).2.1)) = areaR r
  rw [wrap_in (n := (canonR r).2.2.1 - (canonR r).1) (by omega), wrap_in (n := (canonR r).2.2.2 - (canonR r).2.1) (by omega)]
  have := mul_range (p := (canonR r).2.2.1 - (canonR r).1) (q := (canonR r).2.2.2 - (canonR r).2.1) (B := 32768) (by omega) (by omega)
  rw [wrap_in (by omega)]
  rfl
abbrev K12 : KCons := (46, fun Γc => pure_ Γc ((pcon [.d RectT] fun x => (True, .int .i64 (areaR x.1))))) :: K11
theorem HK12 : KS Try.prog K12 := ks_add (ksound_pure (s_rArea)) HK11
def unionR (a b : Rect) : Rect := if emptyR a = true then canonR b else if emptyR b = true then a else (min a.1 b.1, min a.2.1 b.2.1, max a.2.2.1 b.2.2.1, max a.2.2.2 b.2.2.2)
theorem s_rUnion : PSound Try.prog 51 (pcon [.d RectT, .d RectT] fun x => (True, .agg (enc RectT (unionR x.1 x.2.1)))) := by
  refine psoundF (K := K12) (Γc := C8) (Γr := R0) (fun _ => []) hm HK12 HC8 HR0 Try.call51 Try.func51 (by kernel_rfl) ?_
  rintro ⟨⟨a0, b0, c0, d0⟩, ⟨a1, b1, c1, d1⟩, _⟩ _
  refine Eq.mpr (β := (True ∧ True ∧ True ∧ True ∧ True ∧ True ∧ (@Eq Bool (emptyR (a0, (b0, (c0, d0)))) true → (True ∧ True ∧ True ∧ (True ∧ True) ∧ @Eq Int (canonR (a1, (b1, (c1, d1)))).1 (unionR (a0, (b0, (c0, d0))) (a1, (b1, (c1, d1)))).1 ∧ @Eq Int (canonR (a1, (b1, (c1, d1)))).2.1 (unionR (a0, (b0, (c0, d0))) (a1, (b1, (c1, d1)))).2.1 ∧ @Eq Int (canonR (a1, (b1, (c1, d1)))).2.2.1 (unionR (a0, (b0, (c0, d0))) (a1, (b1, (c1, d1)))).2.2.1 ∧ @Eq Int (canonR (a1, (b1, (c1, d1)))).2.2.2 (unionR (a0, (b0, (c0, d0))) (a1, (b1, (c1, d1)))).2.2.2 ∧ True)) ∧ (@Eq Bool (emptyR (a0, (b0, (c0, d0)))) false → (True ∧ True ∧ True ∧ (@Eq Bool (emptyR (a1, (b1, (c1, d1)))) true → (True ∧ True ∧ (True ∧ True) ∧ @Eq Int a0 (unionR (a0, (b0, (c0, d0))) (a1, (b1, (c1, d1)))).1 ∧ @Eq Int b0 (unionR (a0, (b0, (c0, d0))) (a1, (b1, (c1, d1)))).2.1 ∧ @Eq Int (c0, d0).1 (unionR (a0, (b0, (c0, d0))) (a1, (b1, (c1, d1)))).2.2.1 ∧ @Eq Int (c0, d0).2 (unionR (a0, (b0, (c0, d0))) (a1, (b1, (c1, d1)))).2.2.2 ∧ True)) ∧ (@Eq Bool (emptyR (a1, (b1, (c1, d1)))) false → (True ∧ True ∧ True ∧ True ∧ True ∧ True ∧ True ∧ True ∧ True ∧ True ∧ True ∧ True ∧ True ∧ True ∧ True ∧ True ∧ True ∧ True ∧ True ∧ True ∧ True ∧ True ∧ (True ∧ True) ∧ @Eq Int (if (@LT.lt Int Int.instLTInt a1 a0) then a1 else a0) (unionR (a0, (b0, (c0, d0))) (a1, (b1, (c1, d1)))).1 ∧ @Eq Int (if (@LT.lt Int Int.instLTInt b1 b0) then b1 else b0) (unionR (a0, (b0, (c0, d0))) (a1, (b1, (c1, d1)))).2.1 ∧ @Eq Int (if (@GT.gt Int Int.instLTInt (c1, d1).1 c0) then (c1, d1).1 else c0) (unionR (a0, (b0, (c0, d0))) (a1, (b1, (c1, d1)))).2.2.1 ∧ @Eq Int (if (@GT.gt Int Int.instLTInt (c1, d1).2 d0) then (c1, d1).2 else d0) (unionR (a0, (b0, (c0, d0))) (a1, (b1, (c1, d1)))).2.2.2 ∧ True)))))) (by kernel_rfl) ?_
  simp only [true_and, and_true, decide_eq_true_eq, decide_eq_false_iff_not, forall_const, implies_true, and_self]
  refine ⟨fun h => by simp [unionR, h], fun h => ⟨fun g => by simp [unionR, h, g], fun g => ?_⟩⟩
  simp only [unionR, h, g]
  simp only [Bool.false_eq_true, if_false]
  refine ⟨?_, ?_, ?_, ?_⟩ <;> first | rfl | omega | (split <;> omega)
abbrev K13 : KCons := (51, fun Γc => pure_ Γc ((pcon [.d RectT, .d RectT] fun x => (True, .agg (enc RectT (unionR x.1 x.2.1)))))) :: K12
theorem HK13 : KS Try.prog K13 := ks_add (ksound_pure (s_rUnion)) HK12
end Go.Proofs.Ytekgchddcemboaa
