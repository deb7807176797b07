/-
  A part of the proof: what some of the program's functions compute.
-/
import Derived.Test.YtijmbmncdchjkaaGreatVNE
namespace Go.Proofs.YtijmbmncdchjkaaGreat
open Go Go.E Go.Proofs
set_option linter.unusedVariables false
set_option linter.unusedSimpArgs false
/-- the last place where p holds -/
def lastIdx {α : Type} (p : α → Bool) (l : List α) : Int := match l.reverse.findIdx? p with
  | some k => (l.length : Int) - 1 - k
  | none => -1
theorem lastIdx_none {t : Ty} {p : t.T → Bool} {l : List t.T} (h : ∀ j : Nat, j < l.length → p (elemAt l j) = false) : lastIdx p l = -1 := by
  unfold lastIdx
  have : l.reverse.findIdx? p = none := by
    rw [List.findIdx?_eq_none_iff]
    intro x hx
    obtain ⟨j, hj, rfl⟩ := List.getElem_of_mem (List.mem_reverse.1 hx)
    have := h j hj
    rwa [show elemAt l j = l[j] by have e := elemAt_get l j hj; rw [List.getElem?_eq_getElem hj] at e; exact (Option.some.inj e).symm] at this
  rw [this]
theorem lastIdx_some {t : Ty} {p : t.T → Bool} {l : List t.T} {i : Nat} (hi : i < l.length) (hp : p (elemAt l i) = true) (h : ∀ j : Nat, i < j → j < l.length → p (elemAt l j) = false) : lastIdx p l = i := by
  have el : ∀ j (hj : j < l.length), elemAt l j = l[j] := fun j hj => by have e := elemAt_get l j hj; rw [List.getElem?_eq_getElem hj] at e; exact (Option.some.inj e).symm
  unfold lastIdx
  have : l.reverse.findIdx? p = some (l.length - 1 - i) := by
    rw [List.findIdx?_eq_some_iff_getElem]
    refine ⟨by simp; omega, ?_, fun j hj => ?_⟩
    · rw [List.getElem_reverse]
      have : l.length - 1 - (l.length - 1 - i) = i := by omega
      simp only [this]
      rw [← el i hi]
      exact hp
    · rw [List.getElem_reverse]
      have := h (l.length - 1 - j) (by omega) (by omega)
      rw [el _ (by omega)] at this
      simp [this]
  rw [this]
  simp only
  omega
def hit5 (x y : Int) (i : Item) : Bool := contains5 (placedL i i.2.2.2.2.2.2) x y
def at5 (l : List Item) (x y : Int) : Int := lastIdx (hit5 x y) l
def Items5 (l : List Item) : Prop := l.length ≤ 9223372036854775807 ∧ ∀ i ∈ l, itemLen i ∧ i.2.2.2.2.2.2.length ≤ 1000
theorem limL_len (xs : List Rect) : (limL xs).length ≤ 256 := by
  unfold limL
  split
  · assumption
  · simp
theorem placedL_len (i : Item) (l : List Rect) : (placedL i l).length ≤ 256 := by
  unfold placedL
  split
  · simp
  · split
    · simp
    · split
      · simp
      · exact limL_len _
theorem s_r25At : PSound Tryz.prog 31 (pcon [.d (.list ItemT), .d I64, .d I64] fun x => (Items5 x.1, .int .i64 (at5 x.1 x.2.1 x.2.2.1))) := by
  refine psoundF (K := K47) (Γc := C14) (Γr := R0) (fun x => [(2, annP [.slot 7 I64] (fun _ y => (-1 ≤ y.1 ∧ y.1 + 1 ≤ x.1.length) ∧ ∀ j : Nat, y.1 + 1 ≤ j → j < x.1.length → hit5 x.2.1 x.2.2.1 (elemAt (t := ItemT) x.1 j) = false) (fun y => (y.1 + 1 : Int).toNat))]) hm HK47 HC14 HR0 Tryz.call31 Tryz.func31 (by kernel_rfl) ?_
  rintro ⟨l, x, y, _⟩ hx
  have hx : Items5 l := hx
  refine Eq.mpr (β := (True ∧ True ∧ True ∧ True ∧ True ∧ ((True ∧ (@Eq Int (IntKind.wrap IntKind.i64 (@HSub.hSub Int Int Int _ (@Nat.cast Int _ (List.length l)) (1:Int))) (IntKind.wrap IntKind.i64 (@HSub.hSub Int Int Int _ (@Nat.cast Int _ (List.length l)) (1:Int))) ∧ @Eq Int (IntKind.wrap IntKind.i64 (@HSub.hSub Int Int Int _ (@Nat.cast Int _ (List.length l)) (1:Int))) (IntKind.wrap IntKind.i64 (@HSub.hSub Int Int Int _ (@Nat.cast Int _ (List.length l)) (1:Int))) ∧ @Eq Int (@Nat.cast Int _ (List.length l)) (@Nat.cast Int _ (List.length l)) ∧ @Eq _ l l ∧ @Eq _ l l ∧ @Eq Int x x ∧ @Eq Int y y ∧ True) ∧ True) ∧ (@LE.le Int Int.instLEInt (Neg.neg (1:Int)) (IntKind.wrap IntKind.i64 (@HSub.hSub Int Int Int _ (@Nat.cast Int _ (List.length l)) (1:Int))) ∧ @LE.le Int Int.instLEInt (@HAdd.hAdd Int Int Int _ (IntKind.wrap IntKind.i64 (@HSub.hSub Int Int Int _ (@Nat.cast Int _ (List.length l)) (1:Int))) (1:Int)) (@Nat.cast (Pl.T (Pl.slot (7:Nat) I64)) _ (List.length l))) ∧ (∀ (v0 : Nat), (@LE.le Int Int.instLEInt (@HAdd.hAdd Int Int Int _ (IntKind.wrap IntKind.i64 (@HSub.hSub Int Int Int _ (@Nat.cast Int _ (List.length l)) (1:Int))) (1:Int)) (@Nat.cast (Pl.T (Pl.slot (7:Nat) I64)) _ v0) → (@LT.lt Nat instLTNat v0 (List.length l) → @Eq Bool (hit5 x y (@elemAt ItemT l v0)) false)))) ∧ (∀ (v0 : (Prod Int Unit)), (((@LE.le Int Int.instLEInt (Neg.neg (1:Int)) v0.1 ∧ @LE.le Int Int.instLEInt (@HAdd.hAdd Int Int Int _ v0.1 (1:Int)) (@Nat.cast (Pl.T (Pl.slot (7:Nat) I64)) _ (List.length l))) ∧ (∀ (v1 : Nat), (@LE.le Int Int.instLEInt (@HAdd.hAdd Int Int Int _ v0.1 (1:Int)) (@Nat.cast (Pl.T (Pl.slot (7:Nat) I64)) _ v1) → (@LT.lt Nat instLTNat v1 (List.length l) → @Eq Bool (hit5 x y (@elemAt ItemT l v1)) false)))) → (True ∧ True ∧ (@Eq Bool (@decide (@GE.ge Int Int.instLEInt v0.1 (0:Int)) (Int.decLe (0:Int) v0.1)) true → (True ∧ True ∧ (@LE.le Int Int.instLEInt (0:Int) v0.1 ∧ @LE.le Int Int.instLEInt (@HAdd.hAdd Int Int Int _ v0.1 (1:Int)) (@Nat.cast Int _ (List.length l))) ∧ True ∧ ((itemLen (@elemAt ItemT l (Int.toNat v0.1))) ∧ @LE.le Nat instLENat (List.length (@elemAt ItemT l (Int.toNat v0.1)).2.2.2.2.2.2) (1000:Nat)) ∧ True ∧ True ∧ @LE.le Nat instLENat (List.length (placedL (@elemAt ItemT l (Int.toNat v0.1)) (@elemAt ItemT l (Int.toNat v0.1)).2.2.2.2.2.2)) (1000000:Nat) ∧ (@Eq Bool (contains5 (placedL (@elemAt ItemT l (Int.toNat v0.1)) (@elemAt ItemT l (Int.toNat v0.1)).2.2.2.2.2.2) x y) true → (True ∧ True ∧ (True ∧ True) ∧ @Eq Int v0.1 (at5 l x y))) ∧ (@Eq Bool (contains5 (placedL (@elemAt ItemT l (Int.toNat v0.1)) (@elemAt ItemT l (Int.toNat v0.1)).2.2.2.2.2.2) x y) false → (True ∧ True ∧ True ∧ (True ∧ (@Eq Int (IntKind.wrap IntKind.i64 (@HSub.hSub Int Int Int _ v0.1 (1:Int))) (IntKind.wrap IntKind.i64 (@HSub.hSub Int Int Int _ v0.1 (1:Int))) ∧ @Eq Int (IntKind.wrap IntKind.i64 (@HSub.hSub Int Int Int _ (@Nat.cast Int _ (List.length l)) (1:Int))) (IntKind.wrap IntKind.i64 (@HSub.hSub Int Int Int _ (@Nat.cast Int _ (List.length l)) (1:Int))) ∧ @Eq Int (@Nat.cast Int _ (List.length l)) (@Nat.cast Int _ (List.length l)) ∧ @Eq _ l l ∧ @Eq _ l l ∧ @Eq Int x x ∧ @Eq Int y y ∧ True) ∧ True) ∧ ((@LE.le Int Int.instLEInt (Neg.neg (1:Int)) (IntKind.wrap IntKind.i64 (@HSub.hSub Int Int Int _ v0.1 (1:Int))) ∧ @LE.le Int Int.instLEInt (@HAdd.hAdd Int Int Int _ (IntKind.wrap IntKind.i64 (@HSub.hSub Int Int Int _ v0.1 (1:Int))) (1:Int)) (@Nat.cast (Pl.T (Pl.slot (7:Nat) I64)) _ (List.length l))) ∧ (∀ (v1 : Nat), (@LE.le Int Int.instLEInt (@HAdd.hAdd Int Int Int _ (IntKind.wrap IntKind.i64 (@HSub.hSub Int Int Int _ v0.1 (1:Int))) (1:Int)) (@Nat.cast (Pl.T (Pl.slot (7:Nat) I64)) _ v1) → (@LT.lt Nat instLTNat v1 (List.length l) → @Eq Bool (hit5 x y (@elemAt ItemT l v1)) false)))) ∧ @LT.lt Nat instLTNat (Int.toNat (@HAdd.hAdd Int Int Int _ (IntKind.wrap IntKind.i64 (@HSub.hSub Int Int Int _ v0.1 (1:Int))) (1:Int))) (Int.toNat (@HAdd.hAdd Int Int Int _ v0.1 (1:Int))))))) ∧ (@Eq Bool (@decide (@GE.ge Int Int.instLEInt v0.1 (0:Int)) (Int.decLe (0:Int) v0.1)) false → (True ∧ (True ∧ True) ∧ @Eq Int (Neg.neg (1:Int)) (at5 l x y)))))))) (by kernel_rfl) ?_
  simp only [true_and, and_true, decide_eq_true_eq, decide_eq_false_iff_not, forall_const, implies_true, and_self]
  have hm := hx.1
  have hm2 : (l.length : Int) ≤ 9223372036854775807 := by omega
  rw [wrap_in (n := (l.length : Int) - 1) (by omega)]
  refine ⟨⟨⟨by omega, by omega⟩, fun j h1 h2 => ?_⟩, ?_⟩
  · exfalso
    have : (l.length : Int) ≤ j := by
      have h1 : (l.length : Int) - 1 + 1 ≤ j := h1
      omega
    omega
  rintro ⟨i, _⟩ ⟨⟨h0, h1⟩, he⟩
  simp only at h0 h1 he ⊢
  refine ⟨fun hi => ?_, fun hi => ?_⟩
  · have hmem : elemAt (t := ItemT) l i.toNat ∈ l := List.mem_of_getElem? (elemAt_get (t := ItemT) l i.toNat (by omega))
    have ho := hx.2 _ hmem
    have hpl := placedL_len (elemAt (t := ItemT) l i.toNat) (elemAt (t := ItemT) l i.toNat).2.2.2.2.2.2
    rw [wrap_in (by omega)]
    refine ⟨⟨hi, by omega⟩, ho, by omega, fun hc => ?_, fun hc => ⟨⟨⟨by omega, by omega⟩, fun j h2 h3 => ?_⟩, by omega⟩⟩
    · have := lastIdx_some (t := ItemT) (p := hit5 x y) (l := l) (i := i.toNat) (by omega) hc fun j h2 h3 => he j (by omega) h3
      unfold at5
      rw [this]
      omega
    · by_cases hj : i + 1 ≤ (j : Int)
      · exact he j hj h3
      · have h2 : i - 1 + 1 ≤ (j : Int) := h2
        have : j = i.toNat := by omega
        rw [this]
        exact hc
  · unfold at5
    rw [lastIdx_none (t := ItemT) (p := hit5 x y) fun j hj => he j (by have := Int.natCast_nonneg j; omega) hj]
abbrev K48 : KCons := (31, fun Γc => pure_ Γc ((pcon [.d (.list ItemT), .d I64, .d I64] fun x => (Items5 x.1, .int .i64 (at5 x.1 x.2.1 x.2.2.1))))) :: K47
theorem HK48 : KS Tryz.prog K48 := ks_add (ksound_pure (s_r25At)) HK47
end Go.Proofs.YtijmbmncdchjkaaGreat
