/-
  A part of the proof: what some of the program's functions compute.
-/
import Derived.Test.YtgjfofeaakdihaaGreatVG
namespace Go.Proofs.YtgjfofeaakdihaaGreat
open Go Go.E Go.Proofs
set_option linter.unusedVariables false
set_option linter.unusedSimpArgs false
/-! heavy -/
def bigI (i : Item) : Bool := decide ((i.2.2.2.2.2.2.length : Int) > 8)
def bigO (o : Opn) : Bool := decide ((o.2.2.1.length : Int) > 8) || o.2.2.1.any bigI
def heavyL (l : List Opn) : Bool := decide ((l.length : Int) > 60) || l.any bigO
def OpsOk (l : List Opn) : Prop := l.length ≤ 9223372036854775807 ∧ ∀ o ∈ l, ItemsOk o.2.2.1
/-- none of the first ones -/
def noneTo {t : Ty} (p : t.T → Bool) (l : List t.T) (i : Int) : Prop := 0 ≤ i ∧ i ≤ l.length ∧ ∀ j : Nat, (j : Int) < i → p (elemAt l j) = false
theorem noneTo_zero {t : Ty} (p : t.T → Bool) (l : List t.T) : noneTo p l 0 := ⟨by omega, by omega, fun j hj => by omega⟩
theorem noneTo_step {t : Ty} {p : t.T → Bool} {l : List t.T} {i : Int} (h : noneTo p l i) (hi : i < l.length) (hp : p (elemAt l i.toNat) = false) : noneTo p l (i + 1) := by
  obtain ⟨h1, h2, h3⟩ := h
  refine ⟨by omega, by omega, fun j hj => ?_⟩
  by_cases he : j = i.toNat
  · subst he; exact hp
  · exact h3 j (by omega)
theorem elemAt_mem {t : Ty} {l : List t.T} {i : Nat} (h : i < l.length) : elemAt l i ∈ l := List.mem_of_getElem? (elemAt_get l i h)
theorem noneTo_any {t : Ty} {p : t.T → Bool} {l : List t.T} {i : Int} (h : noneTo p l i) (hi : ¬ i < l.length) : l.any p = false := by
  rw [List.any_eq_false]
  intro x hx
  obtain ⟨j, hj, rfl⟩ := List.getElem_of_mem hx
  have := h.2.2 j (by have := h.2.1; omega)
  have he := elemAt_get l j hj
  rw [List.getElem?_eq_getElem hj] at he
  injection he with he
  rw [he]
  simp [this]
theorem any_at {t : Ty} {p : t.T → Bool} {l : List t.T} {i : Nat} (h : i < l.length) (hp : p (elemAt l i) = true) : l.any p = true := List.any_eq_true.2 ⟨_, elemAt_mem h, hp⟩
theorem s_heavy : PSound Tryz.prog 4 (pcon [.d (.list OpT)] fun x => (OpsOk x.1, .bool (heavyL x.1))) := by
  refine psoundF (K := K75) (Γc := C46) (Γr := R0) (fun x => [(4, annP [.slot 3 I64] (fun _ y => noneTo (t := OpT) bigO x.1 y.1) (fun y => (x.1.length - y.1 : Int).toNat)), (9, annP [.slot 3 I64, .slot 4 I64] (fun y0 y => y.1 = y0.1 ∧ 0 ≤ y0.1 ∧ y0.1 < x.1.length ∧ noneTo (t := ItemT) bigI (elemAt (t := OpT) x.1 y0.1.toNat).2.2.1 y.2.1) (fun y => ((elemAt (t := OpT) x.1 y.1.toNat).2.2.1.length - y.2.1 : Int).toNat))]) hm HK75 HC46 HR0 Tryz.call4 Tryz.func4 (by kernel_rfl) ?_
  rintro ⟨l, _⟩ hx
  have hx : OpsOk l := hx
  refine Eq.mpr (β := (True ∧ True ∧ True ∧ True ∧ (@Eq Bool (@decide (@GT.gt Int Int.instLTInt (@Nat.cast Int _ (List.length l)) (60:Int)) (Int.decLt (60:Int) (@Nat.cast Int _ (List.length l)))) true → (True ∧ (True ∧ True) ∧ @Eq Bool true (heavyL l))) ∧ (@Eq Bool (@decide (@GT.gt Int Int.instLTInt (@Nat.cast Int _ (List.length l)) (60:Int)) (Int.decLt (60:Int) (@Nat.cast Int _ (List.length l)))) false → (True ∧ ((True ∧ (@Eq Int (Int.ofNat 0) (Int.ofNat 0) ∧ @Eq Bool (@decide (@GT.gt Int Int.instLTInt (@Nat.cast Int _ (List.length l)) (60:Int)) (Int.decLt (60:Int) (@Nat.cast Int _ (List.length l)))) (@decide (@GT.gt Int Int.instLTInt (@Nat.cast Int _ (List.length l)) (60:Int)) (Int.decLt (60:Int) (@Nat.cast Int _ (List.length l)))) ∧ @Eq Int (@Nat.cast Int _ (List.length l)) (@Nat.cast Int _ (List.length l)) ∧ @Eq _ l l ∧ @Eq _ l l ∧ True) ∧ True) ∧ @noneTo OpT bigO l (0:Int)) ∧ (∀ (v0 : (Prod Int Unit)), (@noneTo OpT bigO l v0.1 → (True ∧ True ∧ True ∧ True ∧ (@Eq Bool (@decide (@LT.lt Int Int.instLTInt v0.1 (@Nat.cast Int _ (List.length l))) (Int.decLt v0.1 (@Nat.cast Int _ (List.length l)))) true → (True ∧ True ∧ (@LE.le Int Int.instLEInt (0:Int) v0.1 ∧ @LE.le Int Int.instLEInt (@HAdd.hAdd Int Int Int _ v0.1 (1:Int)) (@Nat.cast Int _ (List.length l))) ∧ True ∧ True ∧ True ∧ True ∧ (@Eq Bool (@decide (@GT.gt Int Int.instLTInt (@Nat.cast Int _ (List.length (@elemAt OpT l (Int.toNat v0.1)).2.2.1)) (8:Int)) (Int.decLt (8:Int) (@Nat.cast Int _ (List.length (@elemAt OpT l (Int.toNat v0.1)).2.2.1)))) true → (True ∧ (True ∧ True) ∧ @Eq Bool true (heavyL l))) ∧ (@Eq Bool (@decide (@GT.gt Int Int.instLTInt (@Nat.cast Int _ (List.length (@elemAt OpT l (Int.toNat v0.1)).2.2.1)) (8:Int)) (Int.decLt (8:Int) (@Nat.cast Int _ (List.length (@elemAt OpT l (Int.toNat v0.1)).2.2.1)))) false → (True ∧ ((True ∧ (@Eq Int (0:Int) (0:Int) ∧ @Eq Bool (@decide (@GT.gt Int Int.instLTInt (@Nat.cast Int _ (List.length (@elemAt OpT l (Int.toNat v0.1)).2.2.1)) (8:Int)) (Int.decLt (8:Int) (@Nat.cast Int _ (List.length (@elemAt OpT l (Int.toNat v0.1)).2.2.1)))) (@decide (@GT.gt Int Int.instLTInt (@Nat.cast Int _ (List.length (@elemAt OpT l (Int.toNat v0.1)).2.2.1)) (8:Int)) (Int.decLt (8:Int) (@Nat.cast Int _ (List.length (@elemAt OpT l (Int.toNat v0.1)).2.2.1)))) ∧ @Eq Int (@Nat.cast Int _ (List.length (@elemAt OpT l (Int.toNat v0.1)).2.2.1)) (@Nat.cast Int _ (List.length (@elemAt OpT l (Int.toNat v0.1)).2.2.1)) ∧ @Eq _ (@elemAt OpT l (Int.toNat v0.1)).2.2.1 (@elemAt OpT l (Int.toNat v0.1)).2.2.1 ∧ @Eq _ (@elemAt OpT l (Int.toNat v0.1)) (@elemAt OpT l (Int.toNat v0.1)) ∧ @Eq _ (@elemAt OpT l (Int.toNat v0.1)) (@elemAt OpT l (Int.toNat v0.1)) ∧ @Eq Int v0.1 v0.1 ∧ @Eq _ l l ∧ @Eq Bool (@decide (@LT.lt Int Int.instLTInt v0.1 (@Nat.cast Int _ (List.length l))) (Int.decLt v0.1 (@Nat.cast Int _ (List.length l)))) (@decide (@LT.lt Int Int.instLTInt v0.1 (@Nat.cast Int _ (List.length l))) (Int.decLt v0.1 (@Nat.cast Int _ (List.length l)))) ∧ @Eq Int (@Nat.cast Int _ (List.length l)) (@Nat.cast Int _ (List.length l)) ∧ @Eq _ l l ∧ @Eq Int v0.1 v0.1 ∧ @Eq Int v0.1 v0.1 ∧ @Eq Bool (@decide (@GT.gt Int Int.instLTInt (@Nat.cast Int _ (List.length l)) (60:Int)) (Int.decLt (60:Int) (@Nat.cast Int _ (List.length l)))) (@decide (@GT.gt Int Int.instLTInt (@Nat.cast Int _ (List.length l)) (60:Int)) (Int.decLt (60:Int) (@Nat.cast Int _ (List.length l)))) ∧ @Eq Int (@Nat.cast Int _ (List.length l)) (@Nat.cast Int _ (List.length l)) ∧ @Eq _ l l ∧ @Eq _ l l ∧ True) ∧ True) ∧ @Eq Int v0.1 v0.1 ∧ @LE.le Int Int.instLEInt (0:Int) v0.1 ∧ @LE.le Int Int.instLEInt (@HAdd.hAdd Int Int Int _ v0.1 (1:Int)) (@Nat.cast (Pl.T (Pl.slot (3:Nat) I64)) _ (List.length l)) ∧ @noneTo ItemT bigI (@elemAt OpT l (Int.toNat v0.1)).2.2.1 (0:Int)) ∧ (∀ (v1 : (Prod Int (Prod Int Unit))), ((@Eq Int v1.1 v0.1 ∧ @LE.le Int Int.instLEInt (0:Int) v0.1 ∧ @LE.le Int Int.instLEInt (@HAdd.hAdd Int Int Int _ v0.1 (1:Int)) (@Nat.cast (Pl.T (Pl.slot (3:Nat) I64)) _ (List.length l)) ∧ @noneTo ItemT bigI (@elemAt OpT l (Int.toNat v0.1)).2.2.1 v1.2.1) → (True ∧ True ∧ True ∧ (@LE.le Int Int.instLEInt (0:Int) v1.1 ∧ @LE.le Int Int.instLEInt (@HAdd.hAdd Int Int Int _ v1.1 (1:Int)) (@Nat.cast Int _ (List.length l))) ∧ True ∧ True ∧ True ∧ True ∧ (@Eq Bool (@decide (@LT.lt Int Int.instLTInt v1.2.1 (@Nat.cast Int _ (List.length (@elemAt OpT l (Int.toNat v1.1)).2.2.1))) (Int.decLt v1.2.1 (@Nat.cast Int _ (List.length (@elemAt OpT l (Int.toNat v1.1)).2.2.1)))) true → (True ∧ True ∧ (@LE.le Int Int.instLEInt (0:Int) v1.1 ∧ @LE.le Int Int.instLEInt (@HAdd.hAdd Int Int Int _ v1.1 (1:Int)) (@Nat.cast Int _ (List.length l))) ∧ True ∧ True ∧ True ∧ (@LE.le Int Int.instLEInt (0:Int) v1.2.1 ∧ @LE.le Int Int.instLEInt (@HAdd.hAdd Int Int Int _ v1.2.1 (1:Int)) (@Nat.cast Int _ (List.length (@elemAt OpT l (Int.toNat v1.1)).2.2.1))) ∧ True ∧ True ∧ True ∧ True ∧ (@Eq Bool (@decide (@GT.gt Int Int.instLTInt (@Nat.cast Int _ (List.length (@elemAt ItemT (@elemAt OpT l (Int.toNat v1.1)).2.2.1 (Int.toNat v1.2.1)).2.2.2.2.2.2)) (8:Int)) (Int.decLt (8:Int) (@Nat.cast Int _ (List.length (@elemAt ItemT (@elemAt OpT l (Int.toNat v1.1)).2.2.1 (Int.toNat v1.2.1)).2.2.2.2.2.2)))) true → (True ∧ (True ∧ True) ∧ @Eq Bool true (heavyL l))) ∧ (@Eq Bool (@decide (@GT.gt Int Int.instLTInt (@Nat.cast Int _ (List.length (@elemAt ItemT (@elemAt OpT l (Int.toNat v1.1)).2.2.1 (Int.toNat v1.2.1)).2.2.2.2.2.2)) (8:Int)) (Int.decLt (8:Int) (@Nat.cast Int _ (List.length (@elemAt ItemT (@elemAt OpT l (Int.toNat v1.1)).2.2.1 (Int.toNat v1.2.1)).2.2.2.2.2.2)))) false → (True ∧ True ∧ True ∧ (True ∧ (@Eq Int (IntKind.wrap IntKind.i64 (@HAdd.hAdd Int Int Int _ v1.2.1 (1:Int))) (IntKind.wrap IntKind.i64 (@HAdd.hAdd Int Int Int _ v1.2.1 (1:Int))) ∧ @Eq Bool (@decide (@GT.gt Int Int.instLTInt (@Nat.cast Int _ (List.length (@elemAt OpT l (Int.toNat v0.1)).2.2.1)) (8:Int)) (Int.decLt (8:Int) (@Nat.cast Int _ (List.length (@elemAt OpT l (Int.toNat v0.1)).2.2.1)))) (@decide (@GT.gt Int Int.instLTInt (@Nat.cast Int _ (List.length (@elemAt OpT l (Int.toNat v0.1)).2.2.1)) (8:Int)) (Int.decLt (8:Int) (@Nat.cast Int _ (List.length (@elemAt OpT l (Int.toNat v0.1)).2.2.1)))) ∧ @Eq Int (@Nat.cast Int _ (List.length (@elemAt OpT l (Int.toNat v0.1)).2.2.1)) (@Nat.cast Int _ (List.length (@elemAt OpT l (Int.toNat v0.1)).2.2.1)) ∧ @Eq _ (@elemAt OpT l (Int.toNat v0.1)).2.2.1 (@elemAt OpT l (Int.toNat v0.1)).2.2.1 ∧ @Eq _ (@elemAt OpT l (Int.toNat v0.1)) (@elemAt OpT l (Int.toNat v0.1)) ∧ @Eq _ (@elemAt OpT l (Int.toNat v0.1)) (@elemAt OpT l (Int.toNat v0.1)) ∧ @Eq Int v0.1 v0.1 ∧ @Eq _ l l ∧ @Eq Bool (@decide (@LT.lt Int Int.instLTInt v0.1 (@Nat.cast Int _ (List.length l))) (Int.decLt v0.1 (@Nat.cast Int _ (List.length l)))) (@decide (@LT.lt Int Int.instLTInt v0.1 (@Nat.cast Int _ (List.length l))) (Int.decLt v0.1 (@Nat.cast Int _ (List.length l)))) ∧ @Eq Int (@Nat.cast Int _ (List.length l)) (@Nat.cast Int _ (List.length l)) ∧ @Eq _ l l ∧ @Eq Int v0.1 v0.1 ∧ @Eq Int v1.1 v1.1 ∧ @Eq Bool (@decide (@GT.gt Int Int.instLTInt (@Nat.cast Int _ (List.length l)) (60:Int)) (Int.decLt (60:Int) (@Nat.cast Int _ (List.length l)))) (@decide (@GT.gt Int Int.instLTInt (@Nat.cast Int _ (List.length l)) (60:Int)) (Int.decLt (60:Int) (@Nat.cast Int _ (List.length l)))) ∧ @Eq Int (@Nat.cast Int _ (List.length l)) (@Nat.cast Int _ (List.length l)) ∧ @Eq _ l l ∧ @Eq _ l l ∧ True) ∧ True) ∧ (@Eq Int v1.1 v0.1 ∧ @LE.le Int Int.instLEInt (0:Int) v0.1 ∧ @LE.le Int Int.instLEInt (@HAdd.hAdd Int Int Int _ v0.1 (1:Int)) (@Nat.cast (Pl.T (Pl.slot (3:Nat) I64)) _ (List.length l)) ∧ @noneTo ItemT bigI (@elemAt OpT l (Int.toNat v0.1)).2.2.1 (IntKind.wrap IntKind.i64 (@HAdd.hAdd Int Int Int _ v1.2.1 (1:Int)))) ∧ @LT.lt Nat instLTNat (Int.toNat (@HSub.hSub Int Int Int _ (@Nat.cast Int _ (List.length (@elemAt OpT l (Int.toNat v1.1)).2.2.1)) (IntKind.wrap IntKind.i64 (@HAdd.hAdd Int Int Int _ v1.2.1 (1:Int))))) (Int.toNat (@HSub.hSub Int Int Int _ (@Nat.cast Int _ (List.length (@elemAt OpT l (Int.toNat v1.1)).2.2.1)) v1.2.1)))))) ∧ (@Eq Bool (@decide (@LT.lt Int Int.instLTInt v1.2.1 (@Nat.cast Int _ (List.length (@elemAt OpT l (Int.toNat v1.1)).2.2.1))) (Int.decLt v1.2.1 (@Nat.cast Int _ (List.length (@elemAt OpT l (Int.toNat v1.1)).2.2.1)))) false → (True ∧ True ∧ True ∧ (True ∧ (@Eq Int (IntKind.wrap IntKind.i64 (@HAdd.hAdd Int Int Int _ v1.1 (1:Int))) (IntKind.wrap IntKind.i64 (@HAdd.hAdd Int Int Int _ v1.1 (1:Int))) ∧ @Eq Bool (@decide (@GT.gt Int Int.instLTInt (@Nat.cast Int _ (List.length l)) (60:Int)) (Int.decLt (60:Int) (@Nat.cast Int _ (List.length l)))) (@decide (@GT.gt Int Int.instLTInt (@Nat.cast Int _ (List.length l)) (60:Int)) (Int.decLt (60:Int) (@Nat.cast Int _ (List.length l)))) ∧ @Eq Int (@Nat.cast Int _ (List.length l)) (@Nat.cast Int _ (List.length l)) ∧ @Eq _ l l ∧ @Eq _ l l ∧ True) ∧ True) ∧ @noneTo OpT bigO l (IntKind.wrap IntKind.i64 (@HAdd.hAdd Int Int Int _ v1.1 (1:Int))) ∧ @LT.lt Nat instLTNat (Int.toNat (@HSub.hSub Int Int Int _ (@Nat.cast Int _ (List.length l)) (IntKind.wrap IntKind.i64 (@HAdd.hAdd Int Int Int _ v1.1 (1:Int))))) (Int.toNat (@HSub.hSub Int Int Int _ (@Nat.cast Int _ (List.length l)) v0.1))))))))))) ∧ (@Eq Bool (@decide (@LT.lt Int Int.instLTInt v0.1 (@Nat.cast Int _ (List.length l))) (Int.decLt v0.1 (@Nat.cast Int _ (List.length l)))) false → (True ∧ (True ∧ True) ∧ @Eq Bool false (heavyL l)))))))))) (by kernel_rfl) ?_
  simp only [true_and, and_true, decide_eq_true_eq, decide_eq_false_iff_not, forall_const, implies_true, and_self]
  have hm : (l.length : Int) ≤ 9223372036854775807 := by have := hx.1; omega
  refine ⟨fun h => ?_, fun h0 => ⟨noneTo_zero _ _, ?_⟩⟩
  · unfold heavyL; rw [decide_eq_true h]; rfl
  rintro ⟨i, _⟩ hn
  simp only at hn ⊢
  refine ⟨fun hi => ⟨⟨hn.1, by omega⟩, fun h => ?_, fun h1 => ⟨⟨hn.1, by omega, noneTo_zero _ _⟩, ?_⟩⟩, fun hi => ?_⟩
  · unfold heavyL
    rw [any_at (t := OpT) (i := i.toNat) (by have := hn.1; omega) (by unfold bigO; rw [decide_eq_true h]; rfl), Bool.or_true]
  · rintro ⟨i', k, _⟩ ⟨e, g1, g2, hk⟩
    simp only at e g1 g2 hk ⊢
    subst e
    have hb := (hx.2 _ (elemAt_mem (t := OpT) (i := i'.toNat) (by omega))).1
    refine ⟨⟨g1, g2⟩, fun hlt => ⟨⟨g1, g2⟩, ⟨hk.1, by omega⟩, fun h => ?_, fun h => ?_⟩, fun hlt => ?_⟩
    · unfold heavyL
      rw [any_at (t := OpT) (i := i'.toNat) (by omega) (by
        unfold bigO
        rw [any_at (t := ItemT) (i := k.toNat) (by have := hk.1; omega) (by unfold bigI; rw [decide_eq_true h]), Bool.or_true]), Bool.or_true]
    · have hk1 := noneTo_step hk hlt (by unfold bigI; rw [decide_eq_false h])
      rw [wrap_in (by have := hk.1; omega)]
      exact ⟨⟨rfl, g1, g2, hk1⟩, by have := hk.1; omega⟩
    · have hi1 := noneTo_step hn hi (by
        unfold bigO
        rw [noneTo_any hk hlt, decide_eq_false h1]
        rfl)
      rw [wrap_in (by omega)]
      exact ⟨hi1, by omega⟩
  · unfold heavyL
    rw [noneTo_any hn hi, decide_eq_false h0]
    rfl
abbrev K76 : KCons := (4, fun Γc => pure_ Γc ((pcon [.d (.list OpT)] fun x => (OpsOk x.1, .bool (heavyL x.1))))) :: K75
theorem HK76 : KS Tryz.prog K76 := ks_add (ksound_pure (s_heavy)) HK75
end Go.Proofs.YtgjfofeaakdihaaGreat
