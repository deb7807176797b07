/-
  A part of the proof: what some of the program's functions compute.
-/
import Derived.Test.YtogbocplojbdjaaVCA
namespace Go.Proofs.Ytogbocplojbdjaa
open Go Go.E Go.Proofs
set_option linter.unusedVariables false
set_option linter.unusedSimpArgs false
def insideQ (i : Item) (l : List Rect) : Bool := limE (cutL i l) == 0 && (isCan l && sameRects l (limL (cutL i l)))
theorem cutL_len {i : Item} {l : List Rect} (h : l.length ≤ 1000) : (cutL i l).length ≤ 16000000 := comb_len 2 (by simp; omega)
def refGood (i : Item) : Bool := !(decide (i.1 < 1) || decide (i.2.1 < 1) || zeroR (boundsI i) || !insideQ i i.2.2.2.2.2.1 || !insideQ i i.2.2.2.2.2.2)
def refOk (l : List Item) : Bool := decide ((l.length : Int) ≤ 128) && (l.all refGood && decide (l.map (·.1)).Nodup)
theorem all_take {l : List Item} {j : Nat} (hj : j < l.length) (p : Item → Bool) : ((l.take (j + 1)).all p) = ((l.take j).all p && p (elemAt (t := ItemT) l j)) := by
  rw [List.take_add_one, elemAt_get (t := ItemT) l j hj, List.all_append]
  simp
theorem sur_take {l : List Item} {j : Nat} (hj : j < l.length) : (l.take (j + 1)).map (·.1) = (l.take j).map (·.1) ++ [(elemAt (t := ItemT) l j).1] := by
  rw [List.take_add_one, elemAt_get (t := ItemT) l j hj, List.map_append]
  rfl
def lightN (n : Int) (i : Item) : Int := IntKind.i64.wrap (n + i.2.2.2.2.1.2.2.length)
def lightR : List Item → Int → Bool
  | [], _ => true
  | i :: r, n => !(decide (12 < (i.2.2.2.2.2.1.length : Int)) || decide (12 < (i.2.2.2.2.2.2.length : Int)) || decide (1500 < lightN n i)) && lightR r (lightN n i)
def lightL (l : List Item) : Bool := decide ((l.length : Int) ≤ 140) && lightR l 0
theorem lightR_few : ∀ {l : List Item} {n : Int}, lightR l n = true → ∀ i ∈ l, i.2.2.2.2.2.1.length ≤ 12 ∧ i.2.2.2.2.2.2.length ≤ 12
  | [], _, _, i, hi => by cases hi
  | a :: r, n, h, i, hi => by
    rw [lightR, Bool.and_eq_true] at h
    rcases List.mem_cons.1 hi with rfl | hi
    · have := h.1
      simp only [Bool.not_eq_true', Bool.or_eq_false_iff, decide_eq_false_iff_not] at this
      omega
    · exact lightR_few h.2 i hi
theorem light_few {l : List Item} (h : lightL l = true) : l.length ≤ 140 ∧ ∀ i ∈ l, i.2.2.2.2.2.1.length ≤ 12 ∧ i.2.2.2.2.2.2.length ≤ 12 := by
  rw [lightL, Bool.and_eq_true, decide_eq_true_eq] at h
  exact ⟨by omega, lightR_few h.2⟩
theorem light_pre {l : List Item} (h : lightL l = true) (hi : ItemsOk l) : ScPre l :=
  ⟨hi, fun i hm => by have := (light_few h).2 i hm; omega⟩
theorem drop_item {l : List Item} {i : Nat} (h : i < l.length) : l.drop i = elemAt (t := ItemT) l i :: l.drop (i + 1) := by
  have e := elemAt_get (t := ItemT) l i h
  rw [List.getElem?_eq_getElem h] at e
  injection e with e
  rw [← e]
  exact List.drop_eq_getElem_cons h
set_option maxHeartbeats 2000000 in
theorem s_r25Light : PSound Try.prog 9 (pcon [.d (.list ItemT)] fun x => (ItemsOk x.1, .bool (lightL x.1))) := by
  refine psoundF (K := K55) (Γc := C33) (Γr := R0) (fun x => [(5, annP [.slot 3 I64, .slot 4 I64] (fun _ y => (0 ≤ y.2.1 ∧ y.2.1 ≤ x.1.length) ∧ lightR x.1 0 = lightR (List.drop y.2.1.toNat (x.1 : List Item)) y.1) (fun y => (x.1.length - y.2.1 : Int).toNat))]) hm HK55 HC33 HR0 Try.call9 Try.func9 (by kernel_rfl) ?_
  rintro ⟨l, _⟩ hx
  have hi : ItemsOk l := hx
  refine Eq.mpr (β := (True ∧ True ∧ True ∧ True ∧ (@Eq Bool (@decide (@GT.gt Int _ (@Nat.cast Int _ (List.length l)) 140) (Int.decLt 140 (@Nat.cast Int _ (List.length l)))) true → (True ∧ (True ∧ True) ∧ @Eq Bool false (lightL l))) ∧ (@Eq Bool (@decide (@GT.gt Int _ (@Nat.cast Int _ (List.length l)) 140) (Int.decLt 140 (@Nat.cast Int _ (List.length l)))) false → (True ∧ True ∧ ((True ∧ (@Eq Int 0 0 ∧ @Eq Int 0 0 ∧ @Eq Bool (@decide (@GT.gt Int _ (@Nat.cast Int _ (List.length l)) 140) (Int.decLt 140 (@Nat.cast Int _ (List.length l)))) (@decide (@GT.gt Int _ (@Nat.cast Int _ (List.length l)) 140) (Int.decLt 140 (@Nat.cast Int _ (List.length l)))) ∧ @Eq Int (@Nat.cast Int _ (List.length l)) (@Nat.cast Int _ (List.length l)) ∧ @Eq _ l l ∧ @Eq _ l l ∧ True) ∧ True) ∧ (@LE.le Int _ 0 0 ∧ @LE.le Int _ 0 (@Nat.cast (Pl.T (Pl.slot 4 I64)) _ (List.length l))) ∧ @Eq Bool (lightR l 0) (lightR (List.drop 0 l) 0)) ∧ (∀ (v0 : (Prod Int (Prod Int Unit))), (((@LE.le Int _ 0 v0.2.1 ∧ @LE.le Int _ v0.2.1 (@Nat.cast (Pl.T (Pl.slot 4 I64)) _ (List.length l))) ∧ @Eq Bool (lightR l 0) (lightR (List.drop (Int.toNat v0.2.1) l) v0.1)) → (True ∧ True ∧ True ∧ True ∧ (@Eq Bool (@decide (@LT.lt Int _ v0.2.1 (@Nat.cast Int _ (List.length l))) (Int.decLt v0.2.1 (@Nat.cast Int _ (List.length l)))) true → (True ∧ True ∧ True ∧ (@LE.le Int _ 0 v0.2.1 ∧ @LE.le Int _ (@HAdd.hAdd Int Int Int _ v0.2.1 1) (@Nat.cast Int _ (List.length l))) ∧ True ∧ True ∧ True ∧ True ∧ True ∧ True ∧ True ∧ True ∧ (@LE.le Int _ 0 v0.2.1 ∧ @LE.le Int _ (@HAdd.hAdd Int Int Int _ v0.2.1 1) (@Nat.cast Int _ (List.length l))) ∧ True ∧ True ∧ True ∧ True ∧ True ∧ (@Eq Bool (@decide (@GT.gt Int _ (@Nat.cast Int _ (List.length (@elemAt ItemT l (Int.toNat v0.2.1)).2.2.2.2.2.1)) 12) (Int.decLt 12 (@Nat.cast Int _ (List.length (@elemAt ItemT l (Int.toNat v0.2.1)).2.2.2.2.2.1)))) false → True) ∧ (@Eq Bool (@decide (@GT.gt Int _ (@Nat.cast Int _ (List.length (@elemAt ItemT l (Int.toNat v0.2.1)).2.2.2.2.2.1)) 12) (Int.decLt 12 (@Nat.cast Int _ (List.length (@elemAt ItemT l (Int.toNat v0.2.1)).2.2.2.2.2.1)))) false → True) ∧ (@Eq Bool (@decide (@GT.gt Int _ (@Nat.cast Int _ (List.length (@elemAt ItemT l (Int.toNat v0.2.1)).2.2.2.2.2.1)) 12) (Int.decLt 12 (@Nat.cast Int _ (List.length (@elemAt ItemT l (Int.toNat v0.2.1)).2.2.2.2.2.1)))) false → (@LE.le Int _ 0 v0.2.1 ∧ @LE.le Int _ (@HAdd.hAdd Int Int Int _ v0.2.1 1) (@Nat.cast Int _ (List.length l)))) ∧ (@Eq Bool (@decide (@GT.gt Int _ (@Nat.cast Int _ (List.length (@elemAt ItemT l (Int.toNat v0.2.1)).2.2.2.2.2.1)) 12) (Int.decLt 12 (@Nat.cast Int _ (List.length (@elemAt ItemT l (Int.toNat v0.2.1)).2.2.2.2.2.1)))) false → True) ∧ (@Eq Bool (@decide (@GT.gt Int _ (@Nat.cast Int _ (List.length (@elemAt ItemT l (Int.toNat v0.2.1)).2.2.2.2.2.1)) 12) (Int.decLt 12 (@Nat.cast Int _ (List.length (@elemAt ItemT l (Int.toNat v0.2.1)).2.2.2.2.2.1)))) false → True) ∧ (@Eq Bool (@decide (@GT.gt Int _ (@Nat.cast Int _ (List.length (@elemAt ItemT l (Int.toNat v0.2.1)).2.2.2.2.2.1)) 12) (Int.decLt 12 (@Nat.cast Int _ (List.length (@elemAt ItemT l (Int.toNat v0.2.1)).2.2.2.2.2.1)))) false → True) ∧ (@Eq Bool (@decide (@GT.gt Int _ (@Nat.cast Int _ (List.length (@elemAt ItemT l (Int.toNat v0.2.1)).2.2.2.2.2.1)) 12) (Int.decLt 12 (@Nat.cast Int _ (List.length (@elemAt ItemT l (Int.toNat v0.2.1)).2.2.2.2.2.1)))) false → True) ∧ True ∧ True ∧ (@Eq Bool (or (@decide (@GT.gt Int _ (@Nat.cast Int _ (List.length (@elemAt ItemT l (Int.toNat v0.2.1)).2.2.2.2.2.1)) 12) (Int.decLt 12 (@Nat.cast Int _ (List.length (@elemAt ItemT l (Int.toNat v0.2.1)).2.2.2.2.2.1)))) (@decide (@GT.gt Int _ (@Nat.cast Int _ (List.length (@elemAt ItemT l (Int.toNat v0.2.1)).2.2.2.2.2.2)) 12) (Int.decLt 12 (@Nat.cast Int _ (List.length (@elemAt ItemT l (Int.toNat v0.2.1)).2.2.2.2.2.2))))) false → True) ∧ (@Eq Bool (or (@decide (@GT.gt Int _ (@Nat.cast Int _ (List.length (@elemAt ItemT l (Int.toNat v0.2.1)).2.2.2.2.2.1)) 12) (Int.decLt 12 (@Nat.cast Int _ (List.length (@elemAt ItemT l (Int.toNat v0.2.1)).2.2.2.2.2.1)))) (@decide (@GT.gt Int _ (@Nat.cast Int _ (List.length (@elemAt ItemT l (Int.toNat v0.2.1)).2.2.2.2.2.2)) 12) (Int.decLt 12 (@Nat.cast Int _ (List.length (@elemAt ItemT l (Int.toNat v0.2.1)).2.2.2.2.2.2))))) false → True) ∧ True ∧ (@Eq Bool (or (or (@decide (@GT.gt Int _ (@Nat.cast Int _ (List.length (@elemAt ItemT l (Int.toNat v0.2.1)).2.2.2.2.2.1)) 12) (Int.decLt 12 (@Nat.cast Int _ (List.length (@elemAt ItemT l (Int.toNat v0.2.1)).2.2.2.2.2.1)))) (@decide (@GT.gt Int _ (@Nat.cast Int _ (List.length (@elemAt ItemT l (Int.toNat v0.2.1)).2.2.2.2.2.2)) 12) (Int.decLt 12 (@Nat.cast Int _ (List.length (@elemAt ItemT l (Int.toNat v0.2.1)).2.2.2.2.2.2))))) (@decide (@GT.gt Int _ (IntKind.i64.wrap (@HAdd.hAdd Int Int Int _ v0.1 (@Nat.cast Int _ (List.length (@elemAt ItemT l (Int.toNat v0.2.1)).2.2.2.2.1.2.2)))) 1500) (Int.decLt 1500 (IntKind.i64.wrap (@HAdd.hAdd Int Int Int _ v0.1 (@Nat.cast Int _ (List.length (@elemAt ItemT l (Int.toNat v0.2.1)).2.2.2.2.1.2.2))))))) true → (True ∧ (True ∧ True) ∧ @Eq Bool false (lightL l))) ∧ (@Eq Bool (or (or (@decide (@GT.gt Int _ (@Nat.cast Int _ (List.length (@elemAt ItemT l (Int.toNat v0.2.1)).2.2.2.2.2.1)) 12) (Int.decLt 12 (@Nat.cast Int _ (List.length (@elemAt ItemT l (Int.toNat v0.2.1)).2.2.2.2.2.1)))) (@decide (@GT.gt Int _ (@Nat.cast Int _ (List.length (@elemAt ItemT l (Int.toNat v0.2.1)).2.2.2.2.2.2)) 12) (Int.decLt 12 (@Nat.cast Int _ (List.length (@elemAt ItemT l (Int.toNat v0.2.1)).2.2.2.2.2.2))))) (@decide (@GT.gt Int _ (IntKind.i64.wrap (@HAdd.hAdd Int Int Int _ v0.1 (@Nat.cast Int _ (List.length (@elemAt ItemT l (Int.toNat v0.2.1)).2.2.2.2.1.2.2)))) 1500) (Int.decLt 1500 (IntKind.i64.wrap (@HAdd.hAdd Int Int Int _ v0.1 (@Nat.cast Int _ (List.length (@elemAt ItemT l (Int.toNat v0.2.1)).2.2.2.2.1.2.2))))))) false → (True ∧ True ∧ True ∧ (True ∧ (@Eq Int (IntKind.i64.wrap (@HAdd.hAdd Int Int Int _ v0.2.1 1)) (IntKind.i64.wrap (@HAdd.hAdd Int Int Int _ v0.2.1 1)) ∧ @Eq Int (IntKind.i64.wrap (@HAdd.hAdd Int Int Int _ v0.1 (@Nat.cast Int _ (List.length (@elemAt ItemT l (Int.toNat v0.2.1)).2.2.2.2.1.2.2)))) (IntKind.i64.wrap (@HAdd.hAdd Int Int Int _ v0.1 (@Nat.cast Int _ (List.length (@elemAt ItemT l (Int.toNat v0.2.1)).2.2.2.2.1.2.2)))) ∧ @Eq Bool (@decide (@GT.gt Int _ (@Nat.cast Int _ (List.length l)) 140) (Int.decLt 140 (@Nat.cast Int _ (List.length l)))) (@decide (@GT.gt Int _ (@Nat.cast Int _ (List.length l)) 140) (Int.decLt 140 (@Nat.cast Int _ (List.length l)))) ∧ @Eq Int (@Nat.cast Int _ (List.length l)) (@Nat.cast Int _ (List.length l)) ∧ @Eq _ l l ∧ @Eq _ l l ∧ True) ∧ True) ∧ ((@LE.le Int _ 0 (IntKind.i64.wrap (@HAdd.hAdd Int Int Int _ v0.2.1 1)) ∧ @LE.le Int _ (IntKind.i64.wrap (@HAdd.hAdd Int Int Int _ v0.2.1 1)) (@Nat.cast (Pl.T (Pl.slot 4 I64)) _ (List.length l))) ∧ @Eq Bool (lightR l 0) (lightR (List.drop (Int.toNat (IntKind.i64.wrap (@HAdd.hAdd Int Int Int _ v0.2.1 1))) l) (IntKind.i64.wrap (@HAdd.hAdd Int Int Int _ v0.1 (@Nat.cast Int _ (List.length (@elemAt ItemT l (Int.toNat v0.2.1)).2.2.2.2.1.2.2)))))) ∧ @LT.lt Nat _ (Int.toNat (@HSub.hSub Int Int Int _ (@Nat.cast Int _ (List.length l)) (IntKind.i64.wrap (@HAdd.hAdd Int Int Int _ v0.2.1 1)))) (Int.toNat (@HSub.hSub Int Int Int _ (@Nat.cast Int _ (List.length l)) v0.2.1)))))) ∧ (@Eq Bool (@decide (@LT.lt Int _ v0.2.1 (@Nat.cast Int _ (List.length l))) (Int.decLt v0.2.1 (@Nat.cast Int _ (List.length l)))) false → (True ∧ (True ∧ True) ∧ @Eq Bool true (lightL l)))))))))) (by kernel_rfl) ?_
  simp only [true_and, and_true, decide_eq_true_eq, decide_eq_false_iff_not, forall_const, implies_true, and_self]
  have hlen := hi.1
  refine ⟨fun h => ?_, fun h => ⟨⟨⟨by omega, by omega⟩, rfl⟩, ?_⟩⟩
  · have : decide ((List.length l : Int) ≤ 140) = false := by rw [decide_eq_false_iff_not]; omega
    simp [lightL, this]
  have h140 : decide ((List.length l : Int) ≤ 140) = true := by rw [decide_eq_true_eq]; omega
  rintro ⟨n, i, _⟩ ⟨⟨g0, g1⟩, hr⟩
  simp only at g0 g1 hr ⊢
  refine ⟨fun hlt => ?_, fun hlt => ?_⟩
  · have hl2 : i.toNat < List.length l := by omega
    rw [drop_item hl2, lightR] at hr
    have hw : IntKind.i64.wrap (i + 1) = i + 1 := wrap_in (by omega)
    refine ⟨⟨by omega, by omega⟩, ⟨by omega, by omega⟩, fun _ => ⟨by omega, by omega⟩, fun hb => ?_, fun hb => ⟨⟨⟨by omega, by omega⟩, ?_⟩, by omega⟩⟩
    · rw [lightL, hr, lightN]
      rw [show ∀ a b : Int, decide (a > b) = decide (b < a) from fun _ _ => rfl, show ∀ a b : Int, decide (a > b) = decide (b < a) from fun _ _ => rfl, show ∀ a b : Int, decide (a > b) = decide (b < a) from fun _ _ => rfl] at hb
      rw [hb]
      simp
    · rw [hr, lightN]
      rw [show ∀ a b : Int, decide (a > b) = decide (b < a) from fun _ _ => rfl, show ∀ a b : Int, decide (a > b) = decide (b < a) from fun _ _ => rfl, show ∀ a b : Int, decide (a > b) = decide (b < a) from fun _ _ => rfl] at hb
      rw [hb, hw, show (i + 1).toNat = i.toNat + 1 by omega]
      rfl
  · rw [List.drop_of_length_le (by omega)] at hr
    rw [lightL, h140, hr]
    rfl
abbrev K56 : KCons := (9, fun Γc => pure_ Γc ((pcon [.d (.list ItemT)] fun x => (ItemsOk x.1, .bool (lightL x.1))))) :: K55
theorem HK56 : KS Try.prog K56 := ks_add (ksound_pure (s_r25Light)) HK55
def sameBuf (a b : Buf) : Bool := decide (a = b)
end Go.Proofs.Ytogbocplojbdjaa
