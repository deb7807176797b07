/-
  A part of the proof: what some of the program's functions compute.
-/
import Derived.Test.YtogbocplojbdjaaGreatVNA
namespace Go.Proofs.YtogbocplojbdjaaGreat
open Go Go.E Go.Proofs
set_option linter.unusedVariables false
set_option linter.unusedSimpArgs false
theorem addS_even (l : List Int) (x0 x1 : Int) (k : Nat) : (addS l x0 x1 k).1.length % 2 = 0 ∧ (addS l x0 x1 k).2.1.length % 2 = 0 := by
  have : ∀ (ps : List (Int × Int)) (s : List Int × List Int × Int × Int), s.1.length % 2 = 0 ∧ s.2.1.length % 2 = 0 → (ps.foldl addStep s).1.length % 2 = 0 ∧ (ps.foldl addStep s).2.1.length % 2 = 0 := by
    intro ps
    induction ps with
    | nil => intro s h; exact h
    | cons p r ih =>
      intro s h
      rw [List.foldl_cons]
      refine ih _ ?_
      unfold addStep
      split
      · simp; omega
      · split
        · simp; omega
        · exact h
  exact this _ _ ⟨rfl, rfl⟩
theorem addL_len {l : List Int} {x0 x1 : Int} (h : l.length % 2 = 0) : (addL l x0 x1).length ≤ l.length + 2 ∧ (addL l x0 x1).length % 2 = 0 := by
  have h1 := addS_even l x0 x1 l.length
  have h2 : addS l x0 x1 l.length = addS l x0 x1 (l.length / 2) := by
    unfold addS
    rw [List.take_of_length_le (by rw [pairsOf_len]; omega), List.take_of_length_le (by rw [pairsOf_len]; omega)]
  have h3 := addS_len l x0 x1 (l.length / 2)
  rw [← h2] at h3
  unfold addL
  simp
  omega
def hitR (y : Int) (r : Rect) : Bool := usableR r && decide (r.2.1 ≤ y) && decide (y < r.2.2.2)
def rowStep (y : Int) (out : List Int) (r : Rect) : List Int := if hitR y r = true then addL out r.1 r.2.2.1 else out
def rowL (l : List Rect) (y : Int) : List Int := l.foldl (rowStep y) []
theorem rowL_step {l : List Rect} {y : Int} {i : Nat} (h : i < l.length) : rowL (l.take (i + 1)) y = rowStep y (rowL (l.take i) y) (elemAt (t := RectT) l i) := by
  unfold rowL
  rw [List.take_add_one, elemAt_get (t := RectT) l i h, List.foldl_append]
  rfl
theorem rowL_len (l : List Rect) (y : Int) : (rowL l y).length ≤ 2 * l.length ∧ (rowL l y).length % 2 = 0 := by
  have : ∀ (l : List Rect) (o : List Int), o.length % 2 = 0 → (l.foldl (rowStep y) o).length ≤ o.length + 2 * l.length ∧ (l.foldl (rowStep y) o).length % 2 = 0 := by
    intro l
    induction l with
    | nil => intro o h; exact ⟨by simp, h⟩
    | cons r rs ih =>
      intro o h
      rw [List.foldl_cons]
      have hs : (rowStep y o r).length ≤ o.length + 2 ∧ (rowStep y o r).length % 2 = 0 := by
        unfold rowStep
        split
        · exact addL_len h
        · exact ⟨by omega, h⟩
      have h2 := ih _ hs.2
      simp only [List.length_cons]
      exact ⟨by omega, h2.2⟩
  have h := this l [] rfl
  exact ⟨by simpa [rowL] using h.1, h.2⟩
theorem s_r5row : PSound Tryz.prog 88 (pcon [.d (.list RectT), .d I64] fun x => (x.1.length ≤ 100000, .own I64 (rowL x.1 x.2.1))) := by
  refine psoundF (K := K21) (Γc := C9) (Γr := R0) (fun x => [(3, annP [.slot 6 I64, .own 5 I64] (fun _ y => (0 ≤ y.1 ∧ y.1 ≤ x.1.length) ∧ y.2.1 = rowL (x.1.take y.1.toNat) x.2.1) (fun y => (x.1.length - y.1 : Int).toNat))]) hm HK21 HC9 HR0 Tryz.call88 Tryz.func88 (by kernel_rfl) ?_
  rintro ⟨l, y, _⟩ hx
  have hx : l.length ≤ 100000 := hx
  refine Eq.mpr (β := (True ∧ True ∧ True ∧ ((True ∧ (@Eq Int 0 0 ∧ True ∧ True ∧ @Eq _ l l ∧ @Eq Int y y ∧ True) ∧ @Eq _ ([] : List (Ty.T I64)) ([] : List (Ty.T I64)) ∧ True) ∧ (@LE.le Int _ 0 0 ∧ @LE.le Int _ 0 (@Nat.cast (Pl.T (Pl.slot 6 I64)) _ (List.length l))) ∧ @Eq _ ([] : List (Ty.T I64)) (rowL (List.take 0 l) y)) ∧ (∀ (v0 : (Prod Int (Prod (List Int) Unit))), (((@LE.le Int _ 0 v0.1 ∧ @LE.le Int _ v0.1 (@Nat.cast (Pl.T (Pl.slot 6 I64)) _ (List.length l))) ∧ @Eq _ v0.2.1 (rowL (List.take (Int.toNat v0.1) l) y)) → (True ∧ True ∧ True ∧ True ∧ (@Eq Bool (@decide (@LT.lt Int _ v0.1 (@Nat.cast Int _ (List.length l))) (Int.decLt v0.1 (@Nat.cast Int _ (List.length l)))) true → (True ∧ True ∧ (@LE.le Int _ 0 v0.1 ∧ @LE.le Int _ (@HAdd.hAdd Int Int Int _ v0.1 1) (@Nat.cast Int _ (List.length l))) ∧ True ∧ True ∧ True ∧ (@Eq Bool (usableR (@elemAt RectT l (Int.toNat v0.1))) true → True) ∧ (@Eq Bool (usableR (@elemAt RectT l (Int.toNat v0.1))) true → True) ∧ (@Eq Bool (usableR (@elemAt RectT l (Int.toNat v0.1))) true → (@LE.le Int _ 0 v0.1 ∧ @LE.le Int _ (@HAdd.hAdd Int Int Int _ v0.1 1) (@Nat.cast Int _ (List.length l)))) ∧ (@Eq Bool (usableR (@elemAt RectT l (Int.toNat v0.1))) true → True) ∧ (@Eq Bool (usableR (@elemAt RectT l (Int.toNat v0.1))) true → True) ∧ (@Eq Bool (usableR (@elemAt RectT l (Int.toNat v0.1))) true → True) ∧ (@Eq Bool (usableR (@elemAt RectT l (Int.toNat v0.1))) true → True) ∧ True ∧ True ∧ (@Eq Bool (and (usableR (@elemAt RectT l (Int.toNat v0.1))) (@decide (@LE.le Int _ (@elemAt RectT l (Int.toNat v0.1)).2.1 y) (Int.decLe (@elemAt RectT l (Int.toNat v0.1)).2.1 y))) true → True) ∧ (@Eq Bool (and (usableR (@elemAt RectT l (Int.toNat v0.1))) (@decide (@LE.le Int _ (@elemAt RectT l (Int.toNat v0.1)).2.1 y) (Int.decLe (@elemAt RectT l (Int.toNat v0.1)).2.1 y))) true → True) ∧ (@Eq Bool (and (usableR (@elemAt RectT l (Int.toNat v0.1))) (@decide (@LE.le Int _ (@elemAt RectT l (Int.toNat v0.1)).2.1 y) (Int.decLe (@elemAt RectT l (Int.toNat v0.1)).2.1 y))) true → True) ∧ (@Eq Bool (and (usableR (@elemAt RectT l (Int.toNat v0.1))) (@decide (@LE.le Int _ (@elemAt RectT l (Int.toNat v0.1)).2.1 y) (Int.decLe (@elemAt RectT l (Int.toNat v0.1)).2.1 y))) true → (@LE.le Int _ 0 v0.1 ∧ @LE.le Int _ (@HAdd.hAdd Int Int Int _ v0.1 1) (@Nat.cast Int _ (List.length l)))) ∧ (@Eq Bool (and (usableR (@elemAt RectT l (Int.toNat v0.1))) (@decide (@LE.le Int _ (@elemAt RectT l (Int.toNat v0.1)).2.1 y) (Int.decLe (@elemAt RectT l (Int.toNat v0.1)).2.1 y))) true → True) ∧ (@Eq Bool (and (usableR (@elemAt RectT l (Int.toNat v0.1))) (@decide (@LE.le Int _ (@elemAt RectT l (Int.toNat v0.1)).2.1 y) (Int.decLe (@elemAt RectT l (Int.toNat v0.1)).2.1 y))) true → True) ∧ (@Eq Bool (and (usableR (@elemAt RectT l (Int.toNat v0.1))) (@decide (@LE.le Int _ (@elemAt RectT l (Int.toNat v0.1)).2.1 y) (Int.decLe (@elemAt RectT l (Int.toNat v0.1)).2.1 y))) true → True) ∧ True ∧ (@Eq Bool (and (and (usableR (@elemAt RectT l (Int.toNat v0.1))) (@decide (@LE.le Int _ (@elemAt RectT l (Int.toNat v0.1)).2.1 y) (Int.decLe (@elemAt RectT l (Int.toNat v0.1)).2.1 y))) (@decide (@LT.lt Int _ y (@elemAt RectT l (Int.toNat v0.1)).2.2.2) (Int.decLt y (@elemAt RectT l (Int.toNat v0.1)).2.2.2))) true → ((True ∧ True ∧ True ∧ (@LE.le Int _ 0 v0.1 ∧ @LE.le Int _ (@HAdd.hAdd Int Int Int _ v0.1 1) (@Nat.cast Int _ (List.length l))) ∧ True ∧ True ∧ True ∧ True ∧ (@LE.le Int _ 0 v0.1 ∧ @LE.le Int _ (@HAdd.hAdd Int Int Int _ v0.1 1) (@Nat.cast Int _ (List.length l))) ∧ True ∧ True ∧ (@LE.le Nat _ (List.length v0.2.1) 1000000 ∧ @Eq Nat (@HMod.hMod Nat Nat Nat _ (List.length v0.2.1) 2) 0) ∧ True ∧ True) ∧ True ∧ True ∧ True ∧ (True ∧ (@Eq Int (IntKind.i64.wrap (@HAdd.hAdd Int Int Int _ v0.1 1)) (IntKind.i64.wrap (@HAdd.hAdd Int Int Int _ v0.1 1)) ∧ True ∧ True ∧ @Eq _ l l ∧ @Eq Int y y ∧ True) ∧ @Eq _ (addL v0.2.1 (@elemAt RectT l (Int.toNat v0.1)).1 (@elemAt RectT l (Int.toNat v0.1)).2.2.1) (addL v0.2.1 (@elemAt RectT l (Int.toNat v0.1)).1 (@elemAt RectT l (Int.toNat v0.1)).2.2.1) ∧ True) ∧ ((@LE.le Int _ 0 (IntKind.i64.wrap (@HAdd.hAdd Int Int Int _ v0.1 1)) ∧ @LE.le Int _ (IntKind.i64.wrap (@HAdd.hAdd Int Int Int _ v0.1 1)) (@Nat.cast (Pl.T (Pl.slot 6 I64)) _ (List.length l))) ∧ @Eq _ (addL v0.2.1 (@elemAt RectT l (Int.toNat v0.1)).1 (@elemAt RectT l (Int.toNat v0.1)).2.2.1) (rowL (List.take (Int.toNat (IntKind.i64.wrap (@HAdd.hAdd Int Int Int _ v0.1 1))) l) y)) ∧ @LT.lt Nat _ (Int.toNat (@HSub.hSub Int Int Int _ (@Nat.cast Int _ (List.length l)) (IntKind.i64.wrap (@HAdd.hAdd Int Int Int _ v0.1 1)))) (Int.toNat (@HSub.hSub Int Int Int _ (@Nat.cast Int _ (List.length l)) v0.1)))) ∧ (@Eq Bool (and (and (usableR (@elemAt RectT l (Int.toNat v0.1))) (@decide (@LE.le Int _ (@elemAt RectT l (Int.toNat v0.1)).2.1 y) (Int.decLe (@elemAt RectT l (Int.toNat v0.1)).2.1 y))) (@decide (@LT.lt Int _ y (@elemAt RectT l (Int.toNat v0.1)).2.2.2) (Int.decLt y (@elemAt RectT l (Int.toNat v0.1)).2.2.2))) false → (True ∧ True ∧ True ∧ (True ∧ (@Eq Int (IntKind.i64.wrap (@HAdd.hAdd Int Int Int _ v0.1 1)) (IntKind.i64.wrap (@HAdd.hAdd Int Int Int _ v0.1 1)) ∧ True ∧ True ∧ @Eq _ l l ∧ @Eq Int y y ∧ True) ∧ @Eq _ v0.2.1 v0.2.1 ∧ True) ∧ ((@LE.le Int _ 0 (IntKind.i64.wrap (@HAdd.hAdd Int Int Int _ v0.1 1)) ∧ @LE.le Int _ (IntKind.i64.wrap (@HAdd.hAdd Int Int Int _ v0.1 1)) (@Nat.cast (Pl.T (Pl.slot 6 I64)) _ (List.length l))) ∧ @Eq _ v0.2.1 (rowL (List.take (Int.toNat (IntKind.i64.wrap (@HAdd.hAdd Int Int Int _ v0.1 1))) l) y)) ∧ @LT.lt Nat _ (Int.toNat (@HSub.hSub Int Int Int _ (@Nat.cast Int _ (List.length l)) (IntKind.i64.wrap (@HAdd.hAdd Int Int Int _ v0.1 1)))) (Int.toNat (@HSub.hSub Int Int Int _ (@Nat.cast Int _ (List.length l)) v0.1)))))) ∧ (@Eq Bool (@decide (@LT.lt Int _ v0.1 (@Nat.cast Int _ (List.length l))) (Int.decLt v0.1 (@Nat.cast Int _ (List.length l)))) false → (True ∧ True ∧ (True ∧ True) ∧ @Eq _ v0.2.1 (rowL l y)))))))) (by kernel_rfl) ?_
  simp only [true_and, and_true, decide_eq_true_eq, decide_eq_false_iff_not, forall_const, implies_true, and_self]
  refine ⟨⟨⟨by omega, Int.natCast_nonneg _⟩, rfl⟩, ?_⟩
  rintro ⟨i, out, _⟩ ⟨⟨h0, h1⟩, he⟩
  simp only at h0 h1 he ⊢
  refine ⟨fun hi => ?_, fun hi => ?_⟩
  · have hst := rowL_step (y := y) (l := l) (i := i.toNat) (by omega)
    have hlen := rowL_len (l.take i.toNat) y
    rw [← he] at hst hlen
    rw [List.length_take] at hlen
    rw [wrap_in (by omega), show (i + 1).toNat = i.toNat + 1 by omega, hst]
    refine ⟨⟨h0, by omega⟩, fun _ => ⟨h0, by omega⟩, fun _ => ⟨h0, by omega⟩, fun hc => ⟨⟨⟨h0, by omega⟩, ⟨h0, by omega⟩, by omega, hlen.2⟩, ⟨⟨by omega, by omega⟩, ?_⟩, by omega⟩, fun hc => ⟨⟨⟨by omega, by omega⟩, ?_⟩, by omega⟩⟩
    · unfold rowStep
      rw [if_pos (show hitR y _ = true from hc)]
    · unfold rowStep
      rw [if_neg (by rw [hitR, hc]; decide)]
  · rw [he, List.take_of_length_le (by omega)]
abbrev K22 : KCons := (88, fun Γc => pure_ Γc ((pcon [.d (.list RectT), .d I64] fun x => (x.1.length ≤ 100000, .own I64 (rowL x.1 x.2.1))))) :: K21
theorem HK22 : KS Tryz.prog K22 := ks_add (ksound_pure (s_r5row)) HK21
def insAll (xs l : List Int) : List Int := l.foldl (fun xs n => insL n xs) xs
theorem insAll_step {xs l : List Int} {i : Nat} (h : i < l.length) : insAll xs (l.take (i + 1)) = insL (elemAt (t := I64) l i) (insAll xs (l.take i)) := by
  unfold insAll
  rw [List.take_add_one, elemAt_get (t := I64) l i h, List.foldl_append]
  rfl
theorem insAll_len : ∀ (l xs : List Int), (insAll xs l).length ≤ xs.length + l.length
  | [], xs => by simp [insAll]
  | n :: r, xs => by
    have h1 := insAll_len r (insL n xs)
    have h2 := insL_len n xs
    unfold insAll at *
    rw [List.foldl_cons]
    simp only [List.length_cons]
    omega
def modeB (m : Int) (x y : Bool) : Bool := m == 1 && (x || y) || m == 2 && x && y || m == 3 && x && !y
def xsOf (a b : List Int) : List Int := insAll (insAll [] a) b
def mergeStep (a b : List Int) (m : Int) (out : List Int) (i : Nat) : List Int :=
  if modeB m (inL a (elemAt (t := I64) (xsOf a b) i)) (inL b (elemAt (t := I64) (xsOf a b) i)) = true then addL out (elemAt (t := I64) (xsOf a b) i) (elemAt (t := I64) (xsOf a b) (i + 1)) else out
def mergeK (a b : List Int) (m : Int) (k : Nat) : List Int := (List.range k).foldl (mergeStep a b m) []
theorem mergeK_step (a b : List Int) (m : Int) (k : Nat) : mergeK a b m (k + 1) = mergeStep a b m (mergeK a b m k) k := by
  unfold mergeK
  rw [List.range_succ, List.foldl_append]
  rfl
theorem mergeK_len (a b : List Int) (m : Int) : ∀ k, (mergeK a b m k).length ≤ 2 * k ∧ (mergeK a b m k).length % 2 = 0
  | 0 => by simp [mergeK]
  | k + 1 => by
    have h := mergeK_len a b m k
    rw [mergeK_step]
    unfold mergeStep
    split
    · have := addL_len (x0 := elemAt (t := I64) (xsOf a b) k) (x1 := elemAt (t := I64) (xsOf a b) (k + 1)) h.2
      omega
    · omega
def mergedL (a b : List Int) (m : Int) : List Int := mergeK a b m ((xsOf a b).length - 1)
theorem s_r5merged : PSound Tryz.prog 87 (pcon [.d (.list I64), .d (.list I64), .d I64] fun x => ((x.1.length ≤ 200000 ∧ x.1.length % 2 = 0) ∧ x.2.1.length ≤ 200000 ∧ x.2.1.length % 2 = 0, .own I64 (mergedL x.1 x.2.1 x.2.2.1))) := by
  refine psoundF (K := K22) (Γc := C9) (Γr := R0) (fun x => [(3, annP [.slot 9 I64, .own 7 I64] (fun _ y => (0 ≤ y.1 ∧ y.1 ≤ x.1.length) ∧ y.2.1 = insAll [] (x.1.take y.1.toNat)) (fun y => (x.1.length - y.1 : Int).toNat)),
    (7, annP [.slot 10 I64, .own 7 I64] (fun _ y => (0 ≤ y.1 ∧ y.1 ≤ x.2.1.length) ∧ y.2.1 = insAll (insAll [] x.1) (x.2.1.take y.1.toNat)) (fun y => (x.2.1.length - y.1 : Int).toNat)),
    (11, annP [.slot 11 I64, .own 8 I64, .own 7 I64] (fun _ y => (0 ≤ y.1 ∧ y.1 ≤ (xsOf x.1 x.2.1).length) ∧ y.2.1 = mergeK x.1 x.2.1 x.2.2.1 y.1.toNat ∧ y.2.2.1 = xsOf x.1 x.2.1 ∧ (0 < y.1 → y.1 + 1 ≤ (xsOf x.1 x.2.1).length)) (fun y => ((xsOf x.1 x.2.1).length - y.1 : Int).toNat))]) hm HK22 HC9 HR0 Tryz.call87 Tryz.func87 (by kernel_rfl) ?_
  rintro ⟨a, b, m, _⟩ hx
  obtain ⟨⟨ha, ea⟩, hb, eb⟩ : (a.length ≤ 200000 ∧ a.length % 2 = 0) ∧ b.length ≤ 200000 ∧ b.length % 2 = 0 := hx
  refine Eq.mpr (β := (True ∧ True ∧ True ∧ True ∧ ((True ∧ (@Eq Int 0 0 ∧ True ∧ True ∧ True ∧ @Eq _ a a ∧ @Eq _ b b ∧ @Eq Int m m ∧ True) ∧ @Eq _ ([] : List (Ty.T I64)) ([] : List (Ty.T I64)) ∧ True) ∧ (@LE.le Int _ 0 0 ∧ @LE.le Int _ 0 (@Nat.cast (Pl.T (Pl.slot 9 I64)) _ (List.length a))) ∧ @Eq _ ([] : List (Ty.T I64)) (insAll ([] : List Int) (List.take 0 a))) ∧ (∀ (v0 : (Prod Int (Prod (List Int) Unit))), (((@LE.le Int _ 0 v0.1 ∧ @LE.le Int _ v0.1 (@Nat.cast (Pl.T (Pl.slot 9 I64)) _ (List.length a))) ∧ @Eq _ v0.2.1 (insAll ([] : List Int) (List.take (Int.toNat v0.1) a))) → (True ∧ True ∧ True ∧ True ∧ (@Eq Bool (@decide (@LT.lt Int _ v0.1 (@Nat.cast Int _ (List.length a))) (Int.decLt v0.1 (@Nat.cast Int _ (List.length a)))) true → (True ∧ True ∧ True ∧ (@LE.le Int _ 0 v0.1 ∧ @LE.le Int _ (@HAdd.hAdd Int Int Int _ v0.1 1) (@Nat.cast Int _ (List.length a))) ∧ True ∧ @LE.le Nat _ (List.length v0.2.1) 1000000 ∧ True ∧ True ∧ True ∧ True ∧ (True ∧ (@Eq Int (IntKind.i64.wrap (@HAdd.hAdd Int Int Int _ v0.1 1)) (IntKind.i64.wrap (@HAdd.hAdd Int Int Int _ v0.1 1)) ∧ True ∧ True ∧ True ∧ @Eq _ a a ∧ @Eq _ b b ∧ @Eq Int m m ∧ True) ∧ @Eq _ (insL (@elemAt I64 a (Int.toNat v0.1)) v0.2.1) (insL (@elemAt I64 a (Int.toNat v0.1)) v0.2.1) ∧ True) ∧ ((@LE.le Int _ 0 (IntKind.i64.wrap (@HAdd.hAdd Int Int Int _ v0.1 1)) ∧ @LE.le Int _ (IntKind.i64.wrap (@HAdd.hAdd Int Int Int _ v0.1 1)) (@Nat.cast (Pl.T (Pl.slot 9 I64)) _ (List.length a))) ∧ @Eq _ (insL (@elemAt I64 a (Int.toNat v0.1)) v0.2.1) (insAll ([] : List Int) (List.take (Int.toNat (IntKind.i64.wrap (@HAdd.hAdd Int Int Int _ v0.1 1))) a))) ∧ @LT.lt Nat _ (Int.toNat (@HSub.hSub Int Int Int _ (@Nat.cast Int _ (List.length a)) (IntKind.i64.wrap (@HAdd.hAdd Int Int Int _ v0.1 1)))) (Int.toNat (@HSub.hSub Int Int Int _ (@Nat.cast Int _ (List.length a)) v0.1)))) ∧ (@Eq Bool (@decide (@LT.lt Int _ v0.1 (@Nat.cast Int _ (List.length a))) (Int.decLt v0.1 (@Nat.cast Int _ (List.length a)))) false → (True ∧ ((True ∧ (@Eq Int 0 0 ∧ @Eq Bool (@decide (@LT.lt Int _ v0.1 (@Nat.cast Int _ (List.length a))) (Int.decLt v0.1 (@Nat.cast Int _ (List.length a)))) (@decide (@LT.lt Int _ v0.1 (@Nat.cast Int _ (List.length a))) (Int.decLt v0.1 (@Nat.cast Int _ (List.length a)))) ∧ @Eq Int (@Nat.cast Int _ (List.length a)) (@Nat.cast Int _ (List.length a)) ∧ @Eq _ a a ∧ @Eq Int v0.1 v0.1 ∧ @Eq Int v0.1 v0.1 ∧ True ∧ True ∧ True ∧ @Eq _ a a ∧ @Eq _ b b ∧ @Eq Int m m ∧ True) ∧ @Eq _ v0.2.1 v0.2.1 ∧ True) ∧ (@LE.le Int _ 0 0 ∧ @LE.le Int _ 0 (@Nat.cast (Pl.T (Pl.slot 10 I64)) _ (List.length b))) ∧ @Eq _ v0.2.1 (insAll (insAll ([] : List Int) a) (List.take (Int.toNat 0) b))) ∧ (∀ (v1 : (Prod Int (Prod (List Int) Unit))), (((@LE.le Int _ 0 v1.1 ∧ @LE.le Int _ v1.1 (@Nat.cast (Pl.T (Pl.slot 10 I64)) _ (List.length b))) ∧ @Eq _ v1.2.1 (insAll (insAll ([] : List Int) a) (List.take (Int.toNat v1.1) b))) → (True ∧ True ∧ True ∧ True ∧ (@Eq Bool (@decide (@LT.lt Int _ v1.1 (@Nat.cast Int _ (List.length b))) (Int.decLt v1.1 (@Nat.cast Int _ (List.length b)))) true → (True ∧ True ∧ True ∧ (@LE.le Int _ 0 v1.1 ∧ @LE.le Int _ (@HAdd.hAdd Int Int Int _ v1.1 1) (@Nat.cast Int _ (List.length b))) ∧ True ∧ @LE.le Nat _ (List.length v1.2.1) 1000000 ∧ True ∧ True ∧ True ∧ True ∧ (True ∧ (@Eq Int (IntKind.i64.wrap (@HAdd.hAdd Int Int Int _ v1.1 1)) (IntKind.i64.wrap (@HAdd.hAdd Int Int Int _ v1.1 1)) ∧ @Eq Bool (@decide (@LT.lt Int _ v0.1 (@Nat.cast Int _ (List.length a))) (Int.decLt v0.1 (@Nat.cast Int _ (List.length a)))) (@decide (@LT.lt Int _ v0.1 (@Nat.cast Int _ (List.length a))) (Int.decLt v0.1 (@Nat.cast Int _ (List.length a)))) ∧ @Eq Int (@Nat.cast Int _ (List.length a)) (@Nat.cast Int _ (List.length a)) ∧ @Eq _ a a ∧ @Eq Int v0.1 v0.1 ∧ @Eq Int v0.1 v0.1 ∧ True ∧ True ∧ True ∧ @Eq _ a a ∧ @Eq _ b b ∧ @Eq Int m m ∧ True) ∧ @Eq _ (insL (@elemAt I64 b (Int.toNat v1.1)) v1.2.1) (insL (@elemAt I64 b (Int.toNat v1.1)) v1.2.1) ∧ True) ∧ ((@LE.le Int _ 0 (IntKind.i64.wrap (@HAdd.hAdd Int Int Int _ v1.1 1)) ∧ @LE.le Int _ (IntKind.i64.wrap (@HAdd.hAdd Int Int Int _ v1.1 1)) (@Nat.cast (Pl.T (Pl.slot 10 I64)) _ (List.length b))) ∧ @Eq _ (insL (@elemAt I64 b (Int.toNat v1.1)) v1.2.1) (insAll (insAll ([] : List Int) a) (List.take (Int.toNat (IntKind.i64.wrap (@HAdd.hAdd Int Int Int _ v1.1 1))) b))) ∧ @LT.lt Nat _ (Int.toNat (@HSub.hSub Int Int Int _ (@Nat.cast Int _ (List.length b)) (IntKind.i64.wrap (@HAdd.hAdd Int Int Int _ v1.1 1)))) (Int.toNat (@HSub.hSub Int Int Int _ (@Nat.cast Int _ (List.length b)) v1.1)))) ∧ (@Eq Bool (@decide (@LT.lt Int _ v1.1 (@Nat.cast Int _ (List.length b))) (Int.decLt v1.1 (@Nat.cast Int _ (List.length b)))) false → (True ∧ ((True ∧ (@Eq Int 0 0 ∧ @Eq Bool (@decide (@LT.lt Int _ v1.1 (@Nat.cast Int _ (List.length b))) (Int.decLt v1.1 (@Nat.cast Int _ (List.length b)))) (@decide (@LT.lt Int _ v1.1 (@Nat.cast Int _ (List.length b))) (Int.decLt v1.1 (@Nat.cast Int _ (List.length b)))) ∧ @Eq Int (@Nat.cast Int _ (List.length b)) (@Nat.cast Int _ (List.length b)) ∧ @Eq _ b b ∧ @Eq Int v1.1 v1.1 ∧ @Eq Int v1.1 v1.1 ∧ @Eq Bool (@decide (@LT.lt Int _ v0.1 (@Nat.cast Int _ (List.length a))) (Int.decLt v0.1 (@Nat.cast Int _ (List.length a)))) (@decide (@LT.lt Int _ v0.1 (@Nat.cast Int _ (List.length a))) (Int.decLt v0.1 (@Nat.cast Int _ (List.length a)))) ∧ @Eq Int (@Nat.cast Int _ (List.length a)) (@Nat.cast Int _ (List.length a)) ∧ @Eq _ a a ∧ @Eq Int v0.1 v0.1 ∧ @Eq Int v0.1 v0.1 ∧ True ∧ True ∧ True ∧ @Eq _ a a ∧ @Eq _ b b ∧ @Eq Int m m ∧ True) ∧ @Eq _ v1.2.1 (v1.2.1, Unit.unit).1 ∧ @Eq _ ([] : List (Ty.T I64)) ([] : List (Ty.T I64)) ∧ True) ∧ (@LE.le Int _ 0 0 ∧ @LE.le Int _ 0 (@Nat.cast (Pl.T (Pl.slot 11 I64)) _ (List.length (xsOf a b)))) ∧ @Eq _ ([] : List (Ty.T I64)) (mergeK a b m (Int.toNat 0)) ∧ @Eq _ (v1.2.1, Unit.unit).1 (xsOf a b) ∧ (@LE.le Int _ (@HAdd.hAdd Int Int Int _ 0 1) 0 → @LE.le Int _ (@HAdd.hAdd Int Int Int _ 0 1) (@Nat.cast (Pl.T (Pl.slot 11 I64)) _ (List.length (xsOf a b))))) ∧ (∀ (v2 : (Prod Int (Prod (List Int) (Prod (List Int) Unit)))), (((@LE.le Int _ 0 v2.1 ∧ @LE.le Int _ v2.1 (@Nat.cast (Pl.T (Pl.slot 11 I64)) _ (List.length (xsOf a b)))) ∧ @Eq _ v2.2.1 (mergeK a b m (Int.toNat v2.1)) ∧ @Eq _ v2.2.2.1 (xsOf a b) ∧ (@LE.le Int _ (@HAdd.hAdd Int Int Int _ 0 1) v2.1 → @LE.le Int _ (@HAdd.hAdd Int Int Int _ v2.1 1) (@Nat.cast (Pl.T (Pl.slot 11 I64)) _ (List.length (xsOf a b))))) → (True ∧ True ∧ True ∧ True ∧ True ∧ (@Eq Bool (@decide (@LT.lt Int _ (IntKind.i64.wrap (@HAdd.hAdd Int Int Int _ v2.1 1)) (@Nat.cast Int _ (List.length v2.2.2.1))) (Int.decLt (IntKind.i64.wrap (@HAdd.hAdd Int Int Int _ v2.1 1)) (@Nat.cast Int _ (List.length v2.2.2.1)))) true → ((True ∧ True ∧ True ∧ (@LE.le Int _ 0 v2.1 ∧ @LE.le Int _ (@HAdd.hAdd Int Int Int _ v2.1 1) (@Nat.cast Int _ (List.length v2.2.2.1))) ∧ @LT.lt Nat _ (Int.toNat v2.1) (List.length v2.2.2.1) ∧ (@LE.le Nat _ (List.length a) 1000000 ∧ @Eq Nat (@HMod.hMod Nat Nat Nat _ (List.length a) 2) 0) ∧ True ∧ True ∧ True ∧ (@LE.le Int _ 0 v2.1 ∧ @LE.le Int _ (@HAdd.hAdd Int Int Int _ v2.1 1) (@Nat.cast Int _ (List.length v2.2.2.1))) ∧ @LT.lt Nat _ (Int.toNat v2.1) (List.length v2.2.2.1) ∧ (@LE.le Nat _ (List.length b) 1000000 ∧ @Eq Nat (@HMod.hMod Nat Nat Nat _ (List.length b) 2) 0) ∧ True ∧ True ∧ True) ∧ True ∧ True ∧ True ∧ (@Eq Bool (BEq.beq m 1) true → True) ∧ (@Eq Bool (BEq.beq m 1) true → True) ∧ (@Eq Bool (inL a (@elemAt I64 v2.2.2.1 (Int.toNat v2.1))) false → (@Eq Bool (BEq.beq m 1) true → True)) ∧ (@Eq Bool (BEq.beq m 1) true → True) ∧ True ∧ True ∧ (@Eq Bool (and (BEq.beq m 1) (or (inL a (@elemAt I64 v2.2.2.1 (Int.toNat v2.1))) (inL b (@elemAt I64 v2.2.2.1 (Int.toNat v2.1))))) false → True) ∧ (@Eq Bool (and (BEq.beq m 1) (or (inL a (@elemAt I64 v2.2.2.1 (Int.toNat v2.1))) (inL b (@elemAt I64 v2.2.2.1 (Int.toNat v2.1))))) false → True) ∧ (@Eq Bool (and (BEq.beq m 1) (or (inL a (@elemAt I64 v2.2.2.1 (Int.toNat v2.1))) (inL b (@elemAt I64 v2.2.2.1 (Int.toNat v2.1))))) false → True) ∧ (@Eq Bool (BEq.beq m 2) true → (@Eq Bool (and (BEq.beq m 1) (or (inL a (@elemAt I64 v2.2.2.1 (Int.toNat v2.1))) (inL b (@elemAt I64 v2.2.2.1 (Int.toNat v2.1))))) false → True)) ∧ (@Eq Bool (and (BEq.beq m 1) (or (inL a (@elemAt I64 v2.2.2.1 (Int.toNat v2.1))) (inL b (@elemAt I64 v2.2.2.1 (Int.toNat v2.1))))) false → True) ∧ (@Eq Bool (and (BEq.beq m 1) (or (inL a (@elemAt I64 v2.2.2.1 (Int.toNat v2.1))) (inL b (@elemAt I64 v2.2.2.1 (Int.toNat v2.1))))) false → True) ∧ (@Eq Bool (and (BEq.beq m 2) (inL a (@elemAt I64 v2.2.2.1 (Int.toNat v2.1)))) true → (@Eq Bool (and (BEq.beq m 1) (or (inL a (@elemAt I64 v2.2.2.1 (Int.toNat v2.1))) (inL b (@elemAt I64 v2.2.2.1 (Int.toNat v2.1))))) false → True)) ∧ (@Eq Bool (and (BEq.beq m 1) (or (inL a (@elemAt I64 v2.2.2.1 (Int.toNat v2.1))) (inL b (@elemAt I64 v2.2.2.1 (Int.toNat v2.1))))) false → True) ∧ True ∧ True ∧ (@Eq Bool (or (and (BEq.beq m 1) (or (inL a (@elemAt I64 v2.2.2.1 (Int.toNat v2.1))) (inL b (@elemAt I64 v2.2.2.1 (Int.toNat v2.1))))) (and (and (BEq.beq m 2) (inL a (@elemAt I64 v2.2.2.1 (Int.toNat v2.1)))) (inL b (@elemAt I64 v2.2.2.1 (Int.toNat v2.1))))) false → True) ∧ (@Eq Bool (or (and (BEq.beq m 1) (or (inL a (@elemAt I64 v2.2.2.1 (Int.toNat v2.1))) (inL b (@elemAt I64 v2.2.2.1 (Int.toNat v2.1))))) (and (and (BEq.beq m 2) (inL a (@elemAt I64 v2.2.2.1 (Int.toNat v2.1)))) (inL b (@elemAt I64 v2.2.2.1 (Int.toNat v2.1))))) false → True) ∧ (@Eq Bool (or (and (BEq.beq m 1) (or (inL a (@elemAt I64 v2.2.2.1 (Int.toNat v2.1))) (inL b (@elemAt I64 v2.2.2.1 (Int.toNat v2.1))))) (and (and (BEq.beq m 2) (inL a (@elemAt I64 v2.2.2.1 (Int.toNat v2.1)))) (inL b (@elemAt I64 v2.2.2.1 (Int.toNat v2.1))))) false → True) ∧ (@Eq Bool (BEq.beq m 3) true → (@Eq Bool (or (and (BEq.beq m 1) (or (inL a (@elemAt I64 v2.2.2.1 (Int.toNat v2.1))) (inL b (@elemAt I64 v2.2.2.1 (Int.toNat v2.1))))) (and (and (BEq.beq m 2) (inL a (@elemAt I64 v2.2.2.1 (Int.toNat v2.1)))) (inL b (@elemAt I64 v2.2.2.1 (Int.toNat v2.1))))) false → True)) ∧ (@Eq Bool (or (and (BEq.beq m 1) (or (inL a (@elemAt I64 v2.2.2.1 (Int.toNat v2.1))) (inL b (@elemAt I64 v2.2.2.1 (Int.toNat v2.1))))) (and (and (BEq.beq m 2) (inL a (@elemAt I64 v2.2.2.1 (Int.toNat v2.1)))) (inL b (@elemAt I64 v2.2.2.1 (Int.toNat v2.1))))) false → True) ∧ (@Eq Bool (or (and (BEq.beq m 1) (or (inL a (@elemAt I64 v2.2.2.1 (Int.toNat v2.1))) (inL b (@elemAt I64 v2.2.2.1 (Int.toNat v2.1))))) (and (and (BEq.beq m 2) (inL a (@elemAt I64 v2.2.2.1 (Int.toNat v2.1)))) (inL b (@elemAt I64 v2.2.2.1 (Int.toNat v2.1))))) false → True) ∧ (@Eq Bool (and (BEq.beq m 3) (inL a (@elemAt I64 v2.2.2.1 (Int.toNat v2.1)))) true → (@Eq Bool (or (and (BEq.beq m 1) (or (inL a (@elemAt I64 v2.2.2.1 (Int.toNat v2.1))) (inL b (@elemAt I64 v2.2.2.1 (Int.toNat v2.1))))) (and (and (BEq.beq m 2) (inL a (@elemAt I64 v2.2.2.1 (Int.toNat v2.1)))) (inL b (@elemAt I64 v2.2.2.1 (Int.toNat v2.1))))) false → True)) ∧ (@Eq Bool (and (BEq.beq m 3) (inL a (@elemAt I64 v2.2.2.1 (Int.toNat v2.1)))) true → (@Eq Bool (or (and (BEq.beq m 1) (or (inL a (@elemAt I64 v2.2.2.1 (Int.toNat v2.1))) (inL b (@elemAt I64 v2.2.2.1 (Int.toNat v2.1))))) (and (and (BEq.beq m 2) (inL a (@elemAt I64 v2.2.2.1 (Int.toNat v2.1)))) (inL b (@elemAt I64 v2.2.2.1 (Int.toNat v2.1))))) false → True)) ∧ (@Eq Bool (or (and (BEq.beq m 1) (or (inL a (@elemAt I64 v2.2.2.1 (Int.toNat v2.1))) (inL b (@elemAt I64 v2.2.2.1 (Int.toNat v2.1))))) (and (and (BEq.beq m 2) (inL a (@elemAt I64 v2.2.2.1 (Int.toNat v2.1)))) (inL b (@elemAt I64 v2.2.2.1 (Int.toNat v2.1))))) false → True) ∧ True ∧ (@Eq Bool (or (or (and (BEq.beq m 1) (or (inL a (@elemAt I64 v2.2.2.1 (Int.toNat v2.1))) (inL b (@elemAt I64 v2.2.2.1 (Int.toNat v2.1))))) (and (and (BEq.beq m 2) (inL a (@elemAt I64 v2.2.2.1 (Int.toNat v2.1)))) (inL b (@elemAt I64 v2.2.2.1 (Int.toNat v2.1))))) (and (and (BEq.beq m 3) (inL a (@elemAt I64 v2.2.2.1 (Int.toNat v2.1)))) (not (inL b (@elemAt I64 v2.2.2.1 (Int.toNat v2.1)))))) true → ((True ∧ True ∧ True ∧ (@LE.le Int _ 0 v2.1 ∧ @LE.le Int _ (@HAdd.hAdd Int Int Int _ v2.1 1) (@Nat.cast Int _ (List.length v2.2.2.1))) ∧ @LT.lt Nat _ (Int.toNat v2.1) (List.length v2.2.2.1) ∧ True ∧ True ∧ True ∧ (@LE.le Int _ 0 (IntKind.i64.wrap (@HAdd.hAdd Int Int Int _ v2.1 1)) ∧ @LE.le Int _ (@HAdd.hAdd Int Int Int _ (IntKind.i64.wrap (@HAdd.hAdd Int Int Int _ v2.1 1)) 1) (@Nat.cast Int _ (List.length v2.2.2.1))) ∧ @LT.lt Nat _ (Int.toNat (IntKind.i64.wrap (@HAdd.hAdd Int Int Int _ v2.1 1))) (List.length v2.2.2.1) ∧ (@LE.le Nat _ (List.length v2.2.1) 1000000 ∧ @Eq Nat (@HMod.hMod Nat Nat Nat _ (List.length v2.2.1) 2) 0) ∧ True ∧ True) ∧ True ∧ True ∧ True ∧ (True ∧ (@Eq Int (IntKind.i64.wrap (@HAdd.hAdd Int Int Int _ v2.1 1)) (IntKind.i64.wrap (@HAdd.hAdd Int Int Int _ v2.1 1)) ∧ @Eq Bool (@decide (@LT.lt Int _ v1.1 (@Nat.cast Int _ (List.length b))) (Int.decLt v1.1 (@Nat.cast Int _ (List.length b)))) (@decide (@LT.lt Int _ v1.1 (@Nat.cast Int _ (List.length b))) (Int.decLt v1.1 (@Nat.cast Int _ (List.length b)))) ∧ @Eq Int (@Nat.cast Int _ (List.length b)) (@Nat.cast Int _ (List.length b)) ∧ @Eq _ b b ∧ @Eq Int v1.1 v1.1 ∧ @Eq Int v1.1 v1.1 ∧ @Eq Bool (@decide (@LT.lt Int _ v0.1 (@Nat.cast Int _ (List.length a))) (Int.decLt v0.1 (@Nat.cast Int _ (List.length a)))) (@decide (@LT.lt Int _ v0.1 (@Nat.cast Int _ (List.length a))) (Int.decLt v0.1 (@Nat.cast Int _ (List.length a)))) ∧ @Eq Int (@Nat.cast Int _ (List.length a)) (@Nat.cast Int _ (List.length a)) ∧ @Eq _ a a ∧ @Eq Int v0.1 v0.1 ∧ @Eq Int v0.1 v0.1 ∧ True ∧ True ∧ True ∧ @Eq _ a a ∧ @Eq _ b b ∧ @Eq Int m m ∧ True) ∧ @Eq _ v2.2.2.1 (v2.2.2.1, Unit.unit).1 ∧ @Eq _ (addL v2.2.1 (@elemAt I64 v2.2.2.1 (Int.toNat v2.1)) (@elemAt I64 v2.2.2.1 (Int.toNat (IntKind.i64.wrap (@HAdd.hAdd Int Int Int _ v2.1 1))))) (addL v2.2.1 (@elemAt I64 v2.2.2.1 (Int.toNat v2.1)) (@elemAt I64 v2.2.2.1 (Int.toNat (IntKind.i64.wrap (@HAdd.hAdd Int Int Int _ v2.1 1))))) ∧ True) ∧ ((@LE.le Int _ 0 (IntKind.i64.wrap (@HAdd.hAdd Int Int Int _ v2.1 1)) ∧ @LE.le Int _ (IntKind.i64.wrap (@HAdd.hAdd Int Int Int _ v2.1 1)) (@Nat.cast (Pl.T (Pl.slot 11 I64)) _ (List.length (xsOf a b)))) ∧ @Eq _ (addL v2.2.1 (@elemAt I64 v2.2.2.1 (Int.toNat v2.1)) (@elemAt I64 v2.2.2.1 (Int.toNat (IntKind.i64.wrap (@HAdd.hAdd Int Int Int _ v2.1 1))))) (mergeK a b m (Int.toNat (IntKind.i64.wrap (@HAdd.hAdd Int Int Int _ v2.1 1)))) ∧ @Eq _ (v2.2.2.1, Unit.unit).1 (xsOf a b) ∧ (@LE.le Int _ (@HAdd.hAdd Int Int Int _ 0 1) (IntKind.i64.wrap (@HAdd.hAdd Int Int Int _ v2.1 1)) → @LE.le Int _ (@HAdd.hAdd Int Int Int _ (IntKind.i64.wrap (@HAdd.hAdd Int Int Int _ v2.1 1)) 1) (@Nat.cast (Pl.T (Pl.slot 11 I64)) _ (List.length (xsOf a b))))) ∧ @LT.lt Nat _ (Int.toNat (@HSub.hSub Int Int Int _ (@Nat.cast Int _ (List.length (xsOf a b))) (IntKind.i64.wrap (@HAdd.hAdd Int Int Int _ v2.1 1)))) (Int.toNat (@HSub.hSub Int Int Int _ (@Nat.cast Int _ (List.length (xsOf a b))) v2.1)))) ∧ (@Eq Bool (or (or (and (BEq.beq m 1) (or (inL a (@elemAt I64 v2.2.2.1 (Int.toNat v2.1))) (inL b (@elemAt I64 v2.2.2.1 (Int.toNat v2.1))))) (and (and (BEq.beq m 2) (inL a (@elemAt I64 v2.2.2.1 (Int.toNat v2.1)))) (inL b (@elemAt I64 v2.2.2.1 (Int.toNat v2.1))))) (and (and (BEq.beq m 3) (inL a (@elemAt I64 v2.2.2.1 (Int.toNat v2.1)))) (not (inL b (@elemAt I64 v2.2.2.1 (Int.toNat v2.1)))))) false → (True ∧ True ∧ True ∧ (True ∧ (@Eq Int (IntKind.i64.wrap (@HAdd.hAdd Int Int Int _ v2.1 1)) (IntKind.i64.wrap (@HAdd.hAdd Int Int Int _ v2.1 1)) ∧ @Eq Bool (@decide (@LT.lt Int _ v1.1 (@Nat.cast Int _ (List.length b))) (Int.decLt v1.1 (@Nat.cast Int _ (List.length b)))) (@decide (@LT.lt Int _ v1.1 (@Nat.cast Int _ (List.length b))) (Int.decLt v1.1 (@Nat.cast Int _ (List.length b)))) ∧ @Eq Int (@Nat.cast Int _ (List.length b)) (@Nat.cast Int _ (List.length b)) ∧ @Eq _ b b ∧ @Eq Int v1.1 v1.1 ∧ @Eq Int v1.1 v1.1 ∧ @Eq Bool (@decide (@LT.lt Int _ v0.1 (@Nat.cast Int _ (List.length a))) (Int.decLt v0.1 (@Nat.cast Int _ (List.length a)))) (@decide (@LT.lt Int _ v0.1 (@Nat.cast Int _ (List.length a))) (Int.decLt v0.1 (@Nat.cast Int _ (List.length a)))) ∧ @Eq Int (@Nat.cast Int _ (List.length a)) (@Nat.cast Int _ (List.length a)) ∧ @Eq _ a a ∧ @Eq Int v0.1 v0.1 ∧ @Eq Int v0.1 v0.1 ∧ True ∧ True ∧ True ∧ @Eq _ a a ∧ @Eq _ b b ∧ @Eq Int m m ∧ True) ∧ @Eq _ v2.2.2.1 (v2.2.2.1, Unit.unit).1 ∧ @Eq _ v2.2.1 v2.2.1 ∧ True) ∧ ((@LE.le Int _ 0 (IntKind.i64.wrap (@HAdd.hAdd Int Int Int _ v2.1 1)) ∧ @LE.le Int _ (IntKind.i64.wrap (@HAdd.hAdd Int Int Int _ v2.1 1)) (@Nat.cast (Pl.T (Pl.slot 11 I64)) _ (List.length (xsOf a b)))) ∧ @Eq _ v2.2.1 (mergeK a b m (Int.toNat (IntKind.i64.wrap (@HAdd.hAdd Int Int Int _ v2.1 1)))) ∧ @Eq _ (v2.2.2.1, Unit.unit).1 (xsOf a b) ∧ (@LE.le Int _ (@HAdd.hAdd Int Int Int _ 0 1) (IntKind.i64.wrap (@HAdd.hAdd Int Int Int _ v2.1 1)) → @LE.le Int _ (@HAdd.hAdd Int Int Int _ (IntKind.i64.wrap (@HAdd.hAdd Int Int Int _ v2.1 1)) 1) (@Nat.cast (Pl.T (Pl.slot 11 I64)) _ (List.length (xsOf a b))))) ∧ @LT.lt Nat _ (Int.toNat (@HSub.hSub Int Int Int _ (@Nat.cast Int _ (List.length (xsOf a b))) (IntKind.i64.wrap (@HAdd.hAdd Int Int Int _ v2.1 1)))) (Int.toNat (@HSub.hSub Int Int Int _ (@Nat.cast Int _ (List.length (xsOf a b))) v2.1)))))) ∧ (@Eq Bool (@decide (@LT.lt Int _ (IntKind.i64.wrap (@HAdd.hAdd Int Int Int _ v2.1 1)) (@Nat.cast Int _ (List.length v2.2.2.1))) (Int.decLt (IntKind.i64.wrap (@HAdd.hAdd Int Int Int _ v2.1 1)) (@Nat.cast Int _ (List.length v2.2.2.1)))) false → (True ∧ True ∧ (True ∧ True) ∧ @Eq _ v2.2.1 (mergedL a b m)))))))))))))))))) (by kernel_rfl) ?_
  simp only [true_and, and_true, decide_eq_true_eq, decide_eq_false_iff_not, forall_const, implies_true, and_self]
  refine ⟨⟨⟨by omega, Int.natCast_nonneg _⟩, rfl⟩, ?_⟩
  rintro ⟨i, xs, _⟩ ⟨⟨h0, h1⟩, he⟩
  simp only at h0 h1 he ⊢
  refine ⟨fun hi => ?_, fun hi => ⟨⟨⟨by omega, Int.natCast_nonneg _⟩, ?_⟩, ?_⟩⟩
  · have hst := insAll_step (xs := []) (l := a) (i := i.toNat) (by omega)
    have hlen := insAll_len (a.take i.toNat) []
    rw [← he] at hst hlen
    rw [List.length_take] at hlen
    simp only [List.length_nil] at hlen
    rw [wrap_in (by omega), show (i + 1).toNat = i.toNat + 1 by omega, hst]
    exact ⟨⟨h0, by omega⟩, by omega, ⟨⟨by omega, by omega⟩, rfl⟩, by omega⟩
  · rw [he, List.take_of_length_le (by omega)]
    rfl
  clear he h0 h1 hi
  rintro ⟨i, ys, _⟩ ⟨⟨h0, h1⟩, he⟩
  simp only at h0 h1 he ⊢
  refine ⟨fun hi => ?_, fun hi => ⟨⟨⟨by omega, Int.natCast_nonneg _⟩, rfl, ?_, fun h => by omega⟩, ?_⟩⟩
  · have hst := insAll_step (xs := insAll [] a) (l := b) (i := i.toNat) (by omega)
    have hlen := insAll_len (b.take i.toNat) (insAll [] a)
    have hl2 := insAll_len a []
    rw [← he] at hst hlen
    rw [List.length_take] at hlen
    simp only [List.length_nil] at hl2
    rw [wrap_in (by omega), show (i + 1).toNat = i.toNat + 1 by omega, hst]
    exact ⟨⟨h0, by omega⟩, by omega, ⟨⟨by omega, by omega⟩, rfl⟩, by omega⟩
  · rw [he, List.take_of_length_le (by omega)]
    rfl
  clear he h0 h1 hi
  have hX : (xsOf a b).length ≤ 400000 := by
    have h1 := insAll_len b (insAll [] a)
    have h2 := insAll_len a []
    simp only [List.length_nil] at h2
    unfold xsOf
    omega
  rintro ⟨i, out, zs, _⟩ ⟨⟨h0, h1⟩, he, hz, hp⟩
  simp only at h0 h1 he hz hp ⊢
  subst hz
  have hlen := mergeK_len a b m i.toNat
  rw [← he] at hlen
  rw [wrap_in (n := i + 1) (by omega)]
  refine ⟨fun hi => ?_, fun hi => ?_⟩
  · have hst := mergeK_step a b m i.toNat
    rw [← he] at hst
    rw [show (i + 1).toNat = i.toNat + 1 by omega, hst]
    refine ⟨⟨⟨h0, by omega⟩, by omega, ⟨by omega, ea⟩, ⟨h0, by omega⟩, by omega, by omega, eb⟩, fun hc => ⟨⟨⟨h0, by omega⟩, by omega, ⟨by omega, by omega⟩, by omega, by omega, hlen.2⟩, ⟨⟨by omega, by omega⟩, ?_, rfl, fun _ => by omega⟩, by omega⟩, fun hc => ⟨⟨⟨by omega, by omega⟩, ?_, rfl, fun _ => by omega⟩, by omega⟩⟩
    · unfold mergeStep
      rw [if_pos (show modeB m _ _ = true from hc)]
    · unfold mergeStep
      rw [if_neg (by rw [modeB, hc]; decide)]
  · unfold mergedL
    rw [he]
    congr 1
    by_cases h : 0 < i
    · have := hp (by omega)
      omega
    · omega
abbrev K23 : KCons := (87, fun Γc => pure_ Γc ((pcon [.d (.list I64), .d (.list I64), .d I64] fun x => ((x.1.length ≤ 200000 ∧ x.1.length % 2 = 0) ∧ x.2.1.length ≤ 200000 ∧ x.2.1.length % 2 = 0, .own I64 (mergedL x.1 x.2.1 x.2.2.1))))) :: K22
theorem HK23 : KS Tryz.prog K23 := ks_add (ksound_pure (s_r5merged)) HK22
end Go.Proofs.YtogbocplojbdjaaGreat
