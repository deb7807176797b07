/-
  A part of the proof: what some of the program's functions compute.
-/
import Derived.Test.YtogbocplojbdjaaGreatVND
namespace Go.Proofs.YtogbocplojbdjaaGreat
open Go Go.E Go.Proofs
set_option linter.unusedVariables false
set_option linter.unusedSimpArgs false
theorem s_r10sized : PSound Tryz.prog 109 (pcon [.d I64, .d I64] fun x => (True, .bool (sizeOk x.1 && sizeOk x.2.1))) := by
  refine psoundF (K := K32) (Γc := C9) (Γr := R0) (fun _ => []) hm HK32 HC9 HR0 Tryz.call109 Tryz.func109 (by kernel_rfl) ?_
  rintro ⟨a, b, _⟩ _
  refine Eq.mpr (β := (True ∧ True ∧ True ∧ True ∧ (@Eq Bool (@decide (@GE.ge Int Int.instLEInt a 1) (Int.decLe 1 a)) true → True) ∧ (@Eq Bool (@decide (@GE.ge Int Int.instLEInt a 1) (Int.decLe 1 a)) true → True) ∧ True ∧ True ∧ (@Eq Bool (and (@decide (@GE.ge Int Int.instLEInt a 1) (Int.decLe 1 a)) (@decide (@LE.le Int _ a 256) (Int.decLe a 256))) true → True) ∧ (@Eq Bool (and (@decide (@GE.ge Int Int.instLEInt a 1) (Int.decLe 1 a)) (@decide (@LE.le Int _ a 256) (Int.decLe a 256))) true → True) ∧ True ∧ True ∧ (@Eq Bool (and (and (@decide (@GE.ge Int Int.instLEInt a 1) (Int.decLe 1 a)) (@decide (@LE.le Int _ a 256) (Int.decLe a 256))) (@decide (@GE.ge Int Int.instLEInt b 1) (Int.decLe 1 b))) true → True) ∧ (@Eq Bool (and (and (@decide (@GE.ge Int Int.instLEInt a 1) (Int.decLe 1 a)) (@decide (@LE.le Int _ a 256) (Int.decLe a 256))) (@decide (@GE.ge Int Int.instLEInt b 1) (Int.decLe 1 b))) true → True) ∧ True ∧ True ∧ (True ∧ True) ∧ @Eq Bool (and (and (and (@decide (@GE.ge Int Int.instLEInt a 1) (Int.decLe 1 a)) (@decide (@LE.le Int _ a 256) (Int.decLe a 256))) (@decide (@GE.ge Int Int.instLEInt b 1) (Int.decLe 1 b))) (@decide (@LE.le Int _ b 256) (Int.decLe b 256))) (and (sizeOk a) (sizeOk b)))) (by kernel_rfl) ?_
  simp [sizeOk, Bool.and_assoc]
abbrev K33 : KCons := (109, fun Γc => pure_ Γc ((pcon [.d I64, .d I64] fun x => (True, .bool (sizeOk x.1 && sizeOk x.2.1))))) :: K32
theorem HK33 : KS Tryz.prog K33 := ks_add (ksound_pure (s_r10sized)) HK32
theorem s_r25position : PSound Tryz.prog 82 (pcon [.d I64, .d I64] fun x => (True, .bool (posOk x.1 x.2.1))) := by
  refine psoundF (K := K33) (Γc := C9) (Γr := R0) (fun _ => []) hm HK33 HC9 HR0 Tryz.call82 Tryz.func82 (by kernel_rfl) ?_
  rintro ⟨a, b, _⟩ _
  refine Eq.mpr (β := (True ∧ True ∧ True ∧ True ∧ (@Eq Bool (@decide (@GE.ge Int Int.instLEInt a (Neg.neg 16384)) (Int.decLe (Neg.neg 16384) a)) true → True) ∧ (@Eq Bool (@decide (@GE.ge Int Int.instLEInt a (Neg.neg 16384)) (Int.decLe (Neg.neg 16384) a)) true → True) ∧ True ∧ True ∧ (@Eq Bool (and (@decide (@GE.ge Int Int.instLEInt a (Neg.neg 16384)) (Int.decLe (Neg.neg 16384) a)) (@decide (@LE.le Int _ a 16128) (Int.decLe a 16128))) true → True) ∧ (@Eq Bool (and (@decide (@GE.ge Int Int.instLEInt a (Neg.neg 16384)) (Int.decLe (Neg.neg 16384) a)) (@decide (@LE.le Int _ a 16128) (Int.decLe a 16128))) true → True) ∧ True ∧ True ∧ (@Eq Bool (and (and (@decide (@GE.ge Int Int.instLEInt a (Neg.neg 16384)) (Int.decLe (Neg.neg 16384) a)) (@decide (@LE.le Int _ a 16128) (Int.decLe a 16128))) (@decide (@GE.ge Int Int.instLEInt b (Neg.neg 16384)) (Int.decLe (Neg.neg 16384) b))) true → True) ∧ (@Eq Bool (and (and (@decide (@GE.ge Int Int.instLEInt a (Neg.neg 16384)) (Int.decLe (Neg.neg 16384) a)) (@decide (@LE.le Int _ a 16128) (Int.decLe a 16128))) (@decide (@GE.ge Int Int.instLEInt b (Neg.neg 16384)) (Int.decLe (Neg.neg 16384) b))) true → True) ∧ True ∧ True ∧ (True ∧ True) ∧ @Eq Bool (and (and (and (@decide (@GE.ge Int Int.instLEInt a (Neg.neg 16384)) (Int.decLe (Neg.neg 16384) a)) (@decide (@LE.le Int _ a 16128) (Int.decLe a 16128))) (@decide (@GE.ge Int Int.instLEInt b (Neg.neg 16384)) (Int.decLe (Neg.neg 16384) b))) (@decide (@LE.le Int _ b 16128) (Int.decLe b 16128))) (posOk a b))) (by kernel_rfl) ?_
  simp only [true_and, and_true, decide_eq_true_eq, decide_eq_false_iff_not, forall_const, implies_true, and_self]
  unfold posOk
  rw [Bool.eq_iff_iff]
  simp only [Bool.and_eq_true, decide_eq_true_eq]
  omega
abbrev K34 : KCons := (82, fun Γc => pure_ Γc ((pcon [.d I64, .d I64] fun x => (True, .bool (posOk x.1 x.2.1))))) :: K33
theorem HK34 : KS Tryz.prog K34 := ks_add (ksound_pure (s_r25position)) HK33
theorem s_r25area : PSound Tryz.prog 84 (pcon [.d I64, .d I64] fun x => (True, .own RectT [(0, 0, x.1, x.2.1)])) := by
  refine psoundF (K := K34) (Γc := C9) (Γr := R0) (fun _ => []) hm HK34 HC9 HR0 Tryz.call84 Tryz.func84 (by kernel_rfl) ?_
  rintro ⟨a, b, _⟩ _
  refine Eq.mpr (β := (True ∧ True ∧ True ∧ True ∧ True ∧ True ∧ (True ∧ True) ∧ @Eq _ ((0, (0, (a, b))) :: ([] : List (Ty.T RectT))) ((0, (0, (a, b))) :: ([] : List (Ty.T RectT))))) (by kernel_rfl) ?_
  simp
abbrev K35 : KCons := (84, fun Γc => pure_ Γc ((pcon [.d I64, .d I64] fun x => (True, .own RectT [(0, 0, x.1, x.2.1)])))) :: K34
theorem HK35 : KS Tryz.prog K35 := ks_add (ksound_pure (s_r25area)) HK34
theorem pix_iff (p : Pix) : pixOk p = !(decide (p.1 > p.2.2.2) || decide (p.2.1 > p.2.2.2) || decide (p.2.2.1 > p.2.2.2)) := by
  unfold pixOk clampP
  rw [Bool.eq_iff_iff]
  simp
  omega
theorem s_r10Valid : PSound Tryz.prog 83 (pcon [.d BufT] fun x => (x.1.2.2.length ≤ 9223372036854775807, .bool (bufOk x.1))) := by
  refine psoundF (K := K35) (Γc := C9) (Γr := R0) (fun x => [(4, annP [.slot 3 I64] (fun _ y => (0 ≤ y.1 ∧ y.1 ≤ x.1.2.2.length) ∧ ((x.1.2.2.take y.1.toNat).any fun p => !pixOk p) = false) (fun y => (x.1.2.2.length - y.1 : Int).toNat))]) hm HK35 HC9 HR0 Tryz.call83 Tryz.func83 (by kernel_rfl) ?_
  rintro ⟨⟨w, h, ps⟩, _⟩ hx
  have hx : ps.length ≤ 9223372036854775807 := hx
  refine Eq.mpr (β := (True ∧ True ∧ True ∧ True ∧ True ∧ True ∧ True ∧ True ∧ True ∧ (@Eq Bool (not (and (sizeOk w) (sizeOk h))) false → True) ∧ (@Eq Bool (not (and (sizeOk w) (sizeOk h))) false → True) ∧ (@Eq Bool (not (and (sizeOk w) (sizeOk h))) false → True) ∧ (@Eq Bool (not (and (sizeOk w) (sizeOk h))) false → True) ∧ (@Eq Bool (not (and (sizeOk w) (sizeOk h))) false → True) ∧ (@Eq Bool (not (and (sizeOk w) (sizeOk h))) false → True) ∧ (@Eq Bool (not (and (sizeOk w) (sizeOk h))) false → True) ∧ (@Eq Bool (not (and (sizeOk w) (sizeOk h))) false → True) ∧ (@Eq Bool (not (and (sizeOk w) (sizeOk h))) false → True) ∧ True ∧ (@Eq Bool (or (not (and (sizeOk w) (sizeOk h))) (bne (@Nat.cast Int _ (List.length ps)) (IntKind.i64.wrap (@HMul.hMul Int Int Int _ w h)))) true → (True ∧ (True ∧ True) ∧ @Eq Bool false (bufOk (w, (h, ps))))) ∧ (@Eq Bool (or (not (and (sizeOk w) (sizeOk h))) (bne (@Nat.cast Int _ (List.length ps)) (IntKind.i64.wrap (@HMul.hMul Int Int Int _ w h)))) false → (True ∧ ((True ∧ (@Eq Int 0 0 ∧ @Eq Bool (or (not (and (sizeOk w) (sizeOk h))) (bne (@Nat.cast Int _ (List.length ps)) (IntKind.i64.wrap (@HMul.hMul Int Int Int _ w h)))) (or (not (and (sizeOk w) (sizeOk h))) (bne (@Nat.cast Int _ (List.length ps)) (IntKind.i64.wrap (@HMul.hMul Int Int Int _ w h)))) ∧ @Eq Bool (not (and (sizeOk w) (sizeOk h))) (not (and (sizeOk w) (sizeOk h))) ∧ @Eq Bool (not (and (sizeOk w) (sizeOk h))) (not (and (sizeOk w) (sizeOk h))) ∧ @Eq Bool (and (sizeOk w) (sizeOk h)) (and (sizeOk w) (sizeOk h)) ∧ @Eq Int h h ∧ True ∧ @Eq Int w w ∧ True ∧ True ∧ (@Eq Int w w ∧ @Eq Int h h ∧ @Eq _ ps ps ∧ True) ∧ True) ∧ (@Eq Int w w ∧ @Eq Int h h ∧ @Eq _ ps ps ∧ True) ∧ True) ∧ (@LE.le Int _ 0 0 ∧ @LE.le Int _ 0 (@Nat.cast (Pl.T (Pl.slot 3 I64)) _ (List.length (h, ps).2))) ∧ @Eq Bool (List.any (List.take 0 (h, ps).2) (fun (v0 : (Ty.T PixT)) => (not (pixOk v0)))) false) ∧ (∀ (v0 : (Prod Int Unit)), (((@LE.le Int _ 0 v0.1 ∧ @LE.le Int _ v0.1 (@Nat.cast (Pl.T (Pl.slot 3 I64)) _ (List.length (h, ps).2))) ∧ @Eq Bool (List.any (List.take (Int.toNat v0.1) (h, ps).2) (fun (v1 : (Ty.T PixT)) => (not (pixOk v1)))) false) → (True ∧ True ∧ True ∧ True ∧ True ∧ (@Eq Bool (@decide (@LT.lt Int _ v0.1 (@Nat.cast Int _ (List.length ps))) (Int.decLt v0.1 (@Nat.cast Int _ (List.length ps)))) true → (True ∧ True ∧ True ∧ (@LE.le Int _ 0 v0.1 ∧ @LE.le Int _ (@HAdd.hAdd Int Int Int _ v0.1 1) (@Nat.cast Int _ (List.length ps))) ∧ True ∧ True ∧ True ∧ True ∧ True ∧ True ∧ True ∧ True ∧ True ∧ (@Eq Bool (@decide (@GT.gt Int _ (@elemAt PixT ps (Int.toNat v0.1)).1 (@elemAt PixT ps (Int.toNat v0.1)).2.2.2) (Int.decLt (@elemAt PixT ps (Int.toNat v0.1)).2.2.2 (@elemAt PixT ps (Int.toNat v0.1)).1)) false → True) ∧ (@Eq Bool (@decide (@GT.gt Int _ (@elemAt PixT ps (Int.toNat v0.1)).1 (@elemAt PixT ps (Int.toNat v0.1)).2.2.2) (Int.decLt (@elemAt PixT ps (Int.toNat v0.1)).2.2.2 (@elemAt PixT ps (Int.toNat v0.1)).1)) false → True) ∧ (@Eq Bool (@decide (@GT.gt Int _ (@elemAt PixT ps (Int.toNat v0.1)).1 (@elemAt PixT ps (Int.toNat v0.1)).2.2.2) (Int.decLt (@elemAt PixT ps (Int.toNat v0.1)).2.2.2 (@elemAt PixT ps (Int.toNat v0.1)).1)) false → True) ∧ (@Eq Bool (@decide (@GT.gt Int _ (@elemAt PixT ps (Int.toNat v0.1)).1 (@elemAt PixT ps (Int.toNat v0.1)).2.2.2) (Int.decLt (@elemAt PixT ps (Int.toNat v0.1)).2.2.2 (@elemAt PixT ps (Int.toNat v0.1)).1)) false → True) ∧ (@Eq Bool (@decide (@GT.gt Int _ (@elemAt PixT ps (Int.toNat v0.1)).1 (@elemAt PixT ps (Int.toNat v0.1)).2.2.2) (Int.decLt (@elemAt PixT ps (Int.toNat v0.1)).2.2.2 (@elemAt PixT ps (Int.toNat v0.1)).1)) false → True) ∧ True ∧ True ∧ (@Eq Bool (or (@decide (@GT.gt Int _ (@elemAt PixT ps (Int.toNat v0.1)).1 (@elemAt PixT ps (Int.toNat v0.1)).2.2.2) (Int.decLt (@elemAt PixT ps (Int.toNat v0.1)).2.2.2 (@elemAt PixT ps (Int.toNat v0.1)).1)) (@decide (@GT.gt Int _ (@elemAt PixT ps (Int.toNat v0.1)).2.1 (@elemAt PixT ps (Int.toNat v0.1)).2.2.2) (Int.decLt (@elemAt PixT ps (Int.toNat v0.1)).2.2.2 (@elemAt PixT ps (Int.toNat v0.1)).2.1))) false → True) ∧ (@Eq Bool (or (@decide (@GT.gt Int _ (@elemAt PixT ps (Int.toNat v0.1)).1 (@elemAt PixT ps (Int.toNat v0.1)).2.2.2) (Int.decLt (@elemAt PixT ps (Int.toNat v0.1)).2.2.2 (@elemAt PixT ps (Int.toNat v0.1)).1)) (@decide (@GT.gt Int _ (@elemAt PixT ps (Int.toNat v0.1)).2.1 (@elemAt PixT ps (Int.toNat v0.1)).2.2.2) (Int.decLt (@elemAt PixT ps (Int.toNat v0.1)).2.2.2 (@elemAt PixT ps (Int.toNat v0.1)).2.1))) false → True) ∧ (@Eq Bool (or (@decide (@GT.gt Int _ (@elemAt PixT ps (Int.toNat v0.1)).1 (@elemAt PixT ps (Int.toNat v0.1)).2.2.2) (Int.decLt (@elemAt PixT ps (Int.toNat v0.1)).2.2.2 (@elemAt PixT ps (Int.toNat v0.1)).1)) (@decide (@GT.gt Int _ (@elemAt PixT ps (Int.toNat v0.1)).2.1 (@elemAt PixT ps (Int.toNat v0.1)).2.2.2) (Int.decLt (@elemAt PixT ps (Int.toNat v0.1)).2.2.2 (@elemAt PixT ps (Int.toNat v0.1)).2.1))) false → True) ∧ (@Eq Bool (or (@decide (@GT.gt Int _ (@elemAt PixT ps (Int.toNat v0.1)).1 (@elemAt PixT ps (Int.toNat v0.1)).2.2.2) (Int.decLt (@elemAt PixT ps (Int.toNat v0.1)).2.2.2 (@elemAt PixT ps (Int.toNat v0.1)).1)) (@decide (@GT.gt Int _ (@elemAt PixT ps (Int.toNat v0.1)).2.1 (@elemAt PixT ps (Int.toNat v0.1)).2.2.2) (Int.decLt (@elemAt PixT ps (Int.toNat v0.1)).2.2.2 (@elemAt PixT ps (Int.toNat v0.1)).2.1))) false → True) ∧ (@Eq Bool (or (@decide (@GT.gt Int _ (@elemAt PixT ps (Int.toNat v0.1)).1 (@elemAt PixT ps (Int.toNat v0.1)).2.2.2) (Int.decLt (@elemAt PixT ps (Int.toNat v0.1)).2.2.2 (@elemAt PixT ps (Int.toNat v0.1)).1)) (@decide (@GT.gt Int _ (@elemAt PixT ps (Int.toNat v0.1)).2.1 (@elemAt PixT ps (Int.toNat v0.1)).2.2.2) (Int.decLt (@elemAt PixT ps (Int.toNat v0.1)).2.2.2 (@elemAt PixT ps (Int.toNat v0.1)).2.1))) false → True) ∧ True ∧ (@Eq Bool (or (or (@decide (@GT.gt Int _ (@elemAt PixT ps (Int.toNat v0.1)).1 (@elemAt PixT ps (Int.toNat v0.1)).2.2.2) (Int.decLt (@elemAt PixT ps (Int.toNat v0.1)).2.2.2 (@elemAt PixT ps (Int.toNat v0.1)).1)) (@decide (@GT.gt Int _ (@elemAt PixT ps (Int.toNat v0.1)).2.1 (@elemAt PixT ps (Int.toNat v0.1)).2.2.2) (Int.decLt (@elemAt PixT ps (Int.toNat v0.1)).2.2.2 (@elemAt PixT ps (Int.toNat v0.1)).2.1))) (@decide (@GT.gt Int _ (@elemAt PixT ps (Int.toNat v0.1)).2.2.1 (@elemAt PixT ps (Int.toNat v0.1)).2.2.2) (Int.decLt (@elemAt PixT ps (Int.toNat v0.1)).2.2.2 (@elemAt PixT ps (Int.toNat v0.1)).2.2.1))) true → (True ∧ (True ∧ True) ∧ @Eq Bool false (bufOk (w, (h, ps))))) ∧ (@Eq Bool (or (or (@decide (@GT.gt Int _ (@elemAt PixT ps (Int.toNat v0.1)).1 (@elemAt PixT ps (Int.toNat v0.1)).2.2.2) (Int.decLt (@elemAt PixT ps (Int.toNat v0.1)).2.2.2 (@elemAt PixT ps (Int.toNat v0.1)).1)) (@decide (@GT.gt Int _ (@elemAt PixT ps (Int.toNat v0.1)).2.1 (@elemAt PixT ps (Int.toNat v0.1)).2.2.2) (Int.decLt (@elemAt PixT ps (Int.toNat v0.1)).2.2.2 (@elemAt PixT ps (Int.toNat v0.1)).2.1))) (@decide (@GT.gt Int _ (@elemAt PixT ps (Int.toNat v0.1)).2.2.1 (@elemAt PixT ps (Int.toNat v0.1)).2.2.2) (Int.decLt (@elemAt PixT ps (Int.toNat v0.1)).2.2.2 (@elemAt PixT ps (Int.toNat v0.1)).2.2.1))) false → (True ∧ True ∧ True ∧ (True ∧ (@Eq Int (IntKind.i64.wrap (@HAdd.hAdd Int Int Int _ v0.1 1)) (IntKind.i64.wrap (@HAdd.hAdd Int Int Int _ v0.1 1)) ∧ @Eq Bool (or (not (and (sizeOk w) (sizeOk h))) (bne (@Nat.cast Int _ (List.length ps)) (IntKind.i64.wrap (@HMul.hMul Int Int Int _ w h)))) (or (not (and (sizeOk w) (sizeOk h))) (bne (@Nat.cast Int _ (List.length ps)) (IntKind.i64.wrap (@HMul.hMul Int Int Int _ w h)))) ∧ @Eq Bool (not (and (sizeOk w) (sizeOk h))) (not (and (sizeOk w) (sizeOk h))) ∧ @Eq Bool (not (and (sizeOk w) (sizeOk h))) (not (and (sizeOk w) (sizeOk h))) ∧ @Eq Bool (and (sizeOk w) (sizeOk h)) (and (sizeOk w) (sizeOk h)) ∧ @Eq Int h h ∧ True ∧ @Eq Int w w ∧ True ∧ True ∧ (@Eq Int w w ∧ @Eq Int h h ∧ @Eq _ ps ps ∧ True) ∧ True) ∧ (@Eq Int w w ∧ @Eq Int h h ∧ @Eq _ ps ps ∧ True) ∧ True) ∧ ((@LE.le Int _ 0 (IntKind.i64.wrap (@HAdd.hAdd Int Int Int _ v0.1 1)) ∧ @LE.le Int _ (IntKind.i64.wrap (@HAdd.hAdd Int Int Int _ v0.1 1)) (@Nat.cast (Pl.T (Pl.slot 3 I64)) _ (List.length (h, ps).2))) ∧ @Eq Bool (List.any (List.take (Int.toNat (IntKind.i64.wrap (@HAdd.hAdd Int Int Int _ v0.1 1))) (h, ps).2) (fun (v1 : (Ty.T PixT)) => (not (pixOk v1)))) false) ∧ @LT.lt Nat _ (Int.toNat (@HSub.hSub Int Int Int _ (@Nat.cast Int _ (List.length (h, ps).2)) (IntKind.i64.wrap (@HAdd.hAdd Int Int Int _ v0.1 1)))) (Int.toNat (@HSub.hSub Int Int Int _ (@Nat.cast Int _ (List.length (h, ps).2)) v0.1)))))) ∧ (@Eq Bool (@decide (@LT.lt Int _ v0.1 (@Nat.cast Int _ (List.length ps))) (Int.decLt v0.1 (@Nat.cast Int _ (List.length ps)))) false → (True ∧ (True ∧ True) ∧ @Eq Bool true (bufOk (w, (h, ps)))))))))))) (by kernel_rfl) ?_
  simp only [true_and, and_true, decide_eq_true_eq, decide_eq_false_iff_not, forall_const, implies_true, and_self]
  have hm : (sizeOk w && sizeOk h) = true → IntKind.i64.wrap (w * h) = w * h := by
    intro hs
    simp only [sizeOk, Bool.and_eq_true, decide_eq_true_eq] at hs
    have := mul_range (p := w) (q := h) (B := 256) (by omega) (by omega)
    exact wrap_in (by omega)
  refine ⟨fun hc => ?_, fun hc => ⟨⟨⟨by omega, Int.natCast_nonneg _⟩, rfl⟩, ?_⟩⟩
  · by_cases hs : (sizeOk w && sizeOk h) = true
    · rw [hm hs, hs] at hc
      have hc : ¬ (ps.length : Int) = w * h := by simpa using hc
      unfold bufOk
      simp only [hs, decide_eq_false hc, Bool.and_false, Bool.false_and]
    · have hs : (sizeOk w && sizeOk h) = false := by simpa using hs
      unfold bufOk
      simp only [hs, Bool.false_and]
  · simp only [Bool.or_eq_false_iff, Bool.not_eq_false'] at hc
    obtain ⟨hs, hl⟩ := hc
    rw [hm hs] at hl
    have hl : (ps.length : Int) = w * h := by simpa using hl
    have hb : bufOk (w, h, ps) = !(ps.any fun p => !pixOk p) := by
      unfold bufOk
      simp only [hs, decide_eq_true hl, Bool.true_and]
    rw [hb]
    clear hb hm hl
    rintro ⟨i, _⟩ ⟨⟨h0, h1⟩, he⟩
    simp only at h0 h1 he ⊢
    refine ⟨fun hi => ?_, fun hi => ?_⟩
    · have hx2 := elemAt_get (t := PixT) ps i.toNat (by omega)
      rw [wrap_in (by omega), show (i + 1).toNat = i.toNat + 1 by omega]
      refine ⟨⟨h0, by omega⟩, fun hc => ?_, fun hc => ⟨⟨⟨by omega, by omega⟩, ?_⟩, by omega⟩⟩
      · have : (ps.any fun p => !pixOk p) = true := List.any_eq_true.2 ⟨_, List.mem_of_getElem? hx2, by rw [pix_iff, hc]; rfl⟩
        rw [this]
        rfl
      · rw [List.take_add_one, hx2, List.any_append, he]
        simp only [Option.toList, List.any_cons, List.any_nil, Bool.or_false, Bool.false_or]
        rw [pix_iff, hc]
        rfl
    · rw [List.take_of_length_le (by omega)] at he
      rw [he]
      rfl
abbrev K36 : KCons := (83, fun Γc => pure_ Γc ((pcon [.d BufT] fun x => (x.1.2.2.length ≤ 9223372036854775807, .bool (bufOk x.1))))) :: K35
theorem HK36 : KS Tryz.prog K36 := ks_add (ksound_pure (s_r10Valid)) HK35
theorem s_r25Bounds : PSound Tryz.prog 54 (pcon [.d ItemT] fun x => (itemLen x.1, .agg (enc RectT (boundsI x.1)))) := by
  refine psoundF (K := K36) (Γc := C9) (Γr := R0) (fun _ => []) hm HK36 HC9 HR0 Tryz.call54 Tryz.func54 (by kernel_rfl) ?_
  rintro ⟨i, _⟩ hx
  obtain ⟨h1, h2, h3⟩ : itemLen i := hx
  refine Eq.mpr (β := (True ∧ True ∧ True ∧ True ∧ True ∧ True ∧ True ∧ True ∧ True ∧ (@Eq Bool (not (posOk i.2.2.1 i.2.2.2.1)) false → True) ∧ (@Eq Bool (not (posOk i.2.2.1 i.2.2.2.1)) false → True) ∧ (@Eq Bool (not (posOk i.2.2.1 i.2.2.2.1)) false → @LE.le Nat _ (List.length i.2.2.2.2.1.2.2) 9223372036854775807) ∧ (@Eq Bool (not (posOk i.2.2.1 i.2.2.2.1)) false → True) ∧ True ∧ (@Eq Bool (or (not (posOk i.2.2.1 i.2.2.2.1)) (not (bufOk i.2.2.2.2.1))) true → (True ∧ True ∧ (True ∧ True) ∧ @Eq Int 0 (boundsI i).1 ∧ @Eq Int 0 (boundsI i).2.1 ∧ @Eq Int 0 (boundsI i).2.2.1 ∧ @Eq Int 0 (boundsI i).2.2.2 ∧ True)) ∧ (@Eq Bool (or (not (posOk i.2.2.1 i.2.2.2.1)) (not (bufOk i.2.2.2.2.1))) false → (True ∧ True ∧ True ∧ True ∧ True ∧ True ∧ True ∧ True ∧ True ∧ True ∧ True ∧ True ∧ True ∧ True ∧ True ∧ True ∧ True ∧ True ∧ (True ∧ True) ∧ @Eq Int i.2.2.1 (boundsI i).1 ∧ @Eq Int i.2.2.2.1 (boundsI i).2.1 ∧ @Eq Int (IntKind.i64.wrap (@HAdd.hAdd Int Int Int _ i.2.2.1 i.2.2.2.2.1.1)) (boundsI i).2.2.1 ∧ @Eq Int (IntKind.i64.wrap (@HAdd.hAdd Int Int Int _ i.2.2.2.1 i.2.2.2.2.1.2.1)) (boundsI i).2.2.2 ∧ True)))) (by kernel_rfl) ?_
  simp only [true_and, and_true, decide_eq_true_eq, decide_eq_false_iff_not, forall_const, implies_true, and_self]
  refine ⟨fun _ => h1, fun h => ?_, fun h => ?_⟩
  · have ha : areaI i = (0, 0, 0, 0) := by
      unfold areaI
      rw [if_neg]
      intro hh
      simp only [Bool.and_eq_true] at hh
      rw [hh.1, hh.2] at h
      cases h
    unfold boundsI
    rw [if_pos ha]
    exact ⟨rfl, rfl, rfl, rfl⟩
  · simp only [Bool.or_eq_false_iff, Bool.not_eq_false'] at h
    have ha : areaI i = (0, 0, i.2.2.2.2.1.1, i.2.2.2.2.1.2.1) := by
      unfold areaI
      rw [if_pos (by rw [h.1, h.2]; rfl)]
    have hw := h.2
    unfold bufOk at hw
    simp only [sizeOk, Bool.and_eq_true, decide_eq_true_eq] at hw
    have hp := h.1
    unfold posOk at hp
    simp only [Bool.and_eq_true, decide_eq_true_eq] at hp
    have hn : ¬ areaI i = (0, 0, 0, 0) := by
      rw [ha]
      intro hh
      have h3 := congrArg (fun r : Rect => r.2.2.1) hh
      simp only at h3
      omega
    unfold boundsI
    rw [if_neg hn, ha, wrap_in (by omega), wrap_in (by omega)]
    exact ⟨rfl, rfl, rfl, rfl⟩
abbrev K37 : KCons := (54, fun Γc => pure_ Γc ((pcon [.d ItemT] fun x => (itemLen x.1, .agg (enc RectT (boundsI x.1)))))) :: K36
theorem HK37 : KS Tryz.prog K37 := ks_add (ksound_pure (s_r25Bounds)) HK36
def cutL (i : Item) (l : List Rect) : List Rect := combinedL l [(0, 0, i.2.2.2.2.1.1, i.2.2.2.2.1.2.1)] 2
def movL (i : Item) (l : List Rect) : List Rect := combinedL (shiftsL (limL (cutL i l)) i.2.2.1 i.2.2.2.1) [] 1
def placedL (i : Item) (l : List Rect) : List Rect := if boundsI i = (0, 0, 0, 0) then [] else if limE (cutL i l) ≠ 0 then [] else if limE (movL i l) ≠ 0 then [] else limL (movL i l)
theorem s_r25placed : PSound Tryz.prog 93 (pcon [.d ItemT, .d (.list RectT)] fun x => (itemLen x.1 ∧ x.2.1.length ≤ 1000, .own RectT (placedL x.1 x.2.1))) := by
  refine psoundF (K := K37) (Γc := C9) (Γr := R0) (fun _ => []) hm HK37 HC9 HR0 Tryz.call93 Tryz.func93 (by kernel_rfl) ?_
  rintro ⟨i, l, _⟩ hx
  obtain ⟨h1, h2⟩ : itemLen i ∧ l.length ≤ 1000 := hx
  refine Eq.mpr (β := (True ∧ True ∧ True ∧ (@LE.le Nat _ (List.length i.2.2.2.2.1.2.2) 9223372036854775807 ∧ @LE.le Nat _ (List.length i.2.2.2.2.2.1) 9223372036854775807 ∧ @LE.le Nat _ (List.length i.2.2.2.2.2.2) 9223372036854775807) ∧ True ∧ True ∧ (@Eq Bool (and (BEq.beq (boundsI i).1 0) (and (BEq.beq (boundsI i).2.1 0) (and (BEq.beq (boundsI i).2.2.1 0) (BEq.beq (boundsI i).2.2.2 0)))) true → (True ∧ (True ∧ True) ∧ @Eq _ (placedL i l) ([] : List (Ty.T RectT)))) ∧ (@Eq Bool (and (BEq.beq (boundsI i).1 0) (and (BEq.beq (boundsI i).2.1 0) (and (BEq.beq (boundsI i).2.2.1 0) (BEq.beq (boundsI i).2.2.2 0)))) false → (True ∧ True ∧ True ∧ True ∧ True ∧ True ∧ True ∧ True ∧ (@LE.le Nat _ (List.length l) 1000 ∧ @LE.le Nat _ (List.length ((0, (0, (i.2.2.2.2.1.1, i.2.2.2.2.1.2.1))) :: ([] : List (Ty.T RectT)))) 1000) ∧ True ∧ True ∧ True ∧ True ∧ True ∧ True ∧ True ∧ (@Eq Bool (bne (limE (combinedL l ((0, (0, (i.2.2.2.2.1.1, i.2.2.2.2.1.2.1))) :: ([] : List (Ty.T RectT))) 2)) 0) true → (True ∧ (True ∧ True) ∧ @Eq _ (placedL i l) ([] : List (Ty.T RectT)))) ∧ (@Eq Bool (bne (limE (combinedL l ((0, (0, (i.2.2.2.2.1.1, i.2.2.2.2.1.2.1))) :: ([] : List (Ty.T RectT))) 2)) 0) false → (True ∧ True ∧ True ∧ True ∧ True ∧ @LE.le Nat _ (List.length (limL (combinedL l ((0, (0, (i.2.2.2.2.1.1, i.2.2.2.2.1.2.1))) :: ([] : List (Ty.T RectT))) 2))) 1000 ∧ True ∧ True ∧ True ∧ True ∧ True ∧ True ∧ True ∧ (@Eq Bool (bne (limE (combinedL (shiftsL (limL (combinedL l ((0, (0, (i.2.2.2.2.1.1, i.2.2.2.2.1.2.1))) :: ([] : List (Ty.T RectT))) 2)) i.2.2.1 i.2.2.2.1) ([] : List Rect) 1)) 0) true → (True ∧ (True ∧ True) ∧ @Eq _ (placedL i l) ([] : List (Ty.T RectT)))) ∧ (@Eq Bool (bne (limE (combinedL (shiftsL (limL (combinedL l ((0, (0, (i.2.2.2.2.1.1, i.2.2.2.2.1.2.1))) :: ([] : List (Ty.T RectT))) 2)) i.2.2.1 i.2.2.2.1) ([] : List Rect) 1)) 0) false → (True ∧ True ∧ (True ∧ True) ∧ @Eq _ (limL (combinedL (shiftsL (limL (combinedL l ((0, (0, (i.2.2.2.2.1.1, i.2.2.2.2.1.2.1))) :: ([] : List (Ty.T RectT))) 2)) i.2.2.1 i.2.2.2.1) ([] : List Rect) 1)) (placedL i l))))))))) (by kernel_rfl) ?_
  simp only [true_and, and_true, decide_eq_true_eq, decide_eq_false_iff_not, forall_const, implies_true, and_self]
  have hll : ∀ xs : List Rect, (limL xs).length ≤ 1000 := by
    intro xs
    unfold limL
    split
    · omega
    · simp
  refine ⟨h1, fun h => ?_, fun h => ⟨⟨h2, by simp⟩, fun g => ?_, fun g => ⟨hll _, fun k => ?_, fun k => ?_⟩⟩⟩
  · have hb : boundsI i = (0, 0, 0, 0) := by
      simp only [Bool.and_eq_true, beq_iff_eq] at h
      exact Prod.ext h.1 (Prod.ext h.2.1 (Prod.ext h.2.2.1 h.2.2.2))
    unfold placedL
    rw [if_pos hb]
  all_goals
    have hb : ¬ boundsI i = (0, 0, 0, 0) := by
      intro hb
      rw [hb] at h
      cases h
  · unfold placedL
    rw [if_neg hb, if_pos (show limE (cutL i l) ≠ 0 by simpa [cutL] using g)]
  · unfold placedL
    rw [if_neg hb, if_neg (show ¬ limE (cutL i l) ≠ 0 by simpa [cutL] using g), if_pos (show limE (movL i l) ≠ 0 by simpa [movL, cutL] using k)]
  · unfold placedL
    rw [if_neg hb, if_neg (show ¬ limE (cutL i l) ≠ 0 by simpa [cutL] using g), if_neg (show ¬ limE (movL i l) ≠ 0 by simpa [movL, cutL] using k)]
    rfl
abbrev K38 : KCons := (93, fun Γc => pure_ Γc ((pcon [.d ItemT, .d (.list RectT)] fun x => (itemLen x.1 ∧ x.2.1.length ≤ 1000, .own RectT (placedL x.1 x.2.1))))) :: K37
theorem HK38 : KS Tryz.prog K38 := ks_add (ksound_pure (s_r25placed)) HK37
end Go.Proofs.YtogbocplojbdjaaGreat
