/-
  A part of the proof: what some of the program's functions compute.
-/
import Derived.Test.YtogbocplojbdjaaVOB
namespace Go.Proofs.Ytogbocplojbdjaa
open Go Go.E Go.Proofs
set_option linter.unusedVariables false
set_option linter.unusedSimpArgs false
theorem con_zero {l : List Item} {r : Rect} (h : conE l r = 0) : sceneOk l = true ∧ ∃ ps c, conL r l = some (ps, c) ∧ conO l r = (ps, c) := by
  rw [conE] at h
  split at h
  · rename_i hs
    split at h
    · rename_i hc
      obtain ⟨⟨ps, c⟩, hp⟩ := Option.isSome_iff_exists.1 hc
      exact ⟨hs, ps, c, hp, (con_done hs hp).1⟩
    · cases h
  · cases h
theorem con_bad {l : List Item} {r : Rect} (h : conE l r ≠ 0) : conO l r = ([], []) := by
  rw [conE] at h
  rw [conO]
  split at h
  · rename_i hs
    rw [if_pos hs]
    split at h
    · exact absurd rfl h
    · rename_i hc
      have : conL r l = none := by simpa using hc
      rw [this]
      rfl
  · rename_i hs
    rw [if_neg hs]
theorem con_cov_le (l : List Item) (r : Rect) : (conO l r).2.length ≤ 256 := by
  by_cases h : conE l r = 0
  · obtain ⟨_, ps, c, h1, h2⟩ := con_zero h
    rw [h2]
    exact (con_facts h1).few
  · rw [con_bad h]
    simp
theorem con_par_len {l : List Item} {r : Rect} (h : conE l r = 0) : (conO l r).1.length = l.length := by
  obtain ⟨_, ps, c, h1, h2⟩ := con_zero h
  rw [h2]
  exact (con_facts h1).len
def hidK (ps : List (List Rect)) (n : Nat) : List Int := ((List.range n).filter fun k => (elemAt (t := .list RectT) ps k).length == 0).map fun k : Nat => (k : Int)
def hidL (ps : List (List Rect)) : List Int := hidK ps ps.length
theorem hidK_step (ps : List (List Rect)) (n : Nat) : hidK ps (n + 1) = hidK ps n ++ if (elemAt (t := .list RectT) ps n).length = 0 then [(n : Int)] else [] := by
  unfold hidK
  rw [List.range_succ, List.filter_append, List.map_append]
  congr 1
  by_cases h : (elemAt (t := .list RectT) ps n).length = 0
  · rw [if_pos h]
    simp [List.filter, h]
  · rw [if_neg h]
    have hb : (List.length (elemAt (t := .list RectT) ps n) == 0) = false := by simpa using h
    simp only [List.filter, hb, List.map_nil]
theorem hidK_len (ps : List (List Rect)) (n : Nat) : (hidK ps n).length ≤ n := by
  unfold hidK
  rw [List.length_map]
  exact Nat.le_trans (List.length_filter_le _ _) (by simp)
def bgP (l : List Item) (r : Rect) : List Rect := combinedL [canonR r] (conO l r).2 3
def bgO (l : List Item) (r : Rect) : List Rect := if conE l r = 0 then limL (bgP l r) else []
def bgE (l : List Item) (r : Rect) : Int := if conE l r = 0 then limE (bgP l r) else conE l r
theorem s_oVisible : PSound Try.prog 11 (pcon [.d (.list ItemT), .d RectT] fun x => (ScPre x.1, .tup [.own (.list RectT) (conO x.1 x.2.1).1, .int .i64 (conE x.1 x.2.1)])) := by
  refine psoundF (K := K59) (Γc := C33) (Γr := R0) (fun _ => []) hm HK59 HC33 HR0 Try.call11 Try.func11 (by kernel_rfl) ?_
  rintro ⟨l, r, _⟩ hx
  have hx : ScPre l := hx
  refine Eq.mpr (β := (True ∧ True ∧ True ∧ True ∧ True ∧ (ScPre l) ∧ True ∧ True ∧ True ∧ True ∧ True ∧ True ∧ True ∧ True ∧ True ∧ True ∧ True ∧ (True ∧ True ∧ True) ∧ @Eq _ (conO l r).1 (conO l r).1 ∧ @Eq Int (conE l r) (conE l r) ∧ True)) (by kernel_rfl) ?_
  simp only [true_and, and_true, decide_eq_true_eq, decide_eq_false_iff_not, forall_const, implies_true, and_self]
  exact hx
abbrev K60 : KCons := (11, fun Γc => pure_ Γc ((pcon [.d (.list ItemT), .d RectT] fun x => (ScPre x.1, .tup [.own (.list RectT) (conO x.1 x.2.1).1, .int .i64 (conE x.1 x.2.1)])))) :: K59
theorem HK60 : KS Try.prog K60 := ks_add (ksound_pure (s_oVisible)) HK59
theorem s_oCovered : PSound Try.prog 20 (pcon [.d (.list ItemT), .d RectT] fun x => (ScPre x.1, .tup [.own RectT (conO x.1 x.2.1).2, .int .i64 (conE x.1 x.2.1)])) := by
  refine psoundF (K := K60) (Γc := C33) (Γr := R0) (fun _ => []) hm HK60 HC33 HR0 Try.call20 Try.func20 (by kernel_rfl) ?_
  rintro ⟨l, r, _⟩ hx
  have hx : ScPre l := hx
  refine Eq.mpr (β := (True ∧ True ∧ True ∧ True ∧ True ∧ (ScPre l) ∧ True ∧ True ∧ True ∧ True ∧ True ∧ True ∧ True ∧ True ∧ True ∧ True ∧ True ∧ (True ∧ True ∧ True) ∧ @Eq _ (conO l r).2 (conO l r).2 ∧ @Eq Int (conE l r) (conE l r) ∧ True)) (by kernel_rfl) ?_
  simp only [true_and, and_true, decide_eq_true_eq, decide_eq_false_iff_not, forall_const, implies_true, and_self]
  exact hx
abbrev K61 : KCons := (20, fun Γc => pure_ Γc ((pcon [.d (.list ItemT), .d RectT] fun x => (ScPre x.1, .tup [.own RectT (conO x.1 x.2.1).2, .int .i64 (conE x.1 x.2.1)])))) :: K60
theorem HK61 : KS Try.prog K61 := ks_add (ksound_pure (s_oCovered)) HK60
theorem s_oBackground : PSound Try.prog 19 (pcon [.d (.list ItemT), .d RectT] fun x => (ScPre x.1, .tup [.own RectT (bgO x.1 x.2.1), .int .i64 (bgE x.1 x.2.1)])) := by
  refine psoundF (K := K61) (Γc := C33) (Γr := R0) (fun _ => []) hm HK61 HC33 HR0 Try.call19 Try.func19 (by kernel_rfl) ?_
  rintro ⟨l, r, _⟩ hx
  have hx : ScPre l := hx
  refine Eq.mpr (β := (True ∧ True ∧ True ∧ True ∧ True ∧ (ScPre l) ∧ True ∧ True ∧ True ∧ True ∧ True ∧ True ∧ True ∧ True ∧ (@Eq Bool (bne (conE l r) 0) true → (True ∧ True ∧ True ∧ (True ∧ True ∧ True) ∧ @Eq _ (bgO l r) ([] : List (Ty.T RectT)) ∧ @Eq Int (conE l r) (bgE l r) ∧ True)) ∧ (@Eq Bool (bne (conE l r) 0) false → ((True ∧ True ∧ True ∧ True ∧ True ∧ (@LE.le Nat _ (List.length ((canonR r) :: ([] : List (Ty.T RectT)))) 1000 ∧ @LE.le Nat _ (List.length (conO l r).2) 1000) ∧ True ∧ True ∧ True ∧ True ∧ True) ∧ (True ∧ True ∧ True) ∧ @Eq _ (limL (combinedL ((canonR r) :: ([] : List (Ty.T RectT))) (conO l r).2 3)) (bgO l r) ∧ @Eq Int (limE (combinedL ((canonR r) :: ([] : List (Ty.T RectT))) (conO l r).2 3)) (bgE l r) ∧ True)))) (by kernel_rfl) ?_
  simp only [true_and, and_true, decide_eq_true_eq, decide_eq_false_iff_not, forall_const, implies_true, and_self]
  have hc := con_cov_le l r
  refine ⟨hx, fun h => ?_, fun h => ?_⟩
  · have h : ¬ conE l r = 0 := by simpa using h
    rw [bgO, bgE, if_neg h, if_neg h]
    exact ⟨rfl, rfl⟩
  · have h : conE l r = 0 := by simpa using h
    rw [bgO, bgE, if_pos h, if_pos h]
    exact ⟨⟨by simp, by omega⟩, rfl, rfl⟩
abbrev K62 : KCons := (19, fun Γc => pure_ Γc ((pcon [.d (.list ItemT), .d RectT] fun x => (ScPre x.1, .tup [.own RectT (bgO x.1 x.2.1), .int .i64 (bgE x.1 x.2.1)])))) :: K61
theorem HK62 : KS Try.prog K62 := ks_add (ksound_pure (s_oBackground)) HK61
theorem s_oHidden : PSound Try.prog 12 (pcon [.d (.list ItemT), .d RectT] fun x => (ScPre x.1, .tup [.own I64 (hidL (conO x.1 x.2.1).1), .int .i64 (conE x.1 x.2.1)])) := by
  refine psoundF (K := K62) (Γc := C33) (Γr := R0) (fun x => [(6, annP [.slot 21 I64, .own 8 I64] (fun _ y => (0 ≤ y.1 ∧ y.1 ≤ x.1.length) ∧ y.2.1 = hidK (conO x.1 x.2.1).1 y.1.toNat) (fun y => (x.1.length - y.1 : Int).toNat))]) hm HK62 HC33 HR0 Try.call12 Try.func12 (by kernel_rfl) ?_
  rintro ⟨l, r, _⟩ hx
  have hx : ScPre l := hx
  refine Eq.mpr (β := (True ∧ True ∧ True ∧ True ∧ True ∧ (ScPre l) ∧ True ∧ True ∧ True ∧ True ∧ True ∧ True ∧ True ∧ True ∧ (@Eq Bool (bne (conE l r) 0) true → (True ∧ True ∧ True ∧ (True ∧ True ∧ True) ∧ @Eq _ (hidL (conO l r).1) ([] : List (Ty.T I64)) ∧ @Eq Int (conE l r) (conE l r) ∧ True)) ∧ (@Eq Bool (bne (conE l r) 0) false → (True ∧ True ∧ True ∧ True ∧ ((True ∧ (@Eq Int 0 0 ∧ @Eq Int (@Nat.cast Int _ (List.length l)) (@Nat.cast Int _ (List.length l)) ∧ @Eq _ l l ∧ True ∧ @Eq Bool (bne (conE l r) 0) (bne (conE l r) 0) ∧ @Eq Int (conE l r) (conE l r) ∧ @Eq Int (conE l r) (conE l r) ∧ True ∧ @Eq Int (conE l r) (conE l r) ∧ (True ∧ True ∧ True) ∧ ((True ∧ True ∧ True) ∧ @Eq Int (conE l r) (conE l r) ∧ True) ∧ ((True ∧ True ∧ True) ∧ @Eq Int (conE l r) (conE l r) ∧ True) ∧ (@Eq Int r.1 r.1 ∧ @Eq Int r.2.1 r.2.1 ∧ @Eq Int r.2.2.1 r.2.2.1 ∧ @Eq Int r.2.2.2 r.2.2.2 ∧ True) ∧ @Eq _ l l ∧ @Eq Int 0 0 ∧ True ∧ True ∧ @Eq _ l l ∧ (@Eq Int r.1 r.1 ∧ @Eq Int r.2.1 r.2.1 ∧ @Eq Int r.2.2.1 r.2.2.1 ∧ @Eq Int r.2.2.2 r.2.2.2 ∧ True) ∧ True) ∧ (@Eq Int r.1 r.1 ∧ @Eq Int r.2.1 r.2.1 ∧ @Eq Int r.2.2.1 r.2.2.1 ∧ @Eq Int r.2.2.2 r.2.2.2 ∧ True) ∧ @Eq _ (conO l r).2 (conO l r).2 ∧ @Eq _ (conO l r).1 (conO l r).1 ∧ (True ∧ True ∧ True) ∧ @Eq _ ([] : List (Ty.T I64)) ([] : List (Ty.T I64)) ∧ True) ∧ (@LE.le Int _ 0 0 ∧ @LE.le Int _ 0 (@Nat.cast (Pl.T (Pl.slot 21 I64)) _ (List.length l))) ∧ @Eq _ ([] : List (Ty.T I64)) (hidK (conO l r).1 0)) ∧ (∀ (v0 : (Prod Int (Prod (List Int) Unit))), (((@LE.le Int _ 0 v0.1 ∧ @LE.le Int _ v0.1 (@Nat.cast (Pl.T (Pl.slot 21 I64)) _ (List.length l))) ∧ @Eq _ v0.2.1 (hidK (conO l r).1 (Int.toNat v0.1))) → (True ∧ (@Eq Bool (@decide (@LT.lt Int _ v0.1 (@Nat.cast Int _ (List.length l))) (Int.decLt v0.1 (@Nat.cast Int _ (List.length l)))) true → (True ∧ True ∧ True ∧ True ∧ True ∧ (@LE.le Int _ 0 v0.1 ∧ @LE.le Int _ (@HAdd.hAdd Int Int Int _ v0.1 1) (@Nat.cast Int _ (List.length (conO l r).1))) ∧ @LT.lt Nat _ (Int.toNat v0.1) (List.length (conO l r).1) ∧ True ∧ True ∧ (@Eq Bool (BEq.beq (@Nat.cast Int _ (List.length (@elemAt (Ty.list RectT) (conO l r).1 (Int.toNat v0.1)))) 0) true → (True ∧ True ∧ True ∧ @LE.le Nat _ (@HMul.hMul Nat Nat Nat _ (@HAdd.hAdd Nat Nat Nat _ (List.length v0.2.1) (List.length (v0.1 :: ([] : List (Ty.T (Ty.int IntKind.i64)))))) 8) 140737488355328 ∧ True ∧ True ∧ True ∧ (True ∧ (@Eq Int (IntKind.i64.wrap (@HAdd.hAdd Int Int Int _ v0.1 1)) (IntKind.i64.wrap (@HAdd.hAdd Int Int Int _ v0.1 1)) ∧ @Eq Int (@Nat.cast Int _ (List.length l)) (@Nat.cast Int _ (List.length l)) ∧ @Eq _ l l ∧ True ∧ @Eq Bool (bne (conE l r) 0) (bne (conE l r) 0) ∧ @Eq Int (conE l r) (conE l r) ∧ @Eq Int (conE l r) (conE l r) ∧ True ∧ @Eq Int (conE l r) (conE l r) ∧ (True ∧ True ∧ True) ∧ ((True ∧ True ∧ True) ∧ @Eq Int (conE l r) (conE l r) ∧ True) ∧ ((True ∧ True ∧ True) ∧ @Eq Int (conE l r) (conE l r) ∧ True) ∧ (@Eq Int r.1 r.1 ∧ @Eq Int r.2.1 r.2.1 ∧ @Eq Int r.2.2.1 r.2.2.1 ∧ @Eq Int r.2.2.2 r.2.2.2 ∧ True) ∧ @Eq _ l l ∧ @Eq Int 0 0 ∧ True ∧ True ∧ @Eq _ l l ∧ (@Eq Int r.1 r.1 ∧ @Eq Int r.2.1 r.2.1 ∧ @Eq Int r.2.2.1 r.2.2.1 ∧ @Eq Int r.2.2.2 r.2.2.2 ∧ True) ∧ True) ∧ (@Eq Int r.1 r.1 ∧ @Eq Int r.2.1 r.2.1 ∧ @Eq Int r.2.2.1 r.2.2.1 ∧ @Eq Int r.2.2.2 r.2.2.2 ∧ True) ∧ @Eq _ (conO l r).2 (conO l r).2 ∧ @Eq _ (conO l r).1 (conO l r).1 ∧ (True ∧ True ∧ True) ∧ @Eq _ (HAppend.hAppend v0.2.1 (v0.1 :: ([] : List (Ty.T (Ty.int IntKind.i64))))) (HAppend.hAppend v0.2.1 (v0.1 :: ([] : List (Ty.T (Ty.int IntKind.i64))))) ∧ True) ∧ ((@LE.le Int _ 0 (IntKind.i64.wrap (@HAdd.hAdd Int Int Int _ v0.1 1)) ∧ @LE.le Int _ (IntKind.i64.wrap (@HAdd.hAdd Int Int Int _ v0.1 1)) (@Nat.cast (Pl.T (Pl.slot 21 I64)) _ (List.length l))) ∧ @Eq _ (HAppend.hAppend v0.2.1 (v0.1 :: ([] : List (Ty.T (Ty.int IntKind.i64))))) (hidK (conO l r).1 (Int.toNat (IntKind.i64.wrap (@HAdd.hAdd Int Int Int _ v0.1 1))))) ∧ @LT.lt Nat _ (Int.toNat (@HSub.hSub Int Int Int _ (@Nat.cast Int _ (List.length l)) (IntKind.i64.wrap (@HAdd.hAdd Int Int Int _ v0.1 1)))) (Int.toNat (@HSub.hSub Int Int Int _ (@Nat.cast Int _ (List.length l)) v0.1)))) ∧ (@Eq Bool (BEq.beq (@Nat.cast Int _ (List.length (@elemAt (Ty.list RectT) (conO l r).1 (Int.toNat v0.1)))) 0) false → (True ∧ True ∧ (True ∧ (@Eq Int (IntKind.i64.wrap (@HAdd.hAdd Int Int Int _ v0.1 1)) (IntKind.i64.wrap (@HAdd.hAdd Int Int Int _ v0.1 1)) ∧ @Eq Int (@Nat.cast Int _ (List.length l)) (@Nat.cast Int _ (List.length l)) ∧ @Eq _ l l ∧ True ∧ @Eq Bool (bne (conE l r) 0) (bne (conE l r) 0) ∧ @Eq Int (conE l r) (conE l r) ∧ @Eq Int (conE l r) (conE l r) ∧ True ∧ @Eq Int (conE l r) (conE l r) ∧ (True ∧ True ∧ True) ∧ ((True ∧ True ∧ True) ∧ @Eq Int (conE l r) (conE l r) ∧ True) ∧ ((True ∧ True ∧ True) ∧ @Eq Int (conE l r) (conE l r) ∧ True) ∧ (@Eq Int r.1 r.1 ∧ @Eq Int r.2.1 r.2.1 ∧ @Eq Int r.2.2.1 r.2.2.1 ∧ @Eq Int r.2.2.2 r.2.2.2 ∧ True) ∧ @Eq _ l l ∧ @Eq Int 0 0 ∧ True ∧ True ∧ @Eq _ l l ∧ (@Eq Int r.1 r.1 ∧ @Eq Int r.2.1 r.2.1 ∧ @Eq Int r.2.2.1 r.2.2.1 ∧ @Eq Int r.2.2.2 r.2.2.2 ∧ True) ∧ True) ∧ (@Eq Int r.1 r.1 ∧ @Eq Int r.2.1 r.2.1 ∧ @Eq Int r.2.2.1 r.2.2.1 ∧ @Eq Int r.2.2.2 r.2.2.2 ∧ True) ∧ @Eq _ (conO l r).2 (conO l r).2 ∧ @Eq _ (conO l r).1 (conO l r).1 ∧ (True ∧ True ∧ True) ∧ @Eq _ v0.2.1 v0.2.1 ∧ True) ∧ ((@LE.le Int _ 0 (IntKind.i64.wrap (@HAdd.hAdd Int Int Int _ v0.1 1)) ∧ @LE.le Int _ (IntKind.i64.wrap (@HAdd.hAdd Int Int Int _ v0.1 1)) (@Nat.cast (Pl.T (Pl.slot 21 I64)) _ (List.length l))) ∧ @Eq _ v0.2.1 (hidK (conO l r).1 (Int.toNat (IntKind.i64.wrap (@HAdd.hAdd Int Int Int _ v0.1 1))))) ∧ @LT.lt Nat _ (Int.toNat (@HSub.hSub Int Int Int _ (@Nat.cast Int _ (List.length l)) (IntKind.i64.wrap (@HAdd.hAdd Int Int Int _ v0.1 1)))) (Int.toNat (@HSub.hSub Int Int Int _ (@Nat.cast Int _ (List.length l)) v0.1)))))) ∧ (@Eq Bool (@decide (@LT.lt Int _ v0.1 (@Nat.cast Int _ (List.length l))) (Int.decLt v0.1 (@Nat.cast Int _ (List.length l)))) false → (True ∧ True ∧ True ∧ (True ∧ True ∧ True) ∧ @Eq _ v0.2.1 (hidL (conO l r).1) ∧ @Eq Int 0 (conE l r) ∧ True))))))))) (by kernel_rfl) ?_
  simp only [true_and, and_true, decide_eq_true_eq, decide_eq_false_iff_not, forall_const, implies_true, and_self]
  refine ⟨hx, fun h => ?_, fun h => ?_⟩
  · have h : ¬ conE l r = 0 := by simpa using h
    rw [con_bad h]
    rfl
  have h : conE l r = 0 := by simpa using h
  have hl := con_par_len h
  obtain ⟨hs, _⟩ := con_zero h
  have h128 : List.length l ≤ 128 := scene_len hs
  refine ⟨⟨⟨by omega, by omega⟩, rfl⟩, ?_⟩
  rintro ⟨i, out, _⟩ ⟨⟨g0, g1⟩, ho⟩
  simp only at g0 g1 ho ⊢
  subst ho
  have hk := hidK_len (conO l r).1 i.toNat
  refine ⟨fun hi => ?_, fun hi => ?_⟩
  · have hst := hidK_step (conO l r).1 i.toNat
    have hit : (i.toNat : Int) = i := by omega
    have hw : IntKind.i64.wrap (i + 1) = i + 1 := wrap_in (by omega)
    rw [hw, show (i + 1).toNat = i.toNat + 1 by omega, hst, hit]
    refine ⟨⟨g0, by omega⟩, by omega, fun hz => ⟨?_, ⟨⟨by omega, by omega⟩, ?_⟩, by omega⟩, fun hz => ⟨⟨⟨by omega, by omega⟩, ?_⟩, by omega⟩⟩
    · simp only [List.length_cons, List.length_nil]
      omega
    · have hz : List.length (elemAt (t := .list RectT) (conO l r).1 i.toNat) = 0 := by
        have := eq_of_beq hz
        omega
      rw [if_pos hz]
    · have hz : ¬ List.length (elemAt (t := .list RectT) (conO l r).1 i.toNat) = 0 := fun hh => by
        rw [hh] at hz
        simp at hz
      rw [if_neg hz, List.append_nil]
  · rw [show i.toNat = (conO l r).1.length by omega]
    exact ⟨rfl, h.symm⟩
abbrev K63 : KCons := (12, fun Γc => pure_ Γc ((pcon [.d (.list ItemT), .d RectT] fun x => (ScPre x.1, .tup [.own I64 (hidL (conO x.1 x.2.1).1), .int .i64 (conE x.1 x.2.1)])))) :: K62
theorem HK63 : KS Try.prog K63 := ks_add (ksound_pure (s_oHidden)) HK62
end Go.Proofs.Ytogbocplojbdjaa
