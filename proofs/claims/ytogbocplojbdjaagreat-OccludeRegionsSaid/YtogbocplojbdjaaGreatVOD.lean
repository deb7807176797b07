/-
  A part of the proof: what some of the program's functions compute.
-/
import Derived.Test.YtogbocplojbdjaaGreatVOC
namespace Go.Proofs.YtogbocplojbdjaaGreat
open Go Go.E Go.Proofs
set_option linter.unusedVariables false
set_option linter.unusedSimpArgs false
theorem ref_part (r : Rect) (c : List Rect) (i : Item) : combinedL (limL (combinedL [boundsI i] [r] 2)) c 3 = partL r c i := by
  have e : combinedL [boundsI i] [r] 2 = regR (interQ (boundsI i) r) := combined_is (regR_region _) fun x y => by rw [mode2, regR_cov, inR_inter, contains5_one, contains5_one]
  have hl := regR_len (interQ (boundsI i) r)
  rw [e, (lim_few (by omega)).1]
  exact comb_congr 3 (fun x y => by rw [regR_cov, contains5_one, inR_inter, inR_inter, inR_canon]) (fun _ _ => rfl)
theorem ref_inq (r : Rect) (i : Item) : combinedL (opqL i) [r] 2 = inqL r i := comb_congr 2 (fun _ _ => rfl) (fun x y => by rw [contains5_one, contains5_one, inR_canon])
theorem ref_bg (r : Rect) (c : List Rect) : combinedL [r] c 3 = combinedL [canonR r] c 3 := comb_congr 3 (fun x y => by rw [contains5_one, contains5_one, inR_canon]) (fun _ _ => rfl)
set_option maxHeartbeats 2000000 in
theorem s_r26Construct : PSound Tryz.prog 42 (pcon [.d (.list ItemT), .d RectT] fun x => (ScPre x.1, .tup [resA (conO x.1 x.2.1), .int .i64 (conE x.1 x.2.1)])) := by
  refine psoundF (K := K88) (Γc := C48) (Γr := R0) (fun x => [(6, annP [.slot 8 I64, .own 7 (.list RectT), .own 6 RectT] (fun _ y => (-1 ≤ y.1 ∧ y.1 < x.1.length) ∧ conL x.2.1 (List.drop (y.1 + 1).toNat (x.1 : List Item)) = some (List.drop (y.1 + 1).toNat y.2.1, y.2.2.1) ∧ y.2.1.length = x.1.length) (fun y => (y.1 + 1 : Int).toNat))]) hm HK88 HC48 HR0 Tryz.call42 Tryz.func42 (by kernel_rfl) ?_
  rintro ⟨l, r, _⟩ hx
  have hx : ScPre l := hx
  refine Eq.mpr (β := (True ∧ True ∧ True ∧ True ∧ (ScPre l) ∧ True ∧ (@Eq Bool (not (refOk l)) true → (True ∧ True ∧ True ∧ (True ∧ True ∧ True) ∧ (@Eq _ (conO l r).1 ([] : List (Ty.T (Ty.list RectT))) ∧ @Eq _ (conO l r).2 ([] : List (Ty.T RectT)) ∧ True) ∧ @Eq Int 2 (conE l r) ∧ True)) ∧ (@Eq Bool (not (refOk l)) false → (True ∧ True ∧ True ∧ (@LE.le Int _ 0 (@Nat.cast Int _ (List.length l)) ∧ @Eq Int (@Nat.cast Int _ (List.length l)) (@Nat.cast Int _ (List.length l)) ∧ @LE.le Int _ (@HMul.hMul Int Int Int _ (@Nat.cast Int _ (List.length l)) (@Nat.cast Int _ 24)) 140737488355328) ∧ True ∧ True ∧ True ∧ True ∧ True ∧ ((True ∧ (@Eq Int (IntKind.i64.wrap (@HSub.hSub Int Int Int _ (@Nat.cast Int _ (List.length l)) 1)) (IntKind.i64.wrap (@HSub.hSub Int Int Int _ (@Nat.cast Int _ (List.length l)) 1)) ∧ @Eq Int (IntKind.i64.wrap (@HSub.hSub Int Int Int _ (@Nat.cast Int _ (List.length l)) 1)) (IntKind.i64.wrap (@HSub.hSub Int Int Int _ (@Nat.cast Int _ (List.length l)) 1)) ∧ @Eq Int (@Nat.cast Int _ (List.length l)) (@Nat.cast Int _ (List.length l)) ∧ @Eq _ l l ∧ True ∧ True ∧ @Eq Int (@Nat.cast Int _ (List.length l)) (@Nat.cast Int _ (List.length l)) ∧ @Eq _ l l ∧ True ∧ @Eq Bool (not (refOk l)) (not (refOk l)) ∧ @Eq Bool (refOk l) (refOk l) ∧ @Eq _ l l ∧ True ∧ True ∧ @Eq _ l l ∧ (@Eq Int r.1 r.1 ∧ @Eq Int r.2.1 r.2.1 ∧ @Eq Int r.2.2.1 r.2.2.1 ∧ @Eq Int r.2.2.2 r.2.2.2 ∧ True) ∧ True) ∧ (@Eq Int r.1 r.1 ∧ @Eq Int r.2.1 r.2.1 ∧ @Eq Int r.2.2.1 r.2.2.1 ∧ @Eq Int r.2.2.2 r.2.2.2 ∧ True) ∧ (True ∧ True ∧ True) ∧ @Eq _ (List.replicate (Int.toNat (@Nat.cast Int _ (List.length l))) ([] : List (Ty.T RectT))) (List.replicate (Int.toNat (@Nat.cast Int _ (List.length l))) ([] : List (Ty.T RectT))) ∧ @Eq _ (([] : List (Ty.T RectT)), Unit.unit).1 ([] : List (Ty.T RectT)) ∧ True) ∧ (@LE.le Int _ (Neg.neg 1) (IntKind.i64.wrap (@HSub.hSub Int Int Int _ (@Nat.cast Int _ (List.length l)) 1)) ∧ @LE.le Int _ (@HAdd.hAdd Int Int Int _ (IntKind.i64.wrap (@HSub.hSub Int Int Int _ (@Nat.cast Int _ (List.length l)) 1)) 1) (@Nat.cast (Pl.T (Pl.slot 8 I64)) _ (List.length l))) ∧ @Eq _ (conL r (List.drop (Int.toNat (@HAdd.hAdd Int Int Int _ (IntKind.i64.wrap (@HSub.hSub Int Int Int _ (@Nat.cast Int _ (List.length l)) 1)) 1)) l)) (some ((List.drop (Int.toNat (@HAdd.hAdd Int Int Int _ (IntKind.i64.wrap (@HSub.hSub Int Int Int _ (@Nat.cast Int _ (List.length l)) 1)) 1)) (List.replicate (Int.toNat (@Nat.cast Int _ (List.length l))) ([] : List (Ty.T RectT)))), (([] : List (Ty.T RectT)), Unit.unit).1)) ∧ @Eq Nat (List.length (List.replicate (Int.toNat (@Nat.cast Int _ (List.length l))) ([] : List (Ty.T RectT)))) (List.length l)) ∧ (∀ (v0 : (Prod Int (Prod (List (List Rect)) (Prod (List Rect) Unit)))), (((@LE.le Int _ (Neg.neg 1) v0.1 ∧ @LE.le Int _ (@HAdd.hAdd Int Int Int _ v0.1 1) (@Nat.cast (Pl.T (Pl.slot 8 I64)) _ (List.length l))) ∧ @Eq _ (conL r (List.drop (Int.toNat (@HAdd.hAdd Int Int Int _ v0.1 1)) l)) (some ((List.drop (Int.toNat (@HAdd.hAdd Int Int Int _ v0.1 1)) v0.2.1), v0.2.2.1)) ∧ @Eq Nat (List.length v0.2.1) (List.length l)) → (True ∧ True ∧ (@Eq Bool (@decide (@GE.ge Int Int.instLEInt v0.1 0) (Int.decLe 0 v0.1)) true → ((True ∧ True ∧ (@LE.le Int _ 0 v0.1 ∧ @LE.le Int _ (@HAdd.hAdd Int Int Int _ v0.1 1) (@Nat.cast Int _ (List.length l))) ∧ True ∧ (@LE.le Nat _ (List.length (@elemAt ItemT l (Int.toNat v0.1)).2.2.2.2.1.2.2) 9223372036854775807 ∧ @LE.le Nat _ (List.length (@elemAt ItemT l (Int.toNat v0.1)).2.2.2.2.2.1) 9223372036854775807 ∧ @LE.le Nat _ (List.length (@elemAt ItemT l (Int.toNat v0.1)).2.2.2.2.2.2) 9223372036854775807) ∧ True ∧ True ∧ True ∧ (@LE.le Nat _ (List.length ((boundsI (@elemAt ItemT l (Int.toNat v0.1))) :: ([] : List (Ty.T RectT)))) 1000 ∧ @LE.le Nat _ (List.length (r :: ([] : List (Ty.T RectT)))) 1000) ∧ True ∧ True ∧ True ∧ True ∧ True ∧ True) ∧ True ∧ True ∧ (@LE.le Nat _ (List.length (limL (combinedL ((boundsI (@elemAt ItemT l (Int.toNat v0.1))) :: ([] : List (Ty.T RectT))) (r :: ([] : List (Ty.T RectT))) 2))) 1000 ∧ @LE.le Nat _ (List.length v0.2.2.1) 1000) ∧ True ∧ True ∧ True ∧ True ∧ True ∧ True ∧ True ∧ (@Eq Bool (bne (limE (combinedL (limL (combinedL ((boundsI (@elemAt ItemT l (Int.toNat v0.1))) :: ([] : List (Ty.T RectT))) (r :: ([] : List (Ty.T RectT))) 2)) v0.2.2.1 3)) 0) true → (True ∧ True ∧ True ∧ True ∧ (True ∧ True ∧ True) ∧ (@Eq _ (conO l r).1 ([] : List (Ty.T (Ty.list RectT))) ∧ @Eq _ (conO l r).2 ([] : List (Ty.T RectT)) ∧ True) ∧ @Eq Int (limE (combinedL (limL (combinedL ((boundsI (@elemAt ItemT l (Int.toNat v0.1))) :: ([] : List (Ty.T RectT))) (r :: ([] : List (Ty.T RectT))) 2)) v0.2.2.1 3)) (conE l r) ∧ True)) ∧ (@Eq Bool (bne (limE (combinedL (limL (combinedL ((boundsI (@elemAt ItemT l (Int.toNat v0.1))) :: ([] : List (Ty.T RectT))) (r :: ([] : List (Ty.T RectT))) 2)) v0.2.2.1 3)) 0) false → (True ∧ True ∧ True ∧ (@LE.le Int _ 0 v0.1 ∧ @LE.le Int _ (@HAdd.hAdd Int Int Int _ v0.1 1) (@Nat.cast Int _ (List.length v0.2.1))) ∧ @LT.lt Nat _ (Int.toNat v0.1) (List.length v0.2.1) ∧ (True ∧ True ∧ (@LE.le Int _ 0 v0.1 ∧ @LE.le Int _ (@HAdd.hAdd Int Int Int _ v0.1 1) (@Nat.cast Int _ (List.length l))) ∧ True ∧ ((itemLen (@elemAt ItemT l (Int.toNat v0.1))) ∧ @LE.le Nat _ (List.length (@elemAt ItemT l (Int.toNat v0.1)).2.2.2.2.2.1) 1000) ∧ True ∧ True ∧ (@LE.le Nat _ (List.length (opqL (@elemAt ItemT l (Int.toNat v0.1)))) 1000 ∧ @LE.le Nat _ (List.length (r :: ([] : List (Ty.T RectT)))) 1000) ∧ True ∧ True ∧ True ∧ True ∧ True ∧ True) ∧ True ∧ True ∧ (@Eq Bool (bne (limE (combinedL (opqL (@elemAt ItemT l (Int.toNat v0.1))) (r :: ([] : List (Ty.T RectT))) 2)) 0) true → (True ∧ True ∧ True ∧ True ∧ (True ∧ True ∧ True) ∧ (@Eq _ (conO l r).1 ([] : List (Ty.T (Ty.list RectT))) ∧ @Eq _ (conO l r).2 ([] : List (Ty.T RectT)) ∧ True) ∧ @Eq Int (limE (combinedL (opqL (@elemAt ItemT l (Int.toNat v0.1))) (r :: ([] : List (Ty.T RectT))) 2)) (conE l r) ∧ True)) ∧ (@Eq Bool (bne (limE (combinedL (opqL (@elemAt ItemT l (Int.toNat v0.1))) (r :: ([] : List (Ty.T RectT))) 2)) 0) false → (True ∧ True ∧ (@LE.le Nat _ (List.length v0.2.2.1) 1000 ∧ @LE.le Nat _ (List.length (limL (combinedL (opqL (@elemAt ItemT l (Int.toNat v0.1))) (r :: ([] : List (Ty.T RectT))) 2))) 1000) ∧ True ∧ True ∧ True ∧ True ∧ True ∧ True ∧ True ∧ (@Eq Bool (bne (limE (combinedL v0.2.2.1 (limL (combinedL (opqL (@elemAt ItemT l (Int.toNat v0.1))) (r :: ([] : List (Ty.T RectT))) 2)) 1)) 0) true → (True ∧ True ∧ True ∧ True ∧ (True ∧ True ∧ True) ∧ (@Eq _ (conO l r).1 ([] : List (Ty.T (Ty.list RectT))) ∧ @Eq _ (conO l r).2 ([] : List (Ty.T RectT)) ∧ True) ∧ @Eq Int (limE (combinedL v0.2.2.1 (limL (combinedL (opqL (@elemAt ItemT l (Int.toNat v0.1))) (r :: ([] : List (Ty.T RectT))) 2)) 1)) (conE l r) ∧ True)) ∧ (@Eq Bool (bne (limE (combinedL v0.2.2.1 (limL (combinedL (opqL (@elemAt ItemT l (Int.toNat v0.1))) (r :: ([] : List (Ty.T RectT))) 2)) 1)) 0) false → (True ∧ True ∧ True ∧ (True ∧ (@Eq Int (IntKind.i64.wrap (@HSub.hSub Int Int Int _ v0.1 1)) (IntKind.i64.wrap (@HSub.hSub Int Int Int _ v0.1 1)) ∧ @Eq Int (IntKind.i64.wrap (@HSub.hSub Int Int Int _ (@Nat.cast Int _ (List.length l)) 1)) (IntKind.i64.wrap (@HSub.hSub Int Int Int _ (@Nat.cast Int _ (List.length l)) 1)) ∧ @Eq Int (@Nat.cast Int _ (List.length l)) (@Nat.cast Int _ (List.length l)) ∧ @Eq _ l l ∧ True ∧ True ∧ @Eq Int (@Nat.cast Int _ (List.length l)) (@Nat.cast Int _ (List.length l)) ∧ @Eq _ l l ∧ True ∧ @Eq Bool (not (refOk l)) (not (refOk l)) ∧ @Eq Bool (refOk l) (refOk l) ∧ @Eq _ l l ∧ True ∧ True ∧ @Eq _ l l ∧ (@Eq Int r.1 r.1 ∧ @Eq Int r.2.1 r.2.1 ∧ @Eq Int r.2.2.1 r.2.2.1 ∧ @Eq Int r.2.2.2 r.2.2.2 ∧ True) ∧ True) ∧ (@Eq Int r.1 r.1 ∧ @Eq Int r.2.1 r.2.1 ∧ @Eq Int r.2.2.1 r.2.2.1 ∧ @Eq Int r.2.2.2 r.2.2.2 ∧ True) ∧ (True ∧ True ∧ True) ∧ @Eq _ (List.set v0.2.1 (Int.toNat v0.1) (limL (combinedL (limL (combinedL ((boundsI (@elemAt ItemT l (Int.toNat v0.1))) :: ([] : List (Ty.T RectT))) (r :: ([] : List (Ty.T RectT))) 2)) v0.2.2.1 3))) (List.set v0.2.1 (Int.toNat v0.1) (limL (combinedL (limL (combinedL ((boundsI (@elemAt ItemT l (Int.toNat v0.1))) :: ([] : List (Ty.T RectT))) (r :: ([] : List (Ty.T RectT))) 2)) v0.2.2.1 3))) ∧ @Eq _ (limL (combinedL v0.2.2.1 (limL (combinedL (opqL (@elemAt ItemT l (Int.toNat v0.1))) (r :: ([] : List (Ty.T RectT))) 2)) 1)) ((limL (combinedL v0.2.2.1 (limL (combinedL (opqL (@elemAt ItemT l (Int.toNat v0.1))) (r :: ([] : List (Ty.T RectT))) 2)) 1)), Unit.unit).1 ∧ True) ∧ ((@LE.le Int _ (Neg.neg 1) (IntKind.i64.wrap (@HSub.hSub Int Int Int _ v0.1 1)) ∧ @LE.le Int _ (@HAdd.hAdd Int Int Int _ (IntKind.i64.wrap (@HSub.hSub Int Int Int _ v0.1 1)) 1) (@Nat.cast (Pl.T (Pl.slot 8 I64)) _ (List.length l))) ∧ @Eq _ (conL r (List.drop (Int.toNat (@HAdd.hAdd Int Int Int _ (IntKind.i64.wrap (@HSub.hSub Int Int Int _ v0.1 1)) 1)) l)) (some ((List.drop (Int.toNat (@HAdd.hAdd Int Int Int _ (IntKind.i64.wrap (@HSub.hSub Int Int Int _ v0.1 1)) 1)) (List.set v0.2.1 (Int.toNat v0.1) (limL (combinedL (limL (combinedL ((boundsI (@elemAt ItemT l (Int.toNat v0.1))) :: ([] : List (Ty.T RectT))) (r :: ([] : List (Ty.T RectT))) 2)) v0.2.2.1 3)))), ((limL (combinedL v0.2.2.1 (limL (combinedL (opqL (@elemAt ItemT l (Int.toNat v0.1))) (r :: ([] : List (Ty.T RectT))) 2)) 1)), Unit.unit).1)) ∧ @Eq Nat (List.length (List.set v0.2.1 (Int.toNat v0.1) (limL (combinedL (limL (combinedL ((boundsI (@elemAt ItemT l (Int.toNat v0.1))) :: ([] : List (Ty.T RectT))) (r :: ([] : List (Ty.T RectT))) 2)) v0.2.2.1 3)))) (List.length l)) ∧ @LT.lt Nat _ (Int.toNat (@HAdd.hAdd Int Int Int _ (IntKind.i64.wrap (@HSub.hSub Int Int Int _ v0.1 1)) 1)) (Int.toNat (@HAdd.hAdd Int Int Int _ v0.1 1)))))))))) ∧ (@Eq Bool (@decide (@GE.ge Int Int.instLEInt v0.1 0) (Int.decLe 0 v0.1)) false → (True ∧ True ∧ True ∧ True ∧ True ∧ (True ∧ True ∧ True) ∧ (@Eq _ v0.2.1 (conO l r).1 ∧ @Eq _ v0.2.2.1 (conO l r).2 ∧ True) ∧ @Eq Int 0 (conE l r) ∧ True))))))))) (by kernel_rfl) ?_
  simp only [true_and, and_true, decide_eq_true_eq, decide_eq_false_iff_not, forall_const, implies_true, and_self]
  have hlen := hx.1.1
  rw [ok_is]
  refine ⟨hx, fun h => ?_, fun h => ?_⟩
  · have h : ¬ sceneOk l = true := by simpa using h
    rw [conO, conE, if_neg h, if_neg h]
    exact ⟨⟨rfl, rfl⟩, rfl⟩
  have h : sceneOk l = true := by simpa using h
  have h128 : List.length l ≤ 128 := scene_len h
  have hw0 : IntKind.i64.wrap ((List.length l : Int) - 1) = (List.length l : Int) - 1 := wrap_in (by omega)
  rw [hw0]
  refine ⟨⟨by omega, by omega⟩, ⟨⟨by omega, by omega⟩, ?_, by simp⟩, ?_⟩
  · rw [show ((List.length l : Int) - 1 + 1).toNat = List.length l by omega, List.drop_length, show (List.length l : Int).toNat = List.length l by omega, List.drop_of_length_le (by simp)]
    rfl
  rintro ⟨i, ps, c, _⟩ ⟨⟨g0, g1⟩, hc, hl⟩
  simp only at g0 g1 hc hl ⊢
  refine ⟨fun hi => ?_, fun hi => ?_⟩
  · obtain ⟨n, hn⟩ : ∃ n : Nat, (n : Int) = i := ⟨i.toNat, by omega⟩
    subst hn
    have e1 : ((n : Int) + 1).toNat = n + 1 := by omega
    rw [e1] at hc
    have hnl : n < List.length l := by omega
    have hmem : elemAt (t := ItemT) l n ∈ (l : List Item) := List.mem_of_getElem? (elemAt_get (t := ItemT) l n hnl)
    have hi1 := hx.1.2 _ hmem
    have hi2 := hx.2 _ hmem
    have hf := con_facts hc
    have hst := con_step hnl hc
    have hcl := hf.few
    have ho : (opqL (elemAt (t := ItemT) l n)).length ≤ 256 := placed_le _ _
    have hw : IntKind.i64.wrap ((n : Int) - 1) = (n : Int) - 1 := wrap_in (by omega)
    have hb := limL_le (combinedL [boundsI (elemAt (t := ItemT) l n)] [r] 2)
    rw [hw, show ((n : Int)).toNat = n from rfl, show ((n : Int) - 1 + 1).toNat = n by omega]
    rw [show combinedL (limL (combinedL [boundsI (elemAt (t := ItemT) l n)] [r] 2)) c 3 = partL r c (elemAt (t := ItemT) l n) from ref_part _ _ _, show combinedL (opqL (elemAt (t := ItemT) l n)) [r] 2 = inqL r (elemAt (t := ItemT) l n) from ref_inq _ _]
    generalize elemAt (t := ItemT) l n = I at *
    have bad : limE (partL r c I) ≠ 0 ∨ limE (inqL r I) ≠ 0 ∨ limE (nextL r c I) ≠ 0 → conO l r = ([], []) ∧ conE l r = 5 := fun hb => con_fail h (n := n) (by rw [hst, if_neg (by omega)])
    have five : ∀ L : List Rect, limE L ≠ 0 → limE L = 5 := fun L hL => by
      rcases lim_cases L with ⟨e1, _⟩ | ⟨e1, _⟩
      · exact absurd e1 hL
      · exact e1
    refine ⟨⟨⟨by omega, by omega⟩, hi1, by simp, by simp⟩, ⟨by omega, by omega⟩, fun hp => ?_, fun hp => ⟨⟨by omega, by omega⟩, by omega, ⟨⟨by omega, by omega⟩, ⟨hi1, hi2.1⟩, by omega, by simp⟩, fun ht => ?_, fun ht => ?_⟩⟩
    · have hp : limE (partL r c I) ≠ 0 := by simpa using hp
      rw [(bad (.inl hp)).1, (bad (.inl hp)).2, five _ hp]
      exact ⟨⟨rfl, rfl⟩, rfl⟩
    · have ht : limE (inqL r I) ≠ 0 := by simpa using ht
      rw [(bad (.inr (.inl ht))).1, (bad (.inr (.inl ht))).2, five _ ht]
      exact ⟨⟨rfl, rfl⟩, rfl⟩
    have hp : limE (partL r c I) = 0 := by simpa using hp
    have ht : limE (inqL r I) = 0 := by simpa using ht
    rw [(lim_ok ht).1, (lim_ok hp).1]
    rw [show combinedL c (inqL r I) 1 = nextL r c I from rfl]
    have h3 := (lim_ok ht).2
    refine ⟨⟨by omega, by omega⟩, fun hu => ?_, fun hu => ?_⟩
    · have hu : limE (nextL r c I) ≠ 0 := by simpa using hu
      rw [(bad (.inr (.inr hu))).1, (bad (.inr (.inr hu))).2, five _ hu]
      exact ⟨⟨rfl, rfl⟩, rfl⟩
    · have hu : limE (nextL r c I) = 0 := by simpa using hu
      rw [(lim_ok hu).1]
      refine ⟨⟨⟨by omega, by omega⟩, ?_, by rw [List.length_set]; exact hl⟩, by omega⟩
      rw [hst, if_pos ⟨hp, ht, hu⟩]
      rw [drop_set (by omega)]
  · have hk0 : i = -1 := by omega
    subst hk0
    rw [show ((-1 : Int) + 1).toNat = 0 from rfl, List.drop_zero, List.drop_zero] at hc
    rw [(con_done h hc).1, (con_done h hc).2]
    exact ⟨⟨rfl, rfl⟩, rfl⟩
abbrev K89 : KCons := (42, fun Γc => pure_ Γc ((pcon [.d (.list ItemT), .d RectT] fun x => (ScPre x.1, .tup [resA (conO x.1 x.2.1), .int .i64 (conE x.1 x.2.1)])))) :: K88
theorem HK89 : KS Tryz.prog K89 := ks_add (ksound_pure (s_r26Construct)) HK88
theorem s_r26Visible : PSound Tryz.prog 13 (pcon [.d (.list ItemT), .d RectT] fun x => (ScPre x.1, .tup [.own (.list RectT) (conO x.1 x.2.1).1, .int .i64 (conE x.1 x.2.1)])) := by
  refine psoundF (K := K89) (Γc := C48) (Γr := R0) (fun _ => []) hm HK89 HC48 HR0 Tryz.call13 Tryz.func13 (by kernel_rfl) ?_
  rintro ⟨l, r, _⟩ hx
  have hx : ScPre l := hx
  refine Eq.mpr (β := (True ∧ True ∧ True ∧ True ∧ True ∧ (ScPre l) ∧ True ∧ True ∧ True ∧ True ∧ True ∧ True ∧ True ∧ True ∧ True ∧ True ∧ True ∧ (True ∧ True ∧ True) ∧ @Eq _ (conO l r).1 (conO l r).1 ∧ @Eq Int (conE l r) (conE l r) ∧ True)) (by kernel_rfl) ?_
  simp only [true_and, and_true, decide_eq_true_eq, decide_eq_false_iff_not, forall_const, implies_true, and_self]
  exact hx
abbrev K90 : KCons := (13, fun Γc => pure_ Γc ((pcon [.d (.list ItemT), .d RectT] fun x => (ScPre x.1, .tup [.own (.list RectT) (conO x.1 x.2.1).1, .int .i64 (conE x.1 x.2.1)])))) :: K89
theorem HK90 : KS Tryz.prog K90 := ks_add (ksound_pure (s_r26Visible)) HK89
theorem s_r26Covered : PSound Tryz.prog 21 (pcon [.d (.list ItemT), .d RectT] fun x => (ScPre x.1, .tup [.own RectT (conO x.1 x.2.1).2, .int .i64 (conE x.1 x.2.1)])) := by
  refine psoundF (K := K90) (Γc := C48) (Γr := R0) (fun _ => []) hm HK90 HC48 HR0 Tryz.call21 Tryz.func21 (by kernel_rfl) ?_
  rintro ⟨l, r, _⟩ hx
  have hx : ScPre l := hx
  refine Eq.mpr (β := (True ∧ True ∧ True ∧ True ∧ True ∧ (ScPre l) ∧ True ∧ True ∧ True ∧ True ∧ True ∧ True ∧ True ∧ True ∧ True ∧ True ∧ True ∧ (True ∧ True ∧ True) ∧ @Eq _ (conO l r).2 (conO l r).2 ∧ @Eq Int (conE l r) (conE l r) ∧ True)) (by kernel_rfl) ?_
  simp only [true_and, and_true, decide_eq_true_eq, decide_eq_false_iff_not, forall_const, implies_true, and_self]
  exact hx
abbrev K91 : KCons := (21, fun Γc => pure_ Γc ((pcon [.d (.list ItemT), .d RectT] fun x => (ScPre x.1, .tup [.own RectT (conO x.1 x.2.1).2, .int .i64 (conE x.1 x.2.1)])))) :: K90
theorem HK91 : KS Tryz.prog K91 := ks_add (ksound_pure (s_r26Covered)) HK90
theorem s_r26Background : PSound Tryz.prog 19 (pcon [.d (.list ItemT), .d RectT] fun x => (ScPre x.1, .tup [.own RectT (bgO x.1 x.2.1), .int .i64 (bgE x.1 x.2.1)])) := by
  refine psoundF (K := K91) (Γc := C48) (Γr := R0) (fun _ => []) hm HK91 HC48 HR0 Tryz.call19 Tryz.func19 (by kernel_rfl) ?_
  rintro ⟨l, r, _⟩ hx
  have hx : ScPre l := hx
  refine Eq.mpr (β := (True ∧ True ∧ True ∧ True ∧ True ∧ (ScPre l) ∧ True ∧ True ∧ True ∧ True ∧ True ∧ True ∧ True ∧ True ∧ (@Eq Bool (bne (conE l r) 0) true → (True ∧ True ∧ True ∧ (True ∧ True ∧ True) ∧ @Eq _ (bgO l r) ([] : List (Ty.T RectT)) ∧ @Eq Int (conE l r) (bgE l r) ∧ True)) ∧ (@Eq Bool (bne (conE l r) 0) false → (True ∧ True ∧ True ∧ True ∧ (@LE.le Nat _ (List.length (r :: ([] : List (Ty.T RectT)))) 1000 ∧ @LE.le Nat _ (List.length (conO l r).2) 1000) ∧ True ∧ True ∧ True ∧ True ∧ (True ∧ True ∧ True) ∧ @Eq _ (limL (combinedL (r :: ([] : List (Ty.T RectT))) (conO l r).2 3)) (bgO l r) ∧ @Eq Int (limE (combinedL (r :: ([] : List (Ty.T RectT))) (conO l r).2 3)) (bgE l r) ∧ True)))) (by kernel_rfl) ?_
  simp only [true_and, and_true, decide_eq_true_eq, decide_eq_false_iff_not, forall_const, implies_true, and_self]
  have hc := con_cov_le l r
  rw [ref_bg]
  refine ⟨hx, fun h => ?_, fun h => ?_⟩
  · have h : ¬ conE l r = 0 := by simpa using h
    rw [bgO, bgE, if_neg h, if_neg h]
    exact ⟨rfl, rfl⟩
  · have h : conE l r = 0 := by simpa using h
    rw [bgO, bgE, if_pos h, if_pos h]
    exact ⟨⟨by simp, by omega⟩, rfl, rfl⟩
abbrev K92 : KCons := (19, fun Γc => pure_ Γc ((pcon [.d (.list ItemT), .d RectT] fun x => (ScPre x.1, .tup [.own RectT (bgO x.1 x.2.1), .int .i64 (bgE x.1 x.2.1)])))) :: K91
theorem HK92 : KS Tryz.prog K92 := ks_add (ksound_pure (s_r26Background)) HK91
theorem con_par_le (l : List Item) (r : Rect) : (conO l r).1.length ≤ 128 := by
  by_cases h : conE l r = 0
  · rw [con_par_len h]
    exact scene_len (con_zero h).1
  · rw [con_bad h]
    simp
theorem s_r26Hidden : PSound Tryz.prog 16 (pcon [.d (.list ItemT), .d RectT] fun x => (ScPre x.1, .tup [.own I64 (hidL (conO x.1 x.2.1).1), .int .i64 (conE x.1 x.2.1)])) := by
  refine psoundF (K := K92) (Γc := C48) (Γr := R0) (fun x => [(4, annP [.slot 9 I64, .own 8 I64] (fun _ y => (0 ≤ y.1 ∧ y.1 ≤ (conO x.1 x.2.1).1.length) ∧ y.2.1 = hidK (conO x.1 x.2.1).1 y.1.toNat) (fun y => ((conO x.1 x.2.1).1.length - y.1 : Int).toNat))]) hm HK92 HC48 HR0 Tryz.call16 Tryz.func16 (by kernel_rfl) ?_
  rintro ⟨l, r, _⟩ hx
  have hx : ScPre l := hx
  refine Eq.mpr (β := (True ∧ True ∧ True ∧ True ∧ True ∧ (ScPre l) ∧ True ∧ True ∧ True ∧ True ∧ True ∧ True ∧ True ∧ True ∧ ((True ∧ (@Eq Int 0 0 ∧ True ∧ @Eq Int (conE l r) (conE l r) ∧ True ∧ @Eq Int (conE l r) (conE l r) ∧ (True ∧ True ∧ True) ∧ ((True ∧ True ∧ True) ∧ @Eq Int (conE l r) (conE l r) ∧ True) ∧ ((True ∧ True ∧ True) ∧ @Eq Int (conE l r) (conE l r) ∧ True) ∧ (@Eq Int r.1 r.1 ∧ @Eq Int r.2.1 r.2.1 ∧ @Eq Int r.2.2.1 r.2.2.1 ∧ @Eq Int r.2.2.2 r.2.2.2 ∧ True) ∧ @Eq _ l l ∧ @Eq Int 0 0 ∧ True ∧ True ∧ @Eq _ l l ∧ (@Eq Int r.1 r.1 ∧ @Eq Int r.2.1 r.2.1 ∧ @Eq Int r.2.2.1 r.2.2.1 ∧ @Eq Int r.2.2.2 r.2.2.2 ∧ True) ∧ True) ∧ (@Eq Int r.1 r.1 ∧ @Eq Int r.2.1 r.2.1 ∧ @Eq Int r.2.2.1 r.2.2.1 ∧ @Eq Int r.2.2.2 r.2.2.2 ∧ True) ∧ @Eq _ (conO l r).2 (conO l r).2 ∧ @Eq _ (conO l r).1 (conO l r).1 ∧ (True ∧ True ∧ True) ∧ @Eq _ ([] : List (Ty.T I64)) ([] : List (Ty.T I64)) ∧ True) ∧ (@LE.le Int _ 0 0 ∧ @LE.le Int _ 0 (@Nat.cast (Pl.T (Pl.slot 9 I64)) _ (List.length (conO l r).1))) ∧ @Eq _ ([] : List (Ty.T I64)) (hidK (conO l r).1 0)) ∧ (∀ (v0 : (Prod Int (Prod (List Int) Unit))), (((@LE.le Int _ 0 v0.1 ∧ @LE.le Int _ v0.1 (@Nat.cast (Pl.T (Pl.slot 9 I64)) _ (List.length (conO l r).1))) ∧ @Eq _ v0.2.1 (hidK (conO l r).1 (Int.toNat v0.1))) → (True ∧ True ∧ True ∧ True ∧ True ∧ (@Eq Bool (@decide (@LT.lt Int _ v0.1 (@Nat.cast Int _ (List.length (conO l r).1))) (Int.decLt v0.1 (@Nat.cast Int _ (List.length (conO l r).1)))) true → (True ∧ True ∧ True ∧ (@LE.le Int _ 0 v0.1 ∧ @LE.le Int _ (@HAdd.hAdd Int Int Int _ v0.1 1) (@Nat.cast Int _ (List.length (conO l r).1))) ∧ @LT.lt Nat _ (Int.toNat v0.1) (List.length (conO l r).1) ∧ True ∧ True ∧ (@Eq Bool (BEq.beq (@Nat.cast Int _ (List.length (@elemAt (Ty.list RectT) (conO l r).1 (Int.toNat v0.1)))) 0) true → (True ∧ True ∧ True ∧ @LE.le Nat _ (@HMul.hMul Nat Nat Nat _ (@HAdd.hAdd Nat Nat Nat _ (List.length v0.2.1) (List.length (v0.1 :: ([] : List (Ty.T (Ty.int IntKind.i64)))))) 8) 140737488355328 ∧ True ∧ True ∧ True ∧ True ∧ (True ∧ (@Eq Int (IntKind.i64.wrap (@HAdd.hAdd Int Int Int _ v0.1 1)) (IntKind.i64.wrap (@HAdd.hAdd Int Int Int _ v0.1 1)) ∧ True ∧ @Eq Int (conE l r) (conE l r) ∧ True ∧ @Eq Int (conE l r) (conE l r) ∧ (True ∧ True ∧ True) ∧ ((True ∧ True ∧ True) ∧ @Eq Int (conE l r) (conE l r) ∧ True) ∧ ((True ∧ True ∧ True) ∧ @Eq Int (conE l r) (conE l r) ∧ True) ∧ (@Eq Int r.1 r.1 ∧ @Eq Int r.2.1 r.2.1 ∧ @Eq Int r.2.2.1 r.2.2.1 ∧ @Eq Int r.2.2.2 r.2.2.2 ∧ True) ∧ @Eq _ l l ∧ @Eq Int 0 0 ∧ True ∧ True ∧ @Eq _ l l ∧ (@Eq Int r.1 r.1 ∧ @Eq Int r.2.1 r.2.1 ∧ @Eq Int r.2.2.1 r.2.2.1 ∧ @Eq Int r.2.2.2 r.2.2.2 ∧ True) ∧ True) ∧ (@Eq Int r.1 r.1 ∧ @Eq Int r.2.1 r.2.1 ∧ @Eq Int r.2.2.1 r.2.2.1 ∧ @Eq Int r.2.2.2 r.2.2.2 ∧ True) ∧ @Eq _ (conO l r).2 (conO l r).2 ∧ @Eq _ (conO l r).1 (conO l r).1 ∧ (True ∧ True ∧ True) ∧ @Eq _ (HAppend.hAppend v0.2.1 (v0.1 :: ([] : List (Ty.T (Ty.int IntKind.i64))))) (HAppend.hAppend v0.2.1 (v0.1 :: ([] : List (Ty.T (Ty.int IntKind.i64))))) ∧ True) ∧ ((@LE.le Int _ 0 (IntKind.i64.wrap (@HAdd.hAdd Int Int Int _ v0.1 1)) ∧ @LE.le Int _ (IntKind.i64.wrap (@HAdd.hAdd Int Int Int _ v0.1 1)) (@Nat.cast (Pl.T (Pl.slot 9 I64)) _ (List.length (conO l r).1))) ∧ @Eq _ (HAppend.hAppend v0.2.1 (v0.1 :: ([] : List (Ty.T (Ty.int IntKind.i64))))) (hidK (conO l r).1 (Int.toNat (IntKind.i64.wrap (@HAdd.hAdd Int Int Int _ v0.1 1))))) ∧ @LT.lt Nat _ (Int.toNat (@HSub.hSub Int Int Int _ (@Nat.cast Int _ (List.length (conO l r).1)) (IntKind.i64.wrap (@HAdd.hAdd Int Int Int _ v0.1 1)))) (Int.toNat (@HSub.hSub Int Int Int _ (@Nat.cast Int _ (List.length (conO l r).1)) v0.1)))) ∧ (@Eq Bool (BEq.beq (@Nat.cast Int _ (List.length (@elemAt (Ty.list RectT) (conO l r).1 (Int.toNat v0.1)))) 0) false → (True ∧ True ∧ True ∧ (True ∧ (@Eq Int (IntKind.i64.wrap (@HAdd.hAdd Int Int Int _ v0.1 1)) (IntKind.i64.wrap (@HAdd.hAdd Int Int Int _ v0.1 1)) ∧ True ∧ @Eq Int (conE l r) (conE l r) ∧ True ∧ @Eq Int (conE l r) (conE l r) ∧ (True ∧ True ∧ True) ∧ ((True ∧ True ∧ True) ∧ @Eq Int (conE l r) (conE l r) ∧ True) ∧ ((True ∧ True ∧ True) ∧ @Eq Int (conE l r) (conE l r) ∧ True) ∧ (@Eq Int r.1 r.1 ∧ @Eq Int r.2.1 r.2.1 ∧ @Eq Int r.2.2.1 r.2.2.1 ∧ @Eq Int r.2.2.2 r.2.2.2 ∧ True) ∧ @Eq _ l l ∧ @Eq Int 0 0 ∧ True ∧ True ∧ @Eq _ l l ∧ (@Eq Int r.1 r.1 ∧ @Eq Int r.2.1 r.2.1 ∧ @Eq Int r.2.2.1 r.2.2.1 ∧ @Eq Int r.2.2.2 r.2.2.2 ∧ True) ∧ True) ∧ (@Eq Int r.1 r.1 ∧ @Eq Int r.2.1 r.2.1 ∧ @Eq Int r.2.2.1 r.2.2.1 ∧ @Eq Int r.2.2.2 r.2.2.2 ∧ True) ∧ @Eq _ (conO l r).2 (conO l r).2 ∧ @Eq _ (conO l r).1 (conO l r).1 ∧ (True ∧ True ∧ True) ∧ @Eq _ v0.2.1 v0.2.1 ∧ True) ∧ ((@LE.le Int _ 0 (IntKind.i64.wrap (@HAdd.hAdd Int Int Int _ v0.1 1)) ∧ @LE.le Int _ (IntKind.i64.wrap (@HAdd.hAdd Int Int Int _ v0.1 1)) (@Nat.cast (Pl.T (Pl.slot 9 I64)) _ (List.length (conO l r).1))) ∧ @Eq _ v0.2.1 (hidK (conO l r).1 (Int.toNat (IntKind.i64.wrap (@HAdd.hAdd Int Int Int _ v0.1 1))))) ∧ @LT.lt Nat _ (Int.toNat (@HSub.hSub Int Int Int _ (@Nat.cast Int _ (List.length (conO l r).1)) (IntKind.i64.wrap (@HAdd.hAdd Int Int Int _ v0.1 1)))) (Int.toNat (@HSub.hSub Int Int Int _ (@Nat.cast Int _ (List.length (conO l r).1)) v0.1)))))) ∧ (@Eq Bool (@decide (@LT.lt Int _ v0.1 (@Nat.cast Int _ (List.length (conO l r).1))) (Int.decLt v0.1 (@Nat.cast Int _ (List.length (conO l r).1)))) false → (True ∧ True ∧ True ∧ True ∧ (True ∧ True ∧ True) ∧ @Eq _ v0.2.1 (hidL (conO l r).1) ∧ @Eq Int (conE l r) (conE l r) ∧ True))))))) (by kernel_rfl) ?_
  simp only [true_and, and_true, decide_eq_true_eq, decide_eq_false_iff_not, forall_const, implies_true, and_self]
  have h128 := con_par_le l r
  refine ⟨hx, ⟨⟨by omega, by omega⟩, rfl⟩, ?_⟩
  rintro ⟨i, out, _⟩ ⟨⟨g0, g1⟩, ho⟩
  simp only at g0 g1 ho ⊢
  subst ho
  have hk := hidK_len (conO l r).1 i.toNat
  refine ⟨fun hi => ?_, fun hi => ?_⟩
  · have hst := hidK_step (conO l r).1 i.toNat
    have hit : (i.toNat : Int) = i := by omega
    have hw : IntKind.i64.wrap (i + 1) = i + 1 := wrap_in (by omega)
    rw [hw, show (i + 1).toNat = i.toNat + 1 by omega, hst, hit]
    refine ⟨⟨g0, by omega⟩, by omega, fun hz => ⟨?_, ⟨⟨by omega, by omega⟩, ?_⟩, by omega⟩, fun hz => ⟨⟨⟨by omega, by omega⟩, ?_⟩, by omega⟩⟩
    · simp only [List.length_cons, List.length_nil]
      omega
    · have hz : List.length (elemAt (t := .list RectT) (conO l r).1 i.toNat) = 0 := by
        have := eq_of_beq hz
        omega
      rw [if_pos hz]
    · have hz : ¬ List.length (elemAt (t := .list RectT) (conO l r).1 i.toNat) = 0 := fun hh => by
        rw [hh] at hz
        simp at hz
      rw [if_neg hz, List.append_nil]
  · rw [show i.toNat = (conO l r).1.length by omega]
    rfl
abbrev K93 : KCons := (16, fun Γc => pure_ Γc ((pcon [.d (.list ItemT), .d RectT] fun x => (ScPre x.1, .tup [.own I64 (hidL (conO x.1 x.2.1).1), .int .i64 (conE x.1 x.2.1)])))) :: K92
theorem HK93 : KS Tryz.prog K93 := ks_add (ksound_pure (s_r26Hidden)) HK92
end Go.Proofs.YtogbocplojbdjaaGreat
