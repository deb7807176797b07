/-
  A part of the proof: what some of the program's functions compute.
-/
import Derived.Test.YtogbocplojbdjaaVRI
namespace Go.Proofs.Ytogbocplojbdjaa
open Go Go.E Go.Proofs
set_option linter.unusedVariables false
set_option linter.unusedSimpArgs false
def runsP (a b : List Rect) (keep : Keep) (ys : List Int) (i : Nat) : List Run :=
  combP (rowP a (elemAt (t := I64) ys i)) (rowP b (elemAt (t := I64) ys i)) keep (cutsOf (rowP a (elemAt (t := I64) ys i)) (rowP b (elemAt (t := I64) ys i)))
def ysP (a b : List Rect) : List Int := edgesL [cleanL a, cleanL b]
def bandsP (a b : List Rect) (keep : Keep) : List Band := bandK (runsP (cleanL a) (cleanL b) keep (ysP a b)) (ysP a b) ((ysP a b).length - 1)
theorem clean_usable (l : List Rect) : ∀ r ∈ cleanL l, usableR r = true := by
  intro r hr
  have := (List.mem_filter.1 hr).2
  rw [usable_empty]
  exact this
theorem runsP_len (a b : List Rect) (keep : Keep) (ys : List Int) (i : Nat) : (runsP a b keep ys i).length ≤ 2 * (a.length + b.length) := by
  unfold runsP combP
  have h1 := cuts_len (rowP a (elemAt (t := I64) ys i)) (rowP b (elemAt (t := I64) ys i))
  have h2 := rowP_len a (elemAt (t := I64) ys i)
  have h3 := rowP_len b (elemAt (t := I64) ys i)
  refine Nat.le_trans (combK_len _ _ _ _ _) ?_
  omega
theorem bandK_all {runs : Nat → List Run} {ys : List Int} {Q : List Run → Prop} (h : ∀ i, Q (runs i)) : ∀ k, ∀ b ∈ bandK runs ys k, Q b.2.2
  | 0 => fun b hb => (by cases hb)
  | k + 1 => by
    have ih := bandK_all (ys := ys) h k
    rw [bandK_step]
    unfold bandStep
    split
    · exact ih
    split
    · rename_i h1 h2
      intro b hb
      rcases List.mem_or_eq_of_mem_set hb with hb | hb
      · exact ih b hb
      · rw [hb, h2.2.2]
        exact h k
    · intro b hb
      rcases List.mem_append.1 hb with hb | hb
      · exact ih b hb
      · rw [List.mem_singleton.1 hb]
        exact h k
theorem insAll_nil_len (l : List Int) : (insAll [] l).length ≤ l.length := by
  have := insAll_len l []
  simpa using this
theorem ysP_len (a b : List Rect) : (ysP a b).length ≤ 2 * (a.length + b.length) := by
  unfold ysP edgesL
  refine Nat.le_trans (insAll_nil_len _) ?_
  have h1 := cleanL_len a
  have h2 := cleanL_len b
  rw [ysAll_len]
  simp
  omega
set_option maxHeartbeats 2000000 in
theorem s_bands : PSound Try.prog 45 (pcon [.d (.list RectT), .d (.list RectT), .f [.bool, .bool] .bool] fun x => (x.1.length ≤ 1000 ∧ x.2.1.length ≤ 1000, .arr BandT (bandsP x.1 x.2.1 (keepF x.2.2.1)))) := by
  refine psoundF (K := K42) (Γc := C33) (Γr := R0) (fun x => [(5, annP [.slot 9 I64, .own 7 BandT] (fun _ y => (0 ≤ y.1 ∧ (0 < y.1 → y.1 + 1 ≤ (ysP x.1 x.2.1).length)) ∧ y.2.1 = bandK (runsP (cleanL x.1) (cleanL x.2.1) (keepF x.2.2.1) (ysP x.1 x.2.1)) (ysP x.1 x.2.1) y.1.toNat) (fun y => ((ysP x.1 x.2.1).length - y.1 : Int).toNat))]) hm HK42 HC33 HR0 Try.call45 Try.func45 (by kernel_rfl) ?_
  rintro ⟨a, b, keep, _⟩ hx
  obtain ⟨ha, hb⟩ : List.length a ≤ 1000 ∧ List.length b ≤ 1000 := hx
  refine Eq.mpr (β := (True ∧ True ∧ @LE.le Nat _ (List.length a) 1000000 ∧ True ∧ @LE.le Nat _ (List.length b) 1000000 ∧ True ∧ True ∧ True ∧ True ∧ True ∧ True ∧ (@LE.le Nat _ (List.length ((cleanL a) :: ((cleanL b) :: ([] : List (Ty.T (Ty.list RectT)))))) 10 ∧ (∀ (v0 : (List Rect)), ((List.Mem v0 ((cleanL a) :: ((cleanL b) :: ([] : List (Ty.T (Ty.list RectT)))))) → @LE.le Nat _ (List.length v0) 1000))) ∧ True ∧ True ∧ ((True ∧ (@Eq Int 0 0 ∧ True ∧ True ∧ True ∧ @Eq _ (cleanL b) (cleanL b) ∧ @Eq _ (cleanL a) (cleanL a) ∧ True ∧ @Eq _ (cleanL b) (cleanL b) ∧ @Eq _ b b ∧ @Eq _ (cleanL a) (cleanL a) ∧ @Eq _ a a ∧ True ∧ @Eq _ (cleanL a) (cleanL a) ∧ @Eq _ (cleanL b) (cleanL b) ∧ @Eq _ keep keep ∧ True) ∧ @Eq _ ((cleanL a) :: ((cleanL b) :: ([] : List (Ty.T (Ty.list RectT))))) ((cleanL a) :: ((cleanL b) :: ([] : List (Ty.T (Ty.list RectT))))) ∧ @Eq _ (edgesL ((cleanL a) :: ((cleanL b) :: ([] : List (Ty.T (Ty.list RectT)))))) (edgesL ((cleanL a) :: ((cleanL b) :: ([] : List (Ty.T (Ty.list RectT)))))) ∧ @Eq _ ([] : List (Ty.T BandT)) ([] : List (Ty.T BandT)) ∧ True) ∧ (@LE.le Int _ 0 0 ∧ (@LE.le Int _ (@HAdd.hAdd Int Int Int _ 0 1) 0 → @LE.le Int _ (@HAdd.hAdd Int Int Int _ 0 1) (@Nat.cast (Pl.T (Pl.slot 9 I64)) _ (List.length (ysP a b))))) ∧ @Eq _ ([] : List (Ty.T BandT)) (bandK (runsP (cleanL a) (cleanL b) (keepF keep) (ysP a b)) (ysP a b) 0)) ∧ (∀ (v0 : (Prod Int (Prod (List (Prod Int (Prod Int (List (Prod Int Int))))) Unit))), (((@LE.le Int _ 0 v0.1 ∧ (@LE.le Int _ (@HAdd.hAdd Int Int Int _ 0 1) v0.1 → @LE.le Int _ (@HAdd.hAdd Int Int Int _ v0.1 1) (@Nat.cast (Pl.T (Pl.slot 9 I64)) _ (List.length (ysP a b))))) ∧ @Eq _ v0.2.1 (bandK (runsP (cleanL a) (cleanL b) (keepF keep) (ysP a b)) (ysP a b) (Int.toNat v0.1))) → (True ∧ True ∧ True ∧ True ∧ True ∧ (@Eq Bool (@decide (@LT.lt Int _ (IntKind.i64.wrap (@HAdd.hAdd Int Int Int _ v0.1 1)) (@Nat.cast Int _ (List.length (edgesL ((cleanL a) :: ((cleanL b) :: ([] : List (Ty.T (Ty.list RectT))))))))) (Int.decLt (IntKind.i64.wrap (@HAdd.hAdd Int Int Int _ v0.1 1)) (@Nat.cast Int _ (List.length (edgesL ((cleanL a) :: ((cleanL b) :: ([] : List (Ty.T (Ty.list RectT)))))))))) true → ((True ∧ True ∧ True ∧ (@LE.le Int _ 0 v0.1 ∧ @LE.le Int _ (@HAdd.hAdd Int Int Int _ v0.1 1) (@Nat.cast Int _ (List.length (edgesL ((cleanL a) :: ((cleanL b) :: ([] : List (Ty.T (Ty.list RectT))))))))) ∧ @LT.lt Nat _ (Int.toNat v0.1) (List.length (edgesL ((cleanL a) :: ((cleanL b) :: ([] : List (Ty.T (Ty.list RectT))))))) ∧ (@LE.le Nat _ (List.length (cleanL a)) 1000 ∧ (∀ (v1 : Rect), ((List.Mem v1 (cleanL a)) → @Eq Bool (usableR v1) true))) ∧ True ∧ True ∧ True ∧ (@LE.le Int _ 0 v0.1 ∧ @LE.le Int _ (@HAdd.hAdd Int Int Int _ v0.1 1) (@Nat.cast Int _ (List.length (edgesL ((cleanL a) :: ((cleanL b) :: ([] : List (Ty.T (Ty.list RectT))))))))) ∧ @LT.lt Nat _ (Int.toNat v0.1) (List.length (edgesL ((cleanL a) :: ((cleanL b) :: ([] : List (Ty.T (Ty.list RectT))))))) ∧ (@LE.le Nat _ (List.length (cleanL b)) 1000 ∧ (∀ (v1 : Rect), ((List.Mem v1 (cleanL b)) → @Eq Bool (usableR v1) true))) ∧ True ∧ (@LE.le Nat _ (List.length (rowP (cleanL a) (@elemAt I64 (edgesL ((cleanL a) :: ((cleanL b) :: ([] : List (Ty.T (Ty.list RectT)))))) (Int.toNat v0.1)))) 1000 ∧ @LE.le Nat _ (List.length (rowP (cleanL b) (@elemAt I64 (edgesL ((cleanL a) :: ((cleanL b) :: ([] : List (Ty.T (Ty.list RectT)))))) (Int.toNat v0.1)))) 1000) ∧ True ∧ True) ∧ True ∧ True ∧ True ∧ (@Eq Bool (BEq.beq (@Nat.cast Int _ (List.length (combP (rowP (cleanL a) (@elemAt I64 (edgesL ((cleanL a) :: ((cleanL b) :: ([] : List (Ty.T (Ty.list RectT)))))) (Int.toNat v0.1))) (rowP (cleanL b) (@elemAt I64 (edgesL ((cleanL a) :: ((cleanL b) :: ([] : List (Ty.T (Ty.list RectT)))))) (Int.toNat v0.1))) (keepF keep) (cutsOf (rowP (cleanL a) (@elemAt I64 (edgesL ((cleanL a) :: ((cleanL b) :: ([] : List (Ty.T (Ty.list RectT)))))) (Int.toNat v0.1))) (rowP (cleanL b) (@elemAt I64 (edgesL ((cleanL a) :: ((cleanL b) :: ([] : List (Ty.T (Ty.list RectT)))))) (Int.toNat v0.1))))))) 0) true → (True ∧ True ∧ True ∧ (True ∧ (@Eq Int (IntKind.i64.wrap (@HAdd.hAdd Int Int Int _ v0.1 1)) (IntKind.i64.wrap (@HAdd.hAdd Int Int Int _ v0.1 1)) ∧ True ∧ True ∧ True ∧ @Eq _ (cleanL b) (cleanL b) ∧ @Eq _ (cleanL a) (cleanL a) ∧ True ∧ @Eq _ (cleanL b) (cleanL b) ∧ @Eq _ b b ∧ @Eq _ (cleanL a) (cleanL a) ∧ @Eq _ a a ∧ True ∧ @Eq _ (cleanL a) (cleanL a) ∧ @Eq _ (cleanL b) (cleanL b) ∧ @Eq _ keep keep ∧ True) ∧ @Eq _ ((cleanL a) :: ((cleanL b) :: ([] : List (Ty.T (Ty.list RectT))))) ((cleanL a) :: ((cleanL b) :: ([] : List (Ty.T (Ty.list RectT))))) ∧ @Eq _ (edgesL ((cleanL a) :: ((cleanL b) :: ([] : List (Ty.T (Ty.list RectT)))))) (edgesL ((cleanL a) :: ((cleanL b) :: ([] : List (Ty.T (Ty.list RectT)))))) ∧ @Eq _ v0.2.1 v0.2.1 ∧ True) ∧ ((@LE.le Int _ 0 (IntKind.i64.wrap (@HAdd.hAdd Int Int Int _ v0.1 1)) ∧ (@LE.le Int _ (@HAdd.hAdd Int Int Int _ 0 1) (IntKind.i64.wrap (@HAdd.hAdd Int Int Int _ v0.1 1)) → @LE.le Int _ (@HAdd.hAdd Int Int Int _ (IntKind.i64.wrap (@HAdd.hAdd Int Int Int _ v0.1 1)) 1) (@Nat.cast (Pl.T (Pl.slot 9 I64)) _ (List.length (ysP a b))))) ∧ @Eq _ v0.2.1 (bandK (runsP (cleanL a) (cleanL b) (keepF keep) (ysP a b)) (ysP a b) (Int.toNat (IntKind.i64.wrap (@HAdd.hAdd Int Int Int _ v0.1 1))))) ∧ @LT.lt Nat _ (Int.toNat (@HSub.hSub Int Int Int _ (@Nat.cast Int _ (List.length (ysP a b))) (IntKind.i64.wrap (@HAdd.hAdd Int Int Int _ v0.1 1)))) (Int.toNat (@HSub.hSub Int Int Int _ (@Nat.cast Int _ (List.length (ysP a b))) v0.1)))) ∧ (@Eq Bool (BEq.beq (@Nat.cast Int _ (List.length (combP (rowP (cleanL a) (@elemAt I64 (edgesL ((cleanL a) :: ((cleanL b) :: ([] : List (Ty.T (Ty.list RectT)))))) (Int.toNat v0.1))) (rowP (cleanL b) (@elemAt I64 (edgesL ((cleanL a) :: ((cleanL b) :: ([] : List (Ty.T (Ty.list RectT)))))) (Int.toNat v0.1))) (keepF keep) (cutsOf (rowP (cleanL a) (@elemAt I64 (edgesL ((cleanL a) :: ((cleanL b) :: ([] : List (Ty.T (Ty.list RectT)))))) (Int.toNat v0.1))) (rowP (cleanL b) (@elemAt I64 (edgesL ((cleanL a) :: ((cleanL b) :: ([] : List (Ty.T (Ty.list RectT)))))) (Int.toNat v0.1))))))) 0) false → (True ∧ True ∧ True ∧ (True ∧ True ∧ True ∧ (@Eq Bool (@decide (@GT.gt Int _ (@Nat.cast Int _ (List.length v0.2.1)) 0) (Int.decLt 0 (@Nat.cast Int _ (List.length v0.2.1)))) true → True) ∧ (@Eq Bool (@decide (@GT.gt Int _ (@Nat.cast Int _ (List.length v0.2.1)) 0) (Int.decLt 0 (@Nat.cast Int _ (List.length v0.2.1)))) true → True) ∧ (@Eq Bool (@decide (@GT.gt Int _ (@Nat.cast Int _ (List.length v0.2.1)) 0) (Int.decLt 0 (@Nat.cast Int _ (List.length v0.2.1)))) true → True) ∧ (@Eq Bool (@decide (@GT.gt Int _ (@Nat.cast Int _ (List.length v0.2.1)) 0) (Int.decLt 0 (@Nat.cast Int _ (List.length v0.2.1)))) true → (@LE.le Int _ 0 (IntKind.i64.wrap (@HSub.hSub Int Int Int _ (@Nat.cast Int _ (List.length v0.2.1)) 1)) ∧ @LE.le Int _ (@HAdd.hAdd Int Int Int _ (IntKind.i64.wrap (@HSub.hSub Int Int Int _ (@Nat.cast Int _ (List.length v0.2.1)) 1)) 1) (@Nat.cast Int _ (List.length v0.2.1)))) ∧ (@Eq Bool (@decide (@GT.gt Int _ (@Nat.cast Int _ (List.length v0.2.1)) 0) (Int.decLt 0 (@Nat.cast Int _ (List.length v0.2.1)))) true → True) ∧ (@Eq Bool (@decide (@GT.gt Int _ (@Nat.cast Int _ (List.length v0.2.1)) 0) (Int.decLt 0 (@Nat.cast Int _ (List.length v0.2.1)))) true → @LT.lt Nat _ (Int.toNat (IntKind.i64.wrap (@HSub.hSub Int Int Int _ (@Nat.cast Int _ (List.length v0.2.1)) 1))) (List.length v0.2.1)) ∧ (@Eq Bool (@decide (@GT.gt Int _ (@Nat.cast Int _ (List.length v0.2.1)) 0) (Int.decLt 0 (@Nat.cast Int _ (List.length v0.2.1)))) true → True) ∧ (@Eq Bool (@decide (@GT.gt Int _ (@Nat.cast Int _ (List.length v0.2.1)) 0) (Int.decLt 0 (@Nat.cast Int _ (List.length v0.2.1)))) true → True) ∧ (@Eq Bool (@decide (@GT.gt Int _ (@Nat.cast Int _ (List.length v0.2.1)) 0) (Int.decLt 0 (@Nat.cast Int _ (List.length v0.2.1)))) true → (@LE.le Int _ 0 v0.1 ∧ @LE.le Int _ (@HAdd.hAdd Int Int Int _ v0.1 1) (@Nat.cast Int _ (List.length (edgesL ((cleanL a) :: ((cleanL b) :: ([] : List (Ty.T (Ty.list RectT)))))))))) ∧ (@Eq Bool (@decide (@GT.gt Int _ (@Nat.cast Int _ (List.length v0.2.1)) 0) (Int.decLt 0 (@Nat.cast Int _ (List.length v0.2.1)))) true → @LT.lt Nat _ (Int.toNat v0.1) (List.length (edgesL ((cleanL a) :: ((cleanL b) :: ([] : List (Ty.T (Ty.list RectT)))))))) ∧ (@Eq Bool (@decide (@GT.gt Int _ (@Nat.cast Int _ (List.length v0.2.1)) 0) (Int.decLt 0 (@Nat.cast Int _ (List.length v0.2.1)))) true → True) ∧ True ∧ True ∧ (@Eq Bool (and (@decide (@GT.gt Int _ (@Nat.cast Int _ (List.length v0.2.1)) 0) (Int.decLt 0 (@Nat.cast Int _ (List.length v0.2.1)))) (BEq.beq (@elemAt BandT v0.2.1 (Int.toNat (IntKind.i64.wrap (@HSub.hSub Int Int Int _ (@Nat.cast Int _ (List.length v0.2.1)) 1)))).2.1 (@elemAt I64 (edgesL ((cleanL a) :: ((cleanL b) :: ([] : List (Ty.T (Ty.list RectT)))))) (Int.toNat v0.1)))) true → True) ∧ (@Eq Bool (and (@decide (@GT.gt Int _ (@Nat.cast Int _ (List.length v0.2.1)) 0) (Int.decLt 0 (@Nat.cast Int _ (List.length v0.2.1)))) (BEq.beq (@elemAt BandT v0.2.1 (Int.toNat (IntKind.i64.wrap (@HSub.hSub Int Int Int _ (@Nat.cast Int _ (List.length v0.2.1)) 1)))).2.1 (@elemAt I64 (edgesL ((cleanL a) :: ((cleanL b) :: ([] : List (Ty.T (Ty.list RectT)))))) (Int.toNat v0.1)))) true → True) ∧ (@Eq Bool (and (@decide (@GT.gt Int _ (@Nat.cast Int _ (List.length v0.2.1)) 0) (Int.decLt 0 (@Nat.cast Int _ (List.length v0.2.1)))) (BEq.beq (@elemAt BandT v0.2.1 (Int.toNat (IntKind.i64.wrap (@HSub.hSub Int Int Int _ (@Nat.cast Int _ (List.length v0.2.1)) 1)))).2.1 (@elemAt I64 (edgesL ((cleanL a) :: ((cleanL b) :: ([] : List (Ty.T (Ty.list RectT)))))) (Int.toNat v0.1)))) true → True) ∧ (@Eq Bool (and (@decide (@GT.gt Int _ (@Nat.cast Int _ (List.length v0.2.1)) 0) (Int.decLt 0 (@Nat.cast Int _ (List.length v0.2.1)))) (BEq.beq (@elemAt BandT v0.2.1 (Int.toNat (IntKind.i64.wrap (@HSub.hSub Int Int Int _ (@Nat.cast Int _ (List.length v0.2.1)) 1)))).2.1 (@elemAt I64 (edgesL ((cleanL a) :: ((cleanL b) :: ([] : List (Ty.T (Ty.list RectT)))))) (Int.toNat v0.1)))) true → (@LE.le Int _ 0 (IntKind.i64.wrap (@HSub.hSub Int Int Int _ (@Nat.cast Int _ (List.length v0.2.1)) 1)) ∧ @LE.le Int _ (@HAdd.hAdd Int Int Int _ (IntKind.i64.wrap (@HSub.hSub Int Int Int _ (@Nat.cast Int _ (List.length v0.2.1)) 1)) 1) (@Nat.cast Int _ (List.length v0.2.1)))) ∧ (@Eq Bool (and (@decide (@GT.gt Int _ (@Nat.cast Int _ (List.length v0.2.1)) 0) (Int.decLt 0 (@Nat.cast Int _ (List.length v0.2.1)))) (BEq.beq (@elemAt BandT v0.2.1 (Int.toNat (IntKind.i64.wrap (@HSub.hSub Int Int Int _ (@Nat.cast Int _ (List.length v0.2.1)) 1)))).2.1 (@elemAt I64 (edgesL ((cleanL a) :: ((cleanL b) :: ([] : List (Ty.T (Ty.list RectT)))))) (Int.toNat v0.1)))) true → True) ∧ (@Eq Bool (and (@decide (@GT.gt Int _ (@Nat.cast Int _ (List.length v0.2.1)) 0) (Int.decLt 0 (@Nat.cast Int _ (List.length v0.2.1)))) (BEq.beq (@elemAt BandT v0.2.1 (Int.toNat (IntKind.i64.wrap (@HSub.hSub Int Int Int _ (@Nat.cast Int _ (List.length v0.2.1)) 1)))).2.1 (@elemAt I64 (edgesL ((cleanL a) :: ((cleanL b) :: ([] : List (Ty.T (Ty.list RectT)))))) (Int.toNat v0.1)))) true → @LT.lt Nat _ (Int.toNat (IntKind.i64.wrap (@HSub.hSub Int Int Int _ (@Nat.cast Int _ (List.length v0.2.1)) 1))) (List.length v0.2.1)) ∧ (@Eq Bool (and (@decide (@GT.gt Int _ (@Nat.cast Int _ (List.length v0.2.1)) 0) (Int.decLt 0 (@Nat.cast Int _ (List.length v0.2.1)))) (BEq.beq (@elemAt BandT v0.2.1 (Int.toNat (IntKind.i64.wrap (@HSub.hSub Int Int Int _ (@Nat.cast Int _ (List.length v0.2.1)) 1)))).2.1 (@elemAt I64 (edgesL ((cleanL a) :: ((cleanL b) :: ([] : List (Ty.T (Ty.list RectT)))))) (Int.toNat v0.1)))) true → True) ∧ (@Eq Bool (and (@decide (@GT.gt Int _ (@Nat.cast Int _ (List.length v0.2.1)) 0) (Int.decLt 0 (@Nat.cast Int _ (List.length v0.2.1)))) (BEq.beq (@elemAt BandT v0.2.1 (Int.toNat (IntKind.i64.wrap (@HSub.hSub Int Int Int _ (@Nat.cast Int _ (List.length v0.2.1)) 1)))).2.1 (@elemAt I64 (edgesL ((cleanL a) :: ((cleanL b) :: ([] : List (Ty.T (Ty.list RectT)))))) (Int.toNat v0.1)))) true → (@LE.le Nat _ (List.length (@elemAt BandT v0.2.1 (Int.toNat (IntKind.i64.wrap (@HSub.hSub Int Int Int _ (@Nat.cast Int _ (List.length v0.2.1)) 1)))).2.2) 1000000000 ∧ @LE.le Nat _ (List.length (combP (rowP (cleanL a) (@elemAt I64 (edgesL ((cleanL a) :: ((cleanL b) :: ([] : List (Ty.T (Ty.list RectT)))))) (Int.toNat v0.1))) (rowP (cleanL b) (@elemAt I64 (edgesL ((cleanL a) :: ((cleanL b) :: ([] : List (Ty.T (Ty.list RectT)))))) (Int.toNat v0.1))) (keepF keep) (cutsOf (rowP (cleanL a) (@elemAt I64 (edgesL ((cleanL a) :: ((cleanL b) :: ([] : List (Ty.T (Ty.list RectT)))))) (Int.toNat v0.1))) (rowP (cleanL b) (@elemAt I64 (edgesL ((cleanL a) :: ((cleanL b) :: ([] : List (Ty.T (Ty.list RectT)))))) (Int.toNat v0.1)))))) 1000000000)) ∧ True ∧ True) ∧ (@Eq Bool (and (and (@decide (@GT.gt Int _ (@Nat.cast Int _ (List.length v0.2.1)) 0) (Int.decLt 0 (@Nat.cast Int _ (List.length v0.2.1)))) (BEq.beq (@elemAt BandT v0.2.1 (Int.toNat (IntKind.i64.wrap (@HSub.hSub Int Int Int _ (@Nat.cast Int _ (List.length v0.2.1)) 1)))).2.1 (@elemAt I64 (edgesL ((cleanL a) :: ((cleanL b) :: ([] : List (Ty.T (Ty.list RectT)))))) (Int.toNat v0.1)))) (sameRuns (@elemAt BandT v0.2.1 (Int.toNat (IntKind.i64.wrap (@HSub.hSub Int Int Int _ (@Nat.cast Int _ (List.length v0.2.1)) 1)))).2.2 (combP (rowP (cleanL a) (@elemAt I64 (edgesL ((cleanL a) :: ((cleanL b) :: ([] : List (Ty.T (Ty.list RectT)))))) (Int.toNat v0.1))) (rowP (cleanL b) (@elemAt I64 (edgesL ((cleanL a) :: ((cleanL b) :: ([] : List (Ty.T (Ty.list RectT)))))) (Int.toNat v0.1))) (keepF keep) (cutsOf (rowP (cleanL a) (@elemAt I64 (edgesL ((cleanL a) :: ((cleanL b) :: ([] : List (Ty.T (Ty.list RectT)))))) (Int.toNat v0.1))) (rowP (cleanL b) (@elemAt I64 (edgesL ((cleanL a) :: ((cleanL b) :: ([] : List (Ty.T (Ty.list RectT)))))) (Int.toNat v0.1))))))) true → (True ∧ True ∧ True ∧ True ∧ True ∧ True ∧ (@LE.le Int _ 0 (IntKind.i64.wrap (@HAdd.hAdd Int Int Int _ v0.1 1)) ∧ @LE.le Int _ (@HAdd.hAdd Int Int Int _ (IntKind.i64.wrap (@HAdd.hAdd Int Int Int _ v0.1 1)) 1) (@Nat.cast Int _ (List.length (edgesL ((cleanL a) :: ((cleanL b) :: ([] : List (Ty.T (Ty.list RectT))))))))) ∧ @LT.lt Nat _ (Int.toNat (IntKind.i64.wrap (@HAdd.hAdd Int Int Int _ v0.1 1))) (List.length (edgesL ((cleanL a) :: ((cleanL b) :: ([] : List (Ty.T (Ty.list RectT))))))) ∧ (@LE.le Int _ 0 (IntKind.i64.wrap (@HSub.hSub Int Int Int _ (@Nat.cast Int _ (List.length v0.2.1)) 1)) ∧ @LE.le Int _ (@HAdd.hAdd Int Int Int _ (IntKind.i64.wrap (@HSub.hSub Int Int Int _ (@Nat.cast Int _ (List.length v0.2.1)) 1)) 1) (@Nat.cast Int _ (List.length v0.2.1))) ∧ True ∧ @LT.lt Nat _ (Int.toNat (IntKind.i64.wrap (@HSub.hSub Int Int Int _ (@Nat.cast Int _ (List.length v0.2.1)) 1))) (List.length v0.2.1) ∧ True ∧ True ∧ True ∧ (True ∧ (@Eq Int (IntKind.i64.wrap (@HAdd.hAdd Int Int Int _ v0.1 1)) (IntKind.i64.wrap (@HAdd.hAdd Int Int Int _ v0.1 1)) ∧ True ∧ True ∧ True ∧ @Eq _ (cleanL b) (cleanL b) ∧ @Eq _ (cleanL a) (cleanL a) ∧ True ∧ @Eq _ (cleanL b) (cleanL b) ∧ @Eq _ b b ∧ @Eq _ (cleanL a) (cleanL a) ∧ @Eq _ a a ∧ True ∧ @Eq _ (cleanL a) (cleanL a) ∧ @Eq _ (cleanL b) (cleanL b) ∧ @Eq _ keep keep ∧ True) ∧ @Eq _ ((cleanL a) :: ((cleanL b) :: ([] : List (Ty.T (Ty.list RectT))))) ((cleanL a) :: ((cleanL b) :: ([] : List (Ty.T (Ty.list RectT))))) ∧ @Eq _ (edgesL ((cleanL a) :: ((cleanL b) :: ([] : List (Ty.T (Ty.list RectT)))))) (edgesL ((cleanL a) :: ((cleanL b) :: ([] : List (Ty.T (Ty.list RectT)))))) ∧ @Eq _ (List.set v0.2.1 (Int.toNat (IntKind.i64.wrap (@HSub.hSub Int Int Int _ (@Nat.cast Int _ (List.length v0.2.1)) 1))) ((@elemAt BandT v0.2.1 (Int.toNat (IntKind.i64.wrap (@HSub.hSub Int Int Int _ (@Nat.cast Int _ (List.length v0.2.1)) 1)))).1, ((@elemAt I64 (edgesL ((cleanL a) :: ((cleanL b) :: ([] : List (Ty.T (Ty.list RectT)))))) (Int.toNat (IntKind.i64.wrap (@HAdd.hAdd Int Int Int _ v0.1 1)))), (@elemAt BandT v0.2.1 (Int.toNat (IntKind.i64.wrap (@HSub.hSub Int Int Int _ (@Nat.cast Int _ (List.length v0.2.1)) 1)))).2.2))) (List.set v0.2.1 (Int.toNat (IntKind.i64.wrap (@HSub.hSub Int Int Int _ (@Nat.cast Int _ (List.length v0.2.1)) 1))) ((@elemAt BandT v0.2.1 (Int.toNat (IntKind.i64.wrap (@HSub.hSub Int Int Int _ (@Nat.cast Int _ (List.length v0.2.1)) 1)))).1, ((@elemAt I64 (edgesL ((cleanL a) :: ((cleanL b) :: ([] : List (Ty.T (Ty.list RectT)))))) (Int.toNat (IntKind.i64.wrap (@HAdd.hAdd Int Int Int _ v0.1 1)))), (@elemAt BandT v0.2.1 (Int.toNat (IntKind.i64.wrap (@HSub.hSub Int Int Int _ (@Nat.cast Int _ (List.length v0.2.1)) 1)))).2.2))) ∧ True) ∧ ((@LE.le Int _ 0 (IntKind.i64.wrap (@HAdd.hAdd Int Int Int _ v0.1 1)) ∧ (@LE.le Int _ (@HAdd.hAdd Int Int Int _ 0 1) (IntKind.i64.wrap (@HAdd.hAdd Int Int Int _ v0.1 1)) → @LE.le Int _ (@HAdd.hAdd Int Int Int _ (IntKind.i64.wrap (@HAdd.hAdd Int Int Int _ v0.1 1)) 1) (@Nat.cast (Pl.T (Pl.slot 9 I64)) _ (List.length (ysP a b))))) ∧ @Eq _ (List.set v0.2.1 (Int.toNat (IntKind.i64.wrap (@HSub.hSub Int Int Int _ (@Nat.cast Int _ (List.length v0.2.1)) 1))) ((@elemAt BandT v0.2.1 (Int.toNat (IntKind.i64.wrap (@HSub.hSub Int Int Int _ (@Nat.cast Int _ (List.length v0.2.1)) 1)))).1, ((@elemAt I64 (edgesL ((cleanL a) :: ((cleanL b) :: ([] : List (Ty.T (Ty.list RectT)))))) (Int.toNat (IntKind.i64.wrap (@HAdd.hAdd Int Int Int _ v0.1 1)))), (@elemAt BandT v0.2.1 (Int.toNat (IntKind.i64.wrap (@HSub.hSub Int Int Int _ (@Nat.cast Int _ (List.length v0.2.1)) 1)))).2.2))) (bandK (runsP (cleanL a) (cleanL b) (keepF keep) (ysP a b)) (ysP a b) (Int.toNat (IntKind.i64.wrap (@HAdd.hAdd Int Int Int _ v0.1 1))))) ∧ @LT.lt Nat _ (Int.toNat (@HSub.hSub Int Int Int _ (@Nat.cast Int _ (List.length (ysP a b))) (IntKind.i64.wrap (@HAdd.hAdd Int Int Int _ v0.1 1)))) (Int.toNat (@HSub.hSub Int Int Int _ (@Nat.cast Int _ (List.length (ysP a b))) v0.1)))) ∧ (@Eq Bool (and (and (@decide (@GT.gt Int _ (@Nat.cast Int _ (List.length v0.2.1)) 0) (Int.decLt 0 (@Nat.cast Int _ (List.length v0.2.1)))) (BEq.beq (@elemAt BandT v0.2.1 (Int.toNat (IntKind.i64.wrap (@HSub.hSub Int Int Int _ (@Nat.cast Int _ (List.length v0.2.1)) 1)))).2.1 (@elemAt I64 (edgesL ((cleanL a) :: ((cleanL b) :: ([] : List (Ty.T (Ty.list RectT)))))) (Int.toNat v0.1)))) (sameRuns (@elemAt BandT v0.2.1 (Int.toNat (IntKind.i64.wrap (@HSub.hSub Int Int Int _ (@Nat.cast Int _ (List.length v0.2.1)) 1)))).2.2 (combP (rowP (cleanL a) (@elemAt I64 (edgesL ((cleanL a) :: ((cleanL b) :: ([] : List (Ty.T (Ty.list RectT)))))) (Int.toNat v0.1))) (rowP (cleanL b) (@elemAt I64 (edgesL ((cleanL a) :: ((cleanL b) :: ([] : List (Ty.T (Ty.list RectT)))))) (Int.toNat v0.1))) (keepF keep) (cutsOf (rowP (cleanL a) (@elemAt I64 (edgesL ((cleanL a) :: ((cleanL b) :: ([] : List (Ty.T (Ty.list RectT)))))) (Int.toNat v0.1))) (rowP (cleanL b) (@elemAt I64 (edgesL ((cleanL a) :: ((cleanL b) :: ([] : List (Ty.T (Ty.list RectT)))))) (Int.toNat v0.1))))))) false → ((True ∧ True ∧ True ∧ (@LE.le Int _ 0 v0.1 ∧ @LE.le Int _ (@HAdd.hAdd Int Int Int _ v0.1 1) (@Nat.cast Int _ (List.length (edgesL ((cleanL a) :: ((cleanL b) :: ([] : List (Ty.T (Ty.list RectT))))))))) ∧ @LT.lt Nat _ (Int.toNat v0.1) (List.length (edgesL ((cleanL a) :: ((cleanL b) :: ([] : List (Ty.T (Ty.list RectT))))))) ∧ True ∧ True ∧ True ∧ (@LE.le Int _ 0 (IntKind.i64.wrap (@HAdd.hAdd Int Int Int _ v0.1 1)) ∧ @LE.le Int _ (@HAdd.hAdd Int Int Int _ (IntKind.i64.wrap (@HAdd.hAdd Int Int Int _ v0.1 1)) 1) (@Nat.cast Int _ (List.length (edgesL ((cleanL a) :: ((cleanL b) :: ([] : List (Ty.T (Ty.list RectT))))))))) ∧ @LT.lt Nat _ (Int.toNat (IntKind.i64.wrap (@HAdd.hAdd Int Int Int _ v0.1 1))) (List.length (edgesL ((cleanL a) :: ((cleanL b) :: ([] : List (Ty.T (Ty.list RectT))))))) ∧ True ∧ True ∧ True ∧ @LE.le Nat _ (@HMul.hMul Nat Nat Nat _ (@HAdd.hAdd Nat Nat Nat _ (List.length v0.2.1) (List.length (((@elemAt I64 (edgesL ((cleanL a) :: ((cleanL b) :: ([] : List (Ty.T (Ty.list RectT)))))) (Int.toNat v0.1)), ((@elemAt I64 (edgesL ((cleanL a) :: ((cleanL b) :: ([] : List (Ty.T (Ty.list RectT)))))) (Int.toNat (IntKind.i64.wrap (@HAdd.hAdd Int Int Int _ v0.1 1)))), (combP (rowP (cleanL a) (@elemAt I64 (edgesL ((cleanL a) :: ((cleanL b) :: ([] : List (Ty.T (Ty.list RectT)))))) (Int.toNat v0.1))) (rowP (cleanL b) (@elemAt I64 (edgesL ((cleanL a) :: ((cleanL b) :: ([] : List (Ty.T (Ty.list RectT)))))) (Int.toNat v0.1))) (keepF keep) (cutsOf (rowP (cleanL a) (@elemAt I64 (edgesL ((cleanL a) :: ((cleanL b) :: ([] : List (Ty.T (Ty.list RectT)))))) (Int.toNat v0.1))) (rowP (cleanL b) (@elemAt I64 (edgesL ((cleanL a) :: ((cleanL b) :: ([] : List (Ty.T (Ty.list RectT)))))) (Int.toNat v0.1))))))) :: ([] : List (Ty.T (Ty.prod (Ty.int IntKind.i64) (Ty.prod (Ty.int IntKind.i64) (Ty.list (Ty.prod (Ty.int IntKind.i64) (Ty.int IntKind.i64)))))))))) 40) 140737488355328 ∧ True ∧ True) ∧ True ∧ True ∧ True ∧ (True ∧ (@Eq Int (IntKind.i64.wrap (@HAdd.hAdd Int Int Int _ v0.1 1)) (IntKind.i64.wrap (@HAdd.hAdd Int Int Int _ v0.1 1)) ∧ True ∧ True ∧ True ∧ @Eq _ (cleanL b) (cleanL b) ∧ @Eq _ (cleanL a) (cleanL a) ∧ True ∧ @Eq _ (cleanL b) (cleanL b) ∧ @Eq _ b b ∧ @Eq _ (cleanL a) (cleanL a) ∧ @Eq _ a a ∧ True ∧ @Eq _ (cleanL a) (cleanL a) ∧ @Eq _ (cleanL b) (cleanL b) ∧ @Eq _ keep keep ∧ True) ∧ @Eq _ ((cleanL a) :: ((cleanL b) :: ([] : List (Ty.T (Ty.list RectT))))) ((cleanL a) :: ((cleanL b) :: ([] : List (Ty.T (Ty.list RectT))))) ∧ @Eq _ (edgesL ((cleanL a) :: ((cleanL b) :: ([] : List (Ty.T (Ty.list RectT)))))) (edgesL ((cleanL a) :: ((cleanL b) :: ([] : List (Ty.T (Ty.list RectT)))))) ∧ @Eq _ (HAppend.hAppend v0.2.1 (((@elemAt I64 (edgesL ((cleanL a) :: ((cleanL b) :: ([] : List (Ty.T (Ty.list RectT)))))) (Int.toNat v0.1)), ((@elemAt I64 (edgesL ((cleanL a) :: ((cleanL b) :: ([] : List (Ty.T (Ty.list RectT)))))) (Int.toNat (IntKind.i64.wrap (@HAdd.hAdd Int Int Int _ v0.1 1)))), (combP (rowP (cleanL a) (@elemAt I64 (edgesL ((cleanL a) :: ((cleanL b) :: ([] : List (Ty.T (Ty.list RectT)))))) (Int.toNat v0.1))) (rowP (cleanL b) (@elemAt I64 (edgesL ((cleanL a) :: ((cleanL b) :: ([] : List (Ty.T (Ty.list RectT)))))) (Int.toNat v0.1))) (keepF keep) (cutsOf (rowP (cleanL a) (@elemAt I64 (edgesL ((cleanL a) :: ((cleanL b) :: ([] : List (Ty.T (Ty.list RectT)))))) (Int.toNat v0.1))) (rowP (cleanL b) (@elemAt I64 (edgesL ((cleanL a) :: ((cleanL b) :: ([] : List (Ty.T (Ty.list RectT)))))) (Int.toNat v0.1))))))) :: ([] : List (Ty.T (Ty.prod (Ty.int IntKind.i64) (Ty.prod (Ty.int IntKind.i64) (Ty.list (Ty.prod (Ty.int IntKind.i64) (Ty.int IntKind.i64))))))))) (HAppend.hAppend v0.2.1 (((@elemAt I64 (edgesL ((cleanL a) :: ((cleanL b) :: ([] : List (Ty.T (Ty.list RectT)))))) (Int.toNat v0.1)), ((@elemAt I64 (edgesL ((cleanL a) :: ((cleanL b) :: ([] : List (Ty.T (Ty.list RectT)))))) (Int.toNat (IntKind.i64.wrap (@HAdd.hAdd Int Int Int _ v0.1 1)))), (combP (rowP (cleanL a) (@elemAt I64 (edgesL ((cleanL a) :: ((cleanL b) :: ([] : List (Ty.T (Ty.list RectT)))))) (Int.toNat v0.1))) (rowP (cleanL b) (@elemAt I64 (edgesL ((cleanL a) :: ((cleanL b) :: ([] : List (Ty.T (Ty.list RectT)))))) (Int.toNat v0.1))) (keepF keep) (cutsOf (rowP (cleanL a) (@elemAt I64 (edgesL ((cleanL a) :: ((cleanL b) :: ([] : List (Ty.T (Ty.list RectT)))))) (Int.toNat v0.1))) (rowP (cleanL b) (@elemAt I64 (edgesL ((cleanL a) :: ((cleanL b) :: ([] : List (Ty.T (Ty.list RectT)))))) (Int.toNat v0.1))))))) :: ([] : List (Ty.T (Ty.prod (Ty.int IntKind.i64) (Ty.prod (Ty.int IntKind.i64) (Ty.list (Ty.prod (Ty.int IntKind.i64) (Ty.int IntKind.i64))))))))) ∧ True) ∧ ((@LE.le Int _ 0 (IntKind.i64.wrap (@HAdd.hAdd Int Int Int _ v0.1 1)) ∧ (@LE.le Int _ (@HAdd.hAdd Int Int Int _ 0 1) (IntKind.i64.wrap (@HAdd.hAdd Int Int Int _ v0.1 1)) → @LE.le Int _ (@HAdd.hAdd Int Int Int _ (IntKind.i64.wrap (@HAdd.hAdd Int Int Int _ v0.1 1)) 1) (@Nat.cast (Pl.T (Pl.slot 9 I64)) _ (List.length (ysP a b))))) ∧ @Eq _ (HAppend.hAppend v0.2.1 (((@elemAt I64 (edgesL ((cleanL a) :: ((cleanL b) :: ([] : List (Ty.T (Ty.list RectT)))))) (Int.toNat v0.1)), ((@elemAt I64 (edgesL ((cleanL a) :: ((cleanL b) :: ([] : List (Ty.T (Ty.list RectT)))))) (Int.toNat (IntKind.i64.wrap (@HAdd.hAdd Int Int Int _ v0.1 1)))), (combP (rowP (cleanL a) (@elemAt I64 (edgesL ((cleanL a) :: ((cleanL b) :: ([] : List (Ty.T (Ty.list RectT)))))) (Int.toNat v0.1))) (rowP (cleanL b) (@elemAt I64 (edgesL ((cleanL a) :: ((cleanL b) :: ([] : List (Ty.T (Ty.list RectT)))))) (Int.toNat v0.1))) (keepF keep) (cutsOf (rowP (cleanL a) (@elemAt I64 (edgesL ((cleanL a) :: ((cleanL b) :: ([] : List (Ty.T (Ty.list RectT)))))) (Int.toNat v0.1))) (rowP (cleanL b) (@elemAt I64 (edgesL ((cleanL a) :: ((cleanL b) :: ([] : List (Ty.T (Ty.list RectT)))))) (Int.toNat v0.1))))))) :: ([] : List (Ty.T (Ty.prod (Ty.int IntKind.i64) (Ty.prod (Ty.int IntKind.i64) (Ty.list (Ty.prod (Ty.int IntKind.i64) (Ty.int IntKind.i64))))))))) (bandK (runsP (cleanL a) (cleanL b) (keepF keep) (ysP a b)) (ysP a b) (Int.toNat (IntKind.i64.wrap (@HAdd.hAdd Int Int Int _ v0.1 1))))) ∧ @LT.lt Nat _ (Int.toNat (@HSub.hSub Int Int Int _ (@Nat.cast Int _ (List.length (ysP a b))) (IntKind.i64.wrap (@HAdd.hAdd Int Int Int _ v0.1 1)))) (Int.toNat (@HSub.hSub Int Int Int _ (@Nat.cast Int _ (List.length (ysP a b))) v0.1)))))))) ∧ (@Eq Bool (@decide (@LT.lt Int _ (IntKind.i64.wrap (@HAdd.hAdd Int Int Int _ v0.1 1)) (@Nat.cast Int _ (List.length (edgesL ((cleanL a) :: ((cleanL b) :: ([] : List (Ty.T (Ty.list RectT))))))))) (Int.decLt (IntKind.i64.wrap (@HAdd.hAdd Int Int Int _ v0.1 1)) (@Nat.cast Int _ (List.length (edgesL ((cleanL a) :: ((cleanL b) :: ([] : List (Ty.T (Ty.list RectT)))))))))) false → (True ∧ True ∧ (True ∧ True) ∧ @Eq _ v0.2.1 (bandsP a b (keepF keep))))))))) (by kernel_rfl) ?_
  simp only [true_and, and_true, decide_eq_true_eq, decide_eq_false_iff_not, forall_const, implies_true, and_self]
  rw [show edgesL [cleanL a, cleanL b] = ysP a b from rfl]
  have ca := cleanL_len a
  have cb := cleanL_len b
  have hys := ysP_len a b
  refine ⟨by omega, by omega, ⟨by simp, fun v hv => ?_⟩, ⟨⟨by omega, fun h => by omega⟩, rfl⟩, ?_⟩
  · have hv : v ∈ [cleanL a, cleanL b] := hv
    simp only [List.mem_cons, List.not_mem_nil, or_false] at hv
    rcases hv with rfl | rfl
    · omega
    · omega
  unfold bandsP
  generalize hY : ysP a b = ys at hys ⊢
  rintro ⟨j, out, _⟩ ⟨⟨j0, j1⟩, he⟩
  simp only at j0 j1 he ⊢
  rw [show combP (rowP (cleanL a) (elemAt (t := I64) ys j.toNat)) (rowP (cleanL b) (elemAt (t := I64) ys j.toNat)) (keepF keep) (cutsOf (rowP (cleanL a) (elemAt (t := I64) ys j.toNat)) (rowP (cleanL b) (elemAt (t := I64) ys j.toNat))) = runsP (cleanL a) (cleanL b) (keepF keep) ys j.toNat from rfl]
  have hj : j ≤ 8000 := by
    by_cases h : (0 : Int) + 1 ≤ j
    · have := j1 h
      omega
    · omega
  have hol := bandK_len (runsP (cleanL a) (cleanL b) (keepF keep) ys) ys j.toNat
  rw [← he] at hol
  have hst := bandK_step (runsP (cleanL a) (cleanL b) (keepF keep) ys) ys j.toNat
  rw [← he] at hst
  unfold bandStep lastB at hst
  have hrl := runsP_len (cleanL a) (cleanL b) (keepF keep) ys j.toNat
  have hall := bandK_all (ys := ys) (Q := fun l => l.length ≤ 4000) (fun i => Nat.le_trans (runsP_len (cleanL a) (cleanL b) (keepF keep) ys i) (by omega)) j.toNat
  rw [← he] at hall
  have ra := rowP_len (cleanL a) (elemAt (t := I64) ys j.toNat)
  have rb := rowP_len (cleanL b) (elemAt (t := I64) ys j.toNat)
  generalize runsP (cleanL a) (cleanL b) (keepF keep) ys j.toNat = R at hst hrl ⊢
  rw [wrap_in (n := j + 1) (by omega), wrap_in (n := (out.length : Int) - 1) (by omega), show (j + 1).toNat = j.toNat + 1 by omega, show ((out.length : Int) - 1).toNat = out.length - 1 by omega]
  refine ⟨fun hlt => ⟨⟨⟨j0, by omega⟩, by omega, ⟨by omega, clean_usable a⟩, ⟨j0, by omega⟩, by omega, ⟨by omega, clean_usable b⟩, by omega, by omega⟩, fun hr => ?_, fun hr => ⟨⟨fun _ => ⟨by omega, by omega⟩, fun _ => by omega, fun _ => ⟨j0, by omega⟩, fun _ => by omega, fun hc => ?_, fun hc => ?_, fun hc => ?_⟩, fun hc => ?_, fun hc => ?_⟩⟩, fun hlt => ?_⟩
  · have hr : R.length = 0 := by
      simp at hr
      rw [hr]
      rfl
    rw [if_pos hr] at hst
    exact ⟨⟨⟨by omega, fun _ => by omega⟩, hst.symm⟩, by omega⟩
  · rw [Bool.and_eq_true, decide_eq_true_eq] at hc
    exact ⟨by omega, by omega⟩
  · rw [Bool.and_eq_true, decide_eq_true_eq] at hc
    omega
  · rw [Bool.and_eq_true, decide_eq_true_eq] at hc
    have := hall _ (List.mem_of_getElem? (elemAt_get (t := BandT) out (out.length - 1) (by omega)))
    exact ⟨Nat.le_trans this (by omega), by omega⟩
  · have hr : ¬ R.length = 0 := by
      intro h
      rw [h] at hr
      simp at hr
    rw [Bool.and_eq_true, Bool.and_eq_true, decide_eq_true_eq, beq_iff_eq] at hc
    have hs : (elemAt (t := BandT) out (out.length - 1)).2.2 = R := by
      have := hc.2
      unfold sameRuns at this
      simpa using this
    rw [if_neg hr, if_pos ⟨by omega, hc.1.2, hs⟩] at hst
    exact ⟨⟨by omega, by omega⟩, by omega, ⟨by omega, by omega⟩, by omega, ⟨⟨by omega, fun _ => by omega⟩, hst.symm⟩, by omega⟩
  · have hr : ¬ R.length = 0 := by
      intro h
      rw [h] at hr
      simp at hr
    have hn : ¬ (0 < out.length ∧ (elemAt (t := BandT) out (out.length - 1)).2.1 = elemAt (t := I64) ys j.toNat ∧ (elemAt (t := BandT) out (out.length - 1)).2.2 = R) := by
      rintro ⟨h1, h2, h3⟩
      rw [h2, h3, decide_eq_true (show (out.length : Int) > 0 by omega)] at hc
      simp [sameRuns] at hc
    rw [if_neg hr, if_neg hn] at hst
    refine ⟨⟨⟨j0, by omega⟩, by omega, ⟨by omega, by omega⟩, by omega, ?_⟩, ⟨⟨by omega, fun _ => by omega⟩, hst.symm⟩, by omega⟩
    simp only [List.length_singleton]
    omega
  · rw [he]
    congr 1
    by_cases h : (0 : Int) + 1 ≤ j
    · have := j1 h
      omega
    · omega
abbrev K43 : KCons := (45, fun Γc => pure_ Γc ((pcon [.d (.list RectT), .d (.list RectT), .f [.bool, .bool] .bool] fun x => (x.1.length ≤ 1000 ∧ x.2.1.length ≤ 1000, .arr BandT (bandsP x.1 x.2.1 (keepF x.2.2.1)))))) :: K42
theorem HK43 : KS Try.prog K43 := ks_add (ksound_pure (s_bands)) HK42
theorem ysP_is (a b : List Rect) : ysP a b = ysOf a b := by
  unfold ysP edgesL
  refine sorted_ext (insAll_sorted List.Pairwise.nil) (ysOf_sorted a b) fun z => ?_
  rw [insAll_mem, ysOf_mem]
  unfold ysAll
  have key : ∀ l : List Rect, (∃ r ∈ cleanL l, z = r.2.1 ∨ z = r.2.2.2) ↔ ∃ r ∈ l, usableR r = true ∧ (z = r.2.1 ∨ z = r.2.2.2) := by
    intro l
    constructor
    · rintro ⟨r, hr, h⟩
      exact ⟨r, (List.mem_filter.1 hr).1, clean_usable l r hr, h⟩
    · rintro ⟨r, hr, hu, h⟩
      exact ⟨r, List.mem_filter.2 ⟨hr, by rw [← usable_empty]; exact hu⟩, h⟩
  rw [← key a, ← key b]
  simp only [List.flatten_cons, List.flatten_nil, List.append_nil, List.mem_flatMap, List.mem_append, List.not_mem_nil, false_or, List.mem_cons, or_false]
  constructor
  · rintro ⟨r, hr | hr, h⟩
    · exact .inl ⟨r, hr, h⟩
    · exact .inr ⟨r, hr, h⟩
  · rintro (⟨r, hr, h⟩ | ⟨r, hr, h⟩)
    · exact ⟨r, .inl hr, h⟩
    · exact ⟨r, .inr hr, h⟩
theorem clean_any (l : List Rect) (x y : Int) : (cleanL l).any (hitX x y) = l.any (hitX x y) := by
  rw [Bool.eq_iff_iff, List.any_eq_true, List.any_eq_true]
  constructor
  · rintro ⟨r, hr, h⟩
    exact ⟨r, (List.mem_filter.1 hr).1, h⟩
  · rintro ⟨r, hr, h⟩
    refine ⟨r, List.mem_filter.2 ⟨hr, ?_⟩, h⟩
    unfold hitX hitR at h
    simp only [Bool.and_eq_true] at h
    rw [← usable_empty]
    exact h.1.1.1
theorem compact_sorted {zs : List Int} (h : zs.Pairwise (· ≤ ·)) : (Lib.compact zs).Pairwise (· < ·) ∧ ∀ z, z ∈ Lib.compact zs ↔ z ∈ zs := by
  have hg : ∀ i (hi : i < zs.length), zs.toArray[i]! = zs[i] := fun i hi => by
    rw [getElem!_pos zs.toArray i (by simpa using hi)]
    simp
  have hp := List.pairwise_iff_getElem.1 h
  unfold Lib.compact Lib.compactUpTo
  constructor
  · rw [List.pairwise_map]
    refine List.Pairwise.imp_of_mem ?_ (List.pairwise_lt_range.filter _)
    intro a b ha hb hab
    obtain ⟨h1, h2⟩ := List.mem_filter.1 ha
    obtain ⟨h3, h4⟩ := List.mem_filter.1 hb
    rw [List.mem_range] at h1 h3
    unfold Lib.keeps at h4
    simp only [decide_eq_true_eq] at h4
    rcases h4 with h4 | h4
    · omega
    · rw [hg b h3, hg (b - 1) (by omega)] at h4
      rw [hg a h1, hg b h3]
      have g1 := hp (b - 1) b (by omega) h3 (by omega)
      by_cases he : a = b - 1
      · subst he
        omega
      · have g2 := hp a (b - 1) h1 (by omega) (by omega)
        omega
  · intro z
    rw [List.mem_map]
    constructor
    · rintro ⟨i, hi, rfl⟩
      have := List.mem_range.1 (List.mem_filter.1 hi).1
      rw [hg i this]
      exact List.getElem_mem _
    · intro hz
      obtain ⟨i, hi, rfl⟩ := List.getElem_of_mem hz
      have : ∀ n (hn : n < zs.length), ∃ k, k ∈ (List.range zs.length).filter (Lib.keeps zs.toArray) ∧ zs.toArray[k]! = zs[n] := by
        intro n
        induction n with
        | zero => exact fun hn => ⟨0, List.mem_filter.2 ⟨List.mem_range.2 hn, by simp [Lib.keeps]⟩, hg 0 hn⟩
        | succ n ih =>
          intro hn
          by_cases he : zs[n + 1] = zs[n]
          · obtain ⟨k, hk, hk2⟩ := ih (by omega)
            exact ⟨k, hk, by rw [hk2, he]⟩
          · refine ⟨n + 1, List.mem_filter.2 ⟨List.mem_range.2 hn, ?_⟩, hg (n + 1) hn⟩
            unfold Lib.keeps
            simp only [decide_eq_true_eq]
            right
            rw [hg (n + 1) hn, Nat.add_sub_cancel, hg n (by omega)]
            exact he
      exact this i hi
theorem cuts_spec (a b : List Run) : (cutsOf a b).Pairwise (· < ·) ∧ (∀ r ∈ a, r.1 ∈ cutsOf a b ∧ r.2 ∈ cutsOf a b) ∧ ∀ r ∈ b, r.1 ∈ cutsOf a b ∧ r.2 ∈ cutsOf a b := by
  have h1 : (sortI (flatP (a ++ b))).Pairwise (fun a b => decide (a ≤ b) = true) := List.pairwise_mergeSort (fun a b c h1 h2 => by simp at *; omega) (fun a b => by simp; omega) _
  obtain ⟨c1, c2⟩ := compact_sorted (zs := sortI (flatP (a ++ b))) (h1.imp fun h => by simpa using h)
  have hm : ∀ z, z ∈ cutsOf a b ↔ z ∈ flatP (a ++ b) := fun z => by
    unfold cutsOf
    rw [c2, sortI_mem]
  have hf : ∀ r ∈ a ++ b, r.1 ∈ flatP (a ++ b) ∧ r.2 ∈ flatP (a ++ b) := fun r hr => by
    unfold flatP
    exact ⟨List.mem_flatMap.2 ⟨r, hr, by simp⟩, List.mem_flatMap.2 ⟨r, hr, by simp⟩⟩
  refine ⟨c1, fun r hr => ?_, fun r hr => ?_⟩
  · have := hf r (List.mem_append_left _ hr)
    exact ⟨(hm _).2 this.1, (hm _).2 this.2⟩
  · have := hf r (List.mem_append_right _ hr)
    exact ⟨(hm _).2 this.1, (hm _).2 this.2⟩
theorem runsP_is (a b : List Rect) (m : Int) (ys : List Int) (i : Nat) : runsP (cleanL a) (cleanL b) (modeB m) ys i = pairsOf (runsAt a b m ys i) := by
  unfold runsP runsAt
  obtain ⟨h1, h2, h3⟩ := cuts_spec (rowP (cleanL a) (elemAt (t := I64) ys i)) (rowP (cleanL b) (elemAt (t := I64) ys i))
  refine combP_is h1 h2 h3 (fun x => ?_) (fun x => ?_)
  · rw [covL_rowP (clean_usable a), clean_any, inL_rowL]
  · rw [covL_rowP (clean_usable b), clean_any, inL_rowL]
theorem bandsP_is (a b : List Rect) (m : Int) : rectsB (bandsP a b (modeB m)) = combinedL a b m := by
  unfold bandsP
  rw [ysP_is]
  exact bands_is a b m fun i _ => runsP_is a b m _ i
end Go.Proofs.Ytogbocplojbdjaa
