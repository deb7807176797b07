/-
  A part of the proof: what some of the program's functions compute.
-/
import Derived.Test.YtijmbmncdchjkaaGreatVFE
namespace Go.Proofs.YtijmbmncdchjkaaGreat
open Go Go.E Go.Proofs
set_option linter.unusedVariables false
set_option linter.unusedSimpArgs false
/-! the reference's focus -/
abbrev Foc5T : Ty := .prod I64 (.prod I64 .bool)
abbrev Foc5 := Int × Int × Bool
theorem s_r31New : PSound Tryz.prog 9 (pcon [] fun x => (True, .agg [.int .i64 0, .nils])) := by
  refine psoundF (K := K87) (Γc := C58) (Γr := R0) (fun _ => []) hm HK87 HC58 HR0 Tryz.call9 Tryz.func9 (by kernel_rfl) ?_
  rintro ⟨⟩ _
  refine Eq.mpr (β := (True ∧ True ∧ True ∧ (True ∧ True) ∧ @Eq Int (Int.ofNat 0) (Int.ofNat 0) ∧ True ∧ True)) (by kernel_rfl) ?_
  simp only [true_and, and_true, decide_eq_true_eq, decide_eq_false_iff_not, forall_const, implies_true, and_self]
abbrev K88 : KCons := (9, fun Γc => pure_ Γc ((pcon [] fun x => (True, .agg [.int .i64 0, .nils])))) :: K87
theorem HK88 : KS Tryz.prog K88 := ks_add (ksound_pure (s_r31New)) HK87
theorem s_r32New : PSound Tryz.prog 8 (pcon [] fun x => (True, .agg (enc Foc5T (0, 0, false)))) := by
  refine psoundF (K := K88) (Γc := C58) (Γr := R0) (fun _ => []) hm HK88 HC58 HR0 Tryz.call8 Tryz.func8 (by kernel_rfl) ?_
  rintro ⟨⟩ _
  refine Eq.mpr (β := (True ∧ True ∧ True ∧ (True ∧ True) ∧ @Eq Int (Int.ofNat 0) (Int.ofNat 0) ∧ @Eq Int (Int.ofNat 0) (Int.ofNat 0) ∧ @Eq Bool false false ∧ True)) (by kernel_rfl) ?_
  simp only [true_and, and_true, decide_eq_true_eq, decide_eq_false_iff_not, forall_const, implies_true, and_self]
abbrev K89 : KCons := (8, fun Γc => pure_ Γc ((pcon [] fun x => (True, .agg (enc Foc5T (0, 0, false)))))) :: K88
theorem HK89 : KS Tryz.prog K89 := ks_add (ksound_pure (s_r32New)) HK88
theorem s_r32Current : PSound Tryz.prog 19 (pcon [.d Foc5T] fun x => (True, .tup [.int .i64 x.1.1, .int .i64 x.1.2.1])) := by
  refine psoundF (K := K89) (Γc := C58) (Γr := R0) (fun _ => []) hm HK89 HC58 HR0 Tryz.call19 Tryz.func19 (by kernel_rfl) ?_
  rintro ⟨⟨s, c, b⟩, _⟩ _
  refine Eq.mpr (β := (True ∧ True ∧ True ∧ (True ∧ True ∧ True ∧ True ∧ True ∧ True ∧ True) ∧ (True ∧ True ∧ True) ∧ @Eq Int s s ∧ @Eq Int c (c, b).1 ∧ True)) (by kernel_rfl) ?_
  simp only [true_and, and_true, decide_eq_true_eq, decide_eq_false_iff_not, forall_const, implies_true, and_self]
abbrev K90 : KCons := (19, fun Γc => pure_ Γc ((pcon [.d Foc5T] fun x => (True, .tup [.int .i64 x.1.1, .int .i64 x.1.2.1])))) :: K89
theorem HK90 : KS Tryz.prog K90 := ks_add (ksound_pure (s_r32Current)) HK89
theorem s_r32Lock : PSound Tryz.prog 11 (pcon [.d Foc5T, .d .bool] fun x => (True, .agg (enc Foc5T (x.1.1, x.1.2.1, x.2.1)))) := by
  refine psoundF (K := K90) (Γc := C58) (Γr := R0) (fun _ => []) hm HK90 HC58 HR0 Tryz.call11 Tryz.func11 (by kernel_rfl) ?_
  rintro ⟨⟨s, c, b⟩, q, _⟩ _
  refine Eq.mpr (β := (True ∧ True ∧ True ∧ True ∧ True ∧ True ∧ True ∧ (True ∧ True) ∧ @Eq Int s s ∧ @Eq Int c (c, b).1 ∧ @Eq Bool q q ∧ True)) (by kernel_rfl) ?_
  simp only [true_and, and_true, decide_eq_true_eq, decide_eq_false_iff_not, forall_const, implies_true, and_self]
abbrev K91 : KCons := (11, fun Γc => pure_ Γc ((pcon [.d Foc5T, .d .bool] fun x => (True, .agg (enc Foc5T (x.1.1, x.1.2.1, x.2.1)))))) :: K90
theorem HK91 : KS Tryz.prog K91 := ks_add (ksound_pure (s_r32Lock)) HK90
def drop32 (w : Foc5) (s : Int) : Foc5 := if w.1 = s then (0, 0, w.2.2) else w
theorem s_r32Drop : PSound Tryz.prog 13 (pcon [.d Foc5T, .d I64] fun x => (True, .tup [.agg (enc Foc5T (drop32 x.1 x.2.1)), .nils])) := by
  refine psoundF (K := K91) (Γc := C58) (Γr := R0) (fun _ => []) hm HK91 HC58 HR0 Tryz.call13 Tryz.func13 (by kernel_rfl) ?_
  rintro ⟨⟨s, c, b⟩, q, _⟩ _
  refine Eq.mpr (β := (True ∧ True ∧ True ∧ True ∧ True ∧ True ∧ True ∧ (@Eq Bool (BEq.beq s q) true → (True ∧ True ∧ True ∧ True ∧ True ∧ True ∧ True ∧ (True ∧ True ∧ True) ∧ (@Eq Int (0:Int) (drop32 (s, (c, b)) q).1 ∧ @Eq Int (0:Int) (drop32 (s, (c, b)) q).2.1 ∧ @Eq Bool b (drop32 (s, (c, b)) q).2.2 ∧ True) ∧ True ∧ True)) ∧ (@Eq Bool (BEq.beq s q) false → (True ∧ True ∧ True ∧ (True ∧ True ∧ True) ∧ (@Eq Int s (drop32 (s, (c, b)) q).1 ∧ @Eq Int c (drop32 (s, (c, b)) q).2.1 ∧ @Eq Bool b (drop32 (s, (c, b)) q).2.2 ∧ True) ∧ True ∧ True)))) (by kernel_rfl) ?_
  simp only [true_and, and_true, decide_eq_true_eq, decide_eq_false_iff_not, forall_const, implies_true, and_self]
  refine ⟨fun h => ?_, fun h => ?_⟩
  · have h : s = q := by simpa using h
    simp [drop32, h]
  · have h : ¬ s = q := by simpa using h
    simp [drop32, h]
abbrev K92 : KCons := (13, fun Γc => pure_ Γc ((pcon [.d Foc5T, .d I64] fun x => (True, .tup [.agg (enc Foc5T (drop32 x.1 x.2.1)), .nils])))) :: K91
theorem HK92 : KS Tryz.prog K92 := ks_add (ksound_pure (s_r32Drop)) HK91
def target5 (l : List Item) (x y : Int) : Int × Int := if at5 l x y < 0 then (0, 0) else ((elemAt (t := ItemT) l (at5 l x y).toNat).1, (elemAt (t := ItemT) l (at5 l x y).toNat).2.1)
theorem at5_lt (l : List Item) (x y : Int) : at5 l x y < l.length := by
  unfold at5 lastIdx
  split <;> omega
theorem s_r32Target : PSound Tryz.prog 30 (pcon [.d (.list ItemT), .d I64, .d I64] fun x => (Items5 x.1, .tup [.int .i64 (target5 x.1 x.2.1 x.2.2.1).1, .int .i64 (target5 x.1 x.2.1 x.2.2.1).2])) := by
  refine psoundF (K := K92) (Γc := C58) (Γr := R0) (fun _ => []) hm HK92 HC58 HR0 Tryz.call30 Tryz.func30 (by kernel_rfl) ?_
  rintro ⟨l, x, y, _⟩ hx
  have hx : Items5 l := hx
  refine Eq.mpr (β := (True ∧ True ∧ True ∧ True ∧ True ∧ (@LE.le Nat instLENat (List.length l) (9223372036854775807:Nat) ∧ (∀ (v0 : (Prod Int (Prod Int (Prod Int (Prod Int (Prod (Prod Int (Prod Int (List (Prod Int (Prod Int (Prod Int Int)))))) (Prod (List (Prod Int (Prod Int (Prod Int Int)))) (List (Prod Int (Prod Int (Prod Int Int))))))))))), ((List.Mem v0 l) → ((itemLen v0) ∧ @LE.le Nat instLENat (List.length v0.2.2.2.2.2.2) (1000:Nat))))) ∧ True ∧ True ∧ True ∧ (@Eq Bool (@decide (@LT.lt Int Int.instLTInt (at5 l x y) (0:Int)) (Int.decLt (at5 l x y) (0:Int))) true → (True ∧ True ∧ (True ∧ True ∧ True) ∧ @Eq Int (0:Int) (target5 l x y).1 ∧ @Eq Int (0:Int) (target5 l x y).2 ∧ True)) ∧ (@Eq Bool (@decide (@LT.lt Int Int.instLTInt (at5 l x y) (0:Int)) (Int.decLt (at5 l x y) (0:Int))) false → ((True ∧ True ∧ (@LE.le Int Int.instLEInt (0:Int) (at5 l x y) ∧ @LE.le Int Int.instLEInt (@HAdd.hAdd Int Int Int _ (at5 l x y) (1:Int)) (@Nat.cast Int _ (List.length l))) ∧ True ∧ True ∧ True ∧ True ∧ (@LE.le Int Int.instLEInt (0:Int) (at5 l x y) ∧ @LE.le Int Int.instLEInt (@HAdd.hAdd Int Int Int _ (at5 l x y) (1:Int)) (@Nat.cast Int _ (List.length l))) ∧ True ∧ True ∧ True ∧ True ∧ True) ∧ (True ∧ True ∧ True) ∧ @Eq Int (@elemAt ItemT l (Int.toNat (at5 l x y))).1 (target5 l x y).1 ∧ @Eq Int (@elemAt ItemT l (Int.toNat (at5 l x y))).2.1 (target5 l x y).2 ∧ True)))) (by kernel_rfl) ?_
  simp only [true_and, and_true, decide_eq_true_eq, decide_eq_false_iff_not, forall_const, implies_true, and_self]
  have hr := at5_lt l x y
  refine ⟨hx, fun h => ?_, fun h => ⟨⟨by omega, by omega⟩, ?_⟩⟩
  · simp [target5, h]
  · simp [target5, h]
abbrev K93 : KCons := (30, fun Γc => pure_ Γc ((pcon [.d (.list ItemT), .d I64, .d I64] fun x => (Items5 x.1, .tup [.int .i64 (target5 x.1 x.2.1 x.2.2.1).1, .int .i64 (target5 x.1 x.2.1 x.2.2.1).2])))) :: K92
theorem HK93 : KS Tryz.prog K93 := ks_add (ksound_pure (s_r32Target)) HK92
/-- leaving -/
def updL5 (w : Foc5) (g : Log5) : Log5 × List Del := if w.1 = 0 then (g, []) else ((issue5 g w.2.1 w.1 2).1, [(w.2.1, w.1, 2, 0, 0, 0, 0, 0, (issue5 g w.2.1 w.1 2).2)])
def updE5 (w : Foc5) (g : Log5) (l : List Item) (x y : Int) : Foc5 × Log5 × List Del :=
  if (target5 l x y).1 = 0 then (((target5 l x y).1, (target5 l x y).2, w.2.2), (updL5 w g).1, (updL5 w g).2) else
  (((target5 l x y).1, (target5 l x y).2, w.2.2), (issue5 (updL5 w g).1 (target5 l x y).2 (target5 l x y).1 1).1, (updL5 w g).2 ++
    [((target5 l x y).2, (target5 l x y).1, 1, 0, IntKind.i64.wrap (x - (elemAt (t := ItemT) l (at5 l x y).toNat).2.2.1), IntKind.i64.wrap (y - (elemAt (t := ItemT) l (at5 l x y).toNat).2.2.2.1), 0, 0, (issue5 (updL5 w g).1 (target5 l x y).2 (target5 l x y).1 1).2)])
def upd5 (w : Foc5) (g : Log5) (l : List Item) (x y : Int) : Foc5 × Log5 × List Del :=
  if w.2.2 = true ∨ ((target5 l x y).1 = w.1 ∧ (target5 l x y).2 = w.2.1) then (w, g, []) else updE5 w g l x y
theorem issue5_ok {g : Log5} (h : (0 ≤ g.1 ∧ g.1 ≤ 1000 ∧ g.2.length ≤ 1000)) (c s k : Int) : 0 ≤ (issue5 g c s k).1.1 ∧ (issue5 g c s k).1.1 ≤ 100000 ∧ (issue5 g c s k).1.2.length ≤ 100000 := by
  unfold issue5
  split
  · exact ⟨h.1, by simp only; omega, by simp only; omega⟩
  · have := List.length_filter_le (young (g.1 + 1)) g.2
    refine ⟨by simp only; omega, by simp only; omega, ?_⟩
    simp only [List.length_append, List.length_singleton]
    omega
def upd5A (w : Foc5) (g : Log5) (l : List Item) (x y : Int) : AV :=
  .tup [.agg (enc Foc5T (upd5 w g l x y).1), .agg (enc Log5T (upd5 w g l x y).2.1), .own DelT (upd5 w g l x y).2.2]
set_option maxHeartbeats 4000000 in
theorem s_r32Update : PSound Tryz.prog 17 (pcon [.d Foc5T, .d Log5T, .d (.list ItemT), .d I64, .d I64] fun x => ((0 ≤ x.2.1.1 ∧ x.2.1.1 ≤ 1000 ∧ x.2.1.2.length ≤ 1000) ∧ Items5 x.2.2.1, upd5A x.1 x.2.1 x.2.2.1 x.2.2.2.1 x.2.2.2.2.1)) := by
  refine psoundF (K := K93) (Γc := C58) (Γr := R0) (fun _ => []) hm HK93 HC58 HR0 Tryz.call17 Tryz.func17 (by kernel_rfl) ?_
  rintro ⟨w, g, l, x, y, _⟩ hx
  obtain ⟨hg, hl⟩ : (0 ≤ g.1 ∧ g.1 ≤ 1000 ∧ g.2.length ≤ 1000) ∧ Items5 l := hx
  refine Eq.mpr (β := (True ∧ True ∧ True ∧ True ∧ True ∧ True ∧ True ∧ True ∧ (@LE.le Nat instLENat (List.length l) (9223372036854775807:Nat) ∧ (∀ (v0 : (Prod Int (Prod Int (Prod Int (Prod Int (Prod (Prod Int (Prod Int (List (Prod Int (Prod Int (Prod Int Int)))))) (Prod (List (Prod Int (Prod Int (Prod Int Int)))) (List (Prod Int (Prod Int (Prod Int Int))))))))))), ((List.Mem v0 l) → ((itemLen v0) ∧ @LE.le Nat instLENat (List.length v0.2.2.2.2.2.2) (1000:Nat))))) ∧ True ∧ True ∧ True ∧ True ∧ True ∧ True ∧ True ∧ True ∧ (@Eq Bool w.2.2 false → True) ∧ (@Eq Bool w.2.2 false → True) ∧ (@Eq Bool w.2.2 false → True) ∧ (@Eq Bool w.2.2 false → True) ∧ (@Eq Bool w.2.2 false → True) ∧ (@Eq Bool (BEq.beq (target5 l x y).1 w.1) true → (@Eq Bool w.2.2 false → True)) ∧ (@Eq Bool (BEq.beq (target5 l x y).1 w.1) true → (@Eq Bool w.2.2 false → True)) ∧ (@Eq Bool (BEq.beq (target5 l x y).1 w.1) true → (@Eq Bool w.2.2 false → True)) ∧ (@Eq Bool (BEq.beq (target5 l x y).1 w.1) true → (@Eq Bool w.2.2 false → True)) ∧ (@Eq Bool w.2.2 false → True) ∧ True ∧ (@Eq Bool (or w.2.2 (and (BEq.beq (target5 l x y).1 w.1) (BEq.beq (target5 l x y).2 w.2.1))) true → ((True ∧ True ∧ True ∧ True ∧ True ∧ True) ∧ (True ∧ True ∧ True ∧ True) ∧ (@Eq Int w.1 (upd5 w g l x y).1.1 ∧ @Eq Int w.2.1 (upd5 w g l x y).1.2.1 ∧ @Eq Bool w.2.2 (upd5 w g l x y).1.2.2 ∧ True) ∧ (@Eq Int g.1 (upd5 w g l x y).2.1.1 ∧ @Eq _ g.2 (upd5 w g l x y).2.1.2 ∧ True) ∧ @Eq _ (upd5 w g l x y).2.2 ([] : List (Ty.T DelT)) ∧ True)) ∧ (@Eq Bool (or w.2.2 (and (BEq.beq (target5 l x y).1 w.1) (BEq.beq (target5 l x y).2 w.2.1))) false → (True ∧ True ∧ True ∧ True ∧ (@Eq Bool (bne w.1 (0:Int)) true → (True ∧ True ∧ True ∧ True ∧ True ∧ (@LE.le Int Int.instLEInt (0:Int) g.1 ∧ @LE.le Int Int.instLEInt g.1 (100000:Int) ∧ @LE.le Nat instLENat (List.length g.2) (100000:Nat)) ∧ True ∧ True ∧ True ∧ True ∧ True ∧ True ∧ True ∧ True ∧ True ∧ True ∧ True ∧ True ∧ True ∧ True ∧ True ∧ True ∧ @LE.le Nat instLENat (@HMul.hMul Nat Nat Nat _ (List.length ((w.2.1, (w.1, ((2:Int), ((0:Int), ((0:Int), ((0:Int), ((0:Int), ((0:Int), (issue5 g w.2.1 w.1 (2:Int)).2)))))))) :: ([] : List (Ty.T DelT)))) (72:Nat)) (140737488355328:Nat) ∧ True ∧ True ∧ True ∧ True ∧ True ∧ True ∧ True ∧ True ∧ True ∧ (@Eq Bool (bne (target5 l x y).1 (0:Int)) true → (True ∧ True ∧ True ∧ (@LE.le Int Int.instLEInt (0:Int) (issue5 g w.2.1 w.1 ((2:Int), Unit.unit).1).1.1 ∧ @LE.le Int Int.instLEInt (issue5 g w.2.1 w.1 ((2:Int), Unit.unit).1).1.1 (100000:Int) ∧ @LE.le Nat instLENat (List.length (issue5 g w.2.1 w.1 ((2:Int), Unit.unit).1).1.2) (100000:Nat)) ∧ True ∧ True ∧ True ∧ True ∧ True ∧ True ∧ True ∧ True ∧ True ∧ True ∧ True ∧ (@LE.le Nat instLENat (List.length l) (9223372036854775807:Nat) ∧ (∀ (v0 : (Prod Int (Prod Int (Prod Int (Prod Int (Prod (Prod Int (Prod Int (List (Prod Int (Prod Int (Prod Int Int)))))) (Prod (List (Prod Int (Prod Int (Prod Int Int)))) (List (Prod Int (Prod Int (Prod Int Int))))))))))), ((List.Mem v0 l) → ((itemLen v0) ∧ @LE.le Nat instLENat (List.length v0.2.2.2.2.2.2) (1000:Nat))))) ∧ True ∧ (True ∧ True ∧ True ∧ True ∧ True ∧ True ∧ (@LE.le Int Int.instLEInt (0:Int) (at5 l x y) ∧ @LE.le Int Int.instLEInt (@HAdd.hAdd Int Int Int _ (at5 l x y) (1:Int)) (@Nat.cast Int _ (List.length l))) ∧ True ∧ True ∧ True ∧ True ∧ True ∧ True ∧ (@LE.le Int Int.instLEInt (0:Int) (at5 l x y) ∧ @LE.le Int Int.instLEInt (@HAdd.hAdd Int Int Int _ (at5 l x y) (1:Int)) (@Nat.cast Int _ (List.length l))) ∧ True ∧ True ∧ True ∧ True ∧ True ∧ True ∧ @LE.le Nat instLENat (@HMul.hMul Nat Nat Nat _ (@HAdd.hAdd Nat Nat Nat _ (List.length ((w.2.1, (w.1, ((2:Int), ((0:Int), ((0:Int), ((0:Int), ((0:Int), ((0:Int), (issue5 g w.2.1 w.1 (2:Int)).2)))))))) :: ([] : List (Ty.T DelT)))) (List.length (((target5 l x y).2, ((target5 l x y).1, ((1:Int), ((0:Int), ((IntKind.wrap IntKind.i64 (@HSub.hSub Int Int Int _ x (@elemAt ItemT l (Int.toNat (at5 l x y))).2.2.1)), ((IntKind.wrap IntKind.i64 (@HSub.hSub Int Int Int _ y (@elemAt ItemT l (Int.toNat (at5 l x y))).2.2.2.1)), ((0:Int), ((0:Int), (issue5 (issue5 g w.2.1 w.1 (2:Int)).1 (target5 l x y).2 (target5 l x y).1 ((1:Int), Unit.unit).1).2)))))))) :: ([] : List (Ty.T DelT))))) (72:Nat)) (140737488355328:Nat) ∧ True ∧ True) ∧ (True ∧ True ∧ True ∧ True ∧ True ∧ True ∧ True) ∧ (True ∧ True ∧ True ∧ True) ∧ (@Eq Int (target5 l x y).1 (upd5 w g l x y).1.1 ∧ @Eq Int (target5 l x y).2 (upd5 w g l x y).1.2.1 ∧ @Eq Bool w.2.2 (upd5 w g l x y).1.2.2 ∧ True) ∧ (@Eq Int (issue5 (issue5 g w.2.1 w.1 (2:Int)).1 (target5 l x y).2 (target5 l x y).1 ((1:Int), Unit.unit).1).1.1 (upd5 w g l x y).2.1.1 ∧ @Eq _ (issue5 (issue5 g w.2.1 w.1 (2:Int)).1 (target5 l x y).2 (target5 l x y).1 ((1:Int), Unit.unit).1).1.2 (upd5 w g l x y).2.1.2 ∧ True) ∧ @Eq _ (HAppend.hAppend ((w.2.1, (w.1, ((2:Int), ((0:Int), ((0:Int), ((0:Int), ((0:Int), ((0:Int), (issue5 g w.2.1 w.1 (2:Int)).2)))))))) :: ([] : List (Ty.T DelT))) (((target5 l x y).2, ((target5 l x y).1, ((1:Int), ((0:Int), ((IntKind.wrap IntKind.i64 (@HSub.hSub Int Int Int _ x (@elemAt ItemT l (Int.toNat (at5 l x y))).2.2.1)), ((IntKind.wrap IntKind.i64 (@HSub.hSub Int Int Int _ y (@elemAt ItemT l (Int.toNat (at5 l x y))).2.2.2.1)), ((0:Int), ((0:Int), (issue5 (issue5 g w.2.1 w.1 (2:Int)).1 (target5 l x y).2 (target5 l x y).1 (1:Int)).2)))))))) :: ([] : List (Ty.T DelT)))) (upd5 w g l x y).2.2 ∧ True)) ∧ (@Eq Bool (bne (target5 l x y).1 (0:Int)) false → ((True ∧ True ∧ True ∧ True ∧ True ∧ True ∧ True) ∧ (True ∧ True ∧ True ∧ True) ∧ (@Eq Int (target5 l x y).1 (upd5 w g l x y).1.1 ∧ @Eq Int (target5 l x y).2 (upd5 w g l x y).1.2.1 ∧ @Eq Bool w.2.2 (upd5 w g l x y).1.2.2 ∧ True) ∧ (@Eq Int (issue5 g w.2.1 w.1 ((2:Int), Unit.unit).1).1.1 (upd5 w g l x y).2.1.1 ∧ @Eq _ (issue5 g w.2.1 w.1 ((2:Int), Unit.unit).1).1.2 (upd5 w g l x y).2.1.2 ∧ True) ∧ @Eq _ ((w.2.1, (w.1, ((2:Int), ((0:Int), ((0:Int), ((0:Int), ((0:Int), ((0:Int), (issue5 g w.2.1 w.1 (2:Int)).2)))))))) :: ([] : List (Ty.T DelT))) (upd5 w g l x y).2.2 ∧ True)))) ∧ (@Eq Bool (bne w.1 (0:Int)) false → (True ∧ True ∧ True ∧ True ∧ True ∧ True ∧ True ∧ True ∧ (@Eq Bool (bne (target5 l x y).1 (0:Int)) true → (True ∧ True ∧ True ∧ (@LE.le Int Int.instLEInt (0:Int) g.1 ∧ @LE.le Int Int.instLEInt g.1 (100000:Int) ∧ @LE.le Nat instLENat (List.length g.2) (100000:Nat)) ∧ True ∧ True ∧ True ∧ True ∧ True ∧ True ∧ True ∧ True ∧ True ∧ True ∧ True ∧ (@LE.le Nat instLENat (List.length l) (9223372036854775807:Nat) ∧ (∀ (v0 : (Prod Int (Prod Int (Prod Int (Prod Int (Prod (Prod Int (Prod Int (List (Prod Int (Prod Int (Prod Int Int)))))) (Prod (List (Prod Int (Prod Int (Prod Int Int)))) (List (Prod Int (Prod Int (Prod Int Int))))))))))), ((List.Mem v0 l) → ((itemLen v0) ∧ @LE.le Nat instLENat (List.length v0.2.2.2.2.2.2) (1000:Nat))))) ∧ True ∧ (True ∧ True ∧ True ∧ True ∧ True ∧ True ∧ (@LE.le Int Int.instLEInt (0:Int) (at5 l x y) ∧ @LE.le Int Int.instLEInt (@HAdd.hAdd Int Int Int _ (at5 l x y) (1:Int)) (@Nat.cast Int _ (List.length l))) ∧ True ∧ True ∧ True ∧ True ∧ True ∧ True ∧ (@LE.le Int Int.instLEInt (0:Int) (at5 l x y) ∧ @LE.le Int Int.instLEInt (@HAdd.hAdd Int Int Int _ (at5 l x y) (1:Int)) (@Nat.cast Int _ (List.length l))) ∧ True ∧ True ∧ True ∧ True ∧ True ∧ True ∧ @LE.le Nat instLENat (@HMul.hMul Nat Nat Nat _ (List.length (((target5 l x y).2, ((target5 l x y).1, ((1:Int), ((0:Int), ((IntKind.wrap IntKind.i64 (@HSub.hSub Int Int Int _ x (@elemAt ItemT l (Int.toNat (at5 l x y))).2.2.1)), ((IntKind.wrap IntKind.i64 (@HSub.hSub Int Int Int _ y (@elemAt ItemT l (Int.toNat (at5 l x y))).2.2.2.1)), ((0:Int), ((0:Int), (issue5 g (target5 l x y).2 (target5 l x y).1 ((1:Int), Unit.unit).1).2)))))))) :: ([] : List (Ty.T DelT)))) (72:Nat)) (140737488355328:Nat) ∧ True ∧ True) ∧ (True ∧ True ∧ True ∧ True ∧ True ∧ True ∧ True) ∧ (True ∧ True ∧ True ∧ True) ∧ (@Eq Int (target5 l x y).1 (upd5 w g l x y).1.1 ∧ @Eq Int (target5 l x y).2 (upd5 w g l x y).1.2.1 ∧ @Eq Bool w.2.2 (upd5 w g l x y).1.2.2 ∧ True) ∧ (@Eq Int (issue5 g (target5 l x y).2 (target5 l x y).1 ((1:Int), Unit.unit).1).1.1 (upd5 w g l x y).2.1.1 ∧ @Eq _ (issue5 g (target5 l x y).2 (target5 l x y).1 ((1:Int), Unit.unit).1).1.2 (upd5 w g l x y).2.1.2 ∧ True) ∧ @Eq _ (((target5 l x y).2, ((target5 l x y).1, ((1:Int), ((0:Int), ((IntKind.wrap IntKind.i64 (@HSub.hSub Int Int Int _ x (@elemAt ItemT l (Int.toNat (at5 l x y))).2.2.1)), ((IntKind.wrap IntKind.i64 (@HSub.hSub Int Int Int _ y (@elemAt ItemT l (Int.toNat (at5 l x y))).2.2.2.1)), ((0:Int), ((0:Int), (issue5 g (target5 l x y).2 (target5 l x y).1 (1:Int)).2)))))))) :: ([] : List (Ty.T DelT))) (upd5 w g l x y).2.2 ∧ True)) ∧ (@Eq Bool (bne (target5 l x y).1 (0:Int)) false → ((True ∧ True ∧ True ∧ True ∧ True ∧ True ∧ True) ∧ (True ∧ True ∧ True ∧ True) ∧ (@Eq Int (target5 l x y).1 (upd5 w g l x y).1.1 ∧ @Eq Int (target5 l x y).2 (upd5 w g l x y).1.2.1 ∧ @Eq Bool w.2.2 (upd5 w g l x y).1.2.2 ∧ True) ∧ (@Eq Int g.1 (upd5 w g l x y).2.1.1 ∧ @Eq _ g.2 (upd5 w g l x y).2.1.2 ∧ True) ∧ @Eq _ (upd5 w g l x y).2.2 ([] : List (Ty.T DelT)) ∧ True)))))))) (by kernel_rfl) ?_
  simp only [true_and, and_true, decide_eq_true_eq, decide_eq_false_iff_not, forall_const, implies_true, and_self]
  have ht : (target5 l x y).1 ≠ 0 → 0 ≤ at5 l x y ∧ at5 l x y + 1 ≤ List.length l := by
    intro h
    have h0 : ¬ at5 l x y < 0 := fun g => h (by simp [target5, g])
    have := at5_lt l x y
    exact ⟨by omega, by omega⟩
  have hg1 : 0 ≤ g.1 ∧ g.1 ≤ 100000 ∧ List.length g.2 ≤ 100000 := ⟨hg.1, Int.le_trans hg.2.1 (by decide), Nat.le_trans hg.2.2 (by decide)⟩
  refine ⟨hl, fun h => ?_, fun h => ⟨fun k => ⟨hg1, by simp, fun m => ?_, fun m => ?_⟩, fun k => ⟨fun m => ?_, fun m => ?_⟩⟩⟩
  · have e : upd5 w g l x y = (w, g, []) := by
      unfold upd5
      rw [if_pos]
      rw [Bool.or_eq_true, Bool.and_eq_true, beq_iff_eq, beq_iff_eq] at h
      exact h
    rw [e]
    exact ⟨⟨rfl, rfl, rfl⟩, ⟨rfl, rfl⟩, rfl⟩
  all_goals
    have e : upd5 w g l x y = updE5 w g l x y := by
      unfold upd5
      rw [if_neg]
      rw [Bool.or_eq_false_iff, Bool.and_eq_false_iff, beq_eq_false_iff_ne, beq_eq_false_iff_ne] at h
      rintro (z | ⟨z1, z2⟩)
      · rw [z] at h
        cases h.1
      · rcases h.2 with h2 | h2
        · exact h2 z1
        · exact h2 z2
    rw [e, updE5]
    first | rw [bne_iff_ne] at m | rw [bne_eq_false_iff_eq] at m
    first | rw [bne_iff_ne] at k | rw [bne_eq_false_iff_eq] at k
    first | rw [if_pos m] | rw [if_neg m]
    first | rw [updL5, if_pos k] | rw [updL5, if_neg k]
  · exact ⟨issue5_ok hg _ _ _, hl, ⟨ht m, ht m, by simp⟩, ⟨rfl, rfl, rfl⟩, ⟨rfl, rfl⟩, rfl⟩
  · exact ⟨⟨rfl, rfl, rfl⟩, ⟨rfl, rfl⟩, rfl⟩
  · exact ⟨hg1, hl, ⟨ht m, ht m, by simp⟩, ⟨rfl, rfl, rfl⟩, ⟨rfl, rfl⟩, rfl⟩
  · exact ⟨⟨rfl, rfl, rfl⟩, ⟨rfl, rfl⟩, rfl⟩
abbrev K94 : KCons := (17, fun Γc => pure_ Γc ((pcon [.d Foc5T, .d Log5T, .d (.list ItemT), .d I64, .d I64] fun x => ((0 ≤ x.2.1.1 ∧ x.2.1.1 ≤ 1000 ∧ x.2.1.2.length ≤ 1000) ∧ Items5 x.2.2.1, upd5A x.1 x.2.1 x.2.2.1 x.2.2.2.1 x.2.2.2.2.1)))) :: K93
theorem HK94 : KS Tryz.prog K94 := ks_add (ksound_pure (s_r32Update)) HK93
end Go.Proofs.YtijmbmncdchjkaaGreat
