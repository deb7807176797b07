/-
  A part of the proof: what some of the program's functions compute.
-/
import Derived.Test.YtogbocplojbdjaaVRC
import Derived.Test.YtogbocplojbdjaaVSh
import Derived.Lib.RowBridge
namespace Go.Proofs.Ytogbocplojbdjaa
open Go Go.E Go.Proofs
set_option linter.unusedVariables false
set_option linter.unusedSimpArgs false
theorem s_sortInt : KSound Try.prog 74 (fun Γc => gCon Γc g_sortI) :=
  ksound_sortI Try.call74 (fun blk off cap zs w hH hb hs => Any.slices_Sort_int Try.lays189 blk off cap zs w hH hb hs) (fun w => Any.slices_Sort_int_none Try.lays189 none 0 w)
abbrev K34 : KCons := (74, fun Γc => gCon Γc g_sortI) :: K30
theorem HK34 : KS Try.prog K34 := ks_add (s_sortInt) HK30
theorem s_compactInt : KSound Try.prog 76 (fun Γc => gCon Γc g_compactI) :=
  ksound_compactI Try.call76 (fun blk off cap zs w hH hs hc => Any.slices_Compact_int Try.laysNm220 blk off cap zs w hH hs hc) (fun w => Any.slices_Compact_int_empty Try.laysNm220 none 0 w) Lib.compact_length_le
abbrev K35 : KCons := (76, fun Γc => gCon Γc g_compactI) :: K34
theorem HK35 : KS Try.prog K35 := ks_add (s_compactInt) HK34
theorem run_info : (Try.prog.info? 98).map (fun i => (i.zero, i.size, i.bytes)) = some (some (.agg #[.int .i64 0, .int .i64 0]), 2, 16) := by kernel_rfl
theorem s_growRun : KSound Try.prog 87 (fun Γc => gCon Γc (g_grow RunT)) := by
  obtain ⟨i0, hi0, he⟩ := Option.map_eq_some_iff.1 run_info
  obtain ⟨hz, hs, hby⟩ : i0.zero = some (.agg #[.int .i64 0, .int .i64 0]) ∧ i0.size = 2 ∧ i0.bytes = 16 := by
    simp only [Prod.mk.injEq] at he
    exact he
  refine ksound_grow (t := RunT) Try.call87 (fun n w h0 h1 => ?_) fun w => ?_
  · refine (Any8.slices_Grow_grow Try.layGrow i0 _ hi0 hz (by omega) none 0 0 n [] w (Nat.le_refl _) (by omega) (by rw [hby]; omega) (by omega) (by simp) (fun _ => rfl) (fun a h => by cases h)).mono ?_
    rintro e w' ⟨rfl, rfl⟩
    have hge := grownCap_ge w (0 + n) 0 (Try.layGrow_ren.t 25)
    refine ⟨_, _, _, rfl, rfl, rfl, rfl, rfl, ?_⟩
    have hz : ∀ m, (Builtin.zeroCells (Value.agg #[Value.int IntKind.i64 0, Value.int IntKind.i64 0]).cells m).size = m * 2 := fun m => by simp [Builtin.zeroCells, Value.cells]
    rw [Array.size_append, Array.size_append, hz, hz]
    show _ * 2 ≤ _
    simp
    omega
  · exact Any8.slices_Grow_room Try.layGrow none 0 0 0 w (Nat.le_refl _) (by omega) (by omega) (Nat.le_refl _)
abbrev K36 : KCons := (87, fun Γc => gCon Γc (g_grow RunT)) :: K35
theorem HK36 : KS Try.prog K36 := ks_add (s_growRun) HK35
theorem flat_take {l : List (List Run)} {i : Nat} (h : i < l.length) : (l.take (i + 1)).flatten = (l.take i).flatten ++ elemAt (t := .list RunT) l i := by
  rw [List.take_add_one, elemAt_get (t := .list RunT) l i h, List.flatten_append]
  simp
theorem flat_len : ∀ (l : List (List Run)), (∀ x ∈ l, x.length ≤ 1000) → l.flatten.length ≤ l.length * 1000
  | [], _ => by simp
  | x :: r, h => by
    have h1 := flat_len r fun y hy => h y (List.mem_cons_of_mem _ hy)
    have h2 := h x (List.mem_cons_self ..)
    rw [List.flatten_cons, List.length_append, List.length_cons]
    omega
theorem s_concatRun : PSound Try.prog 75 (pcon [.d (.list (.list RunT))] fun x => (x.1.length ≤ 1000 ∧ ∀ l ∈ (x.1 : List (List Run)), l.length ≤ 1000, .own RunT (List.flatten (x.1 : List (List Run))))) := by
  refine psoundF (K := K36) (Γc := C33) (Γr := R0) (fun x => [(3, annP [.slot 11 I64, .slot 3 I64] (fun _ y => (0 ≤ y.1 ∧ y.1 ≤ x.1.length) ∧ 0 ≤ y.2.1 ∧ y.2.1 ≤ y.1 * 1000) (fun y => (x.1.length - y.1 : Int).toNat)),
    (11, annP [.slot 27 I64, .own 6 RunT, dropP 24] (fun _ y => (0 ≤ y.1 ∧ y.1 ≤ x.1.length) ∧ y.2.1 = List.flatten (List.take y.1.toNat (x.1 : List (List Run)))) (fun y => (x.1.length - y.1 : Int).toNat))]) hm HK36 HC33 HR0 Try.call75 Try.func75 (by kernel_rfl) ?_
  rintro ⟨l, _⟩ hx
  obtain ⟨hx, h1⟩ : List.length l ≤ 1000 ∧ ∀ x ∈ (l : List (List Run)), x.length ≤ 1000 := hx
  refine Eq.mpr (β := (True ∧ True ∧ True ∧ True ∧ True ∧ ((True ∧ (@Eq Int 0 0 ∧ @Eq Int (@Nat.cast Int _ (List.length l)) (@Nat.cast Int _ (List.length l)) ∧ @Eq _ l l ∧ @Eq Int 0 0 ∧ True ∧ @Eq _ l l ∧ True) ∧ True) ∧ (@LE.le Int _ 0 0 ∧ @LE.le Int _ 0 (@Nat.cast (Pl.T (Pl.slot 11 I64)) _ (List.length l))) ∧ @LE.le Int _ 0 0 ∧ @LE.le Int _ 0 (@HMul.hMul Int Int Int _ 0 1000)) ∧ (∀ (v0 : (Prod Int (Prod Int Unit))), (((@LE.le Int _ 0 v0.1 ∧ @LE.le Int _ v0.1 (@Nat.cast (Pl.T (Pl.slot 11 I64)) _ (List.length l))) ∧ @LE.le Int _ 0 v0.2.1 ∧ @LE.le Int _ v0.2.1 (@HMul.hMul Int Int Int _ v0.1 1000)) → (True ∧ (@Eq Bool (@decide (@LT.lt Int _ v0.1 (@Nat.cast Int _ (List.length l))) (Int.decLt v0.1 (@Nat.cast Int _ (List.length l)))) true → ((@LE.le Int _ 0 v0.1 ∧ @LE.le Int _ (@HAdd.hAdd Int Int Int _ v0.1 1) (@Nat.cast Int _ (List.length l))) ∧ True ∧ True ∧ True ∧ True ∧ True ∧ True ∧ True ∧ True ∧ True ∧ (@Eq Bool (@decide (@LT.lt Int _ (IntKind.i64.wrap (@HAdd.hAdd Int Int Int _ v0.2.1 (@Nat.cast Int _ (List.length (@elemAt (Ty.list RunT) l (Int.toNat v0.1)))))) 0) (Int.decLt (IntKind.i64.wrap (@HAdd.hAdd Int Int Int _ v0.2.1 (@Nat.cast Int _ (List.length (@elemAt (Ty.list RunT) l (Int.toNat v0.1)))))) 0)) true → False) ∧ (@Eq Bool (@decide (@LT.lt Int _ (IntKind.i64.wrap (@HAdd.hAdd Int Int Int _ v0.2.1 (@Nat.cast Int _ (List.length (@elemAt (Ty.list RunT) l (Int.toNat v0.1)))))) 0) (Int.decLt (IntKind.i64.wrap (@HAdd.hAdd Int Int Int _ v0.2.1 (@Nat.cast Int _ (List.length (@elemAt (Ty.list RunT) l (Int.toNat v0.1)))))) 0)) false → (True ∧ True ∧ (True ∧ (@Eq Int (IntKind.i64.wrap (@HAdd.hAdd Int Int Int _ v0.1 1)) (IntKind.i64.wrap (@HAdd.hAdd Int Int Int _ v0.1 1)) ∧ @Eq Int (@Nat.cast Int _ (List.length l)) (@Nat.cast Int _ (List.length l)) ∧ @Eq _ l l ∧ @Eq Int (IntKind.i64.wrap (@HAdd.hAdd Int Int Int _ v0.2.1 (@Nat.cast Int _ (List.length (@elemAt (Ty.list RunT) l (Int.toNat v0.1)))))) (IntKind.i64.wrap (@HAdd.hAdd Int Int Int _ v0.2.1 (@Nat.cast Int _ (List.length (@elemAt (Ty.list RunT) l (Int.toNat v0.1)))))) ∧ True ∧ @Eq _ l l ∧ True) ∧ True) ∧ ((@LE.le Int _ 0 (IntKind.i64.wrap (@HAdd.hAdd Int Int Int _ v0.1 1)) ∧ @LE.le Int _ (IntKind.i64.wrap (@HAdd.hAdd Int Int Int _ v0.1 1)) (@Nat.cast (Pl.T (Pl.slot 11 I64)) _ (List.length l))) ∧ @LE.le Int _ 0 (IntKind.i64.wrap (@HAdd.hAdd Int Int Int _ v0.2.1 (@Nat.cast Int _ (List.length (@elemAt (Ty.list RunT) l (Int.toNat v0.1)))))) ∧ @LE.le Int _ (IntKind.i64.wrap (@HAdd.hAdd Int Int Int _ v0.2.1 (@Nat.cast Int _ (List.length (@elemAt (Ty.list RunT) l (Int.toNat v0.1)))))) (@HMul.hMul Int Int Int _ (IntKind.i64.wrap (@HAdd.hAdd Int Int Int _ v0.1 1)) 1000)) ∧ @LT.lt Nat _ (Int.toNat (@HSub.hSub Int Int Int _ (@Nat.cast Int _ (List.length l)) (IntKind.i64.wrap (@HAdd.hAdd Int Int Int _ v0.1 1)))) (Int.toNat (@HSub.hSub Int Int Int _ (@Nat.cast Int _ (List.length l)) v0.1)))))) ∧ (@Eq Bool (@decide (@LT.lt Int _ v0.1 (@Nat.cast Int _ (List.length l))) (Int.decLt v0.1 (@Nat.cast Int _ (List.length l)))) false → (True ∧ ((@LE.le Int _ 0 v0.2.1 ∧ @LE.le Int _ v0.2.1 1000000) ∧ (True ∧ @Eq Int v0.2.1 v0.2.1 ∧ True) ∧ True) ∧ True ∧ True ∧ True ∧ True ∧ ((True ∧ (@Eq Int 0 0 ∧ @Eq Int (@Nat.cast Int _ (List.length l)) (@Nat.cast Int _ (List.length l)) ∧ @Eq _ l l ∧ True ∧ @Eq Int v0.2.1 v0.2.1 ∧ @Eq Bool (@decide (@LT.lt Int _ v0.1 (@Nat.cast Int _ (List.length l))) (Int.decLt v0.1 (@Nat.cast Int _ (List.length l)))) (@decide (@LT.lt Int _ v0.1 (@Nat.cast Int _ (List.length l))) (Int.decLt v0.1 (@Nat.cast Int _ (List.length l)))) ∧ @Eq Int v0.1 v0.1 ∧ @Eq Int (@Nat.cast Int _ (List.length l)) (@Nat.cast Int _ (List.length l)) ∧ @Eq _ l l ∧ @Eq Int v0.2.1 v0.2.1 ∧ True ∧ @Eq _ l l ∧ True) ∧ @Eq _ ([] : List (Ty.T RunT)) ([] : List (Ty.T RunT)) ∧ True) ∧ (@LE.le Int _ 0 0 ∧ @LE.le Int _ 0 (@Nat.cast (Pl.T (Pl.slot 27 I64)) _ (List.length l))) ∧ @Eq _ ([] : List (Ty.T RunT)) (List.flatten (List.take 0 l))) ∧ (∀ (v1 : (Prod Int (Prod (List (Prod Int Int)) (Prod Unit Unit)))), (((@LE.le Int _ 0 v1.1 ∧ @LE.le Int _ v1.1 (@Nat.cast (Pl.T (Pl.slot 27 I64)) _ (List.length l))) ∧ @Eq _ v1.2.1 (List.flatten (List.take (Int.toNat v1.1) l))) → (True ∧ (@Eq Bool (@decide (@LT.lt Int _ v1.1 (@Nat.cast Int _ (List.length l))) (Int.decLt v1.1 (@Nat.cast Int _ (List.length l)))) true → ((@LE.le Int _ 0 v1.1 ∧ @LE.le Int _ (@HAdd.hAdd Int Int Int _ v1.1 1) (@Nat.cast Int _ (List.length l))) ∧ True ∧ True ∧ True ∧ True ∧ @LE.le Nat _ (@HMul.hMul Nat Nat Nat _ (@HAdd.hAdd Nat Nat Nat _ (List.length v1.2.1) (List.length (@elemAt (Ty.list RunT) l (Int.toNat v1.1)))) 16) 140737488355328 ∧ True ∧ True ∧ True ∧ (True ∧ (@Eq Int (IntKind.i64.wrap (@HAdd.hAdd Int Int Int _ v1.1 1)) (IntKind.i64.wrap (@HAdd.hAdd Int Int Int _ v1.1 1)) ∧ @Eq Int (@Nat.cast Int _ (List.length l)) (@Nat.cast Int _ (List.length l)) ∧ @Eq _ l l ∧ True ∧ @Eq Int v0.2.1 v0.2.1 ∧ @Eq Bool (@decide (@LT.lt Int _ v0.1 (@Nat.cast Int _ (List.length l))) (Int.decLt v0.1 (@Nat.cast Int _ (List.length l)))) (@decide (@LT.lt Int _ v0.1 (@Nat.cast Int _ (List.length l))) (Int.decLt v0.1 (@Nat.cast Int _ (List.length l)))) ∧ @Eq Int v0.1 v0.1 ∧ @Eq Int (@Nat.cast Int _ (List.length l)) (@Nat.cast Int _ (List.length l)) ∧ @Eq _ l l ∧ @Eq Int v0.2.1 v0.2.1 ∧ True ∧ @Eq _ l l ∧ True) ∧ @Eq _ (HAppend.hAppend v1.2.1 (@elemAt (Ty.list RunT) l (Int.toNat v1.1))) (HAppend.hAppend v1.2.1 (@elemAt (Ty.list RunT) l (Int.toNat v1.1))) ∧ True) ∧ ((@LE.le Int _ 0 (IntKind.i64.wrap (@HAdd.hAdd Int Int Int _ v1.1 1)) ∧ @LE.le Int _ (IntKind.i64.wrap (@HAdd.hAdd Int Int Int _ v1.1 1)) (@Nat.cast (Pl.T (Pl.slot 27 I64)) _ (List.length l))) ∧ @Eq _ (HAppend.hAppend v1.2.1 (@elemAt (Ty.list RunT) l (Int.toNat v1.1))) (List.flatten (List.take (Int.toNat (IntKind.i64.wrap (@HAdd.hAdd Int Int Int _ v1.1 1))) l))) ∧ @LT.lt Nat _ (Int.toNat (@HSub.hSub Int Int Int _ (@Nat.cast Int _ (List.length l)) (IntKind.i64.wrap (@HAdd.hAdd Int Int Int _ v1.1 1)))) (Int.toNat (@HSub.hSub Int Int Int _ (@Nat.cast Int _ (List.length l)) v1.1)))) ∧ (@Eq Bool (@decide (@LT.lt Int _ v1.1 (@Nat.cast Int _ (List.length l))) (Int.decLt v1.1 (@Nat.cast Int _ (List.length l)))) false → (True ∧ True ∧ (True ∧ True) ∧ @Eq _ v1.2.1 (List.flatten l))))))))))))) (by kernel_rfl) ?_
  simp only [true_and, and_true, decide_eq_true_eq, decide_eq_false_iff_not, forall_const, implies_true, and_self]
  have hel : ∀ i : Nat, i < List.length l → List.length (elemAt (t := .list RunT) l i) ≤ 1000 := fun i hi => h1 _ (List.mem_of_getElem? (elemAt_get (t := .list RunT) l i hi))
  refine ⟨⟨⟨by omega, Int.natCast_nonneg _⟩, by omega, by omega⟩, ?_⟩
  rintro ⟨i, s, _⟩ ⟨⟨i0, i1⟩, s0, s1⟩
  simp only at i0 i1 s0 s1 ⊢
  refine ⟨fun hi => ?_, fun hi => ⟨⟨s0, by omega⟩, ⟨⟨by omega, Int.natCast_nonneg _⟩, rfl⟩, ?_⟩⟩
  · have := hel i.toNat (by omega)
    rw [wrap_in (n := i + 1) (by omega), wrap_in (n := s + _) (by omega)]
    exact ⟨⟨i0, by omega⟩, fun h => by omega, fun _ => ⟨⟨⟨by omega, by omega⟩, by omega, by omega⟩, by omega⟩⟩
  rintro ⟨j, out, _⟩ ⟨⟨j0, j1⟩, he⟩
  simp only at j0 j1 he ⊢
  have hol : out.length ≤ 1000000 := by
    rw [he]
    refine Nat.le_trans (flat_len _ fun x hx => h1 x (List.mem_of_mem_take hx)) ?_
    have : (List.take j.toNat l).length ≤ 1000 := by rw [List.length_take]; omega
    omega
  refine ⟨fun hj => ?_, fun hj => ?_⟩
  · have := hel j.toNat (by omega)
    rw [wrap_in (by omega), show (j + 1).toNat = j.toNat + 1 by omega, flat_take (by omega), ← he]
    exact ⟨⟨j0, by omega⟩, by omega, ⟨⟨by omega, by omega⟩, rfl⟩, by omega⟩
  · rw [he, List.take_of_length_le (by omega)]
abbrev K37 : KCons := (75, fun Γc => pure_ Γc ((pcon [.d (.list (.list RunT))] fun x => (x.1.length ≤ 1000 ∧ ∀ l ∈ (x.1 : List (List Run)), l.length ≤ 1000, .own RunT (List.flatten (x.1 : List (List Run))))))) :: K36
theorem HK37 : KS Try.prog K37 := ks_add (ksound_pure (s_concatRun)) HK36
end Go.Proofs.Ytogbocplojbdjaa
