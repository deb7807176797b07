/-
  A part of the proof: what some of the program's functions compute.
-/
import Derived.Test.YtijmbmncdchjkaaGreatVFA
namespace Go.Proofs.YtijmbmncdchjkaaGreat
open Go Go.E Go.Proofs
set_option linter.unusedVariables false
set_option linter.unusedSimpArgs false
/-! the focus -/
abbrev DelT : Ty := .prod I64 (.prod I64 (.prod I64 (.prod I64 (.prod I64 (.prod I64 (.prod I64 (.prod I64 U32)))))))
abbrev Del := Int × Int × Int × Int × Int × Int × Int × Int × Int
/-- its log, surface, client, whether it is locked -/
abbrev FocD := LogD × Int × Int × Bool
def focH (F : FocD) : Heap := [(0, .blk [.ptr 1 0, .int .i64 F.2.1, .int .i64 F.2.2.1, .bool F.2.2.2]), (1, logC F.1)]
def rdFoc (H : Heap) (l : Nat) : Option FocD := match get? H l with
  | some (.blk [.ptr a 0, .int .i64 s, .int .i64 c, .bool b]) => (rdLog H a).map fun L => (L, s, c, b)
  | _ => none
/-- a focus without a log -/
def zfocH (Z : Int × Int × Bool) : Heap := [(0, .blk [.nilp, .int .i64 Z.1, .int .i64 Z.2.1, .bool Z.2.2])]
def rdZ (H : Heap) (l : Nat) : Option (Int × Int × Bool) := match get? H l with
  | some (.blk [.nilp, .int .i64 s, .int .i64 c, .bool b]) => some (s, c, b)
  | _ => none
def FocOk (F : FocD) : Prop := LogOk F.1
def g_nil1 (r : AV) : GC where
  X := Unit
  rd := fun _ ys => match ys with
    | [.nilp] => some ()
    | _ => none
  args := fun _ => [.nilp]
  hp := fun _ => []
  pre := fun _ => True
  F := fun _ => ⟨[(0, r)], [], 1, [.nilp]⟩
def g_fNew : GC where
  X := LogD
  rd := fun H ys => match ys with
    | [.ptr l 0] => rdLog H l
    | _ => none
  args := fun _ => [.ptr 0 0]
  hp := fun L => [(0, logC L)]
  pre := fun _ => True
  F := fun L => ⟨[(0, .ptr 5 0)], [(0, logC L), (5, .blk [.ptr 0 0, .int .i64 0, .int .i64 0, .bool false])], 1, [.ptr 0 0]⟩
theorem s_fNew : KSound Tryz.prog 7 (fun Γc => gCon Γc g_fNew) := by
  refine gsoundF (K := K74) (Γc := C58) (Γr := R0) (fun _ => []) hm HK74 HC58 HR0 Tryz.call7 Tryz.func7 (by kernel_rfl) (fun _ => by kernel_rfl) (fun _ => rfl) ?_
  rintro L _
  refine Eq.mpr (β := (True ∧ True ∧ True ∧ (@Eq Bool false true → (True ∧ (True ∧ True) ∧ (True ∧ True) ∧ (False ∧ True) ∧ ((@Eq Bool L.1 L.1 ∧ @Eq Int L.2.1 L.2.1 ∧ @Eq Int L.2.2.1 L.2.2.1 ∧ True) ∧ @Eq _ L.2.2.2 L.2.2.2) ∧ False)) ∧ (@Eq Bool false false → (True ∧ True ∧ True ∧ True ∧ (True ∧ True) ∧ (True ∧ True) ∧ (True ∧ True) ∧ ((@Eq Bool L.1 L.1 ∧ @Eq Int L.2.1 L.2.1 ∧ @Eq Int L.2.2.1 L.2.2.1 ∧ True) ∧ @Eq _ L.2.2.2 L.2.2.2) ∧ (True ∧ @Eq Int (Int.ofNat 0) (Int.ofNat 0) ∧ @Eq Int (Int.ofNat 0) (Int.ofNat 0) ∧ @Eq Bool false false ∧ True) ∧ True)))) (by kernel_rfl) ?_
  simp
theorem s_fNew0 : KSound Tryz.prog 7 (fun Γc => gCon Γc (g_nil1 .nilp)) := by
  refine gsoundF (K := K74) (Γc := C58) (Γr := R0) (fun _ => []) hm HK74 HC58 HR0 Tryz.call7 Tryz.func7 (by kernel_rfl) (fun _ => by kernel_rfl) (fun _ => rfl) ?_
  rintro ⟨⟩ _
  refine Eq.mpr (β := (True ∧ True ∧ True ∧ (@Eq Bool true true → (True ∧ (True ∧ True) ∧ (True ∧ True) ∧ (True ∧ True) ∧ True)) ∧ (@Eq Bool true false → (True ∧ True ∧ True ∧ True ∧ (True ∧ True) ∧ (True ∧ True) ∧ (False ∧ True) ∧ True)))) (by kernel_rfl) ?_
  simp
abbrev K75 : KCons := (7, fun Γc => orCon (gCon Γc g_fNew) (gCon Γc (g_nil1 .nilp))) :: K74
theorem HK75 : KS Tryz.prog K75 := ks_add (ksound_or s_fNew s_fNew0) HK74
/-- a question to a focus: r for one that New made, r0 for another -/
def g_ask (r : FocD → AV) : GC where
  X := FocD
  rd := fun H ys => match ys with
    | [.ptr l 0] => rdFoc H l
    | _ => none
  args := fun _ => [.ptr 0 0]
  hp := fun F => focH F
  pre := fun _ => True
  F := fun F => ⟨[(0, r F)], focH F, 1, [.ptr 0 0, .ptr 1 0]⟩
  ex := fun _ => [.ptr 1 0]
def g_askZ (r : AV) : GC where
  X := Int × Int × Bool
  rd := fun H ys => match ys with
    | [.ptr l 0] => rdZ H l
    | _ => none
  args := fun _ => [.ptr 0 0]
  hp := fun Z => zfocH Z
  pre := fun _ => True
  F := fun Z => ⟨[(0, r)], zfocH Z, 1, [.ptr 0 0]⟩
theorem s_fusable : KSound Tryz.prog 23 (fun Γc => gCon Γc (g_ask fun _ => .bool true)) := by
  refine gsoundF (K := K75) (Γc := C58) (Γr := R0) (fun _ => []) hm HK75 HC58 HR0 Tryz.call23 Tryz.func23 (by kernel_rfl) (fun _ => by kernel_rfl) (fun _ => rfl) ?_
  rintro F _
  refine Eq.mpr (β := (True ∧ True ∧ True ∧ True ∧ (@Eq Bool true true → True) ∧ (@Eq Bool true true → True) ∧ (@Eq Bool true true → True) ∧ (@Eq Bool true true → True) ∧ (@Eq Bool true true → True) ∧ True ∧ True ∧ (True ∧ True) ∧ (True ∧ True ∧ True) ∧ (@Eq Bool true true ∧ True) ∧ (True ∧ @Eq Int F.2.1 F.2.1 ∧ @Eq Int F.2.2.1 F.2.2.1 ∧ @Eq Bool F.2.2.2 F.2.2.2 ∧ True) ∧ ((@Eq Bool F.1.1 F.1.1 ∧ @Eq Int F.1.2.1 F.1.2.1 ∧ @Eq Int F.1.2.2.1 F.1.2.2.1 ∧ True) ∧ @Eq _ F.1.2.2.2 F.1.2.2.2) ∧ True)) (by kernel_rfl) ?_
  simp only [true_and, and_true, decide_eq_true_eq, decide_eq_false_iff_not, forall_const, implies_true, and_self]
theorem s_fusableZ : KSound Tryz.prog 23 (fun Γc => gCon Γc (g_askZ (.bool false))) := by
  refine gsoundF (K := K75) (Γc := C58) (Γr := R0) (fun _ => []) hm HK75 HC58 HR0 Tryz.call23 Tryz.func23 (by kernel_rfl) (fun _ => by kernel_rfl) (fun _ => rfl) ?_
  rintro Z _
  refine Eq.mpr (β := (True ∧ True ∧ True ∧ True ∧ (@Eq Bool true true → True) ∧ (@Eq Bool true true → True) ∧ (@Eq Bool true true → True) ∧ (@Eq Bool true true → True) ∧ (@Eq Bool true true → True) ∧ True ∧ True ∧ (True ∧ True) ∧ (True ∧ True) ∧ (@Eq Bool false false ∧ True) ∧ (True ∧ @Eq Int Z.1 Z.1 ∧ @Eq Int Z.2.1 Z.2.1 ∧ @Eq Bool Z.2.2 Z.2.2 ∧ True) ∧ True)) (by kernel_rfl) ?_
  simp only [true_and, and_true, decide_eq_true_eq, decide_eq_false_iff_not, forall_const, implies_true, and_self]
theorem s_fusable0 : KSound Tryz.prog 23 (fun Γc => gCon Γc (g_nil1 (.bool false))) := by
  refine gsoundF (K := K75) (Γc := C58) (Γr := R0) (fun _ => []) hm HK75 HC58 HR0 Tryz.call23 Tryz.func23 (by kernel_rfl) (fun _ => by kernel_rfl) (fun _ => rfl) ?_
  rintro ⟨⟩ _
  refine Eq.mpr (β := (True ∧ True ∧ True ∧ True ∧ (@Eq Bool false true → True) ∧ (@Eq Bool false true → False) ∧ (@Eq Bool false true → False) ∧ (@Eq Bool false true → False) ∧ (@Eq Bool false true → False) ∧ @Eq Bool false false ∧ True ∧ (True ∧ True) ∧ (True ∧ True) ∧ (@Eq Bool false false ∧ True) ∧ True)) (by kernel_rfl) ?_
  simp
abbrev K76 : KCons := (23, fun Γc => orCon (gCon Γc (g_ask fun _ => .bool true)) (orCon (gCon Γc (g_askZ (.bool false))) (gCon Γc (g_nil1 (.bool false))))) :: K75
theorem HK76 : KS Tryz.prog K76 := ks_add (ksound_or s_fusable (ksound_or s_fusableZ s_fusable0)) HK75
theorem s_fcur : KSound Tryz.prog 18 (fun Γc => gCon Γc (g_ask fun F => .tup [.int .i64 F.2.1, .int .i64 F.2.2.1])) := by
  refine gsoundF (K := K76) (Γc := C58) (Γr := R0) (fun _ => []) hm HK76 HC58 HR0 Tryz.call18 Tryz.func18 (by kernel_rfl) (fun _ => by kernel_rfl) (fun _ => rfl) ?_
  rintro F _
  refine Eq.mpr (β := (True ∧ True ∧ True ∧ (True ∧ (True ∧ True) ∧ (True ∧ @Eq Int F.2.1 F.2.1 ∧ @Eq Int F.2.2.1 F.2.2.1 ∧ @Eq Bool F.2.2.2 F.2.2.2 ∧ True) ∧ ((@Eq Bool F.1.1 F.1.1 ∧ @Eq Int F.1.2.1 F.1.2.1 ∧ @Eq Int F.1.2.2.1 F.1.2.2.1 ∧ True) ∧ @Eq _ F.1.2.2.2 F.1.2.2.2) ∧ True) ∧ True ∧ (@Eq Bool (not true) true → (True ∧ True ∧ (True ∧ True ∧ True) ∧ (True ∧ True ∧ True) ∧ ((@Eq Int (0:Int) F.2.1 ∧ @Eq Int (0:Int) F.2.2.1 ∧ True) ∧ True) ∧ (True ∧ @Eq Int F.2.1 F.2.1 ∧ @Eq Int F.2.2.1 F.2.2.1 ∧ @Eq Bool F.2.2.2 F.2.2.2 ∧ True) ∧ ((@Eq Bool F.1.1 F.1.1 ∧ @Eq Int F.1.2.1 F.1.2.1 ∧ @Eq Int F.1.2.2.1 F.1.2.2.1 ∧ True) ∧ @Eq _ F.1.2.2.2 F.1.2.2.2) ∧ True)) ∧ (@Eq Bool false false → ((True ∧ True ∧ True ∧ True ∧ True ∧ True ∧ True ∧ True ∧ True ∧ True ∧ True) ∧ (True ∧ True ∧ True) ∧ (True ∧ True ∧ True) ∧ ((@Eq Int F.2.1 F.2.1 ∧ @Eq Int F.2.2.1 F.2.2.1 ∧ True) ∧ True) ∧ (True ∧ @Eq Int F.2.1 F.2.1 ∧ @Eq Int F.2.2.1 F.2.2.1 ∧ @Eq Bool F.2.2.2 F.2.2.2 ∧ True) ∧ ((@Eq Bool F.1.1 F.1.1 ∧ @Eq Int F.1.2.1 F.1.2.1 ∧ @Eq Int F.1.2.2.1 F.1.2.2.1 ∧ True) ∧ @Eq _ F.1.2.2.2 F.1.2.2.2) ∧ True)))) (by kernel_rfl) ?_
  simp
theorem s_fcurZ : KSound Tryz.prog 18 (fun Γc => gCon Γc (g_askZ (.tup [.int .i64 0, .int .i64 0]))) := by
  refine gsoundF (K := K76) (Γc := C58) (Γr := R0) (fun _ => []) hm HK76 HC58 HR0 Tryz.call18 Tryz.func18 (by kernel_rfl) (fun _ => by kernel_rfl) (fun _ => rfl) ?_
  rintro Z _
  refine Eq.mpr (β := (True ∧ True ∧ True ∧ (True ∧ (True ∧ True) ∧ (True ∧ @Eq Int Z.1 Z.1 ∧ @Eq Int Z.2.1 Z.2.1 ∧ @Eq Bool Z.2.2 Z.2.2 ∧ True) ∧ True) ∧ True ∧ (@Eq Bool true true → (True ∧ True ∧ (True ∧ True ∧ True) ∧ (True ∧ True) ∧ ((@Eq Int (Int.ofNat 0) (Int.ofNat 0) ∧ @Eq Int (Int.ofNat 0) (Int.ofNat 0) ∧ True) ∧ True) ∧ (True ∧ @Eq Int Z.1 Z.1 ∧ @Eq Int Z.2.1 Z.2.1 ∧ @Eq Bool Z.2.2 Z.2.2 ∧ True) ∧ True)) ∧ (@Eq Bool (not false) false → ((True ∧ True ∧ True ∧ True ∧ True ∧ True ∧ True ∧ True ∧ True ∧ True ∧ True) ∧ (True ∧ True ∧ True) ∧ (True ∧ True) ∧ ((@Eq Int Z.1 (0:Int) ∧ @Eq Int Z.2.1 (0:Int) ∧ True) ∧ True) ∧ (True ∧ @Eq Int Z.1 Z.1 ∧ @Eq Int Z.2.1 Z.2.1 ∧ @Eq Bool Z.2.2 Z.2.2 ∧ True) ∧ True)))) (by kernel_rfl) ?_
  simp
theorem s_fcur0 : KSound Tryz.prog 18 (fun Γc => gCon Γc (g_nil1 (.tup [.int .i64 0, .int .i64 0]))) := by
  refine gsoundF (K := K76) (Γc := C58) (Γr := R0) (fun _ => []) hm HK76 HC58 HR0 Tryz.call18 Tryz.func18 (by kernel_rfl) (fun _ => by kernel_rfl) (fun _ => rfl) ?_
  rintro ⟨⟩ _
  refine Eq.mpr (β := (True ∧ True ∧ True ∧ (True ∧ (True ∧ True) ∧ True) ∧ True ∧ (@Eq Bool true true → (True ∧ True ∧ (True ∧ True ∧ True) ∧ (True ∧ True) ∧ ((@Eq Int (Int.ofNat 0) (Int.ofNat 0) ∧ @Eq Int (Int.ofNat 0) (Int.ofNat 0) ∧ True) ∧ True) ∧ True)) ∧ (@Eq Bool (not false) false → False))) (by kernel_rfl) ?_
  simp
abbrev K77 : KCons := (18, fun Γc => orCon (gCon Γc (g_ask fun F => .tup [.int .i64 F.2.1, .int .i64 F.2.2.1])) (orCon (gCon Γc (g_askZ (.tup [.int .i64 0, .int .i64 0]))) (gCon Γc (g_nil1 (.tup [.int .i64 0, .int .i64 0]))))) :: K76
theorem HK77 : KS Tryz.prog K77 := ks_add (ksound_or s_fcur (ksound_or s_fcurZ s_fcur0)) HK76
/-- Lock -/
def g_lock : GC where
  X := FocD × Bool
  rd := fun H ys => match ys with
    | [.ptr l 0, .bool b] => (rdFoc H l).map fun F => (F, b)
    | _ => none
  args := fun x => [.ptr 0 0, .bool x.2]
  hp := fun x => focH x.1
  pre := fun _ => True
  F := fun x => ⟨[(0, .tup [])], focH (x.1.1, x.1.2.1, x.1.2.2.1, x.2), 1, [.ptr 0 0, .junk, .ptr 1 0]⟩
  ex := fun _ => [.ptr 1 0]
def g_lockZ : GC where
  X := (Int × Int × Bool) × Bool
  rd := fun H ys => match ys with
    | [.ptr l 0, .bool b] => (rdZ H l).map fun F => (F, b)
    | _ => none
  args := fun x => [.ptr 0 0, .bool x.2]
  hp := fun x => zfocH x.1
  pre := fun _ => True
  F := fun x => ⟨[(0, .tup [])], zfocH x.1, 1, [.ptr 0 0, .junk]⟩
def g_lock0 : GC where
  X := Bool
  rd := fun H ys => match ys with
    | [.nilp, .bool b] => some b
    | _ => none
  args := fun x => [.nilp, .bool x]
  hp := fun _ => []
  pre := fun _ => True
  F := fun x => ⟨[(0, .tup [])], [], 1, [.nilp, .junk]⟩
theorem s_flock : KSound Tryz.prog 10 (fun Γc => gCon Γc g_lock) := by
  refine gsoundF (K := K77) (Γc := C58) (Γr := R0) (fun _ => []) hm HK77 HC58 HR0 Tryz.call10 Tryz.func10 (by kernel_rfl) (fun _ => by kernel_rfl) (fun _ => rfl) ?_
  rintro ⟨F, b⟩ _
  refine Eq.mpr (β := (True ∧ (True ∧ (True ∧ True) ∧ (True ∧ @Eq Int F.2.1 F.2.1 ∧ @Eq Int F.2.2.1 F.2.2.1 ∧ @Eq Bool F.2.2.2 F.2.2.2 ∧ True) ∧ ((@Eq Bool F.1.1 F.1.1 ∧ @Eq Int F.1.2.1 F.1.2.1 ∧ @Eq Int F.1.2.2.1 F.1.2.2.1 ∧ True) ∧ @Eq _ F.1.2.2.2 F.1.2.2.2) ∧ True) ∧ (@Eq Bool true true → (True ∧ True ∧ True ∧ True ∧ True ∧ True ∧ (True ∧ True ∧ True ∧ True) ∧ (True ∧ True) ∧ (True ∧ @Eq Int F.2.1 F.2.1 ∧ @Eq Int F.2.2.1 (F.2.2.1, b).1 ∧ @Eq Bool b (F.2.2.1, b).2 ∧ True) ∧ ((@Eq Bool F.1.1 F.1.1 ∧ @Eq Int F.1.2.1 F.1.2.1 ∧ @Eq Int F.1.2.2.1 F.1.2.2.1 ∧ True) ∧ @Eq _ F.1.2.2.2 F.1.2.2.2) ∧ True)) ∧ (@Eq Bool true false → (True ∧ (True ∧ True ∧ True ∧ True) ∧ (True ∧ True) ∧ (True ∧ @Eq Int F.2.1 F.2.1 ∧ @Eq Int F.2.2.1 (F.2.2.1, b).1 ∧ @Eq Bool F.2.2.2 (F.2.2.1, b).2 ∧ True) ∧ ((@Eq Bool F.1.1 F.1.1 ∧ @Eq Int F.1.2.1 F.1.2.1 ∧ @Eq Int F.1.2.2.1 F.1.2.2.1 ∧ True) ∧ @Eq _ F.1.2.2.2 F.1.2.2.2) ∧ True)))) (by kernel_rfl) ?_
  simp
theorem s_flockZ : KSound Tryz.prog 10 (fun Γc => gCon Γc g_lockZ) := by
  refine gsoundF (K := K77) (Γc := C58) (Γr := R0) (fun _ => []) hm HK77 HC58 HR0 Tryz.call10 Tryz.func10 (by kernel_rfl) (fun _ => by kernel_rfl) (fun _ => rfl) ?_
  rintro ⟨Z, b⟩ _
  refine Eq.mpr (β := (True ∧ (True ∧ (True ∧ True) ∧ (True ∧ @Eq Int Z.1 Z.1 ∧ @Eq Int Z.2.1 Z.2.1 ∧ @Eq Bool Z.2.2 Z.2.2 ∧ True) ∧ True) ∧ (@Eq Bool false true → (True ∧ True ∧ True ∧ True ∧ True ∧ True ∧ (True ∧ True ∧ True) ∧ (True ∧ True) ∧ (True ∧ @Eq Int Z.1 Z.1 ∧ @Eq Int Z.2.1 Z.2.1 ∧ @Eq Bool b Z.2.2 ∧ True) ∧ True)) ∧ (@Eq Bool false false → (True ∧ (True ∧ True ∧ True) ∧ (True ∧ True) ∧ (True ∧ @Eq Int Z.1 Z.1 ∧ @Eq Int Z.2.1 Z.2.1 ∧ @Eq Bool Z.2.2 Z.2.2 ∧ True) ∧ True)))) (by kernel_rfl) ?_
  simp
theorem s_flock0 : KSound Tryz.prog 10 (fun Γc => gCon Γc g_lock0) := by
  refine gsoundF (K := K77) (Γc := C58) (Γr := R0) (fun _ => []) hm HK77 HC58 HR0 Tryz.call10 Tryz.func10 (by kernel_rfl) (fun _ => by kernel_rfl) (fun _ => rfl) ?_
  rintro b _
  refine Eq.mpr (β := (True ∧ (True ∧ (True ∧ True) ∧ True) ∧ (@Eq Bool false true → (True ∧ True ∧ False)) ∧ (@Eq Bool false false → (True ∧ (True ∧ True ∧ True) ∧ (True ∧ True) ∧ True)))) (by kernel_rfl) ?_
  simp
abbrev K78 : KCons := (10, fun Γc => orCon (gCon Γc g_lock) (orCon (gCon Γc g_lockZ) (gCon Γc g_lock0))) :: K77
theorem HK78 : KS Tryz.prog K78 := ks_add (ksound_or s_flock (ksound_or s_flockZ s_flock0)) HK77
/-- Drop -/
def dropF (F : FocD) (s : Int) : FocD := if F.2.1 = s then (F.1, 0, 0, F.2.2.2) else F
def g_fdrop : GC where
  X := FocD × Int
  rd := fun H ys => match ys with
    | [.ptr l 0, .int .i64 s] => (rdFoc H l).map fun F => (F, s)
    | _ => none
  args := fun x => [.ptr 0 0, .int .i64 x.2]
  hp := fun x => focH x.1
  pre := fun _ => True
  F := fun x => ⟨[(0, .nils)], focH (dropF x.1 x.2), 1, [.ptr 0 0, .junk, .ptr 1 0]⟩
  ex := fun _ => [.ptr 1 0]
def g_fdropZ : GC where
  X := (Int × Int × Bool) × Int
  rd := fun H ys => match ys with
    | [.ptr l 0, .int .i64 s] => (rdZ H l).map fun F => (F, s)
    | _ => none
  args := fun x => [.ptr 0 0, .int .i64 x.2]
  hp := fun x => zfocH x.1
  pre := fun _ => True
  F := fun x => ⟨[(0, .nils)], zfocH x.1, 1, [.ptr 0 0, .junk]⟩
def g_fdrop0 : GC where
  X := Int
  rd := fun H ys => match ys with
    | [.nilp, .int .i64 s] => some s
    | _ => none
  args := fun x => [.nilp, .int .i64 x]
  hp := fun _ => []
  pre := fun _ => True
  F := fun x => ⟨[(0, .nils)], [], 1, [.nilp, .junk]⟩
theorem s_fdrop : KSound Tryz.prog 12 (fun Γc => gCon Γc g_fdrop) := by
  refine gsoundF (K := K78) (Γc := C58) (Γr := R0) (fun _ => []) hm HK78 HC58 HR0 Tryz.call12 Tryz.func12 (by kernel_rfl) (fun _ => by kernel_rfl) (fun _ => rfl) ?_
  rintro ⟨F, s⟩ _
  refine Eq.mpr (β := (True ∧ True ∧ (True ∧ (True ∧ True) ∧ (True ∧ @Eq Int F.2.1 F.2.1 ∧ @Eq Int F.2.2.1 F.2.2.1 ∧ @Eq Bool F.2.2.2 F.2.2.2 ∧ True) ∧ ((@Eq Bool F.1.1 F.1.1 ∧ @Eq Int F.1.2.1 F.1.2.1 ∧ @Eq Int F.1.2.2.1 F.1.2.2.1 ∧ True) ∧ @Eq _ F.1.2.2.2 F.1.2.2.2) ∧ True) ∧ True ∧ (@Eq Bool true true → True) ∧ (@Eq Bool true true → True) ∧ (@Eq Bool true true → True) ∧ (@Eq Bool true true → True) ∧ (@Eq Bool true true → True) ∧ (@Eq Bool true true → True) ∧ True ∧ (@Eq Bool (and true (BEq.beq F.2.1 s)) true → (True ∧ True ∧ True ∧ True ∧ True ∧ True ∧ True ∧ True ∧ True ∧ (True ∧ True) ∧ (True ∧ True ∧ True ∧ True) ∧ (True ∧ True) ∧ (True ∧ @Eq Int (0:Int) (dropF F s).2.1 ∧ @Eq Int (0:Int) (dropF F s).2.2.1 ∧ @Eq Bool F.2.2.2 (dropF F s).2.2.2 ∧ True) ∧ ((@Eq Bool F.1.1 (dropF F s).1.1 ∧ @Eq Int F.1.2.1 (dropF F s).1.2.1 ∧ @Eq Int F.1.2.2.1 (dropF F s).1.2.2.1 ∧ True) ∧ @Eq _ F.1.2.2.2 (dropF F s).1.2.2.2) ∧ True)) ∧ (@Eq Bool (and true (BEq.beq F.2.1 s)) false → (True ∧ (True ∧ True) ∧ (True ∧ True ∧ True ∧ True) ∧ (True ∧ True) ∧ (True ∧ @Eq Int F.2.1 (dropF F s).2.1 ∧ @Eq Int F.2.2.1 (dropF F s).2.2.1 ∧ @Eq Bool F.2.2.2 (dropF F s).2.2.2 ∧ True) ∧ ((@Eq Bool F.1.1 (dropF F s).1.1 ∧ @Eq Int F.1.2.1 (dropF F s).1.2.1 ∧ @Eq Int F.1.2.2.1 (dropF F s).1.2.2.1 ∧ True) ∧ @Eq _ F.1.2.2.2 (dropF F s).1.2.2.2) ∧ True)))) (by kernel_rfl) ?_
  simp only [true_and, and_true, decide_eq_true_eq, decide_eq_false_iff_not, forall_const, implies_true, and_self]
  refine ⟨fun h => ?_, fun h => ?_⟩
  · have h : F.2.1 = s := by simpa using h
    simp [dropF, h]
  · have h : ¬ F.2.1 = s := by simpa using h
    simp [dropF, h]
theorem s_fdropZ : KSound Tryz.prog 12 (fun Γc => gCon Γc g_fdropZ) := by
  refine gsoundF (K := K78) (Γc := C58) (Γr := R0) (fun _ => []) hm HK78 HC58 HR0 Tryz.call12 Tryz.func12 (by kernel_rfl) (fun _ => by kernel_rfl) (fun _ => rfl) ?_
  rintro ⟨Z, s⟩ _
  refine Eq.mpr (β := (True ∧ True ∧ (True ∧ (True ∧ True) ∧ (True ∧ @Eq Int Z.1 Z.1 ∧ @Eq Int Z.2.1 Z.2.1 ∧ @Eq Bool Z.2.2 Z.2.2 ∧ True) ∧ True) ∧ True ∧ (@Eq Bool false true → True) ∧ (@Eq Bool false true → True) ∧ (@Eq Bool false true → True) ∧ (@Eq Bool false true → True) ∧ (@Eq Bool false true → True) ∧ (@Eq Bool false true → True) ∧ True ∧ (@Eq Bool (and false (BEq.beq Z.1 s)) true → (True ∧ True ∧ True ∧ True ∧ True ∧ True ∧ True ∧ True ∧ True ∧ (True ∧ True) ∧ (True ∧ True ∧ True) ∧ (True ∧ True) ∧ (True ∧ @Eq Int (0:Int) Z.1 ∧ @Eq Int (0:Int) Z.2.1 ∧ @Eq Bool Z.2.2 Z.2.2 ∧ True) ∧ True)) ∧ (@Eq Bool (and false (BEq.beq Z.1 s)) false → (True ∧ (True ∧ True) ∧ (True ∧ True ∧ True) ∧ (True ∧ True) ∧ (True ∧ @Eq Int Z.1 Z.1 ∧ @Eq Int Z.2.1 Z.2.1 ∧ @Eq Bool Z.2.2 Z.2.2 ∧ True) ∧ True)))) (by kernel_rfl) ?_
  simp
theorem s_fdrop0 : KSound Tryz.prog 12 (fun Γc => gCon Γc g_fdrop0) := by
  refine gsoundF (K := K78) (Γc := C58) (Γr := R0) (fun _ => []) hm HK78 HC58 HR0 Tryz.call12 Tryz.func12 (by kernel_rfl) (fun _ => by kernel_rfl) (fun _ => rfl) ?_
  rintro s _
  refine Eq.mpr (β := (True ∧ True ∧ (True ∧ (True ∧ True) ∧ True) ∧ True ∧ (@Eq Bool false true → True) ∧ (@Eq Bool false true → False) ∧ (@Eq Bool false true → False) ∧ (@Eq Bool false true → False) ∧ (@Eq Bool false true → True) ∧ (@Eq Bool false true → False) ∧ @Eq Bool false false ∧ (@Eq Bool false true → (True ∧ True ∧ False)) ∧ (@Eq Bool false false → (True ∧ (True ∧ True) ∧ (True ∧ True ∧ True) ∧ (True ∧ True) ∧ True)))) (by kernel_rfl) ?_
  simp
abbrev K79 : KCons := (12, fun Γc => orCon (gCon Γc g_fdrop) (orCon (gCon Γc g_fdropZ) (gCon Γc g_fdrop0))) :: K78
theorem HK79 : KS Tryz.prog K79 := ks_add (ksound_or s_fdrop (ksound_or s_fdropZ s_fdrop0)) HK78
/-- the target of a point -/
def targetL (l : List Item) (x y : Int) : Int × Int := if atI l x y < 0 then (0, 0) else ((elemAt (t := ItemT) l (atI l x y).toNat).1, (elemAt (t := ItemT) l (atI l x y).toNat).2.1)
theorem s_target : PSound Tryz.prog 26 (pcon [.d (.list ItemT), .d I64, .d I64] fun x => (ItemsOk x.1, .tup [.int .i64 (targetL x.1 x.2.1 x.2.2.1).1, .int .i64 (targetL x.1 x.2.1 x.2.2.1).2])) := by
  refine psoundF (K := K79) (Γc := C58) (Γr := R0) (fun _ => []) hm HK79 HC58 HR0 Tryz.call26 Tryz.func26 (by kernel_rfl) ?_
  rintro ⟨l, x, y, _⟩ hx
  have hx : ItemsOk l := hx
  refine Eq.mpr (β := (True ∧ True ∧ True ∧ True ∧ True ∧ (@LE.le Nat instLENat (List.length l) (9223372036854775807:Nat) ∧ (∀ (v0 : (Prod Int (Prod Int (Prod Int (Prod Int (Prod (Prod Int (Prod Int (List (Prod Int (Prod Int (Prod Int Int)))))) (Prod (List (Prod Int (Prod Int (Prod Int Int)))) (List (Prod Int (Prod Int (Prod Int Int))))))))))), ((List.Mem v0 l) → (itemLen v0)))) ∧ True ∧ True ∧ True ∧ (@Eq Bool (@decide (@LT.lt Int Int.instLTInt (atI l x y) (0:Int)) (Int.decLt (atI l x y) (0:Int))) true → (True ∧ True ∧ (True ∧ True ∧ True) ∧ @Eq Int (0:Int) (targetL l x y).1 ∧ @Eq Int (0:Int) (targetL l x y).2 ∧ True)) ∧ (@Eq Bool (@decide (@LT.lt Int Int.instLTInt (atI l x y) (0:Int)) (Int.decLt (atI l x y) (0:Int))) false → ((True ∧ True ∧ (@LE.le Int Int.instLEInt (0:Int) (atI l x y) ∧ @LE.le Int Int.instLEInt (@HAdd.hAdd Int Int Int _ (atI l x y) (1:Int)) (@Nat.cast Int _ (List.length l))) ∧ True ∧ True ∧ True ∧ True ∧ (@LE.le Int Int.instLEInt (0:Int) (atI l x y) ∧ @LE.le Int Int.instLEInt (@HAdd.hAdd Int Int Int _ (atI l x y) (1:Int)) (@Nat.cast Int _ (List.length l))) ∧ True ∧ True ∧ True ∧ True ∧ True) ∧ (True ∧ True ∧ True) ∧ @Eq Int (@elemAt ItemT l (Int.toNat (atI l x y))).1 (targetL l x y).1 ∧ @Eq Int (@elemAt ItemT l (Int.toNat (atI l x y))).2.1 (targetL l x y).2 ∧ True)))) (by kernel_rfl) ?_
  simp only [true_and, and_true, decide_eq_true_eq, decide_eq_false_iff_not, forall_const, implies_true, and_self]
  have hr : ¬ atI l x y < 0 → atI l x y + 1 ≤ List.length l := by
    intro h
    unfold atI at h ⊢
    split at h <;> omega
  refine ⟨hx, fun h => ?_, fun h => ⟨⟨by omega, hr h⟩, ?_⟩⟩
  · simp [targetL, h]
  · simp [targetL, h]
abbrev K80 : KCons := (26, fun Γc => pure_ Γc ((pcon [.d (.list ItemT), .d I64, .d I64] fun x => (ItemsOk x.1, .tup [.int .i64 (targetL x.1 x.2.1 x.2.2.1).1, .int .i64 (targetL x.1 x.2.1 x.2.2.1).2])))) :: K79
theorem HK80 : KS Tryz.prog K80 := ks_add (ksound_pure (s_target)) HK79
end Go.Proofs.YtijmbmncdchjkaaGreat
