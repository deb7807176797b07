/-
  A part of the proof: what some of the program's functions compute.
-/
import Derived.Test.YtgjfofeaakdihaaGreatVC
namespace Go.Proofs.YtgjfofeaakdihaaGreat
open Go Go.E Go.Proofs
set_option linter.unusedVariables false
set_option linter.unusedSimpArgs false
abbrev InT : Ty := .prod I64 (.prod I64 (.prod I64 (.prod I64 (.prod I64 I64))))
abbrev Inp := Int × Int × Int × Int × Int × Int
abbrev ConT : Ty := .prod PtT (.prod I64 I64)
abbrev Contact := Pt × Int × Int
abbrev DelT : Ty := .prod I64 (.prod I64 (.prod I64 (.prod I64 (.prod I64 (.prod I64 (.prod I64 (.prod I64 U32)))))))
abbrev Del := Int × Int × Int × Int × Int × Int × Int × Int × Int
abbrev MapD := List (Nat × Int × Contact)
/-- a device: its log, its points, the map's clock, timed, latest -/
abbrev TouchD := LogD × MapD × Nat × Bool × Int
def touchH (T : TouchD) : Heap := [(0, .blk [.ptr 1 0, .mp 2, .bool T.2.2.2.1, .int .i64 T.2.2.2.2]), (1, logC T.1), (2, .map I64 ConT T.2.1 T.2.2.1)]
def castM (k v k' v' : Ty) (es : List (Nat × k.T × v.T)) : Option (List (Nat × k'.T × v'.T)) := if h : k = k' ∧ v = v' then some (h.1 ▸ h.2 ▸ es) else none
def rdMap (H : Heap) (l : Nat) (k v : Ty) : Option (List (Nat × k.T × v.T) × Nat) := match get? H l with
  | some (.map k' v' es c) => (castM k' v' k v es).map fun e => (e, c)
  | _ => none
def rdTouch (H : Heap) (l : Nat) : Option TouchD := match get? H l with
  | some (.blk [.ptr a 0, .mp m, .bool t, .int .i64 n]) => match rdLog H a, rdMap H m I64 ConT with
    | some L, some M => some (L, M.1, M.2, t, n)
    | _, _ => none
  | _ => none
def tNew (L : LogD) : TouchD := (L, [], 0, false, 0)
/-- the points' keys are their numbers, their stamps are in order -/
structure TouchOk (T : TouchD) : Prop where
  log : LogOk T.1
  valid : T.1.1 = true
  born : ∀ e ∈ T.2.1, e.1 < T.2.2.1
  bnd : (T.2.1.map (·.1)).Nodup
  key : (T.2.1.map (·.2.1)).Nodup
  id : ∀ e ∈ T.2.1, e.2.2.1.1 = e.2.1
  len : T.2.1.length ≤ 10
def g_tNew : GC where
  X := LogD
  rd := fun H ys => match ys with
    | [.ptr l 0] => rdLog H l
    | _ => none
  args := fun _ => [.ptr 0 0]
  hp := fun L => [(0, logC L)]
  pre := fun _ => True
  F := fun L => ⟨[(0, .ptr 5 0)], [(0, logC L), (5, .blk [.ptr 0 0, .mp 6, .bool false, .int .i64 0]), (6, .map I64 ConT [] 0)], 1, [.ptr 0 0]⟩
def g_nil1 (r : AV) : GC where
  X := Unit
  rd := fun _ ys => match ys with
    | [.nilp] => some ()
    | _ => none
  args := fun _ => [.nilp]
  hp := fun _ => []
  pre := fun _ => True
  F := fun _ => ⟨[(0, r)], [], 1, [.nilp]⟩
theorem s_tNew : KSound Tryz.prog 6 (fun Γc => gCon Γc g_tNew) := by
  refine gsoundF (K := K32) (Γc := C33) (Γr := R0) (fun _ => []) hm HK32 HC33 HR0 Tryz.call6 Tryz.func6 (by kernel_rfl) (fun _ => by kernel_rfl) (fun _ => rfl) ?_
  rintro L _
  refine Eq.mpr (β := (True ∧ (True ∧ (True ∧ (((@Eq Bool false true) → (True ∧ ((True ∧ True) ∧ ((True ∧ True) ∧ ((False ∧ True) ∧ ((((@Eq Bool L.1 L.1) ∧ ((@Eq Int L.2.1 L.2.1) ∧ ((@Eq Int L.2.2.1 L.2.2.1) ∧ True))) ∧ (@Eq _ L.2.2.2 L.2.2.2)) ∧ False)))))) ∧ ((@Eq Bool false false) → (True ∧ (True ∧ (True ∧ (True ∧ (True ∧ ((True ∧ True) ∧ ((True ∧ True) ∧ ((True ∧ True) ∧ ((((@Eq Bool L.1 L.1) ∧ ((@Eq Int L.2.1 L.2.1) ∧ ((@Eq Int L.2.2.1 L.2.2.1) ∧ True))) ∧ (@Eq _ L.2.2.2 L.2.2.2)) ∧ ((True ∧ (True ∧ ((@Eq Bool false false) ∧ ((@Eq Int (Int.ofNat 0) (Int.ofNat 0)) ∧ True)))) ∧ (((@Eq _ ([] : List (Prod Nat (Prod (Ty.T I64) (Ty.T ConT)))) ([] : List (Prod Nat (Prod (Ty.T I64) (Ty.T ConT))))) ∧ (@Eq Nat 0 0)) ∧ True))))))))))))))))) (by kernel_rfl) ?_
  simp
theorem s_tNew0 : KSound Tryz.prog 6 (fun Γc => gCon Γc (g_nil1 .nilp)) := by
  refine gsoundF (K := K32) (Γc := C33) (Γr := R0) (fun _ => []) hm HK32 HC33 HR0 Tryz.call6 Tryz.func6 (by kernel_rfl) (fun _ => by kernel_rfl) (fun _ => rfl) ?_
  rintro ⟨⟩ _
  refine Eq.mpr (β := (True ∧ (True ∧ (True ∧ (((@Eq Bool true true) → (True ∧ ((True ∧ True) ∧ ((True ∧ True) ∧ ((True ∧ True) ∧ True))))) ∧ ((@Eq Bool true false) → (True ∧ (True ∧ (True ∧ (True ∧ (True ∧ ((True ∧ True) ∧ ((True ∧ True) ∧ ((False ∧ True) ∧ True)))))))))))))) (by kernel_rfl) ?_
  simp
abbrev K34 : KCons := (6, fun Γc => orCon (gCon Γc g_tNew) (gCon Γc (g_nil1 .nilp))) :: K32
theorem HK34 : KS Tryz.prog K34 := ks_add (ksound_or s_tNew s_tNew0) HK32
def g_made : GC where
  X := TouchD
  rd := fun H ys => match ys with
    | [.ptr l 0] => rdTouch H l
    | _ => none
  args := fun _ => [.ptr 0 0]
  hp := fun T => touchH T
  pre := fun _ => True
  F := fun T => ⟨[(0, .bool true)], touchH T, 1, [.ptr 0 0, .ptr 1 0, .mp 2]⟩
  ex := fun _ => [.ptr 1 0, .mp 2]
theorem s_made : KSound Tryz.prog 36 (fun Γc => gCon Γc g_made) := by
  refine gsoundF (K := K34) (Γc := C33) (Γr := R0) (fun _ => []) hm HK34 HC33 HR0 Tryz.call36 Tryz.func36 (by kernel_rfl) (fun _ => by kernel_rfl) (fun _ => rfl) ?_
  rintro T _
  refine Eq.mpr (β := (True ∧ (True ∧ (True ∧ (True ∧ (((@Eq Bool true true) → True) ∧ (((@Eq Bool true true) → True) ∧ (((@Eq Bool true true) → True) ∧ (((@Eq Bool true true) → True) ∧ (((@Eq Bool true true) → True) ∧ (True ∧ (True ∧ ((True ∧ True) ∧ ((True ∧ (True ∧ (True ∧ True))) ∧ (((@Eq Bool true true) ∧ True) ∧ ((True ∧ (True ∧ ((@Eq Bool T.2.2.2.1 T.2.2.2.1) ∧ ((@Eq Int T.2.2.2.2 T.2.2.2.2) ∧ True)))) ∧ ((((@Eq Bool T.1.1 T.1.1) ∧ ((@Eq Int T.1.2.1 T.1.2.1) ∧ ((@Eq Int T.1.2.2.1 T.1.2.2.1) ∧ True))) ∧ (@Eq _ T.1.2.2.2 T.1.2.2.2)) ∧ (((@Eq _ T.2.1 T.2.1) ∧ (@Eq Nat T.2.2.1 T.2.2.1)) ∧ True)))))))))))))))))) (by kernel_rfl) ?_
  simp only [true_and, and_true, decide_eq_true_eq, decide_eq_false_iff_not, forall_const, implies_true, and_self]
theorem s_made0 : KSound Tryz.prog 36 (fun Γc => gCon Γc (g_nil1 (.bool false))) := by
  refine gsoundF (K := K34) (Γc := C33) (Γr := R0) (fun _ => []) hm HK34 HC33 HR0 Tryz.call36 Tryz.func36 (by kernel_rfl) (fun _ => by kernel_rfl) (fun _ => rfl) ?_
  rintro ⟨⟩ _
  refine Eq.mpr (β := (True ∧ (True ∧ (True ∧ (True ∧ (((@Eq Bool false true) → True) ∧ (((@Eq Bool false true) → False) ∧ (((@Eq Bool false true) → False) ∧ (((@Eq Bool false true) → False) ∧ (((@Eq Bool false true) → False) ∧ ((@Eq Bool false false) ∧ (True ∧ ((True ∧ True) ∧ ((True ∧ True) ∧ (((@Eq Bool false false) ∧ True) ∧ True))))))))))))))) (by kernel_rfl) ?_
  simp
abbrev K35 : KCons := (36, fun Γc => orCon (gCon Γc g_made) (gCon Γc (g_nil1 (.bool false)))) :: K34
theorem HK35 : KS Tryz.prog K35 := ks_add (ksound_or s_made s_made0) HK34
def far (x y : Int) : Bool := decide (x < -16384) || decide (x > 16384) || decide (y < -16384) || decide (y > 16384)
theorem s_far : PSound Tryz.prog 43 (pcon [.d I64, .d I64] fun x => (True, .bool (far x.1 x.2.1))) := by
  refine psoundF (K := K35) (Γc := C33) (Γr := R0) (fun _ => []) hm HK35 HC33 HR0 Tryz.call43 Tryz.func43 (by kernel_rfl) ?_
  rintro ⟨a, b, _⟩ _
  refine Eq.mpr (β := (True ∧ (True ∧ (True ∧ (True ∧ (((@Eq Bool (@decide (@LT.lt Int Int.instLTInt a (Neg.neg (16384:Int))) (Int.decLt a (Neg.neg (16384:Int)))) false) → True) ∧ (((@Eq Bool (@decide (@LT.lt Int Int.instLTInt a (Neg.neg (16384:Int))) (Int.decLt a (Neg.neg (16384:Int)))) false) → True) ∧ (True ∧ (True ∧ (((@Eq Bool (or (@decide (@LT.lt Int Int.instLTInt a (Neg.neg (16384:Int))) (Int.decLt a (Neg.neg (16384:Int)))) (@decide (@GT.gt Int Int.instLTInt a (16384:Int)) (Int.decLt (16384:Int) a))) false) → True) ∧ (((@Eq Bool (or (@decide (@LT.lt Int Int.instLTInt a (Neg.neg (16384:Int))) (Int.decLt a (Neg.neg (16384:Int)))) (@decide (@GT.gt Int Int.instLTInt a (16384:Int)) (Int.decLt (16384:Int) a))) false) → True) ∧ (True ∧ (True ∧ (((@Eq Bool (or (or (@decide (@LT.lt Int Int.instLTInt a (Neg.neg (16384:Int))) (Int.decLt a (Neg.neg (16384:Int)))) (@decide (@GT.gt Int Int.instLTInt a (16384:Int)) (Int.decLt (16384:Int) a))) (@decide (@LT.lt Int Int.instLTInt b (Neg.neg (16384:Int))) (Int.decLt b (Neg.neg (16384:Int))))) false) → True) ∧ (((@Eq Bool (or (or (@decide (@LT.lt Int Int.instLTInt a (Neg.neg (16384:Int))) (Int.decLt a (Neg.neg (16384:Int)))) (@decide (@GT.gt Int Int.instLTInt a (16384:Int)) (Int.decLt (16384:Int) a))) (@decide (@LT.lt Int Int.instLTInt b (Neg.neg (16384:Int))) (Int.decLt b (Neg.neg (16384:Int))))) false) → True) ∧ (True ∧ (True ∧ ((True ∧ True) ∧ (@Eq Bool (or (or (or (@decide (@LT.lt Int Int.instLTInt a (Neg.neg (16384:Int))) (Int.decLt a (Neg.neg (16384:Int)))) (@decide (@GT.gt Int Int.instLTInt a (16384:Int)) (Int.decLt (16384:Int) a))) (@decide (@LT.lt Int Int.instLTInt b (Neg.neg (16384:Int))) (Int.decLt b (Neg.neg (16384:Int))))) (@decide (@GT.gt Int Int.instLTInt b (16384:Int)) (Int.decLt (16384:Int) b))) (far a b)))))))))))))))))))) (by kernel_rfl) ?_
  simp [far]
abbrev K36 : KCons := (43, fun Γc => pure_ Γc ((pcon [.d I64, .d I64] fun x => (True, .bool (far x.1 x.2.1))))) :: K35
theorem HK36 : KS Tryz.prog K36 := ks_add (ksound_pure (s_far)) HK35
def checkT (M : MapD) (e : Inp) : Int :=
  if (e.1 != 5 && e.1 != 6 && e.1 != 7) = true then 2
  else if (decide (e.2.2.2.2.1 < 0) || e.1 != 7 && far e.2.2.1 e.2.2.2.1) = true then 6
  else if (e.1 == 5 && (mGet M e.2.2.2.2.1).isSome) = true then 7
  else if (e.1 == 5 && decide ((M.length : Int) ≥ 10)) = true then 5
  else if (e.1 != 5 && !(mGet M e.2.2.2.2.1).isSome) = true then 8
  else 0
def g_check : GC where
  X := TouchD × Inp
  rd := fun H ys => match ys with
    | [.ptr l 0, e] => match rdTouch H l, decV InT e with
      | some T, some e => some (T, e)
      | _, _ => none
    | _ => none
  args := fun x => [.ptr 0 0, .agg (enc InT x.2)]
  hp := fun x => touchH x.1
  pre := fun _ => True
  F := fun x => ⟨[(0, .int .i64 (checkT x.1.2.1 x.2))], touchH x.1, 1, [.ptr 0 0, .junk, .ptr 1 0, .mp 2]⟩
  ex := fun _ => [.ptr 1 0, .mp 2]
theorem s_check : KSound Tryz.prog 32 (fun Γc => gCon Γc g_check) := by
  refine gsoundF (K := K36) (Γc := C33) (Γr := R0) (fun _ => []) hm HK36 HC33 HR0 Tryz.call32 Tryz.func32 (by kernel_rfl) (fun _ => by kernel_rfl) (fun _ => rfl) ?_
  rintro ⟨T, e⟩ _
  refine Eq.mpr (β := (True ∧ (True ∧ (True ∧ ((True ∧ ((True ∧ True) ∧ ((True ∧ (True ∧ ((@Eq Bool T.2.2.2.1 T.2.2.2.1) ∧ ((@Eq Int T.2.2.2.2 T.2.2.2.2) ∧ True)))) ∧ ((((@Eq Bool T.1.1 T.1.1) ∧ ((@Eq Int T.1.2.1 T.1.2.1) ∧ ((@Eq Int T.1.2.2.1 T.1.2.2.1) ∧ True))) ∧ (@Eq _ T.1.2.2.2 T.1.2.2.2)) ∧ (((@Eq _ T.2.1 T.2.1) ∧ (@Eq Nat T.2.2.1 T.2.2.1)) ∧ True))))) ∧ (True ∧ (((@Eq Bool (not true) true) → (True ∧ ((True ∧ True) ∧ ((True ∧ (True ∧ (True ∧ (True ∧ True)))) ∧ (((@Eq Int (1:Int) (checkT T.2.1 e)) ∧ True) ∧ ((True ∧ (True ∧ ((@Eq Bool T.2.2.2.1 T.2.2.2.1) ∧ ((@Eq Int T.2.2.2.2 T.2.2.2.2) ∧ True)))) ∧ ((((@Eq Bool T.1.1 T.1.1) ∧ ((@Eq Int T.1.2.1 T.1.2.1) ∧ ((@Eq Int T.1.2.2.1 T.1.2.2.1) ∧ True))) ∧ (@Eq _ T.1.2.2.2 T.1.2.2.2)) ∧ (((@Eq _ T.2.1 T.2.1) ∧ (@Eq Nat T.2.2.1 T.2.2.1)) ∧ True)))))))) ∧ ((@Eq Bool false false) → (True ∧ (True ∧ (True ∧ (True ∧ (((@Eq Bool (bne e.1 (5:Int)) true) → True) ∧ (((@Eq Bool (bne e.1 (5:Int)) true) → True) ∧ (((@Eq Bool (bne e.1 (5:Int)) true) → True) ∧ (True ∧ (True ∧ (((@Eq Bool (and (bne e.1 (5:Int)) (bne e.1 (6:Int))) true) → True) ∧ (((@Eq Bool (and (bne e.1 (5:Int)) (bne e.1 (6:Int))) true) → True) ∧ (((@Eq Bool (and (bne e.1 (5:Int)) (bne e.1 (6:Int))) true) → True) ∧ (True ∧ (True ∧ (((@Eq Bool (and (and (bne e.1 (5:Int)) (bne e.1 (6:Int))) (bne e.1 (7:Int))) true) → (True ∧ ((True ∧ True) ∧ ((True ∧ (True ∧ (True ∧ (True ∧ True)))) ∧ (((@Eq Int (2:Int) (checkT T.2.1 e)) ∧ True) ∧ ((True ∧ (True ∧ ((@Eq Bool T.2.2.2.1 T.2.2.2.1) ∧ ((@Eq Int T.2.2.2.2 T.2.2.2.2) ∧ True)))) ∧ ((((@Eq Bool T.1.1 T.1.1) ∧ ((@Eq Int T.1.2.1 T.1.2.1) ∧ ((@Eq Int T.1.2.2.1 T.1.2.2.1) ∧ True))) ∧ (@Eq _ T.1.2.2.2 T.1.2.2.2)) ∧ (((@Eq _ T.2.1 T.2.1) ∧ (@Eq Nat T.2.2.1 T.2.2.1)) ∧ True)))))))) ∧ ((@Eq Bool (and (and (bne e.1 (5:Int)) (bne e.1 (6:Int))) (bne e.1 (7:Int))) false) → (True ∧ (True ∧ (True ∧ (True ∧ (((@Eq Bool (@decide (@LT.lt Int Int.instLTInt e.2.2.2.2.1 (0:Int)) (Int.decLt e.2.2.2.2.1 (0:Int))) false) → True) ∧ (((@Eq Bool (@decide (@LT.lt Int Int.instLTInt e.2.2.2.2.1 (0:Int)) (Int.decLt e.2.2.2.2.1 (0:Int))) false) → True) ∧ (((@Eq Bool (@decide (@LT.lt Int Int.instLTInt e.2.2.2.2.1 (0:Int)) (Int.decLt e.2.2.2.2.1 (0:Int))) false) → True) ∧ (((@Eq Bool (@decide (@LT.lt Int Int.instLTInt e.2.2.2.2.1 (0:Int)) (Int.decLt e.2.2.2.2.1 (0:Int))) false) → True) ∧ (((@Eq Bool (bne e.1 (7:Int)) true) → ((@Eq Bool (@decide (@LT.lt Int Int.instLTInt e.2.2.2.2.1 (0:Int)) (Int.decLt e.2.2.2.2.1 (0:Int))) false) → True)) ∧ (((@Eq Bool (bne e.1 (7:Int)) true) → ((@Eq Bool (@decide (@LT.lt Int Int.instLTInt e.2.2.2.2.1 (0:Int)) (Int.decLt e.2.2.2.2.1 (0:Int))) false) → True)) ∧ (((@Eq Bool (bne e.1 (7:Int)) true) → ((@Eq Bool (@decide (@LT.lt Int Int.instLTInt e.2.2.2.2.1 (0:Int)) (Int.decLt e.2.2.2.2.1 (0:Int))) false) → True)) ∧ (((@Eq Bool (bne e.1 (7:Int)) true) → ((@Eq Bool (@decide (@LT.lt Int Int.instLTInt e.2.2.2.2.1 (0:Int)) (Int.decLt e.2.2.2.2.1 (0:Int))) false) → True)) ∧ (((@Eq Bool (bne e.1 (7:Int)) true) → ((@Eq Bool (@decide (@LT.lt Int Int.instLTInt e.2.2.2.2.1 (0:Int)) (Int.decLt e.2.2.2.2.1 (0:Int))) false) → True)) ∧ (((@Eq Bool (@decide (@LT.lt Int Int.instLTInt e.2.2.2.2.1 (0:Int)) (Int.decLt e.2.2.2.2.1 (0:Int))) false) → True) ∧ (True ∧ (True ∧ (((@Eq Bool (or (@decide (@LT.lt Int Int.instLTInt e.2.2.2.2.1 (0:Int)) (Int.decLt e.2.2.2.2.1 (0:Int))) (and (bne e.1 (7:Int)) (far e.2.2.1 e.2.2.2.1))) true) → (True ∧ ((True ∧ True) ∧ ((True ∧ (True ∧ (True ∧ (True ∧ True)))) ∧ (((@Eq Int (6:Int) (checkT T.2.1 e)) ∧ True) ∧ ((True ∧ (True ∧ ((@Eq Bool T.2.2.2.1 T.2.2.2.1) ∧ ((@Eq Int T.2.2.2.2 T.2.2.2.2) ∧ True)))) ∧ ((((@Eq Bool T.1.1 T.1.1) ∧ ((@Eq Int T.1.2.1 T.1.2.1) ∧ ((@Eq Int T.1.2.2.1 T.1.2.2.1) ∧ True))) ∧ (@Eq _ T.1.2.2.2 T.1.2.2.2)) ∧ (((@Eq _ T.2.1 T.2.1) ∧ (@Eq Nat T.2.2.1 T.2.2.1)) ∧ True)))))))) ∧ ((@Eq Bool (or (@decide (@LT.lt Int Int.instLTInt e.2.2.2.2.1 (0:Int)) (Int.decLt e.2.2.2.2.1 (0:Int))) (and (bne e.1 (7:Int)) (far e.2.2.1 e.2.2.2.1))) false) → ((True ∧ (True ∧ (True ∧ (True ∧ (True ∧ (True ∧ (True ∧ (True ∧ (True ∧ (True ∧ (True ∧ (True ∧ (True ∧ True))))))))))))) ∧ (True ∧ (True ∧ (True ∧ (True ∧ (((@Eq Bool (BEq.beq e.1 (5:Int)) true) → True) ∧ (True ∧ (True ∧ (((@Eq Bool (and (BEq.beq e.1 (5:Int)) (Option.isSome (mGet T.2.1 e.2.2.2.2.1))) true) → (True ∧ ((True ∧ True) ∧ ((True ∧ (True ∧ (True ∧ (True ∧ True)))) ∧ (((@Eq Int (7:Int) (checkT T.2.1 e)) ∧ True) ∧ ((True ∧ (True ∧ ((@Eq Bool T.2.2.2.1 T.2.2.2.1) ∧ ((@Eq Int T.2.2.2.2 T.2.2.2.2) ∧ True)))) ∧ ((((@Eq Bool T.1.1 T.1.1) ∧ ((@Eq Int T.1.2.1 T.1.2.1) ∧ ((@Eq Int T.1.2.2.1 T.1.2.2.1) ∧ True))) ∧ (@Eq _ T.1.2.2.2 T.1.2.2.2)) ∧ (((@Eq _ T.2.1 T.2.1) ∧ (@Eq Nat T.2.2.1 T.2.2.1)) ∧ True)))))))) ∧ ((@Eq Bool (and (BEq.beq e.1 (5:Int)) (Option.isSome (mGet T.2.1 e.2.2.2.2.1))) false) → (True ∧ (True ∧ (True ∧ (True ∧ (((@Eq Bool (BEq.beq e.1 (5:Int)) true) → True) ∧ (((@Eq Bool (BEq.beq e.1 (5:Int)) true) → True) ∧ (((@Eq Bool (BEq.beq e.1 (5:Int)) true) → True) ∧ (((@Eq Bool (BEq.beq e.1 (5:Int)) true) → True) ∧ (((@Eq Bool (BEq.beq e.1 (5:Int)) true) → True) ∧ (((@Eq Bool (BEq.beq e.1 (5:Int)) true) → True) ∧ (True ∧ (True ∧ (((@Eq Bool (and (BEq.beq e.1 (5:Int)) (@decide (@GE.ge Int Int.instLEInt (@Nat.cast Int _ (List.length T.2.1)) (10:Int)) (Int.decLe (10:Int) (@Nat.cast Int _ (List.length T.2.1))))) true) → (True ∧ ((True ∧ True) ∧ ((True ∧ (True ∧ (True ∧ (True ∧ True)))) ∧ (((@Eq Int (5:Int) (checkT T.2.1 e)) ∧ True) ∧ ((True ∧ (True ∧ ((@Eq Bool T.2.2.2.1 T.2.2.2.1) ∧ ((@Eq Int T.2.2.2.2 T.2.2.2.2) ∧ True)))) ∧ ((((@Eq Bool T.1.1 T.1.1) ∧ ((@Eq Int T.1.2.1 T.1.2.1) ∧ ((@Eq Int T.1.2.2.1 T.1.2.2.1) ∧ True))) ∧ (@Eq _ T.1.2.2.2 T.1.2.2.2)) ∧ (((@Eq _ T.2.1 T.2.1) ∧ (@Eq Nat T.2.2.1 T.2.2.1)) ∧ True)))))))) ∧ ((@Eq Bool (and (BEq.beq e.1 (5:Int)) (@decide (@GE.ge Int Int.instLEInt (@Nat.cast Int _ (List.length T.2.1)) (10:Int)) (Int.decLe (10:Int) (@Nat.cast Int _ (List.length T.2.1))))) false) → (True ∧ (True ∧ (True ∧ (True ∧ (((@Eq Bool (bne e.1 (5:Int)) true) → True) ∧ (((@Eq Bool (bne e.1 (5:Int)) true) → True) ∧ (True ∧ (True ∧ (((@Eq Bool (and (bne e.1 (5:Int)) (not (Option.isSome (mGet T.2.1 e.2.2.2.2.1)))) true) → (True ∧ ((True ∧ True) ∧ ((True ∧ (True ∧ (True ∧ (True ∧ True)))) ∧ (((@Eq Int (8:Int) (checkT T.2.1 e)) ∧ True) ∧ ((True ∧ (True ∧ ((@Eq Bool T.2.2.2.1 T.2.2.2.1) ∧ ((@Eq Int T.2.2.2.2 T.2.2.2.2) ∧ True)))) ∧ ((((@Eq Bool T.1.1 T.1.1) ∧ ((@Eq Int T.1.2.1 T.1.2.1) ∧ ((@Eq Int T.1.2.2.1 T.1.2.2.1) ∧ True))) ∧ (@Eq _ T.1.2.2.2 T.1.2.2.2)) ∧ (((@Eq _ T.2.1 T.2.1) ∧ (@Eq Nat T.2.2.1 T.2.2.1)) ∧ True)))))))) ∧ ((@Eq Bool (and (bne e.1 (5:Int)) (not (Option.isSome (mGet T.2.1 e.2.2.2.2.1)))) false) → (True ∧ ((True ∧ True) ∧ ((True ∧ (True ∧ (True ∧ (True ∧ True)))) ∧ (((@Eq Int (0:Int) (checkT T.2.1 e)) ∧ True) ∧ ((True ∧ (True ∧ ((@Eq Bool T.2.2.2.1 T.2.2.2.1) ∧ ((@Eq Int T.2.2.2.2 T.2.2.2.2) ∧ True)))) ∧ ((((@Eq Bool T.1.1 T.1.1) ∧ ((@Eq Int T.1.2.1 T.1.2.1) ∧ ((@Eq Int T.1.2.2.1 T.1.2.2.1) ∧ True))) ∧ (@Eq _ T.1.2.2.2 T.1.2.2.2)) ∧ (((@Eq _ T.2.1 T.2.1) ∧ (@Eq Nat T.2.2.1 T.2.2.1)) ∧ True))))))))))))))))))))))))))))))))))))))))))))))))))))))))))))))))))))))))))))))))))) (by kernel_rfl) ?_
  simp only [true_and, and_true, decide_eq_true_eq, decide_eq_false_iff_not, forall_const, implies_true, and_self]
  refine ⟨by simp, fun h => ?_, fun h1 => ⟨fun h => ?_, fun h2 => ⟨fun h => ?_, fun h3 => ⟨fun h => ?_, fun h4 => ⟨fun h => ?_, fun h5 => ?_⟩⟩⟩⟩⟩ <;> simp only [checkT, *] <;> rfl
def g_check0 : GC where
  X := Inp
  rd := fun H ys => match ys with
    | [.nilp, e] => decV InT e
    | _ => none
  args := fun x => [.nilp, .agg (enc InT x)]
  hp := fun x => []
  pre := fun _ => True
  F := fun x => ⟨[(0, .int .i64 1)], [], 1, [.nilp, .junk]⟩
theorem s_check0 : KSound Tryz.prog 32 (fun Γc => gCon Γc g_check0) := by
  refine gsoundF (K := K36) (Γc := C33) (Γr := R0) (fun _ => []) hm HK36 HC33 HR0 Tryz.call32 Tryz.func32 (by kernel_rfl) (fun _ => by kernel_rfl) (fun _ => rfl) ?_
  rintro e _
  refine Eq.mpr (β := (True ∧ (True ∧ (True ∧ ((True ∧ ((True ∧ True) ∧ True)) ∧ (True ∧ (((@Eq Bool true true) → (True ∧ ((True ∧ True) ∧ ((True ∧ (True ∧ True)) ∧ (((@Eq Int (Int.ofNat 1) (Int.ofNat 1)) ∧ True) ∧ True))))) ∧ ((@Eq Bool (not false) false) → (True ∧ (True ∧ (True ∧ (True ∧ (((@Eq Bool (bne e.1 (5:Int)) true) → True) ∧ (((@Eq Bool (bne e.1 (5:Int)) true) → True) ∧ (((@Eq Bool (bne e.1 (5:Int)) true) → True) ∧ (True ∧ (True ∧ (((@Eq Bool (and (bne e.1 (5:Int)) (bne e.1 (6:Int))) true) → True) ∧ (((@Eq Bool (and (bne e.1 (5:Int)) (bne e.1 (6:Int))) true) → True) ∧ (((@Eq Bool (and (bne e.1 (5:Int)) (bne e.1 (6:Int))) true) → True) ∧ (True ∧ (True ∧ (((@Eq Bool (and (and (bne e.1 (5:Int)) (bne e.1 (6:Int))) (bne e.1 (7:Int))) true) → (True ∧ ((True ∧ True) ∧ ((True ∧ (True ∧ True)) ∧ (((@Eq Int (2:Int) (1:Int)) ∧ True) ∧ True))))) ∧ ((@Eq Bool (and (and (bne e.1 (5:Int)) (bne e.1 (6:Int))) (bne e.1 (7:Int))) false) → (True ∧ (True ∧ (True ∧ (True ∧ (((@Eq Bool (@decide (@LT.lt Int Int.instLTInt e.2.2.2.2.1 (0:Int)) (Int.decLt e.2.2.2.2.1 (0:Int))) false) → True) ∧ (((@Eq Bool (@decide (@LT.lt Int Int.instLTInt e.2.2.2.2.1 (0:Int)) (Int.decLt e.2.2.2.2.1 (0:Int))) false) → True) ∧ (((@Eq Bool (@decide (@LT.lt Int Int.instLTInt e.2.2.2.2.1 (0:Int)) (Int.decLt e.2.2.2.2.1 (0:Int))) false) → True) ∧ (((@Eq Bool (@decide (@LT.lt Int Int.instLTInt e.2.2.2.2.1 (0:Int)) (Int.decLt e.2.2.2.2.1 (0:Int))) false) → True) ∧ (((@Eq Bool (bne e.1 (7:Int)) true) → ((@Eq Bool (@decide (@LT.lt Int Int.instLTInt e.2.2.2.2.1 (0:Int)) (Int.decLt e.2.2.2.2.1 (0:Int))) false) → True)) ∧ (((@Eq Bool (bne e.1 (7:Int)) true) → ((@Eq Bool (@decide (@LT.lt Int Int.instLTInt e.2.2.2.2.1 (0:Int)) (Int.decLt e.2.2.2.2.1 (0:Int))) false) → True)) ∧ (((@Eq Bool (bne e.1 (7:Int)) true) → ((@Eq Bool (@decide (@LT.lt Int Int.instLTInt e.2.2.2.2.1 (0:Int)) (Int.decLt e.2.2.2.2.1 (0:Int))) false) → True)) ∧ (((@Eq Bool (bne e.1 (7:Int)) true) → ((@Eq Bool (@decide (@LT.lt Int Int.instLTInt e.2.2.2.2.1 (0:Int)) (Int.decLt e.2.2.2.2.1 (0:Int))) false) → True)) ∧ (((@Eq Bool (bne e.1 (7:Int)) true) → ((@Eq Bool (@decide (@LT.lt Int Int.instLTInt e.2.2.2.2.1 (0:Int)) (Int.decLt e.2.2.2.2.1 (0:Int))) false) → True)) ∧ (((@Eq Bool (@decide (@LT.lt Int Int.instLTInt e.2.2.2.2.1 (0:Int)) (Int.decLt e.2.2.2.2.1 (0:Int))) false) → True) ∧ (True ∧ (True ∧ (((@Eq Bool (or (@decide (@LT.lt Int Int.instLTInt e.2.2.2.2.1 (0:Int)) (Int.decLt e.2.2.2.2.1 (0:Int))) (and (bne e.1 (7:Int)) (far e.2.2.1 e.2.2.2.1))) true) → (True ∧ ((True ∧ True) ∧ ((True ∧ (True ∧ True)) ∧ (((@Eq Int (6:Int) (1:Int)) ∧ True) ∧ True))))) ∧ ((@Eq Bool (or (@decide (@LT.lt Int Int.instLTInt e.2.2.2.2.1 (0:Int)) (Int.decLt e.2.2.2.2.1 (0:Int))) (and (bne e.1 (7:Int)) (far e.2.2.1 e.2.2.2.1))) false) → False)))))))))))))))))))))))))))))))))))))))))) (by kernel_rfl) ?_
  simp
abbrev K37 : KCons := (32, fun Γc => orCon (gCon Γc g_check) (gCon Γc g_check0)) :: K36
theorem HK37 : KS Tryz.prog K37 := ks_add (ksound_or s_check s_check0) HK36
end Go.Proofs.YtgjfofeaakdihaaGreat
