/-
  A part of the proof: what some of the program's functions compute.
-/
import Derived.Test.YtijmbmncdchjkaaGreatVA
namespace Go.Proofs.YtijmbmncdchjkaaGreat
open Go Go.E Go.Proofs
set_option linter.unusedVariables false
set_option linter.unusedSimpArgs false
abbrev EntryT : Ty := .prod U32 (.prod I64 (.prod I64 I64))
abbrev Entry := Int × Int × Int × Int
abbrev LogD := Bool × Int × Int × List Entry
def logC (L : LogD) : Chunk := .mix [.bool L.1, .int .u32 L.2.1, .int .i64 L.2.2.1] EntryT L.2.2.2
def castL (t u : Ty) (xs : List t.T) : Option (List u.T) := if h : t = u then some (h ▸ xs) else none
def rdLog (H : Heap) (l : Nat) : Option LogD := match get? H l with
  | some (.mix [.bool v, .int .u32 a, .int .i64 b] t xs) => (castL t EntryT xs).map fun ys => (v, a, b, ys)
  | _ => none
/-- a log as New and Issue leave it -/
def LogOk (L : LogD) : Prop := 0 ≤ L.2.2.1 ∧ L.2.2.1 < 256 ∧ L.2.2.2.length = 256
def log0 : LogD := (true, 0, 0, List.replicate 256 (0, 0, 0, 0))
def g_sNew : GC where
  X := Unit
  rd := fun H ys => match ys with
    | [] => some ()
    | _ => none
  args := fun _ => []
  hp := fun _ => []
  pre := fun _ => True
  F := fun _ => ⟨[(0, .ptr 5 0)], [(5, logC log0)], 1, []⟩
theorem s_sNew : KSound Tryz.prog 6 (fun Γc => gCon Γc g_sNew) := by
  refine gsoundF (K := K20) (Γc := C14) (Γr := R0) (fun _ => []) hm HK20 HC14 HR0 Tryz.call6 Tryz.func6 (by kernel_rfl) (fun _ => by kernel_rfl) (fun _ => rfl) ?_
  rintro ⟨⟩ _
  refine Eq.mpr (β := (True ∧ True ∧ True ∧ True ∧ (True ∧ True) ∧ True ∧ (True ∧ True) ∧ ((@Eq Bool true true ∧ @Eq Int (Int.ofNat 0) (Int.ofNat 0) ∧ @Eq Int (Int.ofNat 0) (Int.ofNat 0) ∧ True) ∧ @Eq _ log0.2.2.2 log0.2.2.2) ∧ True)) (by kernel_rfl) ?_
  simp only [true_and, and_true, decide_eq_true_eq, decide_eq_false_iff_not, forall_const, implies_true, and_self]
abbrev K21 : KCons := (6, fun Γc => gCon Γc g_sNew) :: K20
theorem HK21 : KS Tryz.prog K21 := ks_add (s_sNew) HK20
def g_usable : GC where
  X := LogD
  rd := fun H ys => match ys with
    | [.ptr l 0] => rdLog H l
    | _ => none
  args := fun _ => [.ptr 0 0]
  hp := fun x => [(0, logC x)]
  pre := fun _ => True
  F := fun x => ⟨[(0, .bool x.1)], [(0, logC x)], 1, [.ptr 0 0]⟩
theorem s_usable : KSound Tryz.prog 24 (fun Γc => gCon Γc g_usable) := by
  refine gsoundF (K := K21) (Γc := C14) (Γr := R0) (fun _ => []) hm HK21 HC14 HR0 Tryz.call24 Tryz.func24 (by kernel_rfl) (fun _ => by kernel_rfl) (fun _ => rfl) ?_
  rintro x _
  refine Eq.mpr (β := (True ∧ True ∧ True ∧ True ∧ (@Eq Bool true true → True) ∧ (@Eq Bool true true → True) ∧ (@Eq Bool true true → True) ∧ (@Eq Bool true true → True) ∧ True ∧ True ∧ (True ∧ True) ∧ (True ∧ True) ∧ (@Eq Bool (and true x.1) x.1 ∧ True) ∧ ((@Eq Bool x.1 x.1 ∧ @Eq Int x.2.1 x.2.1 ∧ @Eq Int x.2.2.1 x.2.2.1 ∧ True) ∧ @Eq _ x.2.2.2 x.2.2.2) ∧ True)) (by kernel_rfl) ?_
  simp
abbrev K22 : KCons := (24, fun Γc => gCon Γc g_usable) :: K21
theorem HK22 : KS Tryz.prog K22 := ks_add (s_usable) HK21
def matchE (e : Entry) (client kinds : Int) : Bool := e.2.1 != 0 && e.2.1 == client && IntKind.i64.wrap (BitVec.ofInt 64 (kinds.fdiv (2 ^ min (IntKind.wrap .u64 e.2.2.2).toNat 64)) &&& BitVec.ofInt 64 1).toNat == 1
def issueL (L : LogD) (client surface kind : Int) : Int × LogD :=
  if L.1 = false ∨ client < 1 ∨ surface < 0 ∨ kind < 0 ∨ 62 < kind then (0, L) else
  let n := if IntKind.u32.wrap (L.2.1 + 1) = 0 then 1 else IntKind.u32.wrap (L.2.1 + 1)
  (n, (L.1, n, (L.2.2.1 + 1) % 256, L.2.2.2.set L.2.2.1.toNat (n, client, surface, kind)))
def g_Issue : GC where
  X := LogD × Int × Int × Int
  rd := fun H ys => match ys with
    | [.ptr l 0, .int .i64 a, .int .i64 b, .int .i64 c] => (rdLog H l).map fun L => (L, a, b, c)
    | _ => none
  args := fun x => [.ptr 0 0, .int .i64 x.2.1, .int .i64 x.2.2.1, .int .i64 x.2.2.2]
  hp := fun x => [(0, logC x.1)]
  pre := fun x => LogOk x.1
  F := fun x => ⟨[(0, .int .u32 (issueL x.1 x.2.1 x.2.2.1 x.2.2.2).1)], [(0, logC (issueL x.1 x.2.1 x.2.2.1 x.2.2.2).2)], 1, [.ptr 0 0, .junk, .junk, .junk]⟩
theorem s_Issue : KSound Tryz.prog 14 (fun Γc => gCon Γc g_Issue) := by
  refine gsoundF (K := K22) (Γc := C14) (Γr := R0) (fun _ => []) hm HK22 HC14 HR0 Tryz.call14 Tryz.func14 (by kernel_rfl) (fun _ => by kernel_rfl) (fun _ => rfl) ?_
  rintro ⟨L, a, b, c⟩ hx
  refine Eq.mpr (β := (True ∧ True ∧ (True ∧ (True ∧ True) ∧ ((@Eq Bool L.1 L.1 ∧ @Eq Int L.2.1 L.2.1 ∧ @Eq Int L.2.2.1 L.2.2.1 ∧ True) ∧ @Eq _ L.2.2.2 L.2.2.2) ∧ True) ∧ True ∧ True ∧ (@Eq Bool (not L.1) false → True) ∧ (@Eq Bool (not L.1) false → True) ∧ True ∧ True ∧ (@Eq Bool (or (not L.1) (@decide (@LT.lt Int Int.instLTInt a (1:Int)) (Int.decLt a (1:Int)))) false → True) ∧ (@Eq Bool (or (not L.1) (@decide (@LT.lt Int Int.instLTInt a (1:Int)) (Int.decLt a (1:Int)))) false → True) ∧ True ∧ True ∧ (@Eq Bool (or (or (not L.1) (@decide (@LT.lt Int Int.instLTInt a (1:Int)) (Int.decLt a (1:Int)))) (@decide (@LT.lt Int Int.instLTInt b (0:Int)) (Int.decLt b (0:Int)))) false → True) ∧ (@Eq Bool (or (or (not L.1) (@decide (@LT.lt Int Int.instLTInt a (1:Int)) (Int.decLt a (1:Int)))) (@decide (@LT.lt Int Int.instLTInt b (0:Int)) (Int.decLt b (0:Int)))) false → True) ∧ True ∧ True ∧ (@Eq Bool (or (or (or (not L.1) (@decide (@LT.lt Int Int.instLTInt a (1:Int)) (Int.decLt a (1:Int)))) (@decide (@LT.lt Int Int.instLTInt b (0:Int)) (Int.decLt b (0:Int)))) (@decide (@LT.lt Int Int.instLTInt c (0:Int)) (Int.decLt c (0:Int)))) false → True) ∧ (@Eq Bool (or (or (or (not L.1) (@decide (@LT.lt Int Int.instLTInt a (1:Int)) (Int.decLt a (1:Int)))) (@decide (@LT.lt Int Int.instLTInt b (0:Int)) (Int.decLt b (0:Int)))) (@decide (@LT.lt Int Int.instLTInt c (0:Int)) (Int.decLt c (0:Int)))) false → True) ∧ True ∧ (@Eq Bool (or (or (or (or (not L.1) (@decide (@LT.lt Int Int.instLTInt a (1:Int)) (Int.decLt a (1:Int)))) (@decide (@LT.lt Int Int.instLTInt b (0:Int)) (Int.decLt b (0:Int)))) (@decide (@LT.lt Int Int.instLTInt c (0:Int)) (Int.decLt c (0:Int)))) (@decide (@GT.gt Int Int.instLTInt c (62:Int)) (Int.decLt (62:Int) c))) true → (True ∧ (True ∧ True) ∧ (True ∧ True ∧ True ∧ True ∧ True) ∧ (@Eq Int (0:Int) (issueL L a (b, c).1 (b, c).2).1 ∧ True) ∧ ((@Eq Bool L.1 (issueL L a (b, c).1 (b, c).2).2.1 ∧ @Eq Int L.2.1 (issueL L a (b, c).1 (b, c).2).2.2.1 ∧ @Eq Int L.2.2.1 (issueL L a (b, c).1 (b, c).2).2.2.2.1 ∧ True) ∧ @Eq _ L.2.2.2 (issueL L a (b, c).1 (b, c).2).2.2.2.2) ∧ True)) ∧ (@Eq Bool (or (or (or (or (not L.1) (@decide (@LT.lt Int Int.instLTInt a (1:Int)) (Int.decLt a (1:Int)))) (@decide (@LT.lt Int Int.instLTInt b (0:Int)) (Int.decLt b (0:Int)))) (@decide (@LT.lt Int Int.instLTInt c (0:Int)) (Int.decLt c (0:Int)))) (@decide (@GT.gt Int Int.instLTInt c (62:Int)) (Int.decLt (62:Int) c))) false → (True ∧ True ∧ True ∧ True ∧ True ∧ True ∧ True ∧ True ∧ True ∧ True ∧ True ∧ True ∧ True ∧ (@Eq Bool (BEq.beq (IntKind.wrap IntKind.u32 (@HAdd.hAdd Int Int Int _ L.2.1 (1:Int))) (0:Int)) true → (True ∧ True ∧ True ∧ True ∧ (True ∧ True ∧ True ∧ True ∧ True ∧ True ∧ True ∧ True ∧ True ∧ True ∧ True ∧ True ∧ True ∧ True ∧ True ∧ (@LE.le Int Int.instLEInt (0:Int) L.2.2.1 ∧ @LE.le Int Int.instLEInt (@HAdd.hAdd Int Int Int _ L.2.2.1 (1:Int)) (@Nat.cast Int _ (256:Nat))) ∧ @LT.lt Nat instLTNat (Int.toNat L.2.2.1) (List.length L.2.2.2) ∧ True) ∧ True ∧ True ∧ True ∧ True ∧ True ∧ True ∧ (@Eq Int (256:Int) (0:Int) → False) ∧ True ∧ True ∧ True ∧ True ∧ True ∧ True ∧ True ∧ True ∧ (True ∧ True) ∧ (True ∧ True ∧ True ∧ True ∧ True) ∧ (@Eq Int (1:Int) (issueL L a (b, c).1 (b, c).2).1 ∧ True) ∧ ((@Eq Bool L.1 (issueL L a (b, c).1 (b, c).2).2.1 ∧ @Eq Int (1:Int) (issueL L a (b, c).1 (b, c).2).2.2.1 ∧ @Eq Int (Int.tmod (IntKind.wrap IntKind.i64 (@HAdd.hAdd Int Int Int _ L.2.2.1 (1:Int))) (256:Int)) (issueL L a (b, c).1 (b, c).2).2.2.2.1 ∧ True) ∧ @Eq _ (List.set L.2.2.2 (Int.toNat L.2.2.1) ((1:Int), (a, (b, c)))) (issueL L a (b, c).1 (b, c).2).2.2.2.2) ∧ True)) ∧ (@Eq Bool (BEq.beq (IntKind.wrap IntKind.u32 (@HAdd.hAdd Int Int Int _ L.2.1 (1:Int))) (0:Int)) false → ((True ∧ True ∧ True ∧ True ∧ True ∧ True ∧ True ∧ True ∧ True ∧ True ∧ True ∧ True ∧ True ∧ True ∧ True ∧ (@LE.le Int Int.instLEInt (0:Int) L.2.2.1 ∧ @LE.le Int Int.instLEInt (@HAdd.hAdd Int Int Int _ L.2.2.1 (1:Int)) (@Nat.cast Int _ (256:Nat))) ∧ @LT.lt Nat instLTNat (Int.toNat L.2.2.1) (List.length L.2.2.2) ∧ True) ∧ True ∧ True ∧ True ∧ True ∧ True ∧ True ∧ (@Eq Int (256:Int) (0:Int) → False) ∧ True ∧ True ∧ True ∧ True ∧ True ∧ True ∧ True ∧ True ∧ (True ∧ True) ∧ (True ∧ True ∧ True ∧ True ∧ True) ∧ (@Eq Int (IntKind.wrap IntKind.u32 (@HAdd.hAdd Int Int Int _ L.2.1 (1:Int))) (issueL L a (b, c).1 (b, c).2).1 ∧ True) ∧ ((@Eq Bool L.1 (issueL L a (b, c).1 (b, c).2).2.1 ∧ @Eq Int (IntKind.wrap IntKind.u32 (@HAdd.hAdd Int Int Int _ L.2.1 (1:Int))) (issueL L a (b, c).1 (b, c).2).2.2.1 ∧ @Eq Int (Int.tmod (IntKind.wrap IntKind.i64 (@HAdd.hAdd Int Int Int _ L.2.2.1 (1:Int))) (256:Int)) (issueL L a (b, c).1 (b, c).2).2.2.2.1 ∧ True) ∧ @Eq _ (List.set L.2.2.2 (Int.toNat L.2.2.1) ((IntKind.wrap IntKind.u32 (@HAdd.hAdd Int Int Int _ L.2.1 (1:Int))), (a, (b, c)))) (issueL L a (b, c).1 (b, c).2).2.2.2.2) ∧ True)))))) (by kernel_rfl) ?_
  simp only [true_and, and_true, decide_eq_true_eq, decide_eq_false_iff_not, forall_const, implies_true, and_self]
  obtain ⟨h1, h2, h3⟩ : LogOk L := hx
  have hmod : (IntKind.i64.wrap (L.2.2.1 + 1)).tmod 256 = (L.2.2.1 + 1) % 256 := by
    rw [wrap_in (by omega), Int.tmod_eq_emod_of_nonneg (by omega)]
  refine ⟨fun h => ?_, fun h => ?_⟩
  · have : L.1 = false ∨ a < 1 ∨ b < 0 ∨ c < 0 ∨ 62 < c := by
      simp at h
      rcases h with (((h | h) | h) | h) | h <;> simp [h]
    simp only [issueL, if_pos this]
    simp
  · have : ¬ (L.1 = false ∨ a < 1 ∨ b < 0 ∨ c < 0 ∨ 62 < c) := by
      simp at h
      rintro (g | g | g | g | g)
      · simp [g] at h
      all_goals omega
    simp only [issueL, if_neg this]
    refine ⟨fun h => ⟨⟨⟨h1, by omega⟩, by omega⟩, by decide, ?_⟩, fun h => ⟨⟨⟨h1, by omega⟩, by omega⟩, by decide, ?_⟩⟩
    · have h : IntKind.u32.wrap (L.2.1 + 1) = 0 := by simpa using h
      simp [h, hmod]
    · have h : ¬ IntKind.u32.wrap (L.2.1 + 1) = 0 := by simpa using h
      simp [h, hmod]
abbrev K23 : KCons := (14, fun Γc => gCon Γc g_Issue) :: K22
theorem HK23 : KS Tryz.prog K23 := ks_add (s_Issue) HK22
end Go.Proofs.YtijmbmncdchjkaaGreat
