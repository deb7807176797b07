/-
  A part of the proof: what some of the program's functions compute.
-/
import Derived.Test.YtijmbmncdchjkaaVA
namespace Go.Proofs.Ytijmbmncdchjkaa
open Go Go.E Go.Proofs
set_option linter.unusedVariables false
set_option linter.unusedSimpArgs false
abbrev EntryT : Ty := .prod U32 (.prod I64 (.prod I64 I64))
abbrev Entry := Int × Int × Int × Int
abbrev LogD := Bool × Int × Int × List Entry
def logC (L : LogD) : Chunk := .mix [.bool L.1, .int .u32 L.2.1, .int .i64 L.2.2.1] EntryT L.2.2.2
def castL (t u : Ty) (xs : List t.T) : Option (List u.T) := if h : t = u then some (h ▸ xs) else none
def rdLog (H : Heap) (l : Nat) : Option LogD := match get? H l with
  | some (.mix [.bool v, .int .u32 a, .int .i64 b] t xs) => (castL t EntryT xs).map fun ys => (v, a, b, ys)
  | _ => none
/-- a log as New and Issue leave it -/
def LogOk (L : LogD) : Prop := 0 ≤ L.2.2.1 ∧ L.2.2.1 < 256 ∧ L.2.2.2.length = 256
def log0 : LogD := (true, 0, 0, List.replicate 256 (0, 0, 0, 0))
def g_sNew : GC where
  X := Unit
  rd := fun H ys => match ys with
    | [] => some ()
    | _ => none
  args := fun _ => []
  hp := fun _ => []
  pre := fun _ => True
  F := fun _ => ⟨[(0, .ptr 5 0)], [(5, logC log0)], 1, []⟩
theorem s_sNew : KSound Try.prog 14 (fun Γc => gCon Γc g_sNew) := by
  refine gsoundF (K := K20) (Γc := C14) (Γr := R0) (fun _ => []) hm HK20 HC14 HR0 Try.call14 Try.func14 (by kernel_rfl) (fun _ => by kernel_rfl) (fun _ => rfl) ?_
  rintro ⟨⟩ _
  refine Eq.mpr (β := (True ∧ True ∧ True ∧ True ∧ (True ∧ True) ∧ True ∧ (True ∧ True) ∧ ((@Eq Bool true true ∧ @Eq Int (Int.ofNat 0) (Int.ofNat 0) ∧ @Eq Int (Int.ofNat 0) (Int.ofNat 0) ∧ True) ∧ @Eq _ log0.2.2.2 log0.2.2.2) ∧ True)) (by kernel_rfl) ?_
  simp only [true_and, and_true, decide_eq_true_eq, decide_eq_false_iff_not, forall_const, implies_true, and_self]
abbrev K21 : KCons := (14, fun Γc => gCon Γc g_sNew) :: K20
theorem HK21 : KS Try.prog K21 := ks_add (s_sNew) HK20
def g_usable : GC where
  X := LogD
  rd := fun H ys => match ys with
    | [.ptr l 0] => rdLog H l
    | _ => none
  args := fun _ => [.ptr 0 0]
  hp := fun x => [(0, logC x)]
  pre := fun _ => True
  F := fun x => ⟨[(0, .bool x.1)], [(0, logC x)], 1, [.ptr 0 0]⟩
theorem s_usable : KSound Try.prog 30 (fun Γc => gCon Γc g_usable) := by
  refine gsoundF (K := K21) (Γc := C14) (Γr := R0) (fun _ => []) hm HK21 HC14 HR0 Try.call30 Try.func30 (by kernel_rfl) (fun _ => by kernel_rfl) (fun _ => rfl) ?_
  rintro x _
  refine Eq.mpr (β := (True ∧ True ∧ True ∧ True ∧ (@Eq Bool true true → True) ∧ (@Eq Bool true true → True) ∧ (@Eq Bool true true → True) ∧ (@Eq Bool true true → True) ∧ True ∧ True ∧ (True ∧ True) ∧ (True ∧ True) ∧ (@Eq Bool (and true x.1) x.1 ∧ True) ∧ ((@Eq Bool x.1 x.1 ∧ @Eq Int x.2.1 x.2.1 ∧ @Eq Int x.2.2.1 x.2.2.1 ∧ True) ∧ @Eq _ x.2.2.2 x.2.2.2) ∧ True)) (by kernel_rfl) ?_
  simp
abbrev K22 : KCons := (30, fun Γc => gCon Γc g_usable) :: K21
theorem HK22 : KS Try.prog K22 := ks_add (s_usable) HK21
def matchE (e : Entry) (client kinds : Int) : Bool := e.2.1 != 0 && e.2.1 == client && IntKind.i64.wrap (BitVec.ofInt 64 (kinds.fdiv (2 ^ min (IntKind.wrap .u64 e.2.2.2).toNat 64)) &&& BitVec.ofInt 64 1).toNat == 1
def c_matches : PCon := pcon [.d EntryT, .d I64, .d I64] fun x => (True, .bool (matchE x.1 x.2.1 x.2.2.1))
theorem s_matches : PSound Try.prog 32 c_matches := by
  refine psoundF (K := K22) (Γc := C14) (Γr := R0) (fun _ => []) hm HK22 HC14 HR0 Try.call32 Try.func32 (by kernel_rfl) ?_
  rintro ⟨e, client, kinds, _⟩ _
  refine Eq.mpr (β := (True ∧ True ∧ True ∧ True ∧ True ∧ True ∧ (@Eq Bool (bne e.2.1 (0:Int)) true → True) ∧ (@Eq Bool (bne e.2.1 (0:Int)) true → True) ∧ (@Eq Bool (bne e.2.1 (0:Int)) true → True) ∧ (@Eq Bool (bne e.2.1 (0:Int)) true → True) ∧ True ∧ True ∧ (@Eq Bool (and (bne e.2.1 (0:Int)) (BEq.beq e.2.1 client)) true → True) ∧ (@Eq Bool (and (bne e.2.1 (0:Int)) (BEq.beq e.2.1 client)) true → True) ∧ (@Eq Bool (and (bne e.2.1 (0:Int)) (BEq.beq e.2.1 client)) true → True) ∧ (@Eq Bool (and (bne e.2.1 (0:Int)) (BEq.beq e.2.1 client)) true → True) ∧ (@Eq Bool (and (bne e.2.1 (0:Int)) (BEq.beq e.2.1 client)) true → @LE.le Int Int.instLEInt (0:Int) (IntKind.wrap IntKind.u64 e.2.2.2)) ∧ (@Eq Bool (and (bne e.2.1 (0:Int)) (BEq.beq e.2.1 client)) true → True) ∧ (@Eq Bool (and (bne e.2.1 (0:Int)) (BEq.beq e.2.1 client)) true → True) ∧ True ∧ True ∧ (True ∧ True) ∧ @Eq Bool (and (and (bne e.2.1 (0:Int)) (BEq.beq e.2.1 client)) (BEq.beq (IntKind.wrap IntKind.i64 (@Nat.cast Int _ (BitVec.toNat (HAnd.hAnd (BitVec.ofInt (64:Nat) (Int.fdiv kinds (HPow.hPow (2:Int) (min (Int.toNat (IntKind.wrap IntKind.u64 e.2.2.2)) (64:Nat))))) (BitVec.ofInt (64:Nat) (1:Int)))))) (1:Int))) (matchE e client (kinds, ()).1))) (by kernel_rfl) ?_
  simp only [true_and, and_true, decide_eq_true_eq, decide_eq_false_iff_not, forall_const, implies_true, and_self]
  refine ⟨fun _ => by rw [IntKind.wrap]; simp only [IntKind.signed]; exact Int.emod_nonneg _ (by decide), ?_⟩
  rfl
abbrev K23 : KCons := (32, fun Γc => pure_ Γc (c_matches)) :: K22
theorem HK23 : KS Try.prog K23 := ks_add (ksound_pure (s_matches)) HK22
def issueL (L : LogD) (client surface kind : Int) : Int × LogD :=
  if L.1 = false ∨ client < 1 ∨ surface < 0 ∨ kind < 0 ∨ 62 < kind then (0, L) else
  let n := if IntKind.u32.wrap (L.2.1 + 1) = 0 then 1 else IntKind.u32.wrap (L.2.1 + 1)
  (n, (L.1, n, (L.2.2.1 + 1) % 256, L.2.2.2.set L.2.2.1.toNat (n, client, surface, kind)))
def g_Issue : GC where
  X := LogD × Int × Int × Int
  rd := fun H ys => match ys with
    | [.ptr l 0, .int .i64 a, .int .i64 b, .int .i64 c] => (rdLog H l).map fun L => (L, a, b, c)
    | _ => none
  args := fun x => [.ptr 0 0, .int .i64 x.2.1, .int .i64 x.2.2.1, .int .i64 x.2.2.2]
  hp := fun x => [(0, logC x.1)]
  pre := fun x => LogOk x.1
  F := fun x => ⟨[(0, .int .u32 (issueL x.1 x.2.1 x.2.2.1 x.2.2.2).1)], [(0, logC (issueL x.1 x.2.1 x.2.2.1 x.2.2.2).2)], 1, [.ptr 0 0, .junk, .junk, .junk]⟩
theorem s_Issue : KSound Try.prog 19 (fun Γc => gCon Γc g_Issue) := by
  refine gsoundF (K := K23) (Γc := C14) (Γr := R0) (fun _ => []) hm HK23 HC14 HR0 Try.call19 Try.func19 (by kernel_rfl) (fun _ => by kernel_rfl) (fun _ => rfl) ?_
  rintro ⟨L, a, b, c⟩ hx
  refine Eq.mpr (β := (True ∧ True ∧ (True ∧ (True ∧ True) ∧ ((@Eq Bool L.1 L.1 ∧ @Eq Int L.2.1 L.2.1 ∧ @Eq Int L.2.2.1 L.2.2.1 ∧ True) ∧ @Eq _ L.2.2.2 L.2.2.2) ∧ True) ∧ True ∧ True ∧ (@Eq Bool (not L.1) false → True) ∧ (@Eq Bool (not L.1) false → True) ∧ True ∧ True ∧ (@Eq Bool (or (not L.1) (@decide (@LT.lt Int Int.instLTInt a (1:Int)) (Int.decLt a (1:Int)))) false → True) ∧ (@Eq Bool (or (not L.1) (@decide (@LT.lt Int Int.instLTInt a (1:Int)) (Int.decLt a (1:Int)))) false → True) ∧ True ∧ True ∧ (@Eq Bool (or (or (not L.1) (@decide (@LT.lt Int Int.instLTInt a (1:Int)) (Int.decLt a (1:Int)))) (@decide (@LT.lt Int Int.instLTInt b (0:Int)) (Int.decLt b (0:Int)))) false → True) ∧ (@Eq Bool (or (or (not L.1) (@decide (@LT.lt Int Int.instLTInt a (1:Int)) (Int.decLt a (1:Int)))) (@decide (@LT.lt Int Int.instLTInt b (0:Int)) (Int.decLt b (0:Int)))) false → True) ∧ True ∧ True ∧ (@Eq Bool (or (or (or (not L.1) (@decide (@LT.lt Int Int.instLTInt a (1:Int)) (Int.decLt a (1:Int)))) (@decide (@LT.lt Int Int.instLTInt b (0:Int)) (Int.decLt b (0:Int)))) (@decide (@LT.lt Int Int.instLTInt c (0:Int)) (Int.decLt c (0:Int)))) false → True) ∧ (@Eq Bool (or (or (or (not L.1) (@decide (@LT.lt Int Int.instLTInt a (1:Int)) (Int.decLt a (1:Int)))) (@decide (@LT.lt Int Int.instLTInt b (0:Int)) (Int.decLt b (0:Int)))) (@decide (@LT.lt Int Int.instLTInt c (0:Int)) (Int.decLt c (0:Int)))) false → True) ∧ True ∧ (@Eq Bool (or (or (or (or (not L.1) (@decide (@LT.lt Int Int.instLTInt a (1:Int)) (Int.decLt a (1:Int)))) (@decide (@LT.lt Int Int.instLTInt b (0:Int)) (Int.decLt b (0:Int)))) (@decide (@LT.lt Int Int.instLTInt c (0:Int)) (Int.decLt c (0:Int)))) (@decide (@GT.gt Int Int.instLTInt c (62:Int)) (Int.decLt (62:Int) c))) true → (True ∧ (True ∧ True) ∧ (True ∧ True ∧ True ∧ True ∧ True) ∧ (@Eq Int (0:Int) (issueL L a (b, c).1 (b, c).2).1 ∧ True) ∧ ((@Eq Bool L.1 (issueL L a (b, c).1 (b, c).2).2.1 ∧ @Eq Int L.2.1 (issueL L a (b, c).1 (b, c).2).2.2.1 ∧ @Eq Int L.2.2.1 (issueL L a (b, c).1 (b, c).2).2.2.2.1 ∧ True) ∧ @Eq _ L.2.2.2 (issueL L a (b, c).1 (b, c).2).2.2.2.2) ∧ True)) ∧ (@Eq Bool (or (or (or (or (not L.1) (@decide (@LT.lt Int Int.instLTInt a (1:Int)) (Int.decLt a (1:Int)))) (@decide (@LT.lt Int Int.instLTInt b (0:Int)) (Int.decLt b (0:Int)))) (@decide (@LT.lt Int Int.instLTInt c (0:Int)) (Int.decLt c (0:Int)))) (@decide (@GT.gt Int Int.instLTInt c (62:Int)) (Int.decLt (62:Int) c))) false → (True ∧ True ∧ True ∧ True ∧ True ∧ True ∧ True ∧ True ∧ True ∧ True ∧ True ∧ True ∧ True ∧ (@Eq Bool (BEq.beq (IntKind.wrap IntKind.u32 (@HAdd.hAdd Int Int Int _ L.2.1 (1:Int))) (0:Int)) true → (True ∧ True ∧ True ∧ True ∧ (True ∧ True ∧ True ∧ True ∧ True ∧ True ∧ True ∧ True ∧ True ∧ True ∧ True ∧ True ∧ True ∧ True ∧ True ∧ (@LE.le Int Int.instLEInt (0:Int) L.2.2.1 ∧ @LE.le Int Int.instLEInt (@HAdd.hAdd Int Int Int _ L.2.2.1 (1:Int)) (@Nat.cast Int _ (256:Nat))) ∧ @LT.lt Nat instLTNat (Int.toNat L.2.2.1) (List.length L.2.2.2) ∧ True) ∧ True ∧ True ∧ True ∧ True ∧ True ∧ True ∧ (@Eq Int (256:Int) (0:Int) → False) ∧ True ∧ True ∧ True ∧ True ∧ True ∧ True ∧ True ∧ True ∧ (True ∧ True) ∧ (True ∧ True ∧ True ∧ True ∧ True) ∧ (@Eq Int (1:Int) (issueL L a (b, c).1 (b, c).2).1 ∧ True) ∧ ((@Eq Bool L.1 (issueL L a (b, c).1 (b, c).2).2.1 ∧ @Eq Int (1:Int) (issueL L a (b, c).1 (b, c).2).2.2.1 ∧ @Eq Int (Int.tmod (IntKind.wrap IntKind.i64 (@HAdd.hAdd Int Int Int _ L.2.2.1 (1:Int))) (256:Int)) (issueL L a (b, c).1 (b, c).2).2.2.2.1 ∧ True) ∧ @Eq _ (List.set L.2.2.2 (Int.toNat L.2.2.1) ((1:Int), (a, (b, c)))) (issueL L a (b, c).1 (b, c).2).2.2.2.2) ∧ True)) ∧ (@Eq Bool (BEq.beq (IntKind.wrap IntKind.u32 (@HAdd.hAdd Int Int Int _ L.2.1 (1:Int))) (0:Int)) false → ((True ∧ True ∧ True ∧ True ∧ True ∧ True ∧ True ∧ True ∧ True ∧ True ∧ True ∧ True ∧ True ∧ True ∧ True ∧ (@LE.le Int Int.instLEInt (0:Int) L.2.2.1 ∧ @LE.le Int Int.instLEInt (@HAdd.hAdd Int Int Int _ L.2.2.1 (1:Int)) (@Nat.cast Int _ (256:Nat))) ∧ @LT.lt Nat instLTNat (Int.toNat L.2.2.1) (List.length L.2.2.2) ∧ True) ∧ True ∧ True ∧ True ∧ True ∧ True ∧ True ∧ (@Eq Int (256:Int) (0:Int) → False) ∧ True ∧ True ∧ True ∧ True ∧ True ∧ True ∧ True ∧ True ∧ (True ∧ True) ∧ (True ∧ True ∧ True ∧ True ∧ True) ∧ (@Eq Int (IntKind.wrap IntKind.u32 (@HAdd.hAdd Int Int Int _ L.2.1 (1:Int))) (issueL L a (b, c).1 (b, c).2).1 ∧ True) ∧ ((@Eq Bool L.1 (issueL L a (b, c).1 (b, c).2).2.1 ∧ @Eq Int (IntKind.wrap IntKind.u32 (@HAdd.hAdd Int Int Int _ L.2.1 (1:Int))) (issueL L a (b, c).1 (b, c).2).2.2.1 ∧ @Eq Int (Int.tmod (IntKind.wrap IntKind.i64 (@HAdd.hAdd Int Int Int _ L.2.2.1 (1:Int))) (256:Int)) (issueL L a (b, c).1 (b, c).2).2.2.2.1 ∧ True) ∧ @Eq _ (List.set L.2.2.2 (Int.toNat L.2.2.1) ((IntKind.wrap IntKind.u32 (@HAdd.hAdd Int Int Int _ L.2.1 (1:Int))), (a, (b, c)))) (issueL L a (b, c).1 (b, c).2).2.2.2.2) ∧ True)))))) (by kernel_rfl) ?_
  simp only [true_and, and_true, decide_eq_true_eq, decide_eq_false_iff_not, forall_const, implies_true, and_self]
  obtain ⟨h1, h2, h3⟩ : LogOk L := hx
  have hmod : (IntKind.i64.wrap (L.2.2.1 + 1)).tmod 256 = (L.2.2.1 + 1) % 256 := by
    rw [wrap_in (by omega), Int.tmod_eq_emod_of_nonneg (by omega)]
  refine ⟨fun h => ?_, fun h => ?_⟩
  · have : L.1 = false ∨ a < 1 ∨ b < 0 ∨ c < 0 ∨ 62 < c := by
      simp at h
      rcases h with (((h | h) | h) | h) | h <;> simp [h]
    simp only [issueL, if_pos this]
    simp
  · have : ¬ (L.1 = false ∨ a < 1 ∨ b < 0 ∨ c < 0 ∨ 62 < c) := by
      simp at h
      rintro (g | g | g | g | g)
      · simp [g] at h
      all_goals omega
    simp only [issueL, if_neg this]
    refine ⟨fun h => ⟨⟨⟨h1, by omega⟩, by omega⟩, by decide, ?_⟩, fun h => ⟨⟨⟨h1, by omega⟩, by omega⟩, by decide, ?_⟩⟩
    · have h : IntKind.u32.wrap (L.2.1 + 1) = 0 := by simpa using h
      simp [h, hmod]
    · have h : ¬ IntKind.u32.wrap (L.2.1 + 1) = 0 := by simpa using h
      simp [h, hmod]
abbrev K24 : KCons := (19, fun Γc => gCon Γc g_Issue) :: K23
theorem HK24 : KS Try.prog K24 := ks_add (s_Issue) HK23
def findE (L : LogD) (s : Int) : Entry := if L.1 = false ∨ s = 0 then (0, 0, 0, 0) else (L.2.2.2.find? fun x => x.1 == s && x.2.1 != 0).getD (0, 0, 0, 0)
def g_Find : GC where
  X := LogD × Int
  rd := fun H ys => match ys with
    | [.ptr l 0, .int .u32 a] => (rdLog H l).map fun L => (L, a)
    | _ => none
  args := fun x => [.ptr 0 0, .int .u32 x.2]
  hp := fun x => [(0, logC x.1)]
  pre := fun x => LogOk x.1
  F := fun x => ⟨[(0, .tup [.agg (enc EntryT (findE x.1 x.2)), .bool (decide ((findE x.1 x.2).2.1 ≠ 0))])], [(0, logC x.1)], 1, [.ptr 0 0, .junk]⟩
theorem s_Find : KSound Try.prog 31 (fun Γc => gCon Γc g_Find) := by
  refine gsoundF (K := K24) (Γc := C14) (Γr := R0) (fun x => [(5, annP [.slot 21 I64, .cell 6 0 EntryT] (fun _ y => 0 ≤ y.1 ∧ y.1 ≤ 256 ∧ y.2.1 = (0, 0, 0, 0) ∧ ∀ j : Nat, (j : Int) < y.1 → ∀ e, x.1.2.2.2[j]? = some e → (e.1 == x.2 && e.2.1 != 0) = false) (fun y => (256 - y.1 : Int).toNat))]) hm HK24 HC14 HR0 Try.call31 Try.func31 (by kernel_rfl) (fun _ => by kernel_rfl) (fun _ => rfl) ?_
  rintro ⟨L, s⟩ hx
  refine Eq.mpr (β := (True ∧ True ∧ True ∧ (True ∧ (True ∧ True) ∧ ((@Eq Bool L.1 L.1 ∧ @Eq Int L.2.1 L.2.1 ∧ @Eq Int L.2.2.1 L.2.2.1 ∧ True) ∧ @Eq _ L.2.2.2 L.2.2.2) ∧ True) ∧ True ∧ True ∧ (@Eq Bool (not L.1) false → True) ∧ (@Eq Bool (not L.1) false → True) ∧ True ∧ (@Eq Bool (or (not L.1) (BEq.beq s (0:Int))) true → (True ∧ True ∧ True ∧ (True ∧ True ∧ True) ∧ (True ∧ True ∧ True) ∧ (((@Eq Int (0:Int) (findE L s).1 ∧ @Eq Int (0:Int) (findE L s).2.1 ∧ @Eq Int (0:Int) (findE L s).2.2.1 ∧ @Eq Int (0:Int) (findE L s).2.2.2 ∧ True) ∧ @Eq Bool false (decide (Ne (findE L s).2.1 (0:Int))) ∧ True) ∧ True) ∧ ((@Eq Bool L.1 L.1 ∧ @Eq Int L.2.1 L.2.1 ∧ @Eq Int L.2.2.1 L.2.2.1 ∧ True) ∧ @Eq _ L.2.2.2 L.2.2.2) ∧ True)) ∧ (@Eq Bool (or (not L.1) (BEq.beq s (0:Int))) false → (True ∧ True ∧ True ∧ True ∧ @Eq Nat (List.length L.2.2.2) (256:Nat) ∧ True ∧ (((True ∧ @Eq Int s s ∧ True) ∧ (@Eq Int (Int.ofNat 0) (Int.ofNat 0) ∧ @Eq _ L.2.2.2 L.2.2.2 ∧ @Eq Nat 0 0 ∧ True ∧ True ∧ True ∧ @Eq Bool (or (not L.1) (BEq.beq s (0:Int))) (or (not L.1) (BEq.beq s (0:Int))) ∧ @Eq Bool (not L.1) (not L.1) ∧ @Eq Bool (not L.1) (not L.1) ∧ @Eq Bool L.1 L.1 ∧ True ∧ @Eq Bool false false ∧ True ∧ True ∧ @Eq Int s s ∧ True) ∧ ((@Eq Bool L.1 L.1 ∧ @Eq Int L.2.1 L.2.1 ∧ @Eq Int L.2.2.1 L.2.2.1 ∧ True) ∧ @Eq _ L.2.2.2 L.2.2.2) ∧ (@Eq Int (Int.ofNat 0) (Int.ofNat 0) ∧ @Eq Int (Int.ofNat 0) (Int.ofNat 0) ∧ @Eq Int (Int.ofNat 0) (Int.ofNat 0) ∧ @Eq Int (Int.ofNat 0) (Int.ofNat 0) ∧ True) ∧ (@Eq Int (Int.ofNat 0) (Int.ofNat 0) ∧ @Eq Int (Int.ofNat 0) (Int.ofNat 0) ∧ @Eq Int (Int.ofNat 0) (Int.ofNat 0) ∧ @Eq Int (Int.ofNat 0) (Int.ofNat 0) ∧ True) ∧ True) ∧ @LE.le Int Int.instLEInt (0:Int) (0:Int) ∧ @LE.le Int Int.instLEInt (0:Int) (256:Int) ∧ @Eq _ ((0:Int), ((0:Int), ((0:Int), (0:Int)))) ((0:Int), ((0:Int), ((0:Int), (0:Int)))) ∧ (∀ (v0 : Nat), (@LE.le Int Int.instLEInt (@HAdd.hAdd Int Int Int _ (@Nat.cast Int _ v0) (1:Int)) (0:Int) → (∀ (v1 : (Prod Int (Prod Int (Prod Int Int)))), (@Eq _ (getElem? L.2.2.2 v0) (some v1) → @Eq Bool (and (BEq.beq v1.1 s) (bne v1.2.1 (0:Int))) false))))) ∧ (∀ (v0 : (Prod Int (Prod (Prod Int (Prod Int (Prod Int Int))) Unit))), ((@LE.le Int Int.instLEInt (0:Int) v0.1 ∧ @LE.le Int Int.instLEInt v0.1 (256:Int) ∧ @Eq _ v0.2.1 ((0:Int), ((0:Int), ((0:Int), (0:Int)))) ∧ (∀ (v1 : Nat), (@LE.le Int Int.instLEInt (@HAdd.hAdd Int Int Int _ (@Nat.cast Int _ v1) (1:Int)) v0.1 → (∀ (v2 : (Prod Int (Prod Int (Prod Int Int)))), (@Eq _ (getElem? L.2.2.2 v1) (some v2) → @Eq Bool (and (BEq.beq v2.1 s) (bne v2.2.1 (0:Int))) false))))) → (True ∧ (@Eq Bool (@decide (@LT.lt Int Int.instLTInt v0.1 (256:Int)) (Int.decLt v0.1 (256:Int))) true → ((@LE.le Int Int.instLEInt (0:Int) v0.1 ∧ @LE.le Int Int.instLEInt (@HAdd.hAdd Int Int Int _ v0.1 (1:Int)) (@Nat.cast Int _ (256:Nat)) ∧ @Eq Nat (List.length L.2.2.2) (256:Nat)) ∧ True ∧ True ∧ True ∧ True ∧ True ∧ True ∧ True ∧ (@Eq Bool (BEq.beq (@elemAt EntryT L.2.2.2 (Int.toNat v0.1)).1 s) true → True) ∧ (@Eq Bool (BEq.beq (@elemAt EntryT L.2.2.2 (Int.toNat v0.1)).1 s) true → True) ∧ (@Eq Bool (BEq.beq (@elemAt EntryT L.2.2.2 (Int.toNat v0.1)).1 s) true → True) ∧ True ∧ (@Eq Bool (and (BEq.beq (@elemAt EntryT L.2.2.2 (Int.toNat v0.1)).1 s) (bne (@elemAt EntryT L.2.2.2 (Int.toNat v0.1)).2.1 (0:Int))) true → (True ∧ True ∧ (True ∧ True ∧ True ∧ True ∧ True ∧ True ∧ True) ∧ (True ∧ True ∧ True) ∧ (True ∧ True ∧ True) ∧ (((@Eq Int (@elemAt EntryT L.2.2.2 (Int.toNat v0.1)).1 (findE L s).1 ∧ @Eq Int (@elemAt EntryT L.2.2.2 (Int.toNat v0.1)).2.1 (findE L s).2.1 ∧ @Eq Int (@elemAt EntryT L.2.2.2 (Int.toNat v0.1)).2.2.1 (findE L s).2.2.1 ∧ @Eq Int (@elemAt EntryT L.2.2.2 (Int.toNat v0.1)).2.2.2 (findE L s).2.2.2 ∧ True) ∧ @Eq Bool (bne (@elemAt EntryT L.2.2.2 (Int.toNat v0.1)).2.1 (0:Int)) (decide (Ne (findE L s).2.1 (0:Int))) ∧ True) ∧ True) ∧ ((@Eq Bool L.1 L.1 ∧ @Eq Int L.2.1 L.2.1 ∧ @Eq Int L.2.2.1 L.2.2.1 ∧ True) ∧ @Eq _ L.2.2.2 L.2.2.2) ∧ True)) ∧ (@Eq Bool (and (BEq.beq (@elemAt EntryT L.2.2.2 (Int.toNat v0.1)).1 s) (bne (@elemAt EntryT L.2.2.2 (Int.toNat v0.1)).2.1 (0:Int))) false → (True ∧ True ∧ ((True ∧ @Eq Int s s ∧ True) ∧ (@Eq Int (IntKind.wrap IntKind.i64 (@HAdd.hAdd Int Int Int _ v0.1 (1:Int))) (IntKind.wrap IntKind.i64 (@HAdd.hAdd Int Int Int _ v0.1 (1:Int))) ∧ @Eq _ L.2.2.2 L.2.2.2 ∧ @Eq Nat 0 0 ∧ True ∧ True ∧ True ∧ @Eq Bool (or (not L.1) (BEq.beq s (0:Int))) (or (not L.1) (BEq.beq s (0:Int))) ∧ @Eq Bool (not L.1) (not L.1) ∧ @Eq Bool (not L.1) (not L.1) ∧ @Eq Bool L.1 L.1 ∧ True ∧ @Eq Bool false false ∧ True ∧ True ∧ @Eq Int s s ∧ True) ∧ ((@Eq Bool L.1 L.1 ∧ @Eq Int L.2.1 L.2.1 ∧ @Eq Int L.2.2.1 L.2.2.1 ∧ True) ∧ @Eq _ L.2.2.2 L.2.2.2) ∧ (@Eq Int (Int.ofNat 0) (Int.ofNat 0) ∧ @Eq Int (Int.ofNat 0) (Int.ofNat 0) ∧ @Eq Int (Int.ofNat 0) (Int.ofNat 0) ∧ @Eq Int (Int.ofNat 0) (Int.ofNat 0) ∧ True) ∧ (@Eq Int v0.2.1.1 v0.2.1.1 ∧ @Eq Int v0.2.1.2.1 v0.2.1.2.1 ∧ @Eq Int v0.2.1.2.2.1 v0.2.1.2.2.1 ∧ @Eq Int v0.2.1.2.2.2 v0.2.1.2.2.2 ∧ True) ∧ True) ∧ (@LE.le Int Int.instLEInt (0:Int) (IntKind.wrap IntKind.i64 (@HAdd.hAdd Int Int Int _ v0.1 (1:Int))) ∧ @LE.le Int Int.instLEInt (IntKind.wrap IntKind.i64 (@HAdd.hAdd Int Int Int _ v0.1 (1:Int))) (256:Int) ∧ @Eq _ v0.2.1 ((0:Int), ((0:Int), ((0:Int), (0:Int)))) ∧ (∀ (v1 : Nat), (@LE.le Int Int.instLEInt (@HAdd.hAdd Int Int Int _ (@Nat.cast Int _ v1) (1:Int)) (IntKind.wrap IntKind.i64 (@HAdd.hAdd Int Int Int _ v0.1 (1:Int))) → (∀ (v2 : (Prod Int (Prod Int (Prod Int Int)))), (@Eq _ (getElem? L.2.2.2 v1) (some v2) → @Eq Bool (and (BEq.beq v2.1 s) (bne v2.2.1 (0:Int))) false))))) ∧ @LT.lt Nat instLTNat (Int.toNat (@HSub.hSub Int Int Int _ (256:Int) (IntKind.wrap IntKind.i64 (@HAdd.hAdd Int Int Int _ v0.1 (1:Int))))) (Int.toNat (@HSub.hSub Int Int Int _ (256:Int) v0.1)))))) ∧ (@Eq Bool (@decide (@LT.lt Int Int.instLTInt v0.1 (256:Int)) (Int.decLt v0.1 (256:Int))) false → ((True ∧ True ∧ True ∧ True ∧ True ∧ True ∧ True) ∧ (True ∧ True ∧ True) ∧ (True ∧ True ∧ True) ∧ (((@Eq Int v0.2.1.1 (findE L s).1 ∧ @Eq Int v0.2.1.2.1 (findE L s).2.1 ∧ @Eq Int v0.2.1.2.2.1 (findE L s).2.2.1 ∧ @Eq Int v0.2.1.2.2.2 (findE L s).2.2.2 ∧ True) ∧ @Eq Bool (bne v0.2.1.2.1 (0:Int)) (decide (Ne (findE L s).2.1 (0:Int))) ∧ True) ∧ True) ∧ ((@Eq Bool L.1 L.1 ∧ @Eq Int L.2.1 L.2.1 ∧ @Eq Int L.2.2.1 L.2.2.1 ∧ True) ∧ @Eq _ L.2.2.2 L.2.2.2) ∧ True))))))))) (by kernel_rfl) ?_
  simp only [true_and, and_true, decide_eq_true_eq, decide_eq_false_iff_not, forall_const, implies_true, and_self]
  obtain ⟨h1, h2, h3⟩ : LogOk L := hx
  refine ⟨fun h => ?_, fun h => ⟨h3, ⟨by omega, by omega, fun j hj => by omega⟩, ?_⟩⟩
  · have : L.1 = false ∨ s = 0 := by simpa using h
    simp [findE, this]
  have hn : ¬ (L.1 = false ∨ s = 0) := by
    simp at h
    rintro (g | g)
    · simp [g] at h
    · exact h.2 g
  rintro ⟨i, e0, _⟩ ⟨g1, g2, g3, g4⟩
  simp only at g1 g2 g3 g4 ⊢
  subst g3
  refine ⟨fun hi => ⟨⟨g1, by omega, h3⟩, fun hp => ?_, fun hp => ?_⟩, fun hi => ?_⟩
  · have hx := elemAt_get (t := EntryT) L.2.2.2 i.toNat (by omega)
    have hf : L.2.2.2.find? (fun x => x.1 == s && x.2.1 != 0) = some (elemAt (t := EntryT) L.2.2.2 i.toNat) := by
      rw [List.find?_eq_some_iff_getElem]
      refine ⟨hp, i.toNat, by omega, ?_, fun j hj => ?_⟩
      · have := (List.getElem?_eq_some_iff.1 hx).2; exact this
      · have := g4 j (by omega) (L.2.2.2[j]'(by omega)) (List.getElem?_eq_getElem _)
        simp [this]
    simp only [findE, if_neg hn, hf, Option.getD_some, and_self, true_and]
    generalize (elemAt (t := EntryT) L.2.2.2 i.toNat).2.1 = z
    by_cases hz : z = 0 <;> simp [hz]
  · rw [wrap_in (by omega)]
    refine ⟨⟨by omega, by omega, rfl, fun j hj e he => ?_⟩, by omega⟩
    by_cases hj2 : j = i.toNat
    · subst hj2
      rw [elemAt_get (t := EntryT) L.2.2.2 i.toNat (by omega)] at he
      injection he with he
      subst he
      exact hp
    · exact g4 j (by omega) e he
  · have hf : L.2.2.2.find? (fun x => x.1 == s && x.2.1 != 0) = none := by
      rw [List.find?_eq_none]
      intro e he
      obtain ⟨j, hj, rfl⟩ := List.getElem_of_mem he
      have := g4 j (by omega) _ (List.getElem?_eq_getElem hj)
      simp [this]
    simp [findE, hn, hf]
abbrev K25 : KCons := (31, fun Γc => gCon Γc g_Find) :: K24
theorem HK25 : KS Try.prog K25 := ks_add (s_Find) HK24
def checkL (L : LogD) (s client kinds : Int) : Int := if L.1 = false then 1 else if (findE L s).2.1 ≠ 0 ∧ matchE (findE L s) client kinds = true then 0 else 13
def g_Check : GC where
  X := LogD × Int × Int × Int
  rd := fun H ys => match ys with
    | [.ptr l 0, .int .u32 a, .int .i64 b, .int .i64 c] => (rdLog H l).map fun L => (L, a, b, c)
    | _ => none
  args := fun x => [.ptr 0 0, .int .u32 x.2.1, .int .i64 x.2.2.1, .int .i64 x.2.2.2]
  hp := fun x => [(0, logC x.1)]
  pre := fun x => LogOk x.1
  F := fun x => ⟨[(0, .int .i64 (checkL x.1 x.2.1 x.2.2.1 x.2.2.2))], [(0, logC x.1)], 1, [.ptr 0 0, .junk, .junk, .junk]⟩
theorem s_Check : KSound Try.prog 22 (fun Γc => gCon Γc g_Check) := by
  refine gsoundF (K := K25) (Γc := C14) (Γr := R0) (fun _ => []) hm HK25 HC14 HR0 Try.call22 Try.func22 (by kernel_rfl) (fun _ => by kernel_rfl) (fun _ => rfl) ?_
  rintro ⟨L, s, b, c⟩ hx
  refine Eq.mpr (β := (True ∧ True ∧ (True ∧ (True ∧ True) ∧ ((@Eq Bool L.1 L.1 ∧ @Eq Int L.2.1 L.2.1 ∧ @Eq Int L.2.2.1 L.2.2.1 ∧ True) ∧ @Eq _ L.2.2.2 L.2.2.2) ∧ True) ∧ True ∧ (@Eq Bool (not L.1) true → (True ∧ (True ∧ True) ∧ (True ∧ True ∧ True ∧ True ∧ True) ∧ (@Eq Int (1:Int) (checkL L s (b, c).1 (b, c).2) ∧ True) ∧ ((@Eq Bool L.1 L.1 ∧ @Eq Int L.2.1 L.2.1 ∧ @Eq Int L.2.2.1 L.2.2.1 ∧ True) ∧ @Eq _ L.2.2.2 L.2.2.2) ∧ True)) ∧ (@Eq Bool (not L.1) false → (True ∧ True ∧ ((@LE.le Int Int.instLEInt (0:Int) L.2.2.1 ∧ @LE.le Int Int.instLEInt (@HAdd.hAdd Int Int Int _ L.2.2.1 (1:Int)) (256:Int) ∧ @Eq Nat (List.length L.2.2.2) (256:Nat)) ∧ (True ∧ @Eq Int s s ∧ True) ∧ ((@Eq Bool L.1 L.1 ∧ @Eq Int L.2.1 L.2.1 ∧ @Eq Int L.2.2.1 L.2.2.1 ∧ True) ∧ @Eq _ L.2.2.2 L.2.2.2) ∧ True) ∧ True ∧ True ∧ True ∧ True ∧ True ∧ True ∧ True ∧ True ∧ True ∧ (@Eq Bool (not (decide (Ne (findE L s).2.1 (0:Int)))) false → True) ∧ (@Eq Bool (not (decide (Ne (findE L s).2.1 (0:Int)))) false → True) ∧ (@Eq Bool (not (decide (Ne (findE L s).2.1 (0:Int)))) false → True) ∧ (@Eq Bool (not (decide (Ne (findE L s).2.1 (0:Int)))) false → True) ∧ (@Eq Bool (not (decide (Ne (findE L s).2.1 (0:Int)))) false → True) ∧ True ∧ (@Eq Bool (or (not (decide (Ne (findE L s).2.1 (0:Int)))) (not (matchE (findE L s) b c))) true → (True ∧ (True ∧ True) ∧ (True ∧ True ∧ True ∧ True ∧ True) ∧ (@Eq Int (13:Int) (checkL L s (b, c).1 (b, c).2) ∧ True) ∧ ((@Eq Bool L.1 L.1 ∧ @Eq Int L.2.1 L.2.1 ∧ @Eq Int L.2.2.1 L.2.2.1 ∧ True) ∧ @Eq _ L.2.2.2 L.2.2.2) ∧ True)) ∧ (@Eq Bool (or (not (decide (Ne (findE L s).2.1 (0:Int)))) (not (matchE (findE L s) b c))) false → (True ∧ (True ∧ True) ∧ (True ∧ True ∧ True ∧ True ∧ True) ∧ (@Eq Int (0:Int) (checkL L s (b, c).1 (b, c).2) ∧ True) ∧ ((@Eq Bool L.1 L.1 ∧ @Eq Int L.2.1 L.2.1 ∧ @Eq Int L.2.2.1 L.2.2.1 ∧ True) ∧ @Eq _ L.2.2.2 L.2.2.2) ∧ True)))))) (by kernel_rfl) ?_
  simp only [true_and, and_true, decide_eq_true_eq, decide_eq_false_iff_not, forall_const, implies_true, and_self]
  obtain ⟨h1, h2, h3⟩ : LogOk L := hx
  refine ⟨fun h => ?_, fun h => ⟨⟨h1, by omega, h3⟩, fun g => ?_, fun g => ?_⟩⟩
  · have h : L.1 = false := by simpa using h
    simp [checkL, h]
  · have h : ¬ L.1 = false := by simpa using h
    have : ¬ ((findE L s).2.1 ≠ 0 ∧ matchE (findE L s) b c = true) := by
      rintro ⟨k1, k2⟩
      simp [k1, k2] at g
    simp only [checkL, if_neg h, if_neg this]
  · have h : ¬ L.1 = false := by simpa using h
    have : (findE L s).2.1 ≠ 0 ∧ matchE (findE L s) b c = true := by
      simp only [Bool.or_eq_false_iff, Bool.not_eq_false', decide_eq_true_eq] at g
      exact g
    simp only [checkL, if_neg h, if_pos this]
abbrev K26 : KCons := (22, fun Γc => gCon Γc g_Check) :: K25
theorem HK26 : KS Try.prog K26 := ks_add (s_Check) HK25
end Go.Proofs.Ytijmbmncdchjkaa
