/-
  A part of the proof: what some of the program's functions compute.
-/
import Derived.Test.YtgjfofeaakdihaaGreatVB
namespace Go.Proofs.YtgjfofeaakdihaaGreat
open Go Go.E Go.Proofs
set_option linter.unusedVariables false
set_option linter.unusedSimpArgs false
abbrev PtT : Ty := .prod I64 (.prod I64 (.prod I64 (.prod I64 I64)))
abbrev Pt := Int × Int × Int × Int × Int
/-! math/bits: whatever it returns -/
def c_len32 : PCon := pcon [.d (.int .u32)] fun x => (True, .junk)
theorem u8_range (n : Int) : 0 ≤ IntKind.u8.wrap n ∧ IntKind.u8.wrap n < 256 := by
  rw [IntKind.wrap]; simp only [IntKind.signed]
  have e : (2 : Int) ^ IntKind.u8.bits = 256 := by decide
  have h1 := Int.emod_nonneg n (b := 256) (by decide)
  have h2 := Int.emod_lt_of_pos n (b := 256) (by decide)
  simp only [e, Bool.false_and, Bool.false_eq_true, if_false]
  omega
theorem s_len64 : PSound Tryz.prog 67 (pcon [.d (.int .u64)] fun x => (True, .junk)) := by
  refine psoundF (K := K24) (Γc := C15) (Γr := R0) (fun _ => []) hm HK24 HC15 HR0 Tryz.call67 Tryz.func67 (by kernel_rfl) ?_
  rintro ⟨n, _⟩ _
  refine Eq.mpr (β := (True ∧ (True ∧ (True ∧ (((@Eq Bool (@decide (@GE.ge Int Int.instLEInt n (4294967296:Int)) (Int.decLe (4294967296:Int) n)) true) → (True ∧ ((@LE.le Int Int.instLEInt (0:Int) (32:Int)) ∧ (True ∧ (True ∧ (True ∧ (True ∧ (((@Eq Bool (@decide (@GE.ge Int Int.instLEInt (Int.fdiv n (HPow.hPow (2:Int) (32:Nat))) (65536:Int)) (Int.decLe (65536:Int) (Int.fdiv n (HPow.hPow (2:Int) (32:Nat))))) true) → (True ∧ ((@LE.le Int Int.instLEInt (0:Int) (16:Int)) ∧ (True ∧ (True ∧ (True ∧ (True ∧ (True ∧ (True ∧ (((@Eq Bool (@decide (@GE.ge Int Int.instLEInt (Int.fdiv (Int.fdiv n (HPow.hPow (2:Int) (32:Nat))) (HPow.hPow (2:Int) (16:Nat))) (256:Int)) (Int.decLe (256:Int) (Int.fdiv (Int.fdiv n (HPow.hPow (2:Int) (32:Nat))) (HPow.hPow (2:Int) (16:Nat))))) true) → (True ∧ ((@LE.le Int Int.instLEInt (0:Int) (8:Int)) ∧ (True ∧ (True ∧ (True ∧ (True ∧ (True ∧ (True ∧ (True ∧ (((@LE.le Int Int.instLEInt (0:Int) (IntKind.wrap IntKind.u8 (Int.fdiv (Int.fdiv (Int.fdiv n (HPow.hPow (2:Int) (32:Nat))) (HPow.hPow (2:Int) (16:Nat))) (HPow.hPow (2:Int) (8:Nat))))) ∧ (@LE.le Int Int.instLEInt (@HAdd.hAdd Int Int Int _ (IntKind.wrap IntKind.u8 (Int.fdiv (Int.fdiv (Int.fdiv n (HPow.hPow (2:Int) (32:Nat))) (HPow.hPow (2:Int) (16:Nat))) (HPow.hPow (2:Int) (8:Nat)))) (1:Int)) (@Nat.cast Int _ (256:Nat)))) ∧ (True ∧ (True ∧ (True ∧ ((True ∧ True) ∧ True))))))))))))))) ∧ ((@Eq Bool (@decide (@GE.ge Int Int.instLEInt (Int.fdiv (Int.fdiv n (HPow.hPow (2:Int) (32:Nat))) (HPow.hPow (2:Int) (16:Nat))) (256:Int)) (Int.decLe (256:Int) (Int.fdiv (Int.fdiv n (HPow.hPow (2:Int) (32:Nat))) (HPow.hPow (2:Int) (16:Nat))))) false) → (True ∧ (True ∧ (True ∧ (((@LE.le Int Int.instLEInt (0:Int) (IntKind.wrap IntKind.u8 (Int.fdiv (Int.fdiv n (HPow.hPow (2:Int) (32:Nat))) (HPow.hPow (2:Int) (16:Nat))))) ∧ (@LE.le Int Int.instLEInt (@HAdd.hAdd Int Int Int _ (IntKind.wrap IntKind.u8 (Int.fdiv (Int.fdiv n (HPow.hPow (2:Int) (32:Nat))) (HPow.hPow (2:Int) (16:Nat)))) (1:Int)) (@Nat.cast Int _ (256:Nat)))) ∧ (True ∧ (True ∧ (True ∧ ((True ∧ True) ∧ True))))))))))))))))))) ∧ ((@Eq Bool (@decide (@GE.ge Int Int.instLEInt (Int.fdiv n (HPow.hPow (2:Int) (32:Nat))) (65536:Int)) (Int.decLe (65536:Int) (Int.fdiv n (HPow.hPow (2:Int) (32:Nat))))) false) → (True ∧ (True ∧ (((@Eq Bool (@decide (@GE.ge Int Int.instLEInt (Int.fdiv n (HPow.hPow (2:Int) (32:Nat))) (256:Int)) (Int.decLe (256:Int) (Int.fdiv n (HPow.hPow (2:Int) (32:Nat))))) true) → (True ∧ ((@LE.le Int Int.instLEInt (0:Int) (8:Int)) ∧ (True ∧ (True ∧ (True ∧ (True ∧ (True ∧ (True ∧ (True ∧ (((@LE.le Int Int.instLEInt (0:Int) (IntKind.wrap IntKind.u8 (Int.fdiv (Int.fdiv n (HPow.hPow (2:Int) (32:Nat))) (HPow.hPow (2:Int) (8:Nat))))) ∧ (@LE.le Int Int.instLEInt (@HAdd.hAdd Int Int Int _ (IntKind.wrap IntKind.u8 (Int.fdiv (Int.fdiv n (HPow.hPow (2:Int) (32:Nat))) (HPow.hPow (2:Int) (8:Nat)))) (1:Int)) (@Nat.cast Int _ (256:Nat)))) ∧ (True ∧ (True ∧ (True ∧ ((True ∧ True) ∧ True))))))))))))))) ∧ ((@Eq Bool (@decide (@GE.ge Int Int.instLEInt (Int.fdiv n (HPow.hPow (2:Int) (32:Nat))) (256:Int)) (Int.decLe (256:Int) (Int.fdiv n (HPow.hPow (2:Int) (32:Nat))))) false) → (True ∧ (True ∧ (True ∧ (((@LE.le Int Int.instLEInt (0:Int) (IntKind.wrap IntKind.u8 (Int.fdiv n (HPow.hPow (2:Int) (32:Nat))))) ∧ (@LE.le Int Int.instLEInt (@HAdd.hAdd Int Int Int _ (IntKind.wrap IntKind.u8 (Int.fdiv n (HPow.hPow (2:Int) (32:Nat)))) (1:Int)) (@Nat.cast Int _ (256:Nat)))) ∧ (True ∧ (True ∧ (True ∧ ((True ∧ True) ∧ True))))))))))))))))))))) ∧ ((@Eq Bool (@decide (@GE.ge Int Int.instLEInt n (4294967296:Int)) (Int.decLe (4294967296:Int) n)) false) → (True ∧ (True ∧ (((@Eq Bool (@decide (@GE.ge Int Int.instLEInt n (65536:Int)) (Int.decLe (65536:Int) n)) true) → (True ∧ ((@LE.le Int Int.instLEInt (0:Int) (16:Int)) ∧ (True ∧ (True ∧ (True ∧ (True ∧ (True ∧ (True ∧ (((@Eq Bool (@decide (@GE.ge Int Int.instLEInt (Int.fdiv n (HPow.hPow (2:Int) (16:Nat))) (256:Int)) (Int.decLe (256:Int) (Int.fdiv n (HPow.hPow (2:Int) (16:Nat))))) true) → (True ∧ ((@LE.le Int Int.instLEInt (0:Int) (8:Int)) ∧ (True ∧ (True ∧ (True ∧ (True ∧ (True ∧ (True ∧ (True ∧ (((@LE.le Int Int.instLEInt (0:Int) (IntKind.wrap IntKind.u8 (Int.fdiv (Int.fdiv n (HPow.hPow (2:Int) (16:Nat))) (HPow.hPow (2:Int) (8:Nat))))) ∧ (@LE.le Int Int.instLEInt (@HAdd.hAdd Int Int Int _ (IntKind.wrap IntKind.u8 (Int.fdiv (Int.fdiv n (HPow.hPow (2:Int) (16:Nat))) (HPow.hPow (2:Int) (8:Nat)))) (1:Int)) (@Nat.cast Int _ (256:Nat)))) ∧ (True ∧ (True ∧ (True ∧ ((True ∧ True) ∧ True))))))))))))))) ∧ ((@Eq Bool (@decide (@GE.ge Int Int.instLEInt (Int.fdiv n (HPow.hPow (2:Int) (16:Nat))) (256:Int)) (Int.decLe (256:Int) (Int.fdiv n (HPow.hPow (2:Int) (16:Nat))))) false) → (True ∧ (True ∧ (True ∧ (((@LE.le Int Int.instLEInt (0:Int) (IntKind.wrap IntKind.u8 (Int.fdiv n (HPow.hPow (2:Int) (16:Nat))))) ∧ (@LE.le Int Int.instLEInt (@HAdd.hAdd Int Int Int _ (IntKind.wrap IntKind.u8 (Int.fdiv n (HPow.hPow (2:Int) (16:Nat)))) (1:Int)) (@Nat.cast Int _ (256:Nat)))) ∧ (True ∧ (True ∧ (True ∧ ((True ∧ True) ∧ True))))))))))))))))))) ∧ ((@Eq Bool (@decide (@GE.ge Int Int.instLEInt n (65536:Int)) (Int.decLe (65536:Int) n)) false) → (True ∧ (True ∧ (((@Eq Bool (@decide (@GE.ge Int Int.instLEInt n (256:Int)) (Int.decLe (256:Int) n)) true) → (True ∧ ((@LE.le Int Int.instLEInt (0:Int) (8:Int)) ∧ (True ∧ (True ∧ (True ∧ (True ∧ (True ∧ (True ∧ (True ∧ (((@LE.le Int Int.instLEInt (0:Int) (IntKind.wrap IntKind.u8 (Int.fdiv n (HPow.hPow (2:Int) (8:Nat))))) ∧ (@LE.le Int Int.instLEInt (@HAdd.hAdd Int Int Int _ (IntKind.wrap IntKind.u8 (Int.fdiv n (HPow.hPow (2:Int) (8:Nat)))) (1:Int)) (@Nat.cast Int _ (256:Nat)))) ∧ (True ∧ (True ∧ (True ∧ ((True ∧ True) ∧ True))))))))))))))) ∧ ((@Eq Bool (@decide (@GE.ge Int Int.instLEInt n (256:Int)) (Int.decLe (256:Int) n)) false) → (True ∧ (True ∧ (True ∧ (((@LE.le Int Int.instLEInt (0:Int) (IntKind.wrap IntKind.u8 n)) ∧ (@LE.le Int Int.instLEInt (@HAdd.hAdd Int Int Int _ (IntKind.wrap IntKind.u8 n) (1:Int)) (@Nat.cast Int _ (256:Nat)))) ∧ (True ∧ (True ∧ (True ∧ ((True ∧ True) ∧ True)))))))))))))))))))))) (by kernel_rfl) ?_
  simp only [true_and, and_true, decide_eq_true_eq, decide_eq_false_iff_not, forall_const, implies_true, and_self]
  have hu : ∀ n : Int, 0 ≤ IntKind.u8.wrap n ∧ IntKind.u8.wrap n + 1 ≤ 256 := fun n => by have := u8_range n; omega
  simp [hu]
abbrev K25 : KCons := (67, fun Γc => pure_ Γc ((pcon [.d (.int .u64)] fun x => (True, .junk)))) :: K24
theorem HK25 : KS Tryz.prog K25 := ks_add (ksound_pure (s_len64)) HK24
theorem s_len32 : PSound Tryz.prog 66 (pcon [.d (.int .u32)] fun x => (True, .junk)) := by
  refine psoundF (K := K25) (Γc := C15) (Γr := R0) (fun _ => []) hm HK25 HC15 HR0 Tryz.call66 Tryz.func66 (by kernel_rfl) ?_
  rintro ⟨n, _⟩ _
  refine Eq.mpr (β := (True ∧ (True ∧ (True ∧ (((@Eq Bool (@decide (@GE.ge Int Int.instLEInt n (65536:Int)) (Int.decLe (65536:Int) n)) true) → (True ∧ ((@LE.le Int Int.instLEInt (0:Int) (16:Int)) ∧ (True ∧ (True ∧ (True ∧ (True ∧ (((@Eq Bool (@decide (@GE.ge Int Int.instLEInt (Int.fdiv n (HPow.hPow (2:Int) (16:Nat))) (256:Int)) (Int.decLe (256:Int) (Int.fdiv n (HPow.hPow (2:Int) (16:Nat))))) true) → (True ∧ ((@LE.le Int Int.instLEInt (0:Int) (8:Int)) ∧ (True ∧ (True ∧ (True ∧ (True ∧ (True ∧ (True ∧ (True ∧ (((@LE.le Int Int.instLEInt (0:Int) (IntKind.wrap IntKind.u8 (Int.fdiv (Int.fdiv n (HPow.hPow (2:Int) (16:Nat))) (HPow.hPow (2:Int) (8:Nat))))) ∧ (@LE.le Int Int.instLEInt (@HAdd.hAdd Int Int Int _ (IntKind.wrap IntKind.u8 (Int.fdiv (Int.fdiv n (HPow.hPow (2:Int) (16:Nat))) (HPow.hPow (2:Int) (8:Nat)))) (1:Int)) (@Nat.cast Int _ (256:Nat)))) ∧ (True ∧ (True ∧ (True ∧ ((True ∧ True) ∧ True))))))))))))))) ∧ ((@Eq Bool (@decide (@GE.ge Int Int.instLEInt (Int.fdiv n (HPow.hPow (2:Int) (16:Nat))) (256:Int)) (Int.decLe (256:Int) (Int.fdiv n (HPow.hPow (2:Int) (16:Nat))))) false) → (True ∧ (True ∧ (True ∧ (((@LE.le Int Int.instLEInt (0:Int) (IntKind.wrap IntKind.u8 (Int.fdiv n (HPow.hPow (2:Int) (16:Nat))))) ∧ (@LE.le Int Int.instLEInt (@HAdd.hAdd Int Int Int _ (IntKind.wrap IntKind.u8 (Int.fdiv n (HPow.hPow (2:Int) (16:Nat)))) (1:Int)) (@Nat.cast Int _ (256:Nat)))) ∧ (True ∧ (True ∧ (True ∧ ((True ∧ True) ∧ True))))))))))))))))) ∧ ((@Eq Bool (@decide (@GE.ge Int Int.instLEInt n (65536:Int)) (Int.decLe (65536:Int) n)) false) → (True ∧ (True ∧ (((@Eq Bool (@decide (@GE.ge Int Int.instLEInt n (256:Int)) (Int.decLe (256:Int) n)) true) → (True ∧ ((@LE.le Int Int.instLEInt (0:Int) (8:Int)) ∧ (True ∧ (True ∧ (True ∧ (True ∧ (True ∧ (True ∧ (True ∧ (((@LE.le Int Int.instLEInt (0:Int) (IntKind.wrap IntKind.u8 (Int.fdiv n (HPow.hPow (2:Int) (8:Nat))))) ∧ (@LE.le Int Int.instLEInt (@HAdd.hAdd Int Int Int _ (IntKind.wrap IntKind.u8 (Int.fdiv n (HPow.hPow (2:Int) (8:Nat)))) (1:Int)) (@Nat.cast Int _ (256:Nat)))) ∧ (True ∧ (True ∧ (True ∧ ((True ∧ True) ∧ True))))))))))))))) ∧ ((@Eq Bool (@decide (@GE.ge Int Int.instLEInt n (256:Int)) (Int.decLe (256:Int) n)) false) → (True ∧ (True ∧ (True ∧ (((@LE.le Int Int.instLEInt (0:Int) (IntKind.wrap IntKind.u8 n)) ∧ (@LE.le Int Int.instLEInt (@HAdd.hAdd Int Int Int _ (IntKind.wrap IntKind.u8 n) (1:Int)) (@Nat.cast Int _ (256:Nat)))) ∧ (True ∧ (True ∧ (True ∧ ((True ∧ True) ∧ True)))))))))))))))))) (by kernel_rfl) ?_
  simp only [true_and, and_true, decide_eq_true_eq, decide_eq_false_iff_not, forall_const, implies_true, and_self]
  have hu : ∀ n : Int, 0 ≤ IntKind.u8.wrap n ∧ IntKind.u8.wrap n + 1 ≤ 256 := fun n => by have := u8_range n; omega
  simp [hu]
abbrev K26 : KCons := (66, fun Γc => pure_ Γc ((pcon [.d (.int .u32)] fun x => (True, .junk)))) :: K25
theorem HK26 : KS Tryz.prog K26 := ks_add (ksound_pure (s_len32)) HK25
theorem s_len : PSound Tryz.prog 50 (pcon [.d (.int .u64)] fun x => (True, .junk)) := by
  refine psoundF (K := K26) (Γc := C15) (Γr := R0) (fun _ => []) hm HK26 HC15 HR0 Tryz.call50 Tryz.func50 (by kernel_rfl) ?_
  rintro ⟨n, _⟩ _
  refine Eq.mpr (β := (True ∧ (((@Eq Bool false true) → (True ∧ (True ∧ (True ∧ (True ∧ ((True ∧ True) ∧ True)))))) ∧ ((@Eq Bool false false) → (True ∧ (True ∧ (True ∧ ((True ∧ True) ∧ True)))))))) (by kernel_rfl) ?_
  simp only [true_and, and_true, decide_eq_true_eq, decide_eq_false_iff_not, forall_const, implies_true, and_self]
abbrev K27 : KCons := (50, fun Γc => pure_ Γc ((pcon [.d (.int .u64)] fun x => (True, .junk)))) :: K26
theorem HK27 : KS Tryz.prog K27 := ks_add (ksound_pure (s_len)) HK26
/-! sorting few -/
def insRev {α : Type} (g : α → α → Int) (x : α) : List α → List α
  | [] => [x]
  | e :: r => if g x e < 0 then e :: insRev g x r else x :: e :: r
def isortRev {α : Type} (g : α → α → Int) (xs : List α) : List α := xs.foldl (fun acc x => insRev g x acc) []
def isort {α : Type} (g : α → α → Int) (xs : List α) : List α := (isortRev g xs).reverse
theorem insRev_length {α : Type} (g : α → α → Int) (x : α) : ∀ l, (insRev g x l).length = l.length + 1
  | [] => rfl
  | e :: r => by unfold insRev; split <;> simp [insRev_length g x r]
theorem isortRev_length {α : Type} (g : α → α → Int) (xs : List α) : (isortRev g xs).length = xs.length := by
  have : ∀ (xs acc : List α), (xs.foldl (fun acc x => insRev g x acc) acc).length = acc.length + xs.length := by
    intro xs
    induction xs with
    | nil => intro acc; rfl
    | cons x r ih => intro acc; rw [List.foldl_cons, ih, insRev_length, List.length_cons]; omega
  simpa [isortRev] using this xs []
theorem isortRev_snoc {α : Type} (g : α → α → Int) (xs : List α) (x : α) : isortRev g (xs ++ [x]) = insRev g x (isortRev g xs) := by simp [isortRev]
structure InsAt {α : Type} (g : α → α → Int) (xs : List α) (i j : Int) (row : List α) : Prop where
  i0 : 0 ≤ i
  i1 : i < xs.length
  j0 : 0 ≤ j
  u : ∃ (u v : List α) (x : α), row = u ++ x :: (v ++ xs.drop (i.toNat + 1)) ∧ j = u.length ∧ xs[i.toNat]? = some x ∧ u.length + v.length = i.toNat ∧ v.reverse ++ insRev g x u.reverse = isortRev g (xs.take (i.toNat + 1))
def cmp2 {t : Ty} (g : Ts [t, t] → Int) (a b : t.T) : Int := g (a, b, ())
def g_isort (t : Ty) : GC where
  X := List t.T × (Ts [t, t] → Int)
  rd := fun _ _ => none
  args := fun x => [.sl 0, .int .i64 0, .int .i64 x.1.length, .pfn [t, t] I64 x.2]
  hp := fun x => [(0, .row t x.1)]
  pre := fun x => x.1.length ≤ 1000000
  F := fun x => ⟨[(0, .tup [])], [(0, .row t (isort (cmp2 x.2) x.1))], 1, [.sl 0, .junk, .junk, .junk]⟩
def castF (ts : List Ty) (r : Ty) : AV → Option (Ts ts → r.T)
  | .pfn ts' r' g => if h : ts' = ts ∧ r' = r then some (h.1 ▸ h.2 ▸ g) else none
  | _ => none
def r_isort (t : Ty) (Γc : Clos) (H : Heap) : List AV → Option (List t.T × (Ts [t, t] → Int))
  | [.sl l, _, _, f] => match rdR ⟨[], H, 0, []⟩ l t, castF [t, t] I64 (closAV H Γc f) with
    | some xs, some g => some (xs, g)
    | _, _ => none
  | _ => none
theorem ins_start {α : Type} {g : α → α → Int} {xs : List α} {i : Int} (h0 : 0 ≤ i) (h1 : i < xs.length) : InsAt g xs i i ((isortRev g (xs.take i.toNat)).reverse ++ xs.drop i.toNat) := by
  have hlt : i.toNat < xs.length := by omega
  refine ⟨h0, h1, h0, (isortRev g (xs.take i.toNat)).reverse, [], xs[i.toNat], ?_, ?_, List.getElem?_eq_getElem hlt, ?_, ?_⟩
  · rw [List.drop_eq_getElem_cons hlt]; simp
  · rw [List.length_reverse, isortRev_length, List.length_take]; omega
  · rw [List.length_reverse, isortRev_length, List.length_take]; simp; omega
  · rw [List.take_succ_eq_append_getElem hlt, isortRev_snoc]; simp
theorem ins_at {α : Type} (u v : List α) (x : α) : (u ++ x :: v)[u.length]? = some x := by simp
theorem ins_step {t : Ty} {g : t.T → t.T → Int} {xs row : List t.T} {i j : Int} (h : InsAt g xs i j row) (hj : 0 < j) (hc : g (elemAt row j.toNat) (elemAt row (j - 1).toNat) < 0) :
    j + 1 ≤ row.length ∧ InsAt g xs i (j - 1) ((row.set j.toNat (elemAt row (j - 1).toNat)).set (j - 1).toNat (elemAt row j.toNat)) := by
  obtain ⟨h0, h1, h2, u, v, x, hr, hju, hx, hl, hs⟩ := h
  obtain ⟨u', e, rfl⟩ : ∃ u' e, u = u' ++ [e] := by
    rcases List.eq_nil_or_concat u with hu | ⟨u', e, hu⟩
    · subst hu; simp at hju; omega
    · exact ⟨u', e, by simpa using hu⟩
  have hjn : j.toNat = u'.length + 1 := by simp at hju; omega
  have hjm : (j - 1).toNat = u'.length := by omega
  have e1 : elemAt row j.toNat = x := by
    unfold elemAt
    rw [hr, hjn, List.getD_eq_getElem?_getD]
    simp
  have e2 : elemAt row (j - 1).toNat = e := by
    unfold elemAt
    rw [hr, hjm, List.getD_eq_getElem?_getD]
    simp
  rw [e1, e2] at hc ⊢
  refine ⟨by rw [hr]; simp; omega, h0, h1, by omega, u', e :: v, x, ?_, by omega, hx, by simp at hl ⊢; omega, ?_⟩
  · rw [hr, hjn, hjm]
    simp only [List.append_assoc, List.cons_append, List.nil_append]
    rw [List.set_append_right _ _ (by omega)]
    simp only [Nat.add_sub_cancel_left, List.set_cons_succ, List.set_cons_zero]
    rw [List.set_append_right _ _ (by omega)]
    simp
  · rw [← hs]
    simp only [List.reverse_cons, List.reverse_append, List.reverse_nil, List.nil_append, List.singleton_append, List.append_assoc, insRev, if_pos hc, List.cons_append]
theorem ins_len {t : Ty} {g : t.T → t.T → Int} {xs row : List t.T} {i j : Int} (h : InsAt g xs i j row) : j + 1 ≤ row.length := by
  obtain ⟨h0, h1, h2, u, v, x, hr, hju, hx, hl, hs⟩ := h
  rw [hr]; simp; omega
theorem ins_stop {t : Ty} {g : t.T → t.T → Int} {xs row : List t.T} {i j : Int} (h : InsAt g xs i j row) (hc : 0 < j → ¬ g (elemAt row j.toNat) (elemAt row (j - 1).toNat) < 0) :
    row = (isortRev g (xs.take (i + 1).toNat)).reverse ++ xs.drop (i + 1).toNat := by
  obtain ⟨h0, h1, h2, u, v, x, hr, hju, hx, hl, hs⟩ := h
  have hi : (i + 1).toNat = i.toNat + 1 := by omega
  rw [hi, ← hs]
  rcases List.eq_nil_or_concat u with hu | ⟨u', e, hu⟩
  · subst hu
    rw [hr]
    simp [insRev]
  · have hu : u = u' ++ [e] := by simpa using hu
    subst hu
    have hjn : j.toNat = u'.length + 1 := by simp at hju; omega
    have hjm : (j - 1).toNat = u'.length := by omega
    have e1 : elemAt row j.toNat = x := by
      unfold elemAt
      rw [hr, hjn, List.getD_eq_getElem?_getD]
      simp
    have e2 : elemAt row (j - 1).toNat = e := by
      unfold elemAt
      rw [hr, hjm, List.getD_eq_getElem?_getD]
      simp
    have := hc (by simp at hju; omega)
    rw [e1, e2] at this
    rw [hr]
    simp [insRev, this]
theorem isort_go {t : Ty} {xs : List t.T} {g : Ts [t, t] → Int} (hlen : xs.length ≤ 1000000) :
    (1 ≤ IntKind.i64.wrap (0 + 1) ∧ (IntKind.i64.wrap (0 + 1) ≤ ↑xs.length ∨ IntKind.i64.wrap (0 + 1) = 1) ∧
        xs = (isortRev (cmp2 g) (List.take (IntKind.i64.wrap (0 + 1)).toNat xs)).reverse ++ List.drop (IntKind.i64.wrap (0 + 1)).toNat xs) ∧
    ∀ (x : Int × List t.T × PUnit), 1 ≤ x.fst ∧ (x.fst ≤ ↑xs.length ∨ x.fst = 1) ∧ x.snd.fst = (isortRev (cmp2 g) (List.take (Int.toNat x.fst) xs)).reverse ++ List.drop (Int.toNat x.fst) xs →
        (x.fst < ↑xs.length → InsAt (cmp2 g) xs x.fst x.fst x.snd.fst ∧
              ∀ (y : Int × Int × List t.T × PUnit), y.fst = x.fst ∧ InsAt (cmp2 g) xs y.fst y.snd.fst y.snd.snd.fst →
                  ((y.snd.fst > 0 → 0 ≤ y.snd.fst ∧ y.snd.fst + 1 ≤ ↑(List.length y.snd.snd.fst)) ∧
                      (y.snd.fst > 0 → Int.toNat y.snd.fst < List.length y.snd.snd.fst) ∧
                        (y.snd.fst > 0 → 0 ≤ IntKind.i64.wrap (y.snd.fst - 1) ∧ IntKind.i64.wrap (y.snd.fst - 1) + 1 ≤ ↑(List.length y.snd.snd.fst)) ∧
                          (y.snd.fst > 0 → (IntKind.i64.wrap (y.snd.fst - 1)).toNat < List.length y.snd.snd.fst)) ∧
                    ((decide (y.snd.fst > 0) && decide (g (elemAt y.snd.snd.fst (Int.toNat y.snd.fst), elemAt y.snd.snd.fst (IntKind.i64.wrap (y.snd.fst - 1)).toNat, ()) < 0)) = true →
                        ((0 ≤ IntKind.i64.wrap (y.snd.fst - 1) ∧ IntKind.i64.wrap (y.snd.fst - 1) + 1 ≤ ↑(List.length y.snd.snd.fst)) ∧
                            (IntKind.i64.wrap (y.snd.fst - 1)).toNat < List.length y.snd.snd.fst ∧
                              (0 ≤ y.snd.fst ∧ y.snd.fst + 1 ≤ ↑(List.length y.snd.snd.fst)) ∧
                                Int.toNat y.snd.fst < List.length y.snd.snd.fst ∧
                                  (0 ≤ y.snd.fst ∧ y.snd.fst + 1 ≤ ↑(List.length y.snd.snd.fst)) ∧
                                    Int.toNat y.snd.fst < List.length y.snd.snd.fst ∧
                                      (0 ≤ IntKind.i64.wrap (y.snd.fst - 1) ∧
                                          IntKind.i64.wrap (y.snd.fst - 1) + 1 ≤ ↑(List.set y.snd.snd.fst (Int.toNat y.snd.fst) (elemAt y.snd.snd.fst (IntKind.i64.wrap (y.snd.fst - 1)).toNat)).length) ∧
                                        (IntKind.i64.wrap (y.snd.fst - 1)).toNat < (List.set y.snd.snd.fst (Int.toNat y.snd.fst) (elemAt y.snd.snd.fst (IntKind.i64.wrap (y.snd.fst - 1)).toNat)).length) ∧
                          (y.fst = x.fst ∧ InsAt (cmp2 g) xs y.fst (IntKind.i64.wrap (y.snd.fst - 1))
                                ((List.set y.snd.snd.fst (Int.toNat y.snd.fst) (elemAt y.snd.snd.fst (IntKind.i64.wrap (y.snd.fst - 1)).toNat)).set (IntKind.i64.wrap (y.snd.fst - 1)).toNat (elemAt y.snd.snd.fst (Int.toNat y.snd.fst)))) ∧
                            (IntKind.i64.wrap (y.snd.fst - 1)).toNat < Int.toNat y.snd.fst) ∧
                      ((decide (y.snd.fst > 0) && decide (g (elemAt y.snd.snd.fst (Int.toNat y.snd.fst), elemAt y.snd.snd.fst (IntKind.i64.wrap (y.snd.fst - 1)).toNat, ()) < 0)) = false →
                        (1 ≤ IntKind.i64.wrap (y.fst + 1) ∧ (IntKind.i64.wrap (y.fst + 1) ≤ ↑xs.length ∨ IntKind.i64.wrap (y.fst + 1) = 1) ∧
                              y.snd.snd.fst = (isortRev (cmp2 g) (List.take (IntKind.i64.wrap (y.fst + 1)).toNat xs)).reverse ++ List.drop (IntKind.i64.wrap (y.fst + 1)).toNat xs) ∧
                          (↑xs.length - IntKind.i64.wrap (y.fst + 1)).toNat < (↑xs.length - x.fst).toNat)) ∧
          (¬x.fst < ↑xs.length → x.snd.fst = isort (cmp2 g) xs) := by
  have e01 : IntKind.i64.wrap (0 + 1) = 1 := by rw [wrap_in (by omega)]; rfl
  rw [e01]
  refine ⟨⟨by omega, by omega, ?_⟩, ?_⟩
  · cases xs with
    | nil => simp [isortRev]
    | cons x r => simp [isortRev, insRev]
  rintro ⟨i, row, _⟩ ⟨h1, h2, h3⟩
  simp only at h1 h2 h3 ⊢
  refine ⟨fun hi => ⟨by rw [h3]; exact ins_start (by omega) hi, ?_⟩, fun hi => ?_⟩
  · rintro ⟨i', j, row', _⟩ ⟨hii, hin⟩
    simp only at hii hin ⊢
    subst hii
    have hL := ins_len hin
    have q0 := hin.i0
    have q1 := hin.i1
    have q2 := hin.j0
    have hrl : row'.length = xs.length := by
      obtain ⟨u, v, x, hr, hju, hx, hl, hs⟩ := hin.u
      rw [hr]; simp; omega
    have hw : IntKind.i64.wrap (j - 1) = j - 1 := wrap_in (by omega)
    rw [hw]
    simp only [List.length_set]
    refine ⟨⟨fun _ => by omega, fun _ => by omega, fun _ => by omega, fun _ => by omega⟩, fun hc => ?_, fun hc => ?_⟩
    · simp only [Bool.and_eq_true, decide_eq_true_eq] at hc
      obtain ⟨hj, hc⟩ := hc
      exact ⟨by omega, ⟨trivial, (ins_step hin hj hc).2⟩, by omega⟩
    · have hst := ins_stop hin (fun hj hlt => by
        have h5 : g (elemAt row' j.toNat, elemAt row' (j - 1).toNat, ()) < 0 := hlt
        rcases Bool.and_eq_false_iff.1 hc with hc | hc
        · exact of_decide_eq_false hc hj
        · exact of_decide_eq_false hc h5)
      rw [wrap_in (by omega)]
      exact ⟨⟨by omega, by omega, hst⟩, by omega⟩
  · rw [h3, List.take_of_length_le (by omega), List.drop_of_length_le (by omega)]
    simp [isort]
theorem s_isortPt : KSound Tryz.prog 58 (fun Γc => gCon Γc ⟨(g_isort PtT).X, r_isort PtT Γc, (g_isort PtT).args, (g_isort PtT).hp, (g_isort PtT).pre, (g_isort PtT).F, (g_isort PtT).ex⟩) := by
  refine gsoundR (K := K27) (Γc := C15) (Γr := R0) (fun x => [(1, annP [.slot 8 I64, .row 0 PtT] (fun _ y => 1 ≤ y.1 ∧ (y.1 ≤ x.1.length ∨ y.1 = 1) ∧ y.2.1 = (isortRev (cmp2 x.2) (x.1.take y.1.toNat)).reverse ++ x.1.drop y.1.toNat) (fun y => (x.1.length - y.1 : Int).toNat)), (4, annP [.slot 8 I64, .slot 9 I64, .row 0 PtT] (fun y0 y => y.1 = y0.1 ∧ InsAt (cmp2 x.2) x.1 y.1 y.2.1 y.2.2.1) (fun y => y.2.1.toNat))]) hm HK27 HC15 HR0 Tryz.call58 Tryz.func58 (by kernel_rfl) (fun _ => by kernel_rfl) (fun _ => rfl) ?_
  rintro ⟨xs, g⟩ hx
  refine Eq.mpr (β := (True ∧ (True ∧ (True ∧ ((((True ∧ ((@Eq Int (Int.ofNat 0) (Int.ofNat 0)) ∧ ((@Eq Int (@Nat.cast Int _ (List.length xs)) (@Nat.cast Int _ (List.length xs))) ∧ ((@Eq _ g g) ∧ True)))) ∧ (((@Eq Int (IntKind.wrap IntKind.i64 (@HAdd.hAdd Int Int Int _ (0:Int) (1:Int))) (IntKind.wrap IntKind.i64 (@HAdd.hAdd Int Int Int _ (0:Int) (1:Int)))) ∧ ((@Eq Int (Int.ofNat 1) (Int.ofNat 1)) ∧ ((@Eq Int (Int.ofNat 0) (Int.ofNat 0)) ∧ (True ∧ ((@Eq Int (Int.ofNat 0) (Int.ofNat 0)) ∧ ((@Eq Int (@Nat.cast Int _ (List.length xs)) (@Nat.cast Int _ (List.length xs))) ∧ ((@Eq _ g g) ∧ True))))))) ∧ ((@Eq _ xs xs) ∧ True))) ∧ ((@LE.le Int Int.instLEInt (1:Int) (IntKind.wrap IntKind.i64 (@HAdd.hAdd Int Int Int _ (0:Int) (1:Int)))) ∧ (((@LE.le Int Int.instLEInt (IntKind.wrap IntKind.i64 (@HAdd.hAdd Int Int Int _ (0:Int) (1:Int))) (@Nat.cast (Pl.T (Pl.slot (8:Nat) I64)) _ (List.length xs))) ∨ (@Eq Int (IntKind.wrap IntKind.i64 (@HAdd.hAdd Int Int Int _ (0:Int) (1:Int))) (1:Int))) ∧ (@Eq _ xs (HAppend.hAppend (List.reverse (isortRev (@cmp2 PtT g) (List.take (Int.toNat (IntKind.wrap IntKind.i64 (@HAdd.hAdd Int Int Int _ (0:Int) (1:Int)))) xs))) (List.drop (Int.toNat (IntKind.wrap IntKind.i64 (@HAdd.hAdd Int Int Int _ (0:Int) (1:Int)))) xs)))))) ∧ (∀ (v0 : (Prod Int (Prod (List (Prod Int (Prod Int (Prod Int (Prod Int Int))))) Unit))), (((@LE.le Int Int.instLEInt (1:Int) v0.1) ∧ (((@LE.le Int Int.instLEInt v0.1 (@Nat.cast (Pl.T (Pl.slot (8:Nat) I64)) _ (List.length xs))) ∨ (@Eq Int v0.1 (1:Int))) ∧ (@Eq _ v0.2.1 (HAppend.hAppend (List.reverse (isortRev (@cmp2 PtT g) (List.take (Int.toNat v0.1) xs))) (List.drop (Int.toNat v0.1) xs))))) → (True ∧ (True ∧ (True ∧ (((@Eq Bool (@decide (@LT.lt Int Int.instLTInt v0.1 (@Nat.cast Int _ (List.length xs))) (Int.decLt v0.1 (@Nat.cast Int _ (List.length xs)))) true) → (True ∧ (True ∧ ((((True ∧ ((@Eq Int (Int.ofNat 0) (Int.ofNat 0)) ∧ ((@Eq Int (@Nat.cast Int _ (List.length xs)) (@Nat.cast Int _ (List.length xs))) ∧ ((@Eq _ g g) ∧ True)))) ∧ (((@Eq Int v0.1 v0.1) ∧ ((@Eq Int v0.1 v0.1) ∧ ((@Eq Bool (@decide (@LT.lt Int Int.instLTInt v0.1 (@Nat.cast Int _ (List.length xs))) (Int.decLt v0.1 (@Nat.cast Int _ (List.length xs)))) (@decide (@LT.lt Int Int.instLTInt v0.1 (@Nat.cast Int _ (List.length xs))) (Int.decLt v0.1 (@Nat.cast Int _ (List.length xs))))) ∧ ((@Eq Int (@Nat.cast Int _ (List.length xs)) (@Nat.cast Int _ (List.length xs))) ∧ ((@Eq Int v0.1 v0.1) ∧ ((@Eq Int v0.1 v0.1) ∧ ((@Eq Int (Int.ofNat 1) (Int.ofNat 1)) ∧ ((@Eq Int (Int.ofNat 0) (Int.ofNat 0)) ∧ (True ∧ ((@Eq Int (Int.ofNat 0) (Int.ofNat 0)) ∧ ((@Eq Int (@Nat.cast Int _ (List.length xs)) (@Nat.cast Int _ (List.length xs))) ∧ ((@Eq _ g g) ∧ True)))))))))))) ∧ ((@Eq _ v0.2.1 (v0.2.1, Unit.unit).1) ∧ True))) ∧ ((@Eq Int v0.1 v0.1) ∧ (InsAt (@cmp2 PtT g) xs v0.1 v0.1 (v0.2.1, Unit.unit).1))) ∧ (∀ (v1 : (Prod Int (Prod Int (Prod (List (Prod Int (Prod Int (Prod Int (Prod Int Int))))) Unit)))), (((@Eq Int v1.1 v0.1) ∧ (InsAt (@cmp2 PtT g) xs v1.1 v1.2.1 v1.2.2.1)) → ((True ∧ (True ∧ (True ∧ (True ∧ (((@Eq Bool (@decide (@GT.gt Int Int.instLTInt v1.2.1 (0:Int)) (Int.decLt (0:Int) v1.2.1)) true) → True) ∧ (((@Eq Bool (@decide (@GT.gt Int Int.instLTInt v1.2.1 (0:Int)) (Int.decLt (0:Int) v1.2.1)) true) → True) ∧ (((@Eq Bool (@decide (@GT.gt Int Int.instLTInt v1.2.1 (0:Int)) (Int.decLt (0:Int) v1.2.1)) true) → True) ∧ (((@Eq Bool (@decide (@GT.gt Int Int.instLTInt v1.2.1 (0:Int)) (Int.decLt (0:Int) v1.2.1)) true) → ((@LE.le Int Int.instLEInt (0:Int) v1.2.1) ∧ (@LE.le Int Int.instLEInt (@HAdd.hAdd Int Int Int _ v1.2.1 (1:Int)) (@Nat.cast Int _ (List.length v1.2.2.1))))) ∧ (((@Eq Bool (@decide (@GT.gt Int Int.instLTInt v1.2.1 (0:Int)) (Int.decLt (0:Int) v1.2.1)) true) → (@LT.lt Nat instLTNat (Int.toNat v1.2.1) (List.length v1.2.2.1))) ∧ (((@Eq Bool (@decide (@GT.gt Int Int.instLTInt v1.2.1 (0:Int)) (Int.decLt (0:Int) v1.2.1)) true) → True) ∧ (((@Eq Bool (@decide (@GT.gt Int Int.instLTInt v1.2.1 (0:Int)) (Int.decLt (0:Int) v1.2.1)) true) → True) ∧ (((@Eq Bool (@decide (@GT.gt Int Int.instLTInt v1.2.1 (0:Int)) (Int.decLt (0:Int) v1.2.1)) true) → True) ∧ (((@Eq Bool (@decide (@GT.gt Int Int.instLTInt v1.2.1 (0:Int)) (Int.decLt (0:Int) v1.2.1)) true) → ((@LE.le Int Int.instLEInt (0:Int) (IntKind.wrap IntKind.i64 (@HSub.hSub Int Int Int _ v1.2.1 (1:Int)))) ∧ (@LE.le Int Int.instLEInt (@HAdd.hAdd Int Int Int _ (IntKind.wrap IntKind.i64 (@HSub.hSub Int Int Int _ v1.2.1 (1:Int))) (1:Int)) (@Nat.cast Int _ (List.length v1.2.2.1))))) ∧ (((@Eq Bool (@decide (@GT.gt Int Int.instLTInt v1.2.1 (0:Int)) (Int.decLt (0:Int) v1.2.1)) true) → (@LT.lt Nat instLTNat (Int.toNat (IntKind.wrap IntKind.i64 (@HSub.hSub Int Int Int _ v1.2.1 (1:Int)))) (List.length v1.2.2.1))) ∧ (((@Eq Bool (@decide (@GT.gt Int Int.instLTInt v1.2.1 (0:Int)) (Int.decLt (0:Int) v1.2.1)) true) → True) ∧ (((@Eq Bool (@decide (@GT.gt Int Int.instLTInt v1.2.1 (0:Int)) (Int.decLt (0:Int) v1.2.1)) true) → True) ∧ (True ∧ True))))))))))))))))) ∧ (((@Eq Bool (and (@decide (@GT.gt Int Int.instLTInt v1.2.1 (0:Int)) (Int.decLt (0:Int) v1.2.1)) (@decide (@LT.lt Int Int.instLTInt (g ((@elemAt PtT v1.2.2.1 (Int.toNat v1.2.1)), ((@elemAt PtT v1.2.2.1 (Int.toNat (IntKind.wrap IntKind.i64 (@HSub.hSub Int Int Int _ v1.2.1 (1:Int))))), Unit.unit))) (0:Int)) (Int.decLt (g ((@elemAt PtT v1.2.2.1 (Int.toNat v1.2.1)), ((@elemAt PtT v1.2.2.1 (Int.toNat (IntKind.wrap IntKind.i64 (@HSub.hSub Int Int Int _ v1.2.1 (1:Int))))), Unit.unit))) (0:Int)))) true) → ((True ∧ (True ∧ (True ∧ (True ∧ (True ∧ (True ∧ (True ∧ (True ∧ (((@LE.le Int Int.instLEInt (0:Int) (IntKind.wrap IntKind.i64 (@HSub.hSub Int Int Int _ v1.2.1 (1:Int)))) ∧ (@LE.le Int Int.instLEInt (@HAdd.hAdd Int Int Int _ (IntKind.wrap IntKind.i64 (@HSub.hSub Int Int Int _ v1.2.1 (1:Int))) (1:Int)) (@Nat.cast Int _ (List.length v1.2.2.1)))) ∧ ((@LT.lt Nat instLTNat (Int.toNat (IntKind.wrap IntKind.i64 (@HSub.hSub Int Int Int _ v1.2.1 (1:Int)))) (List.length v1.2.2.1)) ∧ (True ∧ (True ∧ (((@LE.le Int Int.instLEInt (0:Int) v1.2.1) ∧ (@LE.le Int Int.instLEInt (@HAdd.hAdd Int Int Int _ v1.2.1 (1:Int)) (@Nat.cast Int _ (List.length v1.2.2.1)))) ∧ ((@LT.lt Nat instLTNat (Int.toNat v1.2.1) (List.length v1.2.2.1)) ∧ (((@LE.le Int Int.instLEInt (0:Int) v1.2.1) ∧ (@LE.le Int Int.instLEInt (@HAdd.hAdd Int Int Int _ v1.2.1 (1:Int)) (@Nat.cast Int _ (List.length v1.2.2.1)))) ∧ ((@LT.lt Nat instLTNat (Int.toNat v1.2.1) (List.length v1.2.2.1)) ∧ (((@LE.le Int Int.instLEInt (0:Int) (IntKind.wrap IntKind.i64 (@HSub.hSub Int Int Int _ v1.2.1 (1:Int)))) ∧ (@LE.le Int Int.instLEInt (@HAdd.hAdd Int Int Int _ (IntKind.wrap IntKind.i64 (@HSub.hSub Int Int Int _ v1.2.1 (1:Int))) (1:Int)) (@Nat.cast Int _ (List.length (List.set v1.2.2.1 (Int.toNat v1.2.1) (@elemAt PtT v1.2.2.1 (Int.toNat (IntKind.wrap IntKind.i64 (@HSub.hSub Int Int Int _ v1.2.1 (1:Int)))))))))) ∧ ((@LT.lt Nat instLTNat (Int.toNat (IntKind.wrap IntKind.i64 (@HSub.hSub Int Int Int _ v1.2.1 (1:Int)))) (List.length (List.set v1.2.2.1 (Int.toNat v1.2.1) (@elemAt PtT v1.2.2.1 (Int.toNat (IntKind.wrap IntKind.i64 (@HSub.hSub Int Int Int _ v1.2.1 (1:Int)))))))) ∧ True)))))))))))))))))) ∧ (True ∧ (True ∧ (True ∧ (((True ∧ ((@Eq Int (Int.ofNat 0) (Int.ofNat 0)) ∧ ((@Eq Int (@Nat.cast Int _ (List.length xs)) (@Nat.cast Int _ (List.length xs))) ∧ ((@Eq _ g g) ∧ True)))) ∧ (((@Eq Int (IntKind.wrap IntKind.i64 (@HSub.hSub Int Int Int _ v1.2.1 (1:Int))) (IntKind.wrap IntKind.i64 (@HSub.hSub Int Int Int _ v1.2.1 (1:Int)))) ∧ ((@Eq Int v0.1 v0.1) ∧ ((@Eq Bool (@decide (@LT.lt Int Int.instLTInt v0.1 (@Nat.cast Int _ (List.length xs))) (Int.decLt v0.1 (@Nat.cast Int _ (List.length xs)))) (@decide (@LT.lt Int Int.instLTInt v0.1 (@Nat.cast Int _ (List.length xs))) (Int.decLt v0.1 (@Nat.cast Int _ (List.length xs))))) ∧ ((@Eq Int (@Nat.cast Int _ (List.length xs)) (@Nat.cast Int _ (List.length xs))) ∧ ((@Eq Int v0.1 v0.1) ∧ ((@Eq Int v1.1 v1.1) ∧ ((@Eq Int (Int.ofNat 1) (Int.ofNat 1)) ∧ ((@Eq Int (Int.ofNat 0) (Int.ofNat 0)) ∧ (True ∧ ((@Eq Int (Int.ofNat 0) (Int.ofNat 0)) ∧ ((@Eq Int (@Nat.cast Int _ (List.length xs)) (@Nat.cast Int _ (List.length xs))) ∧ ((@Eq _ g g) ∧ True)))))))))))) ∧ ((@Eq _ (List.set (List.set v1.2.2.1 (Int.toNat v1.2.1) (@elemAt PtT v1.2.2.1 (Int.toNat (IntKind.wrap IntKind.i64 (@HSub.hSub Int Int Int _ v1.2.1 (1:Int)))))) (Int.toNat (IntKind.wrap IntKind.i64 (@HSub.hSub Int Int Int _ v1.2.1 (1:Int)))) (@elemAt PtT v1.2.2.1 (Int.toNat v1.2.1))) ((List.set (List.set v1.2.2.1 (Int.toNat v1.2.1) (@elemAt PtT v1.2.2.1 (Int.toNat (IntKind.wrap IntKind.i64 (@HSub.hSub Int Int Int _ v1.2.1 (1:Int)))))) (Int.toNat (IntKind.wrap IntKind.i64 (@HSub.hSub Int Int Int _ v1.2.1 (1:Int)))) (@elemAt PtT v1.2.2.1 (Int.toNat v1.2.1))), Unit.unit).1) ∧ True))) ∧ (((@Eq Int v1.1 v0.1) ∧ (InsAt (@cmp2 PtT g) xs v1.1 (IntKind.wrap IntKind.i64 (@HSub.hSub Int Int Int _ v1.2.1 (1:Int))) ((List.set (List.set v1.2.2.1 (Int.toNat v1.2.1) (@elemAt PtT v1.2.2.1 (Int.toNat (IntKind.wrap IntKind.i64 (@HSub.hSub Int Int Int _ v1.2.1 (1:Int)))))) (Int.toNat (IntKind.wrap IntKind.i64 (@HSub.hSub Int Int Int _ v1.2.1 (1:Int)))) (@elemAt PtT v1.2.2.1 (Int.toNat v1.2.1))), Unit.unit).1)) ∧ (@LT.lt Nat instLTNat (Int.toNat (IntKind.wrap IntKind.i64 (@HSub.hSub Int Int Int _ v1.2.1 (1:Int)))) (Int.toNat v1.2.1))))))))) ∧ ((@Eq Bool (and (@decide (@GT.gt Int Int.instLTInt v1.2.1 (0:Int)) (Int.decLt (0:Int) v1.2.1)) (@decide (@LT.lt Int Int.instLTInt (g ((@elemAt PtT v1.2.2.1 (Int.toNat v1.2.1)), ((@elemAt PtT v1.2.2.1 (Int.toNat (IntKind.wrap IntKind.i64 (@HSub.hSub Int Int Int _ v1.2.1 (1:Int))))), Unit.unit))) (0:Int)) (Int.decLt (g ((@elemAt PtT v1.2.2.1 (Int.toNat v1.2.1)), ((@elemAt PtT v1.2.2.1 (Int.toNat (IntKind.wrap IntKind.i64 (@HSub.hSub Int Int Int _ v1.2.1 (1:Int))))), Unit.unit))) (0:Int)))) false) → (True ∧ (True ∧ (True ∧ (((True ∧ ((@Eq Int (Int.ofNat 0) (Int.ofNat 0)) ∧ ((@Eq Int (@Nat.cast Int _ (List.length xs)) (@Nat.cast Int _ (List.length xs))) ∧ ((@Eq _ g g) ∧ True)))) ∧ (((@Eq Int (IntKind.wrap IntKind.i64 (@HAdd.hAdd Int Int Int _ v1.1 (1:Int))) (IntKind.wrap IntKind.i64 (@HAdd.hAdd Int Int Int _ v1.1 (1:Int)))) ∧ ((@Eq Int (Int.ofNat 1) (Int.ofNat 1)) ∧ ((@Eq Int (Int.ofNat 0) (Int.ofNat 0)) ∧ (True ∧ ((@Eq Int (Int.ofNat 0) (Int.ofNat 0)) ∧ ((@Eq Int (@Nat.cast Int _ (List.length xs)) (@Nat.cast Int _ (List.length xs))) ∧ ((@Eq _ g g) ∧ True))))))) ∧ ((@Eq _ v1.2.2.1 v1.2.2.1) ∧ True))) ∧ (((@LE.le Int Int.instLEInt (1:Int) (IntKind.wrap IntKind.i64 (@HAdd.hAdd Int Int Int _ v1.1 (1:Int)))) ∧ (((@LE.le Int Int.instLEInt (IntKind.wrap IntKind.i64 (@HAdd.hAdd Int Int Int _ v1.1 (1:Int))) (@Nat.cast (Pl.T (Pl.slot (8:Nat) I64)) _ (List.length xs))) ∨ (@Eq Int (IntKind.wrap IntKind.i64 (@HAdd.hAdd Int Int Int _ v1.1 (1:Int))) (1:Int))) ∧ (@Eq _ v1.2.2.1 (HAppend.hAppend (List.reverse (isortRev (@cmp2 PtT g) (List.take (Int.toNat (IntKind.wrap IntKind.i64 (@HAdd.hAdd Int Int Int _ v1.1 (1:Int)))) xs))) (List.drop (Int.toNat (IntKind.wrap IntKind.i64 (@HAdd.hAdd Int Int Int _ v1.1 (1:Int)))) xs))))) ∧ (@LT.lt Nat instLTNat (Int.toNat (@HSub.hSub Int Int Int _ (@Nat.cast Int _ (List.length xs)) (IntKind.wrap IntKind.i64 (@HAdd.hAdd Int Int Int _ v1.1 (1:Int))))) (Int.toNat (@HSub.hSub Int Int Int _ (@Nat.cast Int _ (List.length xs)) v0.1))))))))))))))))) ∧ ((@Eq Bool (@decide (@LT.lt Int Int.instLTInt v0.1 (@Nat.cast Int _ (List.length xs))) (Int.decLt v0.1 (@Nat.cast Int _ (List.length xs)))) false) → (True ∧ ((True ∧ (True ∧ (True ∧ (True ∧ True)))) ∧ ((True ∧ True) ∧ ((@Eq _ v0.2.1 (isort (@cmp2 PtT g) xs)) ∧ True)))))))))))))))) (by kernel_rfl) ?_
  simp only [true_and, and_true, decide_eq_true_eq, decide_eq_false_iff_not, forall_const, implies_true, and_self]
  exact isort_go hx
abbrev K28 : KCons := (58, fun Γc => gCon Γc ⟨(g_isort PtT).X, r_isort PtT Γc, (g_isort PtT).args, (g_isort PtT).hp, (g_isort PtT).pre, (g_isort PtT).F, (g_isort PtT).ex⟩) :: K27
theorem HK28 : KS Tryz.prog K28 := ks_add (s_isortPt) HK27
def g_pdq (t : Ty) : GC where
  X := List t.T × (Ts [t, t] → Int)
  rd := fun _ _ => none
  args := fun x => [.sl 0, .int .i64 0, .int .i64 x.1.length, .junk, .pfn [t, t] I64 x.2]
  hp := fun x => [(0, .row t x.1)]
  pre := fun x => x.1.length ≤ 12
  F := fun x => ⟨[(0, .tup [])], [(0, .row t (isort (cmp2 x.2) x.1))], 1, [.sl 0, .junk, .junk, .junk, .junk]⟩
def r_pdq (t : Ty) (Γc : Clos) (H : Heap) : List AV → Option (List t.T × (Ts [t, t] → Int))
  | [.sl l, _, _, _, f] => match rdR ⟨[], H, 0, []⟩ l t, castF [t, t] I64 (closAV H Γc f) with
    | some xs, some g => some (xs, g)
    | _, _ => none
  | _ => none
theorem s_pdqPt : KSound Tryz.prog 49 (fun Γc => gCon Γc ⟨(g_pdq PtT).X, r_pdq PtT Γc, (g_pdq PtT).args, (g_pdq PtT).hp, (g_pdq PtT).pre, (g_pdq PtT).F, (g_pdq PtT).ex⟩) := by
  refine gsoundR (K := K28) (Γc := C15) (Γr := R0) (fun x => [(2, annP [.slot 1 I64, .slot 2 I64, .slot 10 .bool, .slot 11 .bool, .row 0 PtT] (fun _ y => y.1 = 0 ∧ y.2.1 = x.1.length ∧ y.2.2.2.2.1 = x.1) (fun y => 0))]) hm HK28 HC15 HR0 Tryz.call49 Tryz.func49 (by kernel_rfl) (fun _ => by kernel_rfl) (fun _ => rfl) ?_
  rintro ⟨xs, g⟩ hx
  refine Eq.mpr (β := (True ∧ (True ∧ ((((True ∧ ((@Eq Int (Int.ofNat 0) (Int.ofNat 0)) ∧ ((@Eq Int (@Nat.cast Int _ (List.length xs)) (@Nat.cast Int _ (List.length xs))) ∧ (True ∧ ((@Eq _ g g) ∧ True))))) ∧ (((@Eq Bool true (true, (true, (xs, Unit.unit))).2.1) ∧ ((@Eq Bool true (true, (true, (xs, Unit.unit))).1) ∧ (True ∧ ((@Eq Int (0:Int) (0:Int)) ∧ ((@Eq Int (@Nat.cast Int _ (List.length xs)) (@Nat.cast Int _ (List.length xs))) ∧ ((@Eq _ g g) ∧ True)))))) ∧ ((@Eq _ xs (true, (true, (xs, Unit.unit))).2.2.1) ∧ True))) ∧ ((@Eq Int (0:Int) (0:Int)) ∧ ((@Eq Int (@Nat.cast Int _ (List.length xs)) (@Nat.cast (Pl.T (Pl.slot (2:Nat) I64)) _ (List.length xs))) ∧ (@Eq _ (true, (true, (xs, Unit.unit))).2.2.1 xs)))) ∧ (∀ (v0 : (Prod Int (Prod Int (Prod Bool (Prod Bool (Prod (List (Prod Int (Prod Int (Prod Int (Prod Int Int))))) Unit)))))), (((@Eq Int v0.1 (0:Int)) ∧ ((@Eq Int v0.2.1 (@Nat.cast (Pl.T (Pl.slot (2:Nat) I64)) _ (List.length xs))) ∧ (@Eq _ v0.2.2.2.2.1 xs))) → (True ∧ (True ∧ (True ∧ (True ∧ (True ∧ (True ∧ (((@Eq Bool (@decide (@LE.le Int Int.instLEInt (IntKind.wrap IntKind.i64 (@HSub.hSub Int Int Int _ v0.2.1 v0.1)) (12:Int)) (Int.decLe (IntKind.wrap IntKind.i64 (@HSub.hSub Int Int Int _ v0.2.1 v0.1)) (12:Int))) true) → (True ∧ (True ∧ (True ∧ (True ∧ (((@LE.le Nat instLENat (List.length v0.2.2.2.2.1) (1000000:Nat)) ∧ ((True ∧ ((@Eq Int v0.1 (0:Int)) ∧ ((@Eq Int v0.2.1 (@Nat.cast Int _ (List.length v0.2.2.2.2.1))) ∧ ((@Eq _ g g) ∧ True)))) ∧ ((@Eq _ v0.2.2.2.2.1 v0.2.2.2.2.1) ∧ True))) ∧ (True ∧ ((True ∧ (True ∧ (True ∧ (True ∧ (True ∧ True))))) ∧ ((True ∧ True) ∧ ((@Eq _ (isort (@cmp2 PtT g) v0.2.2.2.2.1) (isort (@cmp2 PtT g) xs)) ∧ True)))))))))) ∧ ((@Eq Bool (@decide (@LE.le Int Int.instLEInt (IntKind.wrap IntKind.i64 (@HSub.hSub Int Int Int _ v0.2.1 v0.1)) (12:Int)) (Int.decLe (IntKind.wrap IntKind.i64 (@HSub.hSub Int Int Int _ v0.2.1 v0.1)) (12:Int))) false) → (True ∧ False))))))))))))))) (by kernel_rfl) ?_
  simp only [true_and, and_true, decide_eq_true_eq, decide_eq_false_iff_not, forall_const, implies_true, and_self]
  have hx : xs.length ≤ 12 := hx
  rintro ⟨a, b, p1, p2, row, _⟩ ⟨h1, h2, h3⟩
  simp only at h1 h2 h3 ⊢
  subst h1
  subst h2
  subst h3
  rw [wrap_in (by omega)]
  exact ⟨fun _ => ⟨⟨by omega, rfl, rfl⟩, rfl⟩, fun h => by omega⟩
abbrev K29 : KCons := (49, fun Γc => gCon Γc ⟨(g_pdq PtT).X, r_pdq PtT Γc, (g_pdq PtT).args, (g_pdq PtT).hp, (g_pdq PtT).pre, (g_pdq PtT).F, (g_pdq PtT).ex⟩) :: K28
theorem HK29 : KS Tryz.prog K29 := ks_add (s_pdqPt) HK28
def g_sortF (t : Ty) : GC where
  X := List t.T × (Ts [t, t] → Int)
  rd := fun _ _ => none
  args := fun x => [.sl 0, .pfn [t, t] I64 x.2]
  hp := fun x => [(0, .row t x.1)]
  pre := fun x => x.1.length ≤ 12
  F := fun x => ⟨[(0, .tup [])], [(0, .row t (isort (cmp2 x.2) x.1))], 1, [.sl 0, .junk]⟩
def r_sortF (t : Ty) (Γc : Clos) (H : Heap) : List AV → Option (List t.T × (Ts [t, t] → Int))
  | [.sl l, f] => match rdR ⟨[], H, 0, []⟩ l t, castF [t, t] I64 (closAV H Γc f) with
    | some xs, some g => some (xs, g)
    | _, _ => none
  | _ => none
theorem s_sortPt : KSound Tryz.prog 37 (fun Γc => gCon Γc ⟨(g_sortF PtT).X, r_sortF PtT Γc, (g_sortF PtT).args, (g_sortF PtT).hp, (g_sortF PtT).pre, (g_sortF PtT).F, (g_sortF PtT).ex⟩) := by
  refine gsoundR (K := K29) (Γc := C15) (Γr := R0) (fun _ => []) hm HK29 HC15 HR0 Tryz.call37 Tryz.func37 (by kernel_rfl) (fun _ => by kernel_rfl) (fun _ => rfl) ?_
  rintro ⟨xs, g⟩ hx
  refine Eq.mpr (β := (True ∧ (True ∧ (True ∧ (True ∧ (True ∧ (True ∧ (True ∧ (True ∧ (True ∧ (((@LE.le Nat instLENat (List.length xs) (12:Nat)) ∧ ((True ∧ ((@Eq Int (Int.ofNat 0) (Int.ofNat 0)) ∧ ((@Eq Int (@Nat.cast Int _ (List.length xs)) (@Nat.cast Int _ (List.length xs))) ∧ (True ∧ ((@Eq _ g g) ∧ True))))) ∧ ((@Eq _ xs xs) ∧ True))) ∧ (True ∧ ((True ∧ (True ∧ True)) ∧ ((True ∧ True) ∧ ((@Eq _ (isort (@cmp2 PtT g) xs) (isort (@cmp2 PtT g) xs)) ∧ True))))))))))))))) (by kernel_rfl) ?_
  simp only [true_and, and_true, decide_eq_true_eq, decide_eq_false_iff_not, forall_const, implies_true, and_self]
  exact hx
abbrev K30 : KCons := (37, fun Γc => gCon Γc ⟨(g_sortF PtT).X, r_sortF PtT Γc, (g_sortF PtT).args, (g_sortF PtT).hp, (g_sortF PtT).pre, (g_sortF PtT).F, (g_sortF PtT).ex⟩) :: K29
theorem HK30 : KS Tryz.prog K30 := ks_add (s_sortPt) HK29
/-! cmp -/
theorem s_isNaN : PSound Tryz.prog 51 (pcon [.d I64] fun x => (True, .bool false)) := by
  refine psoundF (K := K30) (Γc := C15) (Γr := R0) (fun _ => []) hm HK30 HC15 HR0 Tryz.call51 Tryz.func51 (by kernel_rfl) ?_
  rintro ⟨n, _⟩ _
  refine Eq.mpr (β := (True ∧ (True ∧ (True ∧ (True ∧ (True ∧ ((True ∧ True) ∧ (@Eq Bool (bne n n) false)))))))) (by kernel_rfl) ?_
  simp
abbrev K31 : KCons := (51, fun Γc => pure_ Γc ((pcon [.d I64] fun x => (True, .bool false)))) :: K30
theorem HK31 : KS Tryz.prog K31 := ks_add (ksound_pure (s_isNaN)) HK30
def cmpI (a b : Int) : Int := if a < b then -1 else if b < a then 1 else 0
theorem s_cmp : PSound Tryz.prog 39 (pcon [.d I64, .d I64] fun x => (True, .int .i64 (cmpI x.1 x.2.1))) := by
  refine psoundF (K := K31) (Γc := C15) (Γr := R0) (fun _ => []) hm HK31 HC15 HR0 Tryz.call39 Tryz.func39 (by kernel_rfl) ?_
  rintro ⟨a, b, _⟩ _
  refine Eq.mpr (β := (True ∧ (True ∧ (True ∧ (True ∧ (True ∧ (True ∧ (True ∧ (True ∧ (((@Eq Bool false true) → (True ∧ (((@Eq Bool false true) → (True ∧ ((True ∧ True) ∧ (@Eq Int (0:Int) (cmpI a b))))) ∧ ((@Eq Bool false false) → (True ∧ ((True ∧ True) ∧ (@Eq Int (Neg.neg (1:Int)) (cmpI a b)))))))) ∧ ((@Eq Bool false false) → (True ∧ (((@Eq Bool false true) → (True ∧ ((True ∧ True) ∧ (@Eq Int (1:Int) (cmpI a b))))) ∧ ((@Eq Bool false false) → (True ∧ (True ∧ (True ∧ (((@Eq Bool (@decide (@LT.lt Int Int.instLTInt a b) (Int.decLt a b)) true) → (True ∧ ((True ∧ True) ∧ (@Eq Int (Neg.neg (1:Int)) (cmpI a b))))) ∧ ((@Eq Bool (@decide (@LT.lt Int Int.instLTInt a b) (Int.decLt a b)) false) → (True ∧ (True ∧ (True ∧ (((@Eq Bool (@decide (@GT.gt Int Int.instLTInt a b) (Int.decLt b a)) true) → (True ∧ ((True ∧ True) ∧ (@Eq Int (1:Int) (cmpI a b))))) ∧ ((@Eq Bool (@decide (@GT.gt Int Int.instLTInt a b) (Int.decLt b a)) false) → (True ∧ ((True ∧ True) ∧ (@Eq Int (0:Int) (cmpI a b)))))))))))))))))))))))))))) (by kernel_rfl) ?_
  simp only [true_and, and_true, decide_eq_true_eq, decide_eq_false_iff_not, forall_const, implies_true, and_self]
  simp only [cmpI]
  grind
abbrev K32 : KCons := (39, fun Γc => pure_ Γc ((pcon [.d I64, .d I64] fun x => (True, .int .i64 (cmpI x.1 x.2.1))))) :: K31
theorem HK32 : KS Tryz.prog K32 := ks_add (ksound_pure (s_cmp)) HK31
theorem s_pts1 : PSound Tryz.prog 38 (pcon (closTs [PtT, PtT] []) fun x => (True, .int .i64 (cmpI x.1.1 x.2.1.1))) := by
  refine psoundF (K := K32) (Γc := C15) (Γr := R0) (fun _ => []) hm HK32 HC15 HR0 Tryz.call38 Tryz.func38 (by kernel_rfl) ?_
  rintro ⟨a, b, _⟩ _
  refine Eq.mpr (β := (True ∧ (True ∧ (True ∧ (True ∧ (True ∧ (True ∧ (True ∧ (True ∧ (True ∧ ((True ∧ True) ∧ (@Eq Int (cmpI a.1 b.1) (cmpI a.1 b.1))))))))))))) (by kernel_rfl) ?_
  simp only [true_and, and_true, decide_eq_true_eq, decide_eq_false_iff_not, forall_const, implies_true, and_self]
abbrev C33 : Clos := (38, ccon [PtT, PtT] I64 [] fun x c => cmpI x.1.1 x.2.1.1) :: C15
theorem HC33 : CSound Tryz.prog C33 := csound_add s_pts1 rfl (fun x c => ⟨trivial, rfl⟩) HC15
end Go.Proofs.YtgjfofeaakdihaaGreat
