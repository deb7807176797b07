/-
  A part of the proof: what some of the program's functions compute.
-/
import Derived.Test.YtmikompgiikcnaaGreatVFA
namespace Go.Proofs.YtmikompgiikcnaaGreat
open Go Go.E Go.Proofs
set_option linter.unusedVariables false
set_option linter.unusedSimpArgs false
def prodU (a b : Int) : Int := IntKind.u8.wrap (IntKind.i64.wrap ((IntKind.i64.wrap (IntKind.i64.wrap (IntKind.i64.wrap a * IntKind.i64.wrap b) + 127)).tdiv 255))
theorem s_pprod : PSound Tryz.prog 76 (pcon [.d U8, .d U8] fun x => (True, .int .u8 (prodU x.1 x.2.1))) := by
  refine psoundF (K := K58) (Γc := C41) (Γr := R0) (fun _ => []) hm HK58 HC41 HR0 Tryz.call76 Tryz.func76 (by kernel_rfl) ?_
  rintro ⟨a, b, _⟩ _
  refine Eq.mpr (β := (True ∧ True ∧ True ∧ True ∧ True ∧ True ∧ True ∧ (@Eq Int 255 0 → False) ∧ True ∧ True ∧ (True ∧ True) ∧ @Eq Int (IntKind.wrap IntKind.u8 (IntKind.i64.wrap (Int.tdiv (IntKind.i64.wrap (@HAdd.hAdd Int Int Int _ (IntKind.i64.wrap (@HMul.hMul Int Int Int _ (IntKind.i64.wrap a) (IntKind.i64.wrap b))) 127)) 255))) (prodU a b))) (by kernel_rfl) ?_
  simp only [true_and, and_true, decide_eq_true_eq, decide_eq_false_iff_not, forall_const, implies_true, and_self]
  exact ⟨fun h => by omega, rfl⟩
abbrev K59 : KCons := (76, fun Γc => pure_ Γc ((pcon [.d U8, .d U8] fun x => (True, .int .u8 (prodU x.1 x.2.1))))) :: K58
theorem HK59 : KS Tryz.prog K59 := ks_add (ksound_pure (s_pprod)) HK58
theorem s_ps1 : PSound Tryz.prog 75 (pcon (closTs [U8] [.p U8]) fun x => (True, .int .u8 (prodU x.1 x.2.1))) := by
  refine psoundF (K := K59) (Γc := C41) (Γr := R0) (fun _ => []) hm HK59 HC41 HR0 Tryz.call75 Tryz.func75 (by kernel_rfl) ?_
  rintro ⟨a, b, _⟩ _
  refine Eq.mpr (β := (True ∧ True ∧ True ∧ True ∧ True ∧ (True ∧ True) ∧ @Eq Int (prodU a b) (prodU a b))) (by kernel_rfl) ?_
  simp only [true_and, and_true, decide_eq_true_eq, decide_eq_false_iff_not, forall_const, implies_true, and_self]
abbrev C60 : Clos := (75, ccon [U8] U8 [.p U8] fun x c => prodU x.1 c.1) :: C41
theorem HC60 : CSound Tryz.prog C60 := csound_add s_ps1 rfl (fun x c => ⟨trivial, rfl⟩) HC41
theorem s_peach : PSound Tryz.prog 74 (pcon [.d PixT, .f [U8] U8] fun x => (True, .agg (enc PixT (x.2.1 (x.1.1, ()), x.2.1 (x.1.2.1, ()), x.2.1 (x.1.2.2.1, ()), x.2.1 (x.1.2.2.2, ()))))) := by
  refine psoundF (K := K59) (Γc := C60) (Γr := R0) (fun _ => []) hm HK59 HC60 HR0 Tryz.call74 Tryz.func74 (by kernel_rfl) ?_
  rintro ⟨⟨r, g, b, a⟩, f, _⟩ _
  refine Eq.mpr (β := (True ∧ True ∧ (True ∧ True ∧ True ∧ True ∧ True ∧ True ∧ True ∧ True ∧ True ∧ True ∧ True ∧ True ∧ True ∧ True ∧ True ∧ True ∧ True ∧ True ∧ True) ∧ (True ∧ True) ∧ @Eq Int (f (r, Unit.unit)) (Prod.fst (f, ()) (r, Unit.unit)) ∧ @Eq Int (f (g, Unit.unit)) (Prod.fst (f, ()) ((g, (b, a)).1, Unit.unit)) ∧ @Eq Int (f (b, Unit.unit)) ((Prod.fst (f, ()) ((g, (b, a)).2.1, Unit.unit)), (Prod.fst (f, ()) ((g, (b, a)).2.2, Unit.unit))).1 ∧ @Eq Int (f (a, Unit.unit)) ((Prod.fst (f, ()) ((g, (b, a)).2.1, Unit.unit)), (Prod.fst (f, ()) ((g, (b, a)).2.2, Unit.unit))).2 ∧ True)) (by kernel_rfl) ?_
  simp only [true_and, and_true, decide_eq_true_eq, decide_eq_false_iff_not, forall_const, implies_true, and_self]
abbrev K61 : KCons := (74, fun Γc => pure_ Γc ((pcon [.d PixT, .f [U8] U8] fun x => (True, .agg (enc PixT (x.2.1 (x.1.1, ()), x.2.1 (x.1.2.1, ()), x.2.1 (x.1.2.2.1, ()), x.2.1 (x.1.2.2.2, ()))))))) :: K59
theorem HK61 : KS Tryz.prog K61 := ks_add (ksound_pure (s_peach)) HK59
def scaleP (p : Pix) (k : Int) : Pix := (prodU (clampP p).1 k, prodU (clampP p).2.1 k, prodU (clampP p).2.2.1 k, prodU (clampP p).2.2.2 k)
theorem s_pScale : PSound Tryz.prog 64 (pcon [.d PixT, .d U8] fun x => (True, .agg (enc PixT (scaleP x.1 x.2.1)))) := by
  refine psoundF (K := K61) (Γc := C60) (Γr := R0) (fun _ => []) hm HK61 HC60 HR0 Tryz.call64 Tryz.func64 (by kernel_rfl) ?_
  rintro ⟨⟨r, g, b, a⟩, k, _⟩ _
  refine Eq.mpr (β := (True ∧ True ∧ True ∧ True ∧ True ∧ True ∧ True ∧ True ∧ (True ∧ True) ∧ @Eq Int (prodU (clampP (r, (g, (b, a)))).1 k) (scaleP (r, (g, (b, a))) k).1 ∧ @Eq Int (prodU (clampP (r, (g, (b, a)))).2.1 k) (scaleP (r, (g, (b, a))) k).2.1 ∧ @Eq Int (prodU (clampP (r, (g, (b, a)))).2.2.1 k) (scaleP (r, (g, (b, a))) k).2.2.1 ∧ @Eq Int (prodU (clampP (r, (g, (b, a)))).2.2.2 k) (scaleP (r, (g, (b, a))) k).2.2.2 ∧ True)) (by kernel_rfl) ?_
  simp only [true_and, and_true, decide_eq_true_eq, decide_eq_false_iff_not, forall_const, implies_true, and_self]
  exact ⟨rfl, rfl, rfl, rfl⟩
abbrev K62 : KCons := (64, fun Γc => pure_ Γc ((pcon [.d PixT, .d U8] fun x => (True, .agg (enc PixT (scaleP x.1 x.2.1)))))) :: K61
theorem HK62 : KS Tryz.prog K62 := ks_add (ksound_pure (s_pScale)) HK61
def overP (s d : Pix) : Pix :=
  (IntKind.u8.wrap ((clampP s).1 + (scaleP d (IntKind.u8.wrap (255 - s.2.2.2))).1), IntKind.u8.wrap ((clampP s).2.1 + (scaleP d (IntKind.u8.wrap (255 - s.2.2.2))).2.1),
   IntKind.u8.wrap ((clampP s).2.2.1 + (scaleP d (IntKind.u8.wrap (255 - s.2.2.2))).2.2.1), IntKind.u8.wrap (s.2.2.2 + (scaleP d (IntKind.u8.wrap (255 - s.2.2.2))).2.2.2))
theorem s_pOver : PSound Tryz.prog 47 (pcon [.d PixT, .d PixT] fun x => (True, .agg (enc PixT (overP x.1 x.2.1)))) := by
  refine psoundF (K := K62) (Γc := C60) (Γr := R0) (fun _ => []) hm HK62 HC60 HR0 Tryz.call47 Tryz.func47 (by kernel_rfl) ?_
  rintro ⟨s, d, _⟩ _
  refine Eq.mpr (β := (True ∧ True ∧ True ∧ True ∧ True ∧ True ∧ True ∧ True ∧ True ∧ True ∧ True ∧ True ∧ True ∧ True ∧ True ∧ True ∧ True ∧ True ∧ True ∧ True ∧ True ∧ True ∧ True ∧ True ∧ True ∧ True ∧ True ∧ True ∧ True ∧ True ∧ True ∧ True ∧ True ∧ True ∧ (True ∧ True) ∧ @Eq Int (IntKind.wrap IntKind.u8 (@HAdd.hAdd Int Int Int _ (clampP s).1 (scaleP d (IntKind.wrap IntKind.u8 (@HSub.hSub Int Int Int _ 255 (clampP s).2.2.2))).1)) (overP s d).1 ∧ @Eq Int (IntKind.wrap IntKind.u8 (@HAdd.hAdd Int Int Int _ (clampP s).2.1 (scaleP d (IntKind.wrap IntKind.u8 (@HSub.hSub Int Int Int _ 255 (clampP s).2.2.2))).2.1)) (overP s d).2.1 ∧ @Eq Int (IntKind.wrap IntKind.u8 (@HAdd.hAdd Int Int Int _ (clampP s).2.2.1 (scaleP d (IntKind.wrap IntKind.u8 (@HSub.hSub Int Int Int _ 255 (clampP s).2.2.2))).2.2.1)) (overP s d).2.2.1 ∧ @Eq Int (IntKind.wrap IntKind.u8 (@HAdd.hAdd Int Int Int _ (clampP s).2.2.2 (scaleP d (IntKind.wrap IntKind.u8 (@HSub.hSub Int Int Int _ 255 (clampP s).2.2.2))).2.2.2)) (overP s d).2.2.2 ∧ True)) (by kernel_rfl) ?_
  simp only [true_and, and_true, decide_eq_true_eq, decide_eq_false_iff_not, forall_const, implies_true, and_self]
  exact ⟨rfl, rfl, rfl, rfl⟩
abbrev K63 : KCons := (47, fun Γc => pure_ Γc ((pcon [.d PixT, .d PixT] fun x => (True, .agg (enc PixT (overP x.1 x.2.1)))))) :: K62
theorem HK63 : KS Tryz.prog K63 := ks_add (ksound_pure (s_pOver)) HK62
theorem s_r8Clamp : PSound Tryz.prog 65 (pcon [.d PixT] fun x => (True, .agg (enc PixT (clampP x.1)))) := by
  refine psoundF (K := K63) (Γc := C60) (Γr := R0) (fun _ => []) hm HK63 HC60 HR0 Tryz.call65 Tryz.func65 (by kernel_rfl) ?_
  rintro ⟨⟨r, g, b, a⟩, _⟩ _
  refine Eq.mpr (β := (True ∧ True ∧ True ∧ True ∧ True ∧ True ∧ True ∧ True ∧ True ∧ True ∧ True ∧ True ∧ True ∧ True ∧ True ∧ True ∧ True ∧ True ∧ True ∧ True ∧ True ∧ (True ∧ True) ∧ @Eq Int (if (@LT.lt Int _ a r) then a else r) (clampP (r, (g, (b, a)))).1 ∧ @Eq Int (if (@LT.lt Int _ a g) then a else g) (clampP (r, (g, (b, a)))).2.1 ∧ @Eq Int (if (@LT.lt Int _ a b) then a else b) (clampP (r, (g, (b, a)))).2.2.1 ∧ @Eq Int (b, a).2 (clampP (r, (g, (b, a)))).2.2.2 ∧ True)) (by kernel_rfl) ?_
  simp only [min_if, clampP, and_self, true_and]
abbrev K64 : KCons := (65, fun Γc => pure_ Γc ((pcon [.d PixT] fun x => (True, .agg (enc PixT (clampP x.1)))))) :: K63
theorem HK64 : KS Tryz.prog K64 := ks_add (ksound_pure (s_r8Clamp)) HK63
theorem s_r8prod : PSound Tryz.prog 77 (pcon [.d U8, .d U8] fun x => (True, .int .u8 (prodU x.1 x.2.1))) := by
  refine psoundF (K := K64) (Γc := C60) (Γr := R0) (fun _ => []) hm HK64 HC60 HR0 Tryz.call77 Tryz.func77 (by kernel_rfl) ?_
  rintro ⟨a, b, _⟩ _
  refine Eq.mpr (β := (True ∧ True ∧ True ∧ True ∧ True ∧ True ∧ True ∧ (@Eq Int 255 0 → False) ∧ True ∧ True ∧ (True ∧ True) ∧ @Eq Int (IntKind.wrap IntKind.u8 (IntKind.i64.wrap (Int.tdiv (IntKind.i64.wrap (@HAdd.hAdd Int Int Int _ (IntKind.i64.wrap (@HMul.hMul Int Int Int _ (IntKind.i64.wrap a) (IntKind.i64.wrap b))) 127)) 255))) (prodU a b))) (by kernel_rfl) ?_
  simp only [true_and, and_true, decide_eq_true_eq, decide_eq_false_iff_not, forall_const, implies_true, and_self]
  exact ⟨fun h => by omega, rfl⟩
abbrev K65 : KCons := (77, fun Γc => pure_ Γc ((pcon [.d U8, .d U8] fun x => (True, .int .u8 (prodU x.1 x.2.1))))) :: K64
theorem HK65 : KS Tryz.prog K65 := ks_add (ksound_pure (s_r8prod)) HK64
theorem s_r8Scale : PSound Tryz.prog 66 (pcon [.d PixT, .d U8] fun x => (True, .agg (enc PixT (scaleP x.1 x.2.1)))) := by
  refine psoundF (K := K65) (Γc := C60) (Γr := R0) (fun _ => []) hm HK65 HC60 HR0 Tryz.call66 Tryz.func66 (by kernel_rfl) ?_
  rintro ⟨p, k, _⟩ _
  refine Eq.mpr (β := (True ∧ True ∧ True ∧ True ∧ True ∧ (True ∧ True ∧ True ∧ True ∧ True ∧ True ∧ True ∧ True ∧ True ∧ True ∧ True ∧ True ∧ True ∧ True ∧ True ∧ True ∧ True ∧ True ∧ True) ∧ (True ∧ True) ∧ @Eq Int (prodU (clampP p).1 k) (scaleP p k).1 ∧ @Eq Int (prodU (clampP p).2.1 k) (scaleP p k).2.1 ∧ @Eq Int (prodU (clampP p).2.2.1 k) (scaleP p k).2.2.1 ∧ @Eq Int (prodU (clampP p).2.2.2 k) (scaleP p k).2.2.2 ∧ True)) (by kernel_rfl) ?_
  simp only [true_and, and_true, decide_eq_true_eq, decide_eq_false_iff_not, forall_const, implies_true, and_self]
  exact ⟨rfl, rfl, rfl, rfl⟩
abbrev K66 : KCons := (66, fun Γc => pure_ Γc ((pcon [.d PixT, .d U8] fun x => (True, .agg (enc PixT (scaleP x.1 x.2.1)))))) :: K65
theorem HK66 : KS Tryz.prog K66 := ks_add (ksound_pure (s_r8Scale)) HK65
theorem s_r8Over : PSound Tryz.prog 48 (pcon [.d PixT, .d PixT] fun x => (True, .agg (enc PixT (overP x.1 x.2.1)))) := by
  refine psoundF (K := K66) (Γc := C60) (Γr := R0) (fun _ => []) hm HK66 HC60 HR0 Tryz.call48 Tryz.func48 (by kernel_rfl) ?_
  rintro ⟨s, d, _⟩ _
  refine Eq.mpr (β := (True ∧ True ∧ True ∧ True ∧ True ∧ True ∧ True ∧ True ∧ True ∧ True ∧ True ∧ True ∧ True ∧ True ∧ True ∧ True ∧ True ∧ True ∧ True ∧ True ∧ True ∧ True ∧ True ∧ True ∧ True ∧ True ∧ True ∧ True ∧ True ∧ True ∧ True ∧ True ∧ True ∧ True ∧ (True ∧ True) ∧ @Eq Int (IntKind.wrap IntKind.u8 (@HAdd.hAdd Int Int Int _ (clampP s).1 (scaleP d (IntKind.wrap IntKind.u8 (@HSub.hSub Int Int Int _ 255 (clampP s).2.2.2))).1)) (overP s d).1 ∧ @Eq Int (IntKind.wrap IntKind.u8 (@HAdd.hAdd Int Int Int _ (clampP s).2.1 (scaleP d (IntKind.wrap IntKind.u8 (@HSub.hSub Int Int Int _ 255 (clampP s).2.2.2))).2.1)) (overP s d).2.1 ∧ @Eq Int (IntKind.wrap IntKind.u8 (@HAdd.hAdd Int Int Int _ (clampP s).2.2.1 (scaleP d (IntKind.wrap IntKind.u8 (@HSub.hSub Int Int Int _ 255 (clampP s).2.2.2))).2.2.1)) (overP s d).2.2.1 ∧ @Eq Int (IntKind.wrap IntKind.u8 (@HAdd.hAdd Int Int Int _ (clampP s).2.2.2 (scaleP d (IntKind.wrap IntKind.u8 (@HSub.hSub Int Int Int _ 255 (clampP s).2.2.2))).2.2.2)) (overP s d).2.2.2 ∧ True)) (by kernel_rfl) ?_
  simp only [true_and, and_true, decide_eq_true_eq, decide_eq_false_iff_not, forall_const, implies_true, and_self]
  exact ⟨rfl, rfl, rfl, rfl⟩
abbrev K67 : KCons := (48, fun Γc => pure_ Γc ((pcon [.d PixT, .d PixT] fun x => (True, .agg (enc PixT (overP x.1 x.2.1)))))) :: K66
theorem HK67 : KS Tryz.prog K67 := ks_add (ksound_pure (s_r8Over)) HK66
theorem s_r4coord : PSound Tryz.prog 56 c_rvalid := by
  refine psoundF (K := K67) (Γc := C60) (Γr := R0) (fun _ => []) hm HK67 HC60 HR0 Tryz.call56 Tryz.func56 (by kernel_rfl) ?_
  rintro ⟨n, _⟩ _
  refine Eq.mpr (β := (True ∧ True ∧ True ∧ True ∧ (@Eq Bool (@decide (@GE.ge Int Int.instLEInt n (Neg.neg 16384)) (Int.decLe (Neg.neg 16384) n)) true → True) ∧ (@Eq Bool (@decide (@GE.ge Int Int.instLEInt n (Neg.neg 16384)) (Int.decLe (Neg.neg 16384) n)) true → True) ∧ True ∧ True ∧ (True ∧ True) ∧ @Eq Bool (and (@decide (@GE.ge Int Int.instLEInt n (Neg.neg 16384)) (Int.decLe (Neg.neg 16384) n)) (@decide (@LE.le Int _ n 16384) (Int.decLe n 16384))) (coordOk n))) (by kernel_rfl) ?_
  simp [coordOk]
abbrev K68 : KCons := (56, fun Γc => pure_ Γc (c_rvalid)) :: K67
theorem HK68 : KS Tryz.prog K68 := ks_add (ksound_pure (s_r4coord)) HK67
theorem s_r4Valid : PSound Tryz.prog 42 c_rValid := by
  refine psoundF (K := K68) (Γc := C60) (Γr := R0) (fun _ => []) hm HK68 HC60 HR0 Tryz.call42 Tryz.func42 (by kernel_rfl) ?_
  rintro ⟨⟨a, b, c, d⟩, _⟩ _
  refine Eq.mpr (β := (True ∧ True ∧ True ∧ True ∧ True ∧ True ∧ (@Eq Bool (coordOk a) true → True) ∧ (@Eq Bool (coordOk a) true → True) ∧ (@Eq Bool (coordOk a) true → True) ∧ True ∧ True ∧ (@Eq Bool (and (coordOk a) (coordOk b)) true → True) ∧ (@Eq Bool (and (coordOk a) (coordOk b)) true → True) ∧ (@Eq Bool (and (coordOk a) (coordOk b)) true → True) ∧ True ∧ True ∧ (@Eq Bool (and (and (coordOk a) (coordOk b)) (coordOk c)) true → True) ∧ (@Eq Bool (and (and (coordOk a) (coordOk b)) (coordOk c)) true → True) ∧ (@Eq Bool (and (and (coordOk a) (coordOk b)) (coordOk c)) true → True) ∧ True ∧ True ∧ (True ∧ True) ∧ @Eq Bool (and (and (and (coordOk a) (coordOk b)) (coordOk c)) (coordOk d)) (validR (a, (b, (c, d)))))) (by kernel_rfl) ?_
  simp [validR]
abbrev K69 : KCons := (42, fun Γc => pure_ Γc (c_rValid)) :: K68
theorem HK69 : KS Tryz.prog K69 := ks_add (ksound_pure (s_r4Valid)) HK68
theorem s_r4Empty : PSound Tryz.prog 22 c_rEmpty := by
  refine psoundF (K := K69) (Γc := C60) (Γr := R0) (fun _ => []) hm HK69 HC60 HR0 Tryz.call22 Tryz.func22 (by kernel_rfl) ?_
  rintro ⟨⟨a, b, c, d⟩, _⟩ _
  refine Eq.mpr (β := (True ∧ True ∧ True ∧ True ∧ True ∧ True ∧ (@Eq Bool (not (validR (a, (b, (c, d))))) false → True) ∧ (@Eq Bool (not (validR (a, (b, (c, d))))) false → True) ∧ (@Eq Bool (not (validR (a, (b, (c, d))))) false → True) ∧ (@Eq Bool (not (validR (a, (b, (c, d))))) false → True) ∧ (@Eq Bool (not (validR (a, (b, (c, d))))) false → True) ∧ True ∧ True ∧ (@Eq Bool (or (not (validR (a, (b, (c, d))))) (@decide (@GE.ge Int Int.instLEInt a c) (Int.decLe c a))) false → True) ∧ (@Eq Bool (or (not (validR (a, (b, (c, d))))) (@decide (@GE.ge Int Int.instLEInt a c) (Int.decLe c a))) false → True) ∧ (@Eq Bool (or (not (validR (a, (b, (c, d))))) (@decide (@GE.ge Int Int.instLEInt a c) (Int.decLe c a))) false → True) ∧ (@Eq Bool (or (not (validR (a, (b, (c, d))))) (@decide (@GE.ge Int Int.instLEInt a c) (Int.decLe c a))) false → True) ∧ (@Eq Bool (or (not (validR (a, (b, (c, d))))) (@decide (@GE.ge Int Int.instLEInt a c) (Int.decLe c a))) false → True) ∧ True ∧ True ∧ (True ∧ True) ∧ @Eq Bool (or (or (not (validR (a, (b, (c, d))))) (@decide (@GE.ge Int Int.instLEInt a c) (Int.decLe c a))) (@decide (@GE.ge Int Int.instLEInt b d) (Int.decLe d b))) (emptyR (a, (b, (c, d)))))) (by kernel_rfl) ?_
  simp [emptyR]
abbrev K70 : KCons := (22, fun Γc => pure_ Γc (c_rEmpty)) :: K69
theorem HK70 : KS Tryz.prog K70 := ks_add (ksound_pure (s_r4Empty)) HK69
theorem s_r4Canonical : PSound Tryz.prog 41 c_rCanonical := by
  refine psoundF (K := K70) (Γc := C60) (Γr := R0) (fun _ => []) hm HK70 HC60 HR0 Tryz.call41 Tryz.func41 (by kernel_rfl) ?_
  rintro ⟨⟨a, b, c, d⟩, _⟩ _
  refine Eq.mpr (β := (True ∧ True ∧ True ∧ True ∧ (@Eq Bool (emptyR (a, (b, (c, d)))) true → (True ∧ True ∧ (True ∧ True) ∧ @Eq Int 0 (canonR (a, (b, (c, d)))).1 ∧ @Eq Int 0 (canonR (a, (b, (c, d)))).2.1 ∧ @Eq Int 0 (canonR (a, (b, (c, d)))).2.2.1 ∧ @Eq Int 0 (canonR (a, (b, (c, d)))).2.2.2 ∧ True)) ∧ (@Eq Bool (emptyR (a, (b, (c, d)))) false → (True ∧ True ∧ (True ∧ True) ∧ @Eq Int a (canonR (a, (b, (c, d)))).1 ∧ @Eq Int b (canonR (a, (b, (c, d)))).2.1 ∧ @Eq Int (c, d).1 (canonR (a, (b, (c, d)))).2.2.1 ∧ @Eq Int (c, d).2 (canonR (a, (b, (c, d)))).2.2.2 ∧ True)))) (by kernel_rfl) ?_
  simp only [true_and, and_true]
  exact ⟨fun h => by simp [canonR, h], fun h => by simp [canonR, h]⟩
abbrev K71 : KCons := (41, fun Γc => pure_ Γc (c_rCanonical)) :: K70
theorem HK71 : KS Tryz.prog K71 := ks_add (ksound_pure (s_r4Canonical)) HK70
theorem s_r4Area : PSound Tryz.prog 23 (pcon [.d RectT] fun x => (True, .int .i64 (areaR x.1))) := by
  refine psoundF (K := K71) (Γc := C60) (Γr := R0) (fun _ => []) hm HK71 HC60 HR0 Tryz.call23 Tryz.func23 (by kernel_rfl) ?_
  rintro ⟨r, _⟩ _
  refine Eq.mpr (β := (True ∧ True ∧ True ∧ True ∧ True ∧ True ∧ True ∧ True ∧ True ∧ True ∧ True ∧ True ∧ True ∧ True ∧ True ∧ True ∧ True ∧ True ∧ (True ∧ True) ∧ @Eq Int (IntKind.i64.wrap (@HMul.hMul Int Int Int _ (IntKind.i64.wrap (@HSub.hSub Int Int Int _ (canonR r).2.2.1 (canonR r).1)) (IntKind.i64.wrap (@HSub.hSub Int Int Int _ (canonR r).2.2.2 (canonR r).2.1)))) (areaR r))) (by kernel_rfl) ?_
  simp only [true_and, and_true, decide_eq_true_eq, decide_eq_false_iff_not, forall_const, implies_true, and_self]
  have h := canonR_range r
  have h1 := mul_range (p := (canonR r).2.2.1 - (canonR r).1) (q := (canonR r).2.2.2 - (canonR r).2.1) (B := 32768) (by omega) (by omega)
  rw [wrap_in (n := (canonR r).2.2.1 - (canonR r).1) (by omega), wrap_in (n := (canonR r).2.2.2 - (canonR r).2.1) (by omega), wrap_in (by omega)]
  rfl
abbrev K72 : KCons := (23, fun Γc => pure_ Γc ((pcon [.d RectT] fun x => (True, .int .i64 (areaR x.1))))) :: K71
theorem HK72 : KS Tryz.prog K72 := ks_add (ksound_pure (s_r4Area)) HK71
def insideR (r : Rect) (x y : Int) : Bool := !emptyR r && (decide (r.1 ≤ x) && (decide (x < r.2.2.1) && (decide (r.2.1 ≤ y) && decide (y < r.2.2.2))))
theorem s_r4Contains : PSound Tryz.prog 26 (pcon [.d RectT, .d I64, .d I64] fun x => (True, .bool (insideR x.1 x.2.1 x.2.2.1))) := by
  refine psoundF (K := K72) (Γc := C60) (Γr := R0) (fun _ => []) hm HK72 HC60 HR0 Tryz.call26 Tryz.func26 (by kernel_rfl) ?_
  rintro ⟨r, x, y, _⟩ _
  refine Eq.mpr (β := (True ∧ True ∧ True ∧ True ∧ True ∧ True ∧ (@Eq Bool (not (emptyR r)) true → True) ∧ (@Eq Bool (not (emptyR r)) true → True) ∧ (@Eq Bool (not (emptyR r)) true → True) ∧ (@Eq Bool (not (emptyR r)) true → True) ∧ True ∧ True ∧ (@Eq Bool (and (not (emptyR r)) (@decide (@LE.le Int _ r.1 x) (Int.decLe r.1 x))) true → True) ∧ (@Eq Bool (and (not (emptyR r)) (@decide (@LE.le Int _ r.1 x) (Int.decLe r.1 x))) true → True) ∧ (@Eq Bool (and (not (emptyR r)) (@decide (@LE.le Int _ r.1 x) (Int.decLe r.1 x))) true → True) ∧ (@Eq Bool (and (not (emptyR r)) (@decide (@LE.le Int _ r.1 x) (Int.decLe r.1 x))) true → True) ∧ True ∧ True ∧ (@Eq Bool (and (and (not (emptyR r)) (@decide (@LE.le Int _ r.1 x) (Int.decLe r.1 x))) (@decide (@LT.lt Int _ x r.2.2.1) (Int.decLt x r.2.2.1))) true → True) ∧ (@Eq Bool (and (and (not (emptyR r)) (@decide (@LE.le Int _ r.1 x) (Int.decLe r.1 x))) (@decide (@LT.lt Int _ x r.2.2.1) (Int.decLt x r.2.2.1))) true → True) ∧ (@Eq Bool (and (and (not (emptyR r)) (@decide (@LE.le Int _ r.1 x) (Int.decLe r.1 x))) (@decide (@LT.lt Int _ x r.2.2.1) (Int.decLt x r.2.2.1))) true → True) ∧ (@Eq Bool (and (and (not (emptyR r)) (@decide (@LE.le Int _ r.1 x) (Int.decLe r.1 x))) (@decide (@LT.lt Int _ x r.2.2.1) (Int.decLt x r.2.2.1))) true → True) ∧ True ∧ True ∧ (@Eq Bool (and (and (and (not (emptyR r)) (@decide (@LE.le Int _ r.1 x) (Int.decLe r.1 x))) (@decide (@LT.lt Int _ x r.2.2.1) (Int.decLt x r.2.2.1))) (@decide (@LE.le Int _ r.2.1 y) (Int.decLe r.2.1 y))) true → True) ∧ (@Eq Bool (and (and (and (not (emptyR r)) (@decide (@LE.le Int _ r.1 x) (Int.decLe r.1 x))) (@decide (@LT.lt Int _ x r.2.2.1) (Int.decLt x r.2.2.1))) (@decide (@LE.le Int _ r.2.1 y) (Int.decLe r.2.1 y))) true → True) ∧ (@Eq Bool (and (and (and (not (emptyR r)) (@decide (@LE.le Int _ r.1 x) (Int.decLe r.1 x))) (@decide (@LT.lt Int _ x r.2.2.1) (Int.decLt x r.2.2.1))) (@decide (@LE.le Int _ r.2.1 y) (Int.decLe r.2.1 y))) true → True) ∧ (@Eq Bool (and (and (and (not (emptyR r)) (@decide (@LE.le Int _ r.1 x) (Int.decLe r.1 x))) (@decide (@LT.lt Int _ x r.2.2.1) (Int.decLt x r.2.2.1))) (@decide (@LE.le Int _ r.2.1 y) (Int.decLe r.2.1 y))) true → True) ∧ True ∧ True ∧ (True ∧ True) ∧ @Eq Bool (and (and (and (and (not (emptyR r)) (@decide (@LE.le Int _ r.1 x) (Int.decLe r.1 x))) (@decide (@LT.lt Int _ x r.2.2.1) (Int.decLt x r.2.2.1))) (@decide (@LE.le Int _ r.2.1 y) (Int.decLe r.2.1 y))) (@decide (@LT.lt Int _ y r.2.2.2) (Int.decLt y r.2.2.2))) (insideR r x y))) (by kernel_rfl) ?_
  simp only [true_and, and_true, decide_eq_true_eq, decide_eq_false_iff_not, forall_const, implies_true, and_self]
  simp only [insideR, Bool.and_assoc]
abbrev K73 : KCons := (26, fun Γc => pure_ Γc ((pcon [.d RectT, .d I64, .d I64] fun x => (True, .bool (insideR x.1 x.2.1 x.2.2.1))))) :: K72
theorem HK73 : KS Tryz.prog K73 := ks_add (ksound_pure (s_r4Contains)) HK72
def interQ (a b : Rect) : Rect := if emptyR a = true ∨ emptyR b = true then (0, 0, 0, 0) else canonR (max a.1 b.1, max a.2.1 b.2.1, min a.2.2.1 b.2.2.1, min a.2.2.2 b.2.2.2)
theorem inter_go (a b : Rect) : ((emptyR a || emptyR b) = true → 0 = (interQ a b).1 ∧ 0 = (interQ a b).2.1 ∧ 0 = (interQ a b).2.2.1 ∧ 0 = (interQ a b).2.2.2) ∧
    ((emptyR a || emptyR b) = false → (canonR (if b.1 > a.1 then b.1 else a.1, if b.2.1 > a.2.1 then b.2.1 else a.2.1, if b.2.2.1 < a.2.2.1 then b.2.2.1 else a.2.2.1, if b.2.2.2 < a.2.2.2 then b.2.2.2 else a.2.2.2)).1 = (interQ a b).1 ∧
      (canonR (if b.1 > a.1 then b.1 else a.1, if b.2.1 > a.2.1 then b.2.1 else a.2.1, if b.2.2.1 < a.2.2.1 then b.2.2.1 else a.2.2.1, if b.2.2.2 < a.2.2.2 then b.2.2.2 else a.2.2.2)).2.1 = (interQ a b).2.1 ∧
      (canonR (if b.1 > a.1 then b.1 else a.1, if b.2.1 > a.2.1 then b.2.1 else a.2.1, if b.2.2.1 < a.2.2.1 then b.2.2.1 else a.2.2.1, if b.2.2.2 < a.2.2.2 then b.2.2.2 else a.2.2.2)).2.2.1 = (interQ a b).2.2.1 ∧
      (canonR (if b.1 > a.1 then b.1 else a.1, if b.2.1 > a.2.1 then b.2.1 else a.2.1, if b.2.2.1 < a.2.2.1 then b.2.2.1 else a.2.2.1, if b.2.2.2 < a.2.2.2 then b.2.2.2 else a.2.2.2)).2.2.2 = (interQ a b).2.2.2) := by
  refine ⟨fun h => ?_, fun h => ?_⟩
  · rw [Bool.or_eq_true] at h
    rw [interQ, if_pos h]
    exact ⟨rfl, rfl, rfl, rfl⟩
  · have h : ¬ (emptyR a = true ∨ emptyR b = true) := by rw [← Bool.or_eq_true, h]; simp
    rw [interQ, if_neg h]
    simp only [min_if, max_if, and_self]
theorem s_r4Intersect : PSound Tryz.prog 21 (pcon [.d RectT, .d RectT] fun x => (True, .agg (enc RectT (interQ x.1 x.2.1)))) := by
  refine psoundF (K := K73) (Γc := C60) (Γr := R0) (fun _ => []) hm HK73 HC60 HR0 Tryz.call21 Tryz.func21 (by kernel_rfl) ?_
  rintro ⟨a, b, _⟩ _
  refine Eq.mpr (β := (True ∧ True ∧ True ∧ True ∧ True ∧ True ∧ (@Eq Bool (emptyR a) false → True) ∧ (@Eq Bool (emptyR a) false → True) ∧ True ∧ (@Eq Bool (or (emptyR a) (emptyR b)) true → (True ∧ True ∧ (True ∧ True) ∧ @Eq Int 0 (interQ a b).1 ∧ @Eq Int 0 (interQ a b).2.1 ∧ @Eq Int 0 (interQ a b).2.2.1 ∧ @Eq Int 0 (interQ a b).2.2.2 ∧ True)) ∧ (@Eq Bool (or (emptyR a) (emptyR b)) false → (True ∧ True ∧ True ∧ True ∧ True ∧ True ∧ True ∧ True ∧ True ∧ True ∧ True ∧ True ∧ True ∧ True ∧ True ∧ True ∧ True ∧ True ∧ True ∧ True ∧ True ∧ True ∧ True ∧ (True ∧ True) ∧ @Eq Int (canonR ((if (@GT.gt Int _ b.1 a.1) then b.1 else a.1), ((if (@GT.gt Int _ b.2.1 a.2.1) then b.2.1 else a.2.1), ((if (@LT.lt Int _ b.2.2.1 a.2.2.1) then b.2.2.1 else a.2.2.1), (if (@LT.lt Int _ b.2.2.2 a.2.2.2) then b.2.2.2 else a.2.2.2))))).1 (interQ a b).1 ∧ @Eq Int (canonR ((if (@GT.gt Int _ b.1 a.1) then b.1 else a.1), ((if (@GT.gt Int _ b.2.1 a.2.1) then b.2.1 else a.2.1), ((if (@LT.lt Int _ b.2.2.1 a.2.2.1) then b.2.2.1 else a.2.2.1), (if (@LT.lt Int _ b.2.2.2 a.2.2.2) then b.2.2.2 else a.2.2.2))))).2.1 (interQ a b).2.1 ∧ @Eq Int (canonR ((if (@GT.gt Int _ b.1 a.1) then b.1 else a.1), ((if (@GT.gt Int _ b.2.1 a.2.1) then b.2.1 else a.2.1), ((if (@LT.lt Int _ b.2.2.1 a.2.2.1) then b.2.2.1 else a.2.2.1), (if (@LT.lt Int _ b.2.2.2 a.2.2.2) then b.2.2.2 else a.2.2.2))))).2.2.1 (interQ a b).2.2.1 ∧ @Eq Int (canonR ((if (@GT.gt Int _ b.1 a.1) then b.1 else a.1), ((if (@GT.gt Int _ b.2.1 a.2.1) then b.2.1 else a.2.1), ((if (@LT.lt Int _ b.2.2.1 a.2.2.1) then b.2.2.1 else a.2.2.1), (if (@LT.lt Int _ b.2.2.2 a.2.2.2) then b.2.2.2 else a.2.2.2))))).2.2.2 (interQ a b).2.2.2 ∧ True)))) (by kernel_rfl) ?_
  simp only [true_and, and_true, decide_eq_true_eq, decide_eq_false_iff_not, forall_const, implies_true, and_self]
  exact inter_go a b
abbrev K74 : KCons := (21, fun Γc => pure_ Γc ((pcon [.d RectT, .d RectT] fun x => (True, .agg (enc RectT (interQ x.1 x.2.1)))))) :: K73
theorem HK74 : KS Tryz.prog K74 := ks_add (ksound_pure (s_r4Intersect)) HK73
theorem s_rcIntersect : PSound Tryz.prog 37 (pcon [.d RectT, .d RectT] fun x => (True, .agg (enc RectT (interQ x.1 x.2.1)))) := by
  refine psoundF (K := K74) (Γc := C60) (Γr := R0) (fun _ => []) hm HK74 HC60 HR0 Tryz.call37 Tryz.func37 (by kernel_rfl) ?_
  rintro ⟨a, b, _⟩ _
  refine Eq.mpr (β := (True ∧ True ∧ True ∧ True ∧ True ∧ True ∧ (@Eq Bool (emptyR a) false → True) ∧ (@Eq Bool (emptyR a) false → True) ∧ True ∧ (@Eq Bool (or (emptyR a) (emptyR b)) true → (True ∧ True ∧ (True ∧ True) ∧ @Eq Int 0 (interQ a b).1 ∧ @Eq Int 0 (interQ a b).2.1 ∧ @Eq Int 0 (interQ a b).2.2.1 ∧ @Eq Int 0 (interQ a b).2.2.2 ∧ True)) ∧ (@Eq Bool (or (emptyR a) (emptyR b)) false → (True ∧ True ∧ True ∧ True ∧ True ∧ True ∧ True ∧ True ∧ True ∧ True ∧ True ∧ True ∧ True ∧ True ∧ True ∧ True ∧ True ∧ True ∧ True ∧ True ∧ True ∧ True ∧ True ∧ (True ∧ True) ∧ @Eq Int (canonR ((if (@GT.gt Int _ b.1 a.1) then b.1 else a.1), ((if (@GT.gt Int _ b.2.1 a.2.1) then b.2.1 else a.2.1), ((if (@LT.lt Int _ b.2.2.1 a.2.2.1) then b.2.2.1 else a.2.2.1), (if (@LT.lt Int _ b.2.2.2 a.2.2.2) then b.2.2.2 else a.2.2.2))))).1 (interQ a b).1 ∧ @Eq Int (canonR ((if (@GT.gt Int _ b.1 a.1) then b.1 else a.1), ((if (@GT.gt Int _ b.2.1 a.2.1) then b.2.1 else a.2.1), ((if (@LT.lt Int _ b.2.2.1 a.2.2.1) then b.2.2.1 else a.2.2.1), (if (@LT.lt Int _ b.2.2.2 a.2.2.2) then b.2.2.2 else a.2.2.2))))).2.1 (interQ a b).2.1 ∧ @Eq Int (canonR ((if (@GT.gt Int _ b.1 a.1) then b.1 else a.1), ((if (@GT.gt Int _ b.2.1 a.2.1) then b.2.1 else a.2.1), ((if (@LT.lt Int _ b.2.2.1 a.2.2.1) then b.2.2.1 else a.2.2.1), (if (@LT.lt Int _ b.2.2.2 a.2.2.2) then b.2.2.2 else a.2.2.2))))).2.2.1 (interQ a b).2.2.1 ∧ @Eq Int (canonR ((if (@GT.gt Int _ b.1 a.1) then b.1 else a.1), ((if (@GT.gt Int _ b.2.1 a.2.1) then b.2.1 else a.2.1), ((if (@LT.lt Int _ b.2.2.1 a.2.2.1) then b.2.2.1 else a.2.2.1), (if (@LT.lt Int _ b.2.2.2 a.2.2.2) then b.2.2.2 else a.2.2.2))))).2.2.2 (interQ a b).2.2.2 ∧ True)))) (by kernel_rfl) ?_
  simp only [true_and, and_true, decide_eq_true_eq, decide_eq_false_iff_not, forall_const, implies_true, and_self]
  exact inter_go a b
abbrev K75 : KCons := (37, fun Γc => pure_ Γc ((pcon [.d RectT, .d RectT] fun x => (True, .agg (enc RectT (interQ x.1 x.2.1)))))) :: K74
theorem HK75 : KS Tryz.prog K75 := ks_add (ksound_pure (s_rcIntersect)) HK74
end Go.Proofs.YtmikompgiikcnaaGreat
