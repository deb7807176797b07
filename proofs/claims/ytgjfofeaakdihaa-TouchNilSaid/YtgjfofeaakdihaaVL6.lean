/-
  A part of the proof: what some of the program's functions compute.
-/
import Derived.Test.YtgjfofeaakdihaaRows
import Derived.Test.YtgjfofeaakdihaaVG
import Derived.Test.YtgjfofeaakdihaaWRow
namespace Go.Proofs.Ytgjfofeaakdihaa.touchNil
open Go Go.E Go.Proofs Go.Proofs.Ytgjfofeaakdihaa
open Go.RowKit
open Go.ChangeShapes Go.WideShapes Go.ChangeAt
set_option linter.unusedVariables false
theorem own : ownKnob Try.prog.godebug = none := by kernel_rfl
theorem laidOut : laidOutB Try.prog = true := by kernel_rfl
set_option maxRecDepth 100000 in
theorem lifted (os : Os) (started : os.Started) (H : Type) (enc : TypeId × Value → H) :
    ReturnsInHanded {} Try.checked os 7 .any (Rows.touchNilSpec.pre6 enc Try.prog Try.f7 Rows.touchNilRow.domain false) (Rows.touchNilSpec.post enc Try.prog Try.f7 false true false false) :=
  law_lifted (C := Try.checked) (ts := [37, 3]) (tys := [InT, I64]) (rt := 4) own laidOut started (by kernel_rfl) Try.func7 rfl rfl Try.underlying4 (by kernel_rfl) (by kernel_rfl) rfl
    (fun ds h => match ds, h with | [d0, d1], _ => rfl) s_TouchNil (fun x _ => trivial)
    (ChangeSpec.witness6 (enc := enc) (C := Try.checked) false ⟨#[], #[.agg #[.int .i64 0, .int .i64 0, .int .i64 0, .int .i64 0, .int .i64 0, .int .i64 0], .int .i64 0], []⟩ 8 (by kernel_rfl) (by kernel_rfl) (by kernel_rfl) (by kernel_rfl))
theorem over : Rows.touchNilRow.holds Try.pinned (OpenSpec.ofChange Rows.touchNilSpec) :=
  OpenClaim.holds_of_wide 7 Try.f7 rfl rfl rfl rfl rfl rfl rfl ⟨rfl, rfl, rfl, rfl, rfl⟩ rfl rfl rfl rfl rfl (by kernel_rfl) Try.func7 (by kernel_rfl)
    (of_decide_eq_true (by kernel_rfl)) (by unfold Func.isWrapper; first | (rw [if_pos (by decide +kernel)]; kernel_rfl) | (rw [if_neg (by decide +kernel)]; exact ⟨rfl, rfl⟩))
    (fun os started H enc _ => lifted os started H enc)
theorem proved : Rows.TouchNilSaid := over
#print axioms proved
end Go.Proofs.Ytgjfofeaakdihaa.touchNil
namespace Go.Proofs.Ytgjfofeaakdihaa
theorem touchNil_holds : Rows.TouchNilSaid := touchNil.proved
end Go.Proofs.Ytgjfofeaakdihaa
