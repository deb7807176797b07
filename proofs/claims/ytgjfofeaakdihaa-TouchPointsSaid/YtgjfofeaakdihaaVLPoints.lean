/-
  A part of the proof: what some of the program's functions compute.
-/
import Derived.Test.YtgjfofeaakdihaaRows
import Derived.Test.YtgjfofeaakdihaaVR
import Derived.Test.YtgjfofeaakdihaaWRow
namespace Go.Proofs.Ytgjfofeaakdihaa.touchPoints
open Go Go.E Go.Proofs Go.Proofs.Ytgjfofeaakdihaa
open Go.RowKit
open Go.ChangeShapes Go.WideShapes Go.ChangeAt
set_option linter.unusedVariables false
theorem own : ownKnob Try.prog.godebug = none := by kernel_rfl
theorem laidOut : laidOutB Try.prog = true := by kernel_rfl
set_option maxRecDepth 100000 in
theorem lifted (os : Os) (started : os.Started) (H : Type) (enc : TypeId × Value → H) :
    ReturnsInHanded {} Try.checked os 4 .any (Rows.touchPointsSpec.pre6 enc Try.prog Try.f4 Rows.touchPointsRow.domain false) (Rows.touchPointsSpec.post enc Try.prog Try.f4 false true false false) :=
  law_lifted (C := Try.checked) (ts := [45]) (tys := [(Ty.list InT)]) (rt := 4) own laidOut started (by kernel_rfl) Try.func4 rfl rfl Try.underlying4 (by kernel_rfl) (by kernel_rfl) rfl
    (fun ds h => match ds, h with | [d0], _ => rfl) s_TouchPoints (fun x h => h.1.1)
    (ChangeSpec.witness6 (enc := enc) (C := Try.checked) false ⟨#[], #[.slice none 0 0], []⟩ 8 (by kernel_rfl) (by kernel_rfl) (by kernel_rfl) (by kernel_rfl))
theorem over : Rows.touchPointsRow.holds Try.pinned (OpenSpec.ofChange Rows.touchPointsSpec) :=
  OpenClaim.holds_of_wide 4 Try.f4 rfl rfl rfl rfl rfl rfl rfl ⟨rfl, rfl, rfl, rfl, rfl⟩ rfl rfl rfl rfl rfl (by kernel_rfl) Try.func4 (by kernel_rfl)
    (of_decide_eq_true (by kernel_rfl)) (by unfold Func.isWrapper; first | (rw [if_pos (by decide +kernel)]; kernel_rfl) | (rw [if_neg (by decide +kernel)]; exact ⟨rfl, rfl⟩))
    (fun os started H enc _ => lifted os started H enc)
theorem proved : Rows.TouchPointsSaid := over
#print axioms proved
end Go.Proofs.Ytgjfofeaakdihaa.touchPoints
namespace Go.Proofs.Ytgjfofeaakdihaa
theorem touchPoints_holds : Rows.TouchPointsSaid := touchPoints.proved
end Go.Proofs.Ytgjfofeaakdihaa
