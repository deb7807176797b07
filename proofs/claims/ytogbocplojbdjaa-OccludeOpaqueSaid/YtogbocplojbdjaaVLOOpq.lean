/-
  A part of the proof: what some of the program's functions compute.
-/
import Derived.Test.YtogbocplojbdjaaRows
import Derived.Test.YtogbocplojbdjaaVOI
import Derived.Test.YtogbocplojbdjaaWRow
namespace Go.Proofs.Ytogbocplojbdjaa.occludeOpaque
open Go Go.E Go.Proofs Go.Proofs.Ytogbocplojbdjaa
open Go.RowKit
open Go.ChangeShapes Go.WideShapes Go.ChangeAt
set_option linter.unusedVariables false
theorem own : ownKnob Try.prog.godebug = none := by kernel_rfl
theorem laidOut : laidOutB Try.prog = true := by kernel_rfl
set_option maxRecDepth 100000 in
theorem lifted (os : Os) (started : os.Started) (H : Type) (enc : TypeId × Value → H) :
    ReturnsInHanded {} Try.checked os 5 .any (Rows.occludeOpaqueSpec.pre6 enc Try.prog Try.f5 Rows.occludeOpaqueRow.domain false) (Rows.occludeOpaqueSpec.post enc Try.prog Try.f5 false true false false) :=
  law_lifted (C := Try.checked) (ts := [22, 5, 5]) (tys := [(Ty.list ItemT), U8, U8]) (rt := 4) own laidOut started (by kernel_rfl) Try.func5 rfl rfl Try.underlying4 (by kernel_rfl) (by kernel_rfl) rfl
    (fun ds h => match ds, h with | [d0, d1, d2], _ => rfl) s_OccludeOpaque (fun x h => ⟨wf_items h.1, wf_u8 h.2.1, wf_u8 h.2.2.1⟩)
    (ChangeSpec.witness6 (enc := enc) (C := Try.checked) false ⟨#[], #[.slice none 0 0, .int .u8 0, .int .u8 0], []⟩ 8 (by kernel_rfl) (by kernel_rfl) (by kernel_rfl) (by kernel_rfl))
theorem over : Rows.occludeOpaqueRow.holds Try.pinned (OpenSpec.ofChange Rows.occludeOpaqueSpec) :=
  OpenClaim.holds_of_wide 5 Try.f5 rfl rfl rfl rfl rfl rfl rfl ⟨rfl, rfl, rfl, rfl, rfl⟩ rfl rfl rfl rfl rfl (by kernel_rfl) Try.func5 (by kernel_rfl)
    (of_decide_eq_true (by kernel_rfl)) (by unfold Func.isWrapper; first | (rw [if_pos (by decide +kernel)]; kernel_rfl) | (rw [if_neg (by decide +kernel)]; exact ⟨rfl, rfl⟩))
    (fun os started H enc _ => lifted os started H enc)
theorem proved : Rows.OccludeOpaqueSaid := over
#print axioms proved
end Go.Proofs.Ytogbocplojbdjaa.occludeOpaque
namespace Go.Proofs.Ytogbocplojbdjaa
theorem occludeOpaque_holds : Rows.OccludeOpaqueSaid := occludeOpaque.proved
end Go.Proofs.Ytogbocplojbdjaa
