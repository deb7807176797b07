/-
  A part of the proof: what some of the program's functions compute.
-/
import Derived.Test.YtogbocplojbdjaaRows
import Derived.Test.YtogbocplojbdjaaVOK
import Derived.Test.YtogbocplojbdjaaWRow
namespace Go.Proofs.Ytogbocplojbdjaa.occludeLimit
open Go Go.E Go.Proofs Go.Proofs.Ytogbocplojbdjaa
open Go.RowKit
open Go.ChangeShapes Go.WideShapes Go.ChangeAt
set_option linter.unusedVariables false
theorem own : ownKnob Try.prog.godebug = none := by kernel_rfl
theorem laidOut : laidOutB Try.prog = true := by kernel_rfl
set_option maxRecDepth 100000 in
theorem lifted (os : Os) (started : os.Started) (H : Type) (enc : TypeId × Value → H) :
    ReturnsInHanded {} Try.checked os 6 .any (Rows.occludeLimitSpec.pre6 enc Try.prog Try.f6 Rows.occludeLimitRow.domain false) (Rows.occludeLimitSpec.post enc Try.prog Try.f6 false true false false) :=
  law_lifted (C := Try.checked) (ts := [5, 5]) (tys := [U8, U8]) (rt := 4) own laidOut started (by kernel_rfl) Try.func6 rfl rfl Try.underlying4 (by kernel_rfl) (by kernel_rfl) rfl
    (fun ds h => match ds, h with | [d0, d1], _ => rfl) s_OccludeLimit (fun x h => ⟨wf_u8 h.1, wf_u8 h.2.1⟩)
    (ChangeSpec.witness6 (enc := enc) (C := Try.checked) false ⟨#[], #[.int .u8 0, .int .u8 0], []⟩ 8 (by kernel_rfl) (by kernel_rfl) (by kernel_rfl) (by kernel_rfl))
theorem over : Rows.occludeLimitRow.holds Try.pinned (OpenSpec.ofChange Rows.occludeLimitSpec) :=
  OpenClaim.holds_of_wide 6 Try.f6 rfl rfl rfl rfl rfl rfl rfl ⟨rfl, rfl, rfl, rfl, rfl⟩ rfl rfl rfl rfl rfl (by kernel_rfl) Try.func6 (by kernel_rfl)
    (of_decide_eq_true (by kernel_rfl)) (by unfold Func.isWrapper; first | (rw [if_pos (by decide +kernel)]; kernel_rfl) | (rw [if_neg (by decide +kernel)]; exact ⟨rfl, rfl⟩))
    (fun os started H enc _ => lifted os started H enc)
theorem proved : Rows.OccludeLimitSaid := over
#print axioms proved
end Go.Proofs.Ytogbocplojbdjaa.occludeLimit
namespace Go.Proofs.Ytogbocplojbdjaa
theorem occludeLimit_holds : Rows.OccludeLimitSaid := occludeLimit.proved
end Go.Proofs.Ytogbocplojbdjaa
