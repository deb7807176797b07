/-
  A part of the proof: what some of the program's functions compute.
-/
import Derived.Test.YtijmbmncdchjkaaRows
import Derived.Test.YtijmbmncdchjkaaVFG
import Derived.Test.YtijmbmncdchjkaaWRow
namespace Go.Proofs.Ytijmbmncdchjkaa.focusTarget
open Go Go.E Go.Proofs Go.Proofs.Ytijmbmncdchjkaa
open Go.RowKit
open Go.ChangeShapes Go.WideShapes Go.ChangeAt
set_option linter.unusedVariables false
theorem own : ownKnob Try.prog.godebug = none := by kernel_rfl
theorem laidOut : laidOutB Try.prog = true := by kernel_rfl
set_option maxRecDepth 100000 in
theorem lifted (os : Os) (started : os.Started) (H : Type) (enc : TypeId × Value → H) :
    ReturnsInHanded {} Try.checked os 3 .any (Rows.focusTargetSpec.pre6 enc Try.prog Try.f3 Rows.focusTargetRow.domain false) (Rows.focusTargetSpec.post enc Try.prog Try.f3 false true false false) :=
  law_lifted (C := Try.checked) (ts := [22, 3, 3]) (tys := [(Ty.list ItemT), I64, I64]) (rt := 4) own laidOut started (by kernel_rfl) Try.func3 rfl rfl Try.underlying4 (by kernel_rfl) (by kernel_rfl) rfl
    (fun ds h => match ds, h with | [d0, d1, d2], _ => rfl) s_fTarget (fun x h => h.1.1)
    (ChangeSpec.witness6 (enc := enc) (C := Try.checked) false ⟨#[], #[.slice none 0 0, .int .i64 0, .int .i64 0], []⟩ 8 (by kernel_rfl) (by kernel_rfl) (by kernel_rfl) (by kernel_rfl))
theorem over : Rows.focusTargetRow.holds Try.pinned (OpenSpec.ofChange Rows.focusTargetSpec) :=
  OpenClaim.holds_of_wide 3 Try.f3 rfl rfl rfl rfl rfl rfl rfl ⟨rfl, rfl, rfl, rfl, rfl⟩ rfl rfl rfl rfl rfl (by kernel_rfl) Try.func3 (by kernel_rfl)
    (of_decide_eq_true (by kernel_rfl)) (by unfold Func.isWrapper; first | (rw [if_pos (by decide +kernel)]; kernel_rfl) | (rw [if_neg (by decide +kernel)]; exact ⟨rfl, rfl⟩))
    (fun os started H enc _ => lifted os started H enc)
theorem proved : Rows.FocusTargetSaid := over
#print axioms proved
end Go.Proofs.Ytijmbmncdchjkaa.focusTarget
namespace Go.Proofs.Ytijmbmncdchjkaa
theorem focusTarget_holds : Rows.FocusTargetSaid := focusTarget.proved
end Go.Proofs.Ytijmbmncdchjkaa
