/-
  A part of the proof: what some of the program's functions compute.
-/
import Derived.Test.YtijmbmncdchjkaaGreatRows
import Derived.Test.YtijmbmncdchjkaaGreatVFT
import Derived.Test.YtijmbmncdchjkaaGreatWRow
namespace Go.Proofs.YtijmbmncdchjkaaGreat.focusSteps
open Go Go.E Go.Proofs Go.Proofs.YtijmbmncdchjkaaGreat
open Go.RowKit
open Go.ChangeShapes Go.WideShapes Go.ChangeAt
set_option linter.unusedVariables false
theorem wf_ops {x : ATs ([Ty.list OpT].map .d)} (h : wfAs [Ty.list OpT] x) : OpsOk x.1 := by
  obtain ⟨⟨h1, h2⟩, _⟩ := h
  refine ⟨h1, fun o ho => ?_⟩
  obtain ⟨_, _, _, ⟨h3, _⟩⟩ := h2 o ho
  exact h3
theorem own : ownKnob Tryz.prog.godebug = none := by kernel_rfl
theorem laidOut : laidOutB Tryz.prog = true := by kernel_rfl
set_option maxRecDepth 100000 in
theorem lifted (os : Os) (started : os.Started) (H : Type) (enc : TypeId × Value → H) :
    ReturnsInHanded {} Tryz.checked os 3 .any (Rows.focusStepsSpec.pre6 enc Tryz.prog Tryz.f3 Rows.focusStepsRow.domain false) (Rows.focusStepsSpec.post enc Tryz.prog Tryz.f3 false true false false) :=
  law_lifted (C := Tryz.checked) (ts := [22]) (tys := [(Ty.list OpT)]) (rt := 4) own laidOut started (by kernel_rfl) Tryz.func3 rfl rfl Tryz.underlying4 (by kernel_rfl) (by kernel_rfl) rfl
    (fun ds h => match ds, h with | [d0], _ => rfl) s_fSteps (fun x h => wf_ops h)
    (ChangeSpec.witness6 (enc := enc) (C := Tryz.checked) false ⟨#[], #[.slice none 0 0], []⟩ 8 (by kernel_rfl) (by kernel_rfl) (by kernel_rfl) (by kernel_rfl))
theorem over : Rows.focusStepsRow.holds Tryz.pinned (OpenSpec.ofChange Rows.focusStepsSpec) :=
  OpenClaim.holds_of_wide 3 Tryz.f3 rfl rfl rfl rfl rfl rfl rfl ⟨rfl, rfl, rfl, rfl, rfl⟩ rfl rfl rfl rfl rfl (by kernel_rfl) Tryz.func3 (by kernel_rfl)
    (of_decide_eq_true (by kernel_rfl)) (by unfold Func.isWrapper; first | (rw [if_pos (by decide +kernel)]; kernel_rfl) | (rw [if_neg (by decide +kernel)]; exact ⟨rfl, rfl⟩))
    (fun os started H enc _ => lifted os started H enc)
theorem proved : Rows.FocusStepsSaid := over
#print axioms proved
end Go.Proofs.YtijmbmncdchjkaaGreat.focusSteps
namespace Go.Proofs.YtijmbmncdchjkaaGreat
theorem focusSteps_holds : Rows.FocusStepsSaid := focusSteps.proved
end Go.Proofs.YtijmbmncdchjkaaGreat
