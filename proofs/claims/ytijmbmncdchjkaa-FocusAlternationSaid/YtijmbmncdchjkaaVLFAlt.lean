/-
  A part of the proof: what some of the program's functions compute.
-/
import Derived.Test.YtijmbmncdchjkaaRows
import Derived.Test.YtijmbmncdchjkaaVFH
import Derived.Test.YtijmbmncdchjkaaWRow
namespace Go.Proofs.Ytijmbmncdchjkaa.focusAlternation
open Go Go.E Go.Proofs Go.Proofs.Ytijmbmncdchjkaa
open Go.RowKit
open Go.ChangeShapes Go.WideShapes Go.ChangeAt
set_option linter.unusedVariables false
theorem wf_ops {x : ATs ([Ty.list OpT].map .d)} (h : wfAs [Ty.list OpT] x) : OpsOk x.1 := by
  obtain ⟨⟨h1, h2⟩, _⟩ := h
  refine ⟨h1, fun o ho => ?_⟩
  obtain ⟨_, _, _, ⟨h3, _⟩⟩ := h2 o ho
  exact h3
theorem own : ownKnob Try.prog.godebug = none := by kernel_rfl
theorem laidOut : laidOutB Try.prog = true := by kernel_rfl
set_option maxRecDepth 100000 in
theorem lifted (os : Os) (started : os.Started) (H : Type) (enc : TypeId × Value → H) :
    ReturnsInHanded {} Try.checked os 5 .any (Rows.focusAlternationSpec.pre6 enc Try.prog Try.f5 Rows.focusAlternationRow.domain false) (Rows.focusAlternationSpec.post enc Try.prog Try.f5 false true false false) :=
  law_lifted (C := Try.checked) (ts := [51]) (tys := [(Ty.list OpT)]) (rt := 4) own laidOut started (by kernel_rfl) Try.func5 rfl rfl Try.underlying4 (by kernel_rfl) (by kernel_rfl) rfl
    (fun ds h => match ds, h with | [d0], _ => rfl) s_fAlt (fun x h => wf_ops h)
    (ChangeSpec.witness6 (enc := enc) (C := Try.checked) false ⟨#[], #[.slice none 0 0], []⟩ 8 (by kernel_rfl) (by kernel_rfl) (by kernel_rfl) (by kernel_rfl))
theorem over : Rows.focusAlternationRow.holds Try.pinned (OpenSpec.ofChange Rows.focusAlternationSpec) :=
  OpenClaim.holds_of_wide 5 Try.f5 rfl rfl rfl rfl rfl rfl rfl ⟨rfl, rfl, rfl, rfl, rfl⟩ rfl rfl rfl rfl rfl (by kernel_rfl) Try.func5 (by kernel_rfl)
    (of_decide_eq_true (by kernel_rfl)) (by unfold Func.isWrapper; first | (rw [if_pos (by decide +kernel)]; kernel_rfl) | (rw [if_neg (by decide +kernel)]; exact ⟨rfl, rfl⟩))
    (fun os started H enc _ => lifted os started H enc)
theorem proved : Rows.FocusAlternationSaid := over
#print axioms proved
end Go.Proofs.Ytijmbmncdchjkaa.focusAlternation
namespace Go.Proofs.Ytijmbmncdchjkaa
theorem focusAlternation_holds : Rows.FocusAlternationSaid := focusAlternation.proved
end Go.Proofs.Ytijmbmncdchjkaa
