/-
  A part of the proof: what some of the program's functions compute.
-/
import Derived.Test.YtogbocplojbdjaaRows
import Derived.Test.YtogbocplojbdjaaVOG
import Derived.Test.YtogbocplojbdjaaWRow
namespace Go.Proofs.Ytogbocplojbdjaa.occludeHidden
open Go Go.E Go.Proofs Go.Proofs.Ytogbocplojbdjaa
open Go.RowKit
open Go.ChangeShapes Go.WideShapes Go.ChangeAt
set_option linter.unusedVariables false
theorem own : ownKnob Try.prog.godebug = none := by kernel_rfl
theorem laidOut : laidOutB Try.prog = true := by kernel_rfl
set_option maxRecDepth 100000 in
theorem lifted (os : Os) (started : os.Started) (H : Type) (enc : TypeId × Value → H) :
    ReturnsInHanded {} Try.checked os 3 .any (Rows.occludeHiddenSpec.pre6 enc Try.prog Try.f3 Rows.occludeHiddenRow.domain false) (Rows.occludeHiddenSpec.post enc Try.prog Try.f3 false true false false) :=
  law_lifted (C := Try.checked) (ts := [22, 24]) (tys := [(Ty.list ItemT), RectT]) (rt := 4) own laidOut started (by kernel_rfl) Try.func3 rfl rfl Try.underlying4 (by kernel_rfl) (by kernel_rfl) rfl
    (fun ds h => match ds, h with | [d0, d1], _ => rfl) s_OccludeHidden (fun x h => wf_items h.1)
    (ChangeSpec.witness6 (enc := enc) (C := Try.checked) false ⟨#[], #[.slice none 0 0, .agg #[.int .i64 0, .int .i64 0, .int .i64 0, .int .i64 0]], []⟩ 8 (by kernel_rfl) (by kernel_rfl) (by kernel_rfl) (by kernel_rfl))
theorem over : Rows.occludeHiddenRow.holds Try.pinned (OpenSpec.ofChange Rows.occludeHiddenSpec) :=
  OpenClaim.holds_of_wide 3 Try.f3 rfl rfl rfl rfl rfl rfl rfl ⟨rfl, rfl, rfl, rfl, rfl⟩ rfl rfl rfl rfl rfl (by kernel_rfl) Try.func3 (by kernel_rfl)
    (of_decide_eq_true (by kernel_rfl)) (by unfold Func.isWrapper; first | (rw [if_pos (by decide +kernel)]; kernel_rfl) | (rw [if_neg (by decide +kernel)]; exact ⟨rfl, rfl⟩))
    (fun os started H enc _ => lifted os started H enc)
theorem proved : Rows.OccludeHiddenSaid := over
#print axioms proved
end Go.Proofs.Ytogbocplojbdjaa.occludeHidden
namespace Go.Proofs.Ytogbocplojbdjaa
theorem occludeHidden_holds : Rows.OccludeHiddenSaid := occludeHidden.proved
end Go.Proofs.Ytogbocplojbdjaa
