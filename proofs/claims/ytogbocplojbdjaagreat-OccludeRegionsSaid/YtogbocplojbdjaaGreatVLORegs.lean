/-
  A part of the proof: what some of the program's functions compute.
-/
import Derived.Test.YtogbocplojbdjaaGreatRows
import Derived.Test.YtogbocplojbdjaaGreatVOF
import Derived.Test.YtogbocplojbdjaaGreatWRow
namespace Go.Proofs.YtogbocplojbdjaaGreat.occludeRegions
open Go Go.E Go.Proofs Go.Proofs.YtogbocplojbdjaaGreat
open Go.RowKit
open Go.ChangeShapes Go.WideShapes Go.ChangeAt
set_option linter.unusedVariables false
theorem own : ownKnob Tryz.prog.godebug = none := by kernel_rfl
theorem laidOut : laidOutB Tryz.prog = true := by kernel_rfl
set_option maxRecDepth 100000 in
theorem lifted (os : Os) (started : os.Started) (H : Type) (enc : TypeId × Value → H) :
    ReturnsInHanded {} Tryz.checked os 3 .any (Rows.occludeRegionsSpec.pre6 enc Tryz.prog Tryz.f3 Rows.occludeRegionsRow.domain false) (Rows.occludeRegionsSpec.post enc Tryz.prog Tryz.f3 false true false false) :=
  law_lifted (C := Tryz.checked) (ts := [22, 24]) (tys := [(Ty.list ItemT), RectT]) (rt := 4) own laidOut started (by kernel_rfl) Tryz.func3 rfl rfl Tryz.underlying4 (by kernel_rfl) (by kernel_rfl) rfl
    (fun ds h => match ds, h with | [d0, d1], _ => rfl) s_OccludeRegions (fun x h => wf_items h.1)
    (ChangeSpec.witness6 (enc := enc) (C := Tryz.checked) false ⟨#[], #[.slice none 0 0, .agg #[.int .i64 0, .int .i64 0, .int .i64 0, .int .i64 0]], []⟩ 8 (by kernel_rfl) (by kernel_rfl) (by kernel_rfl) (by kernel_rfl))
theorem over : Rows.occludeRegionsRow.holds Tryz.pinned (OpenSpec.ofChange Rows.occludeRegionsSpec) :=
  OpenClaim.holds_of_wide 3 Tryz.f3 rfl rfl rfl rfl rfl rfl rfl ⟨rfl, rfl, rfl, rfl, rfl⟩ rfl rfl rfl rfl rfl (by kernel_rfl) Tryz.func3 (by kernel_rfl)
    (of_decide_eq_true (by kernel_rfl)) (by unfold Func.isWrapper; first | (rw [if_pos (by decide +kernel)]; kernel_rfl) | (rw [if_neg (by decide +kernel)]; exact ⟨rfl, rfl⟩))
    (fun os started H enc _ => lifted os started H enc)
theorem proved : Rows.OccludeRegionsSaid := over
#print axioms proved
end Go.Proofs.YtogbocplojbdjaaGreat.occludeRegions
namespace Go.Proofs.YtogbocplojbdjaaGreat
theorem occludeRegions_holds : Rows.OccludeRegionsSaid := occludeRegions.proved
end Go.Proofs.YtogbocplojbdjaaGreat
