/-
  A part of the proof: what some of the program's functions compute.
-/
import Derived.Test.YtmikompgiikcnaaGreatRows
import Derived.Test.YtmikompgiikcnaaGreatVCH
import Derived.Test.YtmikompgiikcnaaGreatWRow
namespace Go.Proofs.YtmikompgiikcnaaGreat.compositeHides
open Go Go.E Go.Proofs Go.Proofs.YtmikompgiikcnaaGreat
open Go.RowKit
open Go.ChangeShapes Go.WideShapes Go.ChangeAt
set_option linter.unusedVariables false
theorem own : ownKnob Tryz.prog.godebug = none := by kernel_rfl
theorem laidOut : laidOutB Tryz.prog = true := by kernel_rfl
set_option maxRecDepth 100000 in
theorem lifted (os : Os) (started : os.Started) (H : Type) (enc : TypeId × Value → H) :
    ReturnsInHanded {} Tryz.checked os 8 .any (Rows.compositeHidesSpec.pre6 enc Tryz.prog Tryz.f8 Rows.compositeHidesRow.domain false) (Rows.compositeHidesSpec.post enc Tryz.prog Tryz.f8 false true false false) :=
  law_lifted (C := Tryz.checked) (ts := [22, 3, 26]) (tys := [(Ty.list ItemT), I64, PointT]) (rt := 4) own laidOut started (by kernel_rfl) Tryz.func8 rfl rfl Tryz.underlying4 (by kernel_rfl) (by kernel_rfl) rfl
    (fun ds h => match ds, h with | [d0, d1, d2], _ => rfl) s_cpHides (fun x h => ⟨wf_items h.1, wf_px h.1⟩)
    (ChangeSpec.witness6 (enc := enc) (C := Tryz.checked) false ⟨#[], #[.slice none 0 0, .int .i64 0, .agg #[.int .i64 0, .int .i64 0]], []⟩ 8 (by kernel_rfl) (by kernel_rfl) (by kernel_rfl) (by kernel_rfl))
theorem over : Rows.compositeHidesRow.holds Tryz.pinned (OpenSpec.ofChange Rows.compositeHidesSpec) :=
  OpenClaim.holds_of_wide 8 Tryz.f8 rfl rfl rfl rfl rfl rfl rfl ⟨rfl, rfl, rfl, rfl, rfl⟩ rfl rfl rfl rfl rfl (by kernel_rfl) Tryz.func8 (by kernel_rfl)
    (of_decide_eq_true (by kernel_rfl)) (by unfold Func.isWrapper; first | (rw [if_pos (by decide +kernel)]; kernel_rfl) | (rw [if_neg (by decide +kernel)]; exact ⟨rfl, rfl⟩))
    (fun os started H enc _ => lifted os started H enc)
theorem proved : Rows.CompositeHidesSaid := over
#print axioms proved
end Go.Proofs.YtmikompgiikcnaaGreat.compositeHides
namespace Go.Proofs.YtmikompgiikcnaaGreat
theorem compositeHides_holds : Rows.CompositeHidesSaid := compositeHides.proved
end Go.Proofs.YtmikompgiikcnaaGreat
