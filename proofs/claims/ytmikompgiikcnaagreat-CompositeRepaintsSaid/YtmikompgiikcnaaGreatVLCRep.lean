/-
  A part of the proof: what some of the program's functions compute.
-/
import Derived.Test.YtmikompgiikcnaaGreatRows
import Derived.Test.YtmikompgiikcnaaGreatVCI
import Derived.Test.YtmikompgiikcnaaGreatWRow
namespace Go.Proofs.YtmikompgiikcnaaGreat.compositeRepaints
open Go Go.E Go.Proofs Go.Proofs.YtmikompgiikcnaaGreat
open Go.RowKit
open Go.ChangeShapes Go.WideShapes Go.ChangeAt
set_option linter.unusedVariables false
theorem own : ownKnob Tryz.prog.godebug = none := by kernel_rfl
theorem laidOut : laidOutB Tryz.prog = true := by kernel_rfl
set_option maxRecDepth 100000 in
theorem lifted (os : Os) (started : os.Started) (H : Type) (enc : TypeId × Value → H) :
    ReturnsInHanded {} Tryz.checked os 9 .any (Rows.compositeRepaintsSpec.pre6 enc Tryz.prog Tryz.f9 Rows.compositeRepaintsRow.domain false) (Rows.compositeRepaintsSpec.post enc Tryz.prog Tryz.f9 false true false false) :=
  law_lifted (C := Tryz.checked) (ts := [22, 22, 46]) (tys := [(Ty.list ItemT), (Ty.list ItemT), FrameT]) (rt := 4) own laidOut started (by kernel_rfl) Tryz.func9 rfl rfl Tryz.underlying4 (by kernel_rfl) (by kernel_rfl) rfl
    (fun ds h => match ds, h with | [d0, d1, d2], _ => rfl) s_cpRepaints (fun x h => ⟨⟨⟨wf_items h.1, wf_px h.1⟩, wf_items h.2.1, wf_px h.2.1⟩, wf_pix h.2.2.1.2.1.1, wf_frame h.2.2.1⟩)
    (ChangeSpec.witness6 (enc := enc) (C := Tryz.checked) false ⟨#[], #[.slice none 0 0, .slice none 0 0, .agg #[.int .i64 0, .int .i64 0, .slice none 0 0, .int .u8 0, .int .u8 0, .int .u8 0, .int .u8 0, .int .i64 0, .int .i64 0, .int .i64 0, .int .i64 0, .slice none 0 0]], []⟩ 8 (by kernel_rfl) (by kernel_rfl) (by kernel_rfl) (by kernel_rfl))
theorem over : Rows.compositeRepaintsRow.holds Tryz.pinned (OpenSpec.ofChange Rows.compositeRepaintsSpec) :=
  OpenClaim.holds_of_wide 9 Tryz.f9 rfl rfl rfl rfl rfl rfl rfl ⟨rfl, rfl, rfl, rfl, rfl⟩ rfl rfl rfl rfl rfl (by kernel_rfl) Tryz.func9 (by kernel_rfl)
    (of_decide_eq_true (by kernel_rfl)) (by unfold Func.isWrapper; first | (rw [if_pos (by decide +kernel)]; kernel_rfl) | (rw [if_neg (by decide +kernel)]; exact ⟨rfl, rfl⟩))
    (fun os started H enc _ => lifted os started H enc)
theorem proved : Rows.CompositeRepaintsSaid := over
#print axioms proved
end Go.Proofs.YtmikompgiikcnaaGreat.compositeRepaints
namespace Go.Proofs.YtmikompgiikcnaaGreat
theorem compositeRepaints_holds : Rows.CompositeRepaintsSaid := compositeRepaints.proved
end Go.Proofs.YtmikompgiikcnaaGreat
