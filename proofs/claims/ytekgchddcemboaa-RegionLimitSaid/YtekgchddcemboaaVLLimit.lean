/-
  A part of the proof: what some of the program's functions compute.
-/
import Derived.Test.YtekgchddcemboaaRows
import Derived.Test.YtekgchddcemboaaVRO
import Derived.Test.YtekgchddcemboaaWRow
namespace Go.Proofs.Ytekgchddcemboaa.regionLimit
open Go Go.E Go.Proofs Go.Proofs.Ytekgchddcemboaa
open Go.RowKit
open Go.ChangeShapes Go.WideShapes Go.ChangeAt
set_option linter.unusedVariables false
theorem u8_wf {n : Int} (h : (Lit.int .u8 n).wf = true) : 0 ≤ n ∧ n ≤ 255 := by
  simp only [Lit.wf, Bool.and_eq_true, decide_eq_true_eq] at h
  exact h
theorem own : ownKnob Try.prog.godebug = none := by kernel_rfl
theorem laidOut : laidOutB Try.prog = true := by kernel_rfl
set_option maxRecDepth 100000 in
theorem lifted (os : Os) (started : os.Started) (H : Type) (enc : TypeId × Value → H) :
    ReturnsInHanded {} Try.checked os 7 .any (Rows.regionLimitSpec.pre6 enc Try.prog Try.f7 Rows.regionLimitRow.domain false) (Rows.regionLimitSpec.post enc Try.prog Try.f7 false true false false) :=
  law_lifted (C := Try.checked) (ts := [5, 5]) (tys := [U8, U8]) (rt := 4) own laidOut started (by kernel_rfl) Try.func7 rfl rfl Try.underlying4 (by kernel_rfl) (by kernel_rfl) rfl
    (fun ds h => match ds, h with | [d0, d1], _ => rfl) s_RegionLimit (fun x h => ⟨u8_wf h.1, u8_wf h.2.1⟩)
    (ChangeSpec.witness6 (enc := enc) (C := Try.checked) false ⟨#[], #[.int .u8 0, .int .u8 0], []⟩ 8 (by kernel_rfl) (by kernel_rfl) (by kernel_rfl) (by kernel_rfl))
theorem over : Rows.regionLimitRow.holds Try.pinned (OpenSpec.ofChange Rows.regionLimitSpec) :=
  OpenClaim.holds_of_wide 7 Try.f7 rfl rfl rfl rfl rfl rfl rfl ⟨rfl, rfl, rfl, rfl, rfl⟩ rfl rfl rfl rfl rfl (by kernel_rfl) Try.func7 (by kernel_rfl)
    (of_decide_eq_true (by kernel_rfl)) (by unfold Func.isWrapper; first | (rw [if_pos (by decide +kernel)]; kernel_rfl) | (rw [if_neg (by decide +kernel)]; exact ⟨rfl, rfl⟩))
    (fun os started H enc _ => lifted os started H enc)
theorem proved : Rows.RegionLimitSaid := over
#print axioms proved
end Go.Proofs.Ytekgchddcemboaa.regionLimit
namespace Go.Proofs.Ytekgchddcemboaa
theorem regionLimit_holds : Rows.RegionLimitSaid := regionLimit.proved
end Go.Proofs.Ytekgchddcemboaa
