/-
  A part of the proof: what some of the program's functions compute.
-/
import Derived.Test.YtgjfofeaakdihaaRows
import Derived.Test.YtgjfofeaakdihaaVTa
import Derived.Test.YtgjfofeaakdihaaWRow
namespace Go.Proofs.Ytgjfofeaakdihaa.touchOwnership
open Go Go.E Go.Proofs Go.Proofs.Ytgjfofeaakdihaa
open Go.RowKit
open Go.ChangeShapes Go.WideShapes Go.ChangeAt
set_option linter.unusedVariables false
theorem wf_inp {e : Inp} : True := trivial
theorem wf_ops {x : ATs ([Ty.list OpT].map .d)} (h : wfAs [Ty.list OpT] x) : OpsOk x.1 := by
  obtain ⟨⟨h1, h2⟩, _⟩ := h
  refine ⟨h1, fun o ho => ?_⟩
  obtain ⟨_, _, ⟨h3, h4⟩, _⟩ := h2 o ho
  refine ⟨h3, fun i hi => ?_⟩
  obtain ⟨_, _, _, _, ⟨_, _, h5, _⟩, ⟨h6, _⟩, h7, _⟩ := h4 i hi
  exact ⟨h5, h6, h7⟩
theorem own : ownKnob Try.prog.godebug = none := by kernel_rfl
theorem laidOut : laidOutB Try.prog = true := by kernel_rfl
set_option maxRecDepth 100000 in
theorem lifted (os : Os) (started : os.Started) (H : Type) (enc : TypeId × Value → H) :
    ReturnsInHanded {} Try.checked os 3 .any (Rows.touchOwnershipSpec.pre6 enc Try.prog Try.f3 Rows.touchOwnershipRow.domain false) (Rows.touchOwnershipSpec.post enc Try.prog Try.f3 false true false false) :=
  law_lifted (C := Try.checked) (ts := [22]) (tys := [(Ty.list OpT)]) (rt := 4) own laidOut started (by kernel_rfl) Try.func3 rfl rfl Try.underlying4 (by kernel_rfl) (by kernel_rfl) rfl
    (fun ds h => match ds, h with | [d0], _ => rfl) s_TouchOwnership (fun x h => wf_ops h)
    (ChangeSpec.witness6 (enc := enc) (C := Try.checked) false ⟨#[], #[.slice none 0 0], []⟩ 8 (by kernel_rfl) (by kernel_rfl) (by kernel_rfl) (by kernel_rfl))
theorem over : Rows.touchOwnershipRow.holds Try.pinned (OpenSpec.ofChange Rows.touchOwnershipSpec) :=
  OpenClaim.holds_of_wide 3 Try.f3 rfl rfl rfl rfl rfl rfl rfl ⟨rfl, rfl, rfl, rfl, rfl⟩ rfl rfl rfl rfl rfl (by kernel_rfl) Try.func3 (by kernel_rfl)
    (of_decide_eq_true (by kernel_rfl)) (by unfold Func.isWrapper; first | (rw [if_pos (by decide +kernel)]; kernel_rfl) | (rw [if_neg (by decide +kernel)]; exact ⟨rfl, rfl⟩))
    (fun os started H enc _ => lifted os started H enc)
theorem proved : Rows.TouchOwnershipSaid := over
#print axioms proved
end Go.Proofs.Ytgjfofeaakdihaa.touchOwnership
namespace Go.Proofs.Ytgjfofeaakdihaa
theorem touchOwnership_holds : Rows.TouchOwnershipSaid := touchOwnership.proved
end Go.Proofs.Ytgjfofeaakdihaa
