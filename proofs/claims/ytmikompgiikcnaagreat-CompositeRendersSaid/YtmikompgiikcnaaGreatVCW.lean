/-
  A part of the proof: what some of the program's functions compute.
-/
import Derived.Test.YtmikompgiikcnaaGreatVCG
import Derived.Test.YtmikompgiikcnaaGreatWRow
namespace Go.Proofs.YtmikompgiikcnaaGreat
open Go Go.E Go.Proofs
set_option linter.unusedVariables false
theorem wf_items {l : List Item} (h : wfT (.list ItemT) l) : ItemsOk l := ⟨h.1, fun i hi => by
  obtain ⟨_, _, _, _, ⟨_, _, h1, _⟩, ⟨h2, _⟩, h3, _⟩ := h.2 i hi
  exact ⟨h1, h2, h3⟩⟩
theorem wf_u8 {n : Int} (h : wfT U8 n) : 0 ≤ n ∧ n ≤ 255 := by
  have h : (Lit.int .u8 n).wf = true := h
  simp only [Lit.wf] at h
  rw [Bool.and_eq_true, decide_eq_true_eq, decide_eq_true_eq] at h
  have e1 : IntKind.u8.min = 0 := by decide
  have e2 : IntKind.u8.max = 255 := by decide
  omega
theorem wf_pix {p : Pix} (h : wfT PixT p) : pixIn p := ⟨wf_u8 h.1, wf_u8 h.2.1, wf_u8 h.2.2.1, wf_u8 h.2.2.2⟩
def PxOk (l : List Item) : Prop := ∀ i ∈ l, ∀ p ∈ i.2.2.2.2.1.2.2, pixIn p
theorem wf_px {l : List Item} (h : wfT (.list ItemT) l) : PxOk l := fun i hi p hp => by
  obtain ⟨_, _, _, _, ⟨_, _, _, h1⟩, _⟩ := h.2 i hi
  exact wf_pix (h1 p hp)
theorem wf_frame {x : Frame} (h : wfT FrameT x) : FrameOk x := ⟨h.1.2.2.1, h.2.2.1⟩
end Go.Proofs.YtmikompgiikcnaaGreat
