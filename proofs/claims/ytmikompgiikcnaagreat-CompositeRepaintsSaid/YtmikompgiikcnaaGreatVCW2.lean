/-
  A part of the proof: what some of the program's functions compute.
-/
import Derived.Test.YtmikompgiikcnaaGreatVCG2
import Derived.Test.YtmikompgiikcnaaGreatWRow
namespace Go.Proofs.YtmikompgiikcnaaGreat
open Go Go.E Go.Proofs
set_option linter.unusedVariables false
theorem wf_items {l : List Item} (h : wfT (.list ItemT) l) : ItemsOk l := ⟨h.1, fun i hi => by
  obtain ⟨_, _, _, _, ⟨_, _, h1, _⟩, ⟨h2, _⟩, h3, _⟩ := h.2 i hi
  exact ⟨h1, h2, h3⟩⟩
theorem wf_u8 {n : Int} (h : wfT U8 n) : 0 ≤ n ∧ n ≤ 255 := by
  have h : (Lit.int .u8 n).wf = true := h
  simp only [Lit.wf] at h
  rw [Bool.and_eq_true, decide_eq_true_eq, decide_eq_true_eq] at h
  have e1 : IntKind.u8.min = 0 := by decide
  have e2 : IntKind.u8.max = 255 := by decide
  omega
theorem wf_pix {p : Pix} (h : wfT PixT p) : pixIn p := ⟨wf_u8 h.1, wf_u8 h.2.1, wf_u8 h.2.2.1, wf_u8 h.2.2.2⟩
def PxOk (l : List Item) : Prop := ∀ i ∈ l, ∀ p ∈ i.2.2.2.2.1.2.2, pixIn p
theorem wf_px {l : List Item} (h : wfT (.list ItemT) l) : PxOk l := fun i hi p hp => by
  obtain ⟨_, _, _, _, ⟨_, _, _, h1⟩, _⟩ := h.2 i hi
  exact wf_pix (h1 p hp)
theorem wf_frame {x : Frame} (h : wfT FrameT x) : FrameOk x := ⟨h.1.2.2.1, h.2.2.1⟩
theorem item_hit {i : Item} (h : ItemIn i) (x y : Int) : insideR (boundsI i) x y = hitL (layerOf i).1 x y := by
  have he : emptyR (boundsI i) = false := by
    rw [empty_iff, h.bounds]
    have := h.w
    have := h.h
    have := h.x
    have := h.y
    simp only
    omega
  rw [insideR, he]
  rfl
theorem item_idx {i : Item} (h : ItemIn i) {x y : Int} (hh : hitL (layerOf i).1 x y = true) :
    IntKind.i64.wrap (IntKind.i64.wrap (IntKind.i64.wrap (IntKind.i64.wrap (y - i.2.2.2.1) * i.2.2.2.2.1.1) + x) - i.2.2.1) = idxL (layerOf i).1 x y ∧ 0 ≤ idxL (layerOf i).1 x y ∧ idxL (layerOf i).1 x y + 1 ≤ i.2.2.2.2.1.2.2.length := by
  obtain ⟨h1, h2, h3⟩ := idx_in (item_paint h) hh
  refine ⟨?_, h2, h3⟩
  rw [← h1]
  have hb := h.bounds
  have hw := h.w
  have hx := h.x
  simp only [layerOf, hb]
  rw [wrap_in (n := i.2.2.1 + i.2.2.2.2.1.1 - i.2.2.1) (by omega), show i.2.2.1 + i.2.2.2.2.1.1 - i.2.2.1 = i.2.2.2.2.1.1 by omega]
end Go.Proofs.YtmikompgiikcnaaGreat
