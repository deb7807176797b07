/-
  No cell of these rows narrows 'for every input' (looked for: loops, veiled, ifaces, maps, wideKeys, modest, calm, conditions, laid).
  DERIVED. THE GIVEN ROWS OF THIS SEAT. 7 by the template 'for every input the law returns true; each argument reads behind the call as it read before'; 0 by the template 'total and deterministic' (their statements: YtmikompgiikcnaaGreatTotals.lean).
  GIVEN WITH THE SEED: the statements are not yours to turn. If you find one false, say at which input.
  Laid BY PROGRAM, IN A SANDBOX (cutbox-rows.mjs): the forced cells as the released guide's own fill.sh prints them over the translation ec89e1296bf5cc64… (all of the seat's roots in one cut). By AI agents, Wed Nov 11 2026. No macro, syntax, notation, axiom, sorry.
-/
import Derived.Test.YtmikompgiikcnaaGreatChecked
import GoSem.Claim
import GoSem.ClaimJoined
import GoSem.ClaimMapViews
import Derived.JoinedTies
import Derived.KernelRfl
namespace Go.Proofs.YtmikompgiikcnaaGreat
/- THE CELL 'sum', in the pinned program and in every row, IS THE sha256 OF THE DUMP (.gsa) THAT YtmikompgiikcnaaGreatProg.lean LOADS. Nothing in Lean hashes anything: it is a label: what it is worth is what the hold of that sum in a sandbox is worth. -/
noncomputable def Tryz.pinned : Pinned := { name := "ytmikompgiikcnaagreat", sum := "ec89e1296bf5cc6442dff586f7e067c9512f92c0cad089354fa366bdd8468f9f", checked := Tryz.checked }
namespace Rows
def none {H : Type} : Left H := { results := [], args := [] }

/-- 'compositorlaw28.CompositePoints': WHATEVER THE INPUT: true; the input reads as it did. -/
def compositePointsSpec : ChangeSpec := { name := "compositePoints", fn := fun _ => fun
  | [d1, d2, d3] => { results := [.lit (.bool true)], args := [d1, d2, d3] }
  | _ => none }
def compositePointsRow : OpenClaim := { program := "ytmikompgiikcnaagreat", sum := "ec89e1296bf5cc6442dff586f7e067c9512f92c0cad089354fa366bdd8468f9f", func := "compositor/compositorlaw28.CompositePoints", spec := "compositePoints", unfollowed := true, recurses := true, apart := false }
def CompositePointsSaid : Prop := compositePointsRow.holds Tryz.pinned (OpenSpec.ofChange compositePointsSpec)

/-- ITS FALSE NEIGHBOUR: 'it returns false'. Refute it at one input. -/
def compositePointsWrong : ChangeSpec := { name := "compositePoints", fn := fun _ => fun
  | [d1, d2, d3] => { results := [.lit (.bool false)], args := [d1, d2, d3] }
  | _ => none }
def CompositePointsWrongFalsely : Prop := compositePointsRow.holds Tryz.pinned (OpenSpec.ofChange compositePointsWrong)

/-- 'compositorlaw28.CompositeRenders': WHATEVER THE INPUT: true; the input reads as it did. -/
def compositeRendersSpec : ChangeSpec := { name := "compositeRenders", fn := fun _ => fun
  | [d1, d2] => { results := [.lit (.bool true)], args := [d1, d2] }
  | _ => none }
def compositeRendersRow : OpenClaim := { program := "ytmikompgiikcnaagreat", sum := "ec89e1296bf5cc6442dff586f7e067c9512f92c0cad089354fa366bdd8468f9f", func := "compositor/compositorlaw28.CompositeRenders", spec := "compositeRenders", unfollowed := true, recurses := true, apart := false }
def CompositeRendersSaid : Prop := compositeRendersRow.holds Tryz.pinned (OpenSpec.ofChange compositeRendersSpec)

/-- ITS FALSE NEIGHBOUR: 'it returns false'. Refute it at one input. -/
def compositeRendersWrong : ChangeSpec := { name := "compositeRenders", fn := fun _ => fun
  | [d1, d2] => { results := [.lit (.bool false)], args := [d1, d2] }
  | _ => none }
def CompositeRendersWrongFalsely : Prop := compositeRendersRow.holds Tryz.pinned (OpenSpec.ofChange compositeRendersWrong)

/-- 'compositorlaw28.CompositeUpdates': WHATEVER THE INPUT: true; the input reads as it did. -/
def compositeUpdatesSpec : ChangeSpec := { name := "compositeUpdates", fn := fun _ => fun
  | [d1, d2] => { results := [.lit (.bool true)], args := [d1, d2] }
  | _ => none }
def compositeUpdatesRow : OpenClaim := { program := "ytmikompgiikcnaagreat", sum := "ec89e1296bf5cc6442dff586f7e067c9512f92c0cad089354fa366bdd8468f9f", func := "compositor/compositorlaw28.CompositeUpdates", spec := "compositeUpdates", unfollowed := true, recurses := true, apart := false }
def CompositeUpdatesSaid : Prop := compositeUpdatesRow.holds Tryz.pinned (OpenSpec.ofChange compositeUpdatesSpec)

/-- ITS FALSE NEIGHBOUR: 'it returns false'. Refute it at one input. -/
def compositeUpdatesWrong : ChangeSpec := { name := "compositeUpdates", fn := fun _ => fun
  | [d1, d2] => { results := [.lit (.bool false)], args := [d1, d2] }
  | _ => none }
def CompositeUpdatesWrongFalsely : Prop := compositeUpdatesRow.holds Tryz.pinned (OpenSpec.ofChange compositeUpdatesWrong)

/-- 'compositorlaw28.CompositePixel': WHATEVER THE INPUT: true; the input reads as it did. -/
def compositePixelSpec : ChangeSpec := { name := "compositePixel", fn := fun _ => fun
  | [d1, d2] => { results := [.lit (.bool true)], args := [d1, d2] }
  | _ => none }
def compositePixelRow : OpenClaim := { program := "ytmikompgiikcnaagreat", sum := "ec89e1296bf5cc6442dff586f7e067c9512f92c0cad089354fa366bdd8468f9f", func := "compositor/compositorlaw28.CompositePixel", spec := "compositePixel", unfollowed := true, recurses := true, apart := false }
def CompositePixelSaid : Prop := compositePixelRow.holds Tryz.pinned (OpenSpec.ofChange compositePixelSpec)

/-- ITS FALSE NEIGHBOUR: 'it returns false'. Refute it at one input. -/
def compositePixelWrong : ChangeSpec := { name := "compositePixel", fn := fun _ => fun
  | [d1, d2] => { results := [.lit (.bool false)], args := [d1, d2] }
  | _ => none }
def CompositePixelWrongFalsely : Prop := compositePixelRow.holds Tryz.pinned (OpenSpec.ofChange compositePixelWrong)

/-- 'compositorlaw28.CompositeParts': WHATEVER THE INPUT: true; the input reads as it did. -/
def compositePartsSpec : ChangeSpec := { name := "compositeParts", fn := fun _ => fun
  | [d1, d2, d3] => { results := [.lit (.bool true)], args := [d1, d2, d3] }
  | _ => none }
def compositePartsRow : OpenClaim := { program := "ytmikompgiikcnaagreat", sum := "ec89e1296bf5cc6442dff586f7e067c9512f92c0cad089354fa366bdd8468f9f", func := "compositor/compositorlaw28.CompositeParts", spec := "compositeParts", unfollowed := true, recurses := true, apart := false }
def CompositePartsSaid : Prop := compositePartsRow.holds Tryz.pinned (OpenSpec.ofChange compositePartsSpec)

/-- ITS FALSE NEIGHBOUR: 'it returns false'. Refute it at one input. -/
def compositePartsWrong : ChangeSpec := { name := "compositeParts", fn := fun _ => fun
  | [d1, d2, d3] => { results := [.lit (.bool false)], args := [d1, d2, d3] }
  | _ => none }
def CompositePartsWrongFalsely : Prop := compositePartsRow.holds Tryz.pinned (OpenSpec.ofChange compositePartsWrong)

/-- 'compositorlaw28.CompositeHides': WHATEVER THE INPUT: true; the input reads as it did. -/
def compositeHidesSpec : ChangeSpec := { name := "compositeHides", fn := fun _ => fun
  | [d1, d2, d3] => { results := [.lit (.bool true)], args := [d1, d2, d3] }
  | _ => none }
def compositeHidesRow : OpenClaim := { program := "ytmikompgiikcnaagreat", sum := "ec89e1296bf5cc6442dff586f7e067c9512f92c0cad089354fa366bdd8468f9f", func := "compositor/compositorlaw28.CompositeHides", spec := "compositeHides", unfollowed := true, recurses := true, apart := false }
def CompositeHidesSaid : Prop := compositeHidesRow.holds Tryz.pinned (OpenSpec.ofChange compositeHidesSpec)

/-- ITS FALSE NEIGHBOUR: 'it returns false'. Refute it at one input. -/
def compositeHidesWrong : ChangeSpec := { name := "compositeHides", fn := fun _ => fun
  | [d1, d2, d3] => { results := [.lit (.bool false)], args := [d1, d2, d3] }
  | _ => none }
def CompositeHidesWrongFalsely : Prop := compositeHidesRow.holds Tryz.pinned (OpenSpec.ofChange compositeHidesWrong)

/-- 'compositorlaw28.CompositeRepaints': WHATEVER THE INPUT: true; the input reads as it did. -/
def compositeRepaintsSpec : ChangeSpec := { name := "compositeRepaints", fn := fun _ => fun
  | [d1, d2, d3] => { results := [.lit (.bool true)], args := [d1, d2, d3] }
  | _ => none }
def compositeRepaintsRow : OpenClaim := { program := "ytmikompgiikcnaagreat", sum := "ec89e1296bf5cc6442dff586f7e067c9512f92c0cad089354fa366bdd8468f9f", func := "compositor/compositorlaw28.CompositeRepaints", spec := "compositeRepaints", unfollowed := true, recurses := true, apart := false }
def CompositeRepaintsSaid : Prop := compositeRepaintsRow.holds Tryz.pinned (OpenSpec.ofChange compositeRepaintsSpec)

/-- ITS FALSE NEIGHBOUR: 'it returns false'. Refute it at one input. -/
def compositeRepaintsWrong : ChangeSpec := { name := "compositeRepaints", fn := fun _ => fun
  | [d1, d2, d3] => { results := [.lit (.bool false)], args := [d1, d2, d3] }
  | _ => none }
def CompositeRepaintsWrongFalsely : Prop := compositeRepaintsRow.holds Tryz.pinned (OpenSpec.ofChange compositeRepaintsWrong)

/- THE SECOND FORM. 'bulk': how many values and letters a reading holds, each counted each time it is reached (what is shared counts as often as it is met; a slice's spare places count too). A statement '..UptoSaid' is the law's where the arguments, and the package variables that the reading takes, are together of bulk at most 1048576: NARROWER than '..Said'. Prove '..Said' where nothing that the law and all that it calls make is longer than what came in: it says more and counts as full. Else prove '..UptoSaid'. A law counts once. -/
mutual
def uptoBulk {H : Type} : DataW H → Nat
  | .lit (.string bytes) => bytes.length + 1
  | .lit _ => 1
  | .nil => 1
  | .ptr d => uptoBulk d + 1
  | .slice elems spare => uptoBulkAll elems + uptoBulkAll spare + 1
  | .agg parts => uptoBulkAll parts + 1
  | .iface _ d => uptoBulk d + 1
  | .map entries => uptoBulkEntries entries + 1
  | .held _ => 1
def uptoBulkAll {H : Type} : List (DataW H) → Nat
  | [] => 0
  | d :: r => uptoBulk d + uptoBulkAll r
def uptoBulkEntries {H : Type} : List (Lit × DataW H) → Nat
  | [] => 0
  | x :: r => uptoBulkEntry x + uptoBulkEntries r
def uptoBulkEntry {H : Type} : Lit × DataW H → Nat
  | (.string bytes, d) => bytes.length + uptoBulk d + 1
  | (_, d) => uptoBulk d + 1
 end
def uptoSmall : (H : Type) → List (DataW H) → Bool := fun _ ds => decide (uptoBulkAll ds ≤ 1048576)
def OpenSpec.upto (s : _root_.Go.ChangeSpec) : _root_.Go.OpenSpec := { _root_.Go.OpenSpec.ofChange s with cond := some uptoSmall }

/-- 'compositorlaw28.CompositePoints', WHERE WHAT IT READS IS OF BULK AT MOST 1048576: true; the input reads as it did. -/
def compositePointsUptoRow : OpenClaim := { program := "ytmikompgiikcnaagreat", sum := "ec89e1296bf5cc6442dff586f7e067c9512f92c0cad089354fa366bdd8468f9f", func := "compositor/compositorlaw28.CompositePoints", spec := "compositePoints", unfollowed := true, recurses := true, apart := false, narrowed := true }
def CompositePointsUptoSaid : Prop := compositePointsUptoRow.holds Tryz.pinned (OpenSpec.upto compositePointsSpec)

/-- 'compositorlaw28.CompositeRenders', WHERE WHAT IT READS IS OF BULK AT MOST 1048576: true; the input reads as it did. -/
def compositeRendersUptoRow : OpenClaim := { program := "ytmikompgiikcnaagreat", sum := "ec89e1296bf5cc6442dff586f7e067c9512f92c0cad089354fa366bdd8468f9f", func := "compositor/compositorlaw28.CompositeRenders", spec := "compositeRenders", unfollowed := true, recurses := true, apart := false, narrowed := true }
def CompositeRendersUptoSaid : Prop := compositeRendersUptoRow.holds Tryz.pinned (OpenSpec.upto compositeRendersSpec)

/-- 'compositorlaw28.CompositeUpdates', WHERE WHAT IT READS IS OF BULK AT MOST 1048576: true; the input reads as it did. -/
def compositeUpdatesUptoRow : OpenClaim := { program := "ytmikompgiikcnaagreat", sum := "ec89e1296bf5cc6442dff586f7e067c9512f92c0cad089354fa366bdd8468f9f", func := "compositor/compositorlaw28.CompositeUpdates", spec := "compositeUpdates", unfollowed := true, recurses := true, apart := false, narrowed := true }
def CompositeUpdatesUptoSaid : Prop := compositeUpdatesUptoRow.holds Tryz.pinned (OpenSpec.upto compositeUpdatesSpec)

/-- 'compositorlaw28.CompositePixel', WHERE WHAT IT READS IS OF BULK AT MOST 1048576: true; the input reads as it did. -/
def compositePixelUptoRow : OpenClaim := { program := "ytmikompgiikcnaagreat", sum := "ec89e1296bf5cc6442dff586f7e067c9512f92c0cad089354fa366bdd8468f9f", func := "compositor/compositorlaw28.CompositePixel", spec := "compositePixel", unfollowed := true, recurses := true, apart := false, narrowed := true }
def CompositePixelUptoSaid : Prop := compositePixelUptoRow.holds Tryz.pinned (OpenSpec.upto compositePixelSpec)

/-- 'compositorlaw28.CompositeParts', WHERE WHAT IT READS IS OF BULK AT MOST 1048576: true; the input reads as it did. -/
def compositePartsUptoRow : OpenClaim := { program := "ytmikompgiikcnaagreat", sum := "ec89e1296bf5cc6442dff586f7e067c9512f92c0cad089354fa366bdd8468f9f", func := "compositor/compositorlaw28.CompositeParts", spec := "compositeParts", unfollowed := true, recurses := true, apart := false, narrowed := true }
def CompositePartsUptoSaid : Prop := compositePartsUptoRow.holds Tryz.pinned (OpenSpec.upto compositePartsSpec)

/-- 'compositorlaw28.CompositeHides', WHERE WHAT IT READS IS OF BULK AT MOST 1048576: true; the input reads as it did. -/
def compositeHidesUptoRow : OpenClaim := { program := "ytmikompgiikcnaagreat", sum := "ec89e1296bf5cc6442dff586f7e067c9512f92c0cad089354fa366bdd8468f9f", func := "compositor/compositorlaw28.CompositeHides", spec := "compositeHides", unfollowed := true, recurses := true, apart := false, narrowed := true }
def CompositeHidesUptoSaid : Prop := compositeHidesUptoRow.holds Tryz.pinned (OpenSpec.upto compositeHidesSpec)

/-- 'compositorlaw28.CompositeRepaints', WHERE WHAT IT READS IS OF BULK AT MOST 1048576: true; the input reads as it did. -/
def compositeRepaintsUptoRow : OpenClaim := { program := "ytmikompgiikcnaagreat", sum := "ec89e1296bf5cc6442dff586f7e067c9512f92c0cad089354fa366bdd8468f9f", func := "compositor/compositorlaw28.CompositeRepaints", spec := "compositeRepaints", unfollowed := true, recurses := true, apart := false, narrowed := true }
def CompositeRepaintsUptoSaid : Prop := compositeRepaintsUptoRow.holds Tryz.pinned (OpenSpec.upto compositeRepaintsSpec)

end Rows
end Go.Proofs.YtmikompgiikcnaaGreat
