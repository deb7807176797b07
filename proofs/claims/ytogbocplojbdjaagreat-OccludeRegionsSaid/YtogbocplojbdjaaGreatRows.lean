/-
  No cell of these rows narrows 'for every input' (looked for: loops, veiled, ifaces, maps, wideKeys, modest, calm, conditions, laid).
  DERIVED. THE GIVEN ROWS OF THIS SEAT. 7 by the template 'for every input the law returns true; each argument reads behind the call as it read before'; 0 by the template 'total and deterministic' (their statements: YtogbocplojbdjaaGreatTotals.lean).
  GIVEN WITH THE SEED: the statements are not yours to turn. If you find one false, say at which input.
  Laid BY PROGRAM, IN A SANDBOX (cutbox-rows.mjs): the forced cells as the released guide's own fill.sh prints them over the translation 1b4f416523c173eb… (all of the seat's roots in one cut). By AI agents, Wed Nov 11 2026. No macro, syntax, notation, axiom, sorry.
-/
import Derived.Test.YtogbocplojbdjaaGreatChecked
import GoSem.Claim
import GoSem.ClaimJoined
import GoSem.ClaimMapViews
import Derived.JoinedTies
import Derived.KernelRfl
namespace Go.Proofs.YtogbocplojbdjaaGreat
/- THE CELL 'sum', in the pinned program and in every row, IS THE sha256 OF THE DUMP (.gsa) THAT YtogbocplojbdjaaGreatProg.lean LOADS. Nothing in Lean hashes anything: it is a label: what it is worth is what the hold of that sum in a sandbox is worth. -/
noncomputable def Tryz.pinned : Pinned := { name := "ytogbocplojbdjaagreat", sum := "1b4f416523c173eb3a567048ebc4e87a11fd1c908ba3872d12e21e4ee32e0afd", checked := Tryz.checked }
namespace Rows
def none {H : Type} : Left H := { results := [], args := [] }

/-- 'compositorlaw26.OccludeRegions': WHATEVER THE INPUT: true; the input reads as it did. -/
def occludeRegionsSpec : ChangeSpec := { name := "occludeRegions", fn := fun _ => fun
  | [d1, d2] => { results := [.lit (.bool true)], args := [d1, d2] }
  | _ => none }
def occludeRegionsRow : OpenClaim := { program := "ytogbocplojbdjaagreat", sum := "1b4f416523c173eb3a567048ebc4e87a11fd1c908ba3872d12e21e4ee32e0afd", func := "compositor/compositorlaw26.OccludeRegions", spec := "occludeRegions", unfollowed := true, recurses := true, apart := false }
def OccludeRegionsSaid : Prop := occludeRegionsRow.holds Tryz.pinned (OpenSpec.ofChange occludeRegionsSpec)

/-- ITS FALSE NEIGHBOUR: 'it returns false'. Refute it at one input. -/
def occludeRegionsWrong : ChangeSpec := { name := "occludeRegions", fn := fun _ => fun
  | [d1, d2] => { results := [.lit (.bool false)], args := [d1, d2] }
  | _ => none }
def OccludeRegionsWrongFalsely : Prop := occludeRegionsRow.holds Tryz.pinned (OpenSpec.ofChange occludeRegionsWrong)

/-- 'compositorlaw27.DamageBetween': WHATEVER THE INPUT: true; the input reads as it did. -/
def damageBetweenSpec : ChangeSpec := { name := "damageBetween", fn := fun _ => fun
  | [d1, d2] => { results := [.lit (.bool true)], args := [d1, d2] }
  | _ => none }
def damageBetweenRow : OpenClaim := { program := "ytogbocplojbdjaagreat", sum := "1b4f416523c173eb3a567048ebc4e87a11fd1c908ba3872d12e21e4ee32e0afd", func := "compositor/compositorlaw27.DamageBetween", spec := "damageBetween", unfollowed := true, recurses := true, apart := false }
def DamageBetweenSaid : Prop := damageBetweenRow.holds Tryz.pinned (OpenSpec.ofChange damageBetweenSpec)

/-- ITS FALSE NEIGHBOUR: 'it returns false'. Refute it at one input. -/
def damageBetweenWrong : ChangeSpec := { name := "damageBetween", fn := fun _ => fun
  | [d1, d2] => { results := [.lit (.bool false)], args := [d1, d2] }
  | _ => none }
def DamageBetweenWrongFalsely : Prop := damageBetweenRow.holds Tryz.pinned (OpenSpec.ofChange damageBetweenWrong)

/-- 'compositorlaw27.DamageComplete': WHATEVER THE INPUT: true; the input reads as it did. -/
def damageCompleteSpec : ChangeSpec := { name := "damageComplete", fn := fun _ => fun
  | [d1, d2, d3] => { results := [.lit (.bool true)], args := [d1, d2, d3] }
  | _ => none }
def damageCompleteRow : OpenClaim := { program := "ytogbocplojbdjaagreat", sum := "1b4f416523c173eb3a567048ebc4e87a11fd1c908ba3872d12e21e4ee32e0afd", func := "compositor/compositorlaw27.DamageComplete", spec := "damageComplete", unfollowed := true, recurses := true, apart := false }
def DamageCompleteSaid : Prop := damageCompleteRow.holds Tryz.pinned (OpenSpec.ofChange damageCompleteSpec)

/-- ITS FALSE NEIGHBOUR: 'it returns false'. Refute it at one input. -/
def damageCompleteWrong : ChangeSpec := { name := "damageComplete", fn := fun _ => fun
  | [d1, d2, d3] => { results := [.lit (.bool false)], args := [d1, d2, d3] }
  | _ => none }
def DamageCompleteWrongFalsely : Prop := damageCompleteRow.holds Tryz.pinned (OpenSpec.ofChange damageCompleteWrong)

/-- 'compositorlaw27.DamageSymmetric': WHATEVER THE INPUT: true; the input reads as it did. -/
def damageSymmetricSpec : ChangeSpec := { name := "damageSymmetric", fn := fun _ => fun
  | [d1, d2] => { results := [.lit (.bool true)], args := [d1, d2] }
  | _ => none }
def damageSymmetricRow : OpenClaim := { program := "ytogbocplojbdjaagreat", sum := "1b4f416523c173eb3a567048ebc4e87a11fd1c908ba3872d12e21e4ee32e0afd", func := "compositor/compositorlaw27.DamageSymmetric", spec := "damageSymmetric", unfollowed := true, recurses := true, apart := false }
def DamageSymmetricSaid : Prop := damageSymmetricRow.holds Tryz.pinned (OpenSpec.ofChange damageSymmetricSpec)

/-- ITS FALSE NEIGHBOUR: 'it returns false'. Refute it at one input. -/
def damageSymmetricWrong : ChangeSpec := { name := "damageSymmetric", fn := fun _ => fun
  | [d1, d2] => { results := [.lit (.bool false)], args := [d1, d2] }
  | _ => none }
def DamageSymmetricWrongFalsely : Prop := damageSymmetricRow.holds Tryz.pinned (OpenSpec.ofChange damageSymmetricWrong)

/-- 'compositorlaw27.DamageSmall': WHATEVER THE INPUT: true; the input reads as it did. -/
def damageSmallSpec : ChangeSpec := { name := "damageSmall", fn := fun _ => fun
  | [d1, d2, d3] => { results := [.lit (.bool true)], args := [d1, d2, d3] }
  | _ => none }
def damageSmallRow : OpenClaim := { program := "ytogbocplojbdjaagreat", sum := "1b4f416523c173eb3a567048ebc4e87a11fd1c908ba3872d12e21e4ee32e0afd", func := "compositor/compositorlaw27.DamageSmall", spec := "damageSmall", unfollowed := true, recurses := true, apart := false }
def DamageSmallSaid : Prop := damageSmallRow.holds Tryz.pinned (OpenSpec.ofChange damageSmallSpec)

/-- ITS FALSE NEIGHBOUR: 'it returns false'. Refute it at one input. -/
def damageSmallWrong : ChangeSpec := { name := "damageSmall", fn := fun _ => fun
  | [d1, d2, d3] => { results := [.lit (.bool false)], args := [d1, d2, d3] }
  | _ => none }
def DamageSmallWrongFalsely : Prop := damageSmallRow.holds Tryz.pinned (OpenSpec.ofChange damageSmallWrong)

/-- 'compositorlaw27.DamageAges': WHATEVER THE INPUT: true; the input reads as it did. -/
def damageAgesSpec : ChangeSpec := { name := "damageAges", fn := fun _ => fun
  | [d1, d2] => { results := [.lit (.bool true)], args := [d1, d2] }
  | _ => none }
def damageAgesRow : OpenClaim := { program := "ytogbocplojbdjaagreat", sum := "1b4f416523c173eb3a567048ebc4e87a11fd1c908ba3872d12e21e4ee32e0afd", func := "compositor/compositorlaw27.DamageAges", spec := "damageAges", unfollowed := true, recurses := true, apart := false }
def DamageAgesSaid : Prop := damageAgesRow.holds Tryz.pinned (OpenSpec.ofChange damageAgesSpec)

/-- ITS FALSE NEIGHBOUR: 'it returns false'. Refute it at one input. -/
def damageAgesWrong : ChangeSpec := { name := "damageAges", fn := fun _ => fun
  | [d1, d2] => { results := [.lit (.bool false)], args := [d1, d2] }
  | _ => none }
def DamageAgesWrongFalsely : Prop := damageAgesRow.holds Tryz.pinned (OpenSpec.ofChange damageAgesWrong)

/-- 'compositorlaw27.DamageRing': WHATEVER THE INPUT: true; the input reads as it did. -/
def damageRingSpec : ChangeSpec := { name := "damageRing", fn := fun _ => fun
  | [d1, d2, d3] => { results := [.lit (.bool true)], args := [d1, d2, d3] }
  | _ => none }
def damageRingRow : OpenClaim := { program := "ytogbocplojbdjaagreat", sum := "1b4f416523c173eb3a567048ebc4e87a11fd1c908ba3872d12e21e4ee32e0afd", func := "compositor/compositorlaw27.DamageRing", spec := "damageRing", unfollowed := true, recurses := true, apart := false }
def DamageRingSaid : Prop := damageRingRow.holds Tryz.pinned (OpenSpec.ofChange damageRingSpec)

/-- ITS FALSE NEIGHBOUR: 'it returns false'. Refute it at one input. -/
def damageRingWrong : ChangeSpec := { name := "damageRing", fn := fun _ => fun
  | [d1, d2, d3] => { results := [.lit (.bool false)], args := [d1, d2, d3] }
  | _ => none }
def DamageRingWrongFalsely : Prop := damageRingRow.holds Tryz.pinned (OpenSpec.ofChange damageRingWrong)

/- THE SECOND FORM. 'bulk': how many values and letters a reading holds, each counted each time it is reached (what is shared counts as often as it is met; a slice's spare places count too). A statement '..UptoSaid' is the law's where the arguments, and the package variables that the reading takes, are together of bulk at most 1048576: NARROWER than '..Said'. Prove '..Said' where nothing that the law and all that it calls make is longer than what came in: it says more and counts as full. Else prove '..UptoSaid'. A law counts once. -/
mutual
def uptoBulk {H : Type} : DataW H → Nat
  | .lit (.string bytes) => bytes.length + 1
  | .lit _ => 1
  | .nil => 1
  | .ptr d => uptoBulk d + 1
  | .slice elems spare => uptoBulkAll elems + uptoBulkAll spare + 1
  | .agg parts => uptoBulkAll parts + 1
  | .iface _ d => uptoBulk d + 1
  | .map entries => uptoBulkEntries entries + 1
  | .held _ => 1
def uptoBulkAll {H : Type} : List (DataW H) → Nat
  | [] => 0
  | d :: r => uptoBulk d + uptoBulkAll r
def uptoBulkEntries {H : Type} : List (Lit × DataW H) → Nat
  | [] => 0
  | x :: r => uptoBulkEntry x + uptoBulkEntries r
def uptoBulkEntry {H : Type} : Lit × DataW H → Nat
  | (.string bytes, d) => bytes.length + uptoBulk d + 1
  | (_, d) => uptoBulk d + 1
 end
def uptoSmall : (H : Type) → List (DataW H) → Bool := fun _ ds => decide (uptoBulkAll ds ≤ 1048576)
def OpenSpec.upto (s : _root_.Go.ChangeSpec) : _root_.Go.OpenSpec := { _root_.Go.OpenSpec.ofChange s with cond := some uptoSmall }

/-- 'compositorlaw26.OccludeRegions', WHERE WHAT IT READS IS OF BULK AT MOST 1048576: true; the input reads as it did. -/
def occludeRegionsUptoRow : OpenClaim := { program := "ytogbocplojbdjaagreat", sum := "1b4f416523c173eb3a567048ebc4e87a11fd1c908ba3872d12e21e4ee32e0afd", func := "compositor/compositorlaw26.OccludeRegions", spec := "occludeRegions", unfollowed := true, recurses := true, apart := false, narrowed := true }
def OccludeRegionsUptoSaid : Prop := occludeRegionsUptoRow.holds Tryz.pinned (OpenSpec.upto occludeRegionsSpec)

/-- 'compositorlaw27.DamageBetween', WHERE WHAT IT READS IS OF BULK AT MOST 1048576: true; the input reads as it did. -/
def damageBetweenUptoRow : OpenClaim := { program := "ytogbocplojbdjaagreat", sum := "1b4f416523c173eb3a567048ebc4e87a11fd1c908ba3872d12e21e4ee32e0afd", func := "compositor/compositorlaw27.DamageBetween", spec := "damageBetween", unfollowed := true, recurses := true, apart := false, narrowed := true }
def DamageBetweenUptoSaid : Prop := damageBetweenUptoRow.holds Tryz.pinned (OpenSpec.upto damageBetweenSpec)

/-- 'compositorlaw27.DamageComplete', WHERE WHAT IT READS IS OF BULK AT MOST 1048576: true; the input reads as it did. -/
def damageCompleteUptoRow : OpenClaim := { program := "ytogbocplojbdjaagreat", sum := "1b4f416523c173eb3a567048ebc4e87a11fd1c908ba3872d12e21e4ee32e0afd", func := "compositor/compositorlaw27.DamageComplete", spec := "damageComplete", unfollowed := true, recurses := true, apart := false, narrowed := true }
def DamageCompleteUptoSaid : Prop := damageCompleteUptoRow.holds Tryz.pinned (OpenSpec.upto damageCompleteSpec)

/-- 'compositorlaw27.DamageSymmetric', WHERE WHAT IT READS IS OF BULK AT MOST 1048576: true; the input reads as it did. -/
def damageSymmetricUptoRow : OpenClaim := { program := "ytogbocplojbdjaagreat", sum := "1b4f416523c173eb3a567048ebc4e87a11fd1c908ba3872d12e21e4ee32e0afd", func := "compositor/compositorlaw27.DamageSymmetric", spec := "damageSymmetric", unfollowed := true, recurses := true, apart := false, narrowed := true }
def DamageSymmetricUptoSaid : Prop := damageSymmetricUptoRow.holds Tryz.pinned (OpenSpec.upto damageSymmetricSpec)

/-- 'compositorlaw27.DamageSmall', WHERE WHAT IT READS IS OF BULK AT MOST 1048576: true; the input reads as it did. -/
def damageSmallUptoRow : OpenClaim := { program := "ytogbocplojbdjaagreat", sum := "1b4f416523c173eb3a567048ebc4e87a11fd1c908ba3872d12e21e4ee32e0afd", func := "compositor/compositorlaw27.DamageSmall", spec := "damageSmall", unfollowed := true, recurses := true, apart := false, narrowed := true }
def DamageSmallUptoSaid : Prop := damageSmallUptoRow.holds Tryz.pinned (OpenSpec.upto damageSmallSpec)

/-- 'compositorlaw27.DamageAges', WHERE WHAT IT READS IS OF BULK AT MOST 1048576: true; the input reads as it did. -/
def damageAgesUptoRow : OpenClaim := { program := "ytogbocplojbdjaagreat", sum := "1b4f416523c173eb3a567048ebc4e87a11fd1c908ba3872d12e21e4ee32e0afd", func := "compositor/compositorlaw27.DamageAges", spec := "damageAges", unfollowed := true, recurses := true, apart := false, narrowed := true }
def DamageAgesUptoSaid : Prop := damageAgesUptoRow.holds Tryz.pinned (OpenSpec.upto damageAgesSpec)

/-- 'compositorlaw27.DamageRing', WHERE WHAT IT READS IS OF BULK AT MOST 1048576: true; the input reads as it did. -/
def damageRingUptoRow : OpenClaim := { program := "ytogbocplojbdjaagreat", sum := "1b4f416523c173eb3a567048ebc4e87a11fd1c908ba3872d12e21e4ee32e0afd", func := "compositor/compositorlaw27.DamageRing", spec := "damageRing", unfollowed := true, recurses := true, apart := false, narrowed := true }
def DamageRingUptoSaid : Prop := damageRingUptoRow.holds Tryz.pinned (OpenSpec.upto damageRingSpec)

end Rows
end Go.Proofs.YtogbocplojbdjaaGreat
