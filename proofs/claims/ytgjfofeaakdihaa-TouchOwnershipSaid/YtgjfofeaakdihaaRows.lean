/-
  No cell of these rows narrows 'for every input' (looked for: loops, veiled, ifaces, maps, wideKeys, modest, calm, conditions, laid).
  DERIVED. THE GIVEN ROWS OF THIS SEAT. 6 by the template 'for every input the law returns true; each argument reads behind the call as it read before'; 0 by the template 'total and deterministic' (their statements: YtgjfofeaakdihaaTotals.lean).
  GIVEN WITH THE SEED: the statements are not yours to turn. If you find one false, say at which input.
  Laid BY PROGRAM, IN A SANDBOX (cutbox-rows.mjs): the forced cells as the released guide's own fill.sh prints them over the translation 99713ba5aee32d13… (all of the seat's roots in one cut). By AI agents, Wed Nov 11 2026. No macro, syntax, notation, axiom, sorry.
-/
import Derived.Test.YtgjfofeaakdihaaChecked
import GoSem.Claim
import GoSem.ClaimJoined
import GoSem.ClaimMapViews
import Derived.JoinedTies
import Derived.KernelRfl
namespace Go.Proofs.Ytgjfofeaakdihaa
/- THE CELL 'sum', in the pinned program and in every row, IS THE sha256 OF THE DUMP (.gsa) THAT YtgjfofeaakdihaaProg.lean LOADS. Nothing in Lean hashes anything: it is a label: what it is worth is what the hold of that sum in a sandbox is worth. -/
noncomputable def Try.pinned : Pinned := { name := "ytgjfofeaakdihaa", sum := "99713ba5aee32d1340df90300d7334ccc7f0f9fcbf1105a63581da19da661e23", checked := Try.checked }
namespace Rows
def none {H : Type} : Left H := { results := [], args := [] }

/-- 'compositorlaw39.TouchOwnership': WHATEVER THE INPUT: true; the input reads as it did. -/
def touchOwnershipSpec : ChangeSpec := { name := "touchOwnership", fn := fun _ => fun
  | [d] => { results := [.lit (.bool true)], args := [d] }
  | _ => none }
def touchOwnershipRow : OpenClaim := { program := "ytgjfofeaakdihaa", sum := "99713ba5aee32d1340df90300d7334ccc7f0f9fcbf1105a63581da19da661e23", func := "compositor/compositorlaw39.TouchOwnership", spec := "touchOwnership", unfollowed := true, recurses := true, apart := false }
def TouchOwnershipSaid : Prop := touchOwnershipRow.holds Try.pinned (OpenSpec.ofChange touchOwnershipSpec)

/-- ITS FALSE NEIGHBOUR: 'it returns false'. Refute it at one input. -/
def touchOwnershipWrong : ChangeSpec := { name := "touchOwnership", fn := fun _ => fun
  | [d] => { results := [.lit (.bool false)], args := [d] }
  | _ => none }
def TouchOwnershipWrongFalsely : Prop := touchOwnershipRow.holds Try.pinned (OpenSpec.ofChange touchOwnershipWrong)

/-- 'compositorlaw39.TouchPoints': WHATEVER THE INPUT: true; the input reads as it did. -/
def touchPointsSpec : ChangeSpec := { name := "touchPoints", fn := fun _ => fun
  | [d] => { results := [.lit (.bool true)], args := [d] }
  | _ => none }
def touchPointsRow : OpenClaim := { program := "ytgjfofeaakdihaa", sum := "99713ba5aee32d1340df90300d7334ccc7f0f9fcbf1105a63581da19da661e23", func := "compositor/compositorlaw39.TouchPoints", spec := "touchPoints", unfollowed := true, recurses := true, apart := false }
def TouchPointsSaid : Prop := touchPointsRow.holds Try.pinned (OpenSpec.ofChange touchPointsSpec)

/-- ITS FALSE NEIGHBOUR: 'it returns false'. Refute it at one input. -/
def touchPointsWrong : ChangeSpec := { name := "touchPoints", fn := fun _ => fun
  | [d] => { results := [.lit (.bool false)], args := [d] }
  | _ => none }
def TouchPointsWrongFalsely : Prop := touchPointsRow.holds Try.pinned (OpenSpec.ofChange touchPointsWrong)

/-- 'compositorlaw39.TouchTime': WHATEVER THE INPUT: true; the input reads as it did. -/
def touchTimeSpec : ChangeSpec := { name := "touchTime", fn := fun _ => fun
  | [d] => { results := [.lit (.bool true)], args := [d] }
  | _ => none }
def touchTimeRow : OpenClaim := { program := "ytgjfofeaakdihaa", sum := "99713ba5aee32d1340df90300d7334ccc7f0f9fcbf1105a63581da19da661e23", func := "compositor/compositorlaw39.TouchTime", spec := "touchTime", unfollowed := true, recurses := true, apart := false }
def TouchTimeSaid : Prop := touchTimeRow.holds Try.pinned (OpenSpec.ofChange touchTimeSpec)

/-- ITS FALSE NEIGHBOUR: 'it returns false'. Refute it at one input. -/
def touchTimeWrong : ChangeSpec := { name := "touchTime", fn := fun _ => fun
  | [d] => { results := [.lit (.bool false)], args := [d] }
  | _ => none }
def TouchTimeWrongFalsely : Prop := touchTimeRow.holds Try.pinned (OpenSpec.ofChange touchTimeWrong)

/-- 'compositorlaw39.TouchDrop': WHATEVER THE INPUT: true; the input reads as it did. -/
def touchDropSpec : ChangeSpec := { name := "touchDrop", fn := fun _ => fun
  | [d1, d2, d3] => { results := [.lit (.bool true)], args := [d1, d2, d3] }
  | _ => none }
def touchDropRow : OpenClaim := { program := "ytgjfofeaakdihaa", sum := "99713ba5aee32d1340df90300d7334ccc7f0f9fcbf1105a63581da19da661e23", func := "compositor/compositorlaw39.TouchDrop", spec := "touchDrop", unfollowed := true, recurses := true, apart := false }
def TouchDropSaid : Prop := touchDropRow.holds Try.pinned (OpenSpec.ofChange touchDropSpec)

/-- ITS FALSE NEIGHBOUR: 'it returns false'. Refute it at one input. -/
def touchDropWrong : ChangeSpec := { name := "touchDrop", fn := fun _ => fun
  | [d1, d2, d3] => { results := [.lit (.bool false)], args := [d1, d2, d3] }
  | _ => none }
def TouchDropWrongFalsely : Prop := touchDropRow.holds Try.pinned (OpenSpec.ofChange touchDropWrong)

/-- 'compositorlaw39.TouchNil': WHATEVER THE INPUT: true; the input reads as it did. -/
def touchNilSpec : ChangeSpec := { name := "touchNil", fn := fun _ => fun
  | [d1, d2] => { results := [.lit (.bool true)], args := [d1, d2] }
  | _ => none }
def touchNilRow : OpenClaim := { program := "ytgjfofeaakdihaa", sum := "99713ba5aee32d1340df90300d7334ccc7f0f9fcbf1105a63581da19da661e23", func := "compositor/compositorlaw39.TouchNil", spec := "touchNil", unfollowed := true, recurses := true, apart := false }
def TouchNilSaid : Prop := touchNilRow.holds Try.pinned (OpenSpec.ofChange touchNilSpec)

/-- ITS FALSE NEIGHBOUR: 'it returns false'. Refute it at one input. -/
def touchNilWrong : ChangeSpec := { name := "touchNil", fn := fun _ => fun
  | [d1, d2] => { results := [.lit (.bool false)], args := [d1, d2] }
  | _ => none }
def TouchNilWrongFalsely : Prop := touchNilRow.holds Try.pinned (OpenSpec.ofChange touchNilWrong)

/-- 'compositorlaw39.TouchSerials': WHATEVER THE INPUT: true; the input reads as it did. -/
def touchSerialsSpec : ChangeSpec := { name := "touchSerials", fn := fun _ => fun
  | [d] => { results := [.lit (.bool true)], args := [d] }
  | _ => none }
def touchSerialsRow : OpenClaim := { program := "ytgjfofeaakdihaa", sum := "99713ba5aee32d1340df90300d7334ccc7f0f9fcbf1105a63581da19da661e23", func := "compositor/compositorlaw39.TouchSerials", spec := "touchSerials", unfollowed := true, recurses := true, apart := false }
def TouchSerialsSaid : Prop := touchSerialsRow.holds Try.pinned (OpenSpec.ofChange touchSerialsSpec)

/-- ITS FALSE NEIGHBOUR: 'it returns false'. Refute it at one input. -/
def touchSerialsWrong : ChangeSpec := { name := "touchSerials", fn := fun _ => fun
  | [d] => { results := [.lit (.bool false)], args := [d] }
  | _ => none }
def TouchSerialsWrongFalsely : Prop := touchSerialsRow.holds Try.pinned (OpenSpec.ofChange touchSerialsWrong)

/- THE SECOND FORM. 'bulk': how many values and letters a reading holds, each counted each time it is reached (what is shared counts as often as it is met; a slice's spare places count too). A statement '..UptoSaid' is the law's where the arguments, and the package variables that the reading takes, are together of bulk at most 1048576: NARROWER than '..Said'. Prove '..Said' where nothing that the law and all that it calls make is longer than what came in: it says more and counts as full. Else prove '..UptoSaid'. A law counts once. -/
mutual
def uptoBulk {H : Type} : DataW H → Nat
  | .lit (.string bytes) => bytes.length + 1
  | .lit _ => 1
  | .nil => 1
  | .ptr d => uptoBulk d + 1
  | .slice elems spare => uptoBulkAll elems + uptoBulkAll spare + 1
  | .agg parts => uptoBulkAll parts + 1
  | .iface _ d => uptoBulk d + 1
  | .map entries => uptoBulkEntries entries + 1
  | .held _ => 1
def uptoBulkAll {H : Type} : List (DataW H) → Nat
  | [] => 0
  | d :: r => uptoBulk d + uptoBulkAll r
def uptoBulkEntries {H : Type} : List (Lit × DataW H) → Nat
  | [] => 0
  | x :: r => uptoBulkEntry x + uptoBulkEntries r
def uptoBulkEntry {H : Type} : Lit × DataW H → Nat
  | (.string bytes, d) => bytes.length + uptoBulk d + 1
  | (_, d) => uptoBulk d + 1
 end
def uptoSmall : (H : Type) → List (DataW H) → Bool := fun _ ds => decide (uptoBulkAll ds ≤ 1048576)
def OpenSpec.upto (s : _root_.Go.ChangeSpec) : _root_.Go.OpenSpec := { _root_.Go.OpenSpec.ofChange s with cond := some uptoSmall }

/-- 'compositorlaw39.TouchOwnership', WHERE WHAT IT READS IS OF BULK AT MOST 1048576: true; the input reads as it did. -/
def touchOwnershipUptoRow : OpenClaim := { program := "ytgjfofeaakdihaa", sum := "99713ba5aee32d1340df90300d7334ccc7f0f9fcbf1105a63581da19da661e23", func := "compositor/compositorlaw39.TouchOwnership", spec := "touchOwnership", unfollowed := true, recurses := true, apart := false, narrowed := true }
def TouchOwnershipUptoSaid : Prop := touchOwnershipUptoRow.holds Try.pinned (OpenSpec.upto touchOwnershipSpec)

/-- 'compositorlaw39.TouchPoints', WHERE WHAT IT READS IS OF BULK AT MOST 1048576: true; the input reads as it did. -/
def touchPointsUptoRow : OpenClaim := { program := "ytgjfofeaakdihaa", sum := "99713ba5aee32d1340df90300d7334ccc7f0f9fcbf1105a63581da19da661e23", func := "compositor/compositorlaw39.TouchPoints", spec := "touchPoints", unfollowed := true, recurses := true, apart := false, narrowed := true }
def TouchPointsUptoSaid : Prop := touchPointsUptoRow.holds Try.pinned (OpenSpec.upto touchPointsSpec)

/-- 'compositorlaw39.TouchTime', WHERE WHAT IT READS IS OF BULK AT MOST 1048576: true; the input reads as it did. -/
def touchTimeUptoRow : OpenClaim := { program := "ytgjfofeaakdihaa", sum := "99713ba5aee32d1340df90300d7334ccc7f0f9fcbf1105a63581da19da661e23", func := "compositor/compositorlaw39.TouchTime", spec := "touchTime", unfollowed := true, recurses := true, apart := false, narrowed := true }
def TouchTimeUptoSaid : Prop := touchTimeUptoRow.holds Try.pinned (OpenSpec.upto touchTimeSpec)

/-- 'compositorlaw39.TouchDrop', WHERE WHAT IT READS IS OF BULK AT MOST 1048576: true; the input reads as it did. -/
def touchDropUptoRow : OpenClaim := { program := "ytgjfofeaakdihaa", sum := "99713ba5aee32d1340df90300d7334ccc7f0f9fcbf1105a63581da19da661e23", func := "compositor/compositorlaw39.TouchDrop", spec := "touchDrop", unfollowed := true, recurses := true, apart := false, narrowed := true }
def TouchDropUptoSaid : Prop := touchDropUptoRow.holds Try.pinned (OpenSpec.upto touchDropSpec)

/-- 'compositorlaw39.TouchNil', WHERE WHAT IT READS IS OF BULK AT MOST 1048576: true; the input reads as it did. -/
def touchNilUptoRow : OpenClaim := { program := "ytgjfofeaakdihaa", sum := "99713ba5aee32d1340df90300d7334ccc7f0f9fcbf1105a63581da19da661e23", func := "compositor/compositorlaw39.TouchNil", spec := "touchNil", unfollowed := true, recurses := true, apart := false, narrowed := true }
def TouchNilUptoSaid : Prop := touchNilUptoRow.holds Try.pinned (OpenSpec.upto touchNilSpec)

/-- 'compositorlaw39.TouchSerials', WHERE WHAT IT READS IS OF BULK AT MOST 1048576: true; the input reads as it did. -/
def touchSerialsUptoRow : OpenClaim := { program := "ytgjfofeaakdihaa", sum := "99713ba5aee32d1340df90300d7334ccc7f0f9fcbf1105a63581da19da661e23", func := "compositor/compositorlaw39.TouchSerials", spec := "touchSerials", unfollowed := true, recurses := true, apart := false, narrowed := true }
def TouchSerialsUptoSaid : Prop := touchSerialsUptoRow.holds Try.pinned (OpenSpec.upto touchSerialsSpec)

end Rows
end Go.Proofs.Ytgjfofeaakdihaa
