/-
  No cell of these rows narrows 'for every input' (looked for: loops, veiled, ifaces, maps, wideKeys, modest, calm, conditions, laid).
  DERIVED. THE GIVEN ROWS OF THIS SEAT. 5 by the template 'for every input the law returns true; each argument reads behind the call as it read before'; 0 by the template 'total and deterministic' (their statements: YtijmbmncdchjkaaTotals.lean).
  GIVEN WITH THE SEED: the statements are not yours to turn. If you find one false, say at which input.
  Laid BY PROGRAM, IN A SANDBOX (cutbox-rows.mjs): the forced cells as the released guide's own fill.sh prints them over the translation d0da74eba0123928… (all of the seat's roots in one cut). By AI agents, Wed Nov 11 2026. No macro, syntax, notation, axiom, sorry.
-/
import Derived.Test.YtijmbmncdchjkaaChecked
import GoSem.Claim
import GoSem.ClaimJoined
import GoSem.ClaimMapViews
import Derived.JoinedTies
import Derived.KernelRfl
namespace Go.Proofs.Ytijmbmncdchjkaa
/- THE CELL 'sum', in the pinned program and in every row, IS THE sha256 OF THE DUMP (.gsa) THAT YtijmbmncdchjkaaProg.lean LOADS. Nothing in Lean hashes anything: it is a label: what it is worth is what the hold of that sum in a sandbox is worth. -/
noncomputable def Try.pinned : Pinned := { name := "ytijmbmncdchjkaa", sum := "d0da74eba012392819bb94b5b6b3e8aa610c93a29f92eb9cc2a5807f54f64c4e", checked := Try.checked }
namespace Rows
def none {H : Type} : Left H := { results := [], args := [] }

/-- 'compositorlaw32.FocusTarget': WHATEVER THE INPUT: true; the input reads as it did. -/
def focusTargetSpec : ChangeSpec := { name := "focusTarget", fn := fun _ => fun
  | [d1, d2, d3] => { results := [.lit (.bool true)], args := [d1, d2, d3] }
  | _ => none }
def focusTargetRow : OpenClaim := { program := "ytijmbmncdchjkaa", sum := "d0da74eba012392819bb94b5b6b3e8aa610c93a29f92eb9cc2a5807f54f64c4e", func := "compositor/compositorlaw32.FocusTarget", spec := "focusTarget", unfollowed := true, recurses := true, apart := false }
def FocusTargetSaid : Prop := focusTargetRow.holds Try.pinned (OpenSpec.ofChange focusTargetSpec)

/-- ITS FALSE NEIGHBOUR: 'it returns false'. Refute it at one input. -/
def focusTargetWrong : ChangeSpec := { name := "focusTarget", fn := fun _ => fun
  | [d1, d2, d3] => { results := [.lit (.bool false)], args := [d1, d2, d3] }
  | _ => none }
def FocusTargetWrongFalsely : Prop := focusTargetRow.holds Try.pinned (OpenSpec.ofChange focusTargetWrong)

/-- 'compositorlaw32.FocusLock': WHATEVER THE INPUT: true; the input reads as it did. -/
def focusLockSpec : ChangeSpec := { name := "focusLock", fn := fun _ => fun
  | [d1, d2, d3] => { results := [.lit (.bool true)], args := [d1, d2, d3] }
  | _ => none }
def focusLockRow : OpenClaim := { program := "ytijmbmncdchjkaa", sum := "d0da74eba012392819bb94b5b6b3e8aa610c93a29f92eb9cc2a5807f54f64c4e", func := "compositor/compositorlaw32.FocusLock", spec := "focusLock", unfollowed := true, recurses := true, apart := false }
def FocusLockSaid : Prop := focusLockRow.holds Try.pinned (OpenSpec.ofChange focusLockSpec)

/-- ITS FALSE NEIGHBOUR: 'it returns false'. Refute it at one input. -/
def focusLockWrong : ChangeSpec := { name := "focusLock", fn := fun _ => fun
  | [d1, d2, d3] => { results := [.lit (.bool false)], args := [d1, d2, d3] }
  | _ => none }
def FocusLockWrongFalsely : Prop := focusLockRow.holds Try.pinned (OpenSpec.ofChange focusLockWrong)

/-- 'compositorlaw32.FocusAlternation': WHATEVER THE INPUT: true; the input reads as it did. -/
def focusAlternationSpec : ChangeSpec := { name := "focusAlternation", fn := fun _ => fun
  | [d] => { results := [.lit (.bool true)], args := [d] }
  | _ => none }
def focusAlternationRow : OpenClaim := { program := "ytijmbmncdchjkaa", sum := "d0da74eba012392819bb94b5b6b3e8aa610c93a29f92eb9cc2a5807f54f64c4e", func := "compositor/compositorlaw32.FocusAlternation", spec := "focusAlternation", unfollowed := true, recurses := true, apart := false }
def FocusAlternationSaid : Prop := focusAlternationRow.holds Try.pinned (OpenSpec.ofChange focusAlternationSpec)

/-- ITS FALSE NEIGHBOUR: 'it returns false'. Refute it at one input. -/
def focusAlternationWrong : ChangeSpec := { name := "focusAlternation", fn := fun _ => fun
  | [d] => { results := [.lit (.bool false)], args := [d] }
  | _ => none }
def FocusAlternationWrongFalsely : Prop := focusAlternationRow.holds Try.pinned (OpenSpec.ofChange focusAlternationWrong)

/-- 'compositorlaw32.FocusNil': WHATEVER THE INPUT: true; the input reads as it did. -/
def focusNilSpec : ChangeSpec := { name := "focusNil", fn := fun _ => fun
  | [d1, d2, d3] => { results := [.lit (.bool true)], args := [d1, d2, d3] }
  | _ => none }
def focusNilRow : OpenClaim := { program := "ytijmbmncdchjkaa", sum := "d0da74eba012392819bb94b5b6b3e8aa610c93a29f92eb9cc2a5807f54f64c4e", func := "compositor/compositorlaw32.FocusNil", spec := "focusNil", unfollowed := true, recurses := true, apart := false }
def FocusNilSaid : Prop := focusNilRow.holds Try.pinned (OpenSpec.ofChange focusNilSpec)

/-- ITS FALSE NEIGHBOUR: 'it returns false'. Refute it at one input. -/
def focusNilWrong : ChangeSpec := { name := "focusNil", fn := fun _ => fun
  | [d1, d2, d3] => { results := [.lit (.bool false)], args := [d1, d2, d3] }
  | _ => none }
def FocusNilWrongFalsely : Prop := focusNilRow.holds Try.pinned (OpenSpec.ofChange focusNilWrong)

/-- 'compositorlaw32.FocusSerials': WHATEVER THE INPUT: true; the input reads as it did. -/
def focusSerialsSpec : ChangeSpec := { name := "focusSerials", fn := fun _ => fun
  | [d1, d2, d3] => { results := [.lit (.bool true)], args := [d1, d2, d3] }
  | _ => none }
def focusSerialsRow : OpenClaim := { program := "ytijmbmncdchjkaa", sum := "d0da74eba012392819bb94b5b6b3e8aa610c93a29f92eb9cc2a5807f54f64c4e", func := "compositor/compositorlaw32.FocusSerials", spec := "focusSerials", unfollowed := true, recurses := true, apart := false }
def FocusSerialsSaid : Prop := focusSerialsRow.holds Try.pinned (OpenSpec.ofChange focusSerialsSpec)

/-- ITS FALSE NEIGHBOUR: 'it returns false'. Refute it at one input. -/
def focusSerialsWrong : ChangeSpec := { name := "focusSerials", fn := fun _ => fun
  | [d1, d2, d3] => { results := [.lit (.bool false)], args := [d1, d2, d3] }
  | _ => none }
def FocusSerialsWrongFalsely : Prop := focusSerialsRow.holds Try.pinned (OpenSpec.ofChange focusSerialsWrong)

/- THE SECOND FORM. 'bulk': how many values and letters a reading holds, each counted each time it is reached (what is shared counts as often as it is met; a slice's spare places count too). A statement '..UptoSaid' is the law's where the arguments, and the package variables that the reading takes, are together of bulk at most 1048576: NARROWER than '..Said'. Prove '..Said' where nothing that the law and all that it calls make is longer than what came in: it says more and counts as full. Else prove '..UptoSaid'. A law counts once. -/
mutual
def uptoBulk {H : Type} : DataW H → Nat
  | .lit (.string bytes) => bytes.length + 1
  | .lit _ => 1
  | .nil => 1
  | .ptr d => uptoBulk d + 1
  | .slice elems spare => uptoBulkAll elems + uptoBulkAll spare + 1
  | .agg parts => uptoBulkAll parts + 1
  | .iface _ d => uptoBulk d + 1
  | .map entries => uptoBulkEntries entries + 1
  | .held _ => 1
def uptoBulkAll {H : Type} : List (DataW H) → Nat
  | [] => 0
  | d :: r => uptoBulk d + uptoBulkAll r
def uptoBulkEntries {H : Type} : List (Lit × DataW H) → Nat
  | [] => 0
  | x :: r => uptoBulkEntry x + uptoBulkEntries r
def uptoBulkEntry {H : Type} : Lit × DataW H → Nat
  | (.string bytes, d) => bytes.length + uptoBulk d + 1
  | (_, d) => uptoBulk d + 1
 end
def uptoSmall : (H : Type) → List (DataW H) → Bool := fun _ ds => decide (uptoBulkAll ds ≤ 1048576)
def OpenSpec.upto (s : _root_.Go.ChangeSpec) : _root_.Go.OpenSpec := { _root_.Go.OpenSpec.ofChange s with cond := some uptoSmall }

/-- 'compositorlaw32.FocusTarget', WHERE WHAT IT READS IS OF BULK AT MOST 1048576: true; the input reads as it did. -/
def focusTargetUptoRow : OpenClaim := { program := "ytijmbmncdchjkaa", sum := "d0da74eba012392819bb94b5b6b3e8aa610c93a29f92eb9cc2a5807f54f64c4e", func := "compositor/compositorlaw32.FocusTarget", spec := "focusTarget", unfollowed := true, recurses := true, apart := false, narrowed := true }
def FocusTargetUptoSaid : Prop := focusTargetUptoRow.holds Try.pinned (OpenSpec.upto focusTargetSpec)

/-- 'compositorlaw32.FocusLock', WHERE WHAT IT READS IS OF BULK AT MOST 1048576: true; the input reads as it did. -/
def focusLockUptoRow : OpenClaim := { program := "ytijmbmncdchjkaa", sum := "d0da74eba012392819bb94b5b6b3e8aa610c93a29f92eb9cc2a5807f54f64c4e", func := "compositor/compositorlaw32.FocusLock", spec := "focusLock", unfollowed := true, recurses := true, apart := false, narrowed := true }
def FocusLockUptoSaid : Prop := focusLockUptoRow.holds Try.pinned (OpenSpec.upto focusLockSpec)

/-- 'compositorlaw32.FocusAlternation', WHERE WHAT IT READS IS OF BULK AT MOST 1048576: true; the input reads as it did. -/
def focusAlternationUptoRow : OpenClaim := { program := "ytijmbmncdchjkaa", sum := "d0da74eba012392819bb94b5b6b3e8aa610c93a29f92eb9cc2a5807f54f64c4e", func := "compositor/compositorlaw32.FocusAlternation", spec := "focusAlternation", unfollowed := true, recurses := true, apart := false, narrowed := true }
def FocusAlternationUptoSaid : Prop := focusAlternationUptoRow.holds Try.pinned (OpenSpec.upto focusAlternationSpec)

/-- 'compositorlaw32.FocusNil', WHERE WHAT IT READS IS OF BULK AT MOST 1048576: true; the input reads as it did. -/
def focusNilUptoRow : OpenClaim := { program := "ytijmbmncdchjkaa", sum := "d0da74eba012392819bb94b5b6b3e8aa610c93a29f92eb9cc2a5807f54f64c4e", func := "compositor/compositorlaw32.FocusNil", spec := "focusNil", unfollowed := true, recurses := true, apart := false, narrowed := true }
def FocusNilUptoSaid : Prop := focusNilUptoRow.holds Try.pinned (OpenSpec.upto focusNilSpec)

/-- 'compositorlaw32.FocusSerials', WHERE WHAT IT READS IS OF BULK AT MOST 1048576: true; the input reads as it did. -/
def focusSerialsUptoRow : OpenClaim := { program := "ytijmbmncdchjkaa", sum := "d0da74eba012392819bb94b5b6b3e8aa610c93a29f92eb9cc2a5807f54f64c4e", func := "compositor/compositorlaw32.FocusSerials", spec := "focusSerials", unfollowed := true, recurses := true, apart := false, narrowed := true }
def FocusSerialsUptoSaid : Prop := focusSerialsUptoRow.holds Try.pinned (OpenSpec.upto focusSerialsSpec)

end Rows
end Go.Proofs.Ytijmbmncdchjkaa
