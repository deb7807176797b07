/-
  No cell of these rows narrows 'for every input' (looked for: loops, veiled, ifaces, maps, wideKeys, modest, calm, conditions, laid).
  DERIVED. THE GIVEN ROWS OF THIS SEAT. 7 by the template 'for every input the law returns true; each argument reads behind the call as it read before'; 0 by the template 'total and deterministic' (their statements: YtekgchddcemboaaTotals.lean).
  GIVEN WITH THE SEED: the statements are not yours to turn. If you find one false, say at which input.
  Laid BY PROGRAM, IN A SANDBOX (cutbox-rows.mjs): the forced cells as the released guide's own fill.sh prints them over the translation b7edae24610a5004… (all of the seat's roots in one cut). By AI agents, Wed Nov 11 2026. No macro, syntax, notation, axiom, sorry.
-/
import Derived.Test.YtekgchddcemboaaChecked
import GoSem.Claim
import GoSem.ClaimJoined
import GoSem.ClaimMapViews
import Derived.JoinedTies
import Derived.KernelRfl
namespace Go.Proofs.Ytekgchddcemboaa
/- THE CELL 'sum', in the pinned program and in every row, IS THE sha256 OF THE DUMP (.gsa) THAT YtekgchddcemboaaProg.lean LOADS. Nothing in Lean hashes anything: it is a label: what it is worth is what the hold of that sum in a sandbox is worth. -/
noncomputable def Try.pinned : Pinned := { name := "ytekgchddcemboaa", sum := "b7edae24610a500483352c24fcf0ba2c331911543a73fe0c1b9788d02916d0b3", checked := Try.checked }
namespace Rows
def none {H : Type} : Left H := { results := [], args := [] }

/-- 'compositorlaw05.RegionOperations': WHATEVER THE INPUT: true; the input reads as it did. -/
def regionOperationsSpec : ChangeSpec := { name := "regionOperations", fn := fun _ => fun
  | [d1, d2] => { results := [.lit (.bool true)], args := [d1, d2] }
  | _ => none }
def regionOperationsRow : OpenClaim := { program := "ytekgchddcemboaa", sum := "b7edae24610a500483352c24fcf0ba2c331911543a73fe0c1b9788d02916d0b3", func := "compositor/compositorlaw05.RegionOperations", spec := "regionOperations", unfollowed := true, recurses := true, apart := false }
def RegionOperationsSaid : Prop := regionOperationsRow.holds Try.pinned (OpenSpec.ofChange regionOperationsSpec)

/-- ITS FALSE NEIGHBOUR: 'it returns false'. Refute it at one input. -/
def regionOperationsWrong : ChangeSpec := { name := "regionOperations", fn := fun _ => fun
  | [d1, d2] => { results := [.lit (.bool false)], args := [d1, d2] }
  | _ => none }
def RegionOperationsWrongFalsely : Prop := regionOperationsRow.holds Try.pinned (OpenSpec.ofChange regionOperationsWrong)

/-- 'compositorlaw05.RegionCanonical': WHATEVER THE INPUT: true; the input reads as it did. -/
def regionCanonicalSpec : ChangeSpec := { name := "regionCanonical", fn := fun _ => fun
  | [d1, d2, d3] => { results := [.lit (.bool true)], args := [d1, d2, d3] }
  | _ => none }
def regionCanonicalRow : OpenClaim := { program := "ytekgchddcemboaa", sum := "b7edae24610a500483352c24fcf0ba2c331911543a73fe0c1b9788d02916d0b3", func := "compositor/compositorlaw05.RegionCanonical", spec := "regionCanonical", unfollowed := true, recurses := true, apart := false }
def RegionCanonicalSaid : Prop := regionCanonicalRow.holds Try.pinned (OpenSpec.ofChange regionCanonicalSpec)

/-- ITS FALSE NEIGHBOUR: 'it returns false'. Refute it at one input. -/
def regionCanonicalWrong : ChangeSpec := { name := "regionCanonical", fn := fun _ => fun
  | [d1, d2, d3] => { results := [.lit (.bool false)], args := [d1, d2, d3] }
  | _ => none }
def RegionCanonicalWrongFalsely : Prop := regionCanonicalRow.holds Try.pinned (OpenSpec.ofChange regionCanonicalWrong)

/-- 'compositorlaw05.RegionAlgebra': WHATEVER THE INPUT: true; the input reads as it did. -/
def regionAlgebraSpec : ChangeSpec := { name := "regionAlgebra", fn := fun _ => fun
  | [d1, d2, d3] => { results := [.lit (.bool true)], args := [d1, d2, d3] }
  | _ => none }
def regionAlgebraRow : OpenClaim := { program := "ytekgchddcemboaa", sum := "b7edae24610a500483352c24fcf0ba2c331911543a73fe0c1b9788d02916d0b3", func := "compositor/compositorlaw05.RegionAlgebra", spec := "regionAlgebra", unfollowed := true, recurses := true, apart := false }
def RegionAlgebraSaid : Prop := regionAlgebraRow.holds Try.pinned (OpenSpec.ofChange regionAlgebraSpec)

/-- ITS FALSE NEIGHBOUR: 'it returns false'. Refute it at one input. -/
def regionAlgebraWrong : ChangeSpec := { name := "regionAlgebra", fn := fun _ => fun
  | [d1, d2, d3] => { results := [.lit (.bool false)], args := [d1, d2, d3] }
  | _ => none }
def RegionAlgebraWrongFalsely : Prop := regionAlgebraRow.holds Try.pinned (OpenSpec.ofChange regionAlgebraWrong)

/-- 'compositorlaw05.RegionTranslate': WHATEVER THE INPUT: true; the input reads as it did. -/
def regionTranslateSpec : ChangeSpec := { name := "regionTranslate", fn := fun _ => fun
  | [d1, d2, d3] => { results := [.lit (.bool true)], args := [d1, d2, d3] }
  | _ => none }
def regionTranslateRow : OpenClaim := { program := "ytekgchddcemboaa", sum := "b7edae24610a500483352c24fcf0ba2c331911543a73fe0c1b9788d02916d0b3", func := "compositor/compositorlaw05.RegionTranslate", spec := "regionTranslate", unfollowed := true, recurses := true, apart := false }
def RegionTranslateSaid : Prop := regionTranslateRow.holds Try.pinned (OpenSpec.ofChange regionTranslateSpec)

/-- ITS FALSE NEIGHBOUR: 'it returns false'. Refute it at one input. -/
def regionTranslateWrong : ChangeSpec := { name := "regionTranslate", fn := fun _ => fun
  | [d1, d2, d3] => { results := [.lit (.bool false)], args := [d1, d2, d3] }
  | _ => none }
def RegionTranslateWrongFalsely : Prop := regionTranslateRow.holds Try.pinned (OpenSpec.ofChange regionTranslateWrong)

/-- 'compositorlaw05.RegionLimit': WHATEVER THE INPUT: true; the input reads as it did. -/
def regionLimitSpec : ChangeSpec := { name := "regionLimit", fn := fun _ => fun
  | [d1, d2] => { results := [.lit (.bool true)], args := [d1, d2] }
  | _ => none }
def regionLimitRow : OpenClaim := { program := "ytekgchddcemboaa", sum := "b7edae24610a500483352c24fcf0ba2c331911543a73fe0c1b9788d02916d0b3", func := "compositor/compositorlaw05.RegionLimit", spec := "regionLimit", unfollowed := true, recurses := true, apart := false }
def RegionLimitSaid : Prop := regionLimitRow.holds Try.pinned (OpenSpec.ofChange regionLimitSpec)

/-- ITS FALSE NEIGHBOUR: 'it returns false'. Refute it at one input. -/
def regionLimitWrong : ChangeSpec := { name := "regionLimit", fn := fun _ => fun
  | [d1, d2] => { results := [.lit (.bool false)], args := [d1, d2] }
  | _ => none }
def RegionLimitWrongFalsely : Prop := regionLimitRow.holds Try.pinned (OpenSpec.ofChange regionLimitWrong)

/-- 'compositorlaw05.RegionMemory': WHATEVER THE INPUT: true; the input reads as it did. -/
def regionMemorySpec : ChangeSpec := { name := "regionMemory", fn := fun _ => fun
  | [d1, d2] => { results := [.lit (.bool true)], args := [d1, d2] }
  | _ => none }
def regionMemoryRow : OpenClaim := { program := "ytekgchddcemboaa", sum := "b7edae24610a500483352c24fcf0ba2c331911543a73fe0c1b9788d02916d0b3", func := "compositor/compositorlaw05.RegionMemory", spec := "regionMemory", unfollowed := true, recurses := true, apart := false }
def RegionMemorySaid : Prop := regionMemoryRow.holds Try.pinned (OpenSpec.ofChange regionMemorySpec)

/-- ITS FALSE NEIGHBOUR: 'it returns false'. Refute it at one input. -/
def regionMemoryWrong : ChangeSpec := { name := "regionMemory", fn := fun _ => fun
  | [d1, d2] => { results := [.lit (.bool false)], args := [d1, d2] }
  | _ => none }
def RegionMemoryWrongFalsely : Prop := regionMemoryRow.holds Try.pinned (OpenSpec.ofChange regionMemoryWrong)

/-- 'compositorlaw05.RegionNew': WHATEVER THE INPUT: true; the input reads as it did. -/
def regionNewSpec : ChangeSpec := { name := "regionNew", fn := fun _ => fun
  | [d1, d2, d3] => { results := [.lit (.bool true)], args := [d1, d2, d3] }
  | _ => none }
def regionNewRow : OpenClaim := { program := "ytekgchddcemboaa", sum := "b7edae24610a500483352c24fcf0ba2c331911543a73fe0c1b9788d02916d0b3", func := "compositor/compositorlaw05.RegionNew", spec := "regionNew", unfollowed := true, recurses := true, apart := false }
def RegionNewSaid : Prop := regionNewRow.holds Try.pinned (OpenSpec.ofChange regionNewSpec)

/-- ITS FALSE NEIGHBOUR: 'it returns false'. Refute it at one input. -/
def regionNewWrong : ChangeSpec := { name := "regionNew", fn := fun _ => fun
  | [d1, d2, d3] => { results := [.lit (.bool false)], args := [d1, d2, d3] }
  | _ => none }
def RegionNewWrongFalsely : Prop := regionNewRow.holds Try.pinned (OpenSpec.ofChange regionNewWrong)

/- THE SECOND FORM. 'bulk': how many values and letters a reading holds, each counted each time it is reached (what is shared counts as often as it is met; a slice's spare places count too). A statement '..UptoSaid' is the law's where the arguments, and the package variables that the reading takes, are together of bulk at most 1048576: NARROWER than '..Said'. Prove '..Said' where nothing that the law and all that it calls make is longer than what came in: it says more and counts as full. Else prove '..UptoSaid'. A law counts once. -/
mutual
def uptoBulk {H : Type} : DataW H → Nat
  | .lit (.string bytes) => bytes.length + 1
  | .lit _ => 1
  | .nil => 1
  | .ptr d => uptoBulk d + 1
  | .slice elems spare => uptoBulkAll elems + uptoBulkAll spare + 1
  | .agg parts => uptoBulkAll parts + 1
  | .iface _ d => uptoBulk d + 1
  | .map entries => uptoBulkEntries entries + 1
  | .held _ => 1
def uptoBulkAll {H : Type} : List (DataW H) → Nat
  | [] => 0
  | d :: r => uptoBulk d + uptoBulkAll r
def uptoBulkEntries {H : Type} : List (Lit × DataW H) → Nat
  | [] => 0
  | x :: r => uptoBulkEntry x + uptoBulkEntries r
def uptoBulkEntry {H : Type} : Lit × DataW H → Nat
  | (.string bytes, d) => bytes.length + uptoBulk d + 1
  | (_, d) => uptoBulk d + 1
 end
def uptoSmall : (H : Type) → List (DataW H) → Bool := fun _ ds => decide (uptoBulkAll ds ≤ 1048576)
def OpenSpec.upto (s : _root_.Go.ChangeSpec) : _root_.Go.OpenSpec := { _root_.Go.OpenSpec.ofChange s with cond := some uptoSmall }

/-- 'compositorlaw05.RegionOperations', WHERE WHAT IT READS IS OF BULK AT MOST 1048576: true; the input reads as it did. -/
def regionOperationsUptoRow : OpenClaim := { program := "ytekgchddcemboaa", sum := "b7edae24610a500483352c24fcf0ba2c331911543a73fe0c1b9788d02916d0b3", func := "compositor/compositorlaw05.RegionOperations", spec := "regionOperations", unfollowed := true, recurses := true, apart := false, narrowed := true }
def RegionOperationsUptoSaid : Prop := regionOperationsUptoRow.holds Try.pinned (OpenSpec.upto regionOperationsSpec)

/-- 'compositorlaw05.RegionCanonical', WHERE WHAT IT READS IS OF BULK AT MOST 1048576: true; the input reads as it did. -/
def regionCanonicalUptoRow : OpenClaim := { program := "ytekgchddcemboaa", sum := "b7edae24610a500483352c24fcf0ba2c331911543a73fe0c1b9788d02916d0b3", func := "compositor/compositorlaw05.RegionCanonical", spec := "regionCanonical", unfollowed := true, recurses := true, apart := false, narrowed := true }
def RegionCanonicalUptoSaid : Prop := regionCanonicalUptoRow.holds Try.pinned (OpenSpec.upto regionCanonicalSpec)

/-- 'compositorlaw05.RegionAlgebra', WHERE WHAT IT READS IS OF BULK AT MOST 1048576: true; the input reads as it did. -/
def regionAlgebraUptoRow : OpenClaim := { program := "ytekgchddcemboaa", sum := "b7edae24610a500483352c24fcf0ba2c331911543a73fe0c1b9788d02916d0b3", func := "compositor/compositorlaw05.RegionAlgebra", spec := "regionAlgebra", unfollowed := true, recurses := true, apart := false, narrowed := true }
def RegionAlgebraUptoSaid : Prop := regionAlgebraUptoRow.holds Try.pinned (OpenSpec.upto regionAlgebraSpec)

/-- 'compositorlaw05.RegionTranslate', WHERE WHAT IT READS IS OF BULK AT MOST 1048576: true; the input reads as it did. -/
def regionTranslateUptoRow : OpenClaim := { program := "ytekgchddcemboaa", sum := "b7edae24610a500483352c24fcf0ba2c331911543a73fe0c1b9788d02916d0b3", func := "compositor/compositorlaw05.RegionTranslate", spec := "regionTranslate", unfollowed := true, recurses := true, apart := false, narrowed := true }
def RegionTranslateUptoSaid : Prop := regionTranslateUptoRow.holds Try.pinned (OpenSpec.upto regionTranslateSpec)

/-- 'compositorlaw05.RegionLimit', WHERE WHAT IT READS IS OF BULK AT MOST 1048576: true; the input reads as it did. -/
def regionLimitUptoRow : OpenClaim := { program := "ytekgchddcemboaa", sum := "b7edae24610a500483352c24fcf0ba2c331911543a73fe0c1b9788d02916d0b3", func := "compositor/compositorlaw05.RegionLimit", spec := "regionLimit", unfollowed := true, recurses := true, apart := false, narrowed := true }
def RegionLimitUptoSaid : Prop := regionLimitUptoRow.holds Try.pinned (OpenSpec.upto regionLimitSpec)

/-- 'compositorlaw05.RegionMemory', WHERE WHAT IT READS IS OF BULK AT MOST 1048576: true; the input reads as it did. -/
def regionMemoryUptoRow : OpenClaim := { program := "ytekgchddcemboaa", sum := "b7edae24610a500483352c24fcf0ba2c331911543a73fe0c1b9788d02916d0b3", func := "compositor/compositorlaw05.RegionMemory", spec := "regionMemory", unfollowed := true, recurses := true, apart := false, narrowed := true }
def RegionMemoryUptoSaid : Prop := regionMemoryUptoRow.holds Try.pinned (OpenSpec.upto regionMemorySpec)

/-- 'compositorlaw05.RegionNew', WHERE WHAT IT READS IS OF BULK AT MOST 1048576: true; the input reads as it did. -/
def regionNewUptoRow : OpenClaim := { program := "ytekgchddcemboaa", sum := "b7edae24610a500483352c24fcf0ba2c331911543a73fe0c1b9788d02916d0b3", func := "compositor/compositorlaw05.RegionNew", spec := "regionNew", unfollowed := true, recurses := true, apart := false, narrowed := true }
def RegionNewUptoSaid : Prop := regionNewUptoRow.holds Try.pinned (OpenSpec.upto regionNewSpec)

end Rows
end Go.Proofs.Ytekgchddcemboaa
