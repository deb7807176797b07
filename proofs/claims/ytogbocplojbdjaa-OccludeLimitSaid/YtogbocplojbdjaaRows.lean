/-
  No cell of these rows narrows 'for every input' (looked for: loops, veiled, ifaces, maps, wideKeys, modest, calm, conditions, laid).
  DERIVED. THE GIVEN ROWS OF THIS SEAT. 6 by the template 'for every input the law returns true; each argument reads behind the call as it read before'; 0 by the template 'total and deterministic' (their statements: YtogbocplojbdjaaTotals.lean).
  GIVEN WITH THE SEED: the statements are not yours to turn. If you find one false, say at which input.
  Laid BY PROGRAM, IN A SANDBOX (cutbox-rows.mjs): the forced cells as the released guide's own fill.sh prints them over the translation 90d1e9e32379075c… (all of the seat's roots in one cut). By AI agents, Wed Nov 11 2026. No macro, syntax, notation, axiom, sorry.
-/
import Derived.Test.YtogbocplojbdjaaChecked
import GoSem.Claim
import GoSem.ClaimJoined
import GoSem.ClaimMapViews
import Derived.JoinedTies
import Derived.KernelRfl
namespace Go.Proofs.Ytogbocplojbdjaa
/- THE CELL 'sum', in the pinned program and in every row, IS THE sha256 OF THE DUMP (.gsa) THAT YtogbocplojbdjaaProg.lean LOADS. Nothing in Lean hashes anything: it is a label: what it is worth is what the hold of that sum in a sandbox is worth. -/
noncomputable def Try.pinned : Pinned := { name := "ytogbocplojbdjaa", sum := "90d1e9e32379075ca99f7e295d3670575def3e739acab20dc5647d194b910f56", checked := Try.checked }
namespace Rows
def none {H : Type} : Left H := { results := [], args := [] }

/-- 'compositorlaw26.OccludeHidden': WHATEVER THE INPUT: true; the input reads as it did. -/
def occludeHiddenSpec : ChangeSpec := { name := "occludeHidden", fn := fun _ => fun
  | [d1, d2] => { results := [.lit (.bool true)], args := [d1, d2] }
  | _ => none }
def occludeHiddenRow : OpenClaim := { program := "ytogbocplojbdjaa", sum := "90d1e9e32379075ca99f7e295d3670575def3e739acab20dc5647d194b910f56", func := "compositor/compositorlaw26.OccludeHidden", spec := "occludeHidden", unfollowed := true, recurses := true, apart := false }
def OccludeHiddenSaid : Prop := occludeHiddenRow.holds Try.pinned (OpenSpec.ofChange occludeHiddenSpec)

/-- ITS FALSE NEIGHBOUR: 'it returns false'. Refute it at one input. -/
def occludeHiddenWrong : ChangeSpec := { name := "occludeHidden", fn := fun _ => fun
  | [d1, d2] => { results := [.lit (.bool false)], args := [d1, d2] }
  | _ => none }
def OccludeHiddenWrongFalsely : Prop := occludeHiddenRow.holds Try.pinned (OpenSpec.ofChange occludeHiddenWrong)

/-- 'compositorlaw26.OccludeErrors': WHATEVER THE INPUT: true; the input reads as it did. -/
def occludeErrorsSpec : ChangeSpec := { name := "occludeErrors", fn := fun _ => fun
  | [d1, d2] => { results := [.lit (.bool true)], args := [d1, d2] }
  | _ => none }
def occludeErrorsRow : OpenClaim := { program := "ytogbocplojbdjaa", sum := "90d1e9e32379075ca99f7e295d3670575def3e739acab20dc5647d194b910f56", func := "compositor/compositorlaw26.OccludeErrors", spec := "occludeErrors", unfollowed := true, recurses := true, apart := false }
def OccludeErrorsSaid : Prop := occludeErrorsRow.holds Try.pinned (OpenSpec.ofChange occludeErrorsSpec)

/-- ITS FALSE NEIGHBOUR: 'it returns false'. Refute it at one input. -/
def occludeErrorsWrong : ChangeSpec := { name := "occludeErrors", fn := fun _ => fun
  | [d1, d2] => { results := [.lit (.bool false)], args := [d1, d2] }
  | _ => none }
def OccludeErrorsWrongFalsely : Prop := occludeErrorsRow.holds Try.pinned (OpenSpec.ofChange occludeErrorsWrong)

/-- 'compositorlaw26.OccludeOpaque': WHATEVER THE INPUT: true; the input reads as it did. -/
def occludeOpaqueSpec : ChangeSpec := { name := "occludeOpaque", fn := fun _ => fun
  | [d1, d2, d3] => { results := [.lit (.bool true)], args := [d1, d2, d3] }
  | _ => none }
def occludeOpaqueRow : OpenClaim := { program := "ytogbocplojbdjaa", sum := "90d1e9e32379075ca99f7e295d3670575def3e739acab20dc5647d194b910f56", func := "compositor/compositorlaw26.OccludeOpaque", spec := "occludeOpaque", unfollowed := true, recurses := true, apart := false }
def OccludeOpaqueSaid : Prop := occludeOpaqueRow.holds Try.pinned (OpenSpec.ofChange occludeOpaqueSpec)

/-- ITS FALSE NEIGHBOUR: 'it returns false'. Refute it at one input. -/
def occludeOpaqueWrong : ChangeSpec := { name := "occludeOpaque", fn := fun _ => fun
  | [d1, d2, d3] => { results := [.lit (.bool false)], args := [d1, d2, d3] }
  | _ => none }
def OccludeOpaqueWrongFalsely : Prop := occludeOpaqueRow.holds Try.pinned (OpenSpec.ofChange occludeOpaqueWrong)

/-- 'compositorlaw26.OccludeLimit': WHATEVER THE INPUT: true; the input reads as it did. -/
def occludeLimitSpec : ChangeSpec := { name := "occludeLimit", fn := fun _ => fun
  | [d1, d2] => { results := [.lit (.bool true)], args := [d1, d2] }
  | _ => none }
def occludeLimitRow : OpenClaim := { program := "ytogbocplojbdjaa", sum := "90d1e9e32379075ca99f7e295d3670575def3e739acab20dc5647d194b910f56", func := "compositor/compositorlaw26.OccludeLimit", spec := "occludeLimit", unfollowed := true, recurses := true, apart := false }
def OccludeLimitSaid : Prop := occludeLimitRow.holds Try.pinned (OpenSpec.ofChange occludeLimitSpec)

/-- ITS FALSE NEIGHBOUR: 'it returns false'. Refute it at one input. -/
def occludeLimitWrong : ChangeSpec := { name := "occludeLimit", fn := fun _ => fun
  | [d1, d2] => { results := [.lit (.bool false)], args := [d1, d2] }
  | _ => none }
def OccludeLimitWrongFalsely : Prop := occludeLimitRow.holds Try.pinned (OpenSpec.ofChange occludeLimitWrong)

/-- 'compositorlaw26.OccludePartition': WHATEVER THE INPUT: true; the input reads as it did. -/
def occludePartitionSpec : ChangeSpec := { name := "occludePartition", fn := fun _ => fun
  | [d1, d2, d3] => { results := [.lit (.bool true)], args := [d1, d2, d3] }
  | _ => none }
def occludePartitionRow : OpenClaim := { program := "ytogbocplojbdjaa", sum := "90d1e9e32379075ca99f7e295d3670575def3e739acab20dc5647d194b910f56", func := "compositor/compositorlaw26.OccludePartition", spec := "occludePartition", unfollowed := true, recurses := true, apart := false }
def OccludePartitionSaid : Prop := occludePartitionRow.holds Try.pinned (OpenSpec.ofChange occludePartitionSpec)

/-- ITS FALSE NEIGHBOUR: 'it returns false'. Refute it at one input. -/
def occludePartitionWrong : ChangeSpec := { name := "occludePartition", fn := fun _ => fun
  | [d1, d2, d3] => { results := [.lit (.bool false)], args := [d1, d2, d3] }
  | _ => none }
def OccludePartitionWrongFalsely : Prop := occludePartitionRow.holds Try.pinned (OpenSpec.ofChange occludePartitionWrong)

/-- 'compositorlaw27.DamageNil': WHATEVER THE INPUT: true; the input reads as it did. -/
def damageNilSpec : ChangeSpec := { name := "damageNil", fn := fun _ => fun
  | [d1, d2] => { results := [.lit (.bool true)], args := [d1, d2] }
  | _ => none }
def damageNilRow : OpenClaim := { program := "ytogbocplojbdjaa", sum := "90d1e9e32379075ca99f7e295d3670575def3e739acab20dc5647d194b910f56", func := "compositor/compositorlaw27.DamageNil", spec := "damageNil", unfollowed := true, recurses := true, apart := false }
def DamageNilSaid : Prop := damageNilRow.holds Try.pinned (OpenSpec.ofChange damageNilSpec)

/-- ITS FALSE NEIGHBOUR: 'it returns false'. Refute it at one input. -/
def damageNilWrong : ChangeSpec := { name := "damageNil", fn := fun _ => fun
  | [d1, d2] => { results := [.lit (.bool false)], args := [d1, d2] }
  | _ => none }
def DamageNilWrongFalsely : Prop := damageNilRow.holds Try.pinned (OpenSpec.ofChange damageNilWrong)

/- THE SECOND FORM. 'bulk': how many values and letters a reading holds, each counted each time it is reached (what is shared counts as often as it is met; a slice's spare places count too). A statement '..UptoSaid' is the law's where the arguments, and the package variables that the reading takes, are together of bulk at most 1048576: NARROWER than '..Said'. Prove '..Said' where nothing that the law and all that it calls make is longer than what came in: it says more and counts as full. Else prove '..UptoSaid'. A law counts once. -/
mutual
def uptoBulk {H : Type} : DataW H → Nat
  | .lit (.string bytes) => bytes.length + 1
  | .lit _ => 1
  | .nil => 1
  | .ptr d => uptoBulk d + 1
  | .slice elems spare => uptoBulkAll elems + uptoBulkAll spare + 1
  | .agg parts => uptoBulkAll parts + 1
  | .iface _ d => uptoBulk d + 1
  | .map entries => uptoBulkEntries entries + 1
  | .held _ => 1
def uptoBulkAll {H : Type} : List (DataW H) → Nat
  | [] => 0
  | d :: r => uptoBulk d + uptoBulkAll r
def uptoBulkEntries {H : Type} : List (Lit × DataW H) → Nat
  | [] => 0
  | x :: r => uptoBulkEntry x + uptoBulkEntries r
def uptoBulkEntry {H : Type} : Lit × DataW H → Nat
  | (.string bytes, d) => bytes.length + uptoBulk d + 1
  | (_, d) => uptoBulk d + 1
 end
def uptoSmall : (H : Type) → List (DataW H) → Bool := fun _ ds => decide (uptoBulkAll ds ≤ 1048576)
def OpenSpec.upto (s : _root_.Go.ChangeSpec) : _root_.Go.OpenSpec := { _root_.Go.OpenSpec.ofChange s with cond := some uptoSmall }

/-- 'compositorlaw26.OccludeHidden', WHERE WHAT IT READS IS OF BULK AT MOST 1048576: true; the input reads as it did. -/
def occludeHiddenUptoRow : OpenClaim := { program := "ytogbocplojbdjaa", sum := "90d1e9e32379075ca99f7e295d3670575def3e739acab20dc5647d194b910f56", func := "compositor/compositorlaw26.OccludeHidden", spec := "occludeHidden", unfollowed := true, recurses := true, apart := false, narrowed := true }
def OccludeHiddenUptoSaid : Prop := occludeHiddenUptoRow.holds Try.pinned (OpenSpec.upto occludeHiddenSpec)

/-- 'compositorlaw26.OccludeErrors', WHERE WHAT IT READS IS OF BULK AT MOST 1048576: true; the input reads as it did. -/
def occludeErrorsUptoRow : OpenClaim := { program := "ytogbocplojbdjaa", sum := "90d1e9e32379075ca99f7e295d3670575def3e739acab20dc5647d194b910f56", func := "compositor/compositorlaw26.OccludeErrors", spec := "occludeErrors", unfollowed := true, recurses := true, apart := false, narrowed := true }
def OccludeErrorsUptoSaid : Prop := occludeErrorsUptoRow.holds Try.pinned (OpenSpec.upto occludeErrorsSpec)

/-- 'compositorlaw26.OccludeOpaque', WHERE WHAT IT READS IS OF BULK AT MOST 1048576: true; the input reads as it did. -/
def occludeOpaqueUptoRow : OpenClaim := { program := "ytogbocplojbdjaa", sum := "90d1e9e32379075ca99f7e295d3670575def3e739acab20dc5647d194b910f56", func := "compositor/compositorlaw26.OccludeOpaque", spec := "occludeOpaque", unfollowed := true, recurses := true, apart := false, narrowed := true }
def OccludeOpaqueUptoSaid : Prop := occludeOpaqueUptoRow.holds Try.pinned (OpenSpec.upto occludeOpaqueSpec)

/-- 'compositorlaw26.OccludeLimit', WHERE WHAT IT READS IS OF BULK AT MOST 1048576: true; the input reads as it did. -/
def occludeLimitUptoRow : OpenClaim := { program := "ytogbocplojbdjaa", sum := "90d1e9e32379075ca99f7e295d3670575def3e739acab20dc5647d194b910f56", func := "compositor/compositorlaw26.OccludeLimit", spec := "occludeLimit", unfollowed := true, recurses := true, apart := false, narrowed := true }
def OccludeLimitUptoSaid : Prop := occludeLimitUptoRow.holds Try.pinned (OpenSpec.upto occludeLimitSpec)

/-- 'compositorlaw26.OccludePartition', WHERE WHAT IT READS IS OF BULK AT MOST 1048576: true; the input reads as it did. -/
def occludePartitionUptoRow : OpenClaim := { program := "ytogbocplojbdjaa", sum := "90d1e9e32379075ca99f7e295d3670575def3e739acab20dc5647d194b910f56", func := "compositor/compositorlaw26.OccludePartition", spec := "occludePartition", unfollowed := true, recurses := true, apart := false, narrowed := true }
def OccludePartitionUptoSaid : Prop := occludePartitionUptoRow.holds Try.pinned (OpenSpec.upto occludePartitionSpec)

/-- 'compositorlaw27.DamageNil', WHERE WHAT IT READS IS OF BULK AT MOST 1048576: true; the input reads as it did. -/
def damageNilUptoRow : OpenClaim := { program := "ytogbocplojbdjaa", sum := "90d1e9e32379075ca99f7e295d3670575def3e739acab20dc5647d194b910f56", func := "compositor/compositorlaw27.DamageNil", spec := "damageNil", unfollowed := true, recurses := true, apart := false, narrowed := true }
def DamageNilUptoSaid : Prop := damageNilUptoRow.holds Try.pinned (OpenSpec.upto damageNilSpec)

end Rows
end Go.Proofs.Ytogbocplojbdjaa
