/-
  A part of the proof: what some of the program's functions compute.
-/
import Derived.Test.YtogbocplojbdjaaGreatVA
namespace Go.Proofs.YtogbocplojbdjaaGreat
end Go.Proofs.YtogbocplojbdjaaGreat
