/-
  A part of the proof: what some of the program's functions compute.
-/
import Derived.Test.YtogbocplojbdjaaVA
namespace Go.Proofs.Ytogbocplojbdjaa
end Go.Proofs.Ytogbocplojbdjaa
