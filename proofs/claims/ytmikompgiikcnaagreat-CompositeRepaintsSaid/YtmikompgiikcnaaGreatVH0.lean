/-
  A part of the proof: what some of the program's functions compute.
-/
import Derived.Test.YtmikompgiikcnaaGreatVA
namespace Go.Proofs.YtmikompgiikcnaaGreat
end Go.Proofs.YtmikompgiikcnaaGreat
