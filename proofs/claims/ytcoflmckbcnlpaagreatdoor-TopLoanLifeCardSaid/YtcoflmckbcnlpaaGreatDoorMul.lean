/-
  The library's product of two words, as the guide's tool lays it in plain words. Conditions: the words fit.
-/
import Derived.Shelf.Bits.Mul64
import Derived.Test.YtcoflmckbcnlpaaGreatDoorProg
namespace Go.Proofs
open Go.Shelf
open Go.RowKit Go.Lib in
end Go.Proofs
