/-
  The contracts of two functions of Go's library at this translation, as the guide's tool lays them in plain words (remarks left out, the others cut). Conditions: those that each theorem states.
-/
import Derived.Shelf.LaysM
import Derived.Shelf.Strconv.Itoa3
import Derived.Shelf.Strconv.AppendIntPublic10
import Derived.Test.YtcoflmckbcnlpaaGreatDoorProg
namespace Go.Proofs
open Go.Shelf
open Go.RowKit Go.Sort Go.Lib in
open Go.RowKit Go.Sort Go.Lib in
end Go.Proofs
