/- A world for the witness: the settled one, the two tables of unicode/utf8 holding what their initialisers lay. -/
import Derived.Test.YtnopbhboamembaaDoorCards
import Derived.ProofKit
namespace Go.Proofs.YtnopbhboamembaaDoor

def byteVals (l : List Nat) : Array Value := (l.map fun (n : Nat) => Value.int .u8 (n : Int)).toArray
def layCells (cs : Array Value) : Obj → Obj
  | .cells _ t frozen => .cells cs t frozen
  | o => o

noncomputable def laidWorld (os : Os) : World :=
  { World.holding Tryd.prog os ⟨#[], #[], []⟩ with heap := ((World.holding Tryd.prog os ⟨#[], #[], []⟩).heap.modify 1 (layCells (byteVals Go.Pinned.utf8FirstZ))).modify 2 (layCells (byteVals ([128, 191, 160, 191, 128, 159, 144, 191, 128, 143] ++ List.replicate 22 0))) }
end Go.Proofs.YtnopbhboamembaaDoor
