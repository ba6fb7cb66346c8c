/- The document's Router: find, of. -/
/- The document's Router: of; a text laid among those that rise. -/
/- The document's Router: Match. -/
import Derived.Test.YtiglfbimijnpcaaGreatDoorQT
import Derived.WalkLawsBesides
import Derived.Sort.Walk0
import Derived.Test.YtiglfbimijnpcaaGreatDoorQH
namespace Go.Proofs.YtiglfbimijnpcaaGreatDoor
open Go.RowKit Go.Proofs
variable {tt : TypeId} {tl : List Value}

end Go.Proofs.YtiglfbimijnpcaaGreatDoor

namespace Go.Proofs.YtiglfbimijnpcaaGreatDoor
open Go.RowKit Go.Proofs
variable {tt : TypeId} {tl : List Value}

theorem RowC.take {w : World} {A : Option Addr} {l : List Txt} (h : RowC w A (l.map strV)) (k : Nat) : RowC w A ((l.take k).map strV) := by
  intro j u hj
  refine h j u ?_
  rw [List.map_take, List.getElem?_take] at hj
  split at hj
  · exact hj
  · cases hj
theorem RowC.drop {w : World} {bb off : Nat} {l : List Txt} (h : RowC w (some ⟨bb, off, none⟩) (l.map strV)) (k : Nat) : RowC w (some ⟨bb, off + k, none⟩) ((l.drop k).map strV) := by
  intro j u hj
  rw [List.map_drop, List.getElem?_drop] at hj
  obtain ⟨b2, o2, hA, hb, hc⟩ := h (k + j) u hj
  cases hA
  exact ⟨_, _, rfl, hb, by rw [Nat.add_assoc]; exact hc⟩
end Go.Proofs.YtiglfbimijnpcaaGreatDoor

namespace Go.Proofs.YtiglfbimijnpcaaGreatDoor
open Go.RowKit Go.Proofs
variable {tt : TypeId} {tl : List Value}

end Go.Proofs.YtiglfbimijnpcaaGreatDoor

