/- A line as a field: field.Parse. -/
import Derived.Test.YtiglfbimijnpcaaGreatDoorQFieldA
import Derived.Test.YtiglfbimijnpcaaGreatDoorQCut
namespace Go.Proofs.YtiglfbimijnpcaaGreatDoor
open Go.RowKit Go.Proofs

/-- What a line is: how it was refused (0: it was not), name, value. -/
def parseL (l : List UInt8) : Int × List UInt8 × List UInt8 :=
  if 256 < l.length then (9, [], [])
  else if Lib.indexByte l 58 = -1 then (8, [], [])
  else if isF (l.take (Lib.indexByte l 58).toNat) (trimL (l.drop ((Lib.indexByte l 58).toNat + 1))) = true then (0, l.take (Lib.indexByte l 58).toNat, trimL (l.drop ((Lib.indexByte l 58).toNat + 1)))
  else (8, [], [])

def fieldV (n v : List UInt8) : Value := .agg #[.string ⟨n.toArray⟩, .string ⟨v.toArray⟩]
def parseV (p : Int × List UInt8 × List UInt8) : Value := .tuple #[fieldV p.2.1 p.2.2, .int .i64 p.1]

theorem index_lt (l : List UInt8) (c : UInt8) (i : Nat) (h : Lib.indexByte l c = i) : i < l.length := by
  have := (Lib.indexByte_some h).1
  exact (List.getElem?_eq_some_iff.mp this).1
theorem index_cases (l : List UInt8) (c : UInt8) : Lib.indexByte l c = -1 ∨ ∃ i : Nat, Lib.indexByte l c = i := by
  have := Lib.indexByte_ge l c
  by_cases h : Lib.indexByte l c = -1
  · exact Or.inl h
  · exact Or.inr ⟨(Lib.indexByte l c).toNat, by omega⟩
theorem isOne_say {n v : ByteArray} {r : Bool} (h : Hid (isF n.data.toList v.data.toList = r)) (hn : n.size ≤ 1000000) (hv : v.size ≤ 1000000) (w : World) :
    Calls Tryz.prog 120 #[.agg #[.string n, .string v]] w fun e w' => e = .returned (.bool r) ∧ Sm No w w' := by
  rw [← h.out]; exact isOne_any n v hn hv w
theorem dropR_le (l : List UInt8) : (dropR l).length ≤ l.length := by
  unfold dropR
  have := (List.dropWhile_sublist blB (l := l.reverse)).length_le
  simpa using this
theorem trimL_le (l : List UInt8) : (trimL l).length ≤ l.length := by
  rw [trimL_eq]
  exact Nat.le_trans (dropR_le _) ((List.dropWhile_sublist blB (l := l)).length_le)

end Go.Proofs.YtiglfbimijnpcaaGreatDoor

