/- strings.Cut at one byte. -/
import Derived.Test.YtiglfbimijnpcaaGreatDoorQA
import Derived.Lib.IndexLaws
namespace Go.Proofs.YtiglfbimijnpcaaGreatDoor
open Go.RowKit Go.Proofs

theorem index_one (s : ByteArray) (c : UInt8) (w : World) (r : Int) (h : Hid (Lib.indexByte s.data.toList c = r)) : Calls Tryz.prog 180 #[.string s, .string ⟨#[c]⟩] w fun e w' => e = .returned (.int .i64 r) ∧ w = w' := by
  rw [← h.out]
  exact (Tryz.stringslite_Index_one s c w).mono fun _ _ ⟨a, b⟩ => ⟨a, b.symm⟩

end Go.Proofs.YtiglfbimijnpcaaGreatDoor

