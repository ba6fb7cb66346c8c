/- Bits: a mask leaves a number between nothing and itself. No program in sight. -/
import Derived.Laws.BitsLemmas
import Derived.WalkKit
namespace Go.Proofs.YtiglfbimijnpcaaGreatDoor
open Go.Proofs

theorem and_bd (x : Int) (m : Nat) (hm : m < 4611686018427387904) : ∃ k : Nat, k ≤ m ∧ bits .and .i64 x m = k := by
  have h1 : (BitVec.ofInt 64 x &&& BitVec.ofInt 64 (m : Int)).toNat ≤ m := by
    rw [BitVec.toNat_and]
    refine Nat.le_trans Nat.and_le_right ?_
    simp; omega
  refine ⟨(BitVec.ofInt 64 x &&& BitVec.ofInt 64 (m : Int)).toNat, h1, ?_⟩
  show IntKind.i64.wrap _ = _
  rw [IntKind.wrap_i64]
  have : (((BitVec.ofInt 64 x &&& BitVec.ofInt 64 (m : Int)).toNat : Nat) : Int) ≤ m := by exact_mod_cast h1
  show ((((BitVec.ofInt 64 x &&& BitVec.ofInt 64 (m : Int)).toNat : Nat) : Int) + 9223372036854775808) % 18446744073709551616 - 9223372036854775808 = _
  omega
end Go.Proofs.YtiglfbimijnpcaaGreatDoor

