/- The walks of package ascii and of its twin: a byte at a time. -/
import Derived.Test.YtnopbhboamembaaDoorBytes
import Derived.Test.YtnopbhboamembaaDoorMem
import Derived.Test.YtnopbhboamembaaDoorShelf
import Derived.Lib.Hide
import Derived.Deep.QuietTactic
import Derived.BigQuiet
import Derived.WalkKit
namespace Go.Proofs.YtnopbhboamembaaDoor
open Go.RowKit Go.Proofs Go.Lib

theorem ret_bool {a b : Bool} (h : a = true ↔ b = true) : Ending.returned (.bool a) = .returned (.bool b) := by rw [Bool.eq_iff_iff.mpr h]
theorem ret_byte {a : Int} {b : UInt8} (h : a = b.toNat) : Ending.returned (.int .u8 a) = .returned (.int .u8 b.toNat) := by rw [h]

theorem isUpper_any (c : UInt8) (w : World) : Calls Tryd.prog 89 #[.int .u8 c.toNat] w fun e w' => e = .returned (.bool (upB c)) ∧ w = w' := by
  have hc := c.toNat_lt
  unfold upB
  go_enter Tryd.func89, Tryd.ntmps89
  go_wp2
  all_goals
    go_ret
    exact ⟨ret_bool (by simp; try omega), rfl⟩

theorem rlower_any (c : UInt8) (w : World) : Calls Tryd.prog 90 #[.int .u8 c.toNat] w fun e w' => e = .returned (.int .u8 (lowC c).toNat) ∧ w = w' := by
  have hc := c.toNat_lt
  have hl := lowC_toNat c
  have hu := upB_iff c
  have HL := Lib.hid (And.intro hl hu)
  clear hl hu
  go_enter Tryd.func90, Tryd.ntmps90
  go_wp2
  all_goals
    go_ret
    refine ⟨ret_byte ?_, rfl⟩
    obtain ⟨h1, h2⟩ := HL.out
    rw [h1]
    split <;> simp_all <;> omega
  
theorem isLetter_any (c : UInt8) (w : World) : Calls Tryd.prog 79 #[.int .u8 c.toNat] w fun e w' => e = .returned (.bool (letB c)) ∧ w = w' := by
  have hc := c.toNat_lt
  unfold letB
  cases hu : upB c
  all_goals
    have HU := Lib.hid hu
    clear hu
    go_enter Tryd.func79, Tryd.ntmps79
    go_wp2_with fail
    refine (isUpper_any c _).mono ?_
    rintro e w' ⟨rfl, rfl⟩
    rw [HU.out]
    go_wp2_with fail
    all_goals
      go_ret
      exact ⟨ret_bool (by simp; try omega), rfl⟩

theorem isValue1_any (c : UInt8) (w : World) : Calls Tryd.prog 87 #[.int .u8 c.toNat] w fun e w' => e = .returned (.bool (valB c)) ∧ w = w' := by
  have hc := c.toNat_lt
  have h9 : (c == 9) = decide (c.toNat = 9) := by rw [Bool.eq_iff_iff]; simp [← UInt8.toNat_inj]
  have h127 : (c != 127) = decide (c.toNat ≠ 127) := by rw [Bool.eq_iff_iff]; simp [← UInt8.toNat_inj]
  unfold valB
  rw [h9, h127]
  clear h9 h127
  go_enter Tryd.func87, Tryd.ntmps87
  go_wp2
  all_goals
    go_ret
    exact ⟨ret_bool (by simp; try omega), rfl⟩

theorem isToken1_any (c : UInt8) (w : World) : Calls Tryd.prog 78 #[.int .u8 c.toNat] w fun e w' => e = .returned (.bool (tokB c)) ∧ w = w' := by
  have hc := c.toNat_lt
  cases hu : letB c
  all_goals
    have HU := Lib.hid hu
    clear hu
    go_enter Tryd.func78, Tryd.ntmps78
    go_wp2_with fail
    refine (isLetter_any c _).mono ?_
    rintro e w' ⟨rfl, rfl⟩
    rw [HU.out]
    go_wp2_with fail
  · refine (Tryd.strings_IndexByte _ _ _).mono ?_
    rintro e w' ⟨rfl, rfl⟩
    go_wp2_with fail
    go_ret
    refine ⟨ret_bool ?_, rfl⟩
    have := tok_marks c HU.out
    simp
    exact this
  · go_ret
    refine ⟨ret_bool ?_, rfl⟩
    simp [tokB, HU.out]
end Go.Proofs.YtnopbhboamembaaDoor
