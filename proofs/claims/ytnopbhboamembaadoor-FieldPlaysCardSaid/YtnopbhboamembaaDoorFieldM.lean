/- The walk of FieldOfNothing. -/
import Derived.Test.YtnopbhboamembaaDoorFieldL
namespace Go.Proofs.YtnopbhboamembaaDoor
open Go.RowKit Go.Proofs

theorem add_nil (v : Value) (w : World) : Calls Tryd.prog 12 #[.pointer none, v] w fun e w' => e = .returned (.tuple #[.int .i64 0, .int .i64 1]) ∧ w = w' := by
  go_enter Tryd.func12, Tryd.ntmps12
  go_wp2_with fail
  exact bodyPost_ret (v := .tuple #[.int .i64 0, .int .i64 1]) (by simp [results, Tryd.results12, go_sem]) rfl ⟨rfl, rfl⟩
theorem get_nil (name : ByteArray) (w : World) : Calls Tryd.prog 17 #[.pointer none, .string name] w fun e w' => e = .returned (.string ⟨#[]⟩) ∧ Sm No w w' := by
  have HJ := Lib.hid (fun w => join_own w 0 (.slice none 0 0) [] (World.ownsRow_nil _ _ _ 1) (by intro x hx; cases hx) (by simp))
  go_enter Tryd.func17, Tryd.ntmps17
  go_wp2_with fail
  refine (values_nil _ _).mono ?_
  rintro e w1 ⟨rfl, rfl⟩
  go_wp2_with fail
  refine (HJ.out _).mono ?_
  rintro e w2 ⟨rfl, hs2⟩
  go_wp2_with fail
  go_ret
  exact ⟨rfl, hs2⟩
theorem has_nil (name : ByteArray) (w : World) : Calls Tryd.prog 19 #[.pointer none, .string name] w fun e w' => e = .returned (.bool false) ∧ w = w' := by
  go_enter Tryd.func19, Tryd.ntmps19
  go_wp2_with fail
  refine (values_nil _ _).mono ?_
  rintro e w1 ⟨rfl, rfl⟩
  go_wp2_with fail
  go_ret
  exact ⟨rfl, rfl⟩
theorem drop_nil (A : Option Addr) (n c : Nat) (w : World) : Calls Tryd.prog 20 #[.pointer none, .slice A n c] w fun e w' => e = .returned (.int .i64 0) ∧ Sm No w w' := by
  go_enter Tryd.func20, Tryd.ntmps20
  go_wp2_with fail
  refine (len_nil _).mono ?_
  rintro e w1 ⟨rfl, rfl⟩
  go_wp2_with fail
  refine (len_nil _).mono ?_
  rintro e w1 ⟨rfl, rfl⟩
  go_wp2_with fail
  go_ret
  exact ⟨rfl, (Sm.refl No w).alloc _⟩

end Go.Proofs.YtnopbhboamembaaDoor
