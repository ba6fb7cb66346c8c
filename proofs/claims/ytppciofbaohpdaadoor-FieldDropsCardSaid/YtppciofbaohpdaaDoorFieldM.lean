/- The walk of FieldOfNothing. -/
import Derived.Test.YtppciofbaohpdaaDoorFieldL
namespace Go.Proofs.YtppciofbaohpdaaDoor
open Go.RowKit Go.Proofs

theorem add_nil (v : Value) (w : World) : Calls Tryd.prog 21 #[.pointer none, v] w fun e w' => e = .returned (.tuple #[.int .i64 0, .int .i64 1]) ∧ w = w' := by
  go_enter Tryd.func21, Tryd.ntmps21
  go_wp2_with fail
  exact bodyPost_ret (v := .tuple #[.int .i64 0, .int .i64 1]) (by simp [results, Tryd.results21, go_sem]) rfl ⟨rfl, rfl⟩
theorem get_nil (name : ByteArray) (w : World) : Calls Tryd.prog 41 #[.pointer none, .string name] w fun e w' => e = .returned (.string ⟨#[]⟩) ∧ Sm No w w' := by
  have HJ := Lib.hid (fun w => join_own w 0 (.slice none 0 0) [] (World.ownsRow_nil _ _ _ 1) (by intro x hx; cases hx) (by simp))
  go_enter Tryd.func41, Tryd.ntmps41
  go_wp2_with fail
  refine (values_nil _ _).mono ?_
  rintro e w1 ⟨rfl, rfl⟩
  go_wp2_with fail
  refine (HJ.out _).mono ?_
  rintro e w2 ⟨rfl, hs2⟩
  go_wp2_with fail
  go_ret
  exact ⟨rfl, hs2⟩
theorem has_nil (name : ByteArray) (w : World) : Calls Tryd.prog 43 #[.pointer none, .string name] w fun e w' => e = .returned (.bool false) ∧ w = w' := by
  go_enter Tryd.func43, Tryd.ntmps43
  go_wp2_with fail
  refine (values_nil _ _).mono ?_
  rintro e w1 ⟨rfl, rfl⟩
  go_wp2_with fail
  go_ret
  exact ⟨rfl, rfl⟩
theorem drop_nil (A : Option Addr) (n c : Nat) (w : World) : Calls Tryd.prog 44 #[.pointer none, .slice A n c] w fun e w' => e = .returned (.int .i64 0) ∧ Sm No w w' := by
  go_enter Tryd.func44, Tryd.ntmps44
  go_wp2_with fail
  refine (len_nil _).mono ?_
  rintro e w1 ⟨rfl, rfl⟩
  go_wp2_with fail
  refine (len_nil _).mono ?_
  rintro e w1 ⟨rfl, rfl⟩
  go_wp2_with fail
  go_ret
  exact ⟨rfl, (Sm.refl No w).alloc _⟩

set_option maxHeartbeats 4000000 in
theorem nothing_any (s : ByteArray) (hs : s.size ≤ 140737488351232) (w : World) :
    Calls Tryd.prog 13 #[.string s] w fun e w' => e = .returned (.bool true) ∧ Sm No w w' := by
  by_cases hb : 5000 < s.size
  · go_enter Tryd.func13, Tryd.ntmps13
    go_wp2_with fail
    go_ret
    exact ⟨rfl, Sm.refl _ _⟩
  · go_enter Tryd.func13, Tryd.ntmps13
    go_wp2_with fail
    refine (add_nil _ _).mono ?_
    rintro e w1 ⟨rfl, rfl⟩
    go_wp2_with fail
    refine (values_nil _ _).mono ?_
    rintro e w1 ⟨rfl, rfl⟩
    go_wp2_with fail
    refine (get_nil _ _).mono ?_
    rintro e w1 ⟨rfl, hs1⟩
    have hs2 := ((Sm.refl No w).alloc _).trans hs1 (fun _ _ h => h)
    have HS := Lib.hid hs2
    clear hs1 hs2
    go_wp2_with fail
    refine (drop_nil _ _ _ _).mono ?_
    rintro e w2 ⟨rfl, hs3⟩
    have H3 := Lib.hid ((HS.out.alloc _).trans hs3 (fun _ _ h => h))
    clear hs3
    go_wp2_with fail
    refine (all_nil _).mono ?_
    rintro e w3 ⟨rfl, rfl⟩
    go_wp2_with fail
    refine (len_nil _).mono ?_
    rintro e w3 ⟨rfl, rfl⟩
    go_wp2_with fail
    refine (has_nil _ _).mono ?_
    rintro e w3 ⟨rfl, rfl⟩
    go_wp2_with fail
    refine (known10_any _).mono ?_
    rintro e w4 ⟨rfl, hs4⟩
    go_wp2_with fail
    go_ret
    exact ⟨rfl, H3.out.trans hs4 (fun _ _ h => h)⟩
end Go.Proofs.YtppciofbaohpdaaDoor
