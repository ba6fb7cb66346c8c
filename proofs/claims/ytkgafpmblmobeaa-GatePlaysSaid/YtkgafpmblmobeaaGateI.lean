/- The laws' bodies: a nil Gate; how long nobody may. -/
import Derived.Test.YtkgafpmblmobeaaGateH
namespace Go.Proofs.Ytkgafpmblmobeaa
open Go.RowKit Go.Proofs Go.Maps

set_option maxHeartbeats 1000000 in
theorem ofNothing_any (a0 : Int) (_w0 : (Lit.int .i64 a0).wf = true) (w : World) : Calls Try.prog 6 #[.int .i64 a0] w fun e w' => e = .returned (.bool true) ∧ Sm No w w' := by
  go_enter Try.func6, Try.ntmps6
  go_wp2_with fail
  refine (failed_nil _ _).mono ?_
  rintro e w' ⟨rfl, rfl⟩
  go_wp2_with fail
  refine (stop_nil _).mono ?_
  rintro e w' ⟨rfl, rfl⟩
  go_wp2_with fail
  refine (count_nil _ _).mono ?_
  rintro e w' ⟨rfl, rfl⟩
  go_wp2_with fail
  refine (may_nil _ _).mono ?_
  rintro e w' ⟨rfl, rfl⟩
  go_wp2_with fail
  refine (took_nil _ _).mono ?_
  rintro e w' ⟨rfl, rfl⟩
  go_wp2_with fail
  refine (left_nil _ a0 _ (by simp)).mono ?_
  rintro e w' ⟨rfl, n1, rfl⟩
  go_wp2_with fail
  refine (full_nil _).mono ?_
  rintro e w' ⟨rfl, n2, rfl⟩
  go_wp2_with fail
  refine (known_any _).mono ?_
  rintro e w' ⟨rfl, hs⟩
  go_wp2_with fail
  go_ret
  exact ⟨rfl, (((Sm.refl No w).alloc _).drewN _).trans hs (fun _ _ h => h)⟩
end Go.Proofs.Ytkgafpmblmobeaa
