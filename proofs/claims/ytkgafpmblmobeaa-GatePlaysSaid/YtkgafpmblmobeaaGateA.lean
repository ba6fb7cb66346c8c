/- The two packages' looks at a config: whether all numbers of a row lie between two bounds; whether a config is one. -/
import Derived.Test.YtkgafpmblmobeaaProg
import Derived.Test.YtkgafpmblmobeaaMem
import Derived.WalkKit
import Derived.Deep.QuietTactic
import Derived.BigQuiet
import Derived.Lib.Hide
namespace Go.Proofs.Ytkgafpmblmobeaa
open Go.RowKit Go.Proofs

def allW (lo hi : Int) (l : List Int) : Bool := l.all fun n => decide (lo ≤ n) && decide (n ≤ hi)

theorem take_succ_getD (xs : List Int) (k : Nat) (h : k < xs.length) : xs.take (k + 1) = xs.take k ++ [xs.getD k 0] := by
  rw [List.take_succ_eq_append_getElem h]; simp [List.getD, h]

theorem allW_snoc (lo hi : Int) (l : List Int) (x : Int) : allW lo hi (l ++ [x]) = (allW lo hi l && (decide (lo ≤ x) && decide (x ≤ hi))) := by
  simp [allW, List.all_append]

theorem allW_not (lo hi : Int) (xs : List Int) (k : Nat) (h : k < xs.length) (hx : ¬ (lo ≤ xs.getD k 0 ∧ xs.getD k 0 ≤ hi)) : allW lo hi xs = false := by
  cases hq : allW lo hi xs
  · rfl
  · exfalso
    have := List.all_eq_true.1 hq (xs.getD k 0) (by simp [List.getD, h])
    simp at this
    exact hx this

set_option maxHeartbeats 400000 in
theorem within_any (lo hi : Int) (b : Nat) (xs : List Int) (cap : Nat) (w : World) (hlen : xs.length ≤ 1000)
    (hc : ∀ k, k < xs.length → w.cell? ⟨b, k, none⟩ = some (.int .i64 (xs.getD k 0))) :
    Calls Try.prog 26 #[.int .i64 lo, .int .i64 hi, .slice (some ⟨b, 0, none⟩) xs.length cap] w fun e w' => e = .returned (.bool (allW lo hi xs)) ∧ w = w' := by
  go_enter Try.func26, Try.ntmps26
  go_wp2
  go_loop [11] (fun i => ∃ k : Nat, k ≤ xs.length ∧ i = .int .i64 k ∧ allW lo hi (xs.take k) = true) (fun i => xs.length - (intOf i).toNat)
  case atStart => exact ⟨0, Nat.zero_le _, rfl, rfl⟩
  case round =>
    obtain ⟨k, hk, rfl, H⟩ := hrel
    have HH := Lib.hid H
    clear H
    by_cases hlt : k < xs.length
    · have hcell := hc k hlt
      have hs : lo ≤ xs.getD k 0 → xs.getD k 0 ≤ hi → allW lo hi (xs.take (k + 1)) = true := by
        intro h1 h2
        rw [take_succ_getD xs k hlt, allW_snoc, HH.out, Bool.true_and]
        simp only [h1, h2, decide_true, Bool.and_self]
      have hs2 := allW_not lo hi xs k hlt
      obtain ⟨x, hx⟩ : ∃ x, x = xs.getD k 0 := ⟨_, rfl⟩
      rw [← hx] at hcell hs hs2
      have Hs := Lib.hid hs
      have Hs2 := Lib.hid hs2
      clear hs hs2 hx hc
      by_cases h1 : x < lo
      · go_wp2
        go_ret
        exact ⟨ret_b (Hs2.out (by omega)).symm, rfl⟩
      · by_cases h2 : hi < x
        · go_wp2
          go_ret
          exact ⟨ret_b (Hs2.out (by omega)).symm, rfl⟩
        · go_wp2
          go_round
          case rel => exact ⟨k + 1, by omega, by go_num, Hs.out (by omega) (by omega)⟩
          case measure => simp [intOf]; omega
    · clear hc
      have e : allW lo hi xs = true := by
        have := HH.out
        rwa [List.take_of_length_le (by omega)] at this
      have E := Lib.hid e
      clear e
      go_wp2
      go_ret
      exact ⟨ret_b E.out.symm, rfl⟩

set_option maxHeartbeats 400000 in
theorem refwithin_any (n lo hi : Int) (w : World) :
    Calls Try.prog 27 #[.int .i64 n, .int .i64 lo, .int .i64 hi] w fun e w' => e = .returned (.bool (decide (lo ≤ n) && decide (n ≤ hi))) ∧ w = w' := by
  by_cases h1 : lo ≤ n <;> by_cases h2 : n ≤ hi
  all_goals
    go_enter Try.func27, Try.ntmps27
    go_wp2
    go_ret
    exact ⟨by simp [h1, h2], rfl⟩
end Go.Proofs.Ytkgafpmblmobeaa
