/- Where a time lies: place; isTime. -/
import Derived.Test.YtgmgjkafdkgalaaWhE
namespace Go.Proofs.Ytgmgjkafdkgalaa
open Go.RowKit Go.Proofs Go.Maps

theorem isTime_any (w : World) (n : Int) : Calls Try.prog 29 #[.int .i64 n] w fun e w' => e = .returned (.bool (isTime n)) ∧ w' = w := by
  by_cases h0 : 0 ≤ n
  · by_cases h1 : n ≤ 1099511627776
    · have e : isTime n = true := by simp [isTime, h0, h1]
      rw [e]
      go_enter Try.func29, Try.ntmps29
      go_wp2_with fail
      go_ret
      exact ⟨rfl, rfl⟩
    · have e : isTime n = false := by simp [isTime, h1]
      rw [e]
      go_enter Try.func29, Try.ntmps29
      go_wp2_with fail
      go_ret
      exact ⟨rfl, rfl⟩
  · have e : isTime n = false := by simp [isTime, h0]
    have h2 : decide (0 ≤ n) = false := by simpa using h0
    rw [e]
    go_enter Try.func29, Try.ntmps29
    go_wp2_with fail
    go_ret
    exact ⟨rfl, rfl⟩

theorem ret_ii {a b c d : Int} (h1 : a = c) (h2 : b = d) : Ending.returned (.tuple #[.int .i64 a, .int .i64 b]) = Ending.returned (.tuple #[.int .i64 c, .int .i64 d]) := by rw [h1, h2]
theorem sh_eq (a m : Nat) : (a : Int) / 2 ^ (6 * m) = ((a / 64 ^ m : Nat) : Int) := by
  have e : ((2 : Int) ^ (6 * m)) = ((64 ^ m : Nat) : Int) := by
    rw [Int.pow_mul]
    have : ((64 ^ m : Nat) : Int) = (64 : Int) ^ m := by simp
    rw [this]; rfl
  rw [e]
  simp
theorem sh_big {a k : Nat} (ha : a ≤ 1099511627776) (hk : 6 ≤ k) : a / 64 ^ (k + 1) = 0 := by
  refine Nat.div_eq_of_lt ?_
  have h1 : (64 : Nat) ^ 7 ≤ 64 ^ (k + 1) := Nat.pow_le_pow_right (by omega) (by omega)
  have h2 : (64 : Nat) ^ 7 = 4398046511104 := by decide
  omega
theorem placeL_at {n a k : Nat} (h0 : ¬ a ≤ n) (hj : ∀ j, j < k → a / 64 ^ (j + 1) ≠ n / 64 ^ (j + 1)) (he : a / 64 ^ (k + 1) = n / 64 ^ (k + 1)) : placeL n a = if 4 ≤ k then (4, 0) else (k, a / 64 ^ k % 64) := by
  unfold placeL
  rw [if_neg h0]
  match k, hj, he with
  | 0, _, he => simp at he; simp [he]
  | 1, hj, he =>
    have h1 := hj 0 (by omega)
    simp at h1 he
    rw [if_neg h1, if_pos he]; rfl
  | 2, hj, he =>
    have h1 := hj 0 (by omega)
    have h2 := hj 1 (by omega)
    simp at h1 h2 he
    rw [if_neg h1, if_neg h2, if_pos he]; rfl
  | 3, hj, he =>
    have h1 := hj 0 (by omega)
    have h2 := hj 1 (by omega)
    have h3 := hj 2 (by omega)
    simp at h1 h2 h3 he
    rw [if_neg h1, if_neg h2, if_neg h3, if_pos he]; rfl
  | k + 4, hj, he =>
    have h1 := hj 0 (by omega)
    have h2 := hj 1 (by omega)
    have h3 := hj 2 (by omega)
    have h4 := hj 3 (by omega)
    simp at h1 h2 h3 h4
    rw [if_neg h1, if_neg h2, if_neg h3, if_neg h4, if_pos (by omega)]
def PlRel (w : World) (n a : Nat) (i : Value) (wr : World) : Prop := ∃ k : Nat, k ≤ 6 ∧ i = .int .i64 k ∧ Sm No w wr ∧ ∀ j, j < k → a / 64 ^ (j + 1) ≠ n / 64 ^ (j + 1)
set_option maxRecDepth 100000 in
set_option maxHeartbeats 4000000 in
theorem place_any (w : World) (r n a : Nat) (c0 : w.cell? ⟨r, 0, none⟩ = some (.int .i64 n)) (hn : n ≤ 1099511627776) (ha : a ≤ 1099511627776) :
    Calls Try.prog 45 #[.pointer (some ⟨r, 0, none⟩), .int .i64 a] w fun e w' => e = .returned (.tuple #[.int .i64 (placeL n a).1, .int .i64 (placeL n a).2]) ∧ Sm No w w' := by
  have HC := Lib.hid c0
  by_cases h0 : a ≤ n
  · have e : placeL n a = (0, n % 64) := by unfold placeL; rw [if_pos h0]
    have hd : decide ((a : Int) ≤ (n : Int)) = true := by simpa using h0
    rw [e]
    clear e
    go_enter Try.func45, Try.ntmps45
    go_wp2_with fail
    go_quiet (fail)
    go_wp2_with fail
    go_ret2
    exact ⟨rfl, (Sm.refl _ _).drewN _⟩
  · have hd : decide ((a : Int) ≤ (n : Int)) = false := by simp; omega
    go_enter Try.func45, Try.ntmps45
    go_wp2_with fail
    go_loopw [4] (fun i wr => PlRel w n a i wr) (fun i _ => 6 - (intOf i).toNat)
    case atStart => exact ⟨0, by omega, rfl, Sm.refl _ _, fun j h => by omega⟩
    case round =>
      obtain ⟨k, hk, rfl, hs, hj⟩ := hrel
      have HS := Lib.hid (And.intro hs hj)
      have c0 := hs.cell (World.block_lt_of_cell? _ _ HC.out) HC.out
      have hwr := hs
      clear hs hj
      have ea := sh_eq a (k + 1)
      have en := sh_eq n (k + 1)
      by_cases he : a / 64 ^ (k + 1) = n / 64 ^ (k + 1)
      · have hb : ((a : Int) / 2 ^ (6 * (k + 1)) != (n : Int) / 2 ^ (6 * (k + 1))) = false := by rw [ea, en, he]; simp
        have HE := Lib.hid (placeL_at h0 HS.out.2 he)
        have HW := Lib.hid hwr
        clear ea en he hwr
        by_cases h4 : 4 ≤ k
        · have hP : placeL n a = (4, 0) := by rw [HE.out, if_pos h4]
          have h5 : decide ((4 : Int) ≤ (k : Int)) = true := by simp; omega
          have HP := Lib.hid hP
          clear hP
          go_wp2_with fail
          go_quiet (fail)
          go_wp2_with fail
          go_ret2
          rw [HP.out]
          exact ⟨rfl, HW.out.drewN _⟩
        · have hP : placeL n a = (k, a / 64 ^ k % 64) := by rw [HE.out, if_neg h4]
          have h5 : decide ((4 : Int) ≤ (k : Int)) = false := by simp; omega
          have HP := Lib.hid hP
          have HE2 := Lib.hid (sh_eq a k)
          clear hP
          go_wp2_with fail
          go_quiet (fail)
          go_wp2_with fail
          go_quiet (fail)
          go_wp2_with fail
          go_ret2
          rw [HP.out]
          refine ⟨ret_ii rfl ?_, (HW.out.drewN _).drewN _⟩
          show ((a : Int) / 2 ^ (6 * k)).tmod 64 = _
          rw [HE2.out]
          rfl
      · have hb : ((a : Int) / 2 ^ (6 * (k + 1)) != (n : Int) / 2 ^ (6 * (k + 1))) = true := by rw [ea, en]; simpa using fun e => he (by exact_mod_cast e)
        have hk6 : k < 6 := by
          rcases Nat.lt_or_ge k 6 with g | g
          · exact g
          · exact absurd ((sh_big ha g).trans (sh_big hn g).symm) he
        have HE := Lib.hid he
        have HW := Lib.hid hwr
        clear ea en he hwr
        go_wp2_with fail
        go_quiet (fail)
        go_wp2_with fail
        refine ⟨⟨k + 1, by omega, by go_num, HW.out.drewN _, fun j hj => ?_⟩, by simp [intOf]; omega⟩
        rcases Nat.lt_or_ge j k with g | g
        · exact HS.out.2 j g
        · obtain rfl : j = k := by omega
          exact HE.out
end Go.Proofs.Ytgmgjkafdkgalaa
