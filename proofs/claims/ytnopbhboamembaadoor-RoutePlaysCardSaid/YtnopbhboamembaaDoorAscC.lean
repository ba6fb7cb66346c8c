/- The walks of package ascii: all, IsToken, IsValue. -/
import Derived.Test.YtnopbhboamembaaDoorAscB
namespace Go.Proofs.YtnopbhboamembaaDoor
open Go.RowKit Go.Proofs

def allB (p : UInt8 → Bool) (l : List UInt8) : Bool := l.all p
def AllRel (s : ByteArray) (p : UInt8 → Bool) (i : Value) : Prop := ∃ k : Nat, k ≤ s.size ∧ i = .int .i64 k ∧ Hid ((s.data.toList.take k).all p = true)

theorem all_token (s : ByteArray) (hs : s.size ≤ 9223372036854775807) (w : World) : Calls Tryd.prog 77 #[.string s, .func (.func 78) #[] #[]] w fun e w' => e = .returned (.bool (allB tokB s.data.toList)) ∧ w = w' := by
  go_enter Tryd.func77, Tryd.ntmps77
  go_wp2
  go_loop [8] (fun i => AllRel s tokB i) (fun i => s.size - (intOf i).toNat)
  case atStart => exact ⟨0, Nat.zero_le _, rfl, Lib.hid rfl⟩
  case round =>
    obtain ⟨k, hk, rfl, HK⟩ := hrel
    by_cases hlt : k < s.size
    · cases hq : tokB s[k]
      · have HA := Lib.hid (show allB tokB s.data.toList = false from all_of_false s k hlt tokB hq)
        have HQ := Lib.hid hq
        clear hq
        go_wp2_with fail
        refine (isToken1_any _ _).mono ?_
        rintro e w' ⟨rfl, rfl⟩
        rw [HQ.out]
        go_wp2_with fail
        go_ret
        exact ⟨by rw [HA.out]; rfl, rfl⟩
      · have hnx : (s.data.toList.take (k + 1)).all tokB = true := by
          rw [take_snoc s k hlt, List.all_append, HK.out]; simp [hq]
        have HN := Lib.hid hnx
        have HQ := Lib.hid hq
        clear hnx hq
        go_wp2_with fail
        refine (isToken1_any _ _).mono ?_
        rintro e w' ⟨rfl, rfl⟩
        rw [HQ.out]
        go_wp2_with fail
        go_round
        case rel => exact ⟨k + 1, by omega, by go_num, HN⟩
        case measure => simp [intOf]; omega
    · have ha := take_all s k hlt
      have H2 : allB tokB s.data.toList = true := by have := HK.out; rw [ha] at this; exact this
      have HA := Lib.hid H2
      clear H2 ha
      go_wp2
      go_ret
      exact ⟨by rw [HA.out]; rfl, rfl⟩

theorem all_value (s : ByteArray) (hs : s.size ≤ 9223372036854775807) (w : World) : Calls Tryd.prog 77 #[.string s, .func (.func 87) #[] #[]] w fun e w' => e = .returned (.bool (allB valB s.data.toList)) ∧ w = w' := by
  go_enter Tryd.func77, Tryd.ntmps77
  go_wp2
  go_loop [8] (fun i => AllRel s valB i) (fun i => s.size - (intOf i).toNat)
  case atStart => exact ⟨0, Nat.zero_le _, rfl, Lib.hid rfl⟩
  case round =>
    obtain ⟨k, hk, rfl, HK⟩ := hrel
    by_cases hlt : k < s.size
    · cases hq : valB s[k]
      · have HA := Lib.hid (show allB valB s.data.toList = false from all_of_false s k hlt valB hq)
        have HQ := Lib.hid hq
        clear hq
        go_wp2_with fail
        refine (isValue1_any _ _).mono ?_
        rintro e w' ⟨rfl, rfl⟩
        rw [HQ.out]
        go_wp2_with fail
        go_ret
        exact ⟨by rw [HA.out]; rfl, rfl⟩
      · have hnx : (s.data.toList.take (k + 1)).all valB = true := by
          rw [take_snoc s k hlt, List.all_append, HK.out]; simp [hq]
        have HN := Lib.hid hnx
        have HQ := Lib.hid hq
        clear hnx hq
        go_wp2_with fail
        refine (isValue1_any _ _).mono ?_
        rintro e w' ⟨rfl, rfl⟩
        rw [HQ.out]
        go_wp2_with fail
        go_round
        case rel => exact ⟨k + 1, by omega, by go_num, HN⟩
        case measure => simp [intOf]; omega
    · have ha := take_all s k hlt
      have H2 : allB valB s.data.toList = true := by have := HK.out; rw [ha] at this; exact this
      have HA := Lib.hid H2
      clear H2 ha
      go_wp2
      go_ret
      exact ⟨by rw [HA.out]; rfl, rfl⟩

theorem isValue_any (s : ByteArray) (hs : s.size ≤ 9223372036854775807) (w : World) : Calls Tryd.prog 65 #[.string s] w fun e w' => e = .returned (.bool (valL s.data.toList)) ∧ w = w' := by
  go_enter Tryd.func65, Tryd.ntmps65
  go_wp2_with fail
  refine (all_value _ hs _).mono ?_
  rintro e w' ⟨rfl, rfl⟩
  go_wp2_with fail
  go_ret
  exact ⟨rfl, rfl⟩

theorem isToken_any (s : ByteArray) (hs : s.size ≤ 9223372036854775807) (w : World) : Calls Tryd.prog 48 #[.string s] w fun e w' => e = .returned (.bool (tokL s.data.toList)) ∧ w = w' := by
  cases hn : s.data.toList with
  | nil =>
    have h1 : s.toList = [] := by rw [Go.ByteArray.toList_eq]; exact hn
    have h2 : s.toList.isEmpty = true := by rw [h1]; rfl
    go_enter Tryd.func48, Tryd.ntmps48
    go_wp2_with fail
    go_ret
    exact ⟨rfl, rfl⟩
  | cons a l =>
    have h1 : ¬ s.toList = [] := by rw [Go.ByteArray.toList_eq, hn]; simp
    have h2 : s.toList.isEmpty = false := by rw [Go.ByteArray.toList_eq, hn]; rfl
    have h3 : tokL (a :: l) = allB tokB s.data.toList := by rw [hn]; simp [tokL, allB]
    rw [h3]
    clear h3 hn
    go_enter Tryd.func48, Tryd.ntmps48
    go_wp2_with fail
    refine (all_token s hs _).mono ?_
    rintro e w' ⟨rfl, rfl⟩
    go_wp2_with fail
    go_ret
    exact ⟨rfl, rfl⟩
end Go.Proofs.YtnopbhboamembaaDoor
