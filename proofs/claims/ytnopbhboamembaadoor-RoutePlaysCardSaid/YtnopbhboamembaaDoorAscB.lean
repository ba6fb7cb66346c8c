/- The walks of package ascii and of its twin: tokens and values. -/
import Derived.Test.YtnopbhboamembaaDoorAscA
namespace Go.Proofs.YtnopbhboamembaaDoor
open Go.RowKit Go.Proofs

def alnB (c : UInt8) : Bool := letB c || decide (48 ≤ c.toNat ∧ c.toNat ≤ 57)

theorem alnum_any (c : UInt8) (w : World) : Calls Tryd.prog 109 #[.int .u8 c.toNat] w fun e w' => e = .returned (.bool (alnB c)) ∧ w = w' := by
  have hc := c.toNat_lt
  have hu : alnB c = true ↔ (97 ≤ c.toNat ∧ c.toNat ≤ 122) ∨ (65 ≤ c.toNat ∧ c.toNat ≤ 90) ∨ (48 ≤ c.toNat ∧ c.toNat ≤ 57) := by
    unfold alnB letB upB; simp; omega
  have HU := Lib.hid hu
  clear hu
  generalize alnB c = b at HU
  go_enter Tryd.func109, Tryd.ntmps109
  go_wp2
  all_goals
    go_ret
    exact ⟨ret_bool (by rw [HU.out]; simp; try omega), rfl⟩

theorem valueByte_any (c : UInt8) (w : World) : Calls Tryd.prog 86 #[.int .u8 c.toNat] w fun e w' => e = .returned (.bool (valB c)) ∧ w = w' := by
  have hc := c.toNat_lt
  have h9 : (c == 9) = decide (c.toNat = 9) := by rw [Bool.eq_iff_iff]; simp [← UInt8.toNat_inj]
  have h127 : (c != 127) = decide (c.toNat ≠ 127) := by rw [Bool.eq_iff_iff]; simp [← UInt8.toNat_inj]
  unfold valB
  rw [h9, h127]
  clear h9 h127
  go_enter Tryd.func86, Tryd.ntmps86
  go_wp2
  all_goals
    go_ret
    exact ⟨ret_bool (by simp; try omega), rfl⟩

theorem take_snoc (s : ByteArray) (k : Nat) (h : k < s.size) : s.data.toList.take (k + 1) = s.data.toList.take k ++ [s[k]] := by
  rw [List.take_succ_eq_append_getElem (by simpa using h)]; rfl
theorem take_all (s : ByteArray) (k : Nat) (h : ¬ k < s.size) : s.data.toList.take k = s.data.toList := List.take_of_length_le (by simp; omega)

theorem all_of_false (s : ByteArray) (k : Nat) (h : k < s.size) (p : UInt8 → Bool) (hp : p s[k] = false) : s.data.toList.all p = false := by
  rw [List.all_eq_false]
  exact ⟨s[k], by simp [ByteArray.getElem_eq_getElem_data], by simp [hp]⟩

theorem nonempty_size (s : ByteArray) : (!s.data.toList.isEmpty) = decide (0 < s.size) := by
  have hl : s.data.toList.length = s.size := by simp
  rw [← hl]
  cases s.data.toList with
  | nil => rfl
  | cons a l => simp

def inL (c : UInt8) (l : List UInt8) : Bool := l.contains c

theorem in_any (c : UInt8) (s : ByteArray) (hs : s.size ≤ 9223372036854775807) (w : World) : Calls Tryd.prog 110 #[.int .u8 c.toNat, .string s] w fun e w' => e = .returned (.bool (inL c s.data.toList)) ∧ w = w' := by
  have hc := c.toNat_lt
  go_enter Tryd.func110, Tryd.ntmps110
  go_wp2
  go_loop [5] (fun i => ∃ k : Nat, k ≤ s.size ∧ i = .int .i64 k ∧ Hid (inL c (s.data.toList.take k) = false)) (fun i => s.size - (intOf i).toNat)
  case atStart => exact ⟨0, Nat.zero_le _, rfl, Lib.hid rfl⟩
  case round =>
    obtain ⟨k, hk, rfl, HK⟩ := hrel
    by_cases hlt : k < s.size
    · by_cases hq : s[k] = c
      · have hin : inL c s.data.toList = true := by unfold inL; rw [← hq]; simp [ByteArray.getElem_eq_getElem_data]
        have HIN := Lib.hid hin
        have hq2 : ((s[k].toNat : Int) == (c.toNat : Int)) = true := by simp [hq]
        clear hin hq
        go_wp2
        go_ret
        exact ⟨by rw [HIN.out]; rfl, rfl⟩
      · have hnx : inL c (s.data.toList.take (k + 1)) = false := by
          have := HK.out
          unfold inL at this ⊢
          rw [take_snoc s k hlt, List.contains_eq_any_beq, List.any_append, ← List.contains_eq_any_beq, this]; simp; exact fun h => hq h.symm
        have HN := Lib.hid hnx
        have hq2 : ((s[k].toNat : Int) == (c.toNat : Int)) = false := by
          simp; intro h; exact hq (UInt8.toNat_inj.mp (by omega))
        clear hnx hq
        go_wp2
        go_round
        case rel => exact ⟨k + 1, by omega, by go_num, HN⟩
        case measure => simp [intOf]; omega
    · have ha := take_all s k hlt
      go_wp2
      go_ret
      exact ⟨by have := HK.out; rw [ha] at this; rw [this]; rfl, rfl⟩

theorem tok_alnum (c : UInt8) : tokB c = (alnB c || inL c marks) := rfl

theorem tokenByte_any (c : UInt8) (w : World) : Calls Tryd.prog 85 #[.int .u8 c.toNat] w fun e w' => e = .returned (.bool (tokB c)) ∧ w = w' := by
  rw [tok_alnum]
  cases hu : alnB c
  all_goals
    have HU := Lib.hid hu
    clear hu
    go_enter Tryd.func85, Tryd.ntmps85
    go_wp2_with fail
    refine (alnum_any c _).mono ?_
    rintro e w' ⟨rfl, rfl⟩
    rw [HU.out]
    go_wp2_with fail
  · refine (in_any c _ (by decide) _).mono ?_
    rintro e w' ⟨rfl, rfl⟩
    go_wp2_with fail
    go_ret
    exact ⟨by simp [marks], rfl⟩
  · go_ret
    exact ⟨by simp, rfl⟩

theorem rIsToken_any (s : ByteArray) (hs : s.size ≤ 9223372036854775807) (w : World) : Calls Tryd.prog 57 #[.string s] w fun e w' => e = .returned (.bool (tokL s.data.toList)) ∧ w = w' := by
  go_enter Tryd.func57, Tryd.ntmps57
  go_wp2
  go_loop [3] (fun i => ∃ k : Nat, k ≤ s.size ∧ i = .int .i64 k ∧ Hid ((s.data.toList.take k).all tokB = true)) (fun i => s.size - (intOf i).toNat)
  case atStart => exact ⟨0, Nat.zero_le _, rfl, Lib.hid rfl⟩
  case round =>
    obtain ⟨k, hk, rfl, HK⟩ := hrel
    by_cases hlt : k < s.size
    · cases hq : tokB s[k]
      · have hall : tokL s.data.toList = false := by unfold tokL; rw [all_of_false s k hlt tokB hq]; simp
        have HA := Lib.hid hall
        have HQ := Lib.hid hq
        clear hall hq
        go_wp2_with fail
        refine (tokenByte_any _ _).mono ?_
        rintro e w' ⟨rfl, rfl⟩
        rw [HQ.out]
        go_wp2_with fail
        go_ret
        exact ⟨by rw [HA.out]; rfl, rfl⟩
      · have hnx : (s.data.toList.take (k + 1)).all tokB = true := by
          rw [take_snoc s k hlt, List.all_append, HK.out]; simp [hq]
        have HN := Lib.hid hnx
        have HQ := Lib.hid hq
        clear hnx hq
        go_wp2_with fail
        refine (tokenByte_any _ _).mono ?_
        rintro e w' ⟨rfl, rfl⟩
        rw [HQ.out]
        go_wp2_with fail
        go_round
        case rel => exact ⟨k + 1, by omega, by go_num, HN⟩
        case measure => simp [intOf]; omega
    · have ha := take_all s k hlt
      have H2 : tokL s.data.toList = decide (0 < s.size) := by
        unfold tokL
        have := HK.out
        rw [ha] at this
        rw [this, Bool.and_true]
        exact nonempty_size s
      have HA := Lib.hid H2
      clear H2 ha
      go_wp2
      go_ret
      exact ⟨by rw [HA.out]; rfl, rfl⟩

theorem rIsValue_any (s : ByteArray) (hs : s.size ≤ 9223372036854775807) (w : World) : Calls Tryd.prog 63 #[.string s] w fun e w' => e = .returned (.bool (valL s.data.toList)) ∧ w = w' := by
  go_enter Tryd.func63, Tryd.ntmps63
  go_wp2
  go_loop [3] (fun i => ∃ k : Nat, k ≤ s.size ∧ i = .int .i64 k ∧ Hid ((s.data.toList.take k).all valB = true)) (fun i => s.size - (intOf i).toNat)
  case atStart => exact ⟨0, Nat.zero_le _, rfl, Lib.hid rfl⟩
  case round =>
    obtain ⟨k, hk, rfl, HK⟩ := hrel
    by_cases hlt : k < s.size
    · cases hq : valB s[k]
      · have hall : valL s.data.toList = false := all_of_false s k hlt valB hq
        have HA := Lib.hid hall
        have HQ := Lib.hid hq
        clear hall hq
        go_wp2_with fail
        refine (valueByte_any _ _).mono ?_
        rintro e w' ⟨rfl, rfl⟩
        rw [HQ.out]
        go_wp2_with fail
        go_ret
        exact ⟨by rw [HA.out]; rfl, rfl⟩
      · have hnx : (s.data.toList.take (k + 1)).all valB = true := by
          rw [take_snoc s k hlt, List.all_append, HK.out]; simp [hq]
        have HN := Lib.hid hnx
        have HQ := Lib.hid hq
        clear hnx hq
        go_wp2_with fail
        refine (valueByte_any _ _).mono ?_
        rintro e w' ⟨rfl, rfl⟩
        rw [HQ.out]
        go_wp2_with fail
        go_round
        case rel => exact ⟨k + 1, by omega, by go_num, HN⟩
        case measure => simp [intOf]; omega
    · have ha := take_all s k hlt
      have H2 : valL s.data.toList = true := by
        unfold valL
        have := HK.out
        rw [ha] at this
        exact this
      have HA := Lib.hid H2
      clear H2 ha
      go_wp2
      go_ret
      exact ⟨by rw [HA.out]; rfl, rfl⟩
end Go.Proofs.YtnopbhboamembaaDoor
