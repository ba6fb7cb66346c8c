/- Numbers in digits; the twin's Dec. -/
import Derived.Test.YtiglfbimijnpcaaGreatDoorQO
import Derived.Test.YtiglfbimijnpcaaGreatDoorQTexts
import Derived.Lib.ItoaNum
namespace Go.Proofs.YtiglfbimijnpcaaGreatDoor
open Go.RowKit Go.Proofs

def hexB : ByteArray := ⟨#[48, 49, 50, 51, 52, 53, 54, 55, 56, 57, 97, 98, 99, 100, 101, 102]⟩
def hexC (k : Nat) : UInt8 := hexB.data.toList.getD k 0
/-- The digits of m in a base, the first ahead. -/
def digL (b m : Nat) : List UInt8 := if _h : m < b ∨ b < 2 then [hexC m] else digL b (m / b) ++ [hexC (m % b)]
termination_by m
decreasing_by exact Nat.div_lt_self (by omega) (by omega)
theorem digL_small {b m : Nat} (h : m < b) : digL b m = [hexC m] := by rw [digL, dif_pos (Or.inl h)]
theorem digL_step {b m : Nat} (h : ¬ m < b) (hb : 2 ≤ b) : digL b m = digL b (m / b) ++ [hexC (m % b)] := by rw [digL, dif_neg (by omega)]
theorem hexC_dec {k : Nat} (h : k < 10) : hexC k = UInt8.ofNat (48 + k) := by
  match k, h with
  | 0, _ | 1, _ | 2, _ | 3, _ | 4, _ | 5, _ | 6, _ | 7, _ | 8, _ | 9, _ => rfl
theorem digL_dec (m : Nat) : digL 10 m = Lib.decDigits m := by
  induction m using Nat.strongRecOn with
  | _ m ih =>
    by_cases h : m < 10
    · rw [digL_small h, Lib.decDigits_one h, hexC_dec h]
    · rw [digL_step h (by omega), Lib.decDigits, dif_neg h, ih (m / 10) (by omega), hexC_dec (by omega)]
/-- What text has laid, and what is left of the number. -/
def TextI (b N m : Nat) (s : List UInt8) : Prop := (s = [] ∧ m = N) ∨ (0 < m ∧ m * 2 ^ s.length ≤ N ∧ digL b N = digL b m ++ s)
theorem textI_len {b N m : Nat} {s : List UInt8} (hN : N ≤ 9223372036854775807) (h : TextI b N m s) : s.length ≤ 63 := by
  rcases h with ⟨rfl, _⟩ | ⟨h0, h1, _⟩
  · simp
  · rcases Nat.lt_or_ge s.length 64 with h | h
    · omega
    · have h2 : 2 ^ 64 ≤ 2 ^ s.length := Nat.pow_le_pow_right (by omega) h
      have h3 : 1 * 2 ^ s.length ≤ m * 2 ^ s.length := Nat.mul_le_mul_right _ h0
      have h4 : (2 : Nat) ^ 64 = 18446744073709551616 := by decide
      omega
theorem textI_step {b N m : Nat} {s : List UInt8} (hb : 2 ≤ b) (h : TextI b N m s) (h0 : 0 < m / b) : TextI b N (m / b) (hexC (m % b) :: s) := by
  have hlt : ¬ m < b := fun e => by rw [Nat.div_eq_of_lt e] at h0; omega
  have h2 : m / b * 2 ≤ m := Nat.le_trans (Nat.mul_le_mul_left _ hb) (Nat.div_mul_le_self m b)
  rcases h with ⟨rfl, rfl⟩ | ⟨_, h1, h⟩
  · exact Or.inr ⟨h0, by simpa using h2, digL_step hlt hb⟩
  · refine Or.inr ⟨h0, ?_, by rw [h, digL_step hlt hb, List.append_assoc]; rfl⟩
    rw [List.length_cons, Nat.pow_succ, Nat.mul_comm (2 ^ s.length) 2, ← Nat.mul_assoc]
    exact Nat.le_trans (Nat.mul_le_mul_right _ h2) h1
theorem textI_end {b N m : Nat} {s : List UInt8} (hb : 2 ≤ b) (h : TextI b N m s) (h0 : m / b = 0) : hexC (m % b) :: s = digL b N := by
  have hlt : m < b := by
    rcases Nat.lt_or_ge m b with h | h
    · exact h
    · have := Nat.div_pos h (by omega); omega
  rw [Nat.mod_eq_of_lt hlt]
  rcases h with ⟨rfl, rfl⟩ | ⟨_, _, h⟩
  · rw [digL_small hlt]
  · rw [h, digL_small hlt]; rfl
theorem cat_cons (c : UInt8) (s : List UInt8) : (⟨#[c]⟩ ++ ⟨s.toArray⟩ : ByteArray) = ⟨(c :: s).toArray⟩ := by
  apply ByteArray.ext
  simp
def TxR (w : World) (b N : Nat) (nv sv : Value) (wr : World) : Prop := ∃ (m : Nat) (s : List UInt8), nv = .int .i64 m ∧ sv = strV s ∧ m ≤ N ∧ TextI b N m s ∧ Sm No w wr
set_option maxRecDepth 100000 in
set_option maxHeartbeats 1000000 in
theorem rText_any (w : World) (n : Int) (b : Nat) (hb : b = 10 ∨ b = 16) (h0 : -9223372036854775808 ≤ n) (h1 : n ≤ 9223372036854775807) :
    Calls Tryz.prog 74 #[.int .i64 n, .int .i64 b] w fun e w' => e = .returned (strV (digL b (max 0 n).toNat)) ∧ Sm No w w' := by
  obtain ⟨N, hN⟩ : ∃ N : Nat, max 0 n = (N : Int) := ⟨(max 0 n).toNat, by omega⟩
  have hN1 : (N : Int) ≤ 9223372036854775807 := by omega
  rw [hN, Int.toNat_natCast]
  have HN := Lib.hid hN
  clear hN
  have hb0 : 2 ≤ b := by omega
  have hb1 : b ≤ 16 := by omega
  go_enter Tryz.func74, Tryz.ntmps74
  go_wp2_with fail
  rw [HN.out]
  go_loopw [0, 5] (fun nv sv wr => TxR w b N nv sv wr) (fun nv _ _ => (intOf nv).toNat)
  case atStart => exact ⟨N, [], rfl, rfl, Nat.le_refl _, Or.inl ⟨rfl, rfl⟩, Sm.refl _ _⟩
  case round =>
    obtain ⟨m, s, rfl, rfl, hm, hI, hsm⟩ := hrel
    have hs := textI_len (by omega) hI
    obtain ⟨r, hr⟩ : ∃ r, m % b = r := ⟨_, rfl⟩
    obtain ⟨q, hq⟩ : ∃ q, m / b = q := ⟨_, rfl⟩
    have hr16 : r < 16 := by rw [← hr]; exact Nat.lt_of_lt_of_le (Nat.mod_lt _ (by omega)) hb1
    have e1 : (m : Int) % (b : Int) = (r : Int) := by rw [← hr]; exact (Int.natCast_emod m b).symm
    have e2 : (m : Int) / (b : Int) = (q : Int) := by rw [← hq]; exact (Int.natCast_ediv m b).symm
    have r0 : (0 : Int) ≤ (r : Int) := by omega
    have r1 : (r : Int) < 16 := by omega
    have q0 : (0 : Int) ≤ (q : Int) := by omega
    have hqm : q ≤ m := by rw [← hq]; exact Nat.div_le_self _ _
    have q1 : (q : Int) ≤ 9223372036854775807 := by omega
    have HR := Lib.hid (And.intro hr (And.intro hq hI))
    have HS := Lib.hid hsm
    clear hr hq hI hsm
    obtain ⟨c, hcx⟩ : ∃ c, (⟨#[48, 49, 50, 51, 52, 53, 54, 55, 56, 57, 97, 98, 99, 100, 101, 102]⟩ : ByteArray)[r]'(by simp [ByteArray.size]; omega) = c := ⟨_, rfl⟩
    have hx : c = hexC r := by
      rw [← hcx]
      match r, hr16 with
      | 0, _ | 1, _ | 2, _ | 3, _ | 4, _ | 5, _ | 6, _ | 7, _ | 8, _ | 9, _ | 10, _ | 11, _ | 12, _ | 13, _ | 14, _ | 15, _ => rfl
      | n + 16, h => omega
    have HX := Lib.hid hx
    clear hx
    unfold strV
    have hb := Bk.new wr 5 #[.int .u8 c.toNat]
    have hby : By (wr.alloc (.cells #[.int .u8 c.toNat] 5)) wr.heap.size [c] := ⟨hb.lt, fun j d hj => by
      match j, hj with
      | 0, hj =>
        have : c = d := by simpa using hj
        subst this
        exact ⟨hb.at 0 rfl, hb.fz 0⟩⟩
    have HB := Lib.hid hby
    clear hb hby
    go_wp2_with (refine wpList_string_of rfl 23 9 5 (.tmp 12) rfl wr.heap.size 1 1 [c] rfl Tryz.underlying23 Tryz.underlying5 Tryz.underlying9 HB.out rfl ?_)
    · obtain ⟨g1, g2, g3⟩ := HR.out
      have hq0 : q = 0 := by simpa using ‹((q : Int) == 0) = true›
      go_ret
      refine ⟨?_, HS.out.alloc _⟩
      rw [cat_cons, HX.out, ← g1, textI_end hb0 g3 (by omega)]
      rfl
    · obtain ⟨g1, g2, g3⟩ := HR.out
      have hq0 : q ≠ 0 := fun e => by subst e; simp at *
      have hlt : q < m := by rw [← g2]; exact Nat.div_lt_self (by omega) (by omega)
      refine ⟨⟨q, c :: s, rfl, by rw [cat_cons]; rfl, by omega, ?_, HS.out.alloc _⟩, by simp [intOf]; omega⟩
      rw [HX.out, ← g1, ← g2]
      exact textI_step hb0 g3 (by omega)
/-- The twin's Dec. -/
theorem rDec_any (w : World) (n : Int) (h0 : 0 ≤ n) (h1 : n ≤ 9223372036854775807) :
    Calls Tryz.prog 34 #[.int .i64 n] w fun e w' => e = .returned (strV (Lib.itoa n)) ∧ Sm No w w' := by
  have e : digL 10 (max 0 n).toNat = Lib.itoa n := by
    rw [digL_dec]
    unfold Lib.itoa
    rw [if_neg (by omega)]
    congr 1
    omega
  have HT := Lib.hid (e ▸ rText_any w n 10 (Or.inl rfl) (by omega) h1)
  clear e
  go_enter Tryz.func34, Tryz.ntmps34
  go_wp2_with fail
  refine HT.out.mono ?_
  rintro e w1 ⟨rfl, hs⟩
  have HS := Lib.hid hs
  clear hs
  go_wp2_with fail
  go_ret
  exact ⟨rfl, HS.out⟩
end Go.Proofs.YtiglfbimijnpcaaGreatDoor

