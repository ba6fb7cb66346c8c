/- Parameters: tokens and blanks at the beginning. -/
import Derived.Test.YtppciofbaohpdaaDoorListD
namespace Go.Proofs.YtppciofbaohpdaaDoor
open Go.RowKit Go.Proofs

theorem while_take {p : UInt8 → Bool} {l : List UInt8} {k : Nat} (hk : k ≤ l.length) (h1 : ∀ c ∈ l.take k, p c = true) (h2 : ∀ h : k < l.length, p l[k] = false) : l.takeWhile p = l.take k := by
  induction l generalizing k with
  | nil => simp at hk; subst hk; rfl
  | cons c l ih =>
    cases k with
    | zero =>
      have := h2 (by simp)
      simp at this
      simp [this]
    | succ k =>
      have hc : p c = true := h1 c (by simp)
      rw [List.takeWhile_cons, if_pos hc, List.take_succ_cons]
      congr 1
      refine ih (by simpa using hk) (fun d hd => h1 d (by simp [hd])) (fun h => ?_)
      have := h2 (by simpa using h)
      simpa using this
theorem drop_while {p : UInt8 → Bool} {l : List UInt8} {k : Nat} (hk : k ≤ l.length) (h1 : ∀ c ∈ l.take k, p c = true) (h2 : ∀ h : k < l.length, p l[k] = false) : l.dropWhile p = l.drop k := by
  have h := while_take hk h1 h2
  have e := List.takeWhile_append_dropWhile (p := p) (l := l)
  rw [h] at e
  have e2 := List.take_append_drop k l
  rw [← e2] at e
  conv at e => lhs; rw [e2]
  exact List.append_cancel_left e
theorem data_at (s : ByteArray) (k : Nat) (h : k < s.data.toList.length) : s.data.toList[k] = s[k]'(by rw [size_toList']; exact h) := rfl

def PreRel (p : UInt8 → Bool) (s : ByteArray) (i : Value) : Prop := ∃ k : Nat, k ≤ s.size ∧ i = .int .i64 k ∧ ∀ c ∈ s.data.toList.take k, p c = true
theorem pre_step {p : UInt8 → Bool} {s : ByteArray} {k : Nat} (h : ∀ c ∈ s.data.toList.take k, p c = true) (hk : k < s.size) (hp : p s[k] = true) : ∀ c ∈ s.data.toList.take (k + 1), p c = true := by
  intro c hc
  rw [take_snoc s k hk, List.mem_append] at hc
  rcases hc with hc | hc
  · exact h c hc
  · obtain rfl := List.mem_singleton.1 hc; exact hp
theorem tok_one (s : ByteArray) (k : Nat) (h : k < s.size) : tokL (s.extract k (k + 1)).data.toList = tokB s[k] := by
  have e : k + 1 - k = 1 := by omega
  rw [Lib.extract_data, ← List.drop_take, take_snoc s k h, List.drop_append_of_le_length (by simp; omega), List.drop_eq_nil_of_le (by simp; omega)]
  simp [tokL]

set_option maxHeartbeats 2000000 in
theorem token_any (s : ByteArray) (hs : s.size ≤ 1000000) (w : World) :
    Calls Tryd.prog 85 #[.string s] w fun e w' => ∃ k : Nat, k ≤ s.size ∧ s.data.toList.take k = tokPre s.data.toList ∧ e = .returned (.string (s.extract 0 k)) ∧ w = w' := by
  go_enter Tryd.func85, Tryd.ntmps85
  go_wp2_with fail
  go_loop [3] (fun i => PreRel tokB s i) (fun i => s.size - (intOf i).toNat)
  case atStart => exact ⟨0, Nat.zero_le _, rfl, by simp⟩
  case round =>
    obtain ⟨k, hk, rfl, hall⟩ := hrel
    have HA := Lib.hid hall
    clear hall
    have hkl : k ≤ s.data.toList.length := by rw [← size_toList']; exact hk
    have k0 : (0 : Int) ≤ (k : Int) := by omega
    have k0' : (k : Int) ≤ (s.size : Int) := by omega
    by_cases hlt : k < s.size
    · obtain ⟨f, hf⟩ : ∃ f, tokB s[k] = f := ⟨_, rfl⟩
      have ho := tok_one s k hlt
      rw [hf] at ho
      have HO := Lib.hid ho
      have HF := Lib.hid hf
      have hes : (s.extract k (k + 1)).size ≤ 1000000 := by simp; omega
      have k1 : (k : Int) < (s.size : Int) := by omega
      have k2 : (k : Int) + 1 ≤ (s.size : Int) := by omega
      clear hf ho
      go_wp2_with fail
      refine (isToken_say HO hes _).mono ?_
      rintro e w1 ⟨rfl, rfl⟩
      cases f
      · have h := while_take (p := tokB) hkl HA.out (fun h => HF.out)
        have HW := Lib.hid h
        clear h
        go_wp2_with fail
        go_ret
        exact ⟨k, hk, HW.out.symm, rfl, rfl⟩
      · have HN := Lib.hid (pre_step HA.out hlt HF.out)
        go_wp2_with fail
        exact ⟨⟨k + 1, by omega, by go_num, HN.out⟩, by simp [intOf]; omega⟩
    · have h := while_take (p := tokB) hkl HA.out (fun h => absurd h (by rw [← size_toList']; exact hlt))
      have HW := Lib.hid h
      clear h
      go_wp2_with fail
      go_ret
      exact ⟨k, hk, HW.out.symm, rfl, rfl⟩

theorem tokenByte_say {c : UInt8} {r : Bool} (h : Hid (tokB c = r)) (w : World) : Calls Tryd.prog 73 #[.int .u8 c.toNat] w fun e w' => e = .returned (.bool r) ∧ w = w' := by
  rw [← h.out]; exact tokenByte_any c w

set_option maxHeartbeats 2000000 in
theorem rToken_any (s : ByteArray) (hs : s.size ≤ 1000000) (w : World) :
    Calls Tryd.prog 61 #[.string s] w fun e w' => ∃ k : Nat, k ≤ s.size ∧ s.data.toList.take k = tokPre s.data.toList ∧ e = .returned (.int .i64 k) ∧ w = w' := by
  go_enter Tryd.func61, Tryd.ntmps61
  go_wp2_with fail
  go_loop [3] (fun i => PreRel tokB s i) (fun i => s.size - (intOf i).toNat)
  case atStart => exact ⟨0, Nat.zero_le _, rfl, by simp⟩
  case round =>
    obtain ⟨k, hk, rfl, hall⟩ := hrel
    have HA := Lib.hid hall
    clear hall
    have hkl : k ≤ s.data.toList.length := by rw [← size_toList']; exact hk
    by_cases hlt : k < s.size
    · obtain ⟨f, hf⟩ : ∃ f, tokB s[k] = f := ⟨_, rfl⟩
      have HF := Lib.hid hf
      clear hf
      go_wp2_with fail
      refine (tokenByte_say HF _).mono ?_
      rintro e w1 ⟨rfl, rfl⟩
      cases f
      · have h := while_take (p := tokB) hkl HA.out (fun h => HF.out)
        have HW := Lib.hid h
        clear h
        go_wp2_with fail
        go_ret
        exact ⟨k, hk, HW.out.symm, rfl, rfl⟩
      · have HN := Lib.hid (pre_step HA.out hlt HF.out)
        go_wp2_with fail
        exact ⟨⟨k + 1, by omega, by go_num, HN.out⟩, by simp [intOf]; omega⟩
    · have h := while_take (p := tokB) hkl HA.out (fun h => absurd h (by rw [← size_toList']; exact hlt))
      have HW := Lib.hid h
      clear h
      go_wp2_with fail
      go_ret
      exact ⟨k, hk, HW.out.symm, rfl, rfl⟩

set_option maxHeartbeats 2000000 in
theorem rBlanks_any (s : ByteArray) (hs : s.size ≤ 1000000) (w : World) :
    Calls Tryd.prog 60 #[.string s] w fun e w' => ∃ k : Nat, k ≤ s.size ∧ s.data.toList.drop k = dropL s.data.toList ∧ e = .returned (.int .i64 k) ∧ w = w' := by
  go_enter Tryd.func60, Tryd.ntmps60
  go_wp2_with fail
  go_loop [3] (fun i => PreRel blB s i) (fun i => s.size - (intOf i).toNat)
  case atStart => exact ⟨0, Nat.zero_le _, rfl, by simp⟩
  case round =>
    obtain ⟨k, hk, rfl, hall⟩ := hrel
    have HA := Lib.hid hall
    clear hall
    have hkl : k ≤ s.data.toList.length := by rw [← size_toList']; exact hk
    by_cases hlt : k < s.size
    · obtain ⟨f, hf⟩ : ∃ f, blB s[k] = f := ⟨_, rfl⟩
      have hb := blB_iff s[k]
      cases f
      · have h9 : ((s[k].toNat : Int) == 9) = false := by
          simp; intro e; rw [hb.2 (Or.inl (by omega))] at hf; cases hf
        have h32 : ((s[k].toNat : Int) == 32) = false := by
          simp; intro e; rw [hb.2 (Or.inr (by omega))] at hf; cases hf
        have h := drop_while (p := blB) hkl HA.out (fun h => hf)
        have HW := Lib.hid h
        clear h hf hb
        go_wp2_with fail
        go_ret
        exact ⟨k, hk, HW.out.symm, rfl, rfl⟩
      · have HN := Lib.hid (pre_step HA.out hlt hf)
        have hc := hb.1 hf
        clear hf hb
        rcases hc with hc | hc
        · have h9 : ((s[k].toNat : Int) == 9) = true := by rw [hc]; rfl
          clear hc
          go_wp2_with fail
          exact ⟨⟨k + 1, by omega, by go_num, HN.out⟩, by simp [intOf]; omega⟩
        · have h9 : ((s[k].toNat : Int) == 9) = false := by rw [hc]; rfl
          have h32 : ((s[k].toNat : Int) == 32) = true := by rw [hc]; rfl
          clear hc
          go_wp2_with fail
          exact ⟨⟨k + 1, by omega, by go_num, HN.out⟩, by simp [intOf]; omega⟩
    · have h := drop_while (p := blB) hkl HA.out (fun h => absurd h (by rw [← size_toList']; exact hlt))
      have HW := Lib.hid h
      clear h
      go_wp2_with fail
      go_ret
      exact ⟨k, hk, HW.out.symm, rfl, rfl⟩

theorem trimLeft_any (s : ByteArray) (w : World) : Calls Tryd.prog 58 #[.string s, .string ⟨#[9, 32]⟩] w fun e w' => e = .returned (.string ⟨(dropL s.data.toList).toArray⟩) ∧ Sm No w w' := by
  have h := Any.strings_TrimLeft_laid Tryd.lays161 (by kernel_rfl) s ⟨#[9, 32]⟩ w (by decide) (ascii_of_all (by decide))
  have e : Lib.trimLeftS s.data.toList (⟨#[9, 32]⟩ : ByteArray).data.toList = dropL s.data.toList := by
    unfold Lib.trimLeftS dropL
    congr 1
    funext c
    have := byte_all (fun c => ([9, 32] : List UInt8).contains c == blB c) (by decide +kernel) c
    simpa using this
  rw [e] at h
  exact h.mono fun _ _ ⟨a, b⟩ => ⟨a, Sm.of_below b No⟩
end Go.Proofs.YtppciofbaohpdaaDoor
