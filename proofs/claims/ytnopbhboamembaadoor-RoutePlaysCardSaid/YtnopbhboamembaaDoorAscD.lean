/- The walks of package ascii and of its twin: Lower, Trim. -/
import Derived.Test.YtnopbhboamembaaDoorAscC
import Derived.Test.YtnopbhboamembaaDoorByteRows
namespace Go.Proofs.YtnopbhboamembaaDoor
open Go.RowKit Go.Proofs

/-- The first k bytes as small letters, the rest as it was. -/
def lowK (l : List UInt8) (k : Nat) : List UInt8 := lowL (l.take k) ++ l.drop k
theorem lowK_zero (l : List UInt8) : lowK l 0 = l := by simp [lowK, lowL]
theorem lowK_len (l : List UInt8) (k : Nat) (h : k ≤ l.length) : (lowK l k).length = l.length := by simp [lowK, lowL]; omega
theorem lowK_all (l : List UInt8) (k : Nat) (h : l.length ≤ k) : lowK l k = lowL l := by simp [lowK, List.take_of_length_le h, List.drop_eq_nil_of_le h]
theorem lowK_at (l : List UInt8) (k : Nat) (h : k < l.length) : (lowK l k)[k]? = some l[k] := by
  unfold lowK lowL
  have e : min k l.length = k := by omega
  rw [List.getElem?_append_right (by simp; omega)]
  simp [e, h]
theorem lowK_set (l : List UInt8) (k : Nat) (h : k < l.length) : (lowK l k).set k (lowC l[k]) = lowK l (k + 1) := by
  have e : l.drop k = l[k] :: l.drop (k + 1) := List.drop_eq_getElem_cons h
  unfold lowK lowL
  have e4 : k - (List.map lowC (List.take k l)).length = 0 := by simp; omega
  rw [e, List.set_append_right _ _ (by simp; omega), List.take_succ_eq_append_getElem h, List.map_append, e4]
  simp only [List.set_cons_zero, List.map_cons, List.map_nil, List.append_assoc, List.singleton_append]
theorem lowK_same (l : List UInt8) (k : Nat) (h : k < l.length) (hu : upB l[k] = false) : lowK l k = lowK l (k + 1) := by
  rw [← lowK_set l k h]
  have e : lowC l[k] = l[k] := by simp [lowC, hu]
  rw [e]
  have := lowK_at l k h
  apply List.ext_getElem?
  intro i
  rw [List.getElem?_set]
  split
  · rename_i hi; subst hi; rw [this]; have := lowK_len l k (by omega); simp; omega
  · rfl

def LowRel (s : ByteArray) (w : World) (g : Nat) (i : Value) (wr : World) : Prop := ∃ k : Nat, k ≤ s.size ∧ i = .int .i64 k ∧ By wr g (lowK s.data.toList k) ∧ Sm No w wr

theorem lower_any (s : ByteArray) (hs : s.size ≤ 1000000) (w : World) : Calls Tryd.prog 67 #[.string s] w fun e w' => e = .returned (.string ⟨(lowL s.data.toList).toArray⟩) ∧ Sm No w w' := by
  have hl : s.data.toList.length = s.size := by simp
  have HL := Lib.hid hl
  clear hl
  go_enter Tryd.func67, Tryd.ntmps67
  go_wp2_with (refine wpList_bytes_of rfl 9 98 5 _ rfl s rfl Tryd.underlying9 Tryd.underlying98 Tryd.underlying5 fun cap w1 hb hcap hs1 hz => ?_)
  have HB := Lib.hid hb
  have HS := Lib.hid hs1
  clear hb hs1 hz
  go_loopw [10] (fun i wr => LowRel s w w.heap.size i wr) (fun i _ => s.size - (intOf i).toNat)
  case atStart => exact ⟨0, Nat.zero_le _, rfl, by rw [lowK_zero]; exact HB.out, HS.out⟩
  case round =>
    obtain ⟨k, hk, rfl, hb, hsm⟩ := hrel
    by_cases hlt : k < s.size
    · have hlt2 : k < s.data.toList.length := by rw [HL.out]; exact hlt
      obtain ⟨c, hcd⟩ : ∃ c, s.data.toList[k] = c := ⟨_, rfl⟩
      have hx := lowK_at s.data.toList k hlt2
      rw [hcd] at hx
      have hc := hb.at hx
      have hf := hb.fz (j := k) (by rw [lowK_len _ _ (by omega)]; exact hlt2)
      have hset := lowK_set s.data.toList k hlt2
      have hsame := lowK_same s.data.toList k hlt2
      rw [hcd] at hset hsame
      have h256 := c.toNat_lt
      have HC := Lib.hid hcd
      have HX := Lib.hid hx
      clear hcd hx
      cases hu : upB c
      · have H2 := Lib.hid (hsame hu)
        have HU := Lib.hid hu
        clear hset hsame hu
        go_wp2_with fail
        refine (isUpper_any c _).mono ?_
        rintro e w' ⟨rfl, rfl⟩
        rw [HU.out]
        go_wp2_with fail
        exact ⟨⟨k + 1, by omega, by go_num, by rw [← H2.out]; exact hb, hsm⟩, by simp [intOf]; omega⟩
      · have H2 := Lib.hid hset
        have HU := Lib.hid hu
        obtain ⟨hu1, hu2⟩ := (upB_iff c).mp hu
        have H3 := Lib.hid (lowC_toNat c)
        have H4 := Lib.hid (hb.set k (by rw [lowK_len _ _ (by omega)]; exact hlt2) (lowC c))
        clear hset hsame hu
        go_wp2_with fail
        refine (isUpper_any c _).mono ?_
        rintro e w' ⟨rfl, rfl⟩
        rw [HU.out]
        go_wp2_with fail
        have hv : ((lowC c).toNat : Int) = c.toNat + 97 - 65 := by rw [H3.out, HU.out]; simp; omega
        exact ⟨⟨k + 1, by omega, by go_num, by rw [← H2.out, ← hv]; exact H4.out, hsm.setN (Nat.le_refl _) _ _⟩, by simp [intOf]; omega⟩
    · have hb2 := hb
      rw [lowK_all _ _ (by rw [HL.out]; omega)] at hb2
      have HB2 := Lib.hid hb2
      clear hb2
      go_wp2_with (refine wpList_string_of rfl 98 9 5 _ rfl w.heap.size s.size cap _ rfl Tryd.underlying98 Tryd.underlying5 Tryd.underlying9 HB2.out (by simp [lowL]) ?_)
      go_ret
      exact ⟨rfl, hsm⟩

/-- The first k bytes as small letters, the rest zeros. -/
def lowZ (l : List UInt8) (k : Nat) : List UInt8 := lowL (l.take k) ++ List.replicate (l.length - k) 0
theorem lowZ_len (l : List UInt8) (k : Nat) (h : k ≤ l.length) : (lowZ l k).length = l.length := by simp [lowZ, lowL]; omega
theorem lowZ_all (l : List UInt8) (k : Nat) (h : l.length ≤ k) : lowZ l k = lowL l := by
  have : l.length - k = 0 := by omega
  simp [lowZ, List.take_of_length_le h, this]
theorem lowZ_at (l : List UInt8) (k : Nat) (h : k < l.length) : (lowZ l k)[k]? = some 0 := by
  unfold lowZ lowL
  rw [List.getElem?_append_right (by simp; omega), List.getElem?_replicate, if_pos (by simp; omega)]
theorem lowZ_set (l : List UInt8) (k : Nat) (h : k < l.length) : (lowZ l k).set k (lowC l[k]) = lowZ l (k + 1) := by
  unfold lowZ lowL
  have e4 : k - (List.map lowC (List.take k l)).length = 0 := by simp; omega
  have e5 : l.length - k = (l.length - (k + 1)) + 1 := by omega
  rw [List.set_append_right _ _ (by simp; omega), List.take_succ_eq_append_getElem h, List.map_append, e4, e5, List.replicate_succ]
  simp only [List.set_cons_zero, List.map_cons, List.map_nil, List.append_assoc, List.singleton_append]

def LowRelZ (s : ByteArray) (w : World) (g : Nat) (i : Value) (wr : World) : Prop := ∃ k : Nat, k ≤ s.size ∧ i = .int .i64 k ∧ By wr g (lowZ s.data.toList k) ∧ Sm No w wr

theorem infoU8 : (Tryd.prog.info? 5).map (fun i => (i.zero, i.size, i.bytes)) = some (some (.int .u8 0), 1, 1) := by kernel_rfl

theorem rLower_any (s : ByteArray) (hs : s.size ≤ 1000000) (w : World) : Calls Tryd.prog 68 #[.string s] w fun e w' => e = .returned (.string ⟨(lowL s.data.toList).toArray⟩) ∧ Sm No w w' := by
  have hl : s.data.toList.length = s.size := by simp
  have HL := Lib.hid hl
  clear hl
  go_enter Tryd.func68, Tryd.ntmps68
  go_wp2_with (refine wpList_make_bytes rfl 98 5 _ _ rfl s.size rfl rfl Tryd.underlying98 infoU8 (by omega) fun w1 hb hs1 hz => ?_)
  have HB := Lib.hid hb
  have HS := Lib.hid hs1
  clear hb hs1 hz
  go_loopw [4] (fun i wr => LowRelZ s w w.heap.size i wr) (fun i _ => s.size - (intOf i).toNat)
  case atStart => exact ⟨0, Nat.zero_le _, rfl, by simpa [lowZ, lowL] using HB.out, HS.out⟩
  case round =>
    obtain ⟨k, hk, rfl, hb, hsm⟩ := hrel
    by_cases hlt : k < s.size
    · have hlt2 : k < s.data.toList.length := by rw [HL.out]; exact hlt
      have hx := lowZ_at s.data.toList k hlt2
      have hc := hb.at hx
      have hf := hb.fz (j := k) (by rw [lowZ_len _ _ (by omega)]; exact hlt2)
      have H2 := Lib.hid (lowZ_set s.data.toList k hlt2)
      have H4 := Lib.hid (hb.set k (by rw [lowZ_len _ _ (by omega)]; exact hlt2) (lowC s[k]))
      have e : s.data.toList[k] = s[k] := rfl
      have HE := Lib.hid e
      clear hx e
      go_wp2_with fail
      refine (rlower_any _ _).mono ?_
      rintro e w' ⟨rfl, rfl⟩
      go_wp2_with fail
      exact ⟨⟨k + 1, by omega, by go_num, by have := H2.out; rw [HE.out] at this; rw [← this]; exact H4.out, hsm.setN (Nat.le_refl _) _ _⟩, by simp [intOf]; omega⟩
    · have hb2 := hb
      rw [lowZ_all _ _ (by rw [HL.out]; omega)] at hb2
      have HB2 := Lib.hid hb2
      clear hb2
      go_wp2_with (refine wpList_string_of rfl 98 9 5 _ rfl w.heap.size s.size s.size _ rfl Tryd.underlying98 Tryd.underlying5 Tryd.underlying9 HB2.out (by simp [lowL]) ?_)
      go_ret
      exact ⟨rfl, hsm⟩
end Go.Proofs.YtnopbhboamembaaDoor
