/- The twin's Trim. -/
import Derived.Test.YtnopbhboamembaaDoorAscE
namespace Go.Proofs.YtnopbhboamembaaDoor
open Go.RowKit Go.Proofs

def blB (c : UInt8) : Bool := c == 9 || c == 32
/-- Without the blanks at the beginning; at the end. -/
def dropL (l : List UInt8) : List UInt8 := l.dropWhile blB
def dropR (l : List UInt8) : List UInt8 := (l.reverse.dropWhile blB).reverse

theorem dropR_cons (c : UInt8) (l : List UInt8) : dropR (c :: l) = if dropR l = [] ∧ blB c = true then [] else c :: dropR l := by
  unfold dropR
  rw [List.reverse_cons, List.dropWhile_append]
  by_cases h : List.dropWhile blB l.reverse = []
  · simp only [h, List.isEmpty_nil, if_true, List.reverse_nil, true_and]
    cases hc : blB c <;> simp [List.dropWhile, hc]
  · have h2 : (List.dropWhile blB l.reverse).isEmpty = false := by simpa using h
    have h3 : ¬ ((List.dropWhile blB l.reverse).reverse = [] ∧ blB c = true) := fun h4 => h (by simpa using h4.1)
    rw [if_neg h3]
    simp [h2]
theorem dropR_nil : dropR [] = [] := rfl
theorem drop_comm (l : List UInt8) : dropL (dropR l) = dropR (dropL l) := by
  induction l with
  | nil => rfl
  | cons c l ih =>
    rw [dropR_cons]
    cases hc : blB c
    · simp [dropL, hc, dropR_cons]
    · have e : dropL (c :: l) = dropL l := by simp [dropL, hc]
      rw [e, ← ih]
      split
      · rename_i h; rw [h.1]
      · simp [dropL, hc]
theorem trimL_eq (l : List UInt8) : trimL l = dropR (dropL l) := by
  have e : (fun c => blanks.contains c) = blB := by
    funext c
    have := byte_all (fun c => blanks.contains c == blB c) (by decide +kernel) c
    simpa using this
  unfold trimL Lib.trimS Lib.trimLeftS Lib.trimRightS
  rw [e]
  exact drop_comm l
theorem dropR_snoc (l : List UInt8) (c : UInt8) : dropR (l ++ [c]) = if blB c = true then dropR l else l ++ [c] := by
  unfold dropR
  rw [List.reverse_append]
  cases hc : blB c <;> simp [hc]

def TrimRel1 (s : ByteArray) (v : Value) : Prop := ∃ t : ByteArray, v = .string t ∧ t.size ≤ s.size ∧ dropL t.data.toList = dropL s.data.toList
def TrimRel2 (s : ByteArray) (v : Value) : Prop := ∃ t : ByteArray, v = .string t ∧ t.size ≤ s.size ∧ dropR t.data.toList = trimL s.data.toList

def strLen (v : Value) : Nat := match v with | .string t => t.size | _ => 0

theorem byte_cases (t : ByteArray) (h : 0 < t.size) : ∃ l, t.data.toList = t[0] :: l := by
  obtain ⟨⟨l⟩⟩ := t
  cases l with
  | nil => exact absurd h (Nat.lt_irrefl 0)
  | cons a l => exact ⟨l, rfl⟩
theorem byte_last (t : ByteArray) (h : 0 < t.size) : ∃ l, t.data.toList = l ++ [t[t.size - 1]] := by
  have hl : t.data.toList.length = t.size := by simp
  refine ⟨t.data.toList.dropLast, ?_⟩
  have hne : t.data.toList ≠ [] := by intro e; rw [e] at hl; simp at hl; omega
  have := (List.dropLast_concat_getLast hne).symm
  rw [this]
  congr 2
  rw [List.getLast_eq_getElem]
  simp [ByteArray.getElem_eq_getElem_data]
theorem blB_iff (c : UInt8) : blB c = true ↔ c.toNat = 9 ∨ c.toNat = 32 := by
  unfold blB; simp [← UInt8.toNat_inj]

theorem tail_data (t : ByteArray) (c : UInt8) (m : List UInt8) (hm : t.data.toList = c :: m) : (t.extract 1 t.size).data.toList = m := by
  have hl : t.data.toList.length = t.size := by simp
  rw [Lib.extract_data, hm]
  rw [hm] at hl
  simp at hl
  simp [List.take_of_length_le, ← hl]
theorem init_data (t : ByteArray) (c : UInt8) (m : List UInt8) (hm : t.data.toList = m ++ [c]) : (t.extract 0 (t.size - 1)).data.toList = m := by
  have hl : t.data.toList.length = t.size := by simp
  rw [Lib.extract_data, hm]
  rw [hm] at hl
  simp at hl
  simp [← hl]

set_option maxHeartbeats 1000000 in
theorem rTrim_any (s : ByteArray) (hs : s.size ≤ 9223372036854775807) (w : World) : Calls Tryd.prog 64 #[.string s] w fun e w' => e = .returned (.string ⟨(trimL s.data.toList).toArray⟩) ∧ w = w' := by
  go_enter Tryd.func64, Tryd.ntmps64
  go_wp2_with fail
  go_loop [0] (fun v => TrimRel1 s v) (fun v => strLen v)
  case atStart => exact ⟨s, rfl, Nat.le_refl _, rfl⟩
  case round =>
    obtain ⟨t, rfl, ht, hd⟩ := hrel
    have HD := Lib.hid hd
    clear hd
    by_cases hgo : 0 < t.size ∧ (t[0]?.map blB) = some true
    · obtain ⟨h0, hq⟩ := hgo
      have hq' : blB t[0] = true := by simpa [h0] using hq
      obtain ⟨m, hm⟩ := byte_cases t h0
      have hq2 := (blB_iff t[0]).mp hq'
      have HN := Lib.hid (show dropL (t.extract 1 t.size).data.toList = dropL s.data.toList by
        rw [← HD.out, tail_data t _ m hm, hm]; simp [dropL, hq'])
      clear hq hq' hm
      by_cases h9 : t[0].toNat = 9
      · have g1 : ((t[0].toNat : Int) == 9) = true := by simp [h9]
        clear hq2 h9
        go_wp2_with fail
        exact ⟨⟨t.extract 1 t.size, rfl, by simp; omega, HN.out⟩, by simp [strLen]; omega⟩
      · have g1 : ((t[0].toNat : Int) == 9) = false := by simp; omega
        have g2 : ((t[0].toNat : Int) == 32) = true := by simp; omega
        clear hq2 h9
        go_wp2_with fail
        exact ⟨⟨t.extract 1 t.size, rfl, by simp; omega, HN.out⟩, by simp [strLen]; omega⟩
    · have hT : t.data.toList = dropL s.data.toList := by
        rw [← HD.out]
        by_cases h0 : 0 < t.size
        · obtain ⟨m, hm⟩ := byte_cases t h0
          have : blB t[0] = false := by
            cases hq : blB t[0]
            · rfl
            · exact absurd ⟨h0, by simp [h0, hq]⟩ hgo
          rw [hm]; simp [dropL, this]
        · have hl : t.data.toList.length = t.size := by simp
          have : t.data.toList = [] := List.eq_nil_of_length_eq_zero (by omega)
          rw [this]; rfl
      have HT := Lib.hid (show dropR t.data.toList = trimL s.data.toList by rw [hT, trimL_eq])
      clear hT
      by_cases h0 : 0 < t.size
      case' pos =>
        have hq : blB t[0] = false := by
          cases hq : blB t[0]
          · rfl
          · exact absurd ⟨h0, by simp [h0, hq]⟩ hgo
        have hbl := blB_iff t[0]
        rw [hq] at hbl
        have g1 : ((t[0].toNat : Int) == 9) = false := by simp; intro h; have := hbl.mpr (Or.inl (by omega)); cases this
        have g2 : ((t[0].toNat : Int) == 32) = false := by simp; intro h; have := hbl.mpr (Or.inr (by omega)); cases this
        clear hq hbl
      all_goals
        clear hgo
        go_wp2_with fail
        go_loop [0] (fun v => TrimRel2 s v) (fun v => strLen v)
        case atStart => exact ⟨t, rfl, ht, HT.out⟩
        case round =>
          obtain ⟨t, rfl, ht, hd⟩ := hrel
          have HD := Lib.hid hd
          clear hd
          by_cases hgo : 0 < t.size ∧ (t[t.size - 1]?.map blB) = some true
          · obtain ⟨h0, hq⟩ := hgo
            have hq' : blB t[t.size - 1] = true := by
              rw [getElem?_pos t (t.size - 1) (by omega)] at hq; simpa using hq
            obtain ⟨m, hm⟩ := byte_last t h0
            have hq2 := (blB_iff t[t.size - 1]).mp hq'
            have HN := Lib.hid (show dropR (t.extract 0 (t.size - 1)).data.toList = trimL s.data.toList by
              rw [← HD.out, init_data t _ m hm, hm, dropR_snoc]; simp [hq'])
            clear hq hq' hm
            have e1 : (t.size : Int) - 1 = ((t.size - 1 : Nat) : Int) := by omega
            by_cases h9 : t[t.size - 1].toNat = 9
            · have g1 : ((t[t.size - 1].toNat : Int) == 9) = true := by simp [h9]
              clear hq2 h9
              go_wp2_with fail
              exact ⟨⟨t.extract 0 (t.size - 1), rfl, by simp; omega, HN.out⟩, by simp [strLen]; omega⟩
            · have g1 : ((t[t.size - 1].toNat : Int) == 9) = false := by simp; omega
              have g2 : ((t[t.size - 1].toNat : Int) == 32) = true := by simp; omega
              clear hq2 h9
              go_wp2_with fail
              exact ⟨⟨t.extract 0 (t.size - 1), rfl, by simp; omega, HN.out⟩, by simp [strLen]; omega⟩
          · have hT : t.data.toList = trimL s.data.toList := by
              rw [← HD.out]
              by_cases h0 : 0 < t.size
              · obtain ⟨m, hm⟩ := byte_last t h0
                have : blB t[t.size - 1] = false := by
                  cases hq : blB t[t.size - 1]
                  · rfl
                  · exact absurd ⟨h0, by rw [getElem?_pos t (t.size - 1) (by omega)]; simp [hq]⟩ hgo
                rw [hm, dropR_snoc]; simp [this]
              · have hl : t.data.toList.length = t.size := by simp
                have : t.data.toList = [] := List.eq_nil_of_length_eq_zero (by omega)
                rw [this]; rfl
            have HT := Lib.hid (show (⟨(trimL s.data.toList).toArray⟩ : ByteArray) = t by rw [← hT])
            clear hT
            by_cases h0 : 0 < t.size
            case' pos =>
              have e1 : (t.size : Int) - 1 = ((t.size - 1 : Nat) : Int) := by omega
              have hq : blB t[t.size - 1] = false := by
                cases hq : blB t[t.size - 1]
                · rfl
                · exact absurd ⟨h0, by rw [getElem?_pos t (t.size - 1) (by omega)]; simp [hq]⟩ hgo
              have hbl := blB_iff t[t.size - 1]
              rw [hq] at hbl
              have g1 : ((t[t.size - 1].toNat : Int) == 9) = false := by simp; intro h; have := hbl.mpr (Or.inl (by omega)); cases this
              have g2 : ((t[t.size - 1].toNat : Int) == 32) = false := by simp; intro h; have := hbl.mpr (Or.inr (by omega)); cases this
              clear hq hbl
            all_goals
              clear hgo
              go_wp2_with fail
              go_ret
              exact ⟨by rw [HT.out]; rfl, rfl⟩
end Go.Proofs.YtnopbhboamembaaDoor
