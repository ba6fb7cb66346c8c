/- FieldBack: a field, written as a line with blanks about its value, is parsed as it is. -/
import Derived.Test.YtppciofbaohpdaaDoorFieldI
import Derived.Test.YtppciofbaohpdaaDoorBits
namespace Go.Proofs.YtppciofbaohpdaaDoor
open Go.RowKit Go.Proofs

/-! The plain law. -/
theorem tok_not_colon {l : List UInt8} (h : tokL l = true) : ∀ j : Nat, l[j]? ≠ some 58 := by
  intro j e
  unfold tokL at h
  simp only [Bool.and_eq_true] at h
  have := List.all_eq_true.mp h.2 58 (List.mem_of_getElem? e)
  exact absurd this (by decide)

theorem dropL_rep (n : Nat) (l : List UInt8) : dropL (List.replicate n 32 ++ l) = dropL l := by
  induction n with
  | zero => rfl
  | succ n ih => rw [List.replicate_succ, List.cons_append]; show List.dropWhile blB (32 :: _) = _; rw [List.dropWhile_cons, if_pos (by decide)]; exact ih
theorem dropR_rep (n : Nat) (l : List UInt8) : dropR (l ++ List.replicate n 9) = dropR l := by
  induction n with
  | zero => simp
  | succ n ih => rw [List.replicate_succ', ← List.append_assoc, dropR_snoc, if_pos (by decide)]; exact ih

theorem back_line (n v : List UInt8) (a b : Nat) (h : isF n v = true) (hl : n.length + 1 + a + v.length + b ≤ 256) :
    parseL (n ++ [58] ++ List.replicate a 32 ++ v ++ List.replicate b 9) = (0, n, v) := by
  have h0 := h
  unfold isF at h0
  simp only [Bool.and_eq_true, beq_iff_eq] at h0
  obtain ⟨h1, h2, h3⟩ := h0
  have hi : Lib.indexByte (n ++ [58] ++ List.replicate a 32 ++ v ++ List.replicate b 9) 58 = (n.length : Nat) := by
    refine idx_found (fun j hj e => ?_) (by simp [List.append_assoc])
    rw [List.append_assoc, List.append_assoc, List.append_assoc, List.getElem?_append_left hj] at e
    exact tok_not_colon h1 j e
  have ht : (n ++ [58] ++ List.replicate a 32 ++ v ++ List.replicate b 9).take n.length = n := by
    rw [List.append_assoc, List.append_assoc, List.append_assoc, List.take_left]
  have hd : trimL ((n ++ [58] ++ List.replicate a 32 ++ v ++ List.replicate b 9).drop (n.length + 1)) = v := by
    have e : n ++ [58] ++ List.replicate a 32 ++ v ++ List.replicate b 9 = (n ++ [58]) ++ (List.replicate a 32 ++ (v ++ List.replicate b 9)) := by simp [List.append_assoc]
    have e2 : n.length + 1 = (n ++ [58]).length := by simp
    rw [e, e2, List.drop_left, trimL_eq, dropL_rep, ← drop_comm, dropR_rep, drop_comm, ← trimL_eq, h3]
  rw [parseL_at (by simp; omega) hi, ht, hd, if_pos h]

/-! The walk. -/
def BackRel1 (n : List UInt8) (m : Nat) (s i : Value) : Prop := ∃ (k : Nat) (t : ByteArray), k ≤ m ∧ i = .int .i64 k ∧ s = .string t ∧ t.data.toList = n ++ [58] ++ List.replicate k 32
def BackRel2 (n : List UInt8) (m : Nat) (s i : Value) : Prop := ∃ (k : Nat) (t : ByteArray), k ≤ m ∧ i = .int .i64 k ∧ s = .string t ∧ t.data.toList = n ++ List.replicate k 9

theorem toList_append (a b : ByteArray) : (a ++ b).data.toList = a.data.toList ++ b.data.toList := by simp
theorem size_toList (a : ByteArray) : a.size = a.data.toList.length := by simp

set_option maxHeartbeats 4000000 in
theorem back_any (n v : ByteArray) (a b : Int) (hn : n.size ≤ 140737488351232) (hv : v.size ≤ 140737488351232) (_ : (Lit.int .i64 a).wf = true) (_ : (Lit.int .i64 b).wf = true) (w : World) :
    Calls Tryd.prog 4 #[.string n, .string v, .int .i64 a, .int .i64 b] w fun e w' => e = .returned (.bool true) ∧ Sm No w w' := by
  by_cases hb : 200 < n.size + v.size
  · go_enter Tryd.func4, Tryd.ntmps4
    go_wp2_with fail
    all_goals
      go_ret
      exact ⟨rfl, Sm.refl _ _⟩
  · obtain ⟨f, hf⟩ : ∃ f, isF n.data.toList v.data.toList = f := ⟨_, rfl⟩
    have HF := Lib.hid hf
    clear hf
    cases f
    · go_enter Tryd.func4, Tryd.ntmps4
      go_wp2_with fail
      refine (rIs_say HF (by omega) (by omega) _).mono ?_
      rintro e w1 ⟨rfl, hs1⟩
      go_wp2_with fail
      refine (known10_any _).mono ?_
      rintro e w2 ⟨rfl, hs2⟩
      go_wp2_with fail
      go_ret
      exact ⟨rfl, hs1.trans hs2 (fun _ _ h => h)⟩
    · obtain ⟨ka, hka, ha'⟩ := and_bd a 7 (by decide)
      obtain ⟨kb, hkb, hkb2⟩ := and_bd b 7 (by decide)
      have ha : bits .and .i64 a 7 = ka := ha'
      have hb2 : bits .and .i64 b 7 = kb := hkb2
      clear hkb2 ha'
      have hno : n.size + 1 ≤ 201 := by omega
      go_enter Tryd.func4, Tryd.ntmps4
      go_wp2_with fail
      refine (rIs_say HF (by omega) (by omega) _).mono ?_
      rintro e w1 ⟨rfl, hs1⟩
      go_wp2_with fail
      go_loop [9, 10] (fun s i => BackRel1 n.data.toList ka s i) (fun _ i => ka - (intOf i).toNat)
      case atStart => exact ⟨0, _, Nat.zero_le _, rfl, rfl, by simp⟩
      case round =>
        obtain ⟨k, t, hk, rfl, rfl, ht⟩ := hrel
        have hts : t.size = n.size + 1 + k := by rw [size_toList, ht]; simp; omega
        have htb : t.size ≤ 300 := by omega
        have HT := Lib.hid (And.intro ht hts)
        clear ht hts
        by_cases hlt : k < ka
        · go_wp2_with fail
          exact ⟨⟨k + 1, _, by omega, by go_num, rfl, by rw [toList_append, HT.out.1, List.replicate_succ']; simp⟩, by simp [intOf]; omega⟩
        · have htv : t.size + v.size ≤ 300 := by rw [HT.out.2]; omega
          go_wp2_with fail
          go_loop [9, 11] (fun s i => BackRel2 (t ++ v).data.toList kb s i) (fun _ i => kb - (intOf i).toNat)
          case atStart => exact ⟨0, _, Nat.zero_le _, rfl, rfl, by simp⟩
          case round =>
            obtain ⟨j, r, hj, rfl, rfl, hr⟩ := hrel
            have hrs : r.size = t.size + v.size + j := by rw [size_toList, hr]; simp; omega
            have hrb : r.size ≤ 400 := by omega
            have HR := Lib.hid hr
            clear hr hrs
            by_cases hlt2 : j < kb
            · go_wp2_with fail
              exact ⟨⟨j + 1, _, by omega, by go_num, rfl, by rw [toList_append, HR.out, List.replicate_succ']; simp⟩, by simp [intOf]; omega⟩
            · have hfin : parseV (parseL r.data.toList) = .tuple #[.agg #[.string n, .string v], .int .i64 0] := by
                have e1 : k = ka := by omega
                have e2 : j = kb := by omega
                have := back_line n.data.toList v.data.toList ka kb HF.out (by rw [← size_toList, ← size_toList]; omega)
                rw [HR.out, toList_append, HT.out.1, e1, e2, this]
                rfl
              have HP := Lib.hid (fun w => hfin ▸ parse_any r (by omega) w)
              clear hfin
              go_wp2_with fail
              refine (HP.out _).mono ?_
              rintro e w2 ⟨rfl, hs2⟩
              have hs3 := hs1.trans hs2 (fun _ _ h => h)
              go_wp2_with fail
              refine (known10_any _).mono ?_
              rintro e w3 ⟨rfl, hs4⟩
              go_wp2_with fail
              go_ret
              exact ⟨rfl, (hs3.alloc _).trans hs4 (fun _ _ h => h)⟩
end Go.Proofs.YtppciofbaohpdaaDoor
