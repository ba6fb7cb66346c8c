/- A line as a field: the twin's Parse. -/
import Derived.Test.YtppciofbaohpdaaDoorFieldB
namespace Go.Proofs.YtppciofbaohpdaaDoor
open Go.RowKit Go.Proofs

theorem idx_found {l : List UInt8} {c : UInt8} {k : Nat} (h0 : ∀ j, j < k → l[j]? ≠ some c) (h1 : l[k]? = some c) : Lib.indexByte l c = k := by
  rcases index_cases l c with h | ⟨i, h⟩
  · exact absurd h1 (Lib.indexByte_none h k)
  · obtain ⟨a, b⟩ := Lib.indexByte_some h
    have : i = k := by
      rcases Nat.lt_trichotomy i k with g | g | g
      · exact absurd a (h0 i g)
      · exact g
      · exact absurd h1 (b k g)
    rw [h, this]
theorem idx_none {l : List UInt8} {c : UInt8} (h0 : ∀ j, j < l.length → l[j]? ≠ some c) : Lib.indexByte l c = -1 := by
  rcases index_cases l c with h | ⟨i, h⟩
  · exact h
  · exact absurd (Lib.indexByte_some h).1 (h0 i (index_lt l c i h))

theorem rIs_say {n v : ByteArray} {r : Bool} (h : Hid (isF n.data.toList v.data.toList = r)) (hn : n.size ≤ 1000000) (hv : v.size ≤ 1000000) (w : World) :
    Calls Tryd.prog 18 #[.agg #[.string n, .string v]] w fun e w' => e = .returned (.bool r) ∧ Sm No w w' := by
  rw [← h.out]; exact rIs_any n v hn hv w

theorem parseL_long {l : List UInt8} (h : 256 < l.length) : parseL l = (9, [], []) := by unfold parseL; rw [if_pos h]
theorem parseL_none {l : List UInt8} (h : ¬ 256 < l.length) (h2 : Lib.indexByte l 58 = -1) : parseL l = (8, [], []) := by unfold parseL; rw [if_neg h, if_pos h2]
theorem parseL_at {l : List UInt8} {i : Nat} (h : ¬ 256 < l.length) (h2 : Lib.indexByte l 58 = i) : parseL l = if isF (l.take i) (trimL (l.drop (i + 1))) = true then (0, l.take i, trimL (l.drop (i + 1))) else (8, [], []) := by
  unfold parseL; rw [if_neg h, if_neg (by omega), h2]; rfl

def ColRel (s : ByteArray) (i : Value) : Prop := ∃ k : Nat, k ≤ s.size ∧ i = .int .i64 k ∧ ∀ j, j < k → s.data.toList[j]? ≠ some 58

set_option maxHeartbeats 2000000 in
theorem rParse_any (s : ByteArray) (hs : s.size ≤ 1000000) (w : World) :
    Calls Tryd.prog 16 #[.string s] w fun e w' => e = .returned (parseV (parseL s.data.toList)) ∧ Sm No w w' := by
  have hlen : s.data.toList.length = s.size := by simp
  by_cases h1 : 256 < s.size
  · rw [parseL_long (by omega)]
    clear hlen
    unfold parseV fieldV
    go_enter Tryd.func16, Tryd.ntmps16
    go_wp2_with fail
    exact bodyPost_ret (v := .tuple #[.agg #[.string ⟨#[]⟩, .string ⟨#[]⟩], .int .i64 9]) (by simp [results, Tryd.results16, go_sem]) rfl ⟨rfl, (Sm.refl No w).alloc _⟩
  · have HL := Lib.hid hlen
    clear hlen
    have hb0 := Bk.new w 23 #[.string ⟨#[]⟩, .string ⟨#[]⟩]
    obtain ⟨w0, hw⟩ : ∃ w0, w.alloc (.cells #[.string ⟨#[]⟩, .string ⟨#[]⟩] 23) = w0 := ⟨_, rfl⟩
    have hs0 := (Sm.refl No w).alloc (.cells #[.string ⟨#[]⟩, .string ⟨#[]⟩] 23)
    rw [hw] at hb0 hs0
    have HW := Lib.hid hw
    clear hw
    obtain ⟨P, hP⟩ : ∃ P, parseL s.data.toList = P := ⟨_, rfl⟩
    rw [hP]
    have HP := Lib.hid hP
    clear hP
    go_enter Tryd.func16, Tryd.ntmps16
    go_wp2_with fail
    rw [HW.out]
    go_loop [4] (fun i => ColRel s i) (fun i => s.size - (intOf i).toNat)
    case atStart => exact ⟨0, Nat.zero_le _, rfl, fun j hj => absurd hj (by omega)⟩
    case round =>
      obtain ⟨k, hk, rfl, hno⟩ := hrel
      have HN := Lib.hid hno
      clear hno
      by_cases hlt : k < s.size
      · by_cases hq : s[k] = 58
        · have h2 : Lib.indexByte s.data.toList 58 = k := idx_found HN.out (by rw [← hq]; simp [hlt, ByteArray.getElem_eq_getElem_data])
          have hq2 : ((s[k].toNat : Int) == 58) = true := by simp [hq]
          have hp := parseL_at (by rw [HL.out]; exact h1) h2
          rw [HP.out] at hp
          have hA : (s.extract 0 k).data.toList = s.data.toList.take k := by rw [Lib.extract_data]; simp
          have hB : (s.extract (k + 1) s.size).data.toList = s.data.toList.drop (k + 1) := by rw [Lib.extract_data, List.take_of_length_le (by simp)]
          rw [← hA, ← hB] at hp
          have hr := trimL_le (s.extract (k + 1) s.size).data.toList
          have hR : (⟨(trimL (s.extract (k + 1) s.size).data.toList).toArray⟩ : ByteArray).data.toList = trimL (s.extract (k + 1) s.size).data.toList := rfl
          have hrs : (⟨(trimL (s.extract (k + 1) s.size).data.toList).toArray⟩ : ByteArray).size ≤ 1000000 := by
            show (trimL (s.extract (k + 1) s.size).data.toList).toArray.size ≤ 1000000
            rw [hB] at hr
            simp only [List.size_toArray, hB]
            simp at hr; omega
          have hbs : (s.extract 0 k).size ≤ 1000000 := by simp; omega
          have hbs2 : (s.extract (k + 1) s.size).size ≤ 1000000 := by simp; omega
          obtain ⟨r, hr'⟩ : ∃ r, (⟨(trimL (s.extract (k + 1) s.size).data.toList).toArray⟩ : ByteArray) = r := ⟨_, rfl⟩
          rw [hr'] at hR hrs
          rw [← hR] at hp
          have HR := Lib.hid hr'
          have HPP := Lib.hid hp
          have hk2 : k + 1 ≤ s.size := hlt
          have b1 : (0 : Int) ≤ (k : Int) := by omega
          have b2 : (k : Int) ≤ (s.size : Int) := by omega
          have b3 : (0 : Int) ≤ (k : Int) + 1 := by omega
          have b4 : (k : Int) + 1 ≤ (s.size : Int) := by omega
          have e1 : IntKind.i64.wrap ((k : Int) + 1) = (k : Int) + 1 := IntWalk.i64_in _ (by omega)
          have e2 : ((k : Int) + 1).toNat = k + 1 := by omega
          clear hq h2 hp hA hB hr hR hr'
          go_wp2_with fail
          go_region_held3 (fun w' => True) (exact trivial)
            ((go_at_call 49; (with_reducible refine (rTrim_say HR hbs2 _).mono ?_); rintro e w4 ⟨rfl, rfl⟩))
          all_goals
            have hb1 := (hb0.alloc (.cells #[.string (s.extract 0 k), .string r] 23)).drew
            have hb2 := (Bk.new w0 23 #[.string (s.extract 0 k), .string r]).drew
            have hs1 := (hs0.alloc (.cells #[.string (s.extract 0 k), .string r] 23)).drew
            clear e1 e2
            generalize (w0.alloc (.cells #[.string (s.extract 0 k), .string r] 23)).drew = w1 at hb1 hb2 hs1 ⊢
            obtain ⟨f, hf⟩ : ∃ f, isF (s.extract 0 k).data.toList r.data.toList = f := ⟨_, rfl⟩
            have HF := Lib.hid hf
            clear hf
            have a0 := hb2.at 0 (v := .string (s.extract 0 k)) rfl
            have a1 := hb2.at 1 (v := .string r) rfl
            go_wp2_with fail
            refine (rIs_say HF hbs hrs _).mono ?_
            rintro e w3 ⟨rfl, hs4⟩
            have hb3 := hb1.sm hs4 (fun h => h)
            have hb4 := hb2.sm hs4 (fun h => h)
            have hs5 := hs1.trans hs4 (fun _ _ h => h)
            have c0 := hb3.at 0 (v := .string ⟨#[]⟩) rfl
            have c1 := hb3.at 1 (v := .string ⟨#[]⟩) rfl
            have z0 := hb3.fz 0
            have z1 := hb3.fz 1
            cases f
            · go_wp2_with fail
              rw [HPP.out, HF.out]
              exact bodyPost_ret (v := .tuple #[.agg #[.string ⟨#[]⟩, .string ⟨#[]⟩], .int .i64 8]) (by simp [results, Tryd.results16, go_sem, c0, c1]) rfl
                ⟨rfl, ((hs5).setN (Nat.le_refl _) _ _).setN (Nat.le_refl _) _ _⟩
            · have d0 := hb4.at 0 (v := .string (s.extract 0 k)) rfl
              have d1 := hb4.at 1 (v := .string r) rfl
              go_wp2_with fail
              rw [HPP.out, HF.out]
              exact bodyPost_ret (v := .tuple #[.agg #[.string (s.extract 0 k), .string r], .int .i64 0]) (by simp [results, Tryd.results16, go_sem, c0, c1]) rfl
                ⟨rfl, ((hs5).setN (Nat.le_refl _) _ _).setN (Nat.le_refl _) _ _⟩
        · have hq2 : ((s[k].toNat : Int) == 58) = false := by
            simp; intro h; exact hq (UInt8.toNat_inj.mp (by have : (58 : UInt8).toNat = 58 := rfl; omega))
          have HN2 := Lib.hid (show ∀ j, j < k + 1 → s.data.toList[j]? ≠ some 58 from fun j hj e => by
            by_cases g : j < k
            · exact HN.out j g e
            · obtain rfl : j = k := by omega
              exact hq (by simpa [hlt, ByteArray.getElem_eq_getElem_data] using e))
          clear hq
          go_wp2_with fail
          exact ⟨⟨k + 1, by omega, by go_num, HN2.out⟩, by simp [intOf]; omega⟩
      · have h2 : Lib.indexByte s.data.toList 58 = -1 := idx_none (fun j hj => HN.out j (by rw [HL.out] at hj; omega))
        have hp := parseL_none (by rw [HL.out]; exact h1) h2
        rw [HP.out] at hp
        have HPP := Lib.hid hp
        have c0 := hb0.at 0 (v := .string ⟨#[]⟩) rfl
        have c1 := hb0.at 1 (v := .string ⟨#[]⟩) rfl
        have z0 := hb0.fz 0
        have z1 := hb0.fz 1
        clear h2 hp
        go_wp2_with fail
        rw [HPP.out]
        exact bodyPost_ret (v := .tuple #[.agg #[.string ⟨#[]⟩, .string ⟨#[]⟩], .int .i64 8]) (by simp [results, Tryd.results16, go_sem, c0, c1]) rfl
          ⟨rfl, ((hs0).setN (Nat.le_refl _) _ _).setN (Nat.le_refl _) _ _⟩
end Go.Proofs.YtppciofbaohpdaaDoor
