/- The document's Router: what a pattern is; whether a text is among some. -/
import Derived.Test.YtnopbhboamembaaDoorTwinA
import Derived.Test.YtnopbhboamembaaDoorRoutE
namespace Go.Proofs.YtnopbhboamembaaDoor
open Go.RowKit Go.Proofs

theorem wide_any (s : ByteArray) (hs : s.size ≤ 140737488351232) (w : World) :
    Calls Tryd.prog 61 #[.string s] w fun e w' => e = .returned (.bool (wideL (txt s))) ∧ w = w' := by
  by_cases h2 : 2 ≤ s.size
  · obtain ⟨p, hp⟩ : ∃ p, s.extract (s.size - 2) s.size = p := ⟨_, rfl⟩
    have htp : txt p = (txt s).drop ((txt s).length - 2) := by rw [← hp, txt_extract, List.take_of_length_le (by rw [txt_len]; exact Nat.le_refl _), txt_len]
    have hR : wideL (txt s) = (txt p == [47, 42]) := by
      unfold wideL
      rw [← htp, txt_len]
      simp [h2]
    rw [hR]
    have k2 : (2 : Int) ≤ (s.size : Int) := by omega
    have k3 : (((s.size : Int) - 2).toNat) = s.size - 2 := by omega
    by_cases hc : txt p = [47, 42]
    · have e1 : (p.toList == [47, 42]) = true := by rw [beq_txt, hc]; rfl
      have hf : (txt p == ([47, 42] : Txt)) = true := by rw [hc]; rfl
      rw [hf]
      clear htp hR hc hf
      go_enter Tryd.func61, Tryd.ntmps61
      go_wp2_with fail
      go_ret
      exact ⟨rfl, rfl⟩
    · have e1 : (p.toList == [47, 42]) = false := by rw [beq_txt, decide_eq_false_iff_not]; exact hc
      have hf : (txt p == ([47, 42] : Txt)) = false := by simpa using hc
      rw [hf]
      clear htp hR hc hf
      go_enter Tryd.func61, Tryd.ntmps61
      go_wp2_with fail
      go_ret
      exact ⟨rfl, rfl⟩
  · have hR : wideL (txt s) = false := by unfold wideL; rw [txt_len]; simp [h2]
    rw [hR]
    clear hR
    go_enter Tryd.func61, Tryd.ntmps61
    go_wp2_with fail
    go_ret
    exact ⟨rfl, rfl⟩
theorem wide_say {s : ByteArray} {b : Bool} (h : Hid (wideL (txt s) = b)) (hs : s.size ≤ 140737488351232) (w : World) :
    Calls Tryd.prog 61 #[.string s] w fun e w' => e = .returned (.bool b) ∧ w = w' := by rw [← h.out]; exact wide_any s hs w

set_option maxHeartbeats 2000000 in
theorem plain_any (s : ByteArray) (hs : s.size ≤ 140737488351232) (w : World) :
    Calls Tryd.prog 84 #[.string s] w fun e w' => e = .returned (.bool (plainL (txt s))) ∧ Sm No w w' := by
  obtain ⟨R, hR⟩ : ∃ R, plainL (txt s) = R := ⟨_, rfl⟩
  rw [hR]
  unfold plainL at hR
  rw [txt_len] at hR
  by_cases hz : s.size ≤ 200
  · have hC := rClean_any s (by omega) w
    obtain ⟨C, hCC⟩ : ∃ C, cleanL (txt s) = C := ⟨_, rfl⟩
    rw [hCC] at hC hR
    have HC := Lib.hid hC
    obtain ⟨wd, hwd⟩ : ∃ wd, wideL (txt s) = wd := ⟨_, rfl⟩
    rw [hwd] at hR
    have HW := Lib.hid hwd
    clear hC hwd hCC
    cases C with
    | none =>
      have hR : R = false := by rw [← hR]; simp
      subst hR
      go_enter Tryd.func84, Tryd.ntmps84
      go_wp2_with fail
      refine HC.out.mono ?_
      rintro e w1 ⟨rfl, hs1⟩
      have H1 := Lib.hid hs1
      clear hs1
      unfold cleanV
      go_wp2_with fail
      go_ret
      exact ⟨rfl, H1.out⟩
    | some l =>
      obtain ⟨lb, e1, e2⟩ : ∃ lb : ByteArray, strB l = .string lb ∧ txt lb = l := ⟨⟨l.toArray⟩, rfl, txt_mk l⟩
      have e1' : cleanV (some l) = .tuple #[.string lb, .bool true] := by
        show Value.tuple #[strB l, .bool true] = _
        rw [e1]
      rw [e1'] at HC
      by_cases hl : l = txt s
      · obtain rfl : s = lb := by rw [← mk_txt lb, ← mk_txt s, e2, hl]
        have hR : R = !wd := by rw [← hR]; simp [hz, hl]
        subst hR
        clear e1 e2 e1' hl
        go_enter Tryd.func84, Tryd.ntmps84
        go_wp2_with fail
        refine HC.out.mono ?_
        rintro e w1 ⟨rfl, hs1⟩
        have H1 := Lib.hid hs1
        clear hs1
        go_wp2_with fail
        refine (wide_say HW hs w1).mono ?_
        rintro e w2 ⟨rfl, rfl⟩
        go_wp2_with fail
        go_ret
        exact ⟨rfl, H1.out⟩
      · have e3 : ¬ lb.toList = s.toList := fun e => hl (e2 ▸ (bytes_eq_iff lb (txt s)).1 (e.trans ((bytes_eq_iff s (txt s)).2 rfl)))
        have hR : R = false := by rw [← hR]; simp [hl]
        subst hR
        clear e1 e2 e1' hl
        go_enter Tryd.func84, Tryd.ntmps84
        go_wp2_with fail
        refine HC.out.mono ?_
        rintro e w1 ⟨rfl, hs1⟩
        have H1 := Lib.hid hs1
        clear hs1
        go_wp2_with fail
        go_ret
        exact ⟨rfl, H1.out⟩
  · have hR : R = false := by rw [← hR]; simp [hz]
    subst hR
    go_enter Tryd.func84, Tryd.ntmps84
    go_wp2_with fail
    go_ret
    exact ⟨rfl, Sm.refl _ _⟩

set_option maxHeartbeats 2000000 in
theorem pattern_any (s : ByteArray) (hs : s.size ≤ 140737488351232) (w : World) :
    Calls Tryd.prog 56 #[.string s] w fun e w' => e = .returned (.bool (patL (txt s))) ∧ Sm No w w' := by
  obtain ⟨wd, hwd⟩ : ∃ wd, wideL (txt s) = wd := ⟨_, rfl⟩
  have HW := Lib.hid hwd
  obtain ⟨R, hR⟩ : ∃ R, patL (txt s) = R := ⟨_, rfl⟩
  rw [hR]
  unfold patL at hR
  rw [hwd, txt_len] at hR
  have HP := Lib.hid (plain_any s hs w)
  cases wd with
  | false =>
    have hR : plainL (txt s) = R := by simpa using hR
    rw [hR] at HP
    clear hwd hR
    go_enter Tryd.func56, Tryd.ntmps56
    go_wp2_with fail
    refine (wide_say HW hs w).mono ?_
    rintro e w2 ⟨rfl, rfl⟩
    go_wp2_with fail
    refine HP.out.mono ?_
    rintro e w1 ⟨rfl, hs1⟩
    have H1 := Lib.hid hs1
    clear hs1
    go_wp2_with fail
    go_ret
    exact ⟨rfl, H1.out⟩
  | true =>
    by_cases hz : s.size ≤ 201
    · have h2 : 2 ≤ s.size := by
        obtain ⟨q, hq⟩ := (wide_iff _).1 hwd
        rw [← txt_len, hq]; simp
      have hpt : txt (s.extract 0 (s.size - 1)) = (txt s).dropLast := by rw [txt_extract, List.drop_zero, List.dropLast_eq_take, txt_len]
      have hR : plainL (txt (s.extract 0 (s.size - 1))) = R := by rw [hpt, ← hR]; simp [hz]
      have HQ := Lib.hid (plain_any (s.extract 0 (s.size - 1)) (by rw [← txt_len, hpt]; simp [txt_len]; omega) w)
      rw [hR] at HQ
      have k3 : (((s.size : Int) - 1).toNat) = s.size - 1 := by omega
      clear hwd hR hpt HP
      go_enter Tryd.func56, Tryd.ntmps56
      go_wp2_with fail
      refine (wide_say HW hs w).mono ?_
      rintro e w2 ⟨rfl, rfl⟩
      go_wp2_with fail
      refine HQ.out.mono ?_
      rintro e w1 ⟨rfl, hs1⟩
      have H1 := Lib.hid hs1
      clear hs1
      go_wp2_with fail
      go_ret
      exact ⟨rfl, H1.out⟩
    · have hR : plainL (txt s) = R := by rw [← hR]; simp [hz]
      rw [hR] at HP
      clear hwd hR
      go_enter Tryd.func56, Tryd.ntmps56
      go_wp2_with fail
      refine (wide_say HW hs w).mono ?_
      rintro e w2 ⟨rfl, rfl⟩
      go_wp2_with fail
      refine HP.out.mono ?_
      rintro e w1 ⟨rfl, hs1⟩
      have H1 := Lib.hid hs1
      clear hs1
      go_wp2_with fail
      go_ret
      exact ⟨rfl, H1.out⟩

def HasRel (l : List Txt) (m : Txt) (i : Value) : Prop := ∃ k : Nat, k ≤ l.length ∧ i = .int .i64 k ∧ ∀ x ∈ l.take k, x ≠ m
set_option maxHeartbeats 2000000 in
theorem rhas_any (w : World) (A : Option Addr) (c : Nat) (l : List Txt) (x : ByteArray) (hA : RowC w A (l.map strV)) (hl : l.length ≤ 1000000) :
    Calls Tryd.prog 58 #[.slice A l.length c, .string x] w fun e w' => e = .returned (.bool (l.contains (txt x))) ∧ w = w' := by
  obtain ⟨R, hR⟩ : ∃ R, l.contains (txt x) = R := ⟨_, rfl⟩
  rw [hR]
  have HA := Lib.hid (And.intro hA hR)
  clear hA hR
  go_enter Tryd.func58, Tryd.ntmps58
  go_wp2_with fail
  go_loop [5] (fun i => HasRel l (txt x) i) (fun i => l.length - (intOf i).toNat)
  case atStart => exact ⟨0, Nat.zero_le _, rfl, fun x h => by simp at h⟩
  case round =>
    obtain ⟨k, hk, rfl, hno⟩ := hrel
    have HN := Lib.hid hno
    clear hno
    by_cases hlt : k < l.length
    · obtain ⟨bb, off, hAe, hbb, r0⟩ := HA.out.1.at (strV_at hlt)
      subst hAe
      obtain ⟨s, hsk⟩ : ∃ s : ByteArray, (⟨l[k].toArray⟩ : ByteArray) = s := ⟨_, rfl⟩
      have hts : txt s = l[k] := by rw [← hsk, txt_mk]
      rw [hsk] at r0
      have hmem := List.getElem_mem hlt
      have hst : l[k] ≠ txt x → ∀ y ∈ l.take (k + 1), y ≠ txt x := fun h y hy => by
        rw [List.take_succ_eq_append_getElem hlt, List.mem_append, List.mem_singleton] at hy
        rcases hy with hy | rfl
        · exact HN.out y hy
        · exact h
      rw [← hts] at hmem hst
      have HX := Lib.hid (And.intro hmem hst)
      have k1 : (0 : Int) ≤ (k : Int) := by omega
      have k2 : (k : Int) < (l.length : Int) := by omega
      clear hsk hts hmem hst
      by_cases hx : txt s = txt x
      · obtain rfl : s = x := by rw [← mk_txt s, ← mk_txt x, hx]
        have hRt : R = true := by rw [← HA.out.2]; exact List.contains_iff_mem.2 HX.out.1
        subst hRt
        clear hx
        go_wp2_with fail
        go_ret
        exact ⟨rfl, rfl⟩
      · have e3 : ¬ s.toList = x.toList := fun e => hx ((bytes_eq_iff s (txt x)).1 (e.trans ((bytes_eq_iff x (txt x)).2 rfl)))
        have e4 : (s.toList == x.toList) = false := by simpa using e3
        have HY := Lib.hid (HX.out.2 hx)
        clear hx
        go_wp2_with fail
        go_round
        case rel => exact ⟨k + 1, by omega, by go_num, HY.out⟩
        case measure => simp [intOf]; omega
    · have hRf : R = false := by
        rw [← HA.out.2]
        rw [Bool.eq_false_iff]
        intro h
        have hm := List.contains_iff_mem.1 h
        exact HN.out _ (by rw [List.take_of_length_le (by omega)]; exact hm) rfl
      subst hRf
      go_wp2_with fail
      go_ret
      exact ⟨rfl, rfl⟩
theorem rhas_say {l : List Txt} {x : ByteArray} {b : Bool} (h : Hid (l.contains (txt x) = b)) (w : World) (A : Option Addr) (c : Nat) (hA : RowC w A (l.map strV)) (hl : l.length ≤ 1000000) :
    Calls Tryd.prog 58 #[.slice A l.length c, .string x] w fun e w' => e = .returned (.bool b) ∧ w = w' := by rw [← h.out]; exact rhas_any w A c l x hA hl
end Go.Proofs.YtnopbhboamembaaDoor
