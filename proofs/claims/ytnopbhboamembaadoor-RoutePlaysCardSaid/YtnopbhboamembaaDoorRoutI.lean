/- The laws RouteOfNothing, RouteHead, RouteDeep: their walks. -/
import Derived.Test.YtnopbhboamembaaDoorRoutH
import Derived.Test.YtnopbhboamembaaDoorRoutB
namespace Go.Proofs.YtnopbhboamembaaDoor
open Go.RowKit Go.Proofs

theorem findNil_any (w : World) (s : ByteArray) : Calls Tryd.prog 52 #[.pointer none, .string s] w fun e w' => e = .returned (.tuple #[.slice none 0 0, .string ⟨#[]⟩]) ∧ w = w' := by
  go_enter Tryd.func52, Tryd.ntmps52
  go_wp2_with fail
  go_ret2
  exact ⟨rfl, rfl⟩
theorem matchNil_any (w : World) (m s : ByteArray) : Calls Tryd.prog 28 #[.pointer none, .string m, .string s] w fun e w' => e = .returned (.tuple #[.int .i64 0, .string ⟨#[]⟩, .slice none 0 0, .int .i64 404]) ∧ w = w' := by
  have nN := eqlN
  go_enter Tryd.func28, Tryd.ntmps28
  go_wp2_with fail
  refine (findNil_any w s).mono ?_
  rintro e w1 ⟨rfl, rfl⟩
  go_wp2_with fail
  exact bodyPost_ret (v := .tuple #[.int .i64 0, .string ⟨#[]⟩, .slice none 0 0, .int .i64 404]) (by simp [results, Tryd.results28, go_sem]) rfl ⟨rfl, rfl⟩
theorem addNil_any (w : World) (s : ByteArray) (id : Int) (v : Value) : Calls Tryd.prog 27 #[.pointer none, .string s, .int .i64 id, v] w fun e w' => e = .returned (.int .i64 1) ∧ w = w' := by
  go_enter Tryd.func27, Tryd.ntmps27
  go_wp2_with fail
  go_ret
  exact ⟨rfl, rfl⟩
theorem lenNil_any (w : World) : Calls Tryd.prog 32 #[.pointer none] w fun e w' => e = .returned (.int .i64 0) ∧ w = w' := by
  go_enter Tryd.func32, Tryd.ntmps32
  go_wp2_with fail
  go_ret
  exact ⟨rfl, rfl⟩

set_option maxRecDepth 100000 in
theorem nothing19_any {w : World} (hg : G0 w) (s : ByteArray) (hs : s.size ≤ 140737488351232) : Calls Tryd.prog 8 #[.string s] w fun e w' => e = .returned (.bool true) ∧ Sm No w w' := by
  have HK := Lib.hid (known19_any w hg)
  clear hg
  by_cases hb : s.size ≤ 4000
  · go_enter Tryd.func8, Tryd.ntmps8
    go_wp2_with fail
    refine (matchNil_any w s s).mono ?_
    rintro e w1 ⟨rfl, rfl⟩
    go_wp2_with fail
    refine (addNil_any w _ _ _).mono ?_
    rintro e w1 ⟨rfl, rfl⟩
    go_wp2_with fail
    refine (lenNil_any w).mono ?_
    rintro e w1 ⟨rfl, rfl⟩
    go_wp2_with fail
    refine HK.out.mono ?_
    rintro e w1 ⟨rfl, hs1⟩
    have H1 := Lib.hid hs1
    clear hs1
    go_wp2_with fail
    go_ret
    exact ⟨rfl, H1.out⟩
  · go_enter Tryd.func8, Tryd.ntmps8
    go_wp2_with fail
    go_ret
    exact ⟨rfl, Sm.refl _ _⟩

/-! RouteDeep. -/
def DpRel (w : World) (n r : Nat) (pv iv : Value) (wr : World) : Prop := ∃ (k : Nat) (p : ByteArray), k ≤ n ∧ iv = .int .i64 k ∧ pv = .string p ∧ txt p = 47 :: rep k ∧ Own19 w wr r (dpats k)
def DsRel (t : Nat) (pv iv : Value) : Prop := ∃ (k : Nat) (p : ByteArray), k ≤ t ∧ iv = .int .i64 k ∧ pv = .string p ∧ txt p = 47 :: rep k
def DwRel (n t : Nat) (pv iv : Value) : Prop := ∃ (k : Nat) (p : ByteArray), k ≤ t - n ∧ iv = .int .i64 (n + k : Nat) ∧ pv = .string p ∧ txt p = rep k ++ [122]
theorem txt_size {p : ByteArray} {l : Txt} (h : txt p = l) : p.size = l.length := by rw [← h, txt_len]
theorem fine_dpats {n : Nat} (h : n ≤ 40) : Fine (dpats n) := ⟨by rw [dpats_len]; omega, fun x hx => by
  obtain ⟨j, _, rfl⟩ := List.mem_map.1 hx
  simp [dpat]⟩

set_option maxRecDepth 100000 in
set_option maxHeartbeats 2000000 in
theorem deep19_any {w : World} (hg : G0 w) (n t : Int) : Calls Tryd.prog 5 #[.int .i64 n, .int .i64 t] w fun e w' => e = .returned (.bool true) ∧ Sm No w w' := by
  have HG := Lib.hid hg
  clear hg
  by_cases hr : 0 ≤ n ∧ n ≤ 40 ∧ 0 ≤ t ∧ t ≤ 60
  · obtain ⟨h1, h2, h3, h4⟩ := hr
    obtain ⟨n, rfl⟩ := Int.eq_ofNat_of_zero_le h1
    obtain ⟨t, rfl⟩ := Int.eq_ofNat_of_zero_le h3
    go_enter Tryd.func5, Tryd.ntmps5
    go_wp2_with fail
    refine (new_own w w (Sm.refl _ _)).mono ?_
    rintro e w1 ⟨r, rfl, hR, _, _⟩
    have H1 := Lib.hid hR
    clear hR
    go_wp2_with fail
    go_loopw [6, 7] (fun p i wr => DpRel w n r p i wr) (fun _ i _ => n - (intOf i).toNat)
    case atStart => exact ⟨0, _, Nat.zero_le _, rfl, rfl, rfl, H1.out⟩
    case round =>
      obtain ⟨k, p, hk, rfl, rfl, hp, hR⟩ := hrel
      have hpz := txt_size hp
      have hpl : (47 :: rep k).length = 2 * k + 1 := by simp [rep_len]
      rw [hpl] at hpz
      have HR := Lib.hid (And.intro hR hp)
      clear hR hp hpl
      by_cases hlt : k < n
      · have hd : (⟨txt (p ++ ⟨#[97, 47]⟩ ++ ⟨#[42]⟩), (k : Int), []⟩ : Lt) = dpat k := by
          rw [txt_append, txt_append, HR.out.2]
          show (⟨(47 :: rep k ++ [97, 47]) ++ [42], (k : Int), []⟩ : Lt) = ⟨47 :: rep (k + 1) ++ [42], (k : Int), []⟩
          rw [rep_snoc]; rfl
        have hadd := add_own w wr r (dpats k) (p ++ ⟨#[97, 47]⟩ ++ ⟨#[42]⟩) k none 0 [] HR.out.1 HG.out (fine_dpats (by omega)) (by rw [ByteArray.size_append, ByteArray.size_append, hpz]; show 2 * k + 1 + 2 + 1 ≤ 800000; omega) (RowC.nil _ _) (fun _ => rfl) (by simp) (by simp)
        rw [hd, add_dpats k (by omega), adds_dpats k (by omega)] at hadd
        have HA := Lib.hid (And.intro hadd (show txt (p ++ ⟨#[97, 47]⟩) = 47 :: rep (k + 1) by rw [txt_append, HR.out.2, rep_snoc]; rfl))
        clear hd hadd
        go_wp2_with fail
        refine HA.out.1.mono ?_
        rintro e w2 ⟨rfl, hR2⟩
        have H2 := Lib.hid hR2
        clear hR2
        go_wp2_with fail
        exact ⟨⟨k + 1, _, by omega, by go_num, rfl, HA.out.2, H2.out⟩, by simp [intOf]; omega⟩
      · obtain rfl : n = k := by omega
        go_wp2_with fail
        obtain ⟨wo, hwo⟩ : ∃ wo : World, wo = wr := ⟨_, rfl⟩
        go_loop [8, 9] (fun p i => DsRel t p i) (fun _ i => t - (intOf i).toNat)
        case atStart => exact ⟨0, _, Nat.zero_le _, rfl, rfl, rfl⟩
        case round =>
          obtain ⟨j, q, hj, rfl, rfl, hq⟩ := hrel
          have hqz := txt_size hq
          have hql : (47 :: rep j).length = 2 * j + 1 := by simp [rep_len]
          rw [hql] at hqz
          have HQ := Lib.hid hq
          clear hq hql
          by_cases hlt2 : j < t
          · have hq2 : txt (q ++ ⟨#[97, 47]⟩) = 47 :: rep (j + 1) := by rw [txt_append, HQ.out, rep_snoc]; rfl
            have HQ2 := Lib.hid hq2
            clear hq2
            go_wp2_with fail
            go_round
            case rel => exact ⟨j + 1, _, by omega, by go_num, rfl, HQ2.out⟩
            case measure => simp [intOf]; omega
          · obtain rfl : t = j := by omega
            have hq2 : txt (q ++ ⟨#[122]⟩) = dpath t := by rw [txt_append, HQ.out]; rfl
            have hqs : (q ++ (⟨#[122]⟩ : ByteArray)).size ≤ 1000000 := by rw [ByteArray.size_append, hqz]; show 2 * t + 1 + 1 ≤ 1000000; omega
            have HX := Lib.hid (And.intro hq2 hqs)
            clear hq2 hqs
            go_wp2_with fail
            by_cases h0 : n = 0 ∨ t = 0
            · have hM := match_deep0 (n := n) (t := t) [88] h0
              rw [← HX.out.1] at hM
              refine (match_own w wr r (dpats n) ⟨#[88]⟩ _ hM HR.out.1 (fine_dpats (by omega)) HX.out.2).mono ?_
              rintro e w2 ⟨A2, c2, rfl, _, hs2⟩
              have HK := Lib.hid (known19_any w2 ((HG.out.no HR.out.1.sm).no hs2))
              have HS := Lib.hid (HR.out.1.sm.trans hs2 (fun _ _ h => h))
              clear hM hs2
              unfold strB
              by_cases hn0 : n = 0
              · have e1 : ((n : Int) == 0) = true := by simp [hn0]
                clear h0 hn0
                go_wp2_with fail
                refine HK.out.mono ?_
                rintro e w3 ⟨rfl, hs3⟩
                have H3 := Lib.hid (HS.out.trans hs3 (fun _ _ h => h))
                clear hs3
                go_wp2_with fail
                go_ret
                exact ⟨rfl, H3.out⟩
              · have e1 : ((n : Int) == 0) = false := by simp [hn0]
                have e2 : ((t : Int) == 0) = true := by simp; omega
                clear h0 hn0
                go_wp2_with fail
                refine HK.out.mono ?_
                rintro e w3 ⟨rfl, hs3⟩
                have H3 := Lib.hid (HS.out.trans hs3 (fun _ _ h => h))
                clear hs3
                go_wp2_with fail
                go_ret
                exact ⟨rfl, H3.out⟩
            · have hM := match_deep (n := n) (t := t) [88] (by omega) (by omega)
              rw [← HX.out.1] at hM
              refine (match_own w wr r (dpats n) ⟨#[88]⟩ _ hM HR.out.1 (fine_dpats (by omega)) HX.out.2).mono ?_
              rintro e w2 ⟨A2, c2, rfl, _, hs2⟩
              have HK := Lib.hid (known19_any w2 ((HG.out.no HR.out.1.sm).no hs2))
              have HS := Lib.hid (HR.out.1.sm.trans hs2 (fun _ _ h => h))
              have e1 : ((n : Int) == 0) = false := by simp; omega
              have e2 : ((t : Int) == 0) = false := by simp; omega
              obtain ⟨rb, hrb⟩ : ∃ rb : ByteArray, strB (rep (t - min n t) ++ [122]) = .string rb ∧ txt rb = rep (t - min n t) ++ [122] := ⟨_, rfl, txt_mk _⟩
              rw [hrb.1]
              have HRB := Lib.hid hrb.2
              obtain ⟨d, hd⟩ : ∃ d : Int, ((min n t : Nat) : Int) - 1 = d := ⟨_, rfl⟩
              rw [hd]
              have HD := Lib.hid hd
              clear hM hs2 h0 hrb hd
              go_wp2_with fail
              go_loop [14, 15] (fun p i => DwRel n t p i) (fun _ i => t - (intOf i).toNat)
              case atStart => exact ⟨0, _, Nat.zero_le _, rfl, rfl, rfl⟩
              case round =>
                obtain ⟨k, u, hk, rfl, rfl, hu⟩ := hrel
                have huz := txt_size hu
                have hul : (rep k ++ [122]).length = 2 * k + 1 := by simp [rep_len]
                rw [hul] at huz
                have HU := Lib.hid hu
                clear hu hul
                by_cases hlt3 : n + k < t
                · have hu2 : txt (⟨#[97, 47]⟩ ++ u) = rep (k + 1) ++ [122] := by rw [txt_append, HU.out, rep_succ]; rfl
                  have HU2 := Lib.hid hu2
                  clear hu2
                  go_wp2_with fail
                  go_round
                  case rel => exact ⟨k + 1, _, by omega, by go_num, rfl, HU2.out⟩
                  case measure => simp [intOf]; omega
                · obtain rfl : u = rb := by
                    rw [← mk_txt u, ← mk_txt rb, HU.out, HRB.out]
                    have : k = t - min n t := by omega
                    rw [this]
                  have hdm : (d == min (n : Int) (t : Int) - 1) = true := by have := HD.out; simp; omega
                  go_wp2_with fail
                  refine HK.out.mono ?_
                  rintro e w3 ⟨rfl, hs3⟩
                  have H3 := Lib.hid (HS.out.trans hs3 (fun _ _ h => h))
                  clear hs3
                  go_wp2_with fail
                  go_ret
                  exact ⟨rfl, H3.out⟩
  · have hcase : n < 0 ∨ 40 < n ∨ t < 0 ∨ 60 < t := by omega
    clear hr
    have HK := Lib.hid (known19_any w HG.out)
    by_cases c1 : n < 0
    · clear hcase
      go_enter Tryd.func5, Tryd.ntmps5
      go_wp2_with fail
      refine HK.out.mono ?_
      rintro e w1 ⟨rfl, hs1⟩
      have H1 := Lib.hid hs1
      clear hs1
      go_wp2_with fail
      go_ret
      exact ⟨rfl, H1.out⟩
    · by_cases c2 : 40 < n
      · clear hcase
        go_enter Tryd.func5, Tryd.ntmps5
        go_wp2_with fail
        refine HK.out.mono ?_
        rintro e w1 ⟨rfl, hs1⟩
        have H1 := Lib.hid hs1
        clear hs1
        go_wp2_with fail
        go_ret
        exact ⟨rfl, H1.out⟩
      · by_cases c3 : t < 0
        · clear hcase
          go_enter Tryd.func5, Tryd.ntmps5
          go_wp2_with fail
          refine HK.out.mono ?_
          rintro e w1 ⟨rfl, hs1⟩
          have H1 := Lib.hid hs1
          clear hs1
          go_wp2_with fail
          go_ret
          exact ⟨rfl, H1.out⟩
        · have c4 : 60 < t := by omega
          clear hcase
          go_enter Tryd.func5, Tryd.ntmps5
          go_wp2_with fail
          refine HK.out.mono ?_
          rintro e w1 ⟨rfl, hs1⟩
          have H1 := Lib.hid hs1
          clear hs1
          go_wp2_with fail
          go_ret
          exact ⟨rfl, H1.out⟩
end Go.Proofs.YtnopbhboamembaaDoor
