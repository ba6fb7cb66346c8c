/- The law of waits within its bounds: the two loops. -/
import Derived.Test.YtkgafpmblmobeaaGateJ
namespace Go.Proofs.Ytkgafpmblmobeaa
open Go.RowKit Go.Proofs Go.Maps

def InRel (w : World) (g m k kk : Nat) (f : Int → Int) (a0 a1 : Int) (d i : Value) (wi : World) : Prop :=
  ∃ (j : Nat) (D : Int) (s1 : GS), j ≤ kk ∧ d = .int .i64 D ∧ i = .int .i64 j ∧ IsGate wi g m k (waitsC a0 a1) f s1 ∧ Row a0 a1 j D k s1 ∧ Sm No w wi
def OutRel (w : World) (g m : Nat) (a0 a1 : Int) (r : Value) (wr : World) : Prop :=
  ∃ (k : Nat) (f : Int → Int) (s : GS), k ≤ 2 ∧ r = .int .i64 k ∧ IsGate wr g m k (waitsC a0 a1) f s ∧ Row a0 a1 0 a0 k s ∧ (∀ p, 0 ≤ f p ∧ f p ≤ k) ∧ Sm No w wr
theorem Row.may {base top D : Int} {i k : Nat} {s : GS} (h : Row base top i D k s) (hk : k < 2) {u : Int} (hu : s.till ≤ u) : mayB (waitsC base top) u s = true := by
  have h1 : ¬ (3 ≤ s.all) := by rw [h.all]; omega
  simp [mayB, h.go, hu, fullB, waitsC, h1]
theorem Row.mayNot {base top u : Int} {s : GS} (hu : u < s.till) : mayB (waitsC base top) u s = false := by
  have h1 : ¬ (s.till ≤ u) := by omega
  simp [mayB, h1]
theorem count_val {c : Cfg} {s : GS} {w : World} {g m n : Nat} {f : Int → Int} {p u : Int} (hu : Hid (s.till = u)) (hG : IsGate w g m n c f s) (hp : (Lit.int .i64 p).wf = true) :
    Calls Try.prog 12 #[.pointer (some ⟨g, 0, none⟩), .int .i64 p] w fun e w' => e = .returned (.tuple #[.int .i64 s.all, .int .i64 (f p), .int .i64 u]) ∧ ∃ n, w' = w.drewN n := by
  rw [← hu.out]; exact count_any c s w g m n f p hG hp

set_option maxRecDepth 100000 in
set_option maxHeartbeats 8000000 in
theorem waits_in (a0 a1 a2 a3 : Int) (h1 : 0 ≤ a0) (h2 : a0 ≤ 1048576) (h3 : 0 ≤ a1) (h4 : a1 ≤ 1073741824) (h5 : 1 ≤ a2) (h6 : a2 ≤ 60) (h7 : 0 ≤ a3) (h8 : a3 ≤ 549755813888) (w : World) :
    Calls Try.prog 3 #[.int .i64 a0, .int .i64 a1, .int .i64 a2, .int .i64 a3] w fun e w' => e = .returned (.bool true) ∧ Sm No w w' := by
  obtain ⟨kk, rfl⟩ := Int.eq_ofNat_of_zero_le (show 0 ≤ a2 by omega)
  have b1 : decide (a0 < 0) = false := by simp; omega
  have b2 : decide (1048576 < a0) = false := by simp; omega
  have b3 : decide (a1 < 0) = false := by simp; omega
  have b4 : decide (1073741824 < a1) = false := by simp; omega
  have b5 : decide ((kk : Int) < 1) = false := by simp; omega
  have b6 : decide (60 < (kk : Int)) = false := by simp; omega
  have b7 : decide (a3 < 0) = false := by simp; omega
  have b8 : decide (549755813888 < a3) = false := by simp; omega
  have hok := Lib.hid (waitsC_ok a0 a1 h1 h2 h3 h4)
  go_enter Try.func3, Try.ntmps3
  go_wp2_with fail
  refine (plain_lit _).mono ?_
  rintro e w1 ⟨rfl, hs1⟩
  go_wp2_with (first
    | (refine wpList_store_new rfl 25 _ _ rfl 16 infoCfg _ rfl _ rfl rfl rfl rfl rfl ?_)
    | (refine wpList_load_bk rfl 25 _ rfl Try.underlying25 16 infoCfg _ rfl _ (Bk.new _ _ _) rfl ?_))
  refine (new_ok (waitsC a0 a1) _ hok.out).mono ?_
  rintro e w2 ⟨g, m, hg, hm, rfl, hG, hs2⟩
  go_wp2_with fail
  have hs3 : Sm No w w2 := (hs1.alloc _).trans hs2 (fun _ _ h => h)
  have hg0 : w.heap.size ≤ g := Nat.le_trans (Nat.le_trans hs1.size (by simp)) hg
  have hm0 : w.heap.size ≤ m := Nat.le_trans (Nat.le_trans hs1.size (by simp)) hm
  clear hs1 hs2 hg hm hok
  clear b1 b2 b3 b4 b5 b6 b7 b8
  go_loopw [12] (fun r wr => OutRel w g m a0 a1 r wr) (fun r _ => 2 - (intOf r).toNat)
  case atStart => exact ⟨0, fun _ => 0, _, by omega, rfl, hG, ⟨rfl, h1, by omega, fun _ => rfl, fun h => absurd h (by omega), by decide, by decide, rfl, rfl⟩, fun _ => ⟨Int.le_refl _, Int.le_refl _⟩, hs3⟩
  case round =>
    obtain ⟨k, f, s, hk, rfl, hG1, hR, hf, hs4⟩ := hrel
    clear hG hs3
    by_cases hlt : k < 2
    · go_wp2_with fail
      go_loopw [13, 14] (fun d i wi => InRel w g m k kk f a0 a1 d i wi) (fun _ i _ => kk - (intOf i).toNat)
      case atStart => exact ⟨0, a0, s, by omega, rfl, rfl, hG1, hR, hs4⟩
      case round =>
        obtain ⟨j, D, s1, hj, rfl, rfl, hG2, hR1, hs5⟩ := hrel
        clear hG1 hR hs4
        by_cases hjl : j < kk
        · have hR2 := hR1.next (now := a3) h3 h4
          have ht := hR1.till (now := a3) h3 h4 h7 h8
          have hD0 := hR1.d0
          have hD1 := hR1.d1
          have hfi := Lib.hid (hR1.fit (by omega) hk h1 h2 h3 h4)
          have hRR := Lib.hid hR2
          have HR1 := Lib.hid hR1
          clear hR1 hR2
          by_cases hm1 : D ≤ a1
          case' pos =>
            have hut : (failS (waitsC a0 a1) a3 s1).till = a3 + D := by rw [ht]; omega
            have HU := Lib.hid hut
            have HM : Hid (mayB (waitsC a0 a1) (a3 + D) (failS (waitsC a0 a1) a3 s1) = true) := Lib.hid (hRR.out.may hlt (by rw [hut]; omega))
            have HN : Hid (mayB (waitsC a0 a1) (a3 + D - 1) (failS (waitsC a0 a1) a3 s1) = false) := Lib.hid (Row.mayNot (by rw [hut]; omega))
            have HC : Hid (0 < D ∨ D = 0) := Lib.hid (by omega)
          case' neg =>
            have hut : (failS (waitsC a0 a1) a3 s1).till = a3 + a1 := by rw [ht]; omega
            have HU := Lib.hid hut
            have HM : Hid (mayB (waitsC a0 a1) (a3 + a1) (failS (waitsC a0 a1) a3 s1) = true) := Lib.hid (hRR.out.may hlt (by rw [hut]; omega))
            have HN : Hid (mayB (waitsC a0 a1) (a3 + a1 - 1) (failS (waitsC a0 a1) a3 s1) = false) := Lib.hid (Row.mayNot (by rw [hut]; omega))
            have HC : Hid (0 < a1 ∨ a1 = 0) := Lib.hid (by omega)
          all_goals
            clear hut ht
            by_cases hd2 : 2 * D < 1099511627776
            case' pos => have HE : Hid (min (2 * D) 1099511627776 = 2 * D) := Lib.hid (by omega)
            case' neg => have HE : Hid (min (2 * D) 1099511627776 = 1099511627776) := Lib.hid (by omega)
            all_goals try (exfalso; omega)
            all_goals
              rw [HE.out] at hRR
              rcases HC.out with hv | hv
              · go_wp2_with fail
                refine (failed_any _ _ _ g m k f _ hG2 hfi.out).mono ?_
                rintro e w' ⟨rfl, hG3, hs6⟩
                have hs7 : Sm No w w' := hs5.trans hs6 (fun b hb h => by subst h; omega)
                go_wp2_with fail
                refine (count_val HU hG3 (by decide)).mono ?_
                rintro e w3 ⟨rfl, n1, rfl⟩
                go_wp2_with fail
                refine (may_say HM _ g m (hG3.drewN _).blk).mono ?_
                rintro e w3 ⟨rfl, n2, rfl⟩
                go_wp2_with fail
                refine (may_say HN _ g m (hG3.drewN _).blk).mono ?_
                rintro e w3 ⟨rfl, n3, rfl⟩
                go_wp2_with fail
                all_goals
                  refine ⟨⟨_, _, _, ⟨j + 1, _, _, by omega, rfl, rfl, hG3.drewN _, hRR.out, hs7.drewN _⟩, rfl, ?_, by go_num⟩, by simp [intOf]; omega⟩
                  first | rfl | (congr 1; omega)
              · have Hv := Lib.hid hv
                have hv1 := Int.le_of_eq hv
                have hv2 := Int.le_of_eq hv.symm
                clear hv
                go_wp2_with fail
                refine (failed_any _ _ _ g m k f _ hG2 hfi.out).mono ?_
                rintro e w' ⟨rfl, hG3, hs6⟩
                have hs7 : Sm No w w' := hs5.trans hs6 (fun b hb h => by subst h; omega)
                go_wp2_with fail
                refine (count_val HU hG3 (by decide)).mono ?_
                rintro e w3 ⟨rfl, n1, rfl⟩
                go_wp2_with fail
                refine (may_say HM _ g m (hG3.drewN _).blk).mono ?_
                rintro e w3 ⟨rfl, n2, rfl⟩
                go_wp2_with fail
                all_goals
                  refine ⟨⟨_, _, _, ⟨j + 1, _, _, by omega, rfl, rfl, hG3.drewN _, hRR.out, hs7.drewN _⟩, rfl, ?_, by go_num⟩, by simp [intOf]; omega⟩
                  first | rfl | (congr 1; omega)
        · have hb := hf k
          have hall := hR1.all
          have HR1 := Lib.hid hR1
          have hfit : fitsB (waitsC a0 a1) f k s1 = true := by
            have h3' : ¬ (3 ≤ s1.all) := by omega
            have h2' : f k < 2 := by omega
            simp [fitsB, fullB, waitsC, h3', h2']
          have HF := Lib.hid hfit
          have HA := Lib.hid hall
          clear hR1 hfit hall
          go_wp2_with fail
          refine (took_keep _ s1 _ g m k f k hG2 (WalkArith.wf_i64 (by omega)) (by omega) (by omega) (by omega) (by rw [HA.out]; omega) (by rw [HA.out]; omega) HF.out).mono ?_
          rintro e w' ⟨rfl, hG3, hs6⟩
          have hs7 : Sm No w w' := hs5.trans hs6 (fun b hb h => by rcases h with h | h <;> subst h <;> omega)
          go_wp2_with fail
          refine ⟨⟨k + 1, _, _, by omega, by go_num, hG3, ⟨rfl, h1, by omega, fun _ => rfl, fun h => absurd h (by omega), HR1.out.e0, HR1.out.e1, by show s1.all + 1 = _; rw [HA.out]; omega, HR1.out.go⟩, fun p => ?_, hs7⟩, by simp [intOf]; omega⟩
          have hp := hf p
          unfold upd
          split
          · omega
          · omega
    · have hk2 : k = 2 := by omega
      subst hk2
      go_wp2_with fail
      refine (known_any _).mono ?_
      rintro e w' ⟨rfl, hs⟩
      go_wp2_with fail
      go_ret
      exact ⟨rfl, hs4.trans hs (fun _ _ h => h)⟩
theorem waits_any (a0 a1 a2 a3 : Int) (_w0 : (Lit.int .i64 a0).wf = true) (_w1 : (Lit.int .i64 a1).wf = true) (_w2 : (Lit.int .i64 a2).wf = true) (_w3 : (Lit.int .i64 a3).wf = true) (w : World) :
    Calls Try.prog 3 #[.int .i64 a0, .int .i64 a1, .int .i64 a2, .int .i64 a3] w fun e w' => e = .returned (.bool true) ∧ Sm No w w' := by
  by_cases h : a0 < 0 ∨ 1048576 < a0 ∨ a1 < 0 ∨ 1073741824 < a1 ∨ a2 < 1 ∨ 60 < a2 ∨ a3 < 0 ∨ 549755813888 < a3
  · exact waits_out a0 a1 a2 a3 h w
  · exact waits_in a0 a1 a2 a3 (by omega) (by omega) (by omega) (by omega) (by omega) (by omega) (by omega) (by omega) w
end Go.Proofs.Ytkgafpmblmobeaa

