/- The law WheelPlaces: its walk. -/
import Derived.Test.YtgmgjkafdkgalaaWhU
namespace Go.Proofs.Ytgmgjkafdkgalaa
open Go.RowKit Go.Proofs Go.Maps

/-- One timer alone. -/
def oneW (now ord : Nat) (sb : List Sl) (a : Nat) (wh : Int) (o : Nat) : St := ⟨now, ord, sb, [⟨⟨0, 1⟩, a, wh, o⟩]⟩
theorem oneW_no {now ord a o m : Nat} {wh : Int} {sb : List Sl} {n : Int} (hg : goesTo (oneW now ord sb a wh o) n = m) (hm : m < a) : advW (oneW now ord sb a wh o) n = ([], oneW m ord sb a wh o) := by
  unfold advW
  rw [hg]
  have e1 : dueL m (oneW now ord sb a wh o).L = [] := dueL_nil (fun t ht => by simp [oneW] at ht; subst ht; exact hm)
  have e2 : restL m (oneW now ord sb a wh o).L = (oneW now ord sb a wh o).L := by simp [restL, oneW, hm]
  rw [e1, e2, takeP_none]
  · rfl
  · intro k hk
    simp [oneW, hasT] at hk
    omega
theorem oneW_yes {now ord a o m : Nat} {wh : Int} {sb : List Sl} {n : Int} (hg : goesTo (oneW now ord sb a wh o) n = m) (hm : a ≤ m) : (advW (oneW now ord sb a wh o) n).1 = [wh] ∧ (advW (oneW now ord sb a wh o) n).2.L = [] := by
  unfold advW
  rw [hg]
  constructor
  · simp [oneW, dueL, hm]
  · exact restL_nil (fun t ht => by simp [oneW] at ht; subst ht; exact hm)
theorem oneW_add {now a : Nat} (h : a ≤ 1099511627776) (wh : Int) : addW (St.new now) a wh = (⟨0, 1⟩, 0, oneW now 1 [⟨1, true, wh⟩] a wh 1) := by
  unfold addW
  rw [if_pos (by simp [isTime]; omega)]
  rfl
theorem where_none {st : St} (h : st.L = []) (k : Hd) : whereW st k = (0, 0, 10) := by
  unfold whereW findT
  rw [h]; rfl
/-- What the law's own loop finds, from level k on. -/
def wantL (n a : Nat) (k : Nat) : Nat × Nat :=
  if k < 4 then (if a / 64 ^ (k + 1) = n / 64 ^ (k + 1) then (k, a / 64 ^ k % 64) else wantL n a (k + 1)) else (4, 0)
termination_by 4 - k
theorem wantL_lt {n a k : Nat} (h : k < 4) : wantL n a k = if a / 64 ^ (k + 1) = n / 64 ^ (k + 1) then (k, a / 64 ^ k % 64) else wantL n a (k + 1) := by
  rw [wantL, if_pos h]
theorem wantL_ge {n a k : Nat} (h : ¬ k < 4) : wantL n a k = (4, 0) := by
  rw [wantL, if_neg h]
theorem wantL_place {n a : Nat} (h : n < a) : wantL n a 0 = placeL n a := by
  unfold placeL
  rw [if_neg (by omega), wantL_lt (by omega), wantL_lt (by omega), wantL_lt (by omega), wantL_lt (by omega), wantL_ge (by omega)]
  have e1 : (64 : Nat) ^ (0 + 1) = 64 := by decide
  have e2 : (64 : Nat) ^ (0 + 1 + 1) = 4096 := by decide
  have e3 : (64 : Nat) ^ (0 + 1 + 1 + 1) = 262144 := by decide
  have e4 : (64 : Nat) ^ (0 + 1 + 1 + 1 + 1) = 16777216 := by decide
  rw [e1, e2, e3, e4, Nat.pow_zero, Nat.div_one]
def PlcR (w : World) (n a : Nat) (x y l : Value) (wr : World) : Prop := ∃ k : Nat, k ≤ 4 ∧ Sm No w wr ∧ l = .int .i64 ((k : Int) - 1) ∧ x = .int .i64 (wantL n a k).1 ∧ y = .int .i64 (wantL n a k).2
def PowR (w : World) (k : Nat) (z i : Value) (wr : World) : Prop := ∃ j : Nat, j ≤ k ∧ Sm No w wr ∧ i = .int .i64 j ∧ z = .int .i64 (64 ^ j : Nat)
set_option maxRecDepth 100000 in
set_option maxHeartbeats 8000000 in
theorem places6_any (n a t : Int) (_ : (Lit.int .i64 n).wf = true) (_ : (Lit.int .i64 a).wf = true) (_ : (Lit.int .i64 t).wf = true) (w : World) : Calls Try.prog 4 #[.int .i64 n, .int .i64 a, .int .i64 t] w fun e w' => e = .returned (.bool true) ∧ Sm No w w' := by
  go_enter Try.func4, Try.ntmps4
  go_wp2_with fail
  all_goals try ((with_reducible refine (known6_any _).mono ?_); rintro e w1 ⟨rfl, hs1⟩; have H1 := Lib.hid hs1; clear hs1; go_wp2_with fail; go_ret; exact ⟨rfl, H1.out⟩)
  have n0 : 0 ≤ n := by omega
  have n1 : n ≤ 1099511627776 := by omega
  have a0 : 0 ≤ a := by omega
  have a1 : a ≤ 1099511627776 := by omega
  have t0 : n ≤ t := by omega
  have t1 : t ≤ 1099511627776 := by omega
  obtain ⟨n, rfl⟩ := Int.eq_ofNat_of_zero_le n0
  obtain ⟨a, rfl⟩ := Int.eq_ofNat_of_zero_le a0
  obtain ⟨t, rfl⟩ := Int.eq_ofNat_of_zero_le (show 0 ≤ t by omega)
  refine (new6 (w := w) (K := No) n (by omega) (Sm.refl _ _) (fun _ h => h.elim)).mono ?_
  rintro e w1 ⟨r, rfl, hO, _⟩
  have H1 := Lib.hid hO
  clear hO
  go_wp2_with fail
  have hadd := add6 a 1 H1.out (show (0 : Nat) ≤ 4000 by decide)
  rw [oneW_add (by omega)] at hadd
  unfold hv at hadd
  refine hadd.mono ?_
  rintro e w2 ⟨rfl, hO, _⟩
  have H2 := Lib.hid hO
  clear hO hadd
  go_wp2_with fail
  have hal := (Sm.refl No w2).alloc (.cells #[.int .i64 0, .int .i64 1] 29)
  have hO2 := H2.out.more hal (K2 := fun b => b = w2.heap.size) (fun b e => Or.inr ⟨by omega, by rw [e]; simp⟩)
  have hadv := adv6 t hO2 (show (1 : Nat) ≤ 4000 by decide)
  have hbx := Bk.new w2 29 #[.int .i64 0, .int .i64 1]
  have hg : goesTo (oneW n 1 [⟨1, true, 1⟩] a 1 1) t = t := by unfold goesTo oneW; dsimp only; omega
  obtain ⟨ST, hST⟩ : ∃ ST, advW (oneW n 1 [⟨1, true, 1⟩] a 1 1) t = ST := ⟨_, rfl⟩
  have HST := Lib.hid (And.intro hg hST)
  rw [hST] at hadv
  refine hadv.mono ?_
  rintro e w3 ⟨v3, rfl, _, hO, hs3⟩
  have hbx3 := hbx.sm hs3 (fun h => h rfl)
  have q0 := hbx3.at 0 (v := .int .i64 0) rfl
  have q1 := hbx3.at 1 (v := .int .i64 1) rfl
  have hxl := hbx3.lt
  have hwh := where6 ⟨0, 1⟩ hO ⟨by decide, by decide⟩
  unfold hv whereV at hwh
  have H3 := Lib.hid hO
  clear hal hO2 hadv hbx hO hs3 hbx3 hg hST
  by_cases hle : a ≤ t
  · have hL : ST.2.L = [] := by rw [← HST.out.2]; exact (oneW_yes HST.out.1 hle).2
    rw [where_none hL] at hwh
    have hln := len6 H3.out
    rw [hL] at hln
    have HL := Lib.hid hln
    have hd : decide ((a : Int) ≤ (t : Int)) = true := by simpa using hle
    clear hL hln
    go_wp2_with fail
    refine hwh.mono ?_
    rintro e w4 ⟨rfl, hs4⟩
    have H4 := Lib.hid (H3.out.no hs4)
    clear hs4 hwh
    go_wp2_with fail
    have hln := len6 H4.out
    rw [show ST.2.L = [] from by rw [← HST.out.2]; exact (oneW_yes HST.out.1 hle).2] at hln
    refine hln.mono ?_
    rintro e w5 ⟨rfl, rfl⟩
    clear hln
    go_wp2_with fail
    refine (known6_any _).mono ?_
    rintro e w6 ⟨rfl, hs6⟩
    have H6 := Lib.hid (H4.out.sm.trans hs6 (fun _ _ h => h))
    clear hs6
    go_wp2_with fail
    go_ret
    exact ⟨rfl, H6.out⟩
  · have hP : ST = ([], oneW t 1 [⟨1, true, 1⟩] a 1 1) := by rw [← HST.out.2]; exact oneW_no HST.out.1 (by omega)
    subst hP
    rw [show whereW ([], oneW t 1 [⟨1, true, 1⟩] a 1 1).2 ⟨0, 1⟩ = (((placeL t a).1 : Int), ((placeL t a).2 : Int), 0) from rfl] at hwh
    have hd : decide ((a : Int) ≤ (t : Int)) = false := by simp; omega
    go_wp2_with fail
    refine hwh.mono ?_
    rintro e w4 ⟨rfl, hs4⟩
    have H4 := Lib.hid (H3.out.no hs4).sm
    clear hs4 hwh q0 q1 hxl
    have HPl := Lib.hid (wantL_place (n := t) (a := a) (by omega))
    go_wp2_with fail
    go_loopw [14, 15, 16] (fun x y l wr => PlcR w4 t a x y l wr) (fun _ _ l _ => (intOf l + 1).toNat)
    case atStart => exact ⟨4, Nat.le_refl _, Sm.refl _ _, rfl, by rw [wantL_ge (by omega)]; rfl, by rw [wantL_ge (by omega)]; rfl⟩
    case round =>
      obtain ⟨k, hk, hsm, rfl, rfl, rfl⟩ := hrel
      have HS := Lib.hid hsm
      clear hsm
      cases k with
      | zero =>
        rw [HPl.out]
        have k0 : ((0 : Nat) : Int) - 1 = -1 := by omega
        go_wp2_with fail
        refine (known6_any _).mono ?_
        rintro e w6 ⟨rfl, hs6⟩
        have H6 := Lib.hid ((H4.out.trans HS.out (fun _ _ h => h)).trans hs6 (fun _ _ h => h))
        clear hs6
        go_wp2_with fail
        go_ret
        exact ⟨rfl, H6.out⟩
      | succ k =>
        have hw := wantL_lt (n := t) (a := a) (k := k) (by omega)
        have k0 : ((k + 1 : Nat) : Int) - 1 = (k : Int) := by omega
        have hd2 : decide ((0 : Int) ≤ (k : Int)) = true := by simp
        rw [k0]
        obtain ⟨wl, hwl⟩ : ∃ wl, wantL t a (k + 1) = wl := ⟨_, rfl⟩
        rw [hwl]
        have HWl := Lib.hid (And.intro hw hwl)
        clear hw hwl k0
        have hk3 : k ≤ 3 := by omega
        go_wp2_with fail
        go_loopw [17, 18] (fun z i wr => PowR w4 (k + 1) z i wr) (fun _ i _ => k + 1 - (intOf i).toNat)
        case atStart => exact ⟨0, by omega, HS.out, rfl, rfl⟩
        case round =>
          obtain ⟨j, hj, hsm, rfl, rfl⟩ := hrel
          have HS2 := Lib.hid hsm
          clear hsm
          obtain ⟨z, hz⟩ : ∃ z, 64 ^ j = z := ⟨_, rfl⟩
          have hzb : z ≤ 16777216 := by
            rw [← hz]
            have h1 : (64 : Nat) ^ j ≤ 64 ^ 4 := Nat.pow_le_pow_right (by omega) (by omega)
            have h2 : (64 : Nat) ^ 4 = 16777216 := by decide
            omega
          have hzp : 0 < z := by rw [← hz]; exact Nat.pow_pos (by omega)
          rw [hz]
          have HZ := Lib.hid hz
          clear hz
          by_cases hjk : j ≤ k
          · have hd3 : decide ((j : Int) ≤ (k : Int)) = true := by simp; omega
            have hd4 : decide (j ≤ k) = true := by simp; omega
            go_wp2_with fail
            go_round
            case rel => exact ⟨j + 1, by omega, HS2.out, by go_num, by rw [Nat.pow_succ, HZ.out]; congr 1; omega⟩
            case measure => simp [intOf]; omega
          · obtain rfl : j = k + 1 := by omega
            have hd3 : decide (((k + 1 : Nat) : Int) ≤ (k : Int)) = false := by simp; omega
            have hd4 : decide (k + 1 ≤ k) = false := by simp
            have zp : (z : Int) ≠ 0 := by omega
            have zp2 : 0 < (z : Int) := by omega
            have hz64 : z / 64 = 64 ^ k := by
              rw [← HZ.out, Nat.pow_succ]; omega
            obtain ⟨y, hy⟩ : ∃ y, 64 ^ k = y := ⟨_, rfl⟩
            have HY := Lib.hid (And.intro hy hz64)
            clear hz64 hy
            have hy64 : (z : Int) / 64 = (y : Int) := by rw [← HY.out.1, ← HY.out.2]; omega
            have hyp : (y : Int) ≠ 0 := by
              have h1 : 0 < (64 : Nat) ^ k := Nat.pow_pos (by omega)
              have := HY.out.1
              omega
            have hyp2 : 0 < (y : Int) := by omega
            obtain ⟨q, hq⟩ : ∃ q, a / y = q := ⟨_, rfl⟩
            have hqb : q ≤ a := by rw [← hq]; exact Nat.div_le_self _ _
            have hqi : (a : Int) / (y : Int) = (q : Int) := by rw [← hq]; rfl
            obtain ⟨qa, hqa⟩ : ∃ q, a / z = q := ⟨_, rfl⟩
            have hqab : qa ≤ a := by rw [← hqa]; exact Nat.div_le_self _ _
            have hqai : (a : Int) / (z : Int) = (qa : Int) := by rw [← hqa]; rfl
            obtain ⟨qt, hqt⟩ : ∃ q, t / z = q := ⟨_, rfl⟩
            have hqtb : qt ≤ t := by rw [← hqt]; exact Nat.div_le_self _ _
            have hqti : (t : Int) / (z : Int) = (qt : Int) := by rw [← hqt]; rfl
            have HQ2 := Lib.hid (And.intro hqa hqt)
            clear hqa hqt
            have HQ := Lib.hid hq
            clear hq
            go_wp2_with fail
            go_quiet (fail)
            go_wp2_with fail
            · have heq : a / z = t / z := by
                rename_i h
                rw [HQ2.out.1, HQ2.out.2]; exact Int.ofNat.inj (eq_of_beq h)
              go_quiet (fail)
              go_wp2_with fail
              refine ⟨⟨k, by omega, HS2.out.drewN _, rfl, ?_, ?_⟩, by simp only [intOf]; omega⟩
              · rw [HWl.out.1, HZ.out, if_pos heq]
              · rw [HWl.out.1, HZ.out, if_pos heq, HY.out.1, HQ.out]
                congr 1
            · have heq : ¬ a / z = t / z := by
                rename_i h
                rw [HQ2.out.1, HQ2.out.2]; intro e; rw [e] at h; simp at h
              go_wp2_with fail
              refine ⟨⟨k, by omega, HS2.out.drewN _, rfl, ?_, ?_⟩, by simp only [intOf]; omega⟩
              · rw [HWl.out.1, HZ.out, if_neg heq, HWl.out.2]
              · rw [HWl.out.1, HZ.out, if_neg heq, HWl.out.2]
end Go.Proofs.Ytgmgjkafdkgalaa
