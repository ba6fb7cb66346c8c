/- The law WheelResets: its walk. -/
import Derived.Test.YtgmgjkafdkgalaaWhU
namespace Go.Proofs.Ytgmgjkafdkgalaa
open Go.RowKit Go.Proofs Go.Maps

/-- One timer alone. -/
def one6 (now ord : Nat) (sb : List Sl) (a o : Nat) : St := ⟨now, ord, sb, [⟨⟨0, 1⟩, a, 3, o⟩]⟩
theorem one_adv_no {now ord a o m : Nat} {sb : List Sl} {n : Int} (hg : goesTo (one6 now ord sb a o) n = m) (hm : m < a) : advW (one6 now ord sb a o) n = ([], one6 m ord sb a o) := by
  unfold advW
  rw [hg]
  have e1 : dueL m (one6 now ord sb a o).L = [] := dueL_nil (fun t ht => by simp [one6] at ht; subst ht; exact hm)
  have e2 : restL m (one6 now ord sb a o).L = (one6 now ord sb a o).L := by simp [restL, one6, hm]
  rw [e1, e2, takeP_none]
  · rfl
  · intro k hk
    simp [one6, hasT] at hk
    omega
theorem one_adv_yes {now ord a o m : Nat} {sb : List Sl} {n : Int} (hg : goesTo (one6 now ord sb a o) n = m) (hm : a ≤ m) : (advW (one6 now ord sb a o) n).1 = [3] ∧ (advW (one6 now ord sb a o) n).2.L = [] := by
  unfold advW
  rw [hg]
  constructor
  · simp [one6, dueL, hm]
  · exact restL_nil (fun t ht => by simp [one6] at ht; subst ht; exact hm)
theorem adv_none {st : St} (h : st.L = []) (n : Int) : (advW st n).1 = [] ∧ (advW st n).2.L = [] := by
  unfold advW
  simp [h, dueL, restL]
theorem one_add {a : Nat} (h : a ≤ 1099511627776) : addW (St.new 0) a 3 = (⟨0, 1⟩, 0, one6 0 1 [⟨1, true, 3⟩] a 1) := by
  unfold addW
  rw [if_pos (by simp [isTime]; omega)]
  rfl
theorem one_reset {now ord a o s : Nat} {sb : List Sl} (h : s ≤ 1099511627776) : resetW (one6 now ord sb a o) ⟨0, 1⟩ s = (0, one6 now (ord + 1) sb s (ord + 1)) := by
  unfold resetW
  rw [if_pos (by simp [isTime]; omega), if_pos (by rfl)]
  rfl
theorem adv_ord (st : St) (n : Int) : (advW st n).2.ord = st.ord := rfl
set_option maxRecDepth 100000 in
set_option maxHeartbeats 4000000 in
theorem resets6_any (f s b : Int) (_ : (Lit.int .i64 f).wf = true) (_ : (Lit.int .i64 s).wf = true) (_ : (Lit.int .i64 b).wf = true) (w : World) : Calls Try.prog 6 #[.int .i64 f, .int .i64 s, .int .i64 b] w fun e w' => e = .returned (.bool true) ∧ Sm No w w' := by
  go_enter Try.func6, Try.ntmps6
  go_wp2_with fail
  all_goals try ((with_reducible refine (known6_any _).mono ?_); rintro e w1 ⟨rfl, hs1⟩; have H1 := Lib.hid hs1; clear hs1; go_wp2_with fail; go_ret; exact ⟨rfl, H1.out⟩)
  have f1 : 1 ≤ f := by omega
  have f2 : f ≤ 1073741824 := by omega
  have s1 : 1 ≤ s := by omega
  have s2 : s ≤ 1073741824 := by omega
  have b0 : 0 ≤ b := by omega
  have b1 : b < f := by omega
  have b2 : b < s := by omega
  obtain ⟨f, rfl⟩ := Int.eq_ofNat_of_zero_le (show 0 ≤ f by omega)
  obtain ⟨s, rfl⟩ := Int.eq_ofNat_of_zero_le (show 0 ≤ s by omega)
  obtain ⟨b, rfl⟩ := Int.eq_ofNat_of_zero_le b0
  refine (new6 (w := w) (K := No) 0 (by omega) (Sm.refl _ _) (fun _ h => h.elim)).mono ?_
  rintro e w1 ⟨r, rfl, hO, _⟩
  have H1 := Lib.hid hO
  clear hO
  go_wp2_with fail
  have hadd := add6 f 3 H1.out (by decide)
  rw [one_add (by omega)] at hadd
  unfold hv at hadd
  refine hadd.mono ?_
  rintro e w2 ⟨rfl, hO, _⟩
  have H2 := Lib.hid hO
  clear hO hadd
  go_wp2_with fail
  have hal := (Sm.refl No w2).alloc (.cells #[.int .i64 0, .int .i64 1] 29)
  have hO2 := H2.out.more hal (K2 := fun b => b = w2.heap.size) (fun b e => Or.inr ⟨by omega, by rw [e]; simp⟩)
  have hadv := adv6 b hO2 (show (1 : Nat) ≤ 4000 by decide)
  rw [one_adv_no (m := b) (by unfold goesTo one6; dsimp only; omega) (by omega)] at hadv
  have hbx := Bk.new w2 29 #[.int .i64 0, .int .i64 1]
  refine hadv.mono ?_
  rintro e w3 ⟨v3, rfl, _, hO, hs3⟩
  have hbx3 := hbx.sm hs3 (fun h => h rfl)
  have q0 := hbx3.at 0 (v := .int .i64 0) rfl
  have q1 := hbx3.at 1 (v := .int .i64 1) rfl
  have hxl := hbx3.lt
  have H3 := Lib.hid hO
  clear hal hO2 hadv hbx hO hs3 hbx3
  go_wp2_with fail
  have hres := reset6 ⟨0, 1⟩ s H3.out ⟨by decide, by decide⟩ (show (1 : Nat) ≤ 90000 by decide)
  rw [one_reset (by omega)] at hres
  unfold hv at hres
  refine hres.mono ?_
  rintro e w4 ⟨rfl, hO, _⟩
  have H4 := Lib.hid (hO.less (K2 := No) (fun _ h => h.elim))
  clear hO hres q0 q1 hxl
  go_wp2_with fail
  refine (next6 H4.out).mono ?_
  rintro e w5 ⟨rfl, hs5⟩
  have H5 := Lib.hid (H4.out.no hs5)
  clear hs5
  rw [show nextW (one6 b (1 + 1) [⟨1, true, 3⟩] s (1 + 1)) = ((s : Int), true) from rfl]
  go_wp2_with fail
  have hadv := adv6 ((s : Int) - 1) H5.out (show (2 : Nat) ≤ 4000 by decide)
  rw [one_adv_no (m := s - 1) (by unfold goesTo one6; dsimp only; omega) (by omega)] at hadv
  refine hadv.mono ?_
  rintro e w6 ⟨v6, rfl, hI6, hO, _⟩
  obtain ⟨A6, c6, rfl, _⟩ := hI6.row
  have H6 := Lib.hid (hO.less (K2 := No) (fun _ h => h.elim))
  clear hO hadv hI6
  go_wp2_with fail
  have hadv := adv6 (s : Int) H6.out (show (2 : Nat) ≤ 4000 by decide)
  obtain ⟨e7, e8⟩ := one_adv_yes (now := s - 1) (ord := 1 + 1) (a := s) (o := 1 + 1) (m := s) (sb := [⟨1, true, 3⟩]) (n := s) (by unfold goesTo one6; dsimp only; omega) (Nat.le_refl _)
  rw [e7] at hadv
  refine hadv.mono ?_
  rintro e w7 ⟨v7, rfl, hI7, hO, _⟩
  obtain ⟨A7, c7, rfl, hR7⟩ := hI7.row
  have hadv8 := fun (x : Int) => adv6 x hO (show (2 : Nat) ≤ 4000 by decide)
  have hAK : ∀ a, A7 = some a → (fun b => No b ∨ (Value.slice A7 ([3] : List Int).length c7).ownBlock = some b) a.block := fun a e => by
    rcases own_row_form hI7 with ⟨hv, _⟩ | ⟨g, cap, hv, hg, _⟩
    · injection hv with hv; rw [hv] at e; cases e
    · refine Or.inr ?_
      rw [hg]
      injection hv with hv
      rw [hv] at e
      injection e with e
      rw [← e]
  have H7 := Lib.hid (And.intro hadv8 (And.intro hR7 (And.intro hAK e8)))
  clear hO hadv hI7 hadv8 hR7 hAK e7 e8
  go_wp2_with fail
  refine (H7.out.1 _).mono ?_
  rw [(adv_none H7.out.2.2.2 _).1]
  rintro e w8 ⟨v8, rfl, hI8, hO, hs8⟩
  obtain ⟨A8, c8, rfl, _⟩ := hI8.row
  have hR8 := H7.out.2.1.sm hs8 (fun a e hn => hn (H7.out.2.2.1 a e))
  have hal := (Sm.refl No w8).alloc (.cells #[.int .i64 3] 3)
  have H8 := Lib.hid (And.intro (hO.no hal).sm (And.intro (hR8.no hal) (rowC_of_bk (Bk.new w8 3 #[.int .i64 3]))))
  clear hI8 hO hs8 hR8 hal
  go_wp2_with fail
  refine (ints6_any _ A7 (some ⟨w8.heap.size, 0, none⟩) c7 1 [3] H8.out.2.1 H8.out.2.2 (by decide)).mono ?_
  rintro e w9 ⟨rfl, hs9⟩
  have H9 := Lib.hid (H8.out.1.trans hs9 (fun _ _ h => h))
  clear hs9
  go_wp2_with fail
  refine (known6_any _).mono ?_
  rintro e w10 ⟨rfl, hs10⟩
  have H10 := Lib.hid (H9.out.trans hs10 (fun _ _ h => h))
  clear hs10
  go_wp2_with fail
  go_ret
  exact ⟨rfl, H10.out⟩
end Go.Proofs.Ytgmgjkafdkgalaa
