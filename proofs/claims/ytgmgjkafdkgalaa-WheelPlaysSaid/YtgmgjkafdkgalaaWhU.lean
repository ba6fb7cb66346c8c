/- usherlaw6: two lists of numbers; known. -/
import Derived.Test.YtgmgjkafdkgalaaWhT
namespace Go.Proofs.Ytgmgjkafdkgalaa
open Go.RowKit Go.Proofs Go.Maps

def intV (l : List Int) : List Value := l.map fun x => .int .i64 x
def CntR6 (w : World) (n : Nat) (i : Value) (wr : World) : Prop := ∃ k : Nat, k ≤ n ∧ i = .int .i64 k ∧ Sm No w wr
set_option maxRecDepth 100000 in
theorem ints6_any (w : World) (A B : Option Addr) (c d : Nat) (l : List Int) (hA : RowC w A (intV l)) (hB : RowC w B (intV l)) (hl : l.length ≤ 1000000) :
    Calls Try.prog 14 #[.slice A l.length c, .slice B l.length d] w fun e w' => e = .returned (.bool true) ∧ Sm No w w' := by
  have HA := Lib.hid (And.intro hA hB)
  clear hA hB
  go_enter Try.func14, Try.ntmps14
  go_wp2_with fail
  go_loopw [5] (fun i wr => CntR6 w l.length i wr) (fun i _ => l.length - (intOf i).toNat)
  case atStart => exact ⟨0, Nat.zero_le _, rfl, Sm.refl _ _⟩
  case round =>
    obtain ⟨k, hk, rfl, hs⟩ := hrel
    have HS := Lib.hid hs
    clear hs
    by_cases hlt : k < l.length
    · have e1 : (intV l)[k]? = some (.int .i64 l[k]) := by simp [intV, hlt]
      obtain ⟨b1, o1, hA1, hb1, r0⟩ := (HA.out.1.no HS.out).at e1
      obtain ⟨b2, o2, hA2, hb2, r1⟩ := (HA.out.2.no HS.out).at e1
      subst hA1 hA2
      obtain ⟨nm, hnm⟩ : ∃ x, l[k] = x := ⟨_, rfl⟩
      rw [hnm] at r0 r1
      have k1 : (0 : Int) ≤ (k : Int) := by omega
      have k2 : (k : Int) < (l.length : Int) := by omega
      clear hnm e1
      go_wp2_with fail
      go_quiet (fail)
      go_wp2_with fail
      exact ⟨⟨k + 1, by omega, by go_num, HS.out.drewN _⟩, by simp [intOf]; omega⟩
    · go_wp2_with fail
      go_ret
      exact ⟨rfl, HS.out⟩
theorem OwnI.row {w : World} {B : Nat} {v : Value} {l : List Int} (h : OwnI w B v l) : ∃ A c, v = .slice A l.length c ∧ RowC w A (intV l) := by
  obtain ⟨A, c, e, hR, _⟩ := own_rowC h
  exact ⟨A, c, e, hR⟩

def ks1 : St := ⟨0, 1, [⟨1, true, 7⟩], [⟨⟨0, 1⟩, 64, 7, 1⟩]⟩
theorem kn_add : addW (St.new 0) 64 7 = (⟨0, 1⟩, 0, ks1) := by rfl
theorem kn_where : whereW ks1 ⟨0, 1⟩ = (1, 1, 0) := by decide
def ks2 : St := ⟨63, 1, [⟨1, true, 7⟩], [⟨⟨0, 1⟩, 64, 7, 1⟩]⟩
theorem kn_adv1 : advW ks1 63 = ([], ks2) := by
  have e : goesTo ks1 63 = 63 := by decide
  unfold advW
  rw [e]
  simp [ks1, ks2, dueL, restL, takeP]
theorem kn_adv2 : (advW ks2 64).1 = [7] ∧ (advW ks2 64).2.L = [] := by
  have e : goesTo ks2 64 = 64 := by decide
  unfold advW
  rw [e]
  simp [ks2, dueL, restL]
set_option maxRecDepth 100000 in
set_option maxHeartbeats 4000000 in
theorem known6_any (w : World) : Calls Try.prog 10 #[] w fun e w' => e = .returned (.bool true) ∧ Sm No w w' := by
  go_enter Try.func10, Try.ntmps10
  go_wp2_with fail
  refine (new6 (w := w) (K := No) 0 (by omega) (Sm.refl _ _) (fun _ h => h.elim)).mono ?_
  rintro e w1 ⟨r, rfl, hO, _⟩
  have H1 := Lib.hid hO
  clear hO
  go_wp2_with fail
  have hadd := add6 64 7 H1.out (by decide)
  rw [kn_add] at hadd
  unfold hv at hadd
  refine hadd.mono ?_
  rintro e w2 ⟨rfl, hO, _⟩
  have H2 := Lib.hid hO
  clear hO hadd
  go_wp2_with fail
  have hwh := where6 ⟨0, 1⟩ (H2.out.no ((Sm.refl No w2).alloc (.cells #[.int .i64 0, .int .i64 1] 29))) ⟨by decide, by decide⟩
  rw [kn_where] at hwh
  unfold hv whereV at hwh
  refine hwh.mono ?_
  rintro e w3 ⟨rfl, hs3⟩
  have H3 := Lib.hid ((H2.out.no ((Sm.refl No w2).alloc (.cells #[.int .i64 0, .int .i64 1] 29))).no hs3)
  clear hs3 hwh
  go_wp2_with fail
  have hadv := adv6 63 H3.out (by decide)
  rw [kn_adv1] at hadv
  refine hadv.mono ?_
  rintro e w4 ⟨v4, rfl, hI4, hO, _⟩
  obtain ⟨A4, c4, rfl, _⟩ := hI4.row
  have H4 := Lib.hid hO
  clear hO hadv hI4
  go_wp2_with fail
  have hadv := adv6 64 H4.out (by decide)
  rw [kn_adv2.1] at hadv
  refine hadv.mono ?_
  rintro e w5 ⟨v5, rfl, hI5, hO, _⟩
  obtain ⟨A5, c5, rfl, hR5⟩ := hI5.row
  have hR6 := rowC_of_bk (Bk.new w5 3 #[.int .i64 7])
  have hL := len6 (hO.no ((Sm.refl No w5).alloc (.cells #[.int .i64 7] 3)))
  rw [kn_adv2.2] at hL
  have H5 := Lib.hid (And.intro hO (And.intro (hR5.no ((Sm.refl No w5).alloc (.cells #[.int .i64 7] 3))) hR6))
  clear hO hadv hI5 hR5 hR6 hL
  go_wp2_with fail
  refine (ints6_any _ A5 (some ⟨w5.heap.size, 0, none⟩) c5 1 [7] H5.out.2.1 H5.out.2.2 (by decide)).mono ?_
  rintro e w6 ⟨rfl, hs6⟩
  have H6 := Lib.hid ((H5.out.1.no ((Sm.refl No w5).alloc (.cells #[.int .i64 7] 3))).no hs6)
  clear hs6
  go_wp2_with fail
  have hL := len6 H6.out
  rw [kn_adv2.2] at hL
  refine hL.mono ?_
  rintro e w7 ⟨rfl, rfl⟩
  clear hL
  go_wp2_with fail
  go_ret
  exact ⟨rfl, H6.out.sm⟩
end Go.Proofs.Ytgmgjkafdkgalaa
