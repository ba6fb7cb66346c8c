/- The law of a Gate that has stopped: its body. -/
import Derived.Test.YtkgafpmblmobeaaGateJ
import Derived.Test.YtkgafpmblmobeaaGateL
namespace Go.Proofs.Ytkgafpmblmobeaa
open Go.RowKit Go.Proofs Go.Maps

def stopsC (re ev : Bool) : Cfg := ⟨3, 3, 1, 0, 1, 1, 1, 1, 1, 0, 0, 3, 10, re, ev, none, 0, 0⟩
theorem stopsC_ok (re ev : Bool) : (stopsC re ev).ok = true := by simp [Cfg.ok, stopsC, allW]

def StopRel (w : World) (g m kk : Nat) (re ev : Bool) (i : Value) (wr : World) : Prop :=
  ∃ (k : Nat) (f : Int → Int), k ≤ kk ∧ i = .int .i64 k ∧ IsGate wr g m k (stopsC re ev) f ⟨k, 0, 0, 0, false⟩ ∧ f 9 = k ∧ (∀ p, f p ≤ 1000000) ∧ Sm No w wr

theorem fits_stop {re ev : Bool} {f : Int → Int} {k : Nat} (hk : k < 3) (hf : f 9 = k) : fitsB (stopsC re ev) f 9 ⟨k, 0, 0, 0, false⟩ = true := by
  have h1 : ¬ (3 ≤ (k : Int)) := by omega
  have h2 : (k : Int) < 3 := by omega
  simp [fitsB, fullB, stopsC, hf, h1, h2]

theorem left_one {c : Cfg} {s : GS} {w : World} {g m n : Nat} {f : Int → Int} {b : Nat} {p : Int} (hG : IsGate w g m n c f s) (hn : n ≤ 1000000) (hc : w.cell? ⟨b, 0, none⟩ = some (.int .i64 p)) (hp : (Lit.int .i64 p).wf = true)
    (hbg : b ≠ g) (hbm : b ≠ m) (hf : ∀ p, f p ≤ 1000000) (ha0 : -1000000 ≤ s.all) (ha1 : s.all ≤ 1000000) (hpos : 0 < f p) :
    Calls Try.prog 16 #[.pointer (some ⟨g, 0, none⟩), .slice (some ⟨b, 0, none⟩) 1 1] w fun e w' => e = .returned (.int .i64 1) ∧ Sm (fun x => x = g ∨ x = m) w w' := by
  have e : left [p] f = (upd f p (f p - 1), 1) := by simp [left, leftStep, hpos]
  refine (left_any c s w g m n f b 1 [p] hG hn (by simp) (fun j hj => ?_) (by simpa using hp) hbg hbm hf ha0 ha1).mono fun e' w' h => ⟨?_, h.2.2⟩
  · obtain rfl : j = 0 := by simpa using hj
    exact hc
  · rw [h.1, e]; rfl

set_option maxRecDepth 100000 in
set_option maxHeartbeats 4000000 in
theorem stops_in (kk : Nat) (re ev : Bool) (now : Int) (h : kk ≤ 3) (w : World) :
    Calls Try.prog 7 #[.int .i64 kk, .bool re, .bool ev, .int .i64 now] w fun e w' => e = .returned (.bool true) ∧ Sm No w w' := by
  go_enter Try.func7, Try.ntmps7
  go_wp2_with fail
  refine (plain_lit _).mono ?_
  rintro e w1 ⟨rfl, hs1⟩
  go_wp2_with (first
    | (refine wpList_store_new rfl 25 _ _ rfl 16 infoCfg _ rfl _ rfl rfl rfl rfl rfl ?_)
    | (refine wpList_load_bk rfl 25 _ rfl Try.underlying25 16 infoCfg _ rfl _ (Bk.new _ _ _) rfl ?_))
  refine (new_ok (stopsC re ev) _ (stopsC_ok re ev)).mono ?_
  rintro e w2 ⟨g, m, hg, hm, rfl, hG, hs2⟩
  go_wp2_with fail
  have hs3 : Sm No w w2 := (hs1.alloc _).trans hs2 (fun _ _ h => h)
  have hg0 : w.heap.size ≤ g := Nat.le_trans (Nat.le_trans hs1.size (by simp)) hg
  have hm0 : w.heap.size ≤ m := Nat.le_trans (Nat.le_trans hs1.size (by simp)) hm
  clear hs1 hs2 hg hm
  go_loopw [12] (fun i wr => StopRel w g m kk re ev i wr) (fun i _ => kk - (intOf i).toNat)
  case atStart => exact ⟨0, _, by omega, rfl, hG, rfl, fun _ => (by omega : (0 : Int) ≤ 1000000), hs3⟩
  case round =>
    obtain ⟨k, f, hk, rfl, hG1, hf, hle, hs4⟩ := hrel
    clear hG hs3
    have HF := Lib.hid hf
    have HLE := Lib.hid hle
    clear hf hle
    by_cases hlt : k < kk
    · have HT := Lib.hid (fits_stop (re := re) (ev := ev) (by omega : k < 3) HF.out)
      go_wp2_with fail
      refine (took_keep _ ⟨k, 0, 0, 0, false⟩ _ g m k f 9 hG1 (by decide) (by omega) (by rw [HF.out]; omega) (by rw [HF.out]; omega) (by show (0 : Int) ≤ k; omega) (by show (k : Int) ≤ 1000000; omega) HT.out).mono ?_
      rintro e w' ⟨rfl, hG3, hs6⟩
      have hs7 : Sm No w w' := hs4.trans hs6 (fun b hb h => by rcases h with h | h <;> subst h <;> omega)
      go_wp2_with fail
      refine ⟨⟨k + 1, _, by omega, by go_num, hG3, by simp [upd, HF.out], fun p => ?_, hs7⟩, by simp [intOf]; omega⟩
      have := HLE.out p
      unfold upd
      split
      · rw [HF.out]; omega
      · exact this
    · obtain rfl : kk = k := by omega
      clear hlt hk
      by_cases h3 : kk < 3
      · have HT := Lib.hid (fits_stop (re := re) (ev := ev) h3 HF.out)
        by_cases hnow : 0 ≤ now
        · have HM : Hid (mayB (stopsC re ev) now ⟨(kk : Int), 0, 0, 0, false⟩ = true) := Lib.hid (by simp [mayB, fullB, stopsC, show ¬ (3 ≤ (kk : Int)) from by omega, hnow])
          go_wp2_with fail
          refine (may_say HM _ g m hG1.blk).mono ?_
          rintro e w3 ⟨rfl, n1, rfl⟩
          go_wp2_with fail
          refine (took_keep _ ⟨(kk : Int), 0, 0, 0, false⟩ _ g m kk f 9 (hG1.drewN _) (by decide) (by omega) (by rw [HF.out]; omega) (by rw [HF.out]; omega) (by show (0 : Int) ≤ kk; omega) (by show (kk : Int) ≤ 1000000; omega) HT.out).mono ?_
          rintro e w3 ⟨rfl, hG3, hs6⟩
          have hs7 : Sm No w w3 := (hs4.drewN _).trans hs6 (fun b hb h => by rcases h with h | h <;> subst h <;> omega)
          go_wp2_with fail
          refine (stop_any _ _ _ g m _ _ hG3).mono ?_
          rintro e w4 ⟨rfl, hG4, hs8⟩
          have hs9 : Sm No w w4 := hs7.trans hs8 (fun b hb h => by subst h; omega)
          go_wp2_with fail
          refine (count_any _ _ _ g m _ _ 9 hG4 (by decide)).mono ?_
          rintro e w5 ⟨rfl, n2, rfl⟩
          go_wp2_with fail
          refine (may_say (r := false) (Lib.hid (by simp [mayB])) _ g m (hG4.drewN _).blk).mono ?_
          rintro e w5 ⟨rfl, n3, rfl⟩
          go_wp2_with fail
          refine (may_say (r := false) (Lib.hid (by simp [mayB])) _ g m (hG4.drewN _).blk).mono ?_
          rintro e w5 ⟨rfl, n4, rfl⟩
          go_wp2_with fail
          have hgl := hG4.blk.lt
          have hml := hG4.map.lt
          refine (left_one ((hG4.drewN _).alloc _) (by omega) ((Bk.newAt _ _ _ rfl).at 0 rfl) (by decide) (by show w4.heap.size ≠ g; omega) (by show w4.heap.size ≠ m; omega) (fun p => upd_le HLE.out (by rw [HF.out]; omega) p) (by show _ ≤ (kk : Int) + 1; omega) (by show (kk : Int) + 1 ≤ _; omega) (by rw [upd_same, HF.out]; omega)).mono ?_
          rintro e w6 ⟨rfl, hs10⟩
          have hs11 : Sm No w w6 := ((hs9.drewN _).alloc _).trans hs10 (fun b hb h => by rcases h with h | h <;> subst h <;> omega)
          go_wp2_with fail
          all_goals
            refine (known_any _).mono ?_
            rintro e w7 ⟨rfl, hs12⟩
            go_wp2_with fail
            go_ret
            exact ⟨rfl, hs11.trans hs12 (fun _ _ h => h)⟩
        · have HM : Hid (mayB (stopsC re ev) now ⟨(kk : Int), 0, 0, 0, false⟩ = false) := Lib.hid (by simp [mayB, fullB, stopsC, show ¬ (3 ≤ (kk : Int)) from by omega, hnow])
          go_wp2_with fail
          refine (may_say HM _ g m hG1.blk).mono ?_
          rintro e w3 ⟨rfl, n1, rfl⟩
          go_wp2_with fail
          refine (took_keep _ ⟨(kk : Int), 0, 0, 0, false⟩ _ g m kk f 9 (hG1.drewN _) (by decide) (by omega) (by rw [HF.out]; omega) (by rw [HF.out]; omega) (by show (0 : Int) ≤ kk; omega) (by show (kk : Int) ≤ 1000000; omega) HT.out).mono ?_
          rintro e w3 ⟨rfl, hG3, hs6⟩
          have hs7 : Sm No w w3 := (hs4.drewN _).trans hs6 (fun b hb h => by rcases h with h | h <;> subst h <;> omega)
          go_wp2_with fail
          refine (stop_any _ _ _ g m _ _ hG3).mono ?_
          rintro e w4 ⟨rfl, hG4, hs8⟩
          have hs9 : Sm No w w4 := hs7.trans hs8 (fun b hb h => by subst h; omega)
          go_wp2_with fail
          refine (count_any _ _ _ g m _ _ 9 hG4 (by decide)).mono ?_
          rintro e w5 ⟨rfl, n2, rfl⟩
          go_wp2_with fail
          refine (may_say (r := false) (Lib.hid (by simp [mayB])) _ g m (hG4.drewN _).blk).mono ?_
          rintro e w5 ⟨rfl, n3, rfl⟩
          go_wp2_with fail
          refine (may_say (r := false) (Lib.hid (by simp [mayB])) _ g m (hG4.drewN _).blk).mono ?_
          rintro e w5 ⟨rfl, n4, rfl⟩
          go_wp2_with fail
          have hgl := hG4.blk.lt
          have hml := hG4.map.lt
          refine (left_one ((hG4.drewN _).alloc _) (by omega) ((Bk.newAt _ _ _ rfl).at 0 rfl) (by decide) (by show w4.heap.size ≠ g; omega) (by show w4.heap.size ≠ m; omega) (fun p => upd_le HLE.out (by rw [HF.out]; omega) p) (by show _ ≤ (kk : Int) + 1; omega) (by show (kk : Int) + 1 ≤ _; omega) (by rw [upd_same, HF.out]; omega)).mono ?_
          rintro e w6 ⟨rfl, hs10⟩
          have hs11 : Sm No w w6 := ((hs9.drewN _).alloc _).trans hs10 (fun b hb h => by rcases h with h | h <;> subst h <;> omega)
          go_wp2_with fail
          all_goals
            refine (known_any _).mono ?_
            rintro e w7 ⟨rfl, hs12⟩
            go_wp2_with fail
            go_ret
            exact ⟨rfl, hs11.trans hs12 (fun _ _ h => h)⟩
      · obtain rfl : kk = 3 := by omega
        cases re
        · have HT : Hid (fitsB (stopsC false ev) f 9 ⟨((3 : Nat) : Int), 0, 0, 0, false⟩ = false) := Lib.hid (by simp [fitsB, fullB, stopsC])
          cases ev
          · by_cases hnow : 0 ≤ now
            · have HM : Hid (mayB (stopsC false false) now ⟨((3 : Nat) : Int), 0, 0, 0, false⟩ = false) := Lib.hid (by simp [mayB, fullB, stopsC, hnow])
              go_wp2_with fail
              refine (may_say HM _ g m hG1.blk).mono ?_
              rintro e w3 ⟨rfl, n1, rfl⟩
              go_wp2_with fail
              refine (took_not _ ⟨((3 : Nat) : Int), 0, 0, 0, false⟩ _ g m 3 f 9 (hG1.drewN _) (by decide) HT.out).mono ?_
              rintro e w3 ⟨rfl, hG3, hs6⟩
              have hs7 : Sm No w w3 := (hs4.drewN _).trans hs6 (fun b hb h => by rcases h with h | h <;> subst h <;> omega)
              go_wp2_with fail
              refine (stop_any _ _ _ g m _ _ hG3).mono ?_
              rintro e w4 ⟨rfl, hG4, hs8⟩
              have hs9 : Sm No w w4 := hs7.trans hs8 (fun b hb h => by subst h; omega)
              go_wp2_with fail
              refine (count_any _ _ _ g m _ _ 9 hG4 (by decide)).mono ?_
              rintro e w5 ⟨rfl, n2, rfl⟩
              go_wp2_with fail
              refine (may_say (r := false) (Lib.hid (by simp [mayB])) _ g m (hG4.drewN _).blk).mono ?_
              rintro e w5 ⟨rfl, n3, rfl⟩
              go_wp2_with fail
              refine (may_say (r := false) (Lib.hid (by simp [mayB])) _ g m (hG4.drewN _).blk).mono ?_
              rintro e w5 ⟨rfl, n4, rfl⟩
              go_wp2_with fail
              have hgl := hG4.blk.lt
              have hml := hG4.map.lt
              refine (left_one ((hG4.drewN _).alloc _) (by omega) ((Bk.newAt _ _ _ rfl).at 0 rfl) (by decide) (by show w4.heap.size ≠ g; omega) (by show w4.heap.size ≠ m; omega) HLE.out (by decide) (by decide) (by rw [HF.out]; decide)).mono ?_
              rintro e w6 ⟨rfl, hs10⟩
              have hs11 : Sm No w w6 := ((hs9.drewN _).alloc _).trans hs10 (fun b hb h => by rcases h with h | h <;> subst h <;> omega)
              go_wp2_with fail
              all_goals
                refine (known_any _).mono ?_
                rintro e w7 ⟨rfl, hs12⟩
                go_wp2_with fail
                go_ret
                exact ⟨rfl, hs11.trans hs12 (fun _ _ h => h)⟩
            · have HM : Hid (mayB (stopsC false false) now ⟨((3 : Nat) : Int), 0, 0, 0, false⟩ = false) := Lib.hid (by simp [mayB, fullB, stopsC, hnow])
              go_wp2_with fail
              refine (may_say HM _ g m hG1.blk).mono ?_
              rintro e w3 ⟨rfl, n1, rfl⟩
              go_wp2_with fail
              refine (took_not _ ⟨((3 : Nat) : Int), 0, 0, 0, false⟩ _ g m 3 f 9 (hG1.drewN _) (by decide) HT.out).mono ?_
              rintro e w3 ⟨rfl, hG3, hs6⟩
              have hs7 : Sm No w w3 := (hs4.drewN _).trans hs6 (fun b hb h => by rcases h with h | h <;> subst h <;> omega)
              go_wp2_with fail
              refine (stop_any _ _ _ g m _ _ hG3).mono ?_
              rintro e w4 ⟨rfl, hG4, hs8⟩
              have hs9 : Sm No w w4 := hs7.trans hs8 (fun b hb h => by subst h; omega)
              go_wp2_with fail
              refine (count_any _ _ _ g m _ _ 9 hG4 (by decide)).mono ?_
              rintro e w5 ⟨rfl, n2, rfl⟩
              go_wp2_with fail
              refine (may_say (r := false) (Lib.hid (by simp [mayB])) _ g m (hG4.drewN _).blk).mono ?_
              rintro e w5 ⟨rfl, n3, rfl⟩
              go_wp2_with fail
              refine (may_say (r := false) (Lib.hid (by simp [mayB])) _ g m (hG4.drewN _).blk).mono ?_
              rintro e w5 ⟨rfl, n4, rfl⟩
              go_wp2_with fail
              have hgl := hG4.blk.lt
              have hml := hG4.map.lt
              refine (left_one ((hG4.drewN _).alloc _) (by omega) ((Bk.newAt _ _ _ rfl).at 0 rfl) (by decide) (by show w4.heap.size ≠ g; omega) (by show w4.heap.size ≠ m; omega) HLE.out (by decide) (by decide) (by rw [HF.out]; decide)).mono ?_
              rintro e w6 ⟨rfl, hs10⟩
              have hs11 : Sm No w w6 := ((hs9.drewN _).alloc _).trans hs10 (fun b hb h => by rcases h with h | h <;> subst h <;> omega)
              go_wp2_with fail
              all_goals
                refine (known_any _).mono ?_
                rintro e w7 ⟨rfl, hs12⟩
                go_wp2_with fail
                go_ret
                exact ⟨rfl, hs11.trans hs12 (fun _ _ h => h)⟩
          · by_cases hnow : 0 ≤ now
            · have HM : Hid (mayB (stopsC false true) now ⟨((3 : Nat) : Int), 0, 0, 0, false⟩ = true) := Lib.hid (by simp [mayB, fullB, stopsC, hnow])
              go_wp2_with fail
              refine (may_say HM _ g m hG1.blk).mono ?_
              rintro e w3 ⟨rfl, n1, rfl⟩
              go_wp2_with fail
              refine (took_not _ ⟨((3 : Nat) : Int), 0, 0, 0, false⟩ _ g m 3 f 9 (hG1.drewN _) (by decide) HT.out).mono ?_
              rintro e w3 ⟨rfl, hG3, hs6⟩
              have hs7 : Sm No w w3 := (hs4.drewN _).trans hs6 (fun b hb h => by rcases h with h | h <;> subst h <;> omega)
              go_wp2_with fail
              refine (stop_any _ _ _ g m _ _ hG3).mono ?_
              rintro e w4 ⟨rfl, hG4, hs8⟩
              have hs9 : Sm No w w4 := hs7.trans hs8 (fun b hb h => by subst h; omega)
              go_wp2_with fail
              refine (count_any _ _ _ g m _ _ 9 hG4 (by decide)).mono ?_
              rintro e w5 ⟨rfl, n2, rfl⟩
              go_wp2_with fail
              refine (may_say (r := false) (Lib.hid (by simp [mayB])) _ g m (hG4.drewN _).blk).mono ?_
              rintro e w5 ⟨rfl, n3, rfl⟩
              go_wp2_with fail
              refine (may_say (r := false) (Lib.hid (by simp [mayB])) _ g m (hG4.drewN _).blk).mono ?_
              rintro e w5 ⟨rfl, n4, rfl⟩
              go_wp2_with fail
              have hgl := hG4.blk.lt
              have hml := hG4.map.lt
              refine (left_one ((hG4.drewN _).alloc _) (by omega) ((Bk.newAt _ _ _ rfl).at 0 rfl) (by decide) (by show w4.heap.size ≠ g; omega) (by show w4.heap.size ≠ m; omega) HLE.out (by decide) (by decide) (by rw [HF.out]; decide)).mono ?_
              rintro e w6 ⟨rfl, hs10⟩
              have hs11 : Sm No w w6 := ((hs9.drewN _).alloc _).trans hs10 (fun b hb h => by rcases h with h | h <;> subst h <;> omega)
              go_wp2_with fail
              all_goals
                refine (known_any _).mono ?_
                rintro e w7 ⟨rfl, hs12⟩
                go_wp2_with fail
                go_ret
                exact ⟨rfl, hs11.trans hs12 (fun _ _ h => h)⟩
            · have HM : Hid (mayB (stopsC false true) now ⟨((3 : Nat) : Int), 0, 0, 0, false⟩ = false) := Lib.hid (by simp [mayB, fullB, stopsC, hnow])
              go_wp2_with fail
              refine (may_say HM _ g m hG1.blk).mono ?_
              rintro e w3 ⟨rfl, n1, rfl⟩
              go_wp2_with fail
              refine (took_not _ ⟨((3 : Nat) : Int), 0, 0, 0, false⟩ _ g m 3 f 9 (hG1.drewN _) (by decide) HT.out).mono ?_
              rintro e w3 ⟨rfl, hG3, hs6⟩
              have hs7 : Sm No w w3 := (hs4.drewN _).trans hs6 (fun b hb h => by rcases h with h | h <;> subst h <;> omega)
              go_wp2_with fail
              refine (stop_any _ _ _ g m _ _ hG3).mono ?_
              rintro e w4 ⟨rfl, hG4, hs8⟩
              have hs9 : Sm No w w4 := hs7.trans hs8 (fun b hb h => by subst h; omega)
              go_wp2_with fail
              refine (count_any _ _ _ g m _ _ 9 hG4 (by decide)).mono ?_
              rintro e w5 ⟨rfl, n2, rfl⟩
              go_wp2_with fail
              refine (may_say (r := false) (Lib.hid (by simp [mayB])) _ g m (hG4.drewN _).blk).mono ?_
              rintro e w5 ⟨rfl, n3, rfl⟩
              go_wp2_with fail
              refine (may_say (r := false) (Lib.hid (by simp [mayB])) _ g m (hG4.drewN _).blk).mono ?_
              rintro e w5 ⟨rfl, n4, rfl⟩
              go_wp2_with fail
              have hgl := hG4.blk.lt
              have hml := hG4.map.lt
              refine (left_one ((hG4.drewN _).alloc _) (by omega) ((Bk.newAt _ _ _ rfl).at 0 rfl) (by decide) (by show w4.heap.size ≠ g; omega) (by show w4.heap.size ≠ m; omega) HLE.out (by decide) (by decide) (by rw [HF.out]; decide)).mono ?_
              rintro e w6 ⟨rfl, hs10⟩
              have hs11 : Sm No w w6 := ((hs9.drewN _).alloc _).trans hs10 (fun b hb h => by rcases h with h | h <;> subst h <;> omega)
              go_wp2_with fail
              all_goals
                refine (known_any _).mono ?_
                rintro e w7 ⟨rfl, hs12⟩
                go_wp2_with fail
                go_ret
                exact ⟨rfl, hs11.trans hs12 (fun _ _ h => h)⟩
        · have HT : Hid (fitsB (stopsC true ev) f 9 ⟨((3 : Nat) : Int), 0, 0, 0, false⟩ = false) := Lib.hid (by simp [fitsB, fullB, stopsC])
          by_cases hnow : 0 ≤ now
          · have HM : Hid (mayB (stopsC true ev) now ⟨((3 : Nat) : Int), 0, 0, 0, false⟩ = true) := Lib.hid (by simp [mayB, fullB, stopsC, hnow])
            go_wp2_with fail
            refine (may_say HM _ g m hG1.blk).mono ?_
            rintro e w3 ⟨rfl, n1, rfl⟩
            go_wp2_with fail
            refine (took_not _ ⟨((3 : Nat) : Int), 0, 0, 0, false⟩ _ g m 3 f 9 (hG1.drewN _) (by decide) HT.out).mono ?_
            rintro e w3 ⟨rfl, hG3, hs6⟩
            have hs7 : Sm No w w3 := (hs4.drewN _).trans hs6 (fun b hb h => by rcases h with h | h <;> subst h <;> omega)
            go_wp2_with fail
            refine (stop_any _ _ _ g m _ _ hG3).mono ?_
            rintro e w4 ⟨rfl, hG4, hs8⟩
            have hs9 : Sm No w w4 := hs7.trans hs8 (fun b hb h => by subst h; omega)
            go_wp2_with fail
            refine (count_any _ _ _ g m _ _ 9 hG4 (by decide)).mono ?_
            rintro e w5 ⟨rfl, n2, rfl⟩
            go_wp2_with fail
            refine (may_say (r := false) (Lib.hid (by simp [mayB])) _ g m (hG4.drewN _).blk).mono ?_
            rintro e w5 ⟨rfl, n3, rfl⟩
            go_wp2_with fail
            refine (may_say (r := false) (Lib.hid (by simp [mayB])) _ g m (hG4.drewN _).blk).mono ?_
            rintro e w5 ⟨rfl, n4, rfl⟩
            go_wp2_with fail
            have hgl := hG4.blk.lt
            have hml := hG4.map.lt
            refine (left_one ((hG4.drewN _).alloc _) (by omega) ((Bk.newAt _ _ _ rfl).at 0 rfl) (by decide) (by show w4.heap.size ≠ g; omega) (by show w4.heap.size ≠ m; omega) HLE.out (by decide) (by decide) (by rw [HF.out]; decide)).mono ?_
            rintro e w6 ⟨rfl, hs10⟩
            have hs11 : Sm No w w6 := ((hs9.drewN _).alloc _).trans hs10 (fun b hb h => by rcases h with h | h <;> subst h <;> omega)
            go_wp2_with fail
            all_goals
              refine (known_any _).mono ?_
              rintro e w7 ⟨rfl, hs12⟩
              go_wp2_with fail
              go_ret
              exact ⟨rfl, hs11.trans hs12 (fun _ _ h => h)⟩
          · have HM : Hid (mayB (stopsC true ev) now ⟨((3 : Nat) : Int), 0, 0, 0, false⟩ = false) := Lib.hid (by simp [mayB, fullB, stopsC, hnow])
            go_wp2_with fail
            refine (may_say HM _ g m hG1.blk).mono ?_
            rintro e w3 ⟨rfl, n1, rfl⟩
            go_wp2_with fail
            refine (took_not _ ⟨((3 : Nat) : Int), 0, 0, 0, false⟩ _ g m 3 f 9 (hG1.drewN _) (by decide) HT.out).mono ?_
            rintro e w3 ⟨rfl, hG3, hs6⟩
            have hs7 : Sm No w w3 := (hs4.drewN _).trans hs6 (fun b hb h => by rcases h with h | h <;> subst h <;> omega)
            go_wp2_with fail
            refine (stop_any _ _ _ g m _ _ hG3).mono ?_
            rintro e w4 ⟨rfl, hG4, hs8⟩
            have hs9 : Sm No w w4 := hs7.trans hs8 (fun b hb h => by subst h; omega)
            go_wp2_with fail
            refine (count_any _ _ _ g m _ _ 9 hG4 (by decide)).mono ?_
            rintro e w5 ⟨rfl, n2, rfl⟩
            go_wp2_with fail
            refine (may_say (r := false) (Lib.hid (by simp [mayB])) _ g m (hG4.drewN _).blk).mono ?_
            rintro e w5 ⟨rfl, n3, rfl⟩
            go_wp2_with fail
            refine (may_say (r := false) (Lib.hid (by simp [mayB])) _ g m (hG4.drewN _).blk).mono ?_
            rintro e w5 ⟨rfl, n4, rfl⟩
            go_wp2_with fail
            have hgl := hG4.blk.lt
            have hml := hG4.map.lt
            refine (left_one ((hG4.drewN _).alloc _) (by omega) ((Bk.newAt _ _ _ rfl).at 0 rfl) (by decide) (by show w4.heap.size ≠ g; omega) (by show w4.heap.size ≠ m; omega) HLE.out (by decide) (by decide) (by rw [HF.out]; decide)).mono ?_
            rintro e w6 ⟨rfl, hs10⟩
            have hs11 : Sm No w w6 := ((hs9.drewN _).alloc _).trans hs10 (fun b hb h => by rcases h with h | h <;> subst h <;> omega)
            go_wp2_with fail
            all_goals
              refine (known_any _).mono ?_
              rintro e w7 ⟨rfl, hs12⟩
              go_wp2_with fail
              go_ret
              exact ⟨rfl, hs11.trans hs12 (fun _ _ h => h)⟩

set_option maxHeartbeats 1000000 in
theorem stops_out (n : Int) (re ev : Bool) (now : Int) (h : n < 0 ∨ 3 < n) (w : World) :
    Calls Try.prog 7 #[.int .i64 n, .bool re, .bool ev, .int .i64 now] w fun e w' => e = .returned (.bool true) ∧ Sm No w w' := by
  by_cases h1 : n < 0
  case' neg => have h2 : 3 < n := by omega
  all_goals
    clear h
    go_enter Try.func7, Try.ntmps7
    go_wp2_with fail
    refine (known_any _).mono ?_
    rintro e w' ⟨rfl, hs⟩
    go_wp2_with fail
    go_ret
    exact ⟨rfl, hs⟩
theorem stops_any (a0 : Int) (a1 a2 : Bool) (a3 : Int) (_w0 : (Lit.int .i64 a0).wf = true) (_w3 : (Lit.int .i64 a3).wf = true) (w : World) :
    Calls Try.prog 7 #[.int .i64 a0, .bool a1, .bool a2, .int .i64 a3] w fun e w' => e = .returned (.bool true) ∧ Sm No w w' := by
  by_cases h : a0 < 0 ∨ 3 < a0
  · exact stops_out a0 a1 a2 a3 h w
  · obtain ⟨kk, rfl⟩ := Int.eq_ofNat_of_zero_le (show 0 ≤ a0 by omega)
    exact stops_in kk a1 a2 a3 (by omega) w
end Go.Proofs.Ytkgafpmblmobeaa
