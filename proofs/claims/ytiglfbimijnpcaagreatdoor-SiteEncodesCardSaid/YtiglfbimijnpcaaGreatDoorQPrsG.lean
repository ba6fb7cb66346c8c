/- The document's targets: the walk of Parse. (Printed by genPrsG.py.) -/
import Derived.Test.YtiglfbimijnpcaaGreatDoorQP
import Derived.Test.YtiglfbimijnpcaaGreatDoorQK
namespace Go.Proofs.YtiglfbimijnpcaaGreatDoor
open Go.RowKit Go.Proofs

theorem Bk.all {w : World} {g : Nat} {t : TypeId} {cs : Array Value} (h : Bk w g t cs) (i : Nat) : w.cell? ⟨g, i, none⟩ = cs[i]? := cell_of_row w g i cs t (0, 0) h
set_option maxRecDepth 100000 in
set_option maxHeartbeats 4000000 in
theorem tgt_long (m s : ByteArray) (hs : 200 < s.size) (w : World) : Calls Tryz.prog 159 #[.string m, .string s] w (TgPost (none) 9 w) := by
  have i1 : (200 : Int) < (s.size : Int) := by omega
  go_enter Tryz.func159, Tryz.ntmps159
  go_wp2_with fail
  exact bodyPost_ret (v := .tuple #[.agg #[.int .i64 0, .string ⟨#[]⟩, .string ⟨#[]⟩, .string ⟨#[]⟩], .int .i64 9]) (by simp [results, Tryz.results159, go_sem]) rfl ⟨(Sm.refl No w).alloc _, by exact rfl⟩
set_option maxRecDepth 100000 in
set_option maxHeartbeats 4000000 in
theorem tgt_con0 (m s : ByteArray) (hs : s.size ≤ 200) (hm : m.toList = [67, 79, 78, 78, 69, 67, 84]) (HH : Hid (hostL (txt s) = false)) (w : World) : Calls Tryz.prog 159 #[.string m, .string s] w (TgPost (none) 8 w) := by
  have i1 : ¬ (200 : Int) < (s.size : Int) := by omega
  go_enter Tryz.func159, Tryz.ntmps159
  go_wp2_with fail
  refine (host_say HH (by omega) _).mono ?_
  rintro e w2 ⟨rfl, rfl⟩
  go_wp2_with fail
  exact bodyPost_ret (v := .tuple #[.agg #[.int .i64 0, .string ⟨#[]⟩, .string ⟨#[]⟩, .string ⟨#[]⟩], .int .i64 8]) (by simp [results, Tryz.results159, go_sem]) rfl ⟨(Sm.refl No w).alloc _, by exact rfl⟩
set_option maxRecDepth 100000 in
set_option maxHeartbeats 4000000 in
theorem tgt_con1 (m s : ByteArray) (hs : s.size ≤ 200) (hm : m.toList = [67, 79, 78, 78, 69, 67, 84]) (HH : Hid (hostL (txt s) = true)) (HI : Hid (inL 58 s.data.toList = false)) (w : World) : Calls Tryz.prog 159 #[.string m, .string s] w (TgPost (none) 8 w) := by
  have i1 : ¬ (200 : Int) < (s.size : Int) := by omega
  go_enter Tryz.func159, Tryz.ntmps159
  go_wp2_with fail
  refine (host_say HH (by omega) _).mono ?_
  rintro e w2 ⟨rfl, rfl⟩
  go_wp2_with fail
  refine (in_say HI (by omega) _).mono ?_
  rintro e w2 ⟨rfl, rfl⟩
  go_wp2_with fail
  exact bodyPost_ret (v := .tuple #[.agg #[.int .i64 0, .string ⟨#[]⟩, .string ⟨#[]⟩, .string ⟨#[]⟩], .int .i64 8]) (by simp [results, Tryz.results159, go_sem]) rfl ⟨(Sm.refl No w).alloc _, by exact rfl⟩
set_option maxRecDepth 100000 in
set_option maxHeartbeats 4000000 in
theorem tgt_con2 (m s : ByteArray) (hs : s.size ≤ 200) (hm : m.toList = [67, 79, 78, 78, 69, 67, 84]) (HH : Hid (hostL (txt s) = true)) (HI : Hid (inL 58 s.data.toList = true)) (w : World) : Calls Tryz.prog 159 #[.string m, .string s] w (TgPost (some ⟨3, lowL (txt s), [], []⟩) 8 w) := by
  obtain ⟨lB, hlB⟩ : ∃ lB : ByteArray, (⟨(lowL s.data.toList).toArray⟩ : ByteArray) = lB := ⟨_, rfl⟩
  have HLB := Lib.hid hlB
  clear hlB
  have i1 : ¬ (200 : Int) < (s.size : Int) := by omega
  go_enter Tryz.func159, Tryz.ntmps159
  go_wp2_with fail
  obtain ⟨b0, hb0⟩ : ∃ b0, w.heap.size = b0 := ⟨_, rfl⟩
  obtain ⟨w1, hw1⟩ : ∃ w1, w.alloc (.cells #[.int .i64 0, .string ⟨#[]⟩, .string ⟨#[]⟩, .string ⟨#[]⟩] 26) = w1 := ⟨_, rfl⟩
  have hs1 : Sm No w w1 := by rw [← hw1]; exact (Sm.refl No w).alloc _
  have hb1 : Bk w1 b0 26 #[.int .i64 0, .string ⟨#[]⟩, .string ⟨#[]⟩, .string ⟨#[]⟩] := by rw [← hw1, ← hb0]; exact Bk.new w _ _
  rw [hw1, hb0]
  have H1 := Lib.hid (And.intro hs1 (And.intro hb1 hb0))
  clear hs1 hb1 hw1 hb0
  refine (host_say HH (by omega) _).mono ?_
  rintro e w2 ⟨rfl, rfl⟩
  go_wp2_with fail
  refine (in_say HI (by omega) _).mono ?_
  rintro e w2 ⟨rfl, rfl⟩
  go_wp2_with fail
  refine (rLower_say HLB (by omega) _).mono ?_
  rintro e w3 ⟨rfl, hs3⟩
  have HS3 := Lib.hid (H1.out.1.trans hs3 (fun _ _ h => h))
  have HB3 := Lib.hid (H1.out.2.1.sm hs3 (fun h => h))
  clear hs3
  have hl := (HB3.out).lt
  have hc := (HB3.out).all
  have hf := (HB3.out).fz
  go_wp2_with fail
  have HT := Lib.hid (tg_set (p := .int .i64 3) (q := .string lB) (r := .string ⟨#[]⟩) (x := .string ⟨#[]⟩) (HS3.out) (HB3.out) (Nat.le_of_eq H1.out.2.2))
  have hc := HT.out.2.all
  exact bodyPost_ret (v := .tuple #[.agg #[.int .i64 3, .string lB, .string ⟨#[]⟩, .string ⟨#[]⟩], .int .i64 0]) (by simp [results, Tryz.results159, go_sem, hc]) rfl ⟨HT.out.1, by
    show _ = Ending.returned (.tuple #[.agg #[.int .i64 3, .string ⟨(lowL (txt s)).toArray⟩, .string ⟨#[]⟩, .string ⟨#[]⟩], .int .i64 0])
    rw [show (⟨(lowL (txt s)).toArray⟩ : ByteArray) = lB from HLB.out]⟩
set_option maxRecDepth 100000 in
set_option maxHeartbeats 4000000 in
theorem tgt_star (m s : ByteArray) (hs : s.size ≤ 200) (hm : m.toList = [79, 80, 84, 73, 79, 78, 83]) (h : s.toList = [42]) (w : World) : Calls Tryz.prog 159 #[.string m, .string s] w (TgPost (some ⟨4, [], [], []⟩) 8 w) := by
  have i1 : ¬ (200 : Int) < (s.size : Int) := by omega
  go_enter Tryz.func159, Tryz.ntmps159
  go_wp2_with fail
  exact bodyPost_ret (v := .tuple #[.agg #[.int .i64 4, .string ⟨#[]⟩, .string ⟨#[]⟩, .string ⟨#[]⟩], .int .i64 0]) (by simp [results, Tryz.results159, go_sem]) rfl ⟨(Sm.refl No w).alloc _, by exact rfl⟩
set_option maxRecDepth 100000 in
set_option maxHeartbeats 4000000 in
theorem tgt_org0a (m s : ByteArray) (hs : s.size ≤ 200) (hm : m.toList = [79, 80, 84, 73, 79, 78, 83]) (h : ¬ s.toList = [42]) (h0 : 0 < s.size) (hq : s[0] = 47) (HO : Hid (orgL (txt s) = none)) (w : World) : Calls Tryz.prog 159 #[.string m, .string s] w (TgPost (none) 8 w) := by
  have i1 : ¬ (200 : Int) < (s.size : Int) := by omega
  have hst : (s.toList == [42]) = false := by simpa using h
  have i2 : (0 : Int) < (s.size : Int) := by omega
  have e1 : ((s[0].toNat : Int) == 47) = true := by rw [hq]; rfl
  clear hq
  go_enter Tryz.func159, Tryz.ntmps159
  go_wp2_with fail
  obtain ⟨b0, hb0⟩ : ∃ b0, w.heap.size = b0 := ⟨_, rfl⟩
  obtain ⟨w1, hw1⟩ : ∃ w1, w.alloc (.cells #[.int .i64 0, .string ⟨#[]⟩, .string ⟨#[]⟩, .string ⟨#[]⟩] 26) = w1 := ⟨_, rfl⟩
  have hs1 : Sm No w w1 := by rw [← hw1]; exact (Sm.refl No w).alloc _
  have hb1 : Bk w1 b0 26 #[.int .i64 0, .string ⟨#[]⟩, .string ⟨#[]⟩, .string ⟨#[]⟩] := by rw [← hw1, ← hb0]; exact Bk.new w _ _
  rw [hw1, hb0]
  have H1 := Lib.hid (And.intro hs1 (And.intro hb1 hb0))
  clear hs1 hb1 hw1 hb0
  have HOg := rOrigin_any s (by omega) w1
  unfold OrgPost at HOg
  rw [HO.out] at HOg
  refine HOg.mono ?_
  rintro e w3 ⟨hs3, pB, qB, rfl⟩
  have HS3 := Lib.hid (H1.out.1.trans hs3 (fun _ _ h => h))
  have HB3 := Lib.hid (H1.out.2.1.sm hs3 (fun h => h))
  clear hs3 HOg
  have hl := (HB3.out).lt
  have hc := (HB3.out).all
  have hf := (HB3.out).fz
  go_wp2_with fail
  have HT := Lib.hid (tg_set (p := .int .i64 0) (q := .string ⟨#[]⟩) (r := .string ⟨#[]⟩) (x := .string ⟨#[]⟩) (HS3.out) (HB3.out) (Nat.le_of_eq H1.out.2.2))
  have hc := HT.out.2.all
  exact bodyPost_ret (v := .tuple #[.agg #[.int .i64 0, .string ⟨#[]⟩, .string ⟨#[]⟩, .string ⟨#[]⟩], .int .i64 8]) (by simp [results, Tryz.results159, go_sem, hc]) rfl ⟨HT.out.1, by exact rfl⟩
set_option maxRecDepth 100000 in
set_option maxHeartbeats 4000000 in
theorem tgt_org1a (m s : ByteArray) (hs : s.size ≤ 200) (hm : m.toList = [79, 80, 84, 73, 79, 78, 83]) (h : ¬ s.toList = [42]) (h0 : 0 < s.size) (hq : s[0] = 47) (p q : Txt) (HO : Hid (orgL (txt s) = some (p, q))) (w : World) : Calls Tryz.prog 159 #[.string m, .string s] w (TgPost (some ⟨1, [], p, q⟩) 8 w) := by
  have i1 : ¬ (200 : Int) < (s.size : Int) := by omega
  have hst : (s.toList == [42]) = false := by simpa using h
  have i2 : (0 : Int) < (s.size : Int) := by omega
  have e1 : ((s[0].toNat : Int) == 47) = true := by rw [hq]; rfl
  clear hq
  obtain ⟨pB, hpB⟩ : ∃ pB : ByteArray, (⟨p.toArray⟩ : ByteArray) = pB := ⟨_, rfl⟩
  obtain ⟨qB, hqB⟩ : ∃ qB : ByteArray, (⟨q.toArray⟩ : ByteArray) = qB := ⟨_, rfl⟩
  have HPQ := Lib.hid (And.intro hpB hqB)
  go_enter Tryz.func159, Tryz.ntmps159
  go_wp2_with fail
  obtain ⟨b0, hb0⟩ : ∃ b0, w.heap.size = b0 := ⟨_, rfl⟩
  obtain ⟨w1, hw1⟩ : ∃ w1, w.alloc (.cells #[.int .i64 0, .string ⟨#[]⟩, .string ⟨#[]⟩, .string ⟨#[]⟩] 26) = w1 := ⟨_, rfl⟩
  have hs1 : Sm No w w1 := by rw [← hw1]; exact (Sm.refl No w).alloc _
  have hb1 : Bk w1 b0 26 #[.int .i64 0, .string ⟨#[]⟩, .string ⟨#[]⟩, .string ⟨#[]⟩] := by rw [← hw1, ← hb0]; exact Bk.new w _ _
  rw [hw1, hb0]
  have H1 := Lib.hid (And.intro hs1 (And.intro hb1 hb0))
  clear hs1 hb1 hw1 hb0
  have HOg := rOrigin_any s (by omega) w1
  unfold OrgPost at HOg
  rw [HO.out] at HOg
  refine HOg.mono ?_
  dsimp only
  rw [hpB, hqB]
  rintro e w3 ⟨hs3, rfl⟩
  clear hpB hqB
  have HS3 := Lib.hid (H1.out.1.trans hs3 (fun _ _ h => h))
  have HB3 := Lib.hid (H1.out.2.1.sm hs3 (fun h => h))
  clear hs3 HOg
  have hl := (HB3.out).lt
  have hc := (HB3.out).all
  have hf := (HB3.out).fz
  go_wp2_with fail
  have HT := Lib.hid (tg_set (p := .int .i64 1) (q := .string ⟨#[]⟩) (r := .string pB) (x := .string qB) (HS3.out) (HB3.out) (Nat.le_of_eq H1.out.2.2))
  have hc := HT.out.2.all
  exact bodyPost_ret (v := .tuple #[.agg #[.int .i64 1, .string ⟨#[]⟩, .string pB, .string qB], .int .i64 0]) (by simp [results, Tryz.results159, go_sem, hc]) rfl ⟨HT.out.1, by
    rw [← HPQ.out.1, ← HPQ.out.2]
    rfl⟩
set_option maxRecDepth 100000 in
set_option maxHeartbeats 4000000 in
theorem tgt_absa (m s : ByteArray) (hs : s.size ≤ 200) (hm : m.toList = [79, 80, 84, 73, 79, 78, 83]) (h : ¬ s.toList = [42]) (hn : ∀ h : 0 < s.size, s[0] ≠ 47) (h7 : 7 ≤ s.size) (HQ : Hid (sameL ((txt s).take 7) sHttp = true)) (w : World) : Calls Tryz.prog 159 #[.string m, .string s] w (TgPost (absL ((txt s).drop 7)) 8 w) := by
  have i1 : ¬ (200 : Int) < (s.size : Int) := by omega
  have hst : (s.toList == [42]) = false := by simpa using h
  have i2 : (0 : Int) < (s.size : Int) := by omega
  have h0 : 0 < s.size := by omega
  have e1 : ((s[0].toNat : Int) == 47) = false := u8_ne (n := 47) (by decide) (hn h0)
  clear hn
  obtain ⟨pre, hpre⟩ : ∃ pre, s.extract 0 7 = pre := ⟨_, rfl⟩
  have hpz : pre.size ≤ 200 := by rw [← hpre, ByteArray.size_extract]; omega
  have hpt : txt pre = (txt s).take 7 := by rw [← hpre, txt_extract, List.drop_zero]
  have HSm : Hid (sameL pre.data.toList (⟨#[104, 116, 116, 112, 58, 47, 47]⟩ : ByteArray).data.toList = true) := Lib.hid (by
    show sameL (txt pre) sHttp = _
    rw [hpt]; exact HQ.out)
  have i7 : (7 : Int) ≤ (s.size : Int) := by omega
  have HPre := Lib.hid hpre
  clear hpre hpt
  obtain ⟨r, hr⟩ : ∃ r, s.extract 7 s.size = r := ⟨_, rfl⟩
  have hrz : r.size ≤ 200 := by rw [← hr, ByteArray.size_extract]; omega
  have hrt : txt r = (txt s).drop 7 := by rw [← hr, txt_dropE]
  have HR := Lib.hid hr
  rw [← hrt]
  clear hr hrt
  go_enter Tryz.func159, Tryz.ntmps159
  go_wp2_with fail
  obtain ⟨b0, hb0⟩ : ∃ b0, w.heap.size = b0 := ⟨_, rfl⟩
  obtain ⟨w1, hw1⟩ : ∃ w1, w.alloc (.cells #[.int .i64 0, .string ⟨#[]⟩, .string ⟨#[]⟩, .string ⟨#[]⟩] 26) = w1 := ⟨_, rfl⟩
  have hs1 : Sm No w w1 := by rw [← hw1]; exact (Sm.refl No w).alloc _
  have hb1 : Bk w1 b0 26 #[.int .i64 0, .string ⟨#[]⟩, .string ⟨#[]⟩, .string ⟨#[]⟩] := by rw [← hw1, ← hb0]; exact Bk.new w _ _
  rw [hw1, hb0]
  have H1 := Lib.hid (And.intro hs1 (And.intro hb1 hb0))
  clear hs1 hb1 hw1 hb0
  rw [HPre.out]
  refine (rSame_say HSm (by omega) (by decide) _).mono ?_
  rintro e w3 ⟨rfl, hs3⟩
  have HS3 := Lib.hid (H1.out.1.trans hs3 (fun _ _ h => h))
  have HB3 := Lib.hid (H1.out.2.1.sm hs3 (fun h => h))
  clear hs3
  go_wp2_with fail
  rw [HR.out]
  obtain ⟨O, hO⟩ : ∃ O, absL (txt r) = O := ⟨_, rfl⟩
  have HAb := rAbsolute_any r (by omega) w3
  rw [hO] at HAb
  have HO := Lib.hid hO
  clear hO
  refine HAb.mono ?_
  clear HAb
  cases O with
  | none =>
    rintro e w4 ⟨hs4, rfl⟩
    rw [show tgV ⟨0, [], [], []⟩ = .agg #[.int .i64 0, .string ⟨#[]⟩, .string ⟨#[]⟩, .string ⟨#[]⟩] from rfl]
    have HS4 := Lib.hid (HS3.out.trans hs4 (fun _ _ h => h))
    have HB4 := Lib.hid (HB3.out.sm hs4 (fun h => h))
    clear hs4
    have hl := (HB4.out).lt
    have hc := (HB4.out).all
    have hf := (HB4.out).fz
    go_wp2_with fail
    have HT := Lib.hid (tg_set (p := .int .i64 0) (q := .string ⟨#[]⟩) (r := .string ⟨#[]⟩) (x := .string ⟨#[]⟩) (HS4.out) (HB4.out) (Nat.le_of_eq H1.out.2.2))
    have hc := HT.out.2.all
    exact bodyPost_ret (v := .tuple #[.agg #[.int .i64 0, .string ⟨#[]⟩, .string ⟨#[]⟩, .string ⟨#[]⟩], .int .i64 8]) (by simp [results, Tryz.results159, go_sem, hc]) rfl ⟨HT.out.1, by rw [HO.out]; exact rfl⟩
  | some t =>
    obtain ⟨f, h, p, q⟩ := t
    obtain ⟨hB, hhB⟩ : ∃ hB : ByteArray, (⟨h.toArray⟩ : ByteArray) = hB := ⟨_, rfl⟩
    obtain ⟨pB, hpB⟩ : ∃ pB : ByteArray, (⟨p.toArray⟩ : ByteArray) = pB := ⟨_, rfl⟩
    obtain ⟨qB, hqB⟩ : ∃ qB : ByteArray, (⟨q.toArray⟩ : ByteArray) = qB := ⟨_, rfl⟩
    have HPQ := Lib.hid (show tgV ⟨f, h, p, q⟩ = .agg #[.int .i64 f, .string hB, .string pB, .string qB] from by rw [← hhB, ← hpB, ← hqB]; rfl)
    clear hhB hpB hqB
    rintro e w4 ⟨hs4, rfl⟩
    rw [HPQ.out]
    have HS4 := Lib.hid (HS3.out.trans hs4 (fun _ _ h => h))
    have HB4 := Lib.hid (HB3.out.sm hs4 (fun h => h))
    clear hs4
    have hl := (HB4.out).lt
    have hc := (HB4.out).all
    have hf := (HB4.out).fz
    go_wp2_with fail
    have HT := Lib.hid (tg_set (p := .int .i64 f) (q := .string hB) (r := .string pB) (x := .string qB) (HS4.out) (HB4.out) (Nat.le_of_eq H1.out.2.2))
    have hc := HT.out.2.all
    exact bodyPost_ret (v := .tuple #[.agg #[.int .i64 f, .string hB, .string pB, .string qB], .int .i64 0]) (by simp [results, Tryz.results159, go_sem, hc]) rfl ⟨HT.out.1, by rw [HO.out, ← HPQ.out]⟩
set_option maxRecDepth 100000 in
set_option maxHeartbeats 4000000 in
theorem tgt_no7a (m s : ByteArray) (hs : s.size ≤ 200) (hm : m.toList = [79, 80, 84, 73, 79, 78, 83]) (h : ¬ s.toList = [42]) (hn : ∀ h : 0 < s.size, s[0] ≠ 47) (h7 : 7 ≤ s.size) (HQ : Hid (sameL ((txt s).take 7) sHttp = false)) (w : World) : Calls Tryz.prog 159 #[.string m, .string s] w (TgPost (none) 8 w) := by
  have i1 : ¬ (200 : Int) < (s.size : Int) := by omega
  have hst : (s.toList == [42]) = false := by simpa using h
  have i2 : (0 : Int) < (s.size : Int) := by omega
  have h0 : 0 < s.size := by omega
  have e1 : ((s[0].toNat : Int) == 47) = false := u8_ne (n := 47) (by decide) (hn h0)
  clear hn
  obtain ⟨pre, hpre⟩ : ∃ pre, s.extract 0 7 = pre := ⟨_, rfl⟩
  have hpz : pre.size ≤ 200 := by rw [← hpre, ByteArray.size_extract]; omega
  have hpt : txt pre = (txt s).take 7 := by rw [← hpre, txt_extract, List.drop_zero]
  have HSm : Hid (sameL pre.data.toList (⟨#[104, 116, 116, 112, 58, 47, 47]⟩ : ByteArray).data.toList = false) := Lib.hid (by
    show sameL (txt pre) sHttp = _
    rw [hpt]; exact HQ.out)
  have i7 : (7 : Int) ≤ (s.size : Int) := by omega
  have HPre := Lib.hid hpre
  clear hpre hpt
  go_enter Tryz.func159, Tryz.ntmps159
  go_wp2_with fail
  obtain ⟨b0, hb0⟩ : ∃ b0, w.heap.size = b0 := ⟨_, rfl⟩
  obtain ⟨w1, hw1⟩ : ∃ w1, w.alloc (.cells #[.int .i64 0, .string ⟨#[]⟩, .string ⟨#[]⟩, .string ⟨#[]⟩] 26) = w1 := ⟨_, rfl⟩
  have hs1 : Sm No w w1 := by rw [← hw1]; exact (Sm.refl No w).alloc _
  have hb1 : Bk w1 b0 26 #[.int .i64 0, .string ⟨#[]⟩, .string ⟨#[]⟩, .string ⟨#[]⟩] := by rw [← hw1, ← hb0]; exact Bk.new w _ _
  rw [hw1, hb0]
  have H1 := Lib.hid (And.intro hs1 (And.intro hb1 hb0))
  clear hs1 hb1 hw1 hb0
  rw [HPre.out]
  refine (rSame_say HSm (by omega) (by decide) _).mono ?_
  rintro e w3 ⟨rfl, hs3⟩
  have HS3 := Lib.hid (H1.out.1.trans hs3 (fun _ _ h => h))
  have HB3 := Lib.hid (H1.out.2.1.sm hs3 (fun h => h))
  clear hs3
  have hl := (HB3.out).lt
  have hc := (HB3.out).all
  have hf := (HB3.out).fz
  go_wp2_with fail
  have HT := Lib.hid (tg_set (p := .int .i64 0) (q := .string ⟨#[]⟩) (r := .string ⟨#[]⟩) (x := .string ⟨#[]⟩) (HS3.out) (HB3.out) (Nat.le_of_eq H1.out.2.2))
  have hc := HT.out.2.all
  exact bodyPost_ret (v := .tuple #[.agg #[.int .i64 0, .string ⟨#[]⟩, .string ⟨#[]⟩, .string ⟨#[]⟩], .int .i64 8]) (by simp [results, Tryz.results159, go_sem, hc]) rfl ⟨HT.out.1, by exact rfl⟩
set_option maxRecDepth 100000 in
set_option maxHeartbeats 4000000 in
theorem tgt_no0a (m s : ByteArray) (hs : s.size ≤ 200) (hm : m.toList = [79, 80, 84, 73, 79, 78, 83]) (h : ¬ s.toList = [42]) (h7 : s.size = 0) (w : World) : Calls Tryz.prog 159 #[.string m, .string s] w (TgPost (none) 8 w) := by
  have i1 : ¬ (200 : Int) < (s.size : Int) := by omega
  have hst : (s.toList == [42]) = false := by simpa using h
  have i2 : ¬ (0 : Int) < (s.size : Int) := by omega
  have i7 : ¬ (7 : Int) ≤ (s.size : Int) := by omega
  clear h7
  go_enter Tryz.func159, Tryz.ntmps159
  go_wp2_with fail
  exact bodyPost_ret (v := .tuple #[.agg #[.int .i64 0, .string ⟨#[]⟩, .string ⟨#[]⟩, .string ⟨#[]⟩], .int .i64 8]) (by simp [results, Tryz.results159, go_sem]) rfl ⟨(Sm.refl No w).alloc _, by exact rfl⟩
set_option maxRecDepth 100000 in
set_option maxHeartbeats 4000000 in
theorem tgt_no1a (m s : ByteArray) (hs : s.size ≤ 200) (hm : m.toList = [79, 80, 84, 73, 79, 78, 83]) (h : ¬ s.toList = [42]) (hn : ∀ h : 0 < s.size, s[0] ≠ 47) (h0 : 0 < s.size) (h7 : s.size < 7) (w : World) : Calls Tryz.prog 159 #[.string m, .string s] w (TgPost (none) 8 w) := by
  have i1 : ¬ (200 : Int) < (s.size : Int) := by omega
  have hst : (s.toList == [42]) = false := by simpa using h
  have i2 : (0 : Int) < (s.size : Int) := by omega
  have i7 : ¬ (7 : Int) ≤ (s.size : Int) := by omega
  have e1 : ((s[0].toNat : Int) == 47) = false := u8_ne (n := 47) (by decide) (hn h0)
  clear hn
  go_enter Tryz.func159, Tryz.ntmps159
  go_wp2_with fail
  exact bodyPost_ret (v := .tuple #[.agg #[.int .i64 0, .string ⟨#[]⟩, .string ⟨#[]⟩, .string ⟨#[]⟩], .int .i64 8]) (by simp [results, Tryz.results159, go_sem]) rfl ⟨(Sm.refl No w).alloc _, by exact rfl⟩
set_option maxRecDepth 100000 in
set_option maxHeartbeats 4000000 in
theorem tgt_org0b (m s : ByteArray) (hs : s.size ≤ 200) (hm0 : ¬ m.toList = [67, 79, 78, 78, 69, 67, 84]) (hm : ¬ m.toList = [79, 80, 84, 73, 79, 78, 83]) (h0 : 0 < s.size) (hq : s[0] = 47) (HO : Hid (orgL (txt s) = none)) (w : World) : Calls Tryz.prog 159 #[.string m, .string s] w (TgPost (none) 8 w) := by
  have i1 : ¬ (200 : Int) < (s.size : Int) := by omega
  have em0 : (m.toList == [67, 79, 78, 78, 69, 67, 84]) = false := by simpa using hm0
  have em1 : (m.toList == [79, 80, 84, 73, 79, 78, 83]) = false := by simpa using hm
  have i2 : (0 : Int) < (s.size : Int) := by omega
  have e1 : ((s[0].toNat : Int) == 47) = true := by rw [hq]; rfl
  clear hq
  go_enter Tryz.func159, Tryz.ntmps159
  go_wp2_with fail
  obtain ⟨b0, hb0⟩ : ∃ b0, w.heap.size = b0 := ⟨_, rfl⟩
  obtain ⟨w1, hw1⟩ : ∃ w1, w.alloc (.cells #[.int .i64 0, .string ⟨#[]⟩, .string ⟨#[]⟩, .string ⟨#[]⟩] 26) = w1 := ⟨_, rfl⟩
  have hs1 : Sm No w w1 := by rw [← hw1]; exact (Sm.refl No w).alloc _
  have hb1 : Bk w1 b0 26 #[.int .i64 0, .string ⟨#[]⟩, .string ⟨#[]⟩, .string ⟨#[]⟩] := by rw [← hw1, ← hb0]; exact Bk.new w _ _
  rw [hw1, hb0]
  have H1 := Lib.hid (And.intro hs1 (And.intro hb1 hb0))
  clear hs1 hb1 hw1 hb0
  have HOg := rOrigin_any s (by omega) w1
  unfold OrgPost at HOg
  rw [HO.out] at HOg
  refine HOg.mono ?_
  rintro e w3 ⟨hs3, pB, qB, rfl⟩
  have HS3 := Lib.hid (H1.out.1.trans hs3 (fun _ _ h => h))
  have HB3 := Lib.hid (H1.out.2.1.sm hs3 (fun h => h))
  clear hs3 HOg
  have hl := (HB3.out).lt
  have hc := (HB3.out).all
  have hf := (HB3.out).fz
  go_wp2_with fail
  have HT := Lib.hid (tg_set (p := .int .i64 0) (q := .string ⟨#[]⟩) (r := .string ⟨#[]⟩) (x := .string ⟨#[]⟩) (HS3.out) (HB3.out) (Nat.le_of_eq H1.out.2.2))
  have hc := HT.out.2.all
  exact bodyPost_ret (v := .tuple #[.agg #[.int .i64 0, .string ⟨#[]⟩, .string ⟨#[]⟩, .string ⟨#[]⟩], .int .i64 8]) (by simp [results, Tryz.results159, go_sem, hc]) rfl ⟨HT.out.1, by exact rfl⟩
set_option maxRecDepth 100000 in
set_option maxHeartbeats 4000000 in
theorem tgt_org1b (m s : ByteArray) (hs : s.size ≤ 200) (hm0 : ¬ m.toList = [67, 79, 78, 78, 69, 67, 84]) (hm : ¬ m.toList = [79, 80, 84, 73, 79, 78, 83]) (h0 : 0 < s.size) (hq : s[0] = 47) (p q : Txt) (HO : Hid (orgL (txt s) = some (p, q))) (w : World) : Calls Tryz.prog 159 #[.string m, .string s] w (TgPost (some ⟨1, [], p, q⟩) 8 w) := by
  have i1 : ¬ (200 : Int) < (s.size : Int) := by omega
  have em0 : (m.toList == [67, 79, 78, 78, 69, 67, 84]) = false := by simpa using hm0
  have em1 : (m.toList == [79, 80, 84, 73, 79, 78, 83]) = false := by simpa using hm
  have i2 : (0 : Int) < (s.size : Int) := by omega
  have e1 : ((s[0].toNat : Int) == 47) = true := by rw [hq]; rfl
  clear hq
  obtain ⟨pB, hpB⟩ : ∃ pB : ByteArray, (⟨p.toArray⟩ : ByteArray) = pB := ⟨_, rfl⟩
  obtain ⟨qB, hqB⟩ : ∃ qB : ByteArray, (⟨q.toArray⟩ : ByteArray) = qB := ⟨_, rfl⟩
  have HPQ := Lib.hid (And.intro hpB hqB)
  go_enter Tryz.func159, Tryz.ntmps159
  go_wp2_with fail
  obtain ⟨b0, hb0⟩ : ∃ b0, w.heap.size = b0 := ⟨_, rfl⟩
  obtain ⟨w1, hw1⟩ : ∃ w1, w.alloc (.cells #[.int .i64 0, .string ⟨#[]⟩, .string ⟨#[]⟩, .string ⟨#[]⟩] 26) = w1 := ⟨_, rfl⟩
  have hs1 : Sm No w w1 := by rw [← hw1]; exact (Sm.refl No w).alloc _
  have hb1 : Bk w1 b0 26 #[.int .i64 0, .string ⟨#[]⟩, .string ⟨#[]⟩, .string ⟨#[]⟩] := by rw [← hw1, ← hb0]; exact Bk.new w _ _
  rw [hw1, hb0]
  have H1 := Lib.hid (And.intro hs1 (And.intro hb1 hb0))
  clear hs1 hb1 hw1 hb0
  have HOg := rOrigin_any s (by omega) w1
  unfold OrgPost at HOg
  rw [HO.out] at HOg
  refine HOg.mono ?_
  dsimp only
  rw [hpB, hqB]
  rintro e w3 ⟨hs3, rfl⟩
  clear hpB hqB
  have HS3 := Lib.hid (H1.out.1.trans hs3 (fun _ _ h => h))
  have HB3 := Lib.hid (H1.out.2.1.sm hs3 (fun h => h))
  clear hs3 HOg
  have hl := (HB3.out).lt
  have hc := (HB3.out).all
  have hf := (HB3.out).fz
  go_wp2_with fail
  have HT := Lib.hid (tg_set (p := .int .i64 1) (q := .string ⟨#[]⟩) (r := .string pB) (x := .string qB) (HS3.out) (HB3.out) (Nat.le_of_eq H1.out.2.2))
  have hc := HT.out.2.all
  exact bodyPost_ret (v := .tuple #[.agg #[.int .i64 1, .string ⟨#[]⟩, .string pB, .string qB], .int .i64 0]) (by simp [results, Tryz.results159, go_sem, hc]) rfl ⟨HT.out.1, by
    rw [← HPQ.out.1, ← HPQ.out.2]
    rfl⟩
set_option maxRecDepth 100000 in
set_option maxHeartbeats 4000000 in
theorem tgt_absb (m s : ByteArray) (hs : s.size ≤ 200) (hm0 : ¬ m.toList = [67, 79, 78, 78, 69, 67, 84]) (hm : ¬ m.toList = [79, 80, 84, 73, 79, 78, 83]) (hn : ∀ h : 0 < s.size, s[0] ≠ 47) (h7 : 7 ≤ s.size) (HQ : Hid (sameL ((txt s).take 7) sHttp = true)) (w : World) : Calls Tryz.prog 159 #[.string m, .string s] w (TgPost (absL ((txt s).drop 7)) 8 w) := by
  have i1 : ¬ (200 : Int) < (s.size : Int) := by omega
  have em0 : (m.toList == [67, 79, 78, 78, 69, 67, 84]) = false := by simpa using hm0
  have em1 : (m.toList == [79, 80, 84, 73, 79, 78, 83]) = false := by simpa using hm
  have i2 : (0 : Int) < (s.size : Int) := by omega
  have h0 : 0 < s.size := by omega
  have e1 : ((s[0].toNat : Int) == 47) = false := u8_ne (n := 47) (by decide) (hn h0)
  clear hn
  obtain ⟨pre, hpre⟩ : ∃ pre, s.extract 0 7 = pre := ⟨_, rfl⟩
  have hpz : pre.size ≤ 200 := by rw [← hpre, ByteArray.size_extract]; omega
  have hpt : txt pre = (txt s).take 7 := by rw [← hpre, txt_extract, List.drop_zero]
  have HSm : Hid (sameL pre.data.toList (⟨#[104, 116, 116, 112, 58, 47, 47]⟩ : ByteArray).data.toList = true) := Lib.hid (by
    show sameL (txt pre) sHttp = _
    rw [hpt]; exact HQ.out)
  have i7 : (7 : Int) ≤ (s.size : Int) := by omega
  have HPre := Lib.hid hpre
  clear hpre hpt
  obtain ⟨r, hr⟩ : ∃ r, s.extract 7 s.size = r := ⟨_, rfl⟩
  have hrz : r.size ≤ 200 := by rw [← hr, ByteArray.size_extract]; omega
  have hrt : txt r = (txt s).drop 7 := by rw [← hr, txt_dropE]
  have HR := Lib.hid hr
  rw [← hrt]
  clear hr hrt
  go_enter Tryz.func159, Tryz.ntmps159
  go_wp2_with fail
  obtain ⟨b0, hb0⟩ : ∃ b0, w.heap.size = b0 := ⟨_, rfl⟩
  obtain ⟨w1, hw1⟩ : ∃ w1, w.alloc (.cells #[.int .i64 0, .string ⟨#[]⟩, .string ⟨#[]⟩, .string ⟨#[]⟩] 26) = w1 := ⟨_, rfl⟩
  have hs1 : Sm No w w1 := by rw [← hw1]; exact (Sm.refl No w).alloc _
  have hb1 : Bk w1 b0 26 #[.int .i64 0, .string ⟨#[]⟩, .string ⟨#[]⟩, .string ⟨#[]⟩] := by rw [← hw1, ← hb0]; exact Bk.new w _ _
  rw [hw1, hb0]
  have H1 := Lib.hid (And.intro hs1 (And.intro hb1 hb0))
  clear hs1 hb1 hw1 hb0
  rw [HPre.out]
  refine (rSame_say HSm (by omega) (by decide) _).mono ?_
  rintro e w3 ⟨rfl, hs3⟩
  have HS3 := Lib.hid (H1.out.1.trans hs3 (fun _ _ h => h))
  have HB3 := Lib.hid (H1.out.2.1.sm hs3 (fun h => h))
  clear hs3
  go_wp2_with fail
  rw [HR.out]
  obtain ⟨O, hO⟩ : ∃ O, absL (txt r) = O := ⟨_, rfl⟩
  have HAb := rAbsolute_any r (by omega) w3
  rw [hO] at HAb
  have HO := Lib.hid hO
  clear hO
  refine HAb.mono ?_
  clear HAb
  cases O with
  | none =>
    rintro e w4 ⟨hs4, rfl⟩
    rw [show tgV ⟨0, [], [], []⟩ = .agg #[.int .i64 0, .string ⟨#[]⟩, .string ⟨#[]⟩, .string ⟨#[]⟩] from rfl]
    have HS4 := Lib.hid (HS3.out.trans hs4 (fun _ _ h => h))
    have HB4 := Lib.hid (HB3.out.sm hs4 (fun h => h))
    clear hs4
    have hl := (HB4.out).lt
    have hc := (HB4.out).all
    have hf := (HB4.out).fz
    go_wp2_with fail
    have HT := Lib.hid (tg_set (p := .int .i64 0) (q := .string ⟨#[]⟩) (r := .string ⟨#[]⟩) (x := .string ⟨#[]⟩) (HS4.out) (HB4.out) (Nat.le_of_eq H1.out.2.2))
    have hc := HT.out.2.all
    exact bodyPost_ret (v := .tuple #[.agg #[.int .i64 0, .string ⟨#[]⟩, .string ⟨#[]⟩, .string ⟨#[]⟩], .int .i64 8]) (by simp [results, Tryz.results159, go_sem, hc]) rfl ⟨HT.out.1, by rw [HO.out]; exact rfl⟩
  | some t =>
    obtain ⟨f, h, p, q⟩ := t
    obtain ⟨hB, hhB⟩ : ∃ hB : ByteArray, (⟨h.toArray⟩ : ByteArray) = hB := ⟨_, rfl⟩
    obtain ⟨pB, hpB⟩ : ∃ pB : ByteArray, (⟨p.toArray⟩ : ByteArray) = pB := ⟨_, rfl⟩
    obtain ⟨qB, hqB⟩ : ∃ qB : ByteArray, (⟨q.toArray⟩ : ByteArray) = qB := ⟨_, rfl⟩
    have HPQ := Lib.hid (show tgV ⟨f, h, p, q⟩ = .agg #[.int .i64 f, .string hB, .string pB, .string qB] from by rw [← hhB, ← hpB, ← hqB]; rfl)
    clear hhB hpB hqB
    rintro e w4 ⟨hs4, rfl⟩
    rw [HPQ.out]
    have HS4 := Lib.hid (HS3.out.trans hs4 (fun _ _ h => h))
    have HB4 := Lib.hid (HB3.out.sm hs4 (fun h => h))
    clear hs4
    have hl := (HB4.out).lt
    have hc := (HB4.out).all
    have hf := (HB4.out).fz
    go_wp2_with fail
    have HT := Lib.hid (tg_set (p := .int .i64 f) (q := .string hB) (r := .string pB) (x := .string qB) (HS4.out) (HB4.out) (Nat.le_of_eq H1.out.2.2))
    have hc := HT.out.2.all
    exact bodyPost_ret (v := .tuple #[.agg #[.int .i64 f, .string hB, .string pB, .string qB], .int .i64 0]) (by simp [results, Tryz.results159, go_sem, hc]) rfl ⟨HT.out.1, by rw [HO.out, ← HPQ.out]⟩
set_option maxRecDepth 100000 in
set_option maxHeartbeats 4000000 in
theorem tgt_no7b (m s : ByteArray) (hs : s.size ≤ 200) (hm0 : ¬ m.toList = [67, 79, 78, 78, 69, 67, 84]) (hm : ¬ m.toList = [79, 80, 84, 73, 79, 78, 83]) (hn : ∀ h : 0 < s.size, s[0] ≠ 47) (h7 : 7 ≤ s.size) (HQ : Hid (sameL ((txt s).take 7) sHttp = false)) (w : World) : Calls Tryz.prog 159 #[.string m, .string s] w (TgPost (none) 8 w) := by
  have i1 : ¬ (200 : Int) < (s.size : Int) := by omega
  have em0 : (m.toList == [67, 79, 78, 78, 69, 67, 84]) = false := by simpa using hm0
  have em1 : (m.toList == [79, 80, 84, 73, 79, 78, 83]) = false := by simpa using hm
  have i2 : (0 : Int) < (s.size : Int) := by omega
  have h0 : 0 < s.size := by omega
  have e1 : ((s[0].toNat : Int) == 47) = false := u8_ne (n := 47) (by decide) (hn h0)
  clear hn
  obtain ⟨pre, hpre⟩ : ∃ pre, s.extract 0 7 = pre := ⟨_, rfl⟩
  have hpz : pre.size ≤ 200 := by rw [← hpre, ByteArray.size_extract]; omega
  have hpt : txt pre = (txt s).take 7 := by rw [← hpre, txt_extract, List.drop_zero]
  have HSm : Hid (sameL pre.data.toList (⟨#[104, 116, 116, 112, 58, 47, 47]⟩ : ByteArray).data.toList = false) := Lib.hid (by
    show sameL (txt pre) sHttp = _
    rw [hpt]; exact HQ.out)
  have i7 : (7 : Int) ≤ (s.size : Int) := by omega
  have HPre := Lib.hid hpre
  clear hpre hpt
  go_enter Tryz.func159, Tryz.ntmps159
  go_wp2_with fail
  obtain ⟨b0, hb0⟩ : ∃ b0, w.heap.size = b0 := ⟨_, rfl⟩
  obtain ⟨w1, hw1⟩ : ∃ w1, w.alloc (.cells #[.int .i64 0, .string ⟨#[]⟩, .string ⟨#[]⟩, .string ⟨#[]⟩] 26) = w1 := ⟨_, rfl⟩
  have hs1 : Sm No w w1 := by rw [← hw1]; exact (Sm.refl No w).alloc _
  have hb1 : Bk w1 b0 26 #[.int .i64 0, .string ⟨#[]⟩, .string ⟨#[]⟩, .string ⟨#[]⟩] := by rw [← hw1, ← hb0]; exact Bk.new w _ _
  rw [hw1, hb0]
  have H1 := Lib.hid (And.intro hs1 (And.intro hb1 hb0))
  clear hs1 hb1 hw1 hb0
  rw [HPre.out]
  refine (rSame_say HSm (by omega) (by decide) _).mono ?_
  rintro e w3 ⟨rfl, hs3⟩
  have HS3 := Lib.hid (H1.out.1.trans hs3 (fun _ _ h => h))
  have HB3 := Lib.hid (H1.out.2.1.sm hs3 (fun h => h))
  clear hs3
  have hl := (HB3.out).lt
  have hc := (HB3.out).all
  have hf := (HB3.out).fz
  go_wp2_with fail
  have HT := Lib.hid (tg_set (p := .int .i64 0) (q := .string ⟨#[]⟩) (r := .string ⟨#[]⟩) (x := .string ⟨#[]⟩) (HS3.out) (HB3.out) (Nat.le_of_eq H1.out.2.2))
  have hc := HT.out.2.all
  exact bodyPost_ret (v := .tuple #[.agg #[.int .i64 0, .string ⟨#[]⟩, .string ⟨#[]⟩, .string ⟨#[]⟩], .int .i64 8]) (by simp [results, Tryz.results159, go_sem, hc]) rfl ⟨HT.out.1, by exact rfl⟩
set_option maxRecDepth 100000 in
set_option maxHeartbeats 4000000 in
theorem tgt_no0b (m s : ByteArray) (hs : s.size ≤ 200) (hm0 : ¬ m.toList = [67, 79, 78, 78, 69, 67, 84]) (hm : ¬ m.toList = [79, 80, 84, 73, 79, 78, 83]) (h7 : s.size = 0) (w : World) : Calls Tryz.prog 159 #[.string m, .string s] w (TgPost (none) 8 w) := by
  have i1 : ¬ (200 : Int) < (s.size : Int) := by omega
  have em0 : (m.toList == [67, 79, 78, 78, 69, 67, 84]) = false := by simpa using hm0
  have em1 : (m.toList == [79, 80, 84, 73, 79, 78, 83]) = false := by simpa using hm
  have i2 : ¬ (0 : Int) < (s.size : Int) := by omega
  have i7 : ¬ (7 : Int) ≤ (s.size : Int) := by omega
  clear h7
  go_enter Tryz.func159, Tryz.ntmps159
  go_wp2_with fail
  exact bodyPost_ret (v := .tuple #[.agg #[.int .i64 0, .string ⟨#[]⟩, .string ⟨#[]⟩, .string ⟨#[]⟩], .int .i64 8]) (by simp [results, Tryz.results159, go_sem]) rfl ⟨(Sm.refl No w).alloc _, by exact rfl⟩
set_option maxRecDepth 100000 in
set_option maxHeartbeats 4000000 in
theorem tgt_no1b (m s : ByteArray) (hs : s.size ≤ 200) (hm0 : ¬ m.toList = [67, 79, 78, 78, 69, 67, 84]) (hm : ¬ m.toList = [79, 80, 84, 73, 79, 78, 83]) (hn : ∀ h : 0 < s.size, s[0] ≠ 47) (h0 : 0 < s.size) (h7 : s.size < 7) (w : World) : Calls Tryz.prog 159 #[.string m, .string s] w (TgPost (none) 8 w) := by
  have i1 : ¬ (200 : Int) < (s.size : Int) := by omega
  have em0 : (m.toList == [67, 79, 78, 78, 69, 67, 84]) = false := by simpa using hm0
  have em1 : (m.toList == [79, 80, 84, 73, 79, 78, 83]) = false := by simpa using hm
  have i2 : (0 : Int) < (s.size : Int) := by omega
  have i7 : ¬ (7 : Int) ≤ (s.size : Int) := by omega
  have e1 : ((s[0].toNat : Int) == 47) = false := u8_ne (n := 47) (by decide) (hn h0)
  clear hn
  go_enter Tryz.func159, Tryz.ntmps159
  go_wp2_with fail
  exact bodyPost_ret (v := .tuple #[.agg #[.int .i64 0, .string ⟨#[]⟩, .string ⟨#[]⟩, .string ⟨#[]⟩], .int .i64 8]) (by simp [results, Tryz.results159, go_sem]) rfl ⟨(Sm.refl No w).alloc _, by exact rfl⟩
theorem tgtL_long {m s : Txt} (h : 200 < s.length) : tgtL m s = (none, 9) := by unfold tgtL; rw [if_pos h]
theorem tgtL_con {m s : Txt} (h : ¬ 200 < s.length) (hm : m = sConnect) : tgtL m s = if hostL s = true ∧ inL 58 s = true then (some ⟨3, lowL s, [], []⟩, 0) else (none, 8) := by unfold tgtL; rw [if_neg h, if_pos hm]
theorem tgtL_star {m s : Txt} (h : ¬ 200 < s.length) (h0 : ¬ m = sConnect) (hm : m = sOptions ∧ s = [42]) : tgtL m s = (some ⟨4, [], [], []⟩, 0) := by unfold tgtL; rw [if_neg h, if_neg h0, if_pos hm]
theorem tgtL_org {m s : Txt} (h : ¬ 200 < s.length) (h0 : ¬ m = sConnect) (hm : ¬ (m = sOptions ∧ s = [42])) (hq : s.head? = some 47) : tgtL m s = match orgL s with
    | some (p, q) => (some ⟨1, [], p, q⟩, 0)
    | none => (none, 8) := by unfold tgtL; rw [if_neg h, if_neg h0, if_neg hm, if_pos hq]; rfl
theorem tgtL_abs {m s : Txt} (h : ¬ 200 < s.length) (h0 : ¬ m = sConnect) (hm : ¬ (m = sOptions ∧ s = [42])) (hq : ¬ s.head? = some 47) : tgtL m s = if sameL (s.take 7) sHttp = true ∧ 7 ≤ s.length then (absL (s.drop 7), 8) else (none, 8) := by unfold tgtL; rw [if_neg h, if_neg h0, if_neg hm, if_neg hq]
theorem TgPost.code {t : Tg} {c d : Int} {w w' : World} {e : Ending} (h : TgPost (some t) c w e w') : TgPost (some t) d w e w' := h
theorem rTarget_any (m s : ByteArray) (w : World) : Calls Tryz.prog 159 #[.string m, .string s] w (TgPost (tgtL (txt m) (txt s)).1 (tgtL (txt m) (txt s)).2 w) := by
  have hl : (txt s).length = s.size := txt_len s
  by_cases h1 : 200 < s.size
  · rw [tgtL_long (by omega)]; exact tgt_long m s h1 w
  have h1' : ¬ 200 < (txt s).length := by omega
  have hz : s.size ≤ 200 := by omega
  have tl : ∀ b : ByteArray, b.toList = txt b := fun b => ByteArray.toList_eq b
  by_cases h2 : txt m = sConnect
  · have h2' : m.toList = [67, 79, 78, 78, 69, 67, 84] := (tl m).trans h2
    rw [tgtL_con h1' h2]
    cases ha : hostL (txt s) with
    | false => rw [if_neg (by simp)]; exact tgt_con0 m s hz h2' (Lib.hid ha) w
    | true => cases hb : inL 58 (txt s) with
      | false => rw [if_neg (by simp)]; exact tgt_con1 m s hz h2' (Lib.hid ha) (Lib.hid hb) w
      | true => rw [if_pos (by simp)]; exact (tgt_con2 m s hz h2' (Lib.hid ha) (Lib.hid hb) w).mono fun _ _ h => h
  have h2' : ¬ m.toList = [67, 79, 78, 78, 69, 67, 84] := fun h => h2 ((tl m).symm.trans h)
  by_cases h3 : txt m = sOptions ∧ txt s = [42]
  · rw [tgtL_star h1' h2 h3]; exact (tgt_star m s hz ((tl m).trans h3.1) ((tl s).trans h3.2) w).mono fun _ _ h => h
  have h3' : (m.toList = [79, 80, 84, 73, 79, 78, 83] ∧ ¬ s.toList = [42]) ∨ ¬ m.toList = [79, 80, 84, 73, 79, 78, 83] := by
    by_cases g : m.toList = [79, 80, 84, 73, 79, 78, 83]
    · exact Or.inl ⟨g, fun e => h3 ⟨(tl m).symm.trans g, (tl s).symm.trans e⟩⟩
    · exact Or.inr g
  by_cases h4 : ∃ h : 0 < s.size, s[0] = 47
  · obtain ⟨h0, hq⟩ := h4
    have hh : (txt s).head? = some 47 := by
      rw [List.head?_eq_getElem?, List.getElem?_eq_getElem (by omega)]
      exact congrArg some hq
    rw [tgtL_org h1' h2 h3 hh]
    cases ho : orgL (txt s) with
    | none =>
      rcases h3' with ⟨ga, gb⟩ | g
      · exact tgt_org0a m s hz ga gb h0 hq (Lib.hid ho) w
      · exact tgt_org0b m s hz h2' g h0 hq (Lib.hid ho) w
    | some x =>
      obtain ⟨p, q⟩ := x
      rcases h3' with ⟨ga, gb⟩ | g
      · exact (tgt_org1a m s hz ga gb h0 hq p q (Lib.hid ho) w).mono fun _ _ h => h
      · exact (tgt_org1b m s hz h2' g h0 hq p q (Lib.hid ho) w).mono fun _ _ h => h
  have hn : ∀ h : 0 < s.size, s[0] ≠ 47 := fun h e => h4 ⟨h, e⟩
  have hh : ¬ (txt s).head? = some 47 := by
    intro e
    rw [List.head?_eq_getElem?] at e
    obtain ⟨h, e⟩ := List.getElem?_eq_some_iff.1 e
    exact hn (by omega) e
  rw [tgtL_abs h1' h2 h3 hh]
  by_cases h7 : 7 ≤ s.size
  · cases hq : sameL ((txt s).take 7) sHttp with
    | true =>
      rw [if_pos ⟨rfl, by omega⟩]
      rcases h3' with ⟨ga, gb⟩ | g
      · exact tgt_absa m s hz ga gb hn h7 (Lib.hid hq) w
      · exact tgt_absb m s hz h2' g hn h7 (Lib.hid hq) w
    | false =>
      rw [if_neg (by simp)]
      rcases h3' with ⟨ga, gb⟩ | g
      · exact tgt_no7a m s hz ga gb hn h7 (Lib.hid hq) w
      · exact tgt_no7b m s hz h2' g hn h7 (Lib.hid hq) w
  · rw [if_neg (by omega)]
    by_cases h0 : s.size = 0
    · rcases h3' with ⟨ga, gb⟩ | g
      · exact tgt_no0a m s hz ga gb h0 w
      · exact tgt_no0b m s hz h2' g h0 w
    · rcases h3' with ⟨ga, gb⟩ | g
      · exact tgt_no1a m s hz ga gb hn (by omega) (by omega) w
      · exact tgt_no1b m s hz h2' g hn (by omega) (by omega) w
end Go.Proofs.YtiglfbimijnpcaaGreatDoor

