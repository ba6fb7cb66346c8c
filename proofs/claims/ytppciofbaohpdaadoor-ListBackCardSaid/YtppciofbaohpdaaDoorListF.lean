/- Parameters: list's param. -/
import Derived.Test.YtppciofbaohpdaaDoorListE
import Derived.Deep.RegionHeld3
import Derived.RegionTactic
import Derived.BigRegion
namespace Go.Proofs.YtppciofbaohpdaaDoor
open Go.RowKit Go.Proofs

def ParamPost (s : ByteArray) (w : World) (e : Ending) (w' : World) : Prop :=
  Sm No w w' ∧ ((paramL s.data.toList = none ∧ ∃ a b r, e = .returned (.tuple #[.agg #[.string a, .string b], .string r, .bool false])) ∨
    (∃ a b r : ByteArray, paramL s.data.toList = some ((a.data.toList, b.data.toList), r.data.toList) ∧ e = .returned (.tuple #[.agg #[.string a, .string b], .string r, .bool true])))

theorem nil_iff (s : ByteArray) : s.data.toList = [] ↔ s.size = 0 := by
  rw [size_toList']; exact ⟨fun h => by rw [h]; rfl, fun h => List.eq_nil_of_length_eq_zero h⟩
theorem str_nil {s : ByteArray} (h : s.size = 0) : s.toList = [] ∧ s.toList.isEmpty = true := by
  have h1 : s.toList = [] := by rw [Go.ByteArray.toList_eq]; exact (nil_iff s).2 h
  exact ⟨h1, by rw [h1]; rfl⟩
theorem str_cons {s : ByteArray} (h : ¬ s.size = 0) : ¬ s.toList = [] ∧ s.toList.isEmpty = false := by
  have h1 : ¬ s.toList = [] := by rw [Go.ByteArray.toList_eq]; exact fun e => h ((nil_iff s).1 e)
  exact ⟨h1, by cases hq : s.toList with
    | nil => exact absurd hq h1
    | cons a l => rfl⟩
theorem quoted_say {s : ByteArray} {R : List UInt8 × Nat} (h : Hid (quoteL s.data.toList = R)) (hs : s.size ≤ 1000000) (w : World) : Calls Tryd.prog 29 #[.string s] w fun e w' => e = .returned (.tuple #[.string ⟨R.1.toArray⟩, .int .i64 (R.2 : Int)]) ∧ Sm No w w' := by
  rw [← h.out]; exact quoted_any s hs w
theorem trimLeft_say {s r : ByteArray} (h : Hid ((⟨(dropL s.data.toList).toArray⟩ : ByteArray) = r)) (w : World) : Calls Tryd.prog 58 #[.string s, .string ⟨#[9, 32]⟩] w fun e w' => e = .returned (.string r) ∧ Sm No w w' := by
  rw [← h.out]; exact trimLeft_any s w

theorem paramL_eq {c : UInt8} {r : List UInt8} (h : c = 59) : paramL (c :: r) = if tokPre (dropL r) = [] then none else paramR (tokPre (dropL r)) ((dropL r).drop (tokPre (dropL r)).length) := by
  rw [paramL, if_pos h]
theorem dropL_le (l : List UInt8) : (dropL l).length ≤ l.length := (List.dropWhile_sublist blB (l := l)).length_le

set_option maxRecDepth 100000 in
set_option maxHeartbeats 8000000 in
theorem param_any (s : ByteArray) (hs : s.size ≤ 1000000) (w : World) : Calls Tryd.prog 59 #[.string s] w (ParamPost s w) := by
  by_cases h0 : s.size = 0
  · have hn := (nil_iff s).2 h0
    have hp : paramL s.data.toList = none := by rw [hn]; rfl
    have HP := Lib.hid hp
    obtain ⟨h1, h2⟩ := str_nil h0
    clear hn hp
    go_enter Tryd.func59, Tryd.ntmps59
    go_wp2_with fail
    refine bodyPost_ret (v := .tuple #[.agg #[.string ⟨#[]⟩, .string ⟨#[]⟩], .string s, .bool false]) (by simp [results, Tryd.results59, go_sem]) rfl ⟨?_, Or.inl ⟨HP.out, _, _, _, rfl⟩⟩
    exact (Sm.refl No w).alloc _
  · have hl := drop_at s 0 (by omega)
    rw [List.drop_zero] at hl
    obtain ⟨h1, h2⟩ := str_cons h0
    by_cases hq : s[0] = 59
    · have hpe := paramL_eq (r := s.data.toList.drop 1) hq
      rw [← hl] at hpe
      have hq1 : ((s[0].toNat : Int) != 59) = false := by simp [hq]
      have hz : 0 < s.size := by omega
      have hz1 : (1 : Int) ≤ (s.size : Int) := by omega
      obtain ⟨r, hr⟩ : ∃ r, (⟨(dropL (s.extract 1 s.size).data.toList).toArray⟩ : ByteArray) = r := ⟨_, rfl⟩
      have hrd : r.data.toList = dropL (s.data.toList.drop 1) := by rw [← hr]; show dropL (s.extract 1 s.size).data.toList = _; rw [Lib.extract_to_end]
      have hrs : r.size ≤ 1000000 := by
        rw [size_toList', hrd]
        have := dropL_le (s.data.toList.drop 1)
        rw [List.length_drop, ← size_toList'] at this
        omega
      rw [← hrd] at hpe
      have HPE := Lib.hid hpe
      have HR := Lib.hid hr
      have hb0 := Bk.new w 84 #[.string ⟨#[]⟩, .string ⟨#[]⟩]
      have hs0 := (Sm.refl No w).alloc (.cells #[.string ⟨#[]⟩, .string ⟨#[]⟩] 84)
      have HB := Lib.hid (And.intro hb0 hs0)
      clear hpe hl hq hr hrd hb0 hs0
      go_enter Tryd.func59, Tryd.ntmps59
      go_wp2_with fail
      refine (trimLeft_say HR _).mono ?_
      rintro e w1 ⟨rfl, hs1⟩
      have hb1 := HB.out.1.sm hs1 (fun h => h)
      have hs2 := HB.out.2.trans hs1 (fun _ _ h => h)
      have c0 := hb1.at 0 (v := .string ⟨#[]⟩) rfl
      have c1 := hb1.at 1 (v := .string ⟨#[]⟩) rfl
      have z0 := hb1.fz 0
      have z1 := hb1.fz 1
      have HB1 := Lib.hid hs2
      have HBK := Lib.hid hb1
      clear hs1 hb1 hs2
      go_wp2_with fail
      refine (token_any r hrs _).mono ?_
      rintro e w2 ⟨k, hk, hkt, rfl, rfl⟩
      obtain ⟨nm, hnm⟩ : ∃ x, r.extract 0 k = x := ⟨_, rfl⟩
      have hnd : nm.data.toList = tokPre r.data.toList := by rw [← hnm, Lib.extract_data, List.drop_zero, ← hkt]; simp
      have hns : nm.size = k := by rw [size_toList', hnd, ← hkt]; simp; omega
      rw [hnm]
      have HN := Lib.hid (And.intro hnd hns)
      have hnk : nm.size ≤ r.size := by omega
      have hnk2 : (nm.size : Int) ≤ (r.size : Int) := by omega
      clear hnm hnd hns hkt
      by_cases hk0 : nm.size = 0
      · have hp : paramL s.data.toList = none := by rw [HPE.out, if_pos (by rw [← HN.out.1]; exact (nil_iff nm).2 hk0)]
        have HP := Lib.hid hp
        obtain ⟨g1, g2⟩ := str_nil hk0
        clear hp
        go_wp2_with fail
        refine bodyPost_ret (v := .tuple #[.agg #[.string nm, .string ⟨#[]⟩], .string r, .bool false]) (by simp [results, Tryd.results59, go_sem, c0, c1]) rfl ⟨?_, Or.inl ⟨HP.out, _, _, _, rfl⟩⟩
        exact ((HB1.out.setN (Nat.le_refl _) _ _).setN (Nat.le_refl _) _ _).setN (Nat.le_refl _) _ _
      · obtain ⟨g1, g2⟩ := str_cons hk0
        obtain ⟨t, ht⟩ : ∃ x, r.extract nm.size r.size = x := ⟨_, rfl⟩
        have htd : t.data.toList = r.data.toList.drop (tokPre r.data.toList).length := by rw [← ht, Lib.extract_to_end, ← HN.out.1, ← size_toList']
        have hts : t.size ≤ 1000000 := by rw [← ht]; simp; omega
        have hpe := HPE.out
        rw [if_neg (by rw [← HN.out.1]; exact fun e => hk0 ((nil_iff nm).1 e)), ← htd, ← HN.out.1] at hpe
        have HPE2 := Lib.hid hpe
        clear hpe htd
        by_cases ht0 : t.size = 0
        · have hp : paramL s.data.toList = some ((nm.data.toList, (⟨#[]⟩ : ByteArray).data.toList), t.data.toList) := by rw [HPE2.out, (nil_iff t).2 ht0]; rfl
          have HP := Lib.hid hp
          obtain ⟨g3, g4⟩ := str_nil ht0
          clear hp
          go_wp2_with fail
          refine bodyPost_ret (v := .tuple #[.agg #[.string nm, .string ⟨#[]⟩], .string t, .bool true]) (by simp [results, Tryd.results59, go_sem, c0, c1]) rfl ⟨?_, Or.inr ⟨nm, ⟨#[]⟩, t, HP.out, rfl⟩⟩
          exact ((HB1.out.setN (Nat.le_refl _) _ _).setN (Nat.le_refl _) _ _).setN (Nat.le_refl _) _ _
        · obtain ⟨g3, g4⟩ := str_cons ht0
          have htl := drop_at t 0 (by omega)
          rw [List.drop_zero] at htl
          by_cases hq2 : t[0] = 61
          · have hpe := HPE2.out
            rw [htl, paramR, if_pos hq2] at hpe
            obtain ⟨u, hu⟩ : ∃ x, t.extract 1 t.size = x := ⟨_, rfl⟩
            have hud : u.data.toList = t.data.toList.drop 1 := by rw [← hu, Lib.extract_to_end]
            have hus : u.size ≤ 1000000 := by rw [← hu]; simp; omega
            have hq3 : ((t[0].toNat : Int) != 61) = false := by simp [hq2]
            have ht1 : (1 : Int) ≤ (t.size : Int) := by omega
            rw [← hud] at hpe
            obtain ⟨⟨Q, n⟩, hQ⟩ : ∃ R, quoteL u.data.toList = R := ⟨_, rfl⟩
            rw [hQ] at hpe
            have HPE3 := Lib.hid hpe
            have HQ := Lib.hid hQ
            have hnu : n ≤ u.size := by
              by_cases hn : n = 0
              · omega
              · rw [size_toList']; exact (quoteL_cut hQ hn).1
            clear hpe hud hQ htl hq2
            have hbS : Bk (w1.setCell ⟨w.heap.size, 0, none⟩ (.string nm)) w.heap.size 84 #[.string nm, .string ⟨#[]⟩] := (HBK.out.set 0 _).eq (by rfl)
            have HS := Lib.hid (And.intro hbS (HB1.out.setN (Nat.le_refl _) 0 (.string nm)))
            clear hbS
            by_cases hn : n = 0
            · subst hn
              go_wp2_with fail
              refine (quoted_say HQ hus _).mono ?_
              rintro e w3 ⟨rfl, hs3⟩
              have H3 := Lib.hid (And.intro (HS.out.1.sm hs3 (fun h => h)) (HS.out.2.trans hs3 (fun _ _ h => h)))
              have d0 := H3.out.1.at 0 (v := .string nm) rfl
              have d1 := H3.out.1.at 1 (v := .string ⟨#[]⟩) rfl
              have y0 := H3.out.1.fz 0
              have y1 := H3.out.1.fz 1
              clear hs3 c0 c1 z0 z1
              go_wp2_with fail
              refine (token_any u hus _).mono ?_
              rintro e w4 ⟨k2, hk2, hkt2, rfl, rfl⟩
              obtain ⟨v, hv⟩ : ∃ x, u.extract 0 k2 = x := ⟨_, rfl⟩
              have hvd : v.data.toList = tokPre u.data.toList := by rw [← hv, Lib.extract_data, List.drop_zero, ← hkt2]; simp
              have hvs : v.size = k2 := by rw [size_toList', hvd, ← hkt2]; simp; omega
              rw [hv]
              have hbV : Bk (w3.setCell ⟨w.heap.size, 1, none⟩ (.string v)) w.heap.size 84 #[.string nm, .string v] := (H3.out.1.set 1 _).eq (by rfl)
              have hsV := H3.out.2.setN (Nat.le_refl _) 1 (.string v)
              have HV := Lib.hid (And.intro hvd hvs)
              have hvu : v.size ≤ u.size := by omega
              have hvu2 : (v.size : Int) ≤ (u.size : Int) := by omega
              clear hv hvd hvs hkt2
              go_wp2_with fail
              generalize w3.setCell ⟨w.heap.size, 1, none⟩ (.string v) = w5 at hbV hsV ⊢
              have f0 := hbV.at 0 (v := .string nm) rfl
              have f1 := hbV.at 1 (v := .string v) rfl
              have x0 := hbV.fz 0
              have x1 := hbV.fz 1
              clear d0 d1 y0 y1
              go_region
              all_goals
                go_wp2_with fail
                have hbF : Bk ((w5.setCell ⟨w.heap.size, 0, none⟩ (.string nm)).setCell ⟨w.heap.size, 1, none⟩ (.string v)).drew w.heap.size 84 #[.string nm, .string v] := (((hbV.set 0 _).set 1 _).drew).eq (by rfl)
                have e0 := hbF.at 0 (v := .string nm) rfl
                have e1 := hbF.at 1 (v := .string v) rfl
                have hsF := ((hsV.setN (Nat.le_refl _) 0 (.string nm)).setN (Nat.le_refl _) 1 (.string v)).drew
                by_cases hv0 : v.size = 0
                · obtain ⟨_, q2⟩ := str_nil hv0
                  have hp : paramL s.data.toList = none := by rw [HPE3.out, if_pos trivial, if_pos (by rw [← HV.out.1]; exact (nil_iff v).2 hv0)]
                  rw [q2]
                  exact bodyPost_ret (v := .tuple #[.agg #[.string nm, .string v], .string (u.extract v.size u.size), .bool false]) (by simp [results, Tryd.results59, go_sem, f0, f1]) rfl ⟨hsF, Or.inl ⟨hp, _, _, _, rfl⟩⟩
                · obtain ⟨_, q2⟩ := str_cons hv0
                  have hp : paramL s.data.toList = some ((nm.data.toList, v.data.toList), (u.extract v.size u.size).data.toList) := by
                    rw [HPE3.out, if_pos trivial, if_neg (by rw [← HV.out.1]; exact fun e => hv0 ((nil_iff v).1 e)), Lib.extract_to_end, ← HV.out.1, ← size_toList']
                  rw [q2]
                  exact bodyPost_ret (v := .tuple #[.agg #[.string nm, .string v], .string (u.extract v.size u.size), .bool true]) (by simp [results, Tryd.results59, go_sem, f0, f1]) rfl ⟨hsF, Or.inr ⟨nm, v, _, hp, rfl⟩⟩
            · go_wp2_with fail
              refine (quoted_say HQ hus _).mono ?_
              rintro e w3 ⟨rfl, hs3⟩
              have H3 := Lib.hid (And.intro (HS.out.1.sm hs3 (fun h => h)) (HS.out.2.trans hs3 (fun _ _ h => h)))
              have d0 := H3.out.1.at 0 (v := .string nm) rfl
              have d1 := H3.out.1.at 1 (v := .string ⟨#[]⟩) rfl
              have y0 := H3.out.1.fz 0
              have y1 := H3.out.1.fz 1
              clear hs3 c0 c1 z0 z1
              have hn2 : 0 < n := by omega
              have hn3 : (n : Int) ≤ (u.size : Int) := by omega
              have hbV : Bk (w3.setCell ⟨w.heap.size, 1, none⟩ (.string ⟨Q.toArray⟩)) w.heap.size 84 #[.string nm, .string ⟨Q.toArray⟩] := (H3.out.1.set 1 _).eq (by rfl)
              have hsV := H3.out.2.setN (Nat.le_refl _) 1 (.string ⟨Q.toArray⟩)
              go_wp2_with fail
              generalize w3.setCell ⟨w.heap.size, 1, none⟩ (.string ⟨Q.toArray⟩) = w5 at hbV hsV ⊢
              have f0 := hbV.at 0 (v := .string nm) rfl
              have f1 := hbV.at 1 (v := .string ⟨Q.toArray⟩) rfl
              have x0 := hbV.fz 0
              have x1 := hbV.fz 1
              clear d0 d1 y0 y1
              go_region
              all_goals
                go_wp2_with fail
                have hsF := ((hsV.setN (Nat.le_refl _) 0 (.string nm)).setN (Nat.le_refl _) 1 (.string ⟨Q.toArray⟩)).drew
                have hp : paramL s.data.toList = some ((nm.data.toList, (⟨Q.toArray⟩ : ByteArray).data.toList), (u.extract n u.size).data.toList) := by
                  rw [HPE3.out, if_neg hn, Lib.extract_to_end]
                exact bodyPost_ret (v := .tuple #[.agg #[.string nm, .string ⟨Q.toArray⟩], .string (u.extract n u.size), .bool true]) (by simp [results, Tryd.results59, go_sem, f0, f1]) rfl ⟨hsF, Or.inr ⟨nm, ⟨Q.toArray⟩, _, hp, rfl⟩⟩
          · have hp : paramL s.data.toList = some ((nm.data.toList, (⟨#[]⟩ : ByteArray).data.toList), t.data.toList) := by rw [HPE2.out, htl, paramR, if_neg hq2]
            have HP := Lib.hid hp
            have hq3 : ((t[0].toNat : Int) != 61) = true := by
              simp; intro h; exact hq2 (UInt8.toNat_inj.mp (by have : (61 : UInt8).toNat = 61 := rfl; omega))
            have htz : 0 < t.size := by omega
            clear hp hq2 htl
            go_wp2_with fail
            refine bodyPost_ret (v := .tuple #[.agg #[.string nm, .string ⟨#[]⟩], .string t, .bool true]) (by simp [results, Tryd.results59, go_sem, c0, c1]) rfl ⟨?_, Or.inr ⟨nm, ⟨#[]⟩, t, HP.out, rfl⟩⟩
            exact ((HB1.out.setN (Nat.le_refl _) _ _).setN (Nat.le_refl _) _ _).setN (Nat.le_refl _) _ _
    · have hp : paramL s.data.toList = none := by rw [hl, paramL, if_neg hq]
      have HP := Lib.hid hp
      have hq1 : ((s[0].toNat : Int) != 59) = true := by
        simp; intro h; exact hq (UInt8.toNat_inj.mp (by have : (59 : UInt8).toNat = 59 := rfl; omega))
      have hz : 0 < s.size := by omega
      clear hp hl hq
      go_enter Tryd.func59, Tryd.ntmps59
      go_wp2_with fail
      refine bodyPost_ret (v := .tuple #[.agg #[.string ⟨#[]⟩, .string ⟨#[]⟩], .string s, .bool false]) (by simp [results, Tryd.results59, go_sem]) rfl ⟨?_, Or.inl ⟨HP.out, _, _, _, rfl⟩⟩
      exact (Sm.refl No w).alloc _
end Go.Proofs.YtppciofbaohpdaaDoor
