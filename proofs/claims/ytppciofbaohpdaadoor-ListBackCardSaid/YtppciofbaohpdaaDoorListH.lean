/- Parameters: the twin's Params. -/
import Derived.Test.YtppciofbaohpdaaDoorListG
namespace Go.Proofs.YtppciofbaohpdaaDoor
open Go.RowKit Go.Proofs

theorem paramsF_16 {acc : List Par} {s : List UInt8} (h : dropL s ≠ []) : paramsF 1 acc s = none := by
  cases hp : paramL (dropL s) with
  | none => exact paramsF_none h hp
  | some x => exact paramsF_full h hp
theorem token_quote {u : List UInt8} (h : tokPre u ≠ []) : (quoteL u).2 = 0 := by
  cases u with
  | nil => rfl
  | cons c l =>
    by_cases hc : c = 34
    · subst hc
      exact absurd (show tokPre (34 :: l) = [] by unfold tokPre; rw [List.takeWhile_cons, if_neg (by decide)]) h
    · rw [quoteL, if_neg hc]
theorem rQuoted_say {s : ByteArray} {R : List UInt8 × Nat} (h : Hid (quoteL s.data.toList = R)) (hs : s.size ≤ 1000000) (w : World) : Calls Tryd.prog 30 #[.string s] w fun e w' => e = .returned (.tuple #[.string ⟨R.1.toArray⟩, .int .i64 (R.2 : Int)]) ∧ Sm No w w' := by
  rw [← h.out]; exact rQuoted_any s hs w
theorem infoRPar : (Tryd.prog.info? 61).map (fun i => (i.zero, i.size, i.bytes)) = some (some (.agg #[.string ⟨#[]⟩, .string ⟨#[]⟩]), 2, 32) := by kernel_rfl

set_option maxRecDepth 100000 in
set_option maxHeartbeats 16000000 in
theorem rParams_any (s0 : ByteArray) (hs0 : s0.size ≤ 1000000) (w : World) : Calls Tryd.prog 32 #[.string s0] w (ParamsPost 61 s0 w) := by
  go_enter Tryd.func32, Tryd.ntmps32
  go_wp2_with fail
  go_loopw [0, 4] (fun s l wr => ParRel 61 s0 w s l wr) (fun s _ _ => strLen s)
  case atStart => exact ⟨s0, [], rfl, hs0, by simp, rfl, World.ownsRow_nil _ _ _ 2, Sm.refl _ _⟩
  case round =>
    obtain ⟨x, acc, rfl, hx, hacc, hP, hO, hsm⟩ := hrel
    obtain ⟨k, hk⟩ : ∃ k, 17 - acc.length = k + 1 := ⟨16 - acc.length, by omega⟩
    rw [hk] at hP
    obtain ⟨A4, c4, hv4, _⟩ := own_rowC hO
    subst hv4
    have HP := Lib.hid (And.intro hP (And.intro hO hsm))
    clear hP hO hsm
    go_wp2_with fail
    refine (rBlanks_any x hx _).mono ?_
    rintro e w1 ⟨k1, hk1, hkd, rfl, rfl⟩
    obtain ⟨r, hr⟩ : ∃ r, x.extract k1 x.size = r := ⟨_, rfl⟩
    have hrd : r.data.toList = dropL x.data.toList := by rw [← hr, Lib.extract_to_end, hkd]
    have hrx : r.size ≤ x.size := by rw [← hr]; simp
    have q1 : (0 : Int) ≤ (k1 : Int) := by omega
    have q2 : (k1 : Int) ≤ (x.size : Int) := by omega
    have HRD := Lib.hid hrd
    clear hkd hrd
    by_cases h0 : r.size = 0
    · obtain ⟨g1, g2⟩ := str_nil h0
      have hp : paramsL s0.data.toList = some acc := by rw [HP.out.1, paramsF_end (by rw [← HRD.out]; exact (nil_iff r).2 h0)]
      have HE := Lib.hid hp
      clear hp
      go_wp2_with fail
      go_ret2
      exact Or.inl ⟨acc, _, HE.out, rfl, HP.out.2.1, hacc, HP.out.2.2⟩
    · obtain ⟨g1, g2⟩ := str_cons h0
      have hne : dropL x.data.toList ≠ [] := by rw [← HRD.out]; exact fun e => h0 ((nil_iff r).1 e)
      have HN := Lib.hid hne
      have hrz : 0 < r.size := by omega
      have hrz1 : (1 : Int) ≤ (r.size : Int) := by omega
      have hrl := drop_at r 0 hrz
      rw [List.drop_zero] at hrl
      clear hne
      by_cases hq : r[0] = 59
      · have hq1 : ((r[0].toNat : Int) != 59) = false := by simp [hq]
        by_cases h16 : acc.length = 16
        · have hp : paramsL s0.data.toList = none := by
            have e : k = 0 := by omega
            subst e
            rw [HP.out.1, paramsF_16 HN.out]
          have HE := Lib.hid hp
          have h16' : (((acc.length : Nat) : Int) == 16) = true := by rw [h16]; rfl
          clear hp hrl hq
          go_wp2_with fail
          go_ret2
          exact Or.inr ⟨HE.out, rfl, HP.out.2.2⟩
        · have h16' : (((acc.length : Nat) : Int) == 16) = false := by simp; omega
          have hpe := paramL_eq (r := r.data.toList.drop 1) hq
          rw [← hrl, HRD.out] at hpe
          obtain ⟨y, hy⟩ : ∃ y, r.extract 1 r.size = y := ⟨_, rfl⟩
          have hyd : y.data.toList = r.data.toList.drop 1 := by rw [← hy, Lib.extract_to_end]
          have hys : y.size + 1 ≤ r.size := by rw [← hy]; simp; omega
          rw [← HRD.out, ← hyd] at hpe
          have HPE := Lib.hid hpe
          clear hpe hyd hrl hq
          go_wp2_with fail
          refine (rBlanks_any y (by omega) _).mono ?_
          rintro e w2 ⟨k2, hk2, hkd2, rfl, rfl⟩
          obtain ⟨z, hz⟩ : ∃ z, y.extract k2 y.size = z := ⟨_, rfl⟩
          have hzd : z.data.toList = dropL y.data.toList := by rw [← hz, Lib.extract_to_end, hkd2]
          have hzy : z.size ≤ y.size := by rw [← hz]; simp
          have q3 : (0 : Int) ≤ (k2 : Int) := by omega
          have q4 : (k2 : Int) ≤ (y.size : Int) := by omega
          have hpe := HPE.out
          rw [← hzd] at hpe
          have HPE1 := Lib.hid hpe
          clear hkd2 hzd hpe
          go_wp2_with fail
          refine (rToken_any z (by omega) _).mono ?_
          rintro e w2 ⟨n, hn, hnt, rfl, rfl⟩
          have hnl : (tokPre z.data.toList).length = n := by rw [← hnt]; simp; omega
          have q5 : (0 : Int) ≤ (n : Int) := by omega
          have q6 : (n : Int) ≤ (z.size : Int) := by omega
          have HNT := Lib.hid (And.intro hnt hnl)
          clear hnt hnl
          by_cases hn0 : n = 0
          · subst hn0
            have hp : paramsL s0.data.toList = none := by
              rw [HP.out.1, paramsF_none HN.out (by rw [← HRD.out, HPE1.out, if_pos (List.eq_nil_of_length_eq_zero HNT.out.2)])]
            have HE := Lib.hid hp
            clear hp
            go_wp2_with fail
            go_ret2
            exact Or.inr ⟨HE.out, rfl, HP.out.2.2⟩
          · have hn0' : (((n : Nat) : Int) == 0) = false := by simpa using hn0
            obtain ⟨nm, hnm⟩ : ∃ x, z.extract 0 n = x := ⟨_, rfl⟩
            have hnd : nm.data.toList = tokPre z.data.toList := by rw [← hnm, Lib.extract_data, List.drop_zero, ← HNT.out.1]; simp
            obtain ⟨t, ht⟩ : ∃ x, z.extract n z.size = x := ⟨_, rfl⟩
            have htd : t.data.toList = z.data.toList.drop n := by rw [← ht, Lib.extract_to_end]
            have hts : t.size ≤ z.size := by rw [← ht]; simp
            have hpe := HPE1.out
            rw [if_neg (fun e => hn0 (by rw [← HNT.out.2, e]; rfl)), HNT.out.2, ← htd, ← hnd] at hpe
            have HPE2 := Lib.hid hpe
            have hb0 := Bk.new wr 61 #[.string nm, .string ⟨#[]⟩]
            have HB0 := Lib.hid (And.intro hb0 (And.intro (World.ownsRow.alloc HP.out.2.1 (.cells #[.string nm, .string ⟨#[]⟩] 61)) (HP.out.2.2.alloc (.cells #[.string nm, .string ⟨#[]⟩] 61))))
            clear hpe hnd htd hb0
            by_cases ht0 : t.size = 0
            · obtain ⟨g3, g4⟩ := str_nil ht0
              have hyes : paramL (dropL x.data.toList) = some ((nm.data.toList, (⟨#[]⟩ : ByteArray).data.toList), t.data.toList) := by rw [← HRD.out, HPE2.out, (nil_iff t).2 ht0]; rfl
              have HYES := Lib.hid hyes
              clear hyes
              have hyes := HYES.out
              have hql : t.size < x.size := by
                have h1 := paramL_len hyes
                have h2 := dropL_le x.data.toList
                rw [size_toList', size_toList' x]
                omega
              have hp : paramsL s0.data.toList = paramsF (17 - (acc ++ [(nm.data.toList, (⟨#[]⟩ : ByteArray).data.toList)]).length) (acc ++ [(nm.data.toList, (⟨#[]⟩ : ByteArray).data.toList)]) t.data.toList := by
                rw [HP.out.1, paramsF_some HN.out hyes (by omega)]
                congr 1
                simp; omega
              have HE := Lib.hid hp
              clear hp hyes
              go_wp2_with (refine wpList_push rfl _ _ 56 61 rfl Tryd.underlying56 _ 2 32 infoRPar rfl (by decide) (by decide) w.heap.size _ (.slice A4 acc.length c4) _ rfl (World.ownsRow.alloc HB0.out.2.1 _) _ #[.string nm, .string (⟨#[]⟩ : ByteArray)] rfl (Bk.newAt _ _ _ (by simp)) rfl (by simp [Value.oneCell']) (by omega) (by have := HB0.out.2.2.size; simp at this ⊢; omega) ?_; intro v' w5 hown5 hs5 hv5)
              have hO5 : OwnP 61 w5 w.heap.size v' (acc ++ [(nm.data.toList, (⟨#[]⟩ : ByteArray).data.toList)]) := by
                unfold OwnP
                rw [parCells_snoc, List.length_append]
                exact hown5
              have hS5 : Sm No w w5 := (HB0.out.2.2.alloc (.cells #[.string nm, .string (⟨#[]⟩ : ByteArray)] 61)).trans hs5 (fun b hb e => by
                have := (World.ownsRow.lt HB0.out.2.1 b e).1
                omega)
              have H5 := Lib.hid (And.intro hO5 hS5)
              clear hO5 hS5 hown5 hs5 hv5
              go_wp2_with fail
              exact ⟨⟨t, acc ++ [(nm.data.toList, (⟨#[]⟩ : ByteArray).data.toList)], rfl, by omega, by simp; omega, HE.out, H5.out.1, H5.out.2⟩, by simp [strLen]; omega⟩
            · obtain ⟨g3, g4⟩ := str_cons ht0
              have htz : 0 < t.size := by omega
              have htz1 : (1 : Int) ≤ (t.size : Int) := by omega
              have htl := drop_at t 0 htz
              rw [List.drop_zero] at htl
              by_cases hq2 : t[0] = 61
              · have hq3 : ((t[0].toNat : Int) == 61) = true := by simp [hq2]
                obtain ⟨u, hu⟩ : ∃ x, t.extract 1 t.size = x := ⟨_, rfl⟩
                have hud : u.data.toList = t.data.toList.drop 1 := by rw [← hu, Lib.extract_to_end]
                have hus : u.size ≤ 1000000 := by rw [← hu]; simp; omega
                have hpe := HPE2.out
                rw [htl, paramR, if_pos hq2, ← hud, HRD.out] at hpe
                have HPE3 := Lib.hid hpe
                clear hud htl hq2 hpe
                go_wp2_with fail
                obtain ⟨wa, hwa⟩ : ∃ wa, wr.alloc (.cells #[.string nm, .string ⟨#[]⟩] 61) = wa := ⟨_, rfl⟩
                rw [hwa] at HB0 ⊢
                clear hwa
                refine (rToken_any u hus _).mono ?_
                rintro e w2 ⟨n2, hn2, hnt2, rfl, rfl⟩
                have q7 : (0 : Int) ≤ (n2 : Int) := by omega
                have q8 : (n2 : Int) ≤ (u.size : Int) := by omega
                have hnl2 : (tokPre u.data.toList).length = n2 := by rw [← hnt2]; simp; omega
                obtain ⟨v, hv⟩ : ∃ x, u.extract 0 n2 = x := ⟨_, rfl⟩
                have hvd : v.data.toList = tokPre u.data.toList := by rw [← hv, Lib.extract_data, List.drop_zero, ← hnt2]; simp
                have d0 := HB0.out.1.at 0 (v := .string nm) rfl
                have d1 := HB0.out.1.at 1 (v := .string ⟨#[]⟩) rfl
                have y1 := HB0.out.1.fz 1
                have hbV : Bk (wa.setCell ⟨wr.heap.size, 1, none⟩ (.string v)) wr.heap.size 61 #[.string nm, .string v] := (HB0.out.1.set 1 _).eq (by rfl)
                have hne4 : ∀ b, (Value.slice A4 acc.length c4).ownBlock = some b → b ≠ wr.heap.size := fun b hb e => by
                  have := (World.ownsRow.lt HP.out.2.1 b hb).2
                  omega
                have hoV := own_row_sm HB0.out.2.1 ((Sm.refl (fun x => x = wr.heap.size) wa).set1 1 (.string v)) hne4
                have hwr := HP.out.2.2.size
                have hsV := HB0.out.2.2.setN (g := wr.heap.size) hwr 1 (.string v)
                have HB1 := Lib.hid (And.intro hbV (And.intro hoV hsV))
                have HV := Lib.hid (And.intro hvd hnl2)
                have HNE := Lib.hid hne4
                clear hbV hoV hsV hvd hnl2 hnt2 hne4
                by_cases hn3 : n2 = 0
                · subst hn3
                  obtain rfl : v = ByteArray.empty := by rw [← hv]; simp
                  clear hv
                  obtain ⟨⟨Q, m⟩, hQ⟩ : ∃ R, quoteL u.data.toList = R := ⟨_, rfl⟩
                  have hpe := HPE3.out
                  rw [hQ, if_pos (List.eq_nil_of_length_eq_zero HV.out.2)] at hpe
                  have HPE4 := Lib.hid hpe
                  have HQ := Lib.hid hQ
                  have hmu : m ≤ u.size := by
                    by_cases hm : m = 0
                    · omega
                    · rw [size_toList']; exact (quoteL_cut hQ hm).1
                  clear hpe hQ
                  go_wp2_with fail
                  obtain ⟨wb, hwb⟩ : ∃ wb, wa.setCell ⟨wr.heap.size, 1, none⟩ (.string ByteArray.empty) = wb := ⟨_, rfl⟩
                  rw [hwb] at HB1 ⊢
                  clear hwb d0 d1 y1
                  refine (rQuoted_say HQ hus _).mono ?_
                  rintro e w6 ⟨rfl, hs6⟩
                  have H6 := Lib.hid (And.intro (HB1.out.1.sm hs6 (fun h => h)) (And.intro (own_row_sm HB1.out.2.1 hs6 (fun _ _ h => h)) (HB1.out.2.2.trans hs6 (fun _ _ h => h))))
                  have d2 := H6.out.1.at 1 (v := .string ByteArray.empty) rfl
                  have y2 := H6.out.1.fz 1
                  have hbQ : Bk (w6.setCell ⟨wr.heap.size, 1, none⟩ (.string ⟨Q.toArray⟩)) wr.heap.size 61 #[.string nm, .string ⟨Q.toArray⟩] := (H6.out.1.set 1 _).eq (by rfl)
                  have hoQ := own_row_sm H6.out.2.1 ((Sm.refl (fun x => x = wr.heap.size) w6).set1 1 (.string ⟨Q.toArray⟩)) HNE.out
                  have hsQ := H6.out.2.2.setN (g := wr.heap.size) hwr 1 (.string ⟨Q.toArray⟩)
                  have HBQ := Lib.hid (And.intro hbQ (And.intro hoQ hsQ))
                  clear hs6 hbQ hoQ hsQ
                  by_cases hm : m = 0
                  · subst hm
                    have hp : paramsL s0.data.toList = none := by
                      rw [HP.out.1, paramsF_none HN.out (by rw [HPE4.out, if_pos rfl])]
                    have HE := Lib.hid hp
                    clear hp
                    go_wp2_with fail
                    go_ret2
                    exact Or.inr ⟨HE.out, rfl, HBQ.out.2.2⟩
                  · have hm2 : (((m : Nat) : Int) == 0) = false := by simpa using hm
                    have hm3 : (m : Int) ≤ (u.size : Int) := by omega
                    have hm4 : (0 : Int) ≤ (m : Int) := by omega
                    obtain ⟨q, hqq⟩ : ∃ x, u.extract m u.size = x := ⟨_, rfl⟩
                    have hyes : paramL (dropL x.data.toList) = some ((nm.data.toList, (⟨Q.toArray⟩ : ByteArray).data.toList), q.data.toList) := by
                      rw [HPE4.out, if_neg hm, ← hqq, Lib.extract_to_end]
                    have HYES := Lib.hid hyes
                    clear hyes
                    have d3 := H6.out.1.at 0 (v := .string nm) rfl
                    have hyes := HYES.out
                    have hql : q.size < x.size := by
                      have h1 := paramL_len hyes
                      have h2 := dropL_le x.data.toList
                      rw [size_toList', size_toList' x]
                      omega
                    have hp : paramsL s0.data.toList = paramsF (17 - (acc ++ [(nm.data.toList, (⟨Q.toArray⟩ : ByteArray).data.toList)]).length) (acc ++ [(nm.data.toList, (⟨Q.toArray⟩ : ByteArray).data.toList)]) q.data.toList := by
                      rw [HP.out.1, paramsF_some HN.out hyes (by omega)]
                      congr 1
                      simp; omega
                    have HE := Lib.hid hp
                    clear hp hyes
                    go_wp2_with (refine wpList_push rfl _ _ 56 61 rfl Tryd.underlying56 _ 2 32 infoRPar rfl (by decide) (by decide) w.heap.size _ (.slice A4 acc.length c4) _ rfl (World.ownsRow.alloc HBQ.out.2.1 _) _ #[.string nm, .string (⟨Q.toArray⟩ : ByteArray)] rfl (Bk.newAt _ _ _ (by simp)) rfl (by simp [Value.oneCell']) (by omega) (by have := HBQ.out.2.2.size; simp at this ⊢; omega) ?_; intro v' w5 hown5 hs5 hv5)
                    have hO5 : OwnP 61 w5 w.heap.size v' (acc ++ [(nm.data.toList, (⟨Q.toArray⟩ : ByteArray).data.toList)]) := by
                      unfold OwnP
                      rw [parCells_snoc, List.length_append]
                      exact hown5
                    have hS5 : Sm No w w5 := (HBQ.out.2.2.alloc (.cells #[.string nm, .string (⟨Q.toArray⟩ : ByteArray)] 61)).trans hs5 (fun b hb e => by
                      have := (World.ownsRow.lt HBQ.out.2.1 b e).1
                      omega)
                    have H5 := Lib.hid (And.intro hO5 hS5)
                    clear hO5 hS5 hown5 hs5 hv5
                    go_wp2_with fail
                    exact ⟨⟨q, acc ++ [(nm.data.toList, (⟨Q.toArray⟩ : ByteArray).data.toList)], rfl, by omega, by simp; omega, HE.out, H5.out.1, H5.out.2⟩, by simp [strLen]; omega⟩
                · have hn3' : (((n2 : Nat) : Int) == 0) = false := by simpa using hn3
                  have htk : tokPre u.data.toList ≠ [] := fun e => hn3 (by rw [← HV.out.2, e]; rfl)
                  obtain ⟨q, hqq⟩ : ∃ x, u.extract n2 u.size = x := ⟨_, rfl⟩
                  have hyes : paramL (dropL x.data.toList) = some ((nm.data.toList, v.data.toList), q.data.toList) := by
                    rw [HPE3.out, if_pos (token_quote htk), if_neg htk, ← hqq, Lib.extract_to_end, HV.out.1, HV.out.2]
                  have HYES := Lib.hid hyes
                  clear hyes htk
                  have hyes := HYES.out
                  have hql : q.size < x.size := by
                    have h1 := paramL_len hyes
                    have h2 := dropL_le x.data.toList
                    rw [size_toList', size_toList' x]
                    omega
                  have hp : paramsL s0.data.toList = paramsF (17 - (acc ++ [(nm.data.toList, v.data.toList)]).length) (acc ++ [(nm.data.toList, v.data.toList)]) q.data.toList := by
                    rw [HP.out.1, paramsF_some HN.out hyes (by omega)]
                    congr 1
                    simp; omega
                  have HE := Lib.hid hp
                  clear hp hyes
                  go_wp2_with (refine wpList_push rfl _ _ 56 61 rfl Tryd.underlying56 _ 2 32 infoRPar rfl (by decide) (by decide) w.heap.size _ (.slice A4 acc.length c4) _ rfl (World.ownsRow.alloc HB1.out.2.1 _) _ #[.string nm, .string v] rfl (Bk.newAt _ _ _ (by simp)) rfl (by simp [Value.oneCell']) (by omega) (by have := HB1.out.2.2.size; simp at this ⊢; omega) ?_; intro v' w5 hown5 hs5 hv5)
                  have hO5 : OwnP 61 w5 w.heap.size v' (acc ++ [(nm.data.toList, v.data.toList)]) := by
                    unfold OwnP
                    rw [parCells_snoc, List.length_append]
                    exact hown5
                  have hS5 : Sm No w w5 := (HB1.out.2.2.alloc (.cells #[.string nm, .string v] 61)).trans hs5 (fun b hb e => by
                    have := (World.ownsRow.lt HB1.out.2.1 b e).1
                    omega)
                  have H5 := Lib.hid (And.intro hO5 hS5)
                  clear hO5 hS5 hown5 hs5 hv5
                  go_wp2_with fail
                  exact ⟨⟨q, acc ++ [(nm.data.toList, v.data.toList)], rfl, by omega, by simp; omega, HE.out, H5.out.1, H5.out.2⟩, by simp [strLen]; omega⟩
              · have hq3 : ((t[0].toNat : Int) == 61) = false := by
                  simp; intro h; exact hq2 (UInt8.toNat_inj.mp (by have : (61 : UInt8).toNat = 61 := rfl; omega))
                have hyes : paramL (dropL x.data.toList) = some ((nm.data.toList, (⟨#[]⟩ : ByteArray).data.toList), t.data.toList) := by rw [← HRD.out, HPE2.out, htl, paramR, if_neg hq2]
                have HYES := Lib.hid hyes
                clear hyes htl hq2
                have hyes := HYES.out
                have hql : t.size < x.size := by
                  have h1 := paramL_len hyes
                  have h2 := dropL_le x.data.toList
                  rw [size_toList', size_toList' x]
                  omega
                have hp : paramsL s0.data.toList = paramsF (17 - (acc ++ [(nm.data.toList, (⟨#[]⟩ : ByteArray).data.toList)]).length) (acc ++ [(nm.data.toList, (⟨#[]⟩ : ByteArray).data.toList)]) t.data.toList := by
                  rw [HP.out.1, paramsF_some HN.out hyes (by omega)]
                  congr 1
                  simp; omega
                have HE := Lib.hid hp
                clear hp hyes
                go_wp2_with (refine wpList_push rfl _ _ 56 61 rfl Tryd.underlying56 _ 2 32 infoRPar rfl (by decide) (by decide) w.heap.size _ (.slice A4 acc.length c4) _ rfl (World.ownsRow.alloc HB0.out.2.1 _) _ #[.string nm, .string (⟨#[]⟩ : ByteArray)] rfl (Bk.newAt _ _ _ (by simp)) rfl (by simp [Value.oneCell']) (by omega) (by have := HB0.out.2.2.size; simp at this ⊢; omega) ?_; intro v' w5 hown5 hs5 hv5)
                have hO5 : OwnP 61 w5 w.heap.size v' (acc ++ [(nm.data.toList, (⟨#[]⟩ : ByteArray).data.toList)]) := by
                  unfold OwnP
                  rw [parCells_snoc, List.length_append]
                  exact hown5
                have hS5 : Sm No w w5 := (HB0.out.2.2.alloc (.cells #[.string nm, .string (⟨#[]⟩ : ByteArray)] 61)).trans hs5 (fun b hb e => by
                  have := (World.ownsRow.lt HB0.out.2.1 b e).1
                  omega)
                have H5 := Lib.hid (And.intro hO5 hS5)
                clear hO5 hS5 hown5 hs5 hv5
                go_wp2_with fail
                exact ⟨⟨t, acc ++ [(nm.data.toList, (⟨#[]⟩ : ByteArray).data.toList)], rfl, by omega, by simp; omega, HE.out, H5.out.1, H5.out.2⟩, by simp [strLen]; omega⟩
      · have hp : paramsL s0.data.toList = none := by rw [HP.out.1, paramsF_none HN.out (by rw [← HRD.out, hrl, paramL, if_neg hq])]
        have HE := Lib.hid hp
        have hq1 : ((r[0].toNat : Int) != 59) = true := by
          simp; intro h; exact hq (UInt8.toNat_inj.mp (by have : (59 : UInt8).toNat = 59 := rfl; omega))
        clear hp hrl hq
        go_wp2_with fail
        go_ret2
        exact Or.inr ⟨HE.out, rfl, HP.out.2.2⟩
end Go.Proofs.YtppciofbaohpdaaDoor
