/- The document's Clean: a path without detours. -/
import Derived.Test.YtnopbhboamembaaDoorTargB
import Derived.Test.YtnopbhboamembaaDoorOwnAny
namespace Go.Proofs.YtnopbhboamembaaDoor
open Go.RowKit Go.Proofs

/-- What is true behind i bytes of q: a piece was begun at f, l stands, last was the last one. -/
def RcRel (w : World) (q : ByteArray) (T : Option (List Txt) × Txt) (v lv fv iv : Value) (wr : World) : Prop :=
  ∃ (i f : Nat) (l : List Txt) (last : ByteArray), i ≤ q.size ∧ f ≤ i ∧ iv = .int .i64 i ∧ fv = .int .i64 f ∧ lv = .string last ∧
    T = (foldC (some l) (segsB 47 (((txt q).take i).drop f) ((txt q).drop i)), (segsB 47 (((txt q).take i).drop f) ((txt q).drop i)).getLastD (txt last)) ∧ wt l ≤ f ∧ OwnT wr w.heap.size v l ∧ Sm No w wr ∧ last.size ≤ q.size
theorem txt_drop (q : ByteArray) {i : Nat} (h : i < q.size) : (txt q).drop i = q[i] :: (txt q).drop (i + 1) := drop_at q i h
theorem txt_take (q : ByteArray) {i : Nat} (h : i < q.size) : (txt q).take (i + 1) = (txt q).take i ++ [q[i]] := by
  rw [List.take_succ_eq_append_getElem (by rw [txt_len]; exact h)]
  rfl
theorem seg_other (q : ByteArray) {i f : Nat} (h : i < q.size) (hf : f ≤ i) (hc : q[i] ≠ 47) :
    segsB 47 (((txt q).take i).drop f) ((txt q).drop i) = segsB 47 (((txt q).take (i + 1)).drop f) ((txt q).drop (i + 1)) := by
  rw [txt_drop q h, segsB, if_neg hc, txt_take q h, List.drop_append_of_le_length (by rw [List.length_take, txt_len]; omega)]
theorem seg_slash (q : ByteArray) {i f : Nat} (h : i < q.size) (hc : q[i] = 47) :
    segsB 47 (((txt q).take i).drop f) ((txt q).drop i) = ((txt q).take i).drop f :: segsB 47 (((txt q).take (i + 1)).drop (i + 1)) ((txt q).drop (i + 1)) := by
  rw [txt_drop q h, segsB, if_pos hc]
  congr 2
  rw [List.drop_eq_nil_of_le (by simp; omega)]
theorem txt_extract (q : ByteArray) (f i : Nat) : txt (q.extract f i) = ((txt q).take i).drop f := by
  unfold txt
  rw [Lib.extract_data, List.drop_take]

theorem endW (last out : ByteArray) (l : List Txt) (hout : txt out = outC l) (b : Bool) (hb : (out.toList.isEmpty || last.toList.isEmpty || (last.toList == [46]) || (last.toList == [46, 46])) = b) :
    Ending.returned (.tuple #[.string (if b = true then out ++ ⟨#[47]⟩ else out), .bool true]) = .returned (cleanV (some (endC (txt last) (outC l)))) :=
  endV last out l hout b (by rw [← hb]; cases out.toList.isEmpty <;> simp)
theorem clean_own {w wr w5 : World} {v5 : Value} {l : List Txt} {p : ByteArray} (h : Sm No w wr) (hown : w5.ownsRow w.heap.size 9 1 v5 (0 + l.length) ([] ++ l.map strV)) (hs : Sm (fun b => (Value.slice (some ⟨wr.heap.size, 0, none⟩) 0 0).ownBlock = some b) (wr.alloc (.cells #[] 9)) w5) :
    (w5.alloc (.cells #[.string p] 9)).ownsRow w.heap.size 9 1 v5 l.length (l.map strV) ∧ Sm No w (w5.alloc (.cells #[.string p] 9)) ∧ OwnT w5 w.heap.size v5 l ∧ w.heap.size ≤ (w5.alloc (.cells #[.string p] 9)).heap.size := by
  have hO5 : OwnT w5 w.heap.size v5 l := by
    unfold OwnT
    rw [Nat.zero_add, List.nil_append] at hown
    exact hown
  have hS5 : Sm No w w5 := (((h.alloc (.cells #[] 9)).any (fun b => (Value.slice (some ⟨wr.heap.size, 0, none⟩) 0 0).ownBlock = some b)).trans hs (fun _ _ e => e)).mono (fun b hb e => by
    have := h.size
    simp [Value.ownBlock] at e
    omega)
  exact ⟨World.ownsRow.alloc hO5 _, hS5.alloc _, hO5, (hS5.alloc _).size⟩

set_option maxRecDepth 100000 in
set_option maxHeartbeats 4000000 in
theorem rClean_any (s : ByteArray) (hs : s.size ≤ 900000) (w : World) :
    Calls Tryd.prog 108 #[.string s] w fun e w' => e = .returned (cleanV (cleanL (txt s))) ∧ Sm No w w' := by
  by_cases h0 : s.size = 0
  · have hn : txt s = [] := List.eq_nil_of_length_eq_zero (by rw [txt_len]; exact h0)
    have hR : cleanL (txt s) = none := cleanL_no (by rw [hn]; simp)
    rw [hR]
    have h1 : s.toList.isEmpty = true := by rw [isEmpty_txt, hn]; rfl
    clear hn h0 hR
    go_enter Tryd.func108, Tryd.ntmps108
    go_wp2_with fail
    go_ret2
    exact ⟨rfl, Sm.refl _ _⟩
  · have h2 : 0 < s.size := by omega
    have h1 : s.toList.isEmpty = false := by rw [isEmpty_txt, decide_eq_false_iff_not]; intro e; have := txt_len s; rw [e] at this; simp at this; omega
    have hh := head_txt s h2
    by_cases hq0 : s[0] = 47
    · have hq : ((s[0].toNat : Int) != 47) = false := by simp [hq0]
      rw [hq0] at hh
      obtain ⟨R, hR⟩ : ∃ R, cleanL (txt s) = R := ⟨_, rfl⟩
      rw [hR]
      obtain ⟨rest, hrest⟩ : ∃ rest, txt s = 47 :: rest := by
        cases hts : txt s with
        | nil => rw [hts] at hh; cases hh
        | cons a r => rw [hts] at hh; injection hh with hh; exact ⟨r, by rw [hh]⟩
      have hqt : txt (s.extract 1 s.size ++ ⟨#[47]⟩) = rest ++ [47] := by
        rw [txt_append, txt_extract, List.take_of_length_le (by rw [txt_len]; exact Nat.le_refl _), hrest]; rfl
      have hR2 := hR
      rw [hrest, cleanL_slash] at hR2
      have hqz : (s.extract 1 s.size ++ (⟨#[47]⟩ : ByteArray)).size = s.size := by
        rw [← txt_len, hqt, ← txt_len s, hrest]; simp
      have HG := Lib.hid (And.intro hqt (And.intro hR2 hqz))
      clear hh hR h0 hq0 hqt hqz hrest hR2
      go_enter Tryd.func108, Tryd.ntmps108
      go_wp2_with fail
      generalize s.extract 1 s.size ++ (⟨#[47]⟩ : ByteArray) = q at HG ⊢
      have hqz : q.size = s.size := HG.out.2.2
      have hqs : q.size ≤ 900000 := by omega
      have HQ := Lib.hid hqz
      clear hqz
      go_loopw [4, 5, 7, 8] (fun v lv fv iv wr => RcRel w q (foldC (some []) (segsB 47 [] (txt q)), (segsB 47 [] (txt q)).getLastD []) v lv fv iv wr) (fun _ _ _ i _ => q.size - (intOf i).toNat)
      case atStart => exact ⟨0, 0, [], ⟨#[]⟩, Nat.zero_le _, Nat.le_refl _, rfl, rfl, rfl, rfl, by simp [wt], World.ownsRow_nil _ _ _ 1, Sm.refl _ _, Nat.zero_le _⟩
      case round =>
        obtain ⟨i, f, l, last, hi, hf, rfl, rfl, rfl, hT, hW, hO, hsm, hll⟩ := hrel
        obtain ⟨A0, c0, rfl, hrow, _, hnc⟩ := own_rowC hO
        have hlm : l.length ≤ 900000 := by have := wt_many l; omega
        have HK := Lib.hid (And.intro hT (And.intro hW (And.intro hO (And.intro hsm (And.intro hrow hnc)))))
        clear hT hW hO hsm hrow hnc
        have i1 : (0 : Int) ≤ (i : Int) := by omega
        have f1 : (0 : Int) ≤ (f : Int) := by omega
        have f2 : (f : Int) ≤ (i : Int) := by omega
        by_cases hlt : i < q.size
        · have i2 : (i : Int) < (q.size : Int) := by omega
          by_cases hc : q[i] = 47
          · have ht : ((q[i].toNat : Int) != 47) = false := by simp [hc]
            have hsl := seg_slash q (f := f) hlt hc
            obtain ⟨p, hp⟩ : ∃ p, q.extract f i = p := ⟨_, rfl⟩
            have htp : txt p = ((txt q).take i).drop f := by rw [← hp, txt_extract]
            have hpz : p.size = i - f := by rw [← txt_len, htp]; simp [txt_len]; omega
            have hT : (foldC (some []) (segsB 47 [] (txt q)), (segsB 47 [] (txt q)).getLastD []) = (foldC (stepC (some l) (txt p)) (segsB 47 (((txt q).take (i + 1)).drop (i + 1)) ((txt q).drop (i + 1))), (segsB 47 (((txt q).take (i + 1)).drop (i + 1)) ((txt q).drop (i + 1))).getLastD (txt p)) := by
              rw [HK.out.1, hsl, foldC_cons, List.getLastD_cons, ← htp]
            have HX := Lib.hid (And.intro hT hpz)
            have hpq : p.size ≤ q.size := by omega
            have hwn : wt l + (p.size + 1) ≤ i + 1 := by have := HK.out.2.1; omega
            clear hsl htp hpz hT hc
            have e1 : p.toList.isEmpty = decide (txt p = []) := isEmpty_txt p
            have e2 : (p.toList == [46]) = decide (txt p = [46]) := beq_txt p _
            have e3 : (p.toList == [46, 46]) = decide (txt p = [46, 46]) := beq_txt p _
            by_cases c1 : txt p = []
            · have hT := HX.out.1
              rw [stepC_skip _ _ (Or.inl c1)] at hT
              have HT := Lib.hid hT
              rw [c1] at e1
              have e1' : p.toList.isEmpty = true := e1
              clear hT e1 e2 e3 c1
              go_wp2_with fail
              exact ⟨⟨i + 1, i + 1, l, p, by omega, Nat.le_refl _, by go_num, by go_num, rfl, HT.out, by omega, HK.out.2.2.1, HK.out.2.2.2.1, hpq⟩, by simp [intOf]; omega⟩
            · have e1' : p.toList.isEmpty = false := by rw [e1, decide_eq_false_iff_not]; exact c1
              by_cases c2 : txt p = [46]
              · have hT := HX.out.1
                rw [stepC_skip _ _ (Or.inr c2)] at hT
                have HT := Lib.hid hT
                have e2' : (p.toList == [46]) = true := by rw [e2, c2]; rfl
                clear hT e1 e2 e3 c1 c2
                go_wp2_with fail
                exact ⟨⟨i + 1, i + 1, l, p, by omega, Nat.le_refl _, by go_num, by go_num, rfl, HT.out, by omega, HK.out.2.2.1, HK.out.2.2.2.1, hpq⟩, by simp [intOf]; omega⟩
              · have e2' : (p.toList == [46]) = false := by rw [e2, decide_eq_false_iff_not]; exact c2
                by_cases c3 : txt p = [46, 46]
                · have e3' : (p.toList == [46, 46]) = true := by rw [e3, c3]; rfl
                  by_cases c4 : l = []
                  · subst c4
                    have hT := HX.out.1
                    rw [c3, stepC_up0, foldC_none] at hT
                    have hR : R = none := by
                      rw [← HG.out.2.1]
                      have e := (Prod.mk.inj hT).1
                      rw [HG.out.1] at e
                      show Option.map _ (foldC (some []) (cutsL 47 rest)) = none
                      unfold cutsL
                      rw [e]; rfl
                    subst hR
                    clear hT e1 e2 e3 c1 c2 c3
                    go_wp2_with fail
                    go_ret2
                    exact ⟨rfl, HK.out.2.2.2.1⟩
                  · have hT := HX.out.1
                    rw [show stepC (some l) (txt p) = some l.dropLast by rw [c3]; exact stepC_up _ c4] at hT
                    obtain ⟨g, cap, hv, hcap, hpop⟩ := HK.out.2.2.1.pop c4
                    injection hv with hv1 hv2 hv3
                    subst hv1 hv3
                    have hl1 : 0 < l.length := List.length_pos_iff.2 c4
                    have HT := Lib.hid (And.intro hT hpop)
                    have e4 : ((l.length : Int) == 0) = false := by simp; exact c4
                    have e5 : (((l.length - 1 : Nat) : Int)) = (l.length : Int) - 1 := by omega
                    have hwd := wt_drop l
                    clear hT e1 e2 e3 c1 c2 c3 hpop c4
                    go_wp2_with fail
                    exact ⟨⟨i + 1, i + 1, l.dropLast, p, by omega, Nat.le_refl _, by go_num, by go_num, rfl, HT.out.1, by omega, (by simpa using HT.out.2), HK.out.2.2.2.1, hpq⟩, by simp [intOf]; omega⟩
                · have e3' : (p.toList == [46, 46]) = false := by rw [e3, decide_eq_false_iff_not]; exact c3
                  have hT := HX.out.1
                  rw [stepC_push _ _ c1 c2 c3] at hT
                  have HT := Lib.hid hT
                  have hB1 : w.heap.size ≤ (wr.alloc (.cells #[] 9)).heap.size := by have := HK.out.2.2.2.1.size; simp; omega
                  have h0l : A0 = none → l.length = 0 ∧ c0 = 0 := fun e => by
                    refine ⟨?_, HK.out.2.2.2.2.2 e⟩
                    rcases Nat.eq_zero_or_pos l.length with h | h
                    · exact h
                    · obtain ⟨_, _, he, _⟩ := HK.out.2.2.2.2.1 0 (strV l[0]) (by simp [h])
                      rw [e] at he; cases he
                  have HA := Lib.hid (And.intro (own_empty wr 9 1 HK.out.2.2.2.1.size) (And.intro (HK.out.2.2.2.2.1.no ((Sm.refl No wr).alloc (.cells #[] 9))) (And.intro h0l hB1)))
                  clear hT e1 e2 e3 c1 c2 c3 h0l hB1
                  go_wp2_with (first
                    | (refine wpList_push_opt rfl (.tmp 38) (.tmp 39) 39 9 rfl Tryd.underlying39 _ 1 16 infoStr rfl (by decide) (by decide) w.heap.size 0 _ [] rfl HA.out.1 A0 l.length c0 (l.map strV) rfl HA.out.2.2.1 (by simp) HA.out.2.1 (by simp [strV, Value.oneCell']) (by omega) HA.out.2.2.2 ?_; intro v5 w5 hown5 hs5 hv5; have HB := Lib.hid (clean_own (p := p) HK.out.2.2.2.1 hown5 hs5); clear hown5 hs5 hv5)
                    | (refine wpList_push rfl _ _ 39 9 rfl Tryd.underlying39 _ 1 16 infoStr rfl (by decide) (by decide) w.heap.size _ _ _ rfl HB.out.1 w5.heap.size #[.string p] rfl (Bk.new w5 _ _) rfl (by simp [Value.oneCell']) (by omega) HB.out.2.2.2 ?_; intro v6 w6 hown6 hs6 hv6))
                  have HF := Lib.hid (show OwnT w6 w.heap.size v6 (l ++ [txt p]) ∧ Sm No w w6 from ⟨OwnT.push (by rw [show strV (txt p) = .string p from strB_txt p]; exact hown6), HB.out.2.1.trans hs6 (fun b hb e => by
                    have := (World.ownsRow.lt HB.out.2.2.1 b e).1
                    omega)⟩)
                  clear hown6 hs6 hv6
                  go_wp2_with fail
                  exact ⟨⟨i + 1, i + 1, l ++ [txt p], p, by omega, Nat.le_refl _, by go_num, by go_num, rfl, HT.out, by rw [wt_push, txt_len]; omega, HF.out.1, HF.out.2, hpq⟩, by simp [intOf]; omega⟩
          · have ht : ((q[i].toNat : Int) != 47) = true := by
              have := u8_ne (c := q[i]) (n := 47) (by decide) hc
              simp at this ⊢; exact this
            have hso := seg_other q (f := f) hlt hf hc
            have hT := HK.out.1
            rw [hso] at hT
            have HT := Lib.hid hT
            clear hT hso hc
            go_wp2_with fail
            exact ⟨⟨i + 1, f, l, last, by omega, by omega, by go_num, rfl, rfl, HT.out, HK.out.2.1, HK.out.2.2.1, HK.out.2.2.2.1, hll⟩, by simp [intOf]; omega⟩
        · have hT := HK.out.1
          have hend : (txt q).drop i = [] := List.drop_eq_nil_of_le (by rw [txt_len]; omega)
          rw [hend] at hT
          have hR : R = some (endC (txt last) (outC l)) := by
            rw [← HG.out.2.1]
            rw [HG.out.1] at hT
            show Option.map (fun l => endC ((cutsL 47 rest).getLastD []) (outC l)) (foldC (some []) (cutsL 47 rest)) = _
            unfold cutsL
            rw [(Prod.mk.inj hT).1, (Prod.mk.inj hT).2]
            rfl
          have hwl : wt l ≤ q.size := by have := HK.out.2.1; omega
          have HE := Lib.hid hR
          clear hR hT hend
          go_wp2_with fail
          go_loopw [9, 10] (fun ov i wr' => OutRel w w.heap.size (.slice A0 l.length c0) l ov i wr') (fun _ i _ => l.length - (intOf i).toNat)
          case atStart => exact ⟨0, ⟨#[]⟩, Nat.zero_le _, rfl, rfl, rfl, HK.out.2.2.1, HK.out.2.2.2.1⟩
          case round =>
            obtain ⟨j, out, hj, rfl, rfl, hout, hO, hsm⟩ := hrel
            have hoz : out.size ≤ q.size := by have := outC_le l j; rw [← hout, txt_len] at this; omega
            have HO := Lib.hid (And.intro hout (And.intro hO hsm))
            clear hout hO hsm
            by_cases hlt2 : j < l.length
            · have hget : (l.map strV)[j]? = some (strV l[j]) := by simp [hlt2]
              obtain ⟨bb, off, hAe, hbb, r0⟩ := (own_rowC_at HO.out.2.1) _ _ hget
              subst hAe
              obtain ⟨p, hp⟩ : ∃ p : ByteArray, p = ⟨l[j].toArray⟩ := ⟨_, rfl⟩
              have htp : txt p = l[j] := by rw [hp]; rfl
              rw [show strV l[j] = .string p by rw [hp]; rfl] at r0
              have hnew : txt (out ++ ⟨#[47]⟩ ++ p) = outC (l.take (j + 1)) := by
                rw [outC_take_succ hlt2, txt_append, txt_append, HO.out.1, htp, List.append_assoc]; rfl
              have hnz : (out ++ ⟨#[47]⟩ ++ p).size ≤ q.size := by have := outC_le l (j + 1); rw [← hnew, txt_len] at this; omega
              have hnz0 := hnz
              rw [ByteArray.size_append, ByteArray.size_append] at hnz0
              have hone : (⟨#[47]⟩ : ByteArray).size = 1 := rfl
              have hpz : p.size ≤ q.size := by omega
              have HN := Lib.hid hnew
              have k3 : (0 : Int) ≤ (j : Int) := by omega
              have k4 : (j : Int) < (l.length : Int) := by omega
              clear hnew hget hp htp hnz hnz0 hone
              go_wp2_with fail
              exact ⟨⟨j + 1, _, by omega, by go_num, rfl, HN.out, HO.out.2.1, HO.out.2.2⟩, by simp [intOf]; omega⟩
            · have hout : txt out = outC l := by rw [HO.out.1, List.take_of_length_le (by omega)]
              have HF := Lib.hid hout
              clear hout
              go_wp2_with fail
              all_goals go_ret2
              all_goals refine ⟨?_, HO.out.2.2⟩
              all_goals rw [HE.out]
              all_goals first
                | (refine endW last out l HF.out true ?_; first | (simp [*]; done) | (simp only [Bool.or_eq_true]; assumption))
                | (refine endW last out l HF.out false ?_; first | (simp [*]; done) | (simp only [Bool.or_eq_false_iff]; assumption))
    · have hq : ((s[0].toNat : Int) != 47) = true := by
        have := u8_ne (c := s[0]) (n := 47) (by decide) hq0
        simp at this ⊢; exact this
      have hR : cleanL (txt s) = none := cleanL_no (by rw [hh]; intro e; injection e with e; exact hq0 e)
      rw [hR]
      clear hh hR h0 hq0
      go_enter Tryd.func108, Tryd.ntmps108
      go_wp2_with fail
      go_ret2
      exact ⟨rfl, Sm.refl _ _⟩
end Go.Proofs.YtnopbhboamembaaDoor
