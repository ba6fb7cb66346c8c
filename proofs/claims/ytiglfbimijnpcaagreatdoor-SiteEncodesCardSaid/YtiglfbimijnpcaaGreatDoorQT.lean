/- The document's Clean: a path without detours. -/
/- The document's Router: what a pattern is; whether a text is among some. -/
/- At a step of a region that draws its order: a slice of the call's own grown by a whole other one, nil or not. -/
/- The document's Router in memory; Add. -/
import Derived.Test.YtiglfbimijnpcaaGreatDoorQI
import Derived.Test.YtiglfbimijnpcaaGreatDoorQO
import Derived.Test.YtiglfbimijnpcaaGreatDoorQR
import Derived.Deep.QuietTactic
import Derived.BigQuiet
import Derived.Deep.RegionHeld3
namespace Go.Proofs.YtiglfbimijnpcaaGreatDoor
open Go.RowKit Go.Proofs

/-- What is true behind i bytes of q: a piece was begun at f, l stands, last was the last one. -/
def RcRel (w : World) (q : ByteArray) (T : Option (List Txt) × Txt) (v lv fv iv : Value) (wr : World) : Prop :=
  ∃ (i f : Nat) (l : List Txt) (last : ByteArray), i ≤ q.size ∧ f ≤ i ∧ iv = .int .i64 i ∧ fv = .int .i64 f ∧ lv = .string last ∧
    T = (foldC (some l) (segsB 47 (((txt q).take i).drop f) ((txt q).drop i)), (segsB 47 (((txt q).take i).drop f) ((txt q).drop i)).getLastD (txt last)) ∧ wt l ≤ f ∧ OwnT wr w.heap.size v l ∧ Sm No w wr ∧ last.size ≤ q.size
theorem txt_drop (q : ByteArray) {i : Nat} (h : i < q.size) : (txt q).drop i = q[i] :: (txt q).drop (i + 1) := drop_at q i h
theorem txt_take (q : ByteArray) {i : Nat} (h : i < q.size) : (txt q).take (i + 1) = (txt q).take i ++ [q[i]] := by
  rw [List.take_succ_eq_append_getElem (by rw [txt_len]; exact h)]
  rfl
theorem seg_other (q : ByteArray) {i f : Nat} (h : i < q.size) (hf : f ≤ i) (hc : q[i] ≠ 47) :
    segsB 47 (((txt q).take i).drop f) ((txt q).drop i) = segsB 47 (((txt q).take (i + 1)).drop f) ((txt q).drop (i + 1)) := by
  rw [txt_drop q h, segsB, if_neg hc, txt_take q h, List.drop_append_of_le_length (by rw [List.length_take, txt_len]; omega)]
theorem seg_slash (q : ByteArray) {i f : Nat} (h : i < q.size) (hc : q[i] = 47) :
    segsB 47 (((txt q).take i).drop f) ((txt q).drop i) = ((txt q).take i).drop f :: segsB 47 (((txt q).take (i + 1)).drop (i + 1)) ((txt q).drop (i + 1)) := by
  rw [txt_drop q h, segsB, if_pos hc]
  congr 2
  rw [List.drop_eq_nil_of_le (by simp; omega)]
theorem txt_extract (q : ByteArray) (f i : Nat) : txt (q.extract f i) = ((txt q).take i).drop f := by
  unfold txt
  rw [Lib.extract_data, List.drop_take]

theorem endW (last out : ByteArray) (l : List Txt) (hout : txt out = outC l) (b : Bool) (hb : (out.toList.isEmpty || last.toList.isEmpty || (last.toList == [46]) || (last.toList == [46, 46])) = b) :
    Ending.returned (.tuple #[.string (if b = true then out ++ ⟨#[47]⟩ else out), .bool true]) = .returned (cleanV (some (endC (txt last) (outC l)))) :=
  endV last out l hout b (by rw [← hb]; cases out.toList.isEmpty <;> simp)
theorem clean_own {w wr w5 : World} {v5 : Value} {l : List Txt} {p : ByteArray} (h : Sm No w wr) (hown : w5.ownsRow w.heap.size 9 1 v5 (0 + l.length) ([] ++ l.map strV)) (hs : Sm (fun b => (Value.slice (some ⟨wr.heap.size, 0, none⟩) 0 0).ownBlock = some b) (wr.alloc (.cells #[] 9)) w5) :
    (w5.alloc (.cells #[.string p] 9)).ownsRow w.heap.size 9 1 v5 l.length (l.map strV) ∧ Sm No w (w5.alloc (.cells #[.string p] 9)) ∧ OwnT w5 w.heap.size v5 l ∧ w.heap.size ≤ (w5.alloc (.cells #[.string p] 9)).heap.size := by
  have hO5 : OwnT w5 w.heap.size v5 l := by
    unfold OwnT
    rw [Nat.zero_add, List.nil_append] at hown
    exact hown
  have hS5 : Sm No w w5 := (((h.alloc (.cells #[] 9)).any (fun b => (Value.slice (some ⟨wr.heap.size, 0, none⟩) 0 0).ownBlock = some b)).trans hs (fun _ _ e => e)).mono (fun b hb e => by
    have := h.size
    simp [Value.ownBlock] at e
    omega)
  exact ⟨World.ownsRow.alloc hO5 _, hS5.alloc _, hO5, (hS5.alloc _).size⟩

set_option maxRecDepth 100000 in
set_option maxHeartbeats 4000000 in
theorem rClean_any (s : ByteArray) (hs : s.size ≤ 900000) (w : World) :
    Calls Tryz.prog 64 #[.string s] w fun e w' => e = .returned (cleanV (cleanL (txt s))) ∧ Sm No w w' := by
  by_cases h0 : s.size = 0
  · have hn : txt s = [] := List.eq_nil_of_length_eq_zero (by rw [txt_len]; exact h0)
    have hR : cleanL (txt s) = none := cleanL_no (by rw [hn]; simp)
    rw [hR]
    have h1 : s.toList.isEmpty = true := by rw [isEmpty_txt, hn]; rfl
    clear hn h0 hR
    go_enter Tryz.func64, Tryz.ntmps64
    go_wp2_with fail
    go_ret2
    exact ⟨rfl, Sm.refl _ _⟩
  · have h2 : 0 < s.size := by omega
    have h1 : s.toList.isEmpty = false := by rw [isEmpty_txt, decide_eq_false_iff_not]; intro e; have := txt_len s; rw [e] at this; simp at this; omega
    have hh := head_txt s h2
    by_cases hq0 : s[0] = 47
    · have hq : ((s[0].toNat : Int) != 47) = false := by simp [hq0]
      rw [hq0] at hh
      obtain ⟨R, hR⟩ : ∃ R, cleanL (txt s) = R := ⟨_, rfl⟩
      rw [hR]
      obtain ⟨rest, hrest⟩ : ∃ rest, txt s = 47 :: rest := by
        cases hts : txt s with
        | nil => rw [hts] at hh; cases hh
        | cons a r => rw [hts] at hh; injection hh with hh; exact ⟨r, by rw [hh]⟩
      have hqt : txt (s.extract 1 s.size ++ ⟨#[47]⟩) = rest ++ [47] := by
        rw [txt_append, txt_extract, List.take_of_length_le (by rw [txt_len]; exact Nat.le_refl _), hrest]; rfl
      have hR2 := hR
      rw [hrest, cleanL_slash] at hR2
      have hqz : (s.extract 1 s.size ++ (⟨#[47]⟩ : ByteArray)).size = s.size := by
        rw [← txt_len, hqt, ← txt_len s, hrest]; simp
      have HG := Lib.hid (And.intro hqt (And.intro hR2 hqz))
      clear hh hR h0 hq0 hqt hqz hrest hR2
      go_enter Tryz.func64, Tryz.ntmps64
      go_wp2_with fail
      generalize s.extract 1 s.size ++ (⟨#[47]⟩ : ByteArray) = q at HG ⊢
      have hqz : q.size = s.size := HG.out.2.2
      have hqs : q.size ≤ 900000 := by omega
      have HQ := Lib.hid hqz
      clear hqz
      go_loopw [4, 5, 7, 8] (fun v lv fv iv wr => RcRel w q (foldC (some []) (segsB 47 [] (txt q)), (segsB 47 [] (txt q)).getLastD []) v lv fv iv wr) (fun _ _ _ i _ => q.size - (intOf i).toNat)
      case atStart => exact ⟨0, 0, [], ⟨#[]⟩, Nat.zero_le _, Nat.le_refl _, rfl, rfl, rfl, rfl, by simp [wt], World.ownsRow_nil _ _ _ 1, Sm.refl _ _, Nat.zero_le _⟩
      case round =>
        obtain ⟨i, f, l, last, hi, hf, rfl, rfl, rfl, hT, hW, hO, hsm, hll⟩ := hrel
        obtain ⟨A0, c0, rfl, hrow, _, hnc⟩ := own_rowC hO
        have hlm : l.length ≤ 900000 := by have := wt_many l; omega
        have HK := Lib.hid (And.intro hT (And.intro hW (And.intro hO (And.intro hsm (And.intro hrow hnc)))))
        clear hT hW hO hsm hrow hnc
        have i1 : (0 : Int) ≤ (i : Int) := by omega
        have f1 : (0 : Int) ≤ (f : Int) := by omega
        have f2 : (f : Int) ≤ (i : Int) := by omega
        by_cases hlt : i < q.size
        · have i2 : (i : Int) < (q.size : Int) := by omega
          by_cases hc : q[i] = 47
          · have ht : ((q[i].toNat : Int) != 47) = false := by simp [hc]
            have hsl := seg_slash q (f := f) hlt hc
            obtain ⟨p, hp⟩ : ∃ p, q.extract f i = p := ⟨_, rfl⟩
            have htp : txt p = ((txt q).take i).drop f := by rw [← hp, txt_extract]
            have hpz : p.size = i - f := by rw [← txt_len, htp]; simp [txt_len]; omega
            have hT : (foldC (some []) (segsB 47 [] (txt q)), (segsB 47 [] (txt q)).getLastD []) = (foldC (stepC (some l) (txt p)) (segsB 47 (((txt q).take (i + 1)).drop (i + 1)) ((txt q).drop (i + 1))), (segsB 47 (((txt q).take (i + 1)).drop (i + 1)) ((txt q).drop (i + 1))).getLastD (txt p)) := by
              rw [HK.out.1, hsl, foldC_cons, List.getLastD_cons, ← htp]
            have HX := Lib.hid (And.intro hT hpz)
            have hpq : p.size ≤ q.size := by omega
            have hwn : wt l + (p.size + 1) ≤ i + 1 := by have := HK.out.2.1; omega
            clear hsl htp hpz hT hc
            have e1 : p.toList.isEmpty = decide (txt p = []) := isEmpty_txt p
            have e2 : (p.toList == [46]) = decide (txt p = [46]) := beq_txt p _
            have e3 : (p.toList == [46, 46]) = decide (txt p = [46, 46]) := beq_txt p _
            by_cases c1 : txt p = []
            · have hT := HX.out.1
              rw [stepC_skip _ _ (Or.inl c1)] at hT
              have HT := Lib.hid hT
              rw [c1] at e1
              have e1' : p.toList.isEmpty = true := e1
              clear hT e1 e2 e3 c1
              go_wp2_with fail
              exact ⟨⟨i + 1, i + 1, l, p, by omega, Nat.le_refl _, by go_num, by go_num, rfl, HT.out, by omega, HK.out.2.2.1, HK.out.2.2.2.1, hpq⟩, by simp [intOf]; omega⟩
            · have e1' : p.toList.isEmpty = false := by rw [e1, decide_eq_false_iff_not]; exact c1
              by_cases c2 : txt p = [46]
              · have hT := HX.out.1
                rw [stepC_skip _ _ (Or.inr c2)] at hT
                have HT := Lib.hid hT
                have e2' : (p.toList == [46]) = true := by rw [e2, c2]; rfl
                clear hT e1 e2 e3 c1 c2
                go_wp2_with fail
                exact ⟨⟨i + 1, i + 1, l, p, by omega, Nat.le_refl _, by go_num, by go_num, rfl, HT.out, by omega, HK.out.2.2.1, HK.out.2.2.2.1, hpq⟩, by simp [intOf]; omega⟩
              · have e2' : (p.toList == [46]) = false := by rw [e2, decide_eq_false_iff_not]; exact c2
                by_cases c3 : txt p = [46, 46]
                · have e3' : (p.toList == [46, 46]) = true := by rw [e3, c3]; rfl
                  by_cases c4 : l = []
                  · subst c4
                    have hT := HX.out.1
                    rw [c3, stepC_up0, foldC_none] at hT
                    have hR : R = none := by
                      rw [← HG.out.2.1]
                      have e := (Prod.mk.inj hT).1
                      rw [HG.out.1] at e
                      show Option.map _ (foldC (some []) (cutsL 47 rest)) = none
                      unfold cutsL
                      rw [e]; rfl
                    subst hR
                    clear hT e1 e2 e3 c1 c2 c3
                    go_wp2_with fail
                    go_ret2
                    exact ⟨rfl, HK.out.2.2.2.1⟩
                  · have hT := HX.out.1
                    rw [show stepC (some l) (txt p) = some l.dropLast by rw [c3]; exact stepC_up _ c4] at hT
                    obtain ⟨g, cap, hv, hcap, hpop⟩ := HK.out.2.2.1.pop c4
                    injection hv with hv1 hv2 hv3
                    subst hv1 hv3
                    have hl1 : 0 < l.length := List.length_pos_iff.2 c4
                    have HT := Lib.hid (And.intro hT hpop)
                    have e4 : ((l.length : Int) == 0) = false := by simp; exact c4
                    have e5 : (((l.length - 1 : Nat) : Int)) = (l.length : Int) - 1 := by omega
                    have hwd := wt_drop l
                    clear hT e1 e2 e3 c1 c2 c3 hpop c4
                    go_wp2_with fail
                    exact ⟨⟨i + 1, i + 1, l.dropLast, p, by omega, Nat.le_refl _, by go_num, by go_num, rfl, HT.out.1, by omega, (by simpa using HT.out.2), HK.out.2.2.2.1, hpq⟩, by simp [intOf]; omega⟩
                · have e3' : (p.toList == [46, 46]) = false := by rw [e3, decide_eq_false_iff_not]; exact c3
                  have hT := HX.out.1
                  rw [stepC_push _ _ c1 c2 c3] at hT
                  have HT := Lib.hid hT
                  have hB1 : w.heap.size ≤ (wr.alloc (.cells #[] 9)).heap.size := by have := HK.out.2.2.2.1.size; simp; omega
                  have h0l : A0 = none → l.length = 0 ∧ c0 = 0 := fun e => by
                    refine ⟨?_, HK.out.2.2.2.2.2 e⟩
                    rcases Nat.eq_zero_or_pos l.length with h | h
                    · exact h
                    · obtain ⟨_, _, he, _⟩ := HK.out.2.2.2.2.1 0 (strV l[0]) (by simp [h])
                      rw [e] at he; cases he
                  have HA := Lib.hid (And.intro (own_empty wr 9 1 HK.out.2.2.2.1.size) (And.intro (HK.out.2.2.2.2.1.no ((Sm.refl No wr).alloc (.cells #[] 9))) (And.intro h0l hB1)))
                  clear hT e1 e2 e3 c1 c2 c3 h0l hB1
                  go_wp2_with (first
                    | (refine wpList_push_opt rfl (.tmp 38) (.tmp 39) 82 9 rfl Tryz.underlying82 _ 1 16 infoStr rfl (by decide) (by decide) w.heap.size 0 _ [] rfl HA.out.1 A0 l.length c0 (l.map strV) rfl HA.out.2.2.1 (by simp) HA.out.2.1 (by simp [strV, Value.oneCell']) (by omega) HA.out.2.2.2 ?_; intro v5 w5 hown5 hs5 hv5; have HB := Lib.hid (clean_own (p := p) HK.out.2.2.2.1 hown5 hs5); clear hown5 hs5 hv5)
                    | (refine wpList_push rfl _ _ 82 9 rfl Tryz.underlying82 _ 1 16 infoStr rfl (by decide) (by decide) w.heap.size _ _ _ rfl HB.out.1 w5.heap.size #[.string p] rfl (Bk.new w5 _ _) rfl (by simp [Value.oneCell']) (by omega) HB.out.2.2.2 ?_; intro v6 w6 hown6 hs6 hv6))
                  have HF := Lib.hid (show OwnT w6 w.heap.size v6 (l ++ [txt p]) ∧ Sm No w w6 from ⟨OwnT.push (by rw [show strV (txt p) = .string p from strB_txt p]; exact hown6), HB.out.2.1.trans hs6 (fun b hb e => by
                    have := (World.ownsRow.lt HB.out.2.2.1 b e).1
                    omega)⟩)
                  clear hown6 hs6 hv6
                  go_wp2_with fail
                  exact ⟨⟨i + 1, i + 1, l ++ [txt p], p, by omega, Nat.le_refl _, by go_num, by go_num, rfl, HT.out, by rw [wt_push, txt_len]; omega, HF.out.1, HF.out.2, hpq⟩, by simp [intOf]; omega⟩
          · have ht : ((q[i].toNat : Int) != 47) = true := by
              have := u8_ne (c := q[i]) (n := 47) (by decide) hc
              simp at this ⊢; exact this
            have hso := seg_other q (f := f) hlt hf hc
            have hT := HK.out.1
            rw [hso] at hT
            have HT := Lib.hid hT
            clear hT hso hc
            go_wp2_with fail
            exact ⟨⟨i + 1, f, l, last, by omega, by omega, by go_num, rfl, rfl, HT.out, HK.out.2.1, HK.out.2.2.1, HK.out.2.2.2.1, hll⟩, by simp [intOf]; omega⟩
        · have hT := HK.out.1
          have hend : (txt q).drop i = [] := List.drop_eq_nil_of_le (by rw [txt_len]; omega)
          rw [hend] at hT
          have hR : R = some (endC (txt last) (outC l)) := by
            rw [← HG.out.2.1]
            rw [HG.out.1] at hT
            show Option.map (fun l => endC ((cutsL 47 rest).getLastD []) (outC l)) (foldC (some []) (cutsL 47 rest)) = _
            unfold cutsL
            rw [(Prod.mk.inj hT).1, (Prod.mk.inj hT).2]
            rfl
          have hwl : wt l ≤ q.size := by have := HK.out.2.1; omega
          have HE := Lib.hid hR
          clear hR hT hend
          go_wp2_with fail
          go_loopw [9, 10] (fun ov i wr' => OutRelT w w.heap.size (.slice A0 l.length c0) l ov i wr') (fun _ i _ => l.length - (intOf i).toNat)
          case atStart => exact ⟨0, ⟨#[]⟩, Nat.zero_le _, rfl, rfl, rfl, HK.out.2.2.1, HK.out.2.2.2.1⟩
          case round =>
            obtain ⟨j, out, hj, rfl, rfl, hout, hO, hsm⟩ := hrel
            have hoz : out.size ≤ q.size := by have := outC_le l j; rw [← hout, txt_len] at this; omega
            have HO := Lib.hid (And.intro hout (And.intro hO hsm))
            clear hout hO hsm
            by_cases hlt2 : j < l.length
            · have hget : (l.map strV)[j]? = some (strV l[j]) := by simp [hlt2]
              obtain ⟨bb, off, hAe, hbb, r0⟩ := (own_rowC_at HO.out.2.1) _ _ hget
              subst hAe
              obtain ⟨p, hp⟩ : ∃ p : ByteArray, p = ⟨l[j].toArray⟩ := ⟨_, rfl⟩
              have htp : txt p = l[j] := by rw [hp]; rfl
              rw [show strV l[j] = .string p by rw [hp]; rfl] at r0
              have hnew : txt (out ++ ⟨#[47]⟩ ++ p) = outC (l.take (j + 1)) := by
                rw [outC_take_succ hlt2, txt_append, txt_append, HO.out.1, htp, List.append_assoc]; rfl
              have hnz : (out ++ ⟨#[47]⟩ ++ p).size ≤ q.size := by have := outC_le l (j + 1); rw [← hnew, txt_len] at this; omega
              have hnz0 := hnz
              rw [ByteArray.size_append, ByteArray.size_append] at hnz0
              have hone : (⟨#[47]⟩ : ByteArray).size = 1 := rfl
              have hpz : p.size ≤ q.size := by omega
              have HN := Lib.hid hnew
              have k3 : (0 : Int) ≤ (j : Int) := by omega
              have k4 : (j : Int) < (l.length : Int) := by omega
              clear hnew hget hp htp hnz hnz0 hone
              go_wp2_with fail
              exact ⟨⟨j + 1, _, by omega, by go_num, rfl, HN.out, HO.out.2.1, HO.out.2.2⟩, by simp [intOf]; omega⟩
            · have hout : txt out = outC l := by rw [HO.out.1, List.take_of_length_le (by omega)]
              have HF := Lib.hid hout
              clear hout
              go_wp2_with fail
              all_goals go_ret2
              all_goals refine ⟨?_, HO.out.2.2⟩
              all_goals rw [HE.out]
              all_goals first
                | (refine endW last out l HF.out true ?_; first | (simp [*]; done) | (simp only [Bool.or_eq_true]; assumption))
                | (refine endW last out l HF.out false ?_; first | (simp [*]; done) | (simp only [Bool.or_eq_false_iff]; assumption))
    · have hq : ((s[0].toNat : Int) != 47) = true := by
        have := u8_ne (c := s[0]) (n := 47) (by decide) hq0
        simp at this ⊢; exact this
      have hR : cleanL (txt s) = none := cleanL_no (by rw [hh]; intro e; injection e with e; exact hq0 e)
      rw [hR]
      clear hh hR h0 hq0
      go_enter Tryz.func64, Tryz.ntmps64
      go_wp2_with fail
      go_ret2
      exact ⟨rfl, Sm.refl _ _⟩
end Go.Proofs.YtiglfbimijnpcaaGreatDoor

namespace Go.Proofs.YtiglfbimijnpcaaGreatDoor
open Go.RowKit Go.Proofs

theorem wide_any (s : ByteArray) (hs : s.size ≤ 140737488351232) (w : World) :
    Calls Tryz.prog 65 #[.string s] w fun e w' => e = .returned (.bool (wideL (txt s))) ∧ w = w' := by
  by_cases h2 : 2 ≤ s.size
  · obtain ⟨p, hp⟩ : ∃ p, s.extract (s.size - 2) s.size = p := ⟨_, rfl⟩
    have htp : txt p = (txt s).drop ((txt s).length - 2) := by rw [← hp, txt_extract, List.take_of_length_le (by rw [txt_len]; exact Nat.le_refl _), txt_len]
    have hR : wideL (txt s) = (txt p == [47, 42]) := by
      unfold wideL
      rw [← htp, txt_len]
      simp [h2]
    rw [hR]
    have k2 : (2 : Int) ≤ (s.size : Int) := by omega
    have k3 : (((s.size : Int) - 2).toNat) = s.size - 2 := by omega
    by_cases hc : txt p = [47, 42]
    · have e1 : (p.toList == [47, 42]) = true := by rw [beq_txt, hc]; rfl
      have hf : (txt p == ([47, 42] : Txt)) = true := by rw [hc]; rfl
      rw [hf]
      clear htp hR hc hf
      go_enter Tryz.func65, Tryz.ntmps65
      go_wp2_with fail
      go_ret
      exact ⟨rfl, rfl⟩
    · have e1 : (p.toList == [47, 42]) = false := by rw [beq_txt, decide_eq_false_iff_not]; exact hc
      have hf : (txt p == ([47, 42] : Txt)) = false := by simpa using hc
      rw [hf]
      clear htp hR hc hf
      go_enter Tryz.func65, Tryz.ntmps65
      go_wp2_with fail
      go_ret
      exact ⟨rfl, rfl⟩
  · have hR : wideL (txt s) = false := by unfold wideL; rw [txt_len]; simp [h2]
    rw [hR]
    clear hR
    go_enter Tryz.func65, Tryz.ntmps65
    go_wp2_with fail
    go_ret
    exact ⟨rfl, rfl⟩
theorem wide_say {s : ByteArray} {b : Bool} (h : Hid (wideL (txt s) = b)) (hs : s.size ≤ 140737488351232) (w : World) :
    Calls Tryz.prog 65 #[.string s] w fun e w' => e = .returned (.bool b) ∧ w = w' := by rw [← h.out]; exact wide_any s hs w

set_option maxHeartbeats 2000000 in
theorem plain_any (s : ByteArray) (hs : s.size ≤ 140737488351232) (w : World) :
    Calls Tryz.prog 27 #[.string s] w fun e w' => e = .returned (.bool (plainL (txt s))) ∧ Sm No w w' := by
  obtain ⟨R, hR⟩ : ∃ R, plainL (txt s) = R := ⟨_, rfl⟩
  rw [hR]
  unfold plainL at hR
  rw [txt_len] at hR
  by_cases hz : s.size ≤ 200
  · have hC := rClean_any s (by omega) w
    obtain ⟨C, hCC⟩ : ∃ C, cleanL (txt s) = C := ⟨_, rfl⟩
    rw [hCC] at hC hR
    have HC := Lib.hid hC
    obtain ⟨wd, hwd⟩ : ∃ wd, wideL (txt s) = wd := ⟨_, rfl⟩
    rw [hwd] at hR
    have HW := Lib.hid hwd
    clear hC hwd hCC
    cases C with
    | none =>
      have hR : R = false := by rw [← hR]; simp
      subst hR
      go_enter Tryz.func27, Tryz.ntmps27
      go_wp2_with fail
      refine HC.out.mono ?_
      rintro e w1 ⟨rfl, hs1⟩
      have H1 := Lib.hid hs1
      clear hs1
      unfold cleanV
      go_wp2_with fail
      go_ret
      exact ⟨rfl, H1.out⟩
    | some l =>
      obtain ⟨lb, e1, e2⟩ : ∃ lb : ByteArray, strB l = .string lb ∧ txt lb = l := ⟨⟨l.toArray⟩, rfl, txt_mk l⟩
      have e1' : cleanV (some l) = .tuple #[.string lb, .bool true] := by
        show Value.tuple #[strB l, .bool true] = _
        rw [e1]
      rw [e1'] at HC
      by_cases hl : l = txt s
      · obtain rfl : s = lb := by rw [← mk_txt lb, ← mk_txt s, e2, hl]
        have hR : R = !wd := by rw [← hR]; simp [hz, hl]
        subst hR
        clear e1 e2 e1' hl
        go_enter Tryz.func27, Tryz.ntmps27
        go_wp2_with fail
        refine HC.out.mono ?_
        rintro e w1 ⟨rfl, hs1⟩
        have H1 := Lib.hid hs1
        clear hs1
        go_wp2_with fail
        refine (wide_say HW hs w1).mono ?_
        rintro e w2 ⟨rfl, rfl⟩
        go_wp2_with fail
        go_ret
        exact ⟨rfl, H1.out⟩
      · have e3 : ¬ lb.toList = s.toList := fun e => hl (e2 ▸ (bytes_eq_iff lb (txt s)).1 (e.trans ((bytes_eq_iff s (txt s)).2 rfl)))
        have hR : R = false := by rw [← hR]; simp [hl]
        subst hR
        clear e1 e2 e1' hl
        go_enter Tryz.func27, Tryz.ntmps27
        go_wp2_with fail
        refine HC.out.mono ?_
        rintro e w1 ⟨rfl, hs1⟩
        have H1 := Lib.hid hs1
        clear hs1
        go_wp2_with fail
        go_ret
        exact ⟨rfl, H1.out⟩
  · have hR : R = false := by rw [← hR]; simp [hz]
    subst hR
    go_enter Tryz.func27, Tryz.ntmps27
    go_wp2_with fail
    go_ret
    exact ⟨rfl, Sm.refl _ _⟩

set_option maxHeartbeats 2000000 in
theorem pattern_any (s : ByteArray) (hs : s.size ≤ 140737488351232) (w : World) :
    Calls Tryz.prog 67 #[.string s] w fun e w' => e = .returned (.bool (patL (txt s))) ∧ Sm No w w' := by
  obtain ⟨wd, hwd⟩ : ∃ wd, wideL (txt s) = wd := ⟨_, rfl⟩
  have HW := Lib.hid hwd
  obtain ⟨R, hR⟩ : ∃ R, patL (txt s) = R := ⟨_, rfl⟩
  rw [hR]
  unfold patL at hR
  rw [hwd, txt_len] at hR
  have HP := Lib.hid (plain_any s hs w)
  cases wd with
  | false =>
    have hR : plainL (txt s) = R := by simpa using hR
    rw [hR] at HP
    clear hwd hR
    go_enter Tryz.func67, Tryz.ntmps67
    go_wp2_with fail
    refine (wide_say HW hs w).mono ?_
    rintro e w2 ⟨rfl, rfl⟩
    go_wp2_with fail
    refine HP.out.mono ?_
    rintro e w1 ⟨rfl, hs1⟩
    have H1 := Lib.hid hs1
    clear hs1
    go_wp2_with fail
    go_ret
    exact ⟨rfl, H1.out⟩
  | true =>
    by_cases hz : s.size ≤ 201
    · have h2 : 2 ≤ s.size := by
        obtain ⟨q, hq⟩ := (wide_iff _).1 hwd
        rw [← txt_len, hq]; simp
      have hpt : txt (s.extract 0 (s.size - 1)) = (txt s).dropLast := by rw [txt_extract, List.drop_zero, List.dropLast_eq_take, txt_len]
      have hR : plainL (txt (s.extract 0 (s.size - 1))) = R := by rw [hpt, ← hR]; simp [hz]
      have HQ := Lib.hid (plain_any (s.extract 0 (s.size - 1)) (by rw [← txt_len, hpt]; simp [txt_len]; omega) w)
      rw [hR] at HQ
      have k3 : (((s.size : Int) - 1).toNat) = s.size - 1 := by omega
      clear hwd hR hpt HP
      go_enter Tryz.func67, Tryz.ntmps67
      go_wp2_with fail
      refine (wide_say HW hs w).mono ?_
      rintro e w2 ⟨rfl, rfl⟩
      go_wp2_with fail
      refine HQ.out.mono ?_
      rintro e w1 ⟨rfl, hs1⟩
      have H1 := Lib.hid hs1
      clear hs1
      go_wp2_with fail
      go_ret
      exact ⟨rfl, H1.out⟩
    · have hR : plainL (txt s) = R := by rw [← hR]; simp [hz]
      rw [hR] at HP
      clear hwd hR
      go_enter Tryz.func67, Tryz.ntmps67
      go_wp2_with fail
      refine (wide_say HW hs w).mono ?_
      rintro e w2 ⟨rfl, rfl⟩
      go_wp2_with fail
      refine HP.out.mono ?_
      rintro e w1 ⟨rfl, hs1⟩
      have H1 := Lib.hid hs1
      clear hs1
      go_wp2_with fail
      go_ret
      exact ⟨rfl, H1.out⟩

def HasRel (l : List Txt) (m : Txt) (i : Value) : Prop := ∃ k : Nat, k ≤ l.length ∧ i = .int .i64 k ∧ ∀ x ∈ l.take k, x ≠ m
set_option maxHeartbeats 2000000 in
theorem rhas_any (w : World) (A : Option Addr) (c : Nat) (l : List Txt) (x : ByteArray) (hA : RowC w A (l.map strV)) (hl : l.length ≤ 1000000) :
    Calls Tryz.prog 68 #[.slice A l.length c, .string x] w fun e w' => e = .returned (.bool (l.contains (txt x))) ∧ w = w' := by
  obtain ⟨R, hR⟩ : ∃ R, l.contains (txt x) = R := ⟨_, rfl⟩
  rw [hR]
  have HA := Lib.hid (And.intro hA hR)
  clear hA hR
  go_enter Tryz.func68, Tryz.ntmps68
  go_wp2_with fail
  go_loop [5] (fun i => HasRel l (txt x) i) (fun i => l.length - (intOf i).toNat)
  case atStart => exact ⟨0, Nat.zero_le _, rfl, fun x h => by simp at h⟩
  case round =>
    obtain ⟨k, hk, rfl, hno⟩ := hrel
    have HN := Lib.hid hno
    clear hno
    by_cases hlt : k < l.length
    · obtain ⟨bb, off, hAe, hbb, r0⟩ := HA.out.1.at (strV_at hlt)
      subst hAe
      obtain ⟨s, hsk⟩ : ∃ s : ByteArray, (⟨l[k].toArray⟩ : ByteArray) = s := ⟨_, rfl⟩
      have hts : txt s = l[k] := by rw [← hsk, txt_mk]
      rw [hsk] at r0
      have hmem := List.getElem_mem hlt
      have hst : l[k] ≠ txt x → ∀ y ∈ l.take (k + 1), y ≠ txt x := fun h y hy => by
        rw [List.take_succ_eq_append_getElem hlt, List.mem_append, List.mem_singleton] at hy
        rcases hy with hy | rfl
        · exact HN.out y hy
        · exact h
      rw [← hts] at hmem hst
      have HX := Lib.hid (And.intro hmem hst)
      have k1 : (0 : Int) ≤ (k : Int) := by omega
      have k2 : (k : Int) < (l.length : Int) := by omega
      clear hsk hts hmem hst
      by_cases hx : txt s = txt x
      · obtain rfl : s = x := by rw [← mk_txt s, ← mk_txt x, hx]
        have hRt : R = true := by rw [← HA.out.2]; exact List.contains_iff_mem.2 HX.out.1
        subst hRt
        clear hx
        go_wp2_with fail
        go_ret
        exact ⟨rfl, rfl⟩
      · have e3 : ¬ s.toList = x.toList := fun e => hx ((bytes_eq_iff s (txt x)).1 (e.trans ((bytes_eq_iff x (txt x)).2 rfl)))
        have e4 : (s.toList == x.toList) = false := by simpa using e3
        have HY := Lib.hid (HX.out.2 hx)
        clear hx
        go_wp2_with fail
        go_round
        case rel => exact ⟨k + 1, by omega, by go_num, HY.out⟩
        case measure => simp [intOf]; omega
    · have hRf : R = false := by
        rw [← HA.out.2]
        rw [Bool.eq_false_iff]
        intro h
        have hm := List.contains_iff_mem.1 h
        exact HN.out _ (by rw [List.take_of_length_le (by omega)]; exact hm) rfl
      subst hRf
      go_wp2_with fail
      go_ret
      exact ⟨rfl, rfl⟩
theorem rhas_say {l : List Txt} {x : ByteArray} {b : Bool} (h : Hid (l.contains (txt x) = b)) (w : World) (A : Option Addr) (c : Nat) (hA : RowC w A (l.map strV)) (hl : l.length ≤ 1000000) :
    Calls Tryz.prog 68 #[.slice A l.length c, .string x] w fun e w' => e = .returned (.bool b) ∧ w = w' := by rw [← h.out]; exact rhas_any w A c l x hA hl
end Go.Proofs.YtiglfbimijnpcaaGreatDoor

namespace Go.Proofs.YtiglfbimijnpcaaGreatDoor
open Go.RowKit Go.Proofs
section
variable {P : Program} {ops : Array Oper} {o : Oper} {a : Act} {w : World} {Q : Exit → Act → World → Prop}
theorem step_push_opt {E : Prop} {K : Act → World → Prop} (hgd : o.guard = none) (s x : Operand) (st t : TypeId)
    (ho : o.op = .call { callee := .builtin .append, args := #[s, x], argTypes := #[st, st] }) (ht : P.underlying st = some (.slice t))
    (z : Value) (size bytes : Nat) (hi : (P.info? t).map (fun i => (i.zero, i.size, i.bytes)) = some (some z, size, bytes)) (hzs : z.cells.size = size) (hsz : 0 < size) (hby : bytes ≤ 1000)
    (B n : Nat) (v : Value) (xs : List Value) (hs : a.eval s = v) (hown : w.ownsRow B t size v n xs)
    (A : Option Addr) (m c : Nat) (news : List Value) (hx : a.eval x = .slice A m c) (h0 : A = none → m = 0 ∧ c = 0) (hl : news.length = m * size) (hrow : RowC w A news) (h1 : ∀ u ∈ news, u.oneCell' = true) (hn : n + m ≤ 1000001) (hB : B ≤ w.heap.size)
    (h : ∀ A' c' w', w'.ownsRow B t size (.slice A' (n + m) c') (n + m) (xs ++ news) → Sm (fun b => v.ownBlock = some b) w w' → ((Value.slice A' (n + m) c').ownBlock = v.ownBlock ∨ (Value.slice A' (n + m) c').ownBlock = some w.heap.size) → K (a.put o.dst (.slice A' (n + m) c')) w') :
    if Region.wanted o (yielded ops a.tmps) = true then Oper.wp P o a w K Q else E := by
  have hw : Region.wanted o (yielded ops a.tmps) = true := by simp [Region.wanted, hgd]
  rw [if_pos hw]
  obtain ⟨i0, hi0, hz0, hz1, hz2⟩ := info_parts hi
  have hr : ∃ v' w', (Builtin.append_ #[st, st] o.type #[v, .slice A m c]).run P w = .ok v' w' ∧ w'.ownsRow B t size v' (n + m) (xs ++ news) ∧ Sm (fun b => v.ownBlock = some b) w w' ∧ (v'.ownBlock = v.ownBlock ∨ v'.ownBlock = some w.heap.size) := by
    cases A with
    | some ad =>
      obtain ⟨v', w', h2, h3, h4, _, h6⟩ := run_append_own_at (P := P) w B st o.type t i0 z size bytes ht hi0 hz0 hz1 hz2 hzs hsz v n xs hown ad m c news hl (hrow.news rfl) h1 (by unfold maxLen; omega)
        (by have : (n + m) * bytes ≤ 1000001 * 1000 := Nat.mul_le_mul (by omega) hby
            omega) hB
      exact ⟨v', w', h2, h3, (Sm.refl _ w).grown h4 (fun k hk => Or.inl hk), h6⟩
    | none =>
      obtain ⟨rfl, rfl⟩ := h0 rfl
      have hnn : news = [] := List.eq_nil_of_length_eq_zero (by rw [hl]; simp)
      subst hnn
      exact ⟨v, w, run_append_owned_none (P := P) (w := w) B st o.type t i0 size ht hi0 v n xs hown, by simpa using hown, Sm.refl _ _, Or.inl rfl⟩
  obtain ⟨v', w', h2, h3, h4, h6⟩ := hr
  obtain ⟨A', c', rfl, _, _, _⟩ := own_rowC h3
  unfold Oper.wp execOp
  simp only [ho, resolve, invoke, builtin, Sem.run_bind, Sem.run_pure, Result.andThen_ok, List.map_toArray, List.map_cons, List.map_nil, hs, hx, h2]
  exact h A' c' w' h3 h4 h6
theorem step_push_opt0 {E : Prop} {K : Act → World → Prop} (hgd : o.guard = none) (s x : Operand) (st t : TypeId)
    (ho : o.op = .call { callee := .builtin .append, args := #[s, x], argTypes := #[st, st] }) (ht : P.underlying st = some (.slice t))
    (z : Value) (size bytes : Nat) (hi : (P.info? t).map (fun i => (i.zero, i.size, i.bytes)) = some (some z, size, bytes)) (hzs : z.cells.size = size) (hsz : 0 < size) (hby : bytes ≤ 1000)
    (B : Nat) (v : Value) (hs : a.eval s = v) (hown : w.ownsRow B t size v 0 [])
    (A : Option Addr) (m c : Nat) (news : List Value) (hx : a.eval x = .slice A m c) (h0 : A = none → m = 0 ∧ c = 0) (hl : news.length = m * size) (hrow : RowC w A news) (h1 : ∀ u ∈ news, u.oneCell' = true) (hn : m ≤ 1000001) (hB : B ≤ w.heap.size)
    (h : ∀ A' c' w', w'.ownsRow B t size (.slice A' m c') m news → Sm (fun b => v.ownBlock = some b) w w' → ((Value.slice A' m c').ownBlock = v.ownBlock ∨ (Value.slice A' m c').ownBlock = some w.heap.size) → K (a.put o.dst (.slice A' m c')) w') :
    if Region.wanted o (yielded ops a.tmps) = true then Oper.wp P o a w K Q else E :=
  step_push_opt hgd s x st t ho ht z size bytes hi hzs hsz hby B 0 v [] hs hown A m c news hx h0 hl hrow h1 (by omega) hB (fun A' c' w' g1 g2 g3 => by
    rw [Nat.zero_add] at g1 g3 ⊢
    exact h A' c' w' (by simpa using g1) g2 g3)
end
end Go.Proofs.YtiglfbimijnpcaaGreatDoor

namespace Go.Proofs.YtiglfbimijnpcaaGreatDoor
open Go.RowKit Go.Proofs

def tcells (l : List (Lt × Value)) : List Value := l.flatMap fun x => [strB x.1.pat, .int .i64 x.1.id, x.2]
theorem tcells_at {l : List (Lt × Value)} {k : Nat} (h : k < l.length) : (tcells l)[k * 3]? = some (strB l[k].1.pat) ∧ (tcells l)[k * 3 + 1]? = some (.int .i64 l[k].1.id) ∧ (tcells l)[k * 3 + 2]? = some l[k].2 := by
  induction l generalizing k with
  | nil => simp at h
  | cons x l ih =>
    cases k with
    | zero => exact ⟨rfl, rfl, rfl⟩
    | succ k =>
      obtain ⟨h1, h2, h3⟩ := ih (k := k) (by simpa using h)
      have e1 : (k + 1) * 3 = k * 3 + 3 := by omega
      rw [e1]
      exact ⟨h1, h2, h3⟩
theorem infoTw : (Tryz.prog.info? 84).map (fun i => (i.zero, i.size, i.bytes)) = some (some (.agg #[.string ⟨#[]⟩, .int .i64 0, .slice none 0 0]), 3, 48) := by kernel_rfl

/-- A block of type tt whose first cell is a row of routes, the others tl: the document's Router, or what begins with one. -/
def TwP (tt : TypeId) (tl : List Value) (w : World) (O : Nat → Prop) (r : Nat) (L : List Lt) (v : Value) (l : List (Lt × Value)) : Prop :=
  Bk w r tt (v :: tl).toArray ∧ w.ownsRow 0 84 3 v L.length (tcells l) ∧ l.map Prod.fst = L ∧ (∀ x ∈ l, OwnT w 0 x.2 x.1.ms) ∧ O r ∧ (∀ g, v.ownBlock = some g → O g) ∧ (∀ x ∈ l, ∀ g, x.2.ownBlock = some g → O g) ∧ (∀ b, O b → b < w.heap.size) ∧ tt ≠ 84 ∧ tt ≠ 9
/-- The document's Router with the routes L; its blocks are of O. -/
def IsTwin (tt : TypeId) (tl : List Value) (w : World) (O : Nat → Prop) (r : Nat) (L : List Lt) : Prop := ∃ v l, TwP tt tl w O r L v l
variable {tt : TypeId} {tl : List Value}
theorem TwP.sm {S O : Nat → Prop} {w w' : World} {r : Nat} {L : List Lt} {v : Value} {l : List (Lt × Value)} (h : TwP tt tl w O r L v l) (hs : Sm S w w') (hS : ∀ b, O b → ¬ S b) : TwP tt tl w' O r L v l := by
  obtain ⟨h1, h2, h3, h4, h5, h6, h7, h8, h9⟩ := h
  exact ⟨h1.sm hs (hS r h5), own_row_sm h2 hs (fun g hg => hS g (h6 g hg)), h3, fun x hx => own_row_sm (h4 x hx) hs (fun g hg => hS g (h7 x hx g hg)), h5, h6, h7, fun b hb => Nat.lt_of_lt_of_le (h8 b hb) hs.size, h9⟩
theorem TwP.no {O : Nat → Prop} {w w' : World} {r : Nat} {L : List Lt} {v : Value} {l : List (Lt × Value)} (h : TwP tt tl w O r L v l) (hs : Sm No w w') : TwP tt tl w' O r L v l := h.sm hs (fun _ _ h => h)
theorem IsTwin.sm {S O : Nat → Prop} {w w' : World} {r : Nat} {L : List Lt} (h : IsTwin tt tl w O r L) (hs : Sm S w w') (hS : ∀ b, O b → ¬ S b) : IsTwin tt tl w' O r L := by
  obtain ⟨v, l, h⟩ := h
  exact ⟨v, l, h.sm hs hS⟩
theorem IsTwin.no {O : Nat → Prop} {w w' : World} {r : Nat} {L : List Lt} (h : IsTwin tt tl w O r L) (hs : Sm No w w') : IsTwin tt tl w' O r L := h.sm hs (fun _ _ h => h)
theorem TwP.form {O : Nat → Prop} {w : World} {r : Nat} {L : List Lt} {v : Value} {l : List (Lt × Value)} (h : TwP tt tl w O r L v l) : ∃ A c, v = .slice A L.length c := by
  obtain ⟨A, c, hv, _⟩ := own_rowC h.2.1
  exact ⟨A, c, hv⟩
theorem TwP.get {O : Nat → Prop} {w : World} {r n c : Nat} {L : List Lt} {A : Option Addr} {l : List (Lt × Value)} (h : TwP tt tl w O r L (.slice A n c) l) {k : Nat} (hk : k < L.length) :
    ∃ g A2 c2, A = some ⟨g, 0, none⟩ ∧ w.cell? ⟨g, k * 3, none⟩ = some (strB L[k].pat) ∧ w.cell? ⟨g, k * 3 + 1, none⟩ = some (.int .i64 L[k].id) ∧ w.cell? ⟨g, k * 3 + 2, none⟩ = some (.slice A2 L[k].ms.length c2) ∧ RowC w A2 (L[k].ms.map strV) ∧ (A2 = none → c2 = 0) := by
  obtain ⟨_, h2, rfl, h4, _⟩ := h
  have hk' : k < l.length := by simpa using hk
  rcases own_row_form h2 with ⟨_, h0, _⟩ | ⟨g, cap, hv, _, _, hb, _, hx, _⟩
  · simp at h0; subst h0; simp at hk'
  · injection hv with hv
    subst hv
    obtain ⟨e1, e2, e3⟩ := tcells_at hk'
    obtain ⟨A2, c2, hv2, hR, _, hn⟩ := own_rowC (h4 l[k] (List.getElem_mem hk'))
    have eL : (l.map Prod.fst)[k] = l[k].1 := by simp
    refine ⟨g, A2, c2, rfl, ?_, ?_, ?_, ?_, hn⟩
    · rw [eL]; exact hx _ _ e1
    · rw [eL]; exact hx _ _ e2
    · rw [eL, ← hv2]; exact hx _ _ e3
    · rw [eL]; exact hR

def rAddPost (tt : TypeId) (tl : List Value) (w : World) (O : Nat → Prop) (r : Nat) (L : List Lt) (x : Lt) (e : Ending) (w' : World) : Prop :=
  e = .returned (.int .i64 (addC L x)) ∧ ∃ O' : Nat → Prop, IsTwin tt tl w' O' r (addS L x) ∧ Sm O w w' ∧ ∀ b, O' b → O b ∨ w.heap.size ≤ b
theorem rAddPost.not {w w' : World} {O : Nat → Prop} {r : Nat} {L : List Lt} {x : Lt} {c : Int} (hc : addC L x = c) (h0 : c ≠ 0) (h : IsTwin tt tl w O r L) (hs : Sm No w w') : rAddPost tt tl w O r L x (.returned (.int .i64 c)) w' := by
  refine ⟨by rw [hc], O, ?_, hs.any _, fun b hb => Or.inl hb⟩
  unfold addS
  rw [if_neg (by rw [hc]; exact h0)]
  exact h.no hs
theorem rAddPost.yes {w w4 w5 w6 : World} {O : Nat → Prop} {r : Nat} {L : List Lt} {x : Lt} {v : Value} {l : List (Lt × Value)} {cv v' : Value} (hc : addC L x = 0) (h : TwP tt tl w O r L v l) (s4 : Sm No w w4) (hcv : OwnT w4 w.heap.size cv x.ms) (s5 : Sm No w4 w5)
    (hv : w6.ownsRow 0 84 3 v' (L.length + 1) (tcells l ++ [strB x.pat, .int .i64 x.id, cv])) (s6 : Sm (fun b => v.ownBlock = some b) w5 w6) (hb : v'.ownBlock = v.ownBlock ∨ v'.ownBlock = some w5.heap.size) :
    rAddPost tt tl w O r L x (.returned (.int .i64 0)) (w6.setCell ⟨r, 0, none⟩ v') := by
  obtain ⟨h1, h2, h3, h4, h5, h6, h7, h8, h9, h10⟩ := h
  have z4 := s4.size
  have z5 := s5.size
  have z6 := s6.size
  have hrv : v.ownBlock ≠ some r := own_not_bk h2 h1 (fun e => h9 e.symm)
  have s7 : Sm (fun b => b = r) w6 (w6.setCell ⟨r, 0, none⟩ v') := (Sm.refl _ w6).set1 0 _
  have s47 : Sm (fun b => v.ownBlock = some b ∨ b = r) w4 (w6.setCell ⟨r, 0, none⟩ v') := ((s5.any _).trans s6 (fun b _ e => Or.inl e)).trans s7 (fun b _ e => Or.inr e)
  have s17 : Sm (fun b => v.ownBlock = some b ∨ b = r) w (w6.setCell ⟨r, 0, none⟩ v') := (s4.any _).trans s47 (fun b _ e => e)
  have hrlt := h8 r h5
  have hv'r : v'.ownBlock ≠ some r := by
    rcases hb with e | e
    · rw [e]; exact hrv
    · rw [e]; intro e; injection e with e; omega
  have hvlt : ∀ g, v.ownBlock = some g → g < w.heap.size := fun g hg => own_lt h2 hg
  refine ⟨by rw [hc], (fun b => O b ∨ (w.heap.size ≤ b ∧ b < w6.heap.size)), ?_, s17.mono (fun b _ e => ?_), fun b hb => hb.elim Or.inl (fun h => Or.inr h.1)⟩
  · unfold addS
    rw [if_pos hc]
    refine ⟨v', l ++ [(x, cv)], ((((h1.sm s4 (fun h => h)).sm s5 (fun h => h)).sm s6 hrv).set 0 _).eq (by simp), ?_, by rw [List.map_append, h3]; rfl, fun y hy => ?_, Or.inl h5, fun g hg => ?_, fun y hy g hg => ?_, fun b hb => ?_, h9, h10⟩
    · have := own_row_sm hv s7 (fun b e hS => hv'r (hS ▸ e))
      rw [List.length_append, tcells, List.flatMap_append]
      exact this
    · rcases List.mem_append.1 hy with hy | hy
      · exact own_row_sm (h4 y hy) s17 (fun b e hS => by
          rcases hS with hS | rfl
          · exact own_not_own (h4 y hy) h2 (by decide) e hS
          · exact own_not_bk (h4 y hy) h1 (fun e => h10 e.symm) e)
      · rw [List.mem_singleton] at hy
        subst hy
        exact own_row_base (own_row_sm hcv s47 (fun b e hS => by
          have hge := (World.ownsRow.lt hcv _ e).1
          rcases hS with hS | rfl
          · have := hvlt _ hS; omega
          · omega)) (fun _ _ => Nat.zero_le _)
    · rcases hb with g2 | g2
      · exact Or.inl (h6 g (g2 ▸ hg))
      · have := own_lt hv hg
        rw [g2] at hg
        injection hg with hg
        exact Or.inr ⟨by omega, by omega⟩
    · rcases List.mem_append.1 hy with hy | hy
      · exact Or.inl (h7 y hy g hg)
      · rw [List.mem_singleton] at hy
        subst hy
        have := own_lt hcv hg
        have := (World.ownsRow.lt hcv _ hg).1
        exact Or.inr ⟨by omega, by omega⟩
    · have e0 : (w6.setCell ⟨r, 0, none⟩ v').heap.size = w6.heap.size := by simp
      rw [e0]
      rcases hb with hb | hb
      · have := h8 b hb; omega
      · exact hb.2
  · rcases e with e | rfl
    · exact h6 b e
    · exact h5
end Go.Proofs.YtiglfbimijnpcaaGreatDoor

