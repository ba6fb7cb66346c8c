/- Lists of tokens: the twin's Tokens; Has; texts. -/
import Derived.Test.YtppciofbaohpdaaDoorListC
import Derived.Deep.QuietTactic
import Derived.BigQuiet
namespace Go.Proofs.YtppciofbaohpdaaDoor
open Go.RowKit Go.Proofs

def RTokRel2 (w : World) (T : Option (List (List UInt8))) (s : ByteArray) (rest : List (List UInt8)) (l f i : Value) (wr : World) : Prop :=
  ∃ (k fr : Nat) (acc : List (List UInt8)), k ≤ s.size ∧ fr ≤ k ∧ i = .int .i64 k ∧ f = .int .i64 fr ∧ T = toksA acc (segsT ((s.data.toList.take k).drop fr) (s.data.toList.drop k) ++ rest) ∧
    acc.length + (segsT ((s.data.toList.take k).drop fr) (s.data.toList.drop k) ++ rest).length ≤ 1000000 ∧ OwnT wr w.heap.size l acc ∧ Sm No w wr

theorem segs_comma {s : List UInt8} {k fr : Nat} (h : k < s.length) (_ : fr ≤ k) (hc : s[k] = 44) : segsT ((s.take k).drop fr) (s.drop k) = (s.take k).drop fr :: segsT ((s.take (k + 1)).drop (k + 1)) (s.drop (k + 1)) := by
  have e : (s.take (k + 1)).drop (k + 1) = [] := List.drop_eq_nil_of_le (by simp; omega)
  rw [List.drop_eq_getElem_cons h, segsT, if_pos hc, e]
theorem segs_other {s : List UInt8} {k fr : Nat} (h : k < s.length) (hf : fr ≤ k) (hc : s[k] ≠ 44) : segsT ((s.take k).drop fr) (s.drop k) = segsT ((s.take (k + 1)).drop fr) (s.drop (k + 1)) := by
  rw [List.drop_eq_getElem_cons h, segsT, if_neg hc, List.take_succ_eq_append_getElem h, List.drop_append_of_le_length (by simp; omega)]

set_option maxRecDepth 100000 in
set_option maxHeartbeats 8000000 in
theorem rTokens_any (w : World) (A : Option Addr) (c : Nat) (vs : List ByteArray) (hA : SRow w A vs) (hl : vs.length ≤ 1000000) (hs : ∀ s ∈ vs, s.size ≤ 900000) (ht : (restL vs 0).length ≤ 1000000) :
    Calls Tryd.prog 34 #[.slice A vs.length c] w (TokPost w vs) := by
  have HA := Lib.hid (And.intro hA (And.intro hs ht))
  clear hA hs ht
  go_enter Tryd.func34, Tryd.ntmps34
  go_wp2_with fail
  go_loopw [4, 5] (fun l i wr => TokRel w vs l i wr) (fun _ i _ => vs.length - (intOf i).toNat)
  case atStart => exact ⟨0, [], Nat.zero_le _, rfl, rfl, by simpa using HA.out.2.2, World.ownsRow_nil _ _ _ 1, Sm.refl _ _⟩
  case round =>
    obtain ⟨k, acc, hk, rfl, hT, hT2, hO, hsm⟩ := hrel
    obtain ⟨wo, rfl⟩ : ∃ wo : World, wo = wr := ⟨_, rfl⟩
    have HK := Lib.hid (And.intro hT (And.intro hT2 (And.intro hO hsm)))
    clear hT hT2 hO hsm
    by_cases hlt : k < vs.length
    · obtain ⟨bb, off, hAe, hbb, r0⟩ := (HA.out.1.no HK.out.2.2.2) k hlt
      subst hAe
      have s0 := HA.out.2.1 _ (List.getElem_mem hlt)
      have hrest := restL_at hlt
      obtain ⟨s, hsk⟩ : ∃ s, vs[k] = s := ⟨_, rfl⟩
      rw [hsk] at r0 s0 hrest
      have HR := Lib.hid hrest
      have k1 : (0 : Int) ≤ (k : Int) := by omega
      have k2 : (k : Int) < (vs.length : Int) := by omega
      have s1 : s.size + 1 ≤ 1000000 := by omega
      clear hsk hrest
      go_wp2_with fail
      obtain ⟨s', hs'⟩ : ∃ x, s ++ (⟨#[44]⟩ : ByteArray) = x := ⟨_, rfl⟩
      have hsd : s'.data.toList = s.data.toList ++ [44] := by rw [← hs']; simp
      have hsz : s'.size = s.size + 1 := by rw [size_toList', hsd]; simp
      have hsz2 : s'.size ≤ 1000000 := by omega
      have hRel : RTokRel2 w (tokensL (bytesL vs)) s' (restL vs (k + 1)) u4 (.int .i64 0) (.int .i64 0) wo :=
        ⟨0, 0, acc, Nat.zero_le _, Nat.le_refl _, rfl, rfl, by rw [HK.out.1, HR.out, List.take_zero, List.drop_zero, List.drop_zero, hsd]; rfl, by have := HK.out.2.1; rw [HR.out] at this; rw [List.take_zero, List.drop_zero, List.drop_zero, hsd]; exact this, HK.out.2.2.1, HK.out.2.2.2⟩
      have HRel := Lib.hid hRel
      rw [hs']
      clear hs' hsd hsz hRel
      go_loopw [4, 7, 8] (fun l f i wr' => RTokRel2 w (tokensL (bytesL vs)) s' (restL vs (k + 1)) l f i wr') (fun _ _ i _ => s'.size - (intOf i).toNat)
      case atStart => exact HRel.out
      case round =>
        obtain ⟨j, fr, acc2, hj, hfr, rfl, rfl, hT, hT2, hO, hsm⟩ := hrel
        have HJ := Lib.hid (And.intro hT (And.intro hT2 (And.intro hO hsm)))
        clear hT hT2 hO hsm
        by_cases hlt2 : j < s'.size
        · have hlt3 : j < s'.data.toList.length := by rw [← size_toList']; exact hlt2
          have hgs : s'.data.toList[j] = s'[j] := rfl
          by_cases hq : s'[j] = 44
          · have hq2 : ((s'[j].toNat : Int) != 44) = false := by simp [hq]
            obtain ⟨p, hp⟩ : ∃ x, s'.extract fr j = x := ⟨_, rfl⟩
            have hpd : p.data.toList = (s'.data.toList.take j).drop fr := by rw [← hp, Lib.extract_data, List.drop_take]
            have hps : p.size ≤ 1000000 := by rw [size_toList', hpd]; simp; omega
            obtain ⟨r, hr⟩ : ∃ r, (⟨(trimL p.data.toList).toArray⟩ : ByteArray) = r := ⟨_, rfl⟩
            have hrl : r.data.toList = trimL p.data.toList := by rw [← hr]
            have hrs : r.size ≤ 1000000 := by
              have h1 := trimL_le p.data.toList
              rw [size_toList', hrl]
              rw [size_toList'] at hps
              omega
            have hseg : segsT ((s'.data.toList.take j).drop fr) (s'.data.toList.drop j) = p.data.toList :: segsT ((s'.data.toList.take (j + 1)).drop (j + 1)) (s'.data.toList.drop (j + 1)) := by rw [hpd]; exact segs_comma hlt3 hfr (by rw [hgs]; exact hq)
            have HR2 := Lib.hid hr
            have HX := Lib.hid (And.intro hseg hrl)
            have k3 : (0 : Int) ≤ (fr : Int) := by omega
            have k4 : (fr : Int) ≤ (j : Int) := by omega
            have k5 : (j : Int) ≤ (s'.size : Int) := by omega
            clear hr hrl hseg hq hgs hpd
            go_wp2_with fail
            refine (rTrim_say HR2 hps _).mono ?_
            rintro e w2 ⟨rfl, rfl⟩
            by_cases hn : r.data.toList = []
            · have h1 : r.toList = [] := by rw [Go.ByteArray.toList_eq]; exact hn
              have h2 : r.toList.isEmpty = true := by rw [h1]; rfl
              have hT : tokensL (bytesL vs) = toksA acc2 (segsT ((s'.data.toList.take (j + 1)).drop (j + 1)) (s'.data.toList.drop (j + 1)) ++ restL vs (k + 1)) := by rw [HJ.out.1, HX.out.1, List.cons_append, toksA_blank _ _ (by rw [← HX.out.2]; exact hn)]
              have hT2 : acc2.length + (segsT ((s'.data.toList.take (j + 1)).drop (j + 1)) (s'.data.toList.drop (j + 1)) ++ restL vs (k + 1)).length ≤ 1000000 := by have := HJ.out.2.1; rw [HX.out.1, List.cons_append, List.length_cons] at this; omega
              have HT := Lib.hid (And.intro hT hT2)
              clear hT hT2 hn
              go_wp2_with fail
              exact ⟨⟨j + 1, j + 1, acc2, by omega, by omega, by go_num, by go_num, HT.out.1, HT.out.2, HJ.out.2.2.1, HJ.out.2.2.2⟩, by simp [intOf]; omega⟩
            · have h1 : ¬ r.toList = [] := by rw [Go.ByteArray.toList_eq]; exact hn
              have h2 : r.toList.isEmpty = false := by cases hq : r.toList with
                | nil => exact absurd hq h1
                | cons a l => rfl
              obtain ⟨f, hf⟩ : ∃ f, tokL r.data.toList = f := ⟨_, rfl⟩
              have HF := Lib.hid hf
              have HN := Lib.hid hn
              clear hf hn
              go_wp2_with fail
              refine (rIsToken_say HF hrs _).mono ?_
              rintro e w3 ⟨rfl, rfl⟩
              cases f
              · have hT : tokensL (bytesL vs) = none := by rw [HJ.out.1, HX.out.1, List.cons_append, toksA_bad _ _ (by rw [← HX.out.2]; exact HN.out) (by rw [← HX.out.2]; exact HF.out)]
                have HT := Lib.hid hT
                clear hT
                go_wp2_with fail
                go_ret2
                exact Or.inr ⟨HT.out, rfl, HJ.out.2.2.2⟩
              · obtain ⟨lw, hlw⟩ : ∃ x, (⟨(lowL r.data.toList).toArray⟩ : ByteArray) = x := ⟨_, rfl⟩
                have hT : tokensL (bytesL vs) = toksA (acc2 ++ [lowL r.data.toList]) (segsT ((s'.data.toList.take (j + 1)).drop (j + 1)) (s'.data.toList.drop (j + 1)) ++ restL vs (k + 1)) := by
                  rw [HJ.out.1, HX.out.1, List.cons_append, toksA_tok _ _ (by rw [← HX.out.2]; exact HN.out) (by rw [← HX.out.2]; exact HF.out), HX.out.2]
                have hT2 : (acc2 ++ [lowL r.data.toList]).length + (segsT ((s'.data.toList.take (j + 1)).drop (j + 1)) (s'.data.toList.drop (j + 1)) ++ restL vs (k + 1)).length ≤ 1000000 := by have := HJ.out.2.1; rw [HX.out.1, List.cons_append, List.length_cons] at this; rw [List.length_append]; simp only [List.length_singleton]; omega
                have ha2 : acc2.length ≤ 1000000 := by have := HJ.out.2.1; omega
                have HT := Lib.hid (And.intro hT hT2)
                have HLW := Lib.hid hlw
                clear hT hT2 hlw
                go_wp2_with fail
                refine (rLower_say HLW hrs _).mono ?_
                rintro e w4 ⟨rfl, hs4⟩
                have HW4 := Lib.hid (And.intro (own_row_sm HJ.out.2.2.1 hs4 (fun _ _ h => h)) (HJ.out.2.2.2.trans hs4 (fun _ _ h => h)))
                clear hs4
                go_wp2_with (refine wpList_push rfl _ _ 46 9 rfl Tryd.underlying46 _ 1 16 infoStr rfl (by decide) (by decide) w.heap.size _ u4 _ rfl (World.ownsRow.alloc HW4.out.1 _) w4.heap.size #[.string lw] rfl (Bk.new w4 _ _) rfl (by simp [Value.oneCell']) ha2 (by have := HW4.out.2.size; simp; omega) ?_; intro v' w5 hown5 hs5 hv5)
                have hO5 : OwnT w5 w.heap.size v' (acc2 ++ [lowL r.data.toList]) := by
                  refine OwnT.push ?_
                  rw [strV, HLW.out]
                  exact hown5
                have hS5 : Sm No w w5 := (HW4.out.2.alloc (.cells #[.string lw] 9)).trans hs5 (fun b hb e => by
                  have := (World.ownsRow.lt HW4.out.1 b e).1
                  omega)
                have H5 := Lib.hid (And.intro hO5 hS5)
                clear hO5 hS5 hown5 hs5 hv5
                go_wp2_with fail
                exact ⟨⟨j + 1, j + 1, acc2 ++ [lowL r.data.toList], by omega, by omega, by go_num, by go_num, HT.out.1, HT.out.2, H5.out.1, H5.out.2⟩, by simp [intOf]; omega⟩
          · have hq2 : ((s'[j].toNat : Int) != 44) = true := by
              simp; intro h; exact hq (UInt8.toNat_inj.mp (by have : (44 : UInt8).toNat = 44 := rfl; omega))
            have hseg := segs_other (fr := fr) hlt3 hfr (by rw [hgs]; exact hq)
            have hT := HJ.out.1
            have hT2 := HJ.out.2.1
            rw [hseg] at hT hT2
            have HT := Lib.hid (And.intro hT hT2)
            clear hseg hT hT2 hq hgs
            go_wp2_with fail
            exact ⟨⟨j + 1, fr, acc2, by omega, by omega, by go_num, rfl, HT.out.1, HT.out.2, HJ.out.2.2.1, HJ.out.2.2.2⟩, by simp [intOf]; omega⟩
        · have hj2 : s'.data.toList.drop j = [] := List.drop_eq_nil_of_le (by rw [← size_toList']; omega)
          have hT := HJ.out.1
          have hT2 := HJ.out.2.1
          rw [hj2] at hT hT2
          have HT := Lib.hid (And.intro hT hT2)
          clear hT hT2 hj2
          go_wp2_with fail
          exact ⟨⟨k + 1, acc2, by omega, by go_num, HT.out.1, HT.out.2, HJ.out.2.2.1, HJ.out.2.2.2⟩, by simp [intOf]; omega⟩
    · have hend : tokensL (bytesL vs) = some acc := by rw [HK.out.1, restL_end hlt]; rfl
      have HE := Lib.hid hend
      clear hend
      go_wp2_with fail
      go_ret2
      exact Or.inl ⟨acc, _, HE.out, rfl, HK.out.2.2.1, HK.out.2.2.2⟩
end Go.Proofs.YtppciofbaohpdaaDoor
