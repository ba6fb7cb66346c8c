/- The walk of ListTokens. -/
import Derived.Test.YtppciofbaohpdaaDoorListM
namespace Go.Proofs.YtppciofbaohpdaaDoor
open Go.RowKit Go.Proofs

theorem srow_own {w : World} {B : Nat} {v : Value} {vs : List ByteArray} (h : w.ownsRow B 9 1 v vs.length ((bytesL vs).map strV)) : ∃ A c, v = .slice A vs.length c ∧ SRow w A vs := by
  obtain ⟨A, c, rfl, hR, _⟩ := own_rowC h
  refine ⟨A, c, rfl, fun k hk => ?_⟩
  obtain ⟨bb, off, hA, hb, h1⟩ := hR.at (j := k) (u := .string vs[k]) (by simp [bytesL, hk, strV])
  exact ⟨bb, off, hA, hb, h1⟩

/-- Both answers of a look for tokens, in one form. -/
def Tok2 (w : World) (vs : List ByteArray) (v : Value) (b : Bool) (r : List (List UInt8)) (w' : World) : Prop :=
  OwnT w' w.heap.size v r ∧ Sm No w w' ∧ (tokensL (bytesL vs) = if b = true then some r else none) ∧ (b = false → r = [])
theorem tok2_of {w : World} {vs : List ByteArray} {e : Ending} {w' : World} (h : TokPost w vs e w') : ∃ v b r, e = .returned (.tuple #[v, .bool b]) ∧ Tok2 w vs v b r w' := by
  rcases h with ⟨r, v, hr, he, hO, hs⟩ | ⟨hr, he, hs⟩
  · exact ⟨v, true, r, he, hO, hs, by rw [hr]; rfl, fun h => by cases h⟩
  · exact ⟨_, false, [], he, World.ownsRow_nil _ _ _ 1, hs, by rw [hr]; rfl, fun _ => rfl⟩
theorem tok2_same {w1 w2 w3 w4 : World} {vs : List ByteArray} {v1 v2 : Value} {b1 b2 : Bool} {r1 r2 : List (List UInt8)} (h1 : Tok2 w1 vs v1 b1 r1 w2) (h2 : Tok2 w3 vs v2 b2 r2 w4) : b1 = b2 ∧ r1 = r2 := by
  obtain ⟨_, _, e1, f1⟩ := h1
  obtain ⟨_, _, e2, f2⟩ := h2
  rw [e1] at e2
  cases b1 <;> cases b2 <;> simp at e2
  · exact ⟨rfl, by rw [f1 rfl, f2 rfl]⟩
  · exact ⟨rfl, e2⟩
theorem tok2_len {w w' : World} {vs : List ByteArray} {v : Value} {b : Bool} {r : List (List UInt8)} (h : Tok2 w vs v b r w') (hL : Light9 vs) : r.length ≤ 3000 := by
  obtain ⟨_, _, e1, f1⟩ := h
  cases b
  · rw [f1 rfl]; simp
  · exact hL.many e1

set_option maxRecDepth 100000 in
set_option maxHeartbeats 8000000 in
/-- Behind the copy of the values. -/
theorem ltokens_any (A : Option Addr) (vs : List ByteArray) (c : Nat) (t : ByteArray) (w : World) (hA : ArgS w A vs c) (ht : t.size ≤ 140737488351232) (hg : G0 w) :
    Calls Tryd.prog 10 #[.slice A vs.length c, .string t] w fun e w' => e = .returned (.bool true) ∧ Sm No w w' := by
  have HH := Lib.hid (heavy9_any w A c vs hA)
  have HA := Lib.hid (And.intro hA.1 hg)
  have hvl : vs.length ≤ 8796093022208 := by have := hA.2.1; have := hA.2.2.1; omega
  have hA0 := hA.2.2.2.2
  have hlc := hA.2.1
  clear hA hg
  go_enter Tryd.func10, Tryd.ntmps10
  go_wp2_with fail
  refine HH.out.mono ?_
  rintro e w1 ⟨b, rfl, hs1, hlight⟩
  cases b
  · by_cases hb : 3000 < t.size
    · clear hlight
      go_wp2_with fail
      go_ret
      exact ⟨rfl, hs1⟩
    · have HL := Lib.hid (And.intro (hlight rfl) hs1)
      have hv3 := (hlight rfl).len
      have ht3 : t.size ≤ 1000000 := by omega
      clear hlight hs1
      cases A with
      | none =>
        have hc0 := hA0 rfl
        subst hc0
        have hvs : vs = [] := List.eq_nil_of_length_eq_zero (by omega)
        subst hvs
        go_wp2_with fail
        have HV := Lib.hid (And.intro (show SRow (w1.alloc (.cells #[] 9)) (some ⟨w1.heap.size, 0, none⟩) [] from fun k hk => absurd hk (by simp)) (HL.out.2.alloc (.cells #[] 9)))
        refine (HL.out.1.tokens _ (some ⟨w1.heap.size, 0, none⟩) 0 (HA.out.2.no HV.out.2) HV.out.1).mono ?_
        rintro e w3 hcase
        obtain ⟨v1, b1, r1, rfl, hT1⟩ := tok2_of hcase
        obtain ⟨A3, c3, rfl, hR3, _⟩ := hT1.1.row
        have H3 := Lib.hid (And.intro hT1 (And.intro hR3 (HV.out.2.trans hT1.2.1 (fun _ _ h => h))))
        have H3R := Lib.hid (SRow.no HV.out.1 hT1.2.1)
        clear hcase hT1 hR3
        go_wp2_with fail
        refine (HL.out.1.rTokens _ none 0 (HA.out.1.no H3.out.2.2)).mono ?_
        rintro e w4 hcase
        obtain ⟨v2, b2, r2, rfl, hT2⟩ := tok2_of hcase
        obtain ⟨rfl, rfl⟩ := tok2_same H3.out.1 hT2
        obtain ⟨A4, c4, rfl, hR4, _⟩ := hT2.1.row
        have hrl := tok2_len hT2 HL.out.1
        have HX := Lib.hid (texts9_any w4 A3 A4 c3 c4 r1 (H3.out.2.1.no hT2.2.1) hR4 (by omega))
        have H4 := Lib.hid (And.intro (H3R.out.no hT2.2.1) (H3.out.2.2.trans hT2.2.1 (fun _ _ h => h)))
        clear hcase hT2 hR4
        go_wp2_with fail
        refine HX.out.mono ?_
        rintro e w5 ⟨rfl, hs5⟩
        have H5 := Lib.hid (And.intro (H4.out.1.no hs5) (H4.out.2.trans hs5 (fun _ _ h => h)))
        have hTx := texts9_any w5 (some ⟨w1.heap.size, 0, none⟩) none 0 0 (bytesL ([] : List ByteArray)) H5.out.1.rowC (HA.out.1.no H5.out.2).rowC (by simp [bytesL]; try omega)
        rw [show (bytesL ([] : List ByteArray)).length = ([] : List ByteArray).length by simp [bytesL]] at hTx
        have HTx := Lib.hid hTx
        clear hs5 hTx
        go_wp2_with fail
        refine HTx.out.mono ?_
        rintro e w6 ⟨rfl, hs6⟩
        have H6 := Lib.hid (And.intro (H5.out.1.no hs6) (H5.out.2.trans hs6 (fun _ _ h => h)))
        obtain ⟨bb, hbb⟩ : ∃ b, hasL (tokensL (bytesL ([] : List ByteArray))) t.data.toList = b := ⟨_, rfl⟩
        have HB := Lib.hid hbb
        clear hs6 hbb
        go_wp2_with fail
        refine (has9_say HB HL.out.1 ht3 _ (some ⟨w1.heap.size, 0, none⟩) 0 (HA.out.2.no H6.out.2) H6.out.1).mono ?_
        rintro e w7 ⟨rfl, hs7⟩
        have H7 := Lib.hid (H6.out.2.trans hs7 (fun _ _ h => h))
        clear hs7
        go_wp2_with fail
        refine (rHas9_say HB HL.out.1 ht3 _ none 0 (HA.out.1.no H7.out)).mono ?_
        rintro e w8 ⟨rfl, hs8⟩
        have H8 := Lib.hid (H7.out.trans hs8 (fun _ _ h => h))
        clear hs8
        go_wp2_with fail
        refine (known9_any _ (HA.out.2.no H8.out)).mono ?_
        rintro e w9 ⟨rfl, hs9⟩
        go_wp2_with fail
        go_ret
        exact ⟨rfl, H8.out.trans hs9 (fun _ _ h => h)⟩
      | some a =>
        clear hA0
        have hrow := Lib.hid ((HA.out.1.no HL.out.2).rowC)
        have hlen : ((bytesL vs).map strV).length = vs.length * 1 := by simp [bytesL]
        have hone : ∀ u ∈ (bytesL vs).map strV, u.oneCell' = true := by
          intro u hu
          obtain ⟨x, _, rfl⟩ := List.mem_map.1 hu
          rfl
        have HN := Lib.hid (And.intro hlen hone)
        clear hlen hone
        go_wp2_with (refine wpList_push_row rfl _ _ 46 9 rfl Tryd.underlying46 _ 1 16 infoStr rfl (by decide) (by decide) w1.heap.size 0 _ [] rfl (own_empty w1 _ _ (Nat.le_refl _)) a vs.length c ((bytesL vs).map strV) rfl HN.out.1 (hrow.out.no ((Sm.refl No w1).alloc _)) HN.out.2 (by omega) (by simp) ?_; intro v' w2 hown hs2 _ _)
        have hsm2 : Sm No w1 w2 := ((Sm.refl No w1).alloc (.cells #[] 9)).trans hs2 (fun b hb e => by
          have e' : some w1.heap.size = some b := e
          injection e' with e'
          omega)
        rw [Nat.zero_add, List.nil_append] at hown
        obtain ⟨A2, c2, rfl, hR2⟩ := srow_own hown
        have H2 := Lib.hid (And.intro hR2 (And.intro (HL.out.2.trans hsm2 (fun _ _ h => h)) hsm2))
        clear hown hs2 hsm2 hR2
        go_wp2_with fail
        refine (HL.out.1.tokens _ A2 c2 (HA.out.2.no H2.out.2.1) H2.out.1).mono ?_
        rintro e w3 hcase
        obtain ⟨v1, b1, r1, rfl, hT1⟩ := tok2_of hcase
        obtain ⟨A3, c3, rfl, hR3, _⟩ := hT1.1.row
        have H3 := Lib.hid (And.intro hT1 (And.intro hR3 (H2.out.2.1.trans hT1.2.1 (fun _ _ h => h))))
        have H3R := Lib.hid (SRow.no H2.out.1 hT1.2.1)
        clear hcase hT1 hR3
        go_wp2_with fail
        refine (HL.out.1.rTokens _ (some a) c (HA.out.1.no H3.out.2.2)).mono ?_
        rintro e w4 hcase
        obtain ⟨v2, b2, r2, rfl, hT2⟩ := tok2_of hcase
        obtain ⟨rfl, rfl⟩ := tok2_same H3.out.1 hT2
        obtain ⟨A4, c4, rfl, hR4, _⟩ := hT2.1.row
        have hrl := tok2_len hT2 HL.out.1
        have HX := Lib.hid (texts9_any w4 A3 A4 c3 c4 r1 (H3.out.2.1.no hT2.2.1) hR4 (by omega))
        have H4 := Lib.hid (And.intro (H3R.out.no hT2.2.1) (H3.out.2.2.trans hT2.2.1 (fun _ _ h => h)))
        clear hcase hT2 hR4
        go_wp2_with fail
        refine HX.out.mono ?_
        rintro e w5 ⟨rfl, hs5⟩
        have H5 := Lib.hid (And.intro (H4.out.1.no hs5) (H4.out.2.trans hs5 (fun _ _ h => h)))
        have hTx := texts9_any w5 A2 (some a) c2 c (bytesL vs) H5.out.1.rowC (HA.out.1.no H5.out.2).rowC (by simp [bytesL]; try omega)
        rw [show (bytesL vs).length = vs.length by simp [bytesL]] at hTx
        have HTx := Lib.hid hTx
        clear hs5 hTx
        go_wp2_with fail
        refine HTx.out.mono ?_
        rintro e w6 ⟨rfl, hs6⟩
        have H6 := Lib.hid (And.intro (H5.out.1.no hs6) (H5.out.2.trans hs6 (fun _ _ h => h)))
        obtain ⟨bb, hbb⟩ : ∃ b, hasL (tokensL (bytesL vs)) t.data.toList = b := ⟨_, rfl⟩
        have HB := Lib.hid hbb
        clear hs6 hbb
        go_wp2_with fail
        refine (has9_say HB HL.out.1 ht3 _ A2 c2 (HA.out.2.no H6.out.2) H6.out.1).mono ?_
        rintro e w7 ⟨rfl, hs7⟩
        have H7 := Lib.hid (H6.out.2.trans hs7 (fun _ _ h => h))
        clear hs7
        go_wp2_with fail
        refine (rHas9_say HB HL.out.1 ht3 _ (some a) c (HA.out.1.no H7.out)).mono ?_
        rintro e w8 ⟨rfl, hs8⟩
        have H8 := Lib.hid (H7.out.trans hs8 (fun _ _ h => h))
        clear hs8
        go_wp2_with fail
        refine (known9_any _ (HA.out.2.no H8.out)).mono ?_
        rintro e w9 ⟨rfl, hs9⟩
        go_wp2_with fail
        go_ret
        exact ⟨rfl, H8.out.trans hs9 (fun _ _ h => h)⟩
  · clear hlight
    go_wp2_with fail
    go_ret
    exact ⟨rfl, hs1⟩
end Go.Proofs.YtppciofbaohpdaaDoor
