/- The walks of ListHasAll, ListJoins, ListTokens. -/
import Derived.Test.YtppciofbaohpdaaDoorListK
namespace Go.Proofs.YtppciofbaohpdaaDoor
open Go.RowKit Go.Proofs

section
open Go.WideShapes Go.ChangeShapes
variable {H : Type} {enc : TypeId × Value → H} {w : World}
set_option maxRecDepth 100000 in
theorem open_arg_strs {base : Nat} {v : Value} {d : DataW H} {ps : List MemPlace} (hv : Value.okWide Tryd.prog w .any base 46 v) (h : DataW.Trod enc Tryd.prog w 0 (fun _ => true) true 46 v d ps) (hz : ∀ n ∈ d.weights Tryd.prog 46, n ≤ 140737488351232) :
    ∃ A l c, v = .slice A l.length c ∧ ArgS w A l c := by
  obtain ⟨x, len, cap, rfl⟩ := okWide_slice Tryd.underlying46 hv
  obtain ⟨k, hk⟩ := h
  exact open_strs_at Tryd.underlying46 Tryd.underlying9 (by kernel_rfl) (by kernel_rfl) hk hz
end

theorem Light9.tokens {vs : List ByteArray} (h : Light9 vs) (w : World) (A : Option Addr) (c : Nat) (hg : G0 w) (hA : SRow w A vs) : Calls Tryd.prog 26 #[.slice A vs.length c] w (TokPost w vs) :=
  tokens_any w A c vs hg hA (by have := h.len; omega) (fun s hs => by have := h.size s hs; omega) (by have := h.rest; omega)
theorem Light9.rTokens {vs : List ByteArray} (h : Light9 vs) (w : World) (A : Option Addr) (c : Nat) (hA : SRow w A vs) : Calls Tryd.prog 34 #[.slice A vs.length c] w (TokPost w vs) :=
  rTokens_any w A c vs hA (by have := h.len; omega) (fun s hs => by have := h.size s hs; omega) (by have := h.rest; omega)
theorem has9_say {vs : List ByteArray} {t : ByteArray} {b : Bool} (h : Hid (hasL (tokensL (bytesL vs)) t.data.toList = b)) (hv : Light9 vs) (ht : t.size ≤ 1000000) (w : World) (A : Option Addr) (c : Nat) (hg : G0 w) (hA : SRow w A vs) :
    Calls Tryd.prog 35 #[.string t, .slice A vs.length c] w fun e w' => e = .returned (.bool b) ∧ Sm No w w' := by
  rw [← h.out]; exact has9_any w t A c vs hg hA hv ht
theorem rHas9_say {vs : List ByteArray} {t : ByteArray} {b : Bool} (h : Hid (hasL (tokensL (bytesL vs)) t.data.toList = b)) (hv : Light9 vs) (ht : t.size ≤ 1000000) (w : World) (A : Option Addr) (c : Nat) (hA : SRow w A vs) :
    Calls Tryd.prog 36 #[.string t, .slice A vs.length c] w fun e w' => e = .returned (.bool b) ∧ Sm No w w' := by
  rw [← h.out]; exact rHas9_any w t A c vs hA hv ht

theorem has_own {r : List (List UInt8)} (h : ∀ l ∈ r, smallTok l) {x : List UInt8} (hx : x ∈ r) : hasL (some r) x = true := by
  unfold hasL
  exact List.any_eq_true.2 ⟨x, hx, by rw [(h x hx).2]; simp⟩
theorem has_not {r : List (List UInt8)} (h : ∀ l ∈ r, smallTok l) {x : List UInt8} (hx : tokL (lowL x) = false) : hasL (some r) x = false := by
  unfold hasL
  rw [List.any_eq_false]
  intro l hl e
  rw [← beq_iff_eq.1 e, (h l hl).1] at hx
  cases hx

def AllRel9 (w : World) (r : List (List UInt8)) (i : Value) (wr : World) : Prop := ∃ k : Nat, k ≤ r.length ∧ i = .int .i64 k ∧ Sm No w wr

theorem toksA_size : ∀ (ps acc r : List (List UInt8)) (m : Nat), toksA acc ps = some r → (∀ l ∈ acc, l.length ≤ m) → (∀ p ∈ ps, p.length ≤ m) → ∀ l ∈ r, l.length ≤ m
  | [], acc, r, m, h, ha, _ => by simp [toksA] at h; subst h; exact ha
  | p :: ps, acc, r, m, h, ha, hp => by
    by_cases h1 : trimL p = []
    · rw [toksA_blank acc ps h1] at h; exact toksA_size ps acc r m h ha (fun q hq => hp q (List.mem_cons_of_mem _ hq))
    · cases h2 : tokL (trimL p)
      · rw [toksA_bad acc ps h1 h2] at h; cases h
      · rw [toksA_tok acc ps h1 h2] at h
        refine toksA_size ps _ r m h (fun l hl => ?_) (fun q hq => hp q (List.mem_cons_of_mem _ hq))
        rcases List.mem_append.1 hl with g | g
        · exact ha l g
        · obtain rfl := List.mem_singleton.1 g
          have e1 := trimL_le p
          have e2 := hp p (by simp)
          unfold lowL
          rw [List.length_map]; omega
theorem Light9.toks {vs : List ByteArray} (h : Light9 vs) {r : List (List UInt8)} (hr : tokensL (bytesL vs) = some r) : ∀ l ∈ r, l.length ≤ 3001 := by
  refine toksA_size _ _ _ 3001 hr (fun l hl => by cases hl) (fun p hp => ?_)
  obtain ⟨v, hv, hpv⟩ := List.mem_flatMap.1 hp
  obtain ⟨s, hs, rfl⟩ := List.mem_map.1 hv
  have e1 := commaL_len hpv
  have e2 := h.size s hs
  rw [← size_toList'] at e1
  omega

set_option maxRecDepth 100000 in
set_option maxHeartbeats 8000000 in
theorem hasAll_any (A : Option Addr) (vs : List ByteArray) (c : Nat) (w : World) (hA : ArgS w A vs c) (hg : G0 w) :
    Calls Tryd.prog 11 #[.slice A vs.length c] w fun e w' => e = .returned (.bool true) ∧ Sm No w w' := by
  have HH := Lib.hid (heavy9_any w A c vs hA)
  have HA := Lib.hid (And.intro hA.1 hg)
  have hvl : vs.length ≤ 8796093022208 := by have := hA.2.1; have := hA.2.2.1; omega
  clear hA hg
  go_enter Tryd.func11, Tryd.ntmps11
  go_wp2_with fail
  refine HH.out.mono ?_
  rintro e w1 ⟨b, rfl, hs1, hlight⟩
  cases b
  · have HL := Lib.hid (And.intro (hlight rfl) hs1)
    clear hlight hs1
    go_wp2_with fail
    refine (HL.out.1.tokens w1 A c (HA.out.2.no HL.out.2) (HA.out.1.no HL.out.2)).mono ?_
    rintro e w2 (⟨r, v, hr, rfl, hO, hs2⟩ | ⟨hr, rfl, hs2⟩)
    · obtain ⟨A2, c2, rfl, hR, _⟩ := hO.row
      have hsm := tokensL_small hr
      have hsz := HL.out.1.toks hr
      have hrl := HL.out.1.many hr
      have H2 := Lib.hid (And.intro hR (And.intro (HL.out.2.trans hs2 (fun _ _ h => h)) (And.intro hsm (And.intro hsz hr))))
      clear hO hR hs2 hsm hsz hr
      go_wp2_with fail
      go_loopw [5] (fun i wr => AllRel9 w2 r i wr) (fun i _ => r.length - (intOf i).toNat)
      case atStart => exact ⟨0, Nat.zero_le _, rfl, Sm.refl _ _⟩
      case round =>
        obtain ⟨k, hk, rfl, hs⟩ := hrel
        have HS := Lib.hid (And.intro hs (H2.out.2.1.trans hs (fun _ _ h => h)))
        clear hs
        by_cases hlt : k < r.length
        · have e1 : (r.map strV)[k]? = some (strV r[k]) := by simp [hlt]
          obtain ⟨bb, off, hAe, hbb, r0⟩ := (H2.out.1.no HS.out.1).at e1
          subst hAe
          have hm := List.getElem_mem hlt
          obtain ⟨y, hy⟩ : ∃ y, r[k] = y := ⟨_, rfl⟩
          rw [hy, strV] at r0
          rw [hy] at hm
          have hh : hasL (tokensL (bytesL vs)) (⟨y.toArray⟩ : ByteArray).data.toList = true := by rw [H2.out.2.2.2.2]; exact has_own H2.out.2.2.1 hm
          have hys : (⟨y.toArray⟩ : ByteArray).size ≤ 1000000 := by rw [size_toList']; have := H2.out.2.2.2.1 y hm; show y.length ≤ _; omega
          have HY := Lib.hid (has9_say (Lib.hid hh) HL.out.1 hys wr A c (HA.out.2.no HS.out.2) (HA.out.1.no HS.out.2))
          have k1 : (0 : Int) ≤ (k : Int) := by omega
          have k2 : (k : Int) < (r.length : Int) := by omega
          clear hh hy e1 hm hys
          go_wp2_with fail
          refine HY.out.mono ?_
          rintro e w3 ⟨rfl, hs3⟩
          have H3 := Lib.hid (HS.out.1.trans hs3 (fun _ _ h => h))
          clear hs3
          go_wp2_with fail
          exact ⟨⟨k + 1, by omega, by go_num, H3.out⟩, by simp [intOf]; omega⟩
        · have h1 : hasL (tokensL (bytesL vs)) (⟨#[]⟩ : ByteArray).data.toList = false := by rw [H2.out.2.2.2.2]; exact has_not H2.out.2.2.1 rfl
          have h2 : hasL (tokensL (bytesL vs)) (⟨#[97, 32, 98]⟩ : ByteArray).data.toList = false := by rw [H2.out.2.2.2.2]; exact has_not H2.out.2.2.1 (by kernel_rfl)
          have HY1 := Lib.hid (has9_say (Lib.hid h1) HL.out.1 (by decide) wr A c (HA.out.2.no HS.out.2) (HA.out.1.no HS.out.2))
          have HH2 := Lib.hid h2
          clear h1 h2
          go_wp2_with fail
          refine HY1.out.mono ?_
          rintro e w3 ⟨rfl, hs3⟩
          have H3 := Lib.hid (HS.out.2.trans hs3 (fun _ _ h => h))
          clear hs3
          go_wp2_with fail
          refine (has9_say HH2 HL.out.1 (by decide) _ A c (HA.out.2.no H3.out) (HA.out.1.no H3.out)).mono ?_
          rintro e w4 ⟨rfl, hs4⟩
          have H4 := Lib.hid (H3.out.trans hs4 (fun _ _ h => h))
          clear hs4
          go_wp2_with fail
          refine (known9_any _ (HA.out.2.no H4.out)).mono ?_
          rintro e w5 ⟨rfl, hs5⟩
          go_wp2_with fail
          go_ret
          exact ⟨rfl, H4.out.trans hs5 (fun _ _ h => h)⟩
    · have hh : hasL (tokensL (bytesL vs)) (⟨#[97]⟩ : ByteArray).data.toList = false := by rw [hr]; rfl
      have HHH := Lib.hid hh
      have H2 := Lib.hid (HL.out.2.trans hs2 (fun _ _ h => h))
      clear hh hs2 hr
      go_wp2_with fail
      refine (has9_say HHH HL.out.1 (by decide) _ A c (HA.out.2.no H2.out) (HA.out.1.no H2.out)).mono ?_
      rintro e w3 ⟨rfl, hs3⟩
      have H3 := Lib.hid (H2.out.trans hs3 (fun _ _ h => h))
      clear hs3
      go_wp2_with fail
      refine (known9_any _ (HA.out.2.no H3.out)).mono ?_
      rintro e w4 ⟨rfl, hs4⟩
      go_wp2_with fail
      go_ret
      exact ⟨rfl, H3.out.trans hs4 (fun _ _ h => h)⟩
  · clear hlight
    go_wp2_with fail
    go_ret
    exact ⟨rfl, hs1⟩
end Go.Proofs.YtppciofbaohpdaaDoor
