/- usherlaw9's heavy; Has. -/
import Derived.Test.YtppciofbaohpdaaDoorListI
namespace Go.Proofs.YtppciofbaohpdaaDoor
open Go.RowKit Go.Proofs

def costL (vs : List ByteArray) : Nat := (vs.map fun s => 1 + s.size).sum
theorem costL_snoc (vs : List ByteArray) (k : Nat) (h : k < vs.length) : costL (vs.take (k + 1)) = costL (vs.take k) + (1 + vs[k].size) := by
  unfold costL
  rw [List.take_succ_eq_append_getElem h, List.map_append, List.sum_append]
  simp
theorem costL_mem {vs : List ByteArray} {s : ByteArray} (h : s ∈ vs) : 1 + s.size ≤ costL vs := by
  induction vs with
  | nil => cases h
  | cons x vs ih =>
    unfold costL at ih ⊢
    rw [List.map_cons, List.sum_cons]
    rcases List.mem_cons.1 h with rfl | h
    · omega
    · have := ih h; omega
theorem costL_len (vs : List ByteArray) : vs.length ≤ costL vs := by
  induction vs with
  | nil => simp
  | cons x vs ih => unfold costL at ih ⊢; rw [List.map_cons, List.sum_cons, List.length_cons]; omega
theorem costL_rest (vs : List ByteArray) : (restL vs 0).length ≤ costL vs := by
  unfold restL bytesL
  rw [List.drop_zero]
  induction vs with
  | nil => simp
  | cons x vs ih =>
    unfold costL at ih ⊢
    rw [List.map_cons, List.flatMap_cons, List.length_append, List.map_cons, List.sum_cons]
    have := commaL_many x.data.toList
    rw [← size_toList'] at this
    omega
/-- The values are light. -/
structure Light9 (vs : List ByteArray) : Prop where
  len : vs.length ≤ 3000
  size : ∀ s ∈ vs, s.size ≤ 3000
  rest : (restL vs 0).length ≤ 3000
  cost : costL vs ≤ 3000
theorem light_of {vs : List ByteArray} (h : costL vs ≤ 3000) : Light9 vs :=
  ⟨Nat.le_trans (costL_len vs) h, fun s hs => by have := costL_mem hs; omega, Nat.le_trans (costL_rest vs) h, h⟩

def Heavy9Post (w : World) (vs : List ByteArray) (e : Ending) (w' : World) : Prop := ∃ b, e = .returned (.bool b) ∧ Sm No w w' ∧ (b = false → Light9 vs)
def Heavy9Rel (w : World) (vs : List ByteArray) (n i : Value) (wr : World) : Prop :=
  ∃ k : Nat, k ≤ vs.length ∧ i = .int .i64 k ∧ n = .int .i64 (costL (vs.take k)) ∧ costL (vs.take k) ≤ 3000 ∧ Sm No w wr

set_option maxHeartbeats 2000000 in
theorem heavy9_any (w : World) (A : Option Addr) (c : Nat) (vs : List ByteArray) (hA : ArgS w A vs c) :
    Calls Tryd.prog 25 #[.slice A vs.length c] w (Heavy9Post w vs) := by
  obtain ⟨hA, hlc, hc, hx, _⟩ := hA
  have hl : vs.length ≤ 8796093022208 := by omega
  have HA := Lib.hid (And.intro hA hx)
  clear hA hx
  go_enter Tryd.func25, Tryd.ntmps25
  go_wp2_with fail
  go_loopw [3, 4] (fun n i wr => Heavy9Rel w vs n i wr) (fun _ i _ => vs.length - (intOf i).toNat)
  case atStart => exact ⟨0, Nat.zero_le _, rfl, rfl, by simp [costL], Sm.refl _ _⟩
  case round =>
    obtain ⟨k, hk, rfl, rfl, hm, hs⟩ := hrel
    have HS := Lib.hid hs
    clear hs
    by_cases hlt : k < vs.length
    · obtain ⟨bb, off, hAe, hbb, r0⟩ := (HA.out.1.no HS.out) k hlt
      have x0 := HA.out.2 _ (List.getElem_mem hlt)
      have hsn := costL_snoc vs k hlt
      subst hAe
      obtain ⟨x, hxk⟩ : ∃ x, vs[k] = x := ⟨_, rfl⟩
      rw [hxk] at r0 x0 hsn
      obtain ⟨m, hm'⟩ : ∃ m, costL (vs.take k) = m := ⟨_, rfl⟩
      rw [hm'] at hm hsn ⊢
      have HN := Lib.hid hsn
      have k1 : (0 : Int) ≤ (k : Int) := by omega
      have k2 : (k : Int) < (vs.length : Int) := by omega
      clear hxk hsn hm'
      by_cases hbig : 3000 < m + (1 + x.size)
      · have hb2 : (3000 : Int) < (m : Int) + 1 + (x.size : Int) := by omega
        go_wp2_with fail
        first
          | (go_ret
             exact ⟨true, rfl, HS.out, fun h => by cases h⟩)
          | (go_quiet (fail)
             go_wp2_with fail
             go_ret
             exact ⟨true, rfl, HS.out.drewN _, fun h => by cases h⟩)
      · have hb2 : ¬ (3000 : Int) < (m : Int) + 1 + (x.size : Int) := by omega
        go_wp2_with fail
        first
          | exact ⟨⟨k + 1, by omega, by go_num, by rw [HN.out]; go_num, by rw [HN.out]; omega, HS.out⟩, by simp [intOf]; omega⟩
          | (go_quiet (fail)
             go_wp2_with fail
             exact ⟨⟨k + 1, by omega, by go_num, by rw [HN.out]; go_num, by rw [HN.out]; omega, HS.out.drewN _⟩, by simp [intOf]; omega⟩)
    · have ha : vs.take k = vs := List.take_of_length_le (by omega)
      rw [ha] at hm
      have HM := Lib.hid (light_of hm)
      clear ha
      go_wp2_with fail
      go_ret
      exact ⟨false, rfl, HS.out, fun _ => HM.out⟩

theorem toksA_len : ∀ (ps acc r : List (List UInt8)), toksA acc ps = some r → r.length ≤ acc.length + ps.length
  | [], acc, r, h => by simp [toksA] at h; subst h; simp
  | p :: ps, acc, r, h => by
    by_cases h1 : trimL p = []
    · rw [toksA_blank acc ps h1] at h; have := toksA_len ps acc r h; simp; omega
    · cases h2 : tokL (trimL p)
      · rw [toksA_bad acc ps h1 h2] at h; cases h
      · rw [toksA_tok acc ps h1 h2] at h; have := toksA_len ps _ r h; simp at this ⊢; omega
theorem tokensL_len {vs : List ByteArray} {r : List (List UInt8)} (h : tokensL (bytesL vs) = some r) : r.length ≤ (restL vs 0).length := by
  have := toksA_len _ _ _ h
  simpa [restL] using this
theorem Light9.many {vs : List ByteArray} (h : Light9 vs) {r : List (List UInt8)} (hr : tokensL (bytesL vs) = some r) : r.length ≤ 3000 := Nat.le_trans (tokensL_len hr) h.rest

def hasL (T : Option (List (List UInt8))) (t : List UInt8) : Bool := match T with
  | some r => r.any (· == lowL t)
  | none => false
theorem contains_str (r : List (List UInt8)) (x : List UInt8) : Lib.containsS (r.map fun l => (⟨l.toArray⟩ : ByteArray)) ⟨x.toArray⟩ = r.any (· == x) := by
  rw [Bool.eq_iff_iff, Lib.containsS_iff, List.any_eq_true, List.mem_map]
  constructor
  · rintro ⟨l, hl, e⟩
    have : l = x := by
      have := congrArg (fun b : ByteArray => b.data.toList) e
      simpa using this
    exact ⟨l, hl, by simp [this]⟩
  · rintro ⟨l, hl, e⟩
    exact ⟨l, hl, by rw [beq_iff_eq.1 e]⟩

set_option maxRecDepth 100000 in
set_option maxHeartbeats 4000000 in
theorem has9_any (w : World) (t : ByteArray) (A : Option Addr) (c : Nat) (vs : List ByteArray) (hg : G0 w) (hA : SRow w A vs) (hv : Light9 vs) (ht : t.size ≤ 1000000) :
    Calls Tryd.prog 35 #[.string t, .slice A vs.length c] w fun e w' => e = .returned (.bool (hasL (tokensL (bytesL vs)) t.data.toList)) ∧ Sm No w w' := by
  have HT := Lib.hid (tokens_any w A c vs hg hA (by have := hv.len; omega) (fun s hs => by have := hv.size s hs; omega) (by have := hv.rest; omega))
  obtain ⟨x, hx⟩ : ∃ x, (⟨(lowL t.data.toList).toArray⟩ : ByteArray) = x := ⟨_, rfl⟩
  have HX := Lib.hid hx
  have hvl := hv.rest
  clear hA hg hx hv
  obtain ⟨b, hb⟩ : ∃ b, hasL (tokensL (bytesL vs)) t.data.toList = b := ⟨_, rfl⟩
  rw [hb]
  have HB := Lib.hid hb
  clear hb
  go_enter Tryd.func35, Tryd.ntmps35
  go_wp2_with fail
  refine HT.out.mono ?_
  rintro e w1 (⟨r, v, hr, rfl, hO, hs⟩ | ⟨hr, rfl, hs⟩)
  · obtain ⟨A2, c2, rfl, hR, hAb⟩ := hO.row
    have hbr : r.any (· == lowL t.data.toList) = b := by rw [← HB.out, hr]; rfl
    have hrl : r.length ≤ 3000 := Nat.le_trans (tokensL_len hr) hvl
    have H1 := Lib.hid (And.intro hbr (And.intro hR hs))
    clear hO hR hs hbr hr hAb
    go_wp2_with fail
    refine (lower_say HX ht _).mono ?_
    rintro e w2 ⟨rfl, hs2⟩
    have hR2 := H1.out.2.1.no hs2
    have H2 := Lib.hid (And.intro hR2 (H1.out.2.2.trans hs2 (fun _ _ h => h)))
    clear hs2 hR2
    by_cases hr0 : r.length = 0
    · have hrn := List.eq_nil_of_length_eq_zero hr0
      subst hrn
      have hbf : b = false := by rw [← H1.out.1]; rfl
      subst hbf
      go_wp2_with fail
      refine (Tryd.slices_Contains_string_empty A2 c2 x _).mono ?_
      rintro e w3 ⟨rfl, rfl⟩
      go_wp2_with fail
      go_ret
      exact ⟨rfl, H2.out.2⟩
    · obtain ⟨y0, hy0⟩ : ∃ y, r[0]? = some y := ⟨r[0]'(by omega), by simp⟩
      obtain ⟨bb, off, hAe, _, _⟩ := H2.out.1.at (j := 0) (u := strV y0) (by simp [hy0])
      subst hAe
      have hC := fun (w0 : World) (h : RowC w0 (some ⟨bb, off, none⟩) (r.map strV)) (hl : r.length ≤ 9223372036854775807) => Tryd.slices_Contains_string bb off r.length c2 (r.map fun l => (⟨l.toArray⟩ : ByteArray)) x w0 (by simp) hl (fun j hj => by
        obtain ⟨b3, o3, e3, _, h3⟩ := h.at (j := j) (u := strV (r[j]'(by simpa using hj))) (by simp at hj; simp [hj])
        injection e3 with e3
        injection e3 with e4 e5
        subst e4 e5
        rw [h3]
        simp at hj
        simp [List.getD, hj, strV])
      have e : Lib.containsS ((r.map fun l => (⟨l.toArray⟩ : ByteArray)).take r.length) x = b := by
        rw [List.take_of_length_le (by simp), ← HX.out, contains_str, H1.out.1]
      rw [e] at hC
      have HC := Lib.hid hC
      clear hC e
      go_wp2_with fail
      refine (HC.out _ H2.out.1 (by omega)).mono ?_
      rintro e w3 ⟨rfl, rfl⟩
      go_wp2_with fail
      go_ret
      exact ⟨rfl, H2.out.2⟩
  · have hbf : b = false := by rw [← HB.out, hr]; rfl
    subst hbf
    have HS := Lib.hid hs
    clear hs hr
    go_wp2_with fail
    go_ret
    exact ⟨rfl, HS.out⟩

def HasRel (w : World) (r : List (List UInt8)) (x : List UInt8) (i : Value) (wr : World) : Prop :=
  ∃ k : Nat, k ≤ r.length ∧ i = .int .i64 k ∧ Sm No w wr ∧ (r.take k).any (· == x) = false

set_option maxRecDepth 100000 in
set_option maxHeartbeats 8000000 in
theorem rHas9_any (w : World) (t : ByteArray) (A : Option Addr) (c : Nat) (vs : List ByteArray) (hA : SRow w A vs) (hv : Light9 vs) (ht : t.size ≤ 1000000) :
    Calls Tryd.prog 36 #[.string t, .slice A vs.length c] w fun e w' => e = .returned (.bool (hasL (tokensL (bytesL vs)) t.data.toList)) ∧ Sm No w w' := by
  have HT := Lib.hid (rTokens_any w A c vs hA (by have := hv.len; omega) (fun s hs => by have := hv.size s hs; omega) (by have := hv.rest; omega))
  obtain ⟨x, hx⟩ : ∃ x, (⟨(lowL t.data.toList).toArray⟩ : ByteArray) = x := ⟨_, rfl⟩
  have hxd : x.data.toList = lowL t.data.toList := by rw [← hx]
  have HX := Lib.hid hx
  have hvl := hv.rest
  clear hA hx hv
  obtain ⟨b, hb⟩ : ∃ b, hasL (tokensL (bytesL vs)) t.data.toList = b := ⟨_, rfl⟩
  rw [hb]
  have HB := Lib.hid (And.intro hb hxd)
  clear hb hxd
  go_enter Tryd.func36, Tryd.ntmps36
  go_wp2_with fail
  refine HT.out.mono ?_
  rintro e w1 (⟨r, v, hr, rfl, hO, hs⟩ | ⟨hr, rfl, hs⟩)
  · obtain ⟨A2, c2, rfl, hR, hAb⟩ := hO.row
    have hbr : r.any (· == lowL t.data.toList) = b := by rw [← HB.out.1, hr]; rfl
    have hrl : r.length ≤ 3000 := Nat.le_trans (tokensL_len hr) hvl
    have H1 := Lib.hid (And.intro hbr (And.intro hR hs))
    clear hO hR hs hbr hr hAb
    go_wp2_with fail
    go_loopw [7] (fun i wr => HasRel w1 r (lowL t.data.toList) i wr) (fun i _ => r.length - (intOf i).toNat)
    case atStart => exact ⟨0, Nat.zero_le _, rfl, Sm.refl _ _, rfl⟩
    case round =>
      obtain ⟨k, hk, rfl, hsm, hno⟩ := hrel
      have HS := Lib.hid (And.intro hsm hno)
      clear hsm hno
      by_cases hlt : k < r.length
      · have e1 : (r.map strV)[k]? = some (strV r[k]) := by simp [hlt]
        obtain ⟨bb, off, hAe, hbb, r0⟩ := (H1.out.2.1.no HS.out.1).at e1
        subst hAe
        obtain ⟨y, hy⟩ : ∃ y, r[k] = y := ⟨_, rfl⟩
        rw [hy, strV] at r0
        have htk : (r.take (k + 1)).any (· == lowL t.data.toList) = (y == lowL t.data.toList) := by
          rw [List.take_succ_eq_append_getElem hlt, List.any_append, HS.out.2, hy]; simp
        have HY := Lib.hid (And.intro htk hy)
        have k1 : (0 : Int) ≤ (k : Int) := by omega
        have k2 : (k : Int) < (r.length : Int) := by omega
        clear htk hy e1
        go_wp2_with fail
        go_region_held3 (fun w' => w'.cell? ⟨bb, off + k, none⟩ = some (.string ⟨y.toArray⟩)) (first | exact r0 | exact r4)
          ((go_at_call 62; (with_reducible refine (rLower_say HX ht _).mono ?_); rintro e w4 ⟨rfl, hs4⟩; have hs5 := HS.out.1.drew.trans hs4 (fun _ _ h => h); have r4 := hs4.cell (by simpa using hbb) r0))
        all_goals go_wp2_with fail
        · rename_i hyx
          have hbt : b = true := by
            rw [← H1.out.1, List.any_eq_true]
            refine ⟨y, by rw [← HY.out.2]; exact List.getElem_mem hlt, ?_⟩
            rw [← HB.out.2, ← Go.ByteArray.toList_eq]
            exact hyx
          subst hbt
          go_ret
          exact ⟨rfl, H1.out.2.2.trans hs5 (fun _ _ h => h)⟩
        · rename_i hyx
          have hno : (r.take (k + 1)).any (· == lowL t.data.toList) = false := by
            rw [HY.out.1, ← HB.out.2, ← Go.ByteArray.toList_eq]
            exact hyx
          exact ⟨⟨k + 1, by omega, by go_num, hs5, hno⟩, by simp [intOf]; omega⟩
      · have hbf : b = false := by
          have h1 := HS.out.2
          rw [List.take_of_length_le (by omega), H1.out.1] at h1
          exact h1
        subst hbf
        go_wp2_with fail
        go_ret
        exact ⟨rfl, H1.out.2.2.trans HS.out.1 (fun _ _ h => h)⟩
  · have hbf : b = false := by rw [← HB.out.1, hr]; rfl
    subst hbf
    have HS := Lib.hid hs
    clear hs hr
    go_wp2_with fail
    go_loopw [7] (fun i wr => HasRel w1 [] [] i wr) (fun i _ => 0)
    case atStart => exact ⟨0, Nat.zero_le _, rfl, Sm.refl _ _, rfl⟩
    case round =>
      obtain ⟨k, hk, rfl, hsm, _⟩ := hrel
      obtain rfl : k = 0 := by simpa using hk
      have HS2 := Lib.hid hsm
      clear hsm
      go_wp2_with fail
      go_ret
      exact ⟨rfl, HS.out.trans HS2.out (fun _ _ h => h)⟩
end Go.Proofs.YtppciofbaohpdaaDoor
