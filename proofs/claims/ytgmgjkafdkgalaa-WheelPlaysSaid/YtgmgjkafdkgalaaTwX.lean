/- The document's Wheel (usherref6): place. -/
import Derived.Test.YtgmgjkafdkgalaaTwW
import Derived.Test.YtgmgjkafdkgalaaBits
import Derived.Laws.StructEq
namespace Go.Proofs.Ytgmgjkafdkgalaa
open Go.RowKit Go.Proofs Go.Maps

def TPlRel (w : World) (n a : Nat) (i : Value) (wr : World) : Prop := ∃ k : Nat, k ≤ 4 ∧ i = .int .i64 k ∧ Sm No w wr ∧ ∀ j, j < k → a / 64 ^ (j + 1) ≠ n / 64 ^ (j + 1)
theorem placeL_out {n a : Nat} (h0 : ¬ a ≤ n) (hj : ∀ j, j < 4 → a / 64 ^ (j + 1) ≠ n / 64 ^ (j + 1)) : placeL n a = (4, 0) := by
  unfold placeL
  have h1 := hj 0 (by omega)
  have h2 := hj 1 (by omega)
  have h3 := hj 2 (by omega)
  have h4 := hj 3 (by omega)
  simp at h1 h2 h3 h4
  rw [if_neg h0, if_neg h1, if_neg h2, if_neg h3, if_neg h4]
theorem and63 (x : Nat) : bits .and .i64 (x : Int) 63 = ((x % 64 : Nat) : Int) := by
  have h1 : (BitVec.ofInt 64 (x : Int) &&& BitVec.ofInt 64 (63 : Int)).toNat = x % 64 := by
    rw [BitVec.toNat_and]
    have e1 : (BitVec.ofInt 64 (63 : Int)).toNat = 2 ^ 6 - 1 := by decide
    have e2 : (BitVec.ofInt 64 (x : Int)).toNat = x % 2 ^ 64 := by simp
    rw [e1, e2, Nat.and_two_pow_sub_one_eq_mod]
    omega
  show IntKind.i64.wrap _ = _
  rw [IntKind.wrap_i64]
  show ((((BitVec.ofInt 64 (x : Int) &&& BitVec.ofInt 64 (63 : Int)).toNat : Nat) : Int) + 9223372036854775808) % 18446744073709551616 - 9223372036854775808 = _
  rw [h1]
  omega
set_option maxRecDepth 100000 in
set_option maxHeartbeats 4000000 in
theorem twplace_any (w : World) (r n a : Nat) (c0 : w.cell? ⟨r, 2, none⟩ = some (.int .i64 n)) :
    Calls Try.prog 44 #[.pointer (some ⟨r, 0, none⟩), .int .i64 a] w fun e w' => e = .returned (.tuple #[.int .i64 (placeL n a).1, .int .i64 (placeL n a).2]) ∧ Sm No w w' := by
  have HC := Lib.hid c0
  by_cases h0 : a ≤ n
  · have e : placeL n a = (0, n % 64) := by unfold placeL; rw [if_pos h0]
    have hd : decide ((a : Int) ≤ (n : Int)) = true := by simpa using h0
    rw [e]
    clear e
    go_enter Try.func44, Try.ntmps44
    go_wp2_with fail
    go_quiet (fail)
    go_wp2_with fail
    go_ret2
    refine ⟨?_, (Sm.refl _ _).drewN _⟩
    rw [← and63]
    rfl
  · have hd : decide ((a : Int) ≤ (n : Int)) = false := by simp; omega
    go_enter Try.func44, Try.ntmps44
    go_wp2_with fail
    go_loopw [6] (fun i wr => TPlRel w n a i wr) (fun i _ => 4 - (intOf i).toNat)
    case atStart => exact ⟨0, by omega, rfl, Sm.refl _ _, fun j h => by omega⟩
    case round =>
      obtain ⟨k, hk, rfl, hs, hj⟩ := hrel
      have HS := Lib.hid (And.intro hs hj)
      have c0 := hs.cell (World.block_lt_of_cell? _ _ HC.out) HC.out
      have hwr := hs
      clear hs hj
      by_cases hk4 : k < 4
      · have ea := sh_eq a (k + 1)
        have en := sh_eq n (k + 1)
        have hd4 : decide ((k : Int) < 4) = true := by simp; omega
        by_cases he : a / 64 ^ (k + 1) = n / 64 ^ (k + 1)
        · have hb : ((a : Int) / 2 ^ (6 * k + 6) == (n : Int) / 2 ^ (6 * k + 6)) = true := by rw [show 6 * k + 6 = 6 * (k + 1) by omega, ea, en, he]; simp
          have hP : placeL n a = (k, a / 64 ^ k % 64) := by rw [placeL_at h0 HS.out.2 he, if_neg (by omega)]
          have HP := Lib.hid (And.intro hP (sh_eq a k))
          have HW := Lib.hid hwr
          clear ea en he hwr hP
          go_wp2_with fail
          go_ret2
          refine ⟨?_, HW.out⟩
          rw [HP.out.1]
          dsimp only
          rw [← and63, ← HP.out.2]
          rfl
        · have hb : ((a : Int) / 2 ^ (6 * k + 6) == (n : Int) / 2 ^ (6 * k + 6)) = false := by rw [show 6 * k + 6 = 6 * (k + 1) by omega, ea, en]; simpa using fun e => he (by exact_mod_cast e)
          have HE := Lib.hid he
          have HW := Lib.hid hwr
          clear ea en he hwr
          go_wp2_with fail
          refine ⟨⟨k + 1, by omega, by go_num, HW.out, fun j hj => ?_⟩, by simp [intOf]; omega⟩
          rcases Nat.lt_or_ge j k with g | g
          · exact HS.out.2 j g
          · obtain rfl : j = k := by omega
            exact HE.out
      · have hd4 : decide ((k : Int) < 4) = false := by simp; omega
        obtain rfl : k = 4 := by omega
        have HP := Lib.hid (placeL_out h0 HS.out.2)
        have HW := Lib.hid hwr
        clear hwr
        go_wp2_with fail
        go_ret2
        rw [HP.out]
        exact ⟨rfl, HW.out⟩

/-! Handles held against each other. -/
theorem eqG_h : Try.prog.eqGuardType Try.prog.depth 29 = false := by kernel_rfl
theorem eqS_h : Try.prog.stoodInHeld 29 = false := by kernel_rfl
theorem eqF_h : Try.prog.underlying 29 = some (.struct (Try.prog.fieldsOf 29)) := by kernel_rfl
theorem eql_h (a b : Hd) (w : World) : (binOp .eql 29 (.agg #[.int .i64 a.slot, .int .i64 a.gen]) (.agg #[.int .i64 b.slot, .int .i64 b.gen])).run Try.prog w = .ok (.bool (decide (a = b))) w := by
  have e : decide (a = b) = (if a.slot = b.slot then a.gen == b.gen else false) := by
    obtain ⟨a1, a2⟩ := a
    obtain ⟨b1, b2⟩ := b
    by_cases h1 : a1 = b1 <;> by_cases h2 : a2 = b2 <;> simp [h1, h2]
  rw [run_eql_struct, run_equalIn_agg w 9999 29 _ _ eqF_h eqS_h]
  have u := Try.underlying3
  have uh := Try.underlying29
  rw [e]
  obtain ⟨a1, a2⟩ := a
  obtain ⟨b1, b2⟩ := b
  by_cases h1 : a1 = b1 <;> by_cases h2 : a2 = b2 <;> simp [Program.fieldsOf, uh, Op.eqFields, part, go_sem, u, h1, h2]
/-! Where. -/
theorem findT_at {l : List Tm} {h : Hd} {k : Nat} {t : Tm} (hk : l[k]? = some t) (hh : t.h = h) (hno : ∀ x ∈ l.take k, x.h ≠ h) : l.find? (fun x => decide (x.h = h)) = some t := by
  induction l generalizing k with
  | nil => simp at hk
  | cons y l ih =>
    cases k with
    | zero => simp at hk; subst hk; simp [hh]
    | succ k =>
      have h1 := hno y (by simp)
      rw [List.find?_cons_of_neg (by simpa using h1)]
      exact ih (by simpa using hk) (fun x hx => hno x (by simp [hx]))
def NoH (w : World) (L : List Tm) (h : Hd) (i : Value) (wr : World) : Prop := ∃ k : Nat, k ≤ L.length ∧ i = .int .i64 k ∧ Sm No w wr ∧ ∀ x ∈ L.take k, x.h ≠ h
theorem noH_step {L : List Tm} {h : Hd} {k : Nat} {t : Tm} (hk : L[k]? = some t) (hh : t.h ≠ h) (hno : ∀ x ∈ L.take k, x.h ≠ h) : ∀ x ∈ L.take (k + 1), x.h ≠ h := by
  intro x hx
  rw [List.take_add_one, hk] at hx
  simp at hx
  rcases hx with hx | hx
  · exact hno x hx
  · rw [hx]; exact hh
set_option maxRecDepth 100000 in
set_option maxHeartbeats 4000000 in
theorem twwhere_any (w : World) (O : Nat → Prop) (r : Nat) (st : St) (h : Hd) (hW : IsTw w O r st) (ho : st.ord ≤ 90000) :
    Calls Try.prog 28 #[.pointer (some ⟨r, 0, none⟩), hv h] w fun e w' => e = .returned (whereV (whereW st h)) ∧ Sm No w w' := by
  obtain ⟨Os, s, v, h1, h2, h3, h4, h5, h6, h7⟩ := hW
  obtain ⟨A, c, rfl, hR, _⟩ := own_rowC h3
  have hs0 := (Sm.refl No w).alloc (.cells #[.int .i64 h.slot, .int .i64 h.gen] 29)
  have hx0 := Bk.new w 29 #[.int .i64 h.slot, .int .i64 h.gen]
  have b1 := h1.no hs0
  have hll := h5.len
  obtain ⟨rb, hrb⟩ : ∃ rb, w.heap.size = rb := ⟨_, rfl⟩
  obtain ⟨W, hWw⟩ : ∃ W, w.alloc (.cells #[.int .i64 h.slot, .int .i64 h.gen] 29) = W := ⟨_, rfl⟩
  rw [hWw] at hs0 hx0 b1
  rw [hrb] at hx0
  have H := Lib.hid (And.intro hs0 (And.intro hx0 (And.intro b1 (And.intro (hR.no hs0) h5))))
  have HW := Lib.hid (And.intro hWw hrb)
  clear h1 h2 h3 h4 h5 h6 h7 hR hs0 hx0 b1 hWw hrb
  unfold hv
  go_enter Try.func28, Try.ntmps28
  go_wp2_with fail
  rw [HW.out.1, HW.out.2]
  go_loopw [7] (fun i wr => NoH W st.L h i wr) (fun i _ => st.L.length - (intOf i).toNat)
  case atStart => exact ⟨0, Nat.zero_le _, rfl, Sm.refl _ _, by simp⟩
  case round =>
    obtain ⟨k, hk, rfl, hs, hno⟩ := hrel
    have b1 := H.out.2.2.1.no hs
    have c1 := b1.at 1 (v := .slice A st.L.length c) rfl
    have c2 := b1.at 2 (v := .int .i64 st.now) rfl
    have x1 := H.out.2.1.no hs
    have q0 := x1.at 0 (v := .int .i64 h.slot) rfl
    have q1 := x1.at 1 (v := .int .i64 h.gen) rfl
    have hrl := b1.lt
    have hxl := x1.lt
    have HS := Lib.hid (And.intro hs hno)
    clear hs hno b1 x1
    by_cases hlt : k < st.L.length
    · obtain ⟨t, ht⟩ : ∃ t, st.L[k]? = some t := ⟨_, List.getElem?_eq_getElem hlt⟩
      obtain ⟨t1, t2, t3, t4, t5⟩ := tmRow_at ht
      obtain ⟨bb, off, hAe, hbb, r0⟩ := (H.out.2.2.2.1.no HS.out.1).at t1
      subst hAe
      obtain ⟨_, _, hA1, _, r3⟩ := (H.out.2.2.2.1.no HS.out.1).at t4
      injection hA1 with hA1; injection hA1 with e1 e2; subst e1 e2
      obtain ⟨_, _, hA1, _, r4⟩ := (H.out.2.2.2.1.no HS.out.1).at t5
      injection hA1 with hA1; injection hA1 with e1 e2; subst e1 e2
      have HT := Lib.hid ht
      have k1 : (0 : Int) ≤ (k : Int) := by omega
      have k2 : (k : Int) < (st.L.length : Int) := by omega
      obtain ⟨e, he⟩ : ∃ e, decide (t.h = h) = e := ⟨_, rfl⟩
      have hq := fun w => eql_h t.h h w
      rw [he] at hq
      have hg := eqG_h
      have HE := Lib.hid he
      rw [show off + (k * 5 + 3) = off + k * 5 + 3 by omega] at r3
      rw [show off + (k * 5 + 4) = off + k * 5 + 3 + 1 by omega] at r4
      clear t1 t2 t3 t4 t5 ht he
      cases e
      · have hno := noH_step HT.out (by simpa using HE.out) HS.out.2
        have HN := Lib.hid hno
        clear hno
        go_wp2_with fail
        go_quiet (fail)
        go_wp2_with fail
        exact ⟨⟨k + 1, by omega, by go_num, HS.out.1.drewN _, HN.out⟩, by simp [intOf]; omega⟩
      · have hF : whereW st h = (((placeL st.now t.a).1 : Int), ((placeL st.now t.a).2 : Int), 0) := by
          unfold whereW findT
          rw [findT_at HT.out (by simpa using HE.out) HS.out.2]
        have HF := Lib.hid hF
        clear hF
        go_wp2_with fail
        go_quiet (fail)
        go_wp2_with fail
        refine (twplace_any (wr.drewN nq) r st.now t.a c2).mono ?_
        rintro e w1 ⟨rfl, hs1⟩
        have HS1 := Lib.hid hs1
        clear hs1
        go_wp2_with fail
        go_ret3
        rw [HF.out]
        exact ⟨rfl, (H.out.1.trans (HS.out.1.drewN _) (fun _ _ h => h)).trans HS1.out (fun _ _ h => h)⟩
    · have hN : whereW st h = (0, 0, 10) := by
        unfold whereW
        rw [findT_none]
        have := HS.out.2
        rw [List.take_of_length_le (by omega)] at this
        rw [Bool.eq_false_iff]
        intro e
        obtain ⟨x, hx, hxe⟩ := hasT_mem.1 e
        exact this x hx hxe
      have HN := Lib.hid hN
      clear hN
      go_wp2_with fail
      go_ret3
      rw [HN.out]
      exact ⟨rfl, H.out.1.trans HS.out.1 (fun _ _ h => h)⟩

/-! Next. -/
theorem fold_take {L : List Tm} {t0 : Tm} {r : List Tm} {k : Nat} {t : Tm} (hL : L = t0 :: r) (hk : L[k + 1]? = some t) : (r.take (k + 1)).foldl (fun m x => min m x.a) t0.a = min ((r.take k).foldl (fun m x => min m x.a) t0.a) t.a := by
  subst hL
  have hk : r[k]? = some t := by simpa using hk
  rw [List.take_add_one, hk, List.foldl_append]
  rfl
def NextT (w : World) (L : List Tm) (n i : Value) (wr : World) : Prop :=
  wr = w ∧ ((n = .int .i64 0 ∧ i = .int .i64 0) ∨ ∃ (k : Nat) (t0 : Tm) (r : List Tm), k + 1 ≤ L.length ∧ i = .int .i64 ((k + 1 : Nat) : Int) ∧ L = t0 :: r ∧ n = .int .i64 ((r.take k).foldl (fun m x => min m x.a) t0.a : Nat))
set_option maxRecDepth 100000 in
set_option maxHeartbeats 4000000 in
theorem twnext_any (w : World) (O : Nat → Prop) (r : Nat) (st : St) (hW : IsTw w O r st) (ho : st.ord ≤ 90000) :
    Calls Try.prog 26 #[.pointer (some ⟨r, 0, none⟩)] w fun e w' => e = .returned (.tuple #[.int .i64 (nextW st).1, .bool (nextW st).2]) ∧ Sm No w w' := by
  obtain ⟨Os, s, v, h1, h2, h3, h4, h5, h6, h7⟩ := hW
  obtain ⟨A, c, rfl, hR, _⟩ := own_rowC h3
  have c1 := h1.at 1 (v := .slice A st.L.length c) rfl
  have hrl := h1.lt
  have hll := h5.len
  have H := Lib.hid hR
  clear h1 h2 h3 h4 h5 h6 h7 hR
  go_enter Try.func26, Try.ntmps26
  go_wp2_with fail
  go_loopw [4, 5] (fun n i wr => NextT w st.L n i wr) (fun _ i _ => st.L.length - (intOf i).toNat)
  case atStart => exact ⟨rfl, Or.inl ⟨rfl, rfl⟩⟩
  case round =>
    obtain ⟨rfl, ⟨rfl, rfl⟩ | ⟨k, t0, rs, hk, rfl, hL, rfl⟩⟩ := hrel
    · by_cases hlt : 0 < st.L.length
      · obtain ⟨t, ht⟩ : ∃ t, st.L[0]? = some t := ⟨_, List.getElem?_eq_getElem hlt⟩
        obtain ⟨t1, _⟩ := tmRow_at ht
        obtain ⟨bb, off, hAe, hbb, r0⟩ := H.out.at t1
        subst hAe
        have hd : decide ((0 : Int) < (st.L.length : Int)) = true := by simpa using hlt
        have hL : st.L = t :: st.L.tail := by
          cases hh : st.L with
          | nil => rw [hh] at hlt; simp at hlt
          | cons y l => rw [hh] at ht; simp at ht; subst ht; rfl
        have HL := Lib.hid hL
        rw [show off + 0 * 5 = off by omega] at r0
        clear hL t1 ht
        go_wp2_with fail
        exact ⟨⟨rfl, Or.inr ⟨0, t, _, by omega, rfl, HL.out, rfl⟩⟩, by simp [intOf]; omega⟩
      · have e : st.L = [] := by cases hh : st.L with
          | nil => rfl
          | cons y l => rw [hh] at hlt; simp at hlt
        have hN : nextW st = (0, false) := by unfold nextW; rw [e]
        have hl0 : st.L.length = 0 := by rw [e]; rfl
        have HN := Lib.hid hN
        clear e hN
        rw [hl0] at c1
        go_wp2_with fail
        go_quiet (fail)
        go_wp2_with fail
        go_ret2
        rw [HN.out]
        exact ⟨rfl, (Sm.refl _ _).drewN _⟩
    · by_cases hlt : k + 1 < st.L.length
      · obtain ⟨t, ht⟩ : ∃ t, st.L[k + 1]? = some t := ⟨_, List.getElem?_eq_getElem hlt⟩
        obtain ⟨t1, _⟩ := tmRow_at ht
        obtain ⟨bb, off, hAe, hbb, r0⟩ := H.out.at t1
        subst hAe
        have hf := fold_take hL ht
        obtain ⟨m, hm⟩ : ∃ m, (rs.take k).foldl (fun m x => min m x.a) t0.a = m := ⟨_, rfl⟩
        rw [hm] at hf ⊢
        have HF := Lib.hid (And.intro hL hf)
        have k1 : (0 : Int) ≤ ((k + 1 : Nat) : Int) := by omega
        have k2 : ((k + 1 : Nat) : Int) < (st.L.length : Int) := by omega
        have k3 : (((k + 1 : Nat) : Int) == 0) = false := by simp; omega
        clear t1 ht hL hf hm
        by_cases hc : t.a < m
        · have hd : decide ((t.a : Int) < (m : Int)) = true := by simpa using hc
          have hd2 : decide (t.a < m) = true := by simpa using hc
          go_wp2_with fail
          exact ⟨⟨rfl, Or.inr ⟨k + 1, t0, rs, by omega, by go_num, HF.out.1, by rw [HF.out.2, Nat.min_eq_right (by omega)]⟩⟩, by simp [intOf]; omega⟩
        · have hd : decide ((t.a : Int) < (m : Int)) = false := by simp; omega
          have hd2 : decide (t.a < m) = false := by simp; omega
          go_wp2_with fail
          exact ⟨⟨rfl, Or.inr ⟨k + 1, t0, rs, by omega, by go_num, HF.out.1, by rw [HF.out.2, Nat.min_eq_left (by omega)]⟩⟩, by simp [intOf]; omega⟩
      · have hN : nextW st = ((((rs.take k).foldl (fun m x => min m x.a) t0.a : Nat) : Int), true) := by
          unfold nextW
          rw [hL]
          have : rs.take k = rs := List.take_of_length_le (by have := congrArg List.length hL; simp at this; omega)
          simp [this]
        have HN := Lib.hid hN
        obtain ⟨m, hm⟩ : ∃ m, (rs.take k).foldl (fun m x => min m x.a) t0.a = m := ⟨_, rfl⟩
        rw [hm] at HN ⊢
        have k2 : decide (((k + 1 : Nat) : Int) < (st.L.length : Int)) = false := by simp; omega
        have k3 : decide ((0 : Int) < (st.L.length : Int)) = true := by simp; omega
        clear hN hm hL
        go_wp2_with fail
        go_quiet (fail)
        go_wp2_with fail
        go_ret2
        rw [HN.out]
        refine ⟨?_, (Sm.refl _ _).drewN _⟩
        show Ending.returned (.tuple #[.int .i64 m, .bool (decide (0 < st.L.length))]) = _
        rw [decide_eq_true (by omega)]
end Go.Proofs.Ytgmgjkafdkgalaa
