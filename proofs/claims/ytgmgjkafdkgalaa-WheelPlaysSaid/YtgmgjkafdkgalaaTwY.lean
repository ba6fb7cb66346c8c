/- The document's Wheel (usherref6): Reset. -/
import Derived.Test.YtgmgjkafdkgalaaTwX
namespace Go.Proofs.Ytgmgjkafdkgalaa
open Go.RowKit Go.Proofs Go.Maps

theorem setT_at {L : List Tm} {h : Hd} {k a o : Nat} {t : Tm} (hk : L[k]? = some t) (hh : t.h = h) (one : L.Pairwise fun x y => x.h ≠ y.h) : setT L h a o = L.set k ⟨t.h, a, t.what, o⟩ := by
  induction L generalizing k with
  | nil => simp at hk
  | cons y l ih =>
    cases k with
    | zero =>
      simp at hk
      subst hk hh
      unfold setT
      rw [List.map_cons, if_pos rfl, List.set_cons_zero]
      congr 1
      conv => rhs; rw [← List.map_id l]
      apply List.map_congr_left
      intro z hz
      have := List.rel_of_pairwise_cons one hz
      rw [if_neg (fun e => this e.symm)]
      rfl
    | succ k =>
      have hk : l[k]? = some t := by simpa using hk
      have hne : y.h ≠ h := by
        have := List.rel_of_pairwise_cons one (List.mem_of_getElem? hk)
        rw [hh] at this
        exact this
      unfold setT at ih ⊢
      rw [List.map_cons, if_neg hne, List.set_cons_succ]
      congr 1
      exact ih hk (List.pairwise_cons.1 one).2
set_option maxRecDepth 100000 in
set_option maxHeartbeats 4000000 in
theorem twreset_any (w : World) (O : Nat → Prop) (r : Nat) (st : St) (h : Hd) (a : Int) (hW : IsTw w O r st) (ho : st.ord ≤ 90000) :
    Calls Try.prog 23 #[.pointer (some ⟨r, 0, none⟩), hv h, .int .i64 a] w fun e w' => e = .returned (.int .i64 (resetW st h a).1) ∧ TPost w O r (resetW st h a).2 w' := by
  by_cases ht : isTime a = true
  · have hok2 : (resetW st h a).2.Ok := by obtain ⟨_, _, _, _, _, _, _, h5, _⟩ := id hW; exact resetW_ok h5 h a
    have e : resetW st h a = (if hasT st h = true then (0, { st with ord := st.ord + 1, L := setT st.L h a.toNat (st.ord + 1) }) else (10, st)) := by unfold resetW; rw [if_pos ht]
    obtain ⟨aN, haN, haL⟩ : ∃ aN : Nat, a = aN ∧ aN ≤ 1099511627776 := by
      simp [isTime] at ht
      exact ⟨a.toNat, by omega, by omega⟩
    subst haN
    rw [Int.toNat_natCast] at e
    obtain ⟨n, st', hres⟩ : ∃ n st', resetW st h aN = (n, st') := ⟨_, _, rfl⟩
    rw [hres] at e hok2 ⊢
    have HR := Lib.hid e
    obtain ⟨Os, s, v, h1, h2, h3, h4, h5, h6, h7⟩ := id hW
    obtain ⟨A, c, rfl, hR, _⟩ := own_rowC h3
    have hs0 := (Sm.refl No w).alloc (.cells #[.int .i64 h.slot, .int .i64 h.gen] 29)
    have hx0 := Bk.new w 29 #[.int .i64 h.slot, .int .i64 h.gen]
    have b1 := h1.no hs0
    have hll := h5.len
    obtain ⟨rb, hrb⟩ : ∃ rb, w.heap.size = rb := ⟨_, rfl⟩
    obtain ⟨W, hWw⟩ : ∃ W, w.alloc (.cells #[.int .i64 h.slot, .int .i64 h.gen] 29) = W := ⟨_, rfl⟩
    rw [hWw] at hs0 hx0 b1
    rw [hrb] at hx0
    have k1 : decide ((aN : Int) < 0) = false := by simp
    have k2 : decide (1099511627776 < (aN : Int)) = false := by simp; omega
    have HTw := Lib.hid hW
    have HOk := Lib.hid hok2
    have H := Lib.hid (And.intro hs0 (And.intro hx0 (And.intro b1 (And.intro (hR.no hs0) h5))))
    have HP := Lib.hid (And.intro h2 (And.intro h3 (And.intro h4 (And.intro h6 (And.intro h7 h1)))))
    have HW := Lib.hid (And.intro hWw hrb)
    clear h1 h2 h3 h4 h5 h6 h7 hR hs0 hx0 b1 hWw hrb hW e hok2 ht hres
    unfold hv
    go_enter Try.func23, Try.ntmps23
    go_wp2_with fail
    rw [HW.out.1, HW.out.2]
    go_loopw [7] (fun i wr => NoH W st.L h i wr) (fun i _ => st.L.length - (intOf i).toNat)
    case atStart => exact ⟨0, Nat.zero_le _, rfl, Sm.refl _ _, by simp⟩
    case round =>
      obtain ⟨k, hk, rfl, hs, hno⟩ := hrel
      have b1 := H.out.2.2.1.no hs
      have c1 := b1.at 1 (v := .slice A st.L.length c) rfl
      have x1 := H.out.2.1.no hs
      have q0 := x1.at 0 (v := .int .i64 h.slot) rfl
      have q1 := x1.at 1 (v := .int .i64 h.gen) rfl
      have hrl := b1.lt
      have hxl := x1.lt
      have HS := Lib.hid (And.intro hs (And.intro hno b1))
      clear hs hno b1 x1
      by_cases hlt : k < st.L.length
      · obtain ⟨t, ht⟩ : ∃ t, st.L[k]? = some t := ⟨_, List.getElem?_eq_getElem hlt⟩
        obtain ⟨t1, t2, t3, t4, t5⟩ := tmRow_at ht
        obtain ⟨bb, off, hAe, hbb, r0⟩ := (H.out.2.2.2.1.no HS.out.1).at t1
        subst hAe
        obtain ⟨_, _, hA1, _, r2⟩ := (H.out.2.2.2.1.no HS.out.1).at t3
        injection hA1 with hA1; injection hA1 with e1 e2; subst e1 e2
        obtain ⟨_, _, hA1, _, r3⟩ := (H.out.2.2.2.1.no HS.out.1).at t4
        injection hA1 with hA1; injection hA1 with e1 e2; subst e1 e2
        obtain ⟨_, _, hA1, _, r4⟩ := (H.out.2.2.2.1.no HS.out.1).at t5
        injection hA1 with hA1; injection hA1 with e1 e2; subst e1 e2
        have HT := Lib.hid ht
        have k1 : (0 : Int) ≤ (k : Int) := by omega
        have k2 : (k : Int) < (st.L.length : Int) := by omega
        obtain ⟨e, he⟩ : ∃ e, decide (t.h = h) = e := ⟨_, rfl⟩
        have hq := fun w => eql_h t.h h w
        rw [he] at hq
        have hg := eqG_h
        have HE := Lib.hid he
        rw [show off + (k * 5 + 3) = off + k * 5 + 3 by omega] at r3
        rw [show off + (k * 5 + 4) = off + k * 5 + 3 + 1 by omega] at r4
        rw [show off + (k * 5 + 2) = off + k * 5 + 2 by omega] at r2
        clear t1 t2 t3 t4 t5 ht he
        cases e
        · have hno := noH_step HT.out (by simpa using HE.out) HS.out.2.1
          have HN := Lib.hid hno
          clear hno
          go_wp2_with fail
          go_quiet (fail)
          go_wp2_with fail
          exact ⟨⟨k + 1, by omega, by go_num, HS.out.1.drewN _, HN.out⟩, by simp [intOf]; omega⟩
        · have hhas : hasT st h = true := hasT_mem.2 ⟨t, List.mem_of_getElem? HT.out, by simpa using HE.out⟩
          rcases own_row_form (own_row_sm HP.out.2.1 (H.out.1.trans HS.out.1 (fun _ _ h => h)) (fun _ _ h => h)) with ⟨hf, _⟩ | ⟨bb2, cap2, hf, _, _, _, _, _, hfz⟩
          · cases hf
          injection hf with hf1 _ hf2
          injection hf1 with hf1
          injection hf1 with hf1 hf3
          subst hf1 hf2 hf3
          rw [Nat.zero_add] at r0 r2 r3 r4
          have z0 := hfz (k * 5)
          have z2 := hfz (k * 5 + 2)
          have c3 := HS.out.2.2.at 3 (v := .int .i64 st.ord) rfl
          have f3 := HS.out.2.2.fz 3
          have hne : bb ≠ r := fun e => row_not_bk HP.out.2.1 HP.out.2.2.2.2.2 (by decide) (by rw [← e]; rfl)
          have hr : (n, st') = (0, { st with ord := st.ord + 1, L := st.L.set k ⟨t.h, aN, t.what, st.ord + 1⟩ }) := by rw [HR.out, hhas, if_pos rfl, setT_at HT.out (by simpa using HE.out) H.out.2.2.2.2.one]
          injection hr with hr1 hr2
          subst hr1
          have HF := Lib.hid hr2
          clear hhas hfz hr2
          go_wp2_with fail
          go_quiet (fail)
          go_wp2_with fail
          go_region
          go_wp2_with fail
          go_ret
          refine ⟨rfl, ?_⟩
          obtain ⟨p1, p2, p3, p4, p5, p6⟩ := HP.out
          have hs01 := H.out.1.trans HS.out.1 (fun _ _ h => h)
          have hrl0 := p6.lt
          have e64 : ((st.ord : Int) + 1) = ((st.ord + 1 : Nat) : Int) := by omega
          rw [e64]
          have hok := HOk.out
          rw [HF.out] at hok ⊢
          have b3 : Bk ((((wr.drewN nq).setCell ⟨r, 3, none⟩ (.int .i64 ((st.ord + 1 : Nat) : Int))).setCell ⟨bb, k * 5, none⟩ (.int .i64 aN)).setCell ⟨bb, k * 5 + 2, none⟩ (.int .i64 ((st.ord + 1 : Nat) : Int))).drew r 56 #[.pointer (some ⟨s, 0, none⟩), .slice (some ⟨bb, 0, none⟩) st.L.length c, .int .i64 st.now, .int .i64 ((st.ord + 1 : Nat) : Int)] :=
            ((((HS.out.2.2.drewN nq).set 3 (.int .i64 ((st.ord + 1 : Nat) : Int))).eq rfl).far (p := ⟨bb, k * 5, none⟩) (fun e => hne e.symm) _).far (p := ⟨bb, k * 5 + 2, none⟩) (fun e => hne e.symm) _ |>.drew
          have v1 := own_row_sm p2 hs01 (fun _ _ h => h)
          have v2 := own_row_sm v1 (((Sm.refl (fun b => b = r) wr).drewN nq).set1 3 (.int .i64 ((st.ord + 1 : Nat) : Int))) (fun b e1 e2 => by injection e1 with e1; exact hne (e1.trans e2))
          have v3 := ((v2.stored (k * 5) (.int .i64 aN)).1.stored (k * 5 + 2) (.int .i64 ((st.ord + 1 : Nat) : Int))).1
          have hs3 : Sm (fun b => b = r ∨ b = bb) wr ((((wr.drewN nq).setCell ⟨r, 3, none⟩ (.int .i64 ((st.ord + 1 : Nat) : Int))).setCell ⟨bb, k * 5, none⟩ (.int .i64 aN)).setCell ⟨bb, k * 5 + 2, none⟩ (.int .i64 ((st.ord + 1 : Nat) : Int))).drew :=
            ((((Sm.refl _ wr).drewN nq).setS (Or.inl rfl) _ _).setS (Or.inr rfl) _ _).setS (Or.inr rfl) _ _ |>.drew
          refine ⟨O, ⟨Os, s, .slice (some ⟨bb, 0, none⟩) st.L.length c, b3, (p1.no hs01).sm hs3 (fun b hb e => by
            rcases e with e | e
            · exact (p3 b hb).1 e
            · exact (p3 b hb).2 (by rw [e]; rfl)), ?_, p3, hok, p4, fun b hb => Nat.lt_of_lt_of_le (p5 b hb) (Nat.le_trans hs01.size hs3.size)⟩, (hs01.any _).trans hs3 (fun b _ e => by
            rcases e with e | e
            · exact p4 b (Or.inr (Or.inl e))
            · exact p4 b (Or.inr (Or.inr (by rw [e]; rfl)))), fun b hb => Or.inl hb⟩
          rw [tmRow_set HT.out, List.length_set]
          exact v3
      · have hN : hasT st h = false := by
          have := HS.out.2.1
          rw [List.take_of_length_le (by omega)] at this
          rw [Bool.eq_false_iff]
          intro e
          obtain ⟨x, hx, hxe⟩ := hasT_mem.1 e
          exact this x hx hxe
        have hr : (n, st') = (10, st) := by rw [HR.out, hN]; rfl
        injection hr with hr1 hr2
        subst hr1 hr2
        clear hN
        go_wp2_with fail
        go_ret
        exact ⟨rfl, TPost.same HTw.out (H.out.1.trans HS.out.1 (fun _ _ h => h))⟩
  · have e : resetW st h a = (1, st) := by unfold resetW; rw [if_neg ht]
    rw [e]
    have hf : isTime a = false := by simpa using ht
    have H := Lib.hid hW
    clear hW e ht
    unfold hv
    by_cases h0 : 0 ≤ a
    · have h1 : ¬ a ≤ 1099511627776 := fun e => by simp [isTime, h0, e] at hf
      have k1 : decide (a < 0) = false := by simp; omega
      have k2 : decide (1099511627776 < a) = true := by simp; omega
      clear hf
      go_enter Try.func23, Try.ntmps23
      go_wp2_with fail
      go_ret
      exact ⟨rfl, TPost.same H.out ((Sm.refl _ w).alloc _)⟩
    · have k1 : decide (a < 0) = true := by simp; omega
      clear hf
      go_enter Try.func23, Try.ntmps23
      go_wp2_with fail
      go_ret
      exact ⟨rfl, TPost.same H.out ((Sm.refl _ w).alloc _)⟩
end Go.Proofs.Ytgmgjkafdkgalaa
