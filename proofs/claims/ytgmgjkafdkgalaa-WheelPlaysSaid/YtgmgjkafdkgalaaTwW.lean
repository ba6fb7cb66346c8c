/- The document's Wheel (usherref6): Add. -/
import Derived.Test.YtgmgjkafdkgalaaTwV
import Derived.Deep.RegionLaw
namespace Go.Proofs.Ytgmgjkafdkgalaa
open Go.RowKit Go.Proofs Go.Maps

set_option maxRecDepth 100000 in
set_option maxHeartbeats 4000000 in
theorem twadd_any (w : World) (O : Nat → Prop) (r : Nat) (st : St) (a what : Int) (hW : IsTw w O r st) (ho : st.ord ≤ 4000) :
    Calls Try.prog 22 #[.pointer (some ⟨r, 0, none⟩), .int .i64 a, .int .i64 what] w fun e w' => e = .returned (.tuple #[hv (addW st a what).1, .int .i64 (addW st a what).2.1]) ∧ TPost w O r (addW st a what).2.2 w' := by
  by_cases ht : isTime a = true
  · have hok2 : (addW st a what).2.2.Ok := by obtain ⟨_, _, _, _, _, _, _, h5, _⟩ := id hW; exact addW_ok h5 a what
    have e : addW st a what = (newH st.sb, 0, { st with ord := st.ord + 1, sb := putB st.sb what, L := st.L ++ [⟨newH st.sb, a.toNat, what, st.ord + 1⟩] }) := by unfold addW; rw [if_pos ht]
    rw [e] at hok2 ⊢
    obtain ⟨aN, haN, haL⟩ : ∃ aN : Nat, a = aN ∧ aN ≤ 1099511627776 := by
      simp [isTime] at ht
      exact ⟨a.toNat, by omega, by omega⟩
    subst haN
    rw [Int.toNat_natCast] at hok2 ⊢
    obtain ⟨Os, s, v, h1, h2, h3, h4, h5, h6, h7⟩ := id hW
    obtain ⟨A, c, rfl, _⟩ := own_rowC h3
    have ha0 := (Sm.refl No w).alloc (.cells #[.int .i64 0, .int .i64 0] 29)
    have hb0 := Bk.new w 29 #[.int .i64 0, .int .i64 0]
    have hput := rsPut_any (w.alloc (.cells #[.int .i64 0, .int .i64 0] 29)) Os s st.sb what (h2.no ha0) (by have := h5.slots; omega) (fun x hx => by have := h5.gens x hx; omega)
    have c0 := (h1.no ha0).at 0 (v := .pointer (some ⟨s, 0, none⟩)) rfl
    have hrl := (h1.no ha0).lt
    have k1 : decide ((aN : Int) < 0) = false := by simp
    have k2 : decide (1099511627776 < (aN : Int)) = false := by simp; omega
    have H := Lib.hid (And.intro h1 (And.intro h2 (And.intro h3 (And.intro h4 (And.intro h5 (And.intro h6 (And.intro h7 (And.intro hok2 (And.intro ha0 (And.intro hb0 hput))))))))))
    clear h1 h2 h3 h4 h5 h6 h7 hW e hok2 ha0 hb0 hput
    go_enter Try.func22, Try.ntmps22
    go_wp2_with fail
    refine H.out.2.2.2.2.2.2.2.2.2.2.mono ?_
    obtain ⟨hd, hhd⟩ : ∃ hd, newH st.sb = hd := ⟨_, rfl⟩
    rw [hhd]
    unfold hv
    rintro e w2 ⟨rfl, Os', hS2, hs2, hO2⟩
    have hb2 := (H.out.1.no H.out.2.2.2.2.2.2.2.2.1).sm hs2 (fun e => (H.out.2.2.2.1 r e).1 rfl)
    have hv2 := own_row_sm (own_row_sm H.out.2.2.1 H.out.2.2.2.2.2.2.2.2.1 (fun _ _ h => h)) hs2 (fun b e1 e2 => (H.out.2.2.2.1 b e2).2 e1)
    have hrb2 := H.out.2.2.2.2.2.2.2.2.2.1.sm hs2 (fun e => by have := H.out.2.2.2.2.2.2.1 _ (H.out.2.2.2.2.2.1 _ (Or.inl e)); omega)
    have hs02 : Sm O w w2 := (H.out.2.2.2.2.2.2.2.2.1.any _).trans hs2 (fun b _ e => H.out.2.2.2.2.2.1 _ (Or.inl e))
    obtain ⟨rb, hrb⟩ : ∃ rb, w.heap.size = rb := ⟨_, rfl⟩
    rw [hrb] at hrb2 ⊢
    have c3 := hb2.at 3 (v := .int .i64 st.ord) rfl
    have f3 := hb2.fz 3
    have hrl2 := hb2.lt
    have H2 := Lib.hid (And.intro hb2 (And.intro hv2 (And.intro hrb2 (And.intro hs02 (And.intro hrb (And.intro hhd (And.intro hS2 (And.intro hs2 hO2))))))))
    clear hS2 hs2 hO2 hb2 hv2 hrb2 hs02 hrb hhd c0
    go_wp2_with fail
    have e64 : ((st.ord : Int) + 1) = ((st.ord + 1 : Nat) : Int) := by omega
    rw [e64]
    have hs3 := (Sm.refl (fun b => b = r) w2).set1 3 (.int .i64 ((st.ord + 1 : Nat) : Int))
    obtain ⟨w4, hw4⟩ : ∃ w4, (w2.setCell ⟨r, 3, none⟩ (.int .i64 ((st.ord + 1 : Nat) : Int))).alloc (.cells #[.int .i64 hd.slot, .int .i64 hd.gen] 29) = w4 := ⟨_, rfl⟩
    have hs4 : Sm (fun b => b = r) w2 w4 := by rw [← hw4]; exact hs3.alloc _
    have hbx : Bk w4 w2.heap.size 29 #[.int .i64 hd.slot, .int .i64 hd.gen] := by rw [← hw4]; exact Bk.newAt _ _ _ (by simp)
    have hb4 : Bk w4 r 56 #[.pointer (some ⟨s, 0, none⟩), .slice A st.L.length c, .int .i64 st.now, .int .i64 ((st.ord + 1 : Nat) : Int)] := by
      rw [← hw4]
      exact ((H2.out.1.set 3 _).eq rfl).alloc _
    rw [hw4]
    obtain ⟨hx, hhx⟩ : ∃ hx, w2.heap.size = hx := ⟨_, rfl⟩
    rw [hhx] at hbx ⊢
    have hv4 := own_row_sm H2.out.2.1 hs4 (fun b e1 e2 => row_not_bk H2.out.2.1 H2.out.1 (by decide) (e2 ▸ e1))
    have hrb4 := H2.out.2.2.1.sm hs4 (fun e => by have := H.out.1.lt; have := H2.out.2.2.2.2.1; omega)
    have hS4 := H2.out.2.2.2.2.2.2.1.sm hs4 (fun b e1 e2 => by
      rcases H2.out.2.2.2.2.2.2.2.2 b e1 with h | h
      · exact (H.out.2.2.2.1 b h).1 e2
      · have := H.out.1.lt; simp at h; omega)
    have hs04 : Sm O w w4 := H2.out.2.2.2.1.trans hs4 (fun b _ e => H.out.2.2.2.2.2.1 _ (Or.inr (Or.inl e)))
    have c1 := hb4.at 1 (v := .slice A st.L.length c) rfl
    have c3 := hb4.at 3 (v := .int .i64 ((st.ord + 1 : Nat) : Int)) rfl
    have f1 := hb4.fz 1
    have q0 := hbx.at 0 (v := .int .i64 hd.slot) rfl
    have q1 := hbx.at 1 (v := .int .i64 hd.gen) rfl
    have hrl4 := hb4.lt
    have hxl4 := hbx.lt
    have hwx := H2.out.2.2.2.1.size
    have hnl := H.out.2.2.2.2.1.len
    have HOwn := Lib.hid ((hv4.alloc (.cells #[.int .i64 aN, .int .i64 what, .int .i64 ((st.ord + 1 : Nat) : Int), .int .i64 hd.slot, .int .i64 hd.gen] 88)).drew)
    have HBlk := Lib.hid (Bk.new w4 88 #[.int .i64 aN, .int .i64 what, .int .i64 ((st.ord + 1 : Nat) : Int), .int .i64 hd.slot, .int .i64 hd.gen]).drew
    have HKb := Lib.hid ((hb4.alloc (.cells #[.int .i64 aN, .int .i64 what, .int .i64 ((st.ord + 1 : Nat) : Int), .int .i64 hd.slot, .int .i64 hd.gen] 88)).drew)
    have HKx := Lib.hid ((hbx.alloc (.cells #[.int .i64 aN, .int .i64 what, .int .i64 ((st.ord + 1 : Nat) : Int), .int .i64 hd.slot, .int .i64 hd.gen] 88)).drew)
    have HKr := Lib.hid ((hrb4.alloc (.cells #[.int .i64 aN, .int .i64 what, .int .i64 ((st.ord + 1 : Nat) : Int), .int .i64 hd.slot, .int .i64 hd.gen] 88)).drew)
    have HNe := Lib.hid (show ¬ (Value.slice A st.L.length c).ownBlock = some r from row_not_bk hv4 hb4 (by decide))
    have HNx := Lib.hid (show ¬ (Value.slice A st.L.length c).ownBlock = some hx from row_not_bk hv4 hbx (by decide))
    have HNr := Lib.hid (show ¬ (Value.slice A st.L.length c).ownBlock = some rb from row_not_bk hv4 hrb4 (by decide))
    have H4 := Lib.hid (And.intro hs4 (And.intro hv4 (And.intro hS4 (And.intro hs04 (And.intro hrb4 hbx)))))
    have HHX := Lib.hid hhx
    clear hs3 hw4 hs4 hbx hb4 hhx hv4 hrb4 hS4 hs04 e64 f3 hrl hrl2
    go_region_law
      ((refine step_push (by rfl) _ _ 54 88 (by rfl) Try.underlying54 _ 5 40 infoTr rfl (by decide) (by decide) 0 st.L.length _ (tmRow st.L) (by rfl) HOwn.out w4.heap.size #[.int .i64 aN, .int .i64 what, .int .i64 ((st.ord + 1 : Nat) : Int), .int .i64 hd.slot, .int .i64 hd.gen] (by rfl) HBlk.out rfl (by simp [Value.oneCell']) (by omega) (Nat.zero_le _) ?_; intro r' cap w6 hown6 hs6 hr6; have hb6 := HKb.out.sm hs6 HNe.out; have c16 := hb6.at 1 (v := .slice A st.L.length c) rfl; have f16 := hb6.fz 1))
    all_goals
      have hne : r' ≠ r := fun e => row_not_bk hown6 hb6 (by decide) (by rw [e]; rfl)
      have hs7 := (Sm.refl (fun x => x = r) w6).set1 1 (.slice (some ⟨r', 0, none⟩) (st.L.length + 1) cap)
      have hb7 : Bk (w6.setCell ⟨r, 1, none⟩ (.slice (some ⟨r', 0, none⟩) (st.L.length + 1) cap)) r 56 #[.pointer (some ⟨s, 0, none⟩), .slice (some ⟨r', 0, none⟩) (st.L.length + 1) cap, .int .i64 st.now, .int .i64 ((st.ord + 1 : Nat) : Int)] := (hb6.set 1 _).eq rfl
      have ho7 := own_row_sm hown6 hs7 (fun b hb e => by injection hb with hb; exact hne (hb.trans e))
      have hx7 := (HKx.out.sm hs6 HNx.out).sm hs7 (fun e => by have := H.out.1.lt; have := HHX.out; omega)
      have hr7 := (HKr.out.sm hs6 HNr.out).sm hs7 (fun e => by have := H.out.1.lt; have := H2.out.2.2.2.2.1; omega)
      have hA4 : ∀ b, (Value.slice A st.L.length c).ownBlock = some b → b < w.heap.size := fun b e => own_row_lt H.out.2.2.1 e
      have hS7 := (H4.out.2.2.1.no ((Sm.refl No w4).alloc (.cells #[.int .i64 aN, .int .i64 what, .int .i64 ((st.ord + 1 : Nat) : Int), .int .i64 hd.slot, .int .i64 hd.gen] 88)).drew).sm ((hs6.mono (T := fun b => b = r ∨ (Value.slice A st.L.length c).ownBlock = some b) (fun b _ e => Or.inr e)).trans hs7 (fun b _ e => Or.inl e)) (fun b e1 e2 => by
        rcases H2.out.2.2.2.2.2.2.2.2 b e1 with h | h
        · exact e2.elim (H.out.2.2.2.1 b h).1 (H.out.2.2.2.1 b h).2
        · rcases e2 with e2 | e2
          · have := H.out.1.lt; simp at h; omega
          · have := hA4 b e2; simp at h; omega)
      have hs67 : Sm O w (w6.setCell ⟨r, 1, none⟩ (.slice (some ⟨r', 0, none⟩) (st.L.length + 1) cap)) := by
        have t := H4.out.2.2.2.1.trans ((Sm.refl No w4).alloc (.cells #[.int .i64 aN, .int .i64 what, .int .i64 ((st.ord + 1 : Nat) : Int), .int .i64 hd.slot, .int .i64 hd.gen] 88)).drew (fun _ _ h => h.elim)
        exact (t.trans hs6 (fun b _ e => H.out.2.2.2.2.2.1 _ (Or.inr (Or.inr e)))).trans hs7 (fun b _ e => H.out.2.2.2.2.2.1 _ (Or.inr (Or.inl e)))
      have hr'w : (∃ b, (Value.slice A st.L.length c).ownBlock = some b ∧ b = r') ∨ w2.heap.size < r' := by
        rcases hr6 with e | e
        · exact Or.inl ⟨r', e, rfl⟩
        · right
          have := H4.out.2.2.2.2.2.lt
          simp at e
          have := HHX.out
          omega
      have u0 := hx7.at 0 (v := .int .i64 hd.slot) rfl
      have u1 := hx7.at 1 (v := .int .i64 hd.gen) rfl
      have p0 := hr7.at 0 (v := .int .i64 0) rfl
      have p1 := hr7.at 1 (v := .int .i64 0) rfl
      have g0 := hr7.fz 0
      have g1 := hr7.fz 1
      have hxl := hx7.lt
      have hrbl := hr7.lt
      have H7 := Lib.hid (And.intro hb7 (And.intro ho7 (And.intro hS7 (And.intro hs67 hr'w))))
      obtain ⟨W, hW⟩ : ∃ W, w6.setCell ⟨r, 1, none⟩ (.slice (some ⟨r', 0, none⟩) (st.L.length + 1) cap) = W := ⟨_, rfl⟩
      rw [hW] at H7 u0 u1 p0 p1 g0 g1 hxl hrbl ⊢
      have H8 := Lib.hid hne
      clear hb7 ho7 hS7 hs67 hr'w hs7 hx7 hr7 hA4 hb6 c16 f16 hown6 hs6 hr6 hW hne c1 c3 f1 q0 q1
      go_wp2_with fail
      refine bodyPost_ret (v := .tuple #[.agg #[.int .i64 hd.slot, .int .i64 hd.gen], .int .i64 0]) (by simp [results, Try.results22, go_sem, p0, p1]) rfl ⟨by rw [H2.out.2.2.2.2.2.1]; rfl, ?_⟩
      have hs9 : Sm (fun b => b = rb) W ((W.setCell ⟨rb, 0, none⟩ (.int .i64 hd.slot)).setCell ⟨rb, 1, none⟩ (.int .i64 hd.gen)) := ((Sm.refl _ W).set1 _ _).set1 _ _
      obtain ⟨y1, y2, y3, y4, y5⟩ := H7.out
      have hrbw := H2.out.2.2.2.2.1
      have hrw := H.out.1.lt
      have hAw : ∀ b, (Value.slice A st.L.length c).ownBlock = some b → b < w.heap.size ∧ O b := fun b e => ⟨own_row_lt H.out.2.2.1 e, H.out.2.2.2.2.2.1 _ (Or.inr (Or.inr e))⟩
      have hw2 := H2.out.2.2.2.1.size
      have hr'O : O r' ∨ w.heap.size ≤ r' := by
        rcases y5 with ⟨b, e1, e2⟩ | e
        · exact Or.inl (e2 ▸ (hAw b e1).2)
        · right; omega
      have hr'b : r' ≠ rb := fun e => by
        rcases y5 with ⟨b, e1, e2⟩ | e3
        · have := (hAw b e1).1; omega
        · have := H2.out.2.2.1.lt; omega
      have hOs' : ∀ b, Os' b → (O b ∨ w.heap.size ≤ b) ∧ b < w2.heap.size ∧ b ≠ r ∧ b ≠ r' ∧ b ≠ rb := fun b hb => by
        have hb2 : b < w2.heap.size := by obtain ⟨_, _, _, _, _, _, _, _, _, _, h⟩ := H2.out.2.2.2.2.2.2.1; exact h b hb
        rcases H2.out.2.2.2.2.2.2.2.2 b hb with h | h
        · have h1 := H.out.2.2.2.1 b h
          have h2 := H.out.2.2.2.2.2.2.1 b (H.out.2.2.2.2.2.1 b (Or.inl h))
          refine ⟨Or.inl (H.out.2.2.2.2.2.1 b (Or.inl h)), hb2, h1.1, fun e => ?_, by omega⟩
          rcases y5 with ⟨b', e1, e2⟩ | e3
          · exact h1.2 (by rw [e1, e2, e])
          · omega
        · simp at h
          refine ⟨Or.inr (by omega), hb2, by omega, fun e => ?_, by omega⟩
          rcases y5 with ⟨b', e1, e2⟩ | e3
          · have := (hAw b' e1).1; omega
          · omega
      refine ⟨fun b => Os' b ∨ b = r ∨ (Value.slice (some ⟨r', 0, none⟩) (st.L.length + 1) cap).ownBlock = some b, ⟨Os', s, .slice (some ⟨r', 0, none⟩) (st.L.length + 1) cap, y1.sm hs9 (fun e => by omega), y3.sm hs9 (fun b hb e => (hOs' b hb).2.2.2.2 e), ?_, fun b hb => ⟨(hOs' b hb).2.2.1, fun e => by injection e with e; exact (hOs' b hb).2.2.2.1 e.symm⟩, H.out.2.2.2.2.2.2.2.1, fun b hb => hb, fun b hb => ?_⟩, ?_, fun b hb => ?_⟩
      · have := own_row_sm y2 hs9 (fun b e1 e2 => by injection e1 with e1; exact hr'b (e1.trans e2))
        rw [tmRow_snoc, List.length_append]
        rw [H2.out.2.2.2.2.2.1]
        exact this
      · have h9 := hs9.size
        rcases hb with hb | rfl | hb
        · have := (hOs' b hb).2.1
          have := HHX.out
          omega
        · have := y1.lt; omega
        · have := own_row_lt y2 hb; omega
      · exact (y4.trans hs9 (T := fun b => b = rb) (S := O) (fun b h1 h2 => by omega))
      · rcases hb with hb | rfl | hb
        · exact (hOs' b hb).1
        · exact Or.inl (H.out.2.2.2.2.2.1 _ (Or.inr (Or.inl rfl)))
        · injection hb with hb
          have hb : r' = b := hb
          rw [← hb]; exact hr'O
  · have e : addW st a what = (⟨0, 0⟩, 1, st) := by unfold addW; rw [if_neg ht]
    rw [e]
    have hf : isTime a = false := by simpa using ht
    have H := Lib.hid hW
    clear hW e ht
    by_cases h0 : 0 ≤ a
    · have h1 : ¬ a ≤ 1099511627776 := fun e => by simp [isTime, h0, e] at hf
      have k1 : decide (a < 0) = false := by simp; omega
      have k2 : decide (1099511627776 < a) = true := by simp; omega
      clear hf
      go_enter Try.func22, Try.ntmps22
      go_wp2_with fail
      refine bodyPost_ret (v := .tuple #[.agg #[.int .i64 0, .int .i64 0], .int .i64 1]) (by simp [results, Try.results22, go_sem]) rfl ⟨rfl, TPost.same H.out ((Sm.refl _ w).alloc _)⟩
    · have k1 : decide (a < 0) = true := by simp; omega
      clear hf
      go_enter Try.func22, Try.ntmps22
      go_wp2_with fail
      refine bodyPost_ret (v := .tuple #[.agg #[.int .i64 0, .int .i64 0], .int .i64 1]) (by simp [results, Try.results22, go_sem]) rfl ⟨rfl, TPost.same H.out ((Sm.refl _ w).alloc _)⟩
end Go.Proofs.Ytgmgjkafdkgalaa
