/- The wheel and its state; Reset, Len, Now, Where. -/
import Derived.Test.YtgmgjkafdkgalaaWhH
namespace Go.Proofs.Ytgmgjkafdkgalaa
open Go.RowKit Go.Proofs Go.Maps

section
variable {w w' : World} {Os : Nat → Prop} {r s tm now ord n : Nat} {mb : Nat → Nat} {sb : List Sl} {x : Tb} {T U R : List Tb}
theorem IsW.setR (h : IsW w Os r s tm mb now ord n sb T U) {now' ord' : Nat} (hb : Bk w' r 73 (whCells now' ord' s tm mb)) (hs : Sm (fun b => b = r) w w') : IsW w' Os r s tm mb now' ord' n sb T U where
  bk := hb
  slab := h.slab.sm hs (fun b hb e => (h.so b hb).1 e)
  tms := h.tms.sm hs (fun e => h.tm_r e)
  ls := fun j hj => (h.ls j hj).sm hs (fun e => h.mb_r hj e)
  tb := fun y hy => (h.tb y hy).sm hs (fun e => h.r_b hy e)
  nd := h.nd
  inj := h.inj
  tmb := h.tmb
  so := h.so
theorem IsW.setOrd (h : IsW w Os r s tm mb now ord n sb T U) {ord' : Nat} (e : w.setCell ⟨r, 1, none⟩ (.int .i64 ord') = w') : IsW w' Os r s tm mb now ord' n sb T U ∧ Sm (fun b => b = r) w w' := by
  have hs : Sm (fun b => b = r) w w' := by rw [← e]; exact (Sm.refl _ w).set1 _ _
  refine ⟨h.setR ?_ hs, hs⟩
  rw [← e]
  refine (h.bk.set 1 _).eq ?_
  unfold whCells
  rw [List.setIfInBounds_toArray]
  rfl
theorem IsW.setNow (h : IsW w Os r s tm mb now ord n sb T U) {now' : Nat} (e : w.setCell ⟨r, 0, none⟩ (.int .i64 now') = w') : IsW w' Os r s tm mb now' ord n sb T U ∧ Sm (fun b => b = r) w w' := by
  have hs : Sm (fun b => b = r) w w' := by rw [← e]; exact (Sm.refl _ w).set1 _ _
  refine ⟨h.setR ?_ hs, hs⟩
  rw [← e]
  refine (h.bk.set 0 _).eq ?_
  unfold whCells
  rw [List.setIfInBounds_toArray]
  rfl
theorem IsW.setTime (h : IsW w Os r s tm mb now ord n sb (x :: R) U) {a o : Nat} (e : (w.setCell ⟨x.b, 0, none⟩ (.int .i64 a)).setCell ⟨x.b, 2, none⟩ (.int .i64 o) = w') :
    IsW w' Os r s tm mb now ord n sb (⟨⟨x.t.h, a, x.t.what, o⟩, x.b, x.p⟩ :: R) U ∧ Sm (fun b => b = x.b) w w' := by
  have hs : Sm (fun b => b = x.b) w w' := by rw [← e]; exact ((Sm.refl _ w).set1 _ _).set1 _ _
  refine ⟨h.setTb rfl rfl ?_ hs, hs⟩
  rw [← e]
  exact (((h.tb x (by simp)).set 0 _).set 2 _).eq rfl
theorem blW_mono {T' : List Tb} {b : Nat} (h : blW Os r tm mb T b) (hT : ∀ x ∈ T, ∃ y ∈ T', y.b = x.b) : blW Os r tm mb T' b := by
  rcases h with h | h | h | h | ⟨x, hx, rfl⟩
  · exact Or.inl h
  · exact Or.inr (Or.inl h)
  · exact Or.inr (Or.inr (Or.inl h))
  · exact Or.inr (Or.inr (Or.inr (Or.inl h)))
  · obtain ⟨y, hy, e⟩ := hT x hx
    exact Or.inr (Or.inr (Or.inr (Or.inr ⟨y, hy, e.symm⟩)))
end
/-- A Wheel in the state st; its blocks are of O. -/
def IsWheel (w : World) (O : Nat → Prop) (r : Nat) (st : St) : Prop :=
  ∃ (Os : Nat → Prop) (s tm : Nat) (mb : Nat → Nat) (T : List Tb), IsW w Os r s tm mb st.now st.ord T.length st.sb T T ∧ (T.map (·.t)).Perm st.L ∧ (∀ x ∈ T, x.p = placeL st.now x.t.a) ∧ st.Ok ∧ (∀ b, blW Os r tm mb T b → O b) ∧ ∀ b, O b → b < w.heap.size
theorem IsWheel.sm {S O : Nat → Prop} {w w' : World} {r : Nat} {st : St} (h : IsWheel w O r st) (hs : Sm S w w') (hS : ∀ b, O b → ¬ S b) : IsWheel w' O r st := by
  obtain ⟨Os, s, tm, mb, T, h1, h2, h3, h4, h5, h6⟩ := h
  exact ⟨Os, s, tm, mb, T, h1.sm hs (fun b hb => hS b (h5 b hb)), h2, h3, h4, h5, fun b hb => Nat.lt_of_lt_of_le (h6 b hb) hs.size⟩
theorem IsWheel.no {O : Nat → Prop} {w w' : World} {r : Nat} {st : St} (h : IsWheel w O r st) (hs : Sm No w w') : IsWheel w' O r st := h.sm hs (fun _ _ h => h)
/-- What a call leaves behind. -/
def WPost (w : World) (O : Nat → Prop) (r : Nat) (st' : St) (w' : World) : Prop := ∃ O' : Nat → Prop, IsWheel w' O' r st' ∧ Sm O w w' ∧ ∀ b, O' b → O b ∨ w.heap.size ≤ b
theorem WPost.keep {w w' : World} {O : Nat → Prop} {r : Nat} {st : St} (h : IsWheel w O r st) (hs : Sm No w w') : WPost w O r st w' := ⟨O, h.no hs, hs.any _, fun _ h => Or.inl h⟩
theorem pull {L : List Tb} {x : Tb} (h : x ∈ L) : ∃ R, L.Perm (x :: R) := by
  obtain ⟨a, b, rfl⟩ := List.append_of_mem h
  exact ⟨a ++ b, List.perm_middle⟩
theorem hasT_tb {st : St} {T : List Tb} (p : (T.map (·.t)).Perm st.L) (h : Hd) : hasT st h = true ↔ ∃ x ∈ T, x.t.h = h := by
  rw [hasT_mem]
  constructor
  · rintro ⟨t, ht, e⟩
    obtain ⟨x, hx, rfl⟩ := List.mem_map.1 (p.mem_iff.2 ht)
    exact ⟨x, hx, e⟩
  · rintro ⟨x, hx, e⟩
    exact ⟨x.t, p.mem_iff.1 (List.mem_map.2 ⟨x, hx, rfl⟩), e⟩
theorem okP_place (n a : Nat) : okP (placeL n a) := placeL_lt n a

theorem setT_cons {x : Tm} {R : List Tm} (h : ∀ y ∈ R, y.h ≠ x.h) (a o : Nat) : setT (x :: R) x.h a o = { x with a := a, ord := o } :: R := by
  unfold setT
  rw [List.map_cons, if_pos rfl]
  congr 1
  conv => rhs; rw [← List.map_id R]
  apply List.map_congr_left
  intro y hy
  rw [if_neg (h y hy)]; rfl
theorem reset_done {w w5 : World} {O Os : Nat → Prop} {r s tm aN : Nat} {mb : Nat → Nat} {st : St} {T R : List Tb} {x : Tb} (h2 : (T.map (·.t)).Perm st.L) (h3 : ∀ x ∈ T, x.p = placeL st.now x.t.a) (hok : St.Ok { st with ord := st.ord + 1, L := setT st.L x.t.h aN (st.ord + 1) })
    (h5 : ∀ b, blW Os r tm mb T b → O b) (h6 : ∀ b, O b → b < w.heap.size) (hR : T.Perm (x :: R)) (hI : IsW w5 Os r s tm mb st.now (st.ord + 1) T.length st.sb (⟨⟨x.t.h, aN, x.t.what, st.ord + 1⟩, x.b, placeL st.now aN⟩ :: R) (⟨⟨x.t.h, aN, x.t.what, st.ord + 1⟩, x.b, placeL st.now aN⟩ :: R))
    (hs : Sm O w w5) : WPost w O r { st with ord := st.ord + 1, L := setT st.L x.t.h aN (st.ord + 1) } w5 := by
  refine ⟨O, ⟨Os, s, tm, mb, ⟨⟨x.t.h, aN, x.t.what, st.ord + 1⟩, x.b, placeL st.now aN⟩ :: R, ?_, ?_, ?_, hok, ?_, fun b hb => Nat.lt_of_lt_of_le (h6 b hb) hs.size⟩, hs, fun _ h => Or.inl h⟩
  · have e : (⟨⟨x.t.h, aN, x.t.what, st.ord + 1⟩, x.b, placeL st.now aN⟩ :: R : List Tb).length = T.length := by rw [hR.length_eq]; rfl
    rw [e]; exact hI
  · have p1 : st.L.Perm (x.t :: R.map (·.t)) := h2.symm.trans (hR.map _)
    have p2 : (setT st.L x.t.h aN (st.ord + 1)).Perm (setT (x.t :: R.map (·.t)) x.t.h aN (st.ord + 1)) := p1.map _
    rw [setT_cons (fun y hy => by
      obtain ⟨z, hz, rfl⟩ := List.mem_map.1 hy
      exact hI.hds z hz)] at p2
    exact p2.symm
  · intro y hy
    rcases List.mem_cons.1 hy with rfl | hy
    · rfl
    · exact h3 y (hR.mem_iff.2 (by simp [hy]))
  · intro b hb
    refine h5 b (blW_mono hb (fun y hy => ?_))
    rcases List.mem_cons.1 hy with rfl | hy
    · exact ⟨x, hR.mem_iff.2 (by simp), rfl⟩
    · exact ⟨y, hR.mem_iff.2 (by simp [hy]), rfl⟩
set_option maxRecDepth 100000 in
set_option maxHeartbeats 4000000 in
theorem reset_any (w : World) (O : Nat → Prop) (r : Nat) (st : St) (h : Hd) (a : Int) (hW : IsWheel w O r st) (ok : okH h) (hlen : st.ord ≤ 90000) :
    Calls Try.prog 18 #[.pointer (some ⟨r, 0, none⟩), hv h, .int .i64 a] w fun e w' => e = .returned (.int .i64 (resetW st h a).1) ∧ WPost w O r (resetW st h a).2 w' := by
  by_cases ht : isTime a = true
  · cases hh : hasT st h
    · have e : resetW st h a = (10, st) := by unfold resetW; rw [if_pos ht, hh]; rfl
      rw [e]
      obtain ⟨Os, s, tm, mb, T, h1, h2, h3, h4, h5, h6⟩ := id hW
      have hs0 := (Sm.refl No w).alloc (.cells #[.int .i64 h.slot, .int .i64 h.gen] 29)
      have hl := laysLook (h1.tms.sm hs0 (fun h => h)) ok (getV_none (T := T) (fun x hx e => by
        have := (hasT_tb h2 h).2 ⟨x, hx, e⟩
        rw [hh] at this; cases this) (.pointer none))
      have c3 := h1.bk.at 3 (v := .map (some tm)) rfl
      have hrl := h1.bk.lt
      have H := Lib.hid (And.intro hW (And.intro hs0 ht))
      have HT := Lib.hid (isTime_any · a)
      clear h1 h2 h3 h4 h5 h6 hW hs0 e hh
      unfold hv
      go_enter Try.func18, Try.ntmps18
      go_wp2_with fail
      refine (isTime_any _ a).mono ?_
      rw [ht]
      rintro e w1 ⟨rfl, rfl⟩
      go_wp2_with fail
      go_quiet (fail)
      go_wp2_with fail
      go_ret
      exact ⟨rfl, WPost.keep H.out.1 (H.out.2.1.drewN _)⟩
    · have e : resetW st h a = (0, { st with ord := st.ord + 1, L := setT st.L h a.toNat (st.ord + 1) }) := by unfold resetW; rw [if_pos ht, hh]; rfl
      have hok2 : (resetW st h a).2.Ok := by obtain ⟨_, _, _, _, _, _, _, _, h4, _⟩ := id hW; exact resetW_ok h4 h a
      rw [e] at hok2 ⊢
      obtain ⟨aN, haN, haL⟩ : ∃ aN : Nat, a = aN ∧ aN ≤ 1099511627776 := by
        simp [isTime] at ht
        exact ⟨a.toNat, by omega, by omega⟩
      subst haN
      rw [Int.toNat_natCast] at hok2 ⊢
      obtain ⟨Os, s, tm, mb, T, h1, h2, h3, h4, h5, h6⟩ := id hW
      obtain ⟨x, hx, hxh⟩ := (hasT_tb h2 h).1 hh
      obtain ⟨R, hR⟩ := pull hx
      subst hxh
      have hs0 := (Sm.refl No w).alloc (.cells #[.int .i64 x.t.h.slot, .int .i64 x.t.h.gen] 29)
      have hl := laysLook (h1.tms.sm hs0 (fun h => h)) ok (getV_keys h1 hx (.pointer none))
      have h1' := h1.perm hR hR
      have hx' : x ∈ x :: R := List.mem_cons_self ..
      have c3 := h1.bk.at 3 (v := .map (some tm)) rfl
      have hrl := h1.bk.lt
      have H := Lib.hid (And.intro h1' (And.intro hs0 (And.intro h2 (And.intro h3 (And.intro hok2 (And.intro h4 (And.intro h5 (And.intro h6 hR))))))))
      have hnow := h4.now
      have hbl := (h1.tb x hx).lt
      obtain ⟨hd, hhd⟩ : ∃ hd, x.t.h = hd := ⟨_, rfl⟩
      rw [hhd] at hl ⊢
      clear h1 h2 h3 h4 h5 h6 hW hs0 e hh h1' hok2 hR hx
      unfold hv
      go_enter Try.func18, Try.ntmps18
      go_wp2_with fail
      refine (isTime_any _ _).mono ?_
      rw [ht]
      rintro e w1 ⟨rfl, rfl⟩
      clear ht
      go_wp2_with fail
      go_quiet (fail)
      obtain ⟨W, hW⟩ : ∃ W, (w.alloc (.cells #[.int .i64 hd.slot, .int .i64 hd.gen] 29)).drewN nq = W := ⟨_, rfl⟩
      have hsW : Sm No w W := by rw [← hW]; exact ((Sm.refl No w).alloc _).drewN nq
      have hbx : Bk W w.heap.size 29 #[.int .i64 hd.slot, .int .i64 hd.gen] := by rw [← hW]; exact (Bk.new w _ _).drewN nq
      rw [hW]
      obtain ⟨hx, hhx⟩ : ∃ hx, w.heap.size = hx := ⟨_, rfl⟩
      rw [hhx] at hbx ⊢
      have q0 := hbx.at 0 (v := .int .i64 hd.slot) rfl
      have q1 := hbx.at 1 (v := .int .i64 hd.gen) rfl
      have HW := Lib.hid (And.intro hsW (And.intro hbx hhx))
      clear hW hsW hbx hhx hl c3
      go_wp2_with fail
      have hlif := lifts_any W Os r s tm st.now st.ord T.length mb st.sb x R (H.out.1.no HW.out.1) (by rw [H.out.2.2.2.1 x (H.out.2.2.2.2.2.2.2.2.mem_iff.2 hx')]; exact okP_place _ _)
      rw [hhd] at hlif
      unfold hv at hlif
      refine hlif.mono ?_
      rintro e w2 ⟨rfl, hI2, hs2⟩
      have hbx2 := HW.out.2.1.sm hs2 (fun hb => by
        have h1 := H.out.2.2.2.2.2.2.1 hx (blW_mono hb (fun y hy => ⟨y, H.out.2.2.2.2.2.2.2.2.mem_iff.2 hy, rfl⟩))
        have h2 := H.out.2.2.2.2.2.2.2.1 hx h1
        have := HW.out.2.2
        omega)
      have c1 := hI2.bk.at 1 (v := .int .i64 st.ord) rfl
      have f1 := hI2.bk.fz 1
      have hrl2 := hI2.bk.lt
      have r0 := (hI2.tb x hx').at 0 (v := .int .i64 x.t.a) rfl
      have r2 := (hI2.tb x hx').at 2 (v := .int .i64 x.t.ord) rfl
      have g0 := (hI2.tb x hx').fz 0
      have g2 := (hI2.tb x hx').fz 2
      have hbl2 := (hI2.tb x hx').lt
      have hbr := hI2.r_b hx'
      have hxr := bk_not_bk hbx2 hI2.bk (by decide)
      have hxb := bk_not_bk hbx2 (hI2.tb x hx') (by decide)
      have hxl := hbx2.lt
      have q0 := hbx2.at 0 (v := .int .i64 hd.slot) rfl
      have q1 := hbx2.at 1 (v := .int .i64 hd.gen) rfl
      have H2 := Lib.hid (And.intro hI2 (And.intro hs2 hbx2))
      clear hlif hI2 hs2 hbx2
      go_wp2_with fail
      obtain ⟨w3, hw3⟩ : ∃ w3, w2.setCell ⟨r, 1, none⟩ (.int .i64 ((st.ord : Int) + 1)) = w3 := ⟨_, rfl⟩
      obtain ⟨w4, hw4⟩ : ∃ w4, (w3.setCell ⟨x.b, 0, none⟩ (.int .i64 aN)).setCell ⟨x.b, 2, none⟩ (.int .i64 ((st.ord : Int) + 1)) = w4 := ⟨_, rfl⟩
      rw [hw3, hw4]
      rw [show ((st.ord : Int) + 1) = ((st.ord + 1 : Nat) : Int) from by omega] at hw3 hw4
      obtain ⟨hI3, hs3⟩ := H2.out.1.setOrd hw3
      obtain ⟨hI4, hs4⟩ := hI3.setTime hw4
      have hlay := lays_any w4 Os r s tm st.now (st.ord + 1) T.length mb st.sb ⟨⟨x.t.h, aN, x.t.what, st.ord + 1⟩, x.b, x.p⟩ R hI4 hnow haL (by
        have := H.out.2.2.2.2.2.2.2.2.length_eq
        have := H.out.2.2.2.2.2.1.len
        have := H.out.2.2.1.length_eq
        simp at this
        simp_all
        omega)
      dsimp only at hlay
      rw [hhd] at hlay
      unfold hv at hlay
      have HS := Lib.hid (And.intro hs3 hs4)
      clear hw3 hw4 hI3 hI4 hs3 hs4
      refine hlay.mono ?_
      rintro e w5 ⟨rfl, hI5, hs5⟩
      have H5 := Lib.hid (And.intro hI5 hs5)
      clear hlay hI5 hs5
      go_wp2_with fail
      go_ret
      refine ⟨rfl, ?_⟩
      rw [← hhd]
      have hbO : ∀ b (T' : List Tb), (∀ y ∈ T', ∃ z ∈ T, z.b = y.b) → blW Os r tm mb T' b → O b := fun b T' hT hb => H.out.2.2.2.2.2.2.1 b (blW_mono hb hT)
      have hsub : ∀ y ∈ x :: R, ∃ z ∈ T, z.b = y.b := fun y hy => ⟨y, H.out.2.2.2.2.2.2.2.2.mem_iff.2 hy, rfl⟩
      have t2 : Sm O w w2 := (HW.out.1.any _).trans H2.out.2.1 (fun b _ hb => hbO b _ hsub hb)
      have t3 := t2.trans HS.out.1 (fun b _ e => hbO b T (fun y hy => ⟨y, hy, rfl⟩) (Or.inr (Or.inl e)))
      have t4 := t3.trans HS.out.2 (fun b _ e => hbO b (x :: R) hsub (Or.inr (Or.inr (Or.inr (Or.inr ⟨x, hx', e⟩)))))
      have t5 := t4.trans H5.out.2 (fun b _ hb => hbO b _ (fun y hy => by
        rcases List.mem_cons.1 hy with rfl | hy
        · exact hsub x hx'
        · exact hsub y (by simp [hy])) hb)
      exact reset_done H.out.2.2.1 H.out.2.2.2.1 H.out.2.2.2.2.1 H.out.2.2.2.2.2.2.1 H.out.2.2.2.2.2.2.2.1 H.out.2.2.2.2.2.2.2.2 (by have := H5.out.1; rw [← hhd] at this; exact this) t5
  · have e : resetW st h a = (1, st) := by unfold resetW; rw [if_neg ht]
    rw [e]
    have hf : isTime a = false := by simpa using ht
    have H := Lib.hid (And.intro hW ((Sm.refl No w).alloc (.cells #[.int .i64 h.slot, .int .i64 h.gen] 29)))
    clear hW e ht
    unfold hv
    go_enter Try.func18, Try.ntmps18
    go_wp2_with fail
    refine (isTime_any _ a).mono ?_
    rw [hf]
    rintro e w1 ⟨rfl, rfl⟩
    clear hf
    go_wp2_with fail
    go_ret
    exact ⟨rfl, WPost.keep H.out.1 H.out.2⟩
end Go.Proofs.Ytgmgjkafdkgalaa
