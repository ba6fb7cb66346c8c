/- Add. -/
import Derived.Test.YtgmgjkafdkgalaaWhK
namespace Go.Proofs.Ytgmgjkafdkgalaa
open Go.RowKit Go.Proofs Go.Maps

theorem wf_small {n : Int} (h0 : -1000000000000000 ≤ n) (h1 : n ≤ 1000000000000000) : (Lit.int .i64 n).wf = true := WalkArith.wf_i64 (by omega)
section
variable {w w' : World} {Os : Nat → Prop} {r s tm now ord n : Nat} {mb : Nat → Nat} {sb : List Sl} {x : Tb} {T U R : List Tb}
theorem IsW.setSlab (h : IsW w Os r s tm mb now ord n sb T U) {Os' : Nat → Prop} {sb' : List Sl} {n' : Nat} (hS : IsSlab w' Os' s sb' n') (hs : Sm Os w w') (hO : ∀ b, Os' b → Os b ∨ w.heap.size ≤ b) : IsW w' Os' r s tm mb now ord n' sb' T U where
  bk := h.bk.sm hs (fun e => (h.so _ e).1 rfl)
  slab := hS
  tms := h.tms.sm hs (fun e => (h.so _ e).2.1 rfl)
  ls := fun j hj => (h.ls j hj).sm hs (fun e => (h.so _ e).2.2.1 j hj rfl)
  tb := fun y hy => (h.tb y hy).sm hs (fun e => (h.so _ e).2.2.2 y hy rfl)
  nd := h.nd
  inj := h.inj
  tmb := h.tmb
  so := fun b hb => by
    rcases hO b hb with hb | hb
    · exact h.so b hb
    · refine ⟨fun e => ?_, fun e => ?_, fun j hj e => ?_, fun y hy e => ?_⟩
      · have := h.bk.lt; omega
      · have := h.tms.lt; omega
      · have := (h.ls j hj).lt; omega
      · have := (h.tb y hy).lt; omega
theorem IsW.addTb (h : IsW w Os r s tm mb now ord n sb T U) {w1 : World} (hb : Bk w1 x.b 77 (tmCells x)) (hs1 : Sm No w w1) (hx : w.heap.size ≤ x.b) (hm : MapL w' tm (putL (keysT T) x.t.h (.pointer (some ⟨x.b, 0, none⟩)))) (hs2 : Sm (fun b => b = tm) w1 w') (hT : ∀ y ∈ T, y.t.h ≠ x.t.h) :
    IsW w' Os r s tm mb now ord n sb (x :: T) U := by
  have h1 := h.no hs1
  have hlt : ∀ b, blW Os r tm mb T b → b ≠ x.b := fun b hb e => by have := h.lt hb; omega
  refine { bk := h1.bk.sm hs2 (fun e => h1.tm_r e.symm), slab := h1.slab.sm hs2 (fun b hb e => (h1.so b hb).2.1 e), tms := ?_, ls := fun j hj => (h1.ls j hj).sm hs2 (fun e => h1.tmb j hj e), tb := fun y hy => ?_, nd := ?_, inj := h.inj, tmb := h.tmb, so := fun b hb' => ⟨(h.so b hb').1, (h.so b hb').2.1, (h.so b hb').2.2.1, fun y hy => ?_⟩ }
  · refine (show putL (keysT T) x.t.h (.pointer (some ⟨x.b, 0, none⟩)) = keysT (x :: T) from ?_) ▸ hm
    unfold putL keysT
    rw [List.map_cons]
    congr 1
    rw [List.filter_eq_self]
    intro q hq
    obtain ⟨y, hy, rfl⟩ := List.mem_map.1 hq
    simpa using hT y hy
  · rcases List.mem_cons.1 hy with rfl | hy
    · exact hb.sm hs2 (fun e => h1.tms.not_bk hb e.symm)
    · exact (h1.tb y hy).sm hs2 (fun e => h1.tm_b hy e.symm)
  · rw [List.map_cons, List.nodup_cons]
    refine ⟨fun hm => ?_, h.nd⟩
    obtain ⟨y, hy, e⟩ := List.mem_map.1 hm
    exact hlt y.b (Or.inr (Or.inr (Or.inr (Or.inr ⟨y, hy, rfl⟩)))) e
  · rcases List.mem_cons.1 hy with rfl | hy
    · exact hlt b (Or.inl hb')
    · exact (h.so b hb').2.2.2 y hy
end
theorem blW_fresh {w : World} {Os Os' : Nat → Prop} {r s tm now ord n nb b : Nat} {mb : Nat → Nat} {sb : List Sl} {T : List Tb} {t : Tm} {p : Nat × Nat} (h : IsW w Os r s tm mb now ord n sb T T) (h1 : b ≠ nb) (h2 : w.heap.size ≤ b) (h3 : ¬ Os' b) : ¬ blW Os' r tm mb (⟨t, nb, p⟩ :: T) b := by
  rintro (e | rfl | rfl | ⟨j, hj, rfl⟩ | ⟨x, hx, rfl⟩)
  · exact h3 e
  · have := h.bk.lt; omega
  · have := h.tms.lt; omega
  · have := (h.ls j hj).lt; omega
  · rcases List.mem_cons.1 hx with rfl | hx
    · exact h1 rfl
    · have := (h.tb x hx).lt; omega
theorem add_done {w w7 : World} {O Os Os' : Nat → Prop} {r s tm aN nb rb : Nat} {what : Int} {hd : Hd} {mb : Nat → Nat} {st : St} {T : List Tb} (h2 : (T.map (·.t)).Perm st.L) (h3 : ∀ x ∈ T, x.p = placeL st.now x.t.a)
    (hok : St.Ok { st with ord := st.ord + 1, sb := putB st.sb what, L := st.L ++ [⟨newH st.sb, aN, what, st.ord + 1⟩] }) (hhd : newH st.sb = hd) (h5 : ∀ b, blW Os r tm mb T b → O b) (hO2 : ∀ b, Os' b → Os b ∨ w.heap.size ≤ b) (hnb : w.heap.size ≤ nb)
    (hI : IsW w7 Os' r s tm mb st.now (st.ord + 1) (T.length + 1) (putB st.sb what) (⟨⟨hd, aN, what, st.ord + 1⟩, nb, placeL st.now aN⟩ :: T) (⟨⟨hd, aN, what, st.ord + 1⟩, nb, placeL st.now aN⟩ :: T))
    (hs : Sm O w w7) (hrb : w.heap.size ≤ rb) (hrb2 : ¬ blW Os' r tm mb (⟨⟨hd, aN, what, st.ord + 1⟩, nb, placeL st.now aN⟩ :: T) rb) {x y : Value} {w8 : World} (e : (w7.setCell ⟨rb, 0, none⟩ x).setCell ⟨rb, 1, none⟩ y = w8) :
    WPost w O r { st with ord := st.ord + 1, sb := putB st.sb what, L := st.L ++ [⟨newH st.sb, aN, what, st.ord + 1⟩] } w8 := by
  have hs8 : Sm (fun b => b = rb) w7 w8 := by rw [← e]; exact ((Sm.refl _ w7).set1 _ _).set1 _ _
  have hI8 := hI.sm hs8 (fun b hb e => hrb2 (e ▸ hb))
  refine ⟨blW Os' r tm mb (⟨⟨hd, aN, what, st.ord + 1⟩, nb, placeL st.now aN⟩ :: T), ⟨Os', s, tm, mb, ⟨⟨hd, aN, what, st.ord + 1⟩, nb, placeL st.now aN⟩ :: T, hI8, ?_, ?_, hok, fun b hb => hb, fun b hb => hI8.lt hb⟩, ?_, fun b hb => ?_⟩
  · rw [List.map_cons, hhd]
    exact (List.Perm.cons _ h2).trans (List.perm_append_singleton _ _).symm
  · intro z hz
    rcases List.mem_cons.1 hz with rfl | hz
    · rfl
    · exact h3 z hz
  · exact ((hs.mono (fun b _ h => Or.inl h)).trans (hs8.mono (fun b _ h => h)) (fun b _ h => Or.inr h) : Sm (fun b => O b ∨ b = rb) w w8).mono (fun b hb h => h.elim id (fun e => by omega))
  · rcases hb with hb | hb | hb | hb | ⟨z, hz, rfl⟩
    · exact (hO2 b hb).imp (fun h => h5 b (Or.inl h)) id
    · exact Or.inl (h5 b (Or.inr (Or.inl hb)))
    · exact Or.inl (h5 b (Or.inr (Or.inr (Or.inl hb))))
    · exact Or.inl (h5 b (Or.inr (Or.inr (Or.inr (Or.inl hb)))))
    · rcases List.mem_cons.1 hz with rfl | hz
      · exact Or.inr hnb
      · exact Or.inl (h5 _ (Or.inr (Or.inr (Or.inr (Or.inr ⟨z, hz, rfl⟩)))))
theorem timersPut {w : World} {b : Nat} {l : List (Hd × Value)} (h : MapL w b l) (hl : l.length ≤ 1000000) {k : Hd} (o : okH k) (p : Nat) : ∃ w', (Instr.mapUpdate 68 (.map (some b)) (.agg #[.int .i64 k.slot, .int .i64 k.gen]) (.pointer (some ⟨p, 0, none⟩))).run Try.prog w = .ok () w' ∧ MapL w' b (putL l k (.pointer (some ⟨p, 0, none⟩))) ∧ Sm (fun g => g = b) w w' :=
  h.put Try.underlying68 o _ hl
set_option maxRecDepth 100000 in
set_option maxHeartbeats 4000000 in
theorem add_any (w : World) (O : Nat → Prop) (r : Nat) (st : St) (a what : Int) (hW : IsWheel w O r st) (hord : st.ord ≤ 4000) :
    Calls Try.prog 12 #[.pointer (some ⟨r, 0, none⟩), .int .i64 a, .int .i64 what] w fun e w' => e = .returned (.tuple #[hv (addW st a what).1, .int .i64 (addW st a what).2.1]) ∧ WPost w O r (addW st a what).2.2 w' := by
  by_cases ht : isTime a = true
  · have hok2 : (addW st a what).2.2.Ok := by obtain ⟨_, _, _, _, _, _, _, _, h4, _⟩ := id hW; exact addW_ok h4 a what
    have e : addW st a what = (newH st.sb, 0, { st with ord := st.ord + 1, sb := putB st.sb what, L := st.L ++ [⟨newH st.sb, a.toNat, what, st.ord + 1⟩] }) := by unfold addW; rw [if_pos ht]
    rw [e] at hok2 ⊢
    obtain ⟨aN, haN, haL⟩ : ∃ aN : Nat, a = aN ∧ aN ≤ 1099511627776 := by
      simp [isTime] at ht
      exact ⟨a.toNat, by omega, by omega⟩
    subst haN
    rw [Int.toNat_natCast] at hok2 ⊢
    obtain ⟨Os, s, tm, mb, T, h1, h2, h3, h4, h5, h6⟩ := id hW
    have c2 := h1.bk.at 2 (v := .pointer (some ⟨s, 0, none⟩)) rfl
    have hrl := h1.bk.lt
    have hTl : T.length ≤ 4000 := by have e1 := h2.length_eq; rw [List.length_map] at e1; have := h4.len; omega
    have ha0 := (Sm.refl No w).alloc (.cells #[.int .i64 0, .int .i64 0] 29)
    have hb0 := Bk.new w 29 #[.int .i64 0, .int .i64 0]
    have hput := put_any (w.alloc (.cells #[.int .i64 0, .int .i64 0] 29)) Os s T.length st.sb what (h1.slab.no ha0) (by omega) (by have := h4.slots; omega) (fun x hx => by have := h4.gens x hx; omega)
    have H := Lib.hid (And.intro h1 (And.intro h2 (And.intro h3 (And.intro h4 (And.intro h5 (And.intro h6 (And.intro hok2 (And.intro ha0 (And.intro hb0 hput)))))))))
    clear h1 h2 h3 h4 h5 h6 hW e hok2 ha0 hb0 hput
    go_enter Try.func12, Try.ntmps12
    go_wp2_with fail
    refine (isTime_any _ _).mono ?_
    rw [ht]
    rintro e w1 ⟨rfl, rfl⟩
    clear ht
    go_wp2_with fail
    refine H.out.2.2.2.2.2.2.2.2.2.mono ?_
    obtain ⟨hd, hhd⟩ : ∃ hd, newH st.sb = hd := ⟨_, rfl⟩
    rw [hhd]
    unfold hv
    rintro e w2 ⟨rfl, Os', hS2, hs2, hO2⟩
    have hI2 := (H.out.1.no H.out.2.2.2.2.2.2.2.1).setSlab hS2 hs2 hO2
    have hz := H.out.2.2.2.2.2.1
    have hrb2 := H.out.2.2.2.2.2.2.2.2.1.sm hs2 (fun e => by have := H.out.2.2.2.2.1 _ (Or.inl e); have := hz _ this; omega)
    have hs02 : Sm O w w2 := (H.out.2.2.2.2.2.2.2.1.any _).trans hs2 (fun b _ e => H.out.2.2.2.2.1 _ (Or.inl e))
    obtain ⟨rb, hrb⟩ : ∃ rb, w.heap.size = rb := ⟨_, rfl⟩
    rw [hrb] at hrb2 ⊢
    have c1 := hI2.bk.at 1 (v := .int .i64 st.ord) rfl
    have f1 := hI2.bk.fz 1
    have hrl2 := hI2.bk.lt
    have H2 := Lib.hid (And.intro hI2 (And.intro hrb2 (And.intro hs02 (And.intro hrb (And.intro hhd (And.intro hO2 hs2))))))
    clear hS2 hs2 hO2 c2 hI2 hz hrb2 hs02 hrb hhd
    go_wp2_with fail
    have e64 : ((st.ord : Int) + 1) = ((st.ord + 1 : Nat) : Int) := by omega
    rw [e64]
    obtain ⟨w3, hw3⟩ : ∃ w3, w2.setCell ⟨r, 1, none⟩ (.int .i64 ((st.ord + 1 : Nat) : Int)) = w3 := ⟨_, rfl⟩
    obtain ⟨hI3, hs3⟩ := H2.out.1.setOrd hw3
    have hz3 : w3.heap.size = w2.heap.size := by rw [← hw3]; simp
    rw [hw3]
    obtain ⟨w4, hw4⟩ : ∃ w4, w3.alloc (.cells #[.int .i64 hd.slot, .int .i64 hd.gen] 29) = w4 := ⟨_, rfl⟩
    have hs4 : Sm No w3 w4 := by rw [← hw4]; exact (Sm.refl No w3).alloc _
    have hbx := Bk.newAt w3 29 #[.int .i64 hd.slot, .int .i64 hd.gen] hz3.symm
    rw [hw4] at hbx ⊢
    obtain ⟨hx, hhx⟩ : ∃ hx, w2.heap.size = hx := ⟨_, rfl⟩
    rw [hhx] at hbx ⊢
    have hI4 := hI3.no hs4
    have hrb4 := (H2.out.2.1.sm hs3 (fun e => by have := H.out.1.bk.lt; have := H2.out.2.2.2.1; omega)).sm hs4 (fun h => h)
    have c3 := hI4.bk.at 3 (v := .map (some tm)) rfl
    have c1 := hI4.bk.at 1 (v := .int .i64 ((st.ord + 1 : Nat) : Int)) rfl
    have q0 := hbx.at 0 (v := .int .i64 hd.slot) rfl
    have q1 := hbx.at 1 (v := .int .i64 hd.gen) rfl
    have hrl4 := hI4.bk.lt
    have hxl4 := hbx.lt
    have hokh : okH hd := by
      rw [← H2.out.2.2.2.2.1]
      have h1 := freeI_le st.sb
      have h2 := H.out.2.2.2.1.slots
      have h3 := genAt_le H.out.2.2.2.1.gens (freeI st.sb)
      exact ⟨wf_small (by unfold newH; dsimp only; omega) (by unfold newH; dsimp only; omega), wf_small (by unfold newH; dsimp only; omega) (by unfold newH; dsimp only; omega)⟩
    obtain ⟨w6, hrun, hm6, hs6⟩ := timersPut (w := (w4.alloc (.cells #[.int .i64 aN, .int .i64 what, .int .i64 ((st.ord : Int) + 1), .int .i64 0, .int .i64 0] 77)).drew) (hI4.tms.sm ((Sm.refl No w4).alloc _).drew (fun h => h)) (by simp [keysT]; omega) hokh w4.heap.size
    have hT : ∀ y ∈ T, y.t.h ≠ hd := fun y hy e => by
      have h1 := isB_newH st.sb
      rw [H.out.2.2.2.1.inS, H2.out.2.2.2.2.1] at h1
      have h2 := (hasT_tb H.out.2.1 hd).2 ⟨y, hy, e⟩
      rw [h1] at h2
      cases h2
    have hI6 := hI4.addTb (x := ⟨⟨hd, aN, what, st.ord + 1⟩, w4.heap.size, (0, 0)⟩) (Bk.new w4 77 #[.int .i64 aN, .int .i64 what, .int .i64 ((st.ord : Int) + 1), .int .i64 0, .int .i64 0]).drew ((Sm.refl No w4).alloc _).drew (Nat.le_refl _) hm6 hs6 hT
    have hx6 := ((hbx.alloc (.cells #[.int .i64 aN, .int .i64 what, .int .i64 ((st.ord : Int) + 1), .int .i64 0, .int .i64 0] 77)).drew).sm hs6 (fun e => hI4.tms.not_bk hbx e.symm)
    have hrb6 := ((hrb4.alloc (.cells #[.int .i64 aN, .int .i64 what, .int .i64 ((st.ord : Int) + 1), .int .i64 0, .int .i64 0] 77)).drew).sm hs6 (fun e => hI4.tms.not_bk hrb4 e.symm)
    have d3 := hI6.bk.at 3 (v := .map (some tm)) rfl
    have d1 := hI6.bk.at 1 (v := .int .i64 ((st.ord + 1 : Nat) : Int)) rfl
    have u0 := hx6.at 0 (v := .int .i64 hd.slot) rfl
    have u1 := hx6.at 1 (v := .int .i64 hd.gen) rfl
    have hs16 : Sm O w w6 := by
      have t3 := H2.out.2.2.1.trans hs3 (fun b _ e => H.out.2.2.2.2.1 _ (Or.inr (Or.inl e)))
      have t4 := (t3.trans hs4 (fun _ _ h => h.elim)).trans ((Sm.refl No w4).alloc (.cells #[.int .i64 aN, .int .i64 what, .int .i64 ((st.ord : Int) + 1), .int .i64 0, .int .i64 0] 77)).drew (fun _ _ h => h.elim)
      exact t4.trans hs6 (fun b _ e => H.out.2.2.2.2.1 _ (Or.inr (Or.inr (Or.inl e))))
    have hnb : w.heap.size ≤ w4.heap.size := Nat.le_trans H2.out.2.2.1.size (Nat.le_trans hs3.size hs4.size)
    have hrbn : w4.heap.size ≠ rb := fun e => by have := hrb4.lt; omega
    have hnx : w4.heap.size ≠ hx := fun e => by have := hbx.lt; omega
    have HF := Lib.hid (And.intro hI6 (And.intro hx6 (And.intro hrb6 (And.intro hs16 (And.intro hnb (And.intro hrbn (And.intro hnx hhx)))))))
    clear hw3 hw4 hI3 hs3 hz3 hs4 hbx hhx hI4 hrb4 hm6 hs6 hokh e64 hT hI6 hx6 hrb6 hs16 hnb hrbn hnx
    go_wp2_with fail
    go_region_held3 (fun w' => w'.cell? ⟨r, 3, none⟩ = some (.map (some tm)) ∧ w'.cell? ⟨r, 1, none⟩ = some (.int .i64 ((st.ord + 1 : Nat) : Int)) ∧ w'.cell? ⟨hx, 0, none⟩ = some (.int .i64 hd.slot) ∧ w'.cell? ⟨hx, 1, none⟩ = some (.int .i64 hd.gen)) (first | exact ⟨c3, c1, q0, q1⟩ | exact ⟨d3, d1, u0, u1⟩ | go_keep) (fail)
    have hlay := lays_any w6 Os' r s tm st.now (st.ord + 1) (T.length + 1) mb (putB st.sb what) ⟨⟨hd, aN, what, st.ord + 1⟩, w4.heap.size, (0, 0)⟩ T HF.out.1 H.out.2.2.2.1.now haL (by omega)
    dsimp only at hlay
    unfold hv at hlay
    obtain ⟨nb, hnb⟩ : ∃ nb, w4.heap.size = nb := ⟨_, rfl⟩
    rw [hnb] at hlay
    have HNb := Lib.hid hnb
    clear hnb
    go_wp2_with fail
    refine hlay.mono ?_
    rintro e w7 ⟨rfl, hI7, hs7⟩
    have hn : ∀ b, b ≠ nb → w.heap.size ≤ b → ¬ Os' b → ¬ blW Os' r tm mb (⟨⟨hd, aN, what, st.ord + 1⟩, nb, (0, 0)⟩ :: T) b := fun b h1 h2 h3 h4 => blW_fresh H.out.1 h1 h2 h3 h4
    have hx7 := HF.out.2.1.sm hs7 (hn hx (fun e => HF.out.2.2.2.2.2.2.1 (HNb.out.trans e.symm)) (by have := HF.out.2.2.2.2.2.2.2; have := H2.out.2.2.1.size; omega) (fun e => by
      have h1 := H2.out.1.lt (Or.inl e)
      have := HF.out.2.2.2.2.2.2.2; omega))
    have hrb7 := HF.out.2.2.1.sm hs7 (hn rb (fun e => HF.out.2.2.2.2.2.1 (HNb.out.trans e.symm)) (by have := H2.out.2.2.2.1; omega) (fun e => by
      rcases H2.out.2.2.2.2.2.1 rb e with h1 | h1
      · have h2 := H.out.1.lt (Or.inl h1)
        have := H2.out.2.2.2.1; omega
      · have := H2.out.2.2.2.1; simp at h1; omega))
    clear hn
    have u0 := hx7.at 0 (v := .int .i64 hd.slot) rfl
    have u1 := hx7.at 1 (v := .int .i64 hd.gen) rfl
    have p0 := hrb7.at 0 (v := .int .i64 0) rfl
    have p1 := hrb7.at 1 (v := .int .i64 0) rfl
    have g0 := hrb7.fz 0
    have g1 := hrb7.fz 1
    have hxl := hx7.lt
    have hrbl := hrb7.lt
    have H7 := Lib.hid (And.intro hI7 (And.intro hs7 hrb7))
    clear hI7 hs7 hx7 hrb7 hlay
    go_wp2_with fail
    refine bodyPost_ret (v := .tuple #[.agg #[.int .i64 hd.slot, .int .i64 hd.gen], .int .i64 0]) (by simp [results, Try.results12, go_sem, p0, p1]) rfl ⟨by rw [H2.out.2.2.2.2.1]; rfl, ?_⟩
    have hO2' : ∀ b, Os' b → Os b ∨ w.heap.size ≤ b := fun b hb => (H2.out.2.2.2.2.2.1 b hb).imp id (fun h => by simp at h; omega)
    have hbs : ∀ b, blW Os' r tm mb (⟨⟨hd, aN, what, st.ord + 1⟩, nb, (0, 0)⟩ :: T) b → O b ∨ w.heap.size ≤ b := fun b hb => by
      rcases hb with hb | hb | hb | hb | ⟨z, hz, rfl⟩
      · exact (hO2' b hb).imp (fun h => H.out.2.2.2.2.1 b (Or.inl h)) id
      · exact Or.inl (H.out.2.2.2.2.1 b (Or.inr (Or.inl hb)))
      · exact Or.inl (H.out.2.2.2.2.1 b (Or.inr (Or.inr (Or.inl hb))))
      · exact Or.inl (H.out.2.2.2.2.1 b (Or.inr (Or.inr (Or.inr (Or.inl hb)))))
      · rcases List.mem_cons.1 hz with rfl | hz
        · exact Or.inr (HNb.out ▸ HF.out.2.2.2.2.1)
        · exact Or.inl (H.out.2.2.2.2.1 _ (Or.inr (Or.inr (Or.inr (Or.inr ⟨z, hz, rfl⟩)))))
    have hs17 : Sm O w w7 := ((HF.out.2.2.2.1.mono (fun b _ h => Or.inl h)).trans H7.out.2.1 (fun b _ h => hbs b h) : Sm (fun b => O b ∨ w.heap.size ≤ b) w w7).mono (fun b hb h => h.elim id (fun e => by omega))
    exact add_done H.out.2.1 H.out.2.2.1 H.out.2.2.2.2.2.2.1 H2.out.2.2.2.2.1 H.out.2.2.2.2.1 hO2' (HNb.out ▸ HF.out.2.2.2.2.1) H7.out.1 hs17 (Nat.le_of_eq H2.out.2.2.2.1) (blW_fresh H.out.1 (fun e => HF.out.2.2.2.2.2.1 (HNb.out.trans e.symm)) (Nat.le_of_eq H2.out.2.2.2.1) (fun e => by
      rcases H2.out.2.2.2.2.2.1 rb e with h1 | h1
      · have h2 := H.out.1.lt (Or.inl h1)
        have := H2.out.2.2.2.1; omega
      · have := H2.out.2.2.2.1; simp at h1; omega)) rfl
  · have e : addW st a what = (⟨0, 0⟩, 1, st) := by unfold addW; rw [if_neg ht]
    rw [e]
    have hf : isTime a = false := by simpa using ht
    have H := Lib.hid hW
    clear hW e ht
    go_enter Try.func12, Try.ntmps12
    go_wp2_with fail
    refine (isTime_any _ a).mono ?_
    rw [hf]
    rintro e w1 ⟨rfl, rfl⟩
    clear hf
    go_wp2_with fail
    refine bodyPost_ret (v := .tuple #[.agg #[.int .i64 0, .int .i64 0], .int .i64 1]) (by simp [results, Try.results12, go_sem]) rfl ⟨rfl, WPost.keep H.out ((Sm.refl No w).alloc _)⟩
end Go.Proofs.Ytgmgjkafdkgalaa
