/- lays, lifts. -/
import Derived.Test.YtgmgjkafdkgalaaWhG
namespace Go.Proofs.Ytgmgjkafdkgalaa
open Go.RowKit Go.Proofs Go.Maps

section
variable {w w' : World} {Os : Nat → Prop} {r s tm now ord n : Nat} {mb : Nat → Nat} {sb : List Sl} {x : Tb} {R U : List Tb}
theorem IsW.hds (h : IsW w Os r s tm mb now ord n sb (x :: R) U) : ∀ y ∈ R, y.t.h ≠ x.t.h := by
  have h1 := h.tms.1
  unfold keysT at h1
  rw [List.map_map, List.map_cons, List.nodup_cons] at h1
  intro y hy e
  exact h1.1 (List.mem_map.2 ⟨y, hy, e⟩)
theorem IsW.bls (h : IsW w Os r s tm mb now ord n sb (x :: R) U) : ∀ y ∈ R, y.b ≠ x.b := by
  have h1 := h.nd
  rw [List.map_cons, List.nodup_cons] at h1
  intro y hy e
  exact h1.1 (List.mem_map.2 ⟨y, hy, e⟩)
/-- The first timer is written. -/
theorem IsW.setTb (h : IsW w Os r s tm mb now ord n sb (x :: R) U) {x' : Tb} (hb : x'.b = x.b) (hh : x'.t.h = x.t.h) (hbk : Bk w' x.b 77 (tmCells x')) (hs : Sm (fun b => b = x.b) w w') : IsW w' Os r s tm mb now ord n sb (x' :: R) U where
  bk := h.bk.sm hs (fun e => h.r_b (x := x) (by simp) e.symm)
  slab := h.slab.sm hs (fun b hb e => (h.so b hb).2.2.2 x (by simp) e)
  tms := by
    have := h.tms.sm hs (fun e => h.tm_b (x := x) (by simp) e)
    unfold keysT at this ⊢
    rw [List.map_cons] at this ⊢
    rw [hb, hh]; exact this
  ls := fun j hj => (h.ls j hj).sm hs (fun e => h.mb_b hj (x := x) (by simp) e)
  tb := fun y hy => by
    rcases List.mem_cons.1 hy with rfl | hy
    · rw [hb]; exact hbk
    · exact (h.tb y (by simp [hy])).sm hs (fun e => h.bls y hy e)
  nd := by
    have := h.nd
    rw [List.map_cons] at this ⊢
    rw [hb]; exact this
  inj := h.inj
  tmb := h.tmb
  so := fun b hb2 => ⟨(h.so b hb2).1, (h.so b hb2).2.1, (h.so b hb2).2.2.1, fun y hy => by
    rcases List.mem_cons.1 hy with rfl | hy
    · rw [hb]; exact (h.so b hb2).2.2.2 x (by simp)
    · exact (h.so b hb2).2.2.2 y (by simp [hy])⟩
theorem IsW.setPlace (h : IsW w Os r s tm mb now ord n sb (x :: R) U) {pl ps : Nat} (e : (w.setCell ⟨x.b, 3, none⟩ (.int .i64 pl)).setCell ⟨x.b, 4, none⟩ (.int .i64 ps) = w') :
    IsW w' Os r s tm mb now ord n sb (⟨x.t, x.b, (pl, ps)⟩ :: R) U ∧ Sm (fun b => b = x.b) w w' := by
  have hs : Sm (fun b => b = x.b) w w' := by rw [← e]; exact ((Sm.refl _ w).set1 _ _).set1 _ _
  refine ⟨h.setTb rfl rfl ?_ hs, hs⟩
  rw [← e]
  exact (((h.tb x (by simp)).set 3 _).set 4 _).eq rfl
/-- .. is laid into its slot. -/
theorem IsW.lay (h : IsW w Os r s tm mb now ord n sb (x :: R) R) (hp : idx x.p < 320) (hm : MapL w' (mb (idx x.p)) (putL (inSlot R (idx x.p)) x.t.h (.bool true))) (hs : Sm (fun b => b = mb (idx x.p)) w w') : IsW w' Os r s tm mb now ord n sb (x :: R) (x :: R) where
  bk := h.bk.sm hs (fun e => h.mb_r hp e.symm)
  slab := h.slab.sm hs (fun b hb e => (h.so b hb).2.2.1 _ hp e)
  tms := h.tms.sm hs (fun e => h.tmb _ hp e.symm)
  ls := fun j hj => by
    by_cases e : j = idx x.p
    · subst e
      refine (show putL (inSlot R (idx x.p)) x.t.h (.bool true) = inSlot (x :: R) (idx x.p) from ?_) ▸ hm
      unfold putL inSlot
      rw [List.filter_cons_of_pos (by simp), List.map_cons]
      congr 1
      rw [List.filter_eq_self]
      intro q hq
      obtain ⟨y, hy, rfl⟩ := List.mem_map.1 hq
      simpa using h.hds y (List.mem_filter.1 hy).1
    · have e2 : inSlot (x :: R) j = inSlot R j := by
        unfold inSlot
        rw [List.filter_cons_of_neg (by simpa using fun e2 => e e2.symm)]
      rw [e2]
      exact (h.ls j hj).sm hs (fun e3 => e (h.inj j _ hj hp e3))
  tb := fun y hy => (h.tb y hy).sm hs (fun e => h.mb_b hp hy e.symm)
  nd := h.nd
  inj := h.inj
  tmb := h.tmb
  so := h.so
/-- .. is lifted out of it. -/
theorem IsW.lift (h : IsW w Os r s tm mb now ord n sb (x :: R) (x :: R)) (hp : idx x.p < 320) (hm : MapL w' (mb (idx x.p)) (delL (inSlot (x :: R) (idx x.p)) x.t.h)) (hs : Sm (fun b => b = mb (idx x.p)) w w') : IsW w' Os r s tm mb now ord n sb (x :: R) R where
  bk := h.bk.sm hs (fun e => h.mb_r hp e.symm)
  slab := h.slab.sm hs (fun b hb e => (h.so b hb).2.2.1 _ hp e)
  tms := h.tms.sm hs (fun e => h.tmb _ hp e.symm)
  ls := fun j hj => by
    by_cases e : j = idx x.p
    · subst e
      refine (show delL (inSlot (x :: R) (idx x.p)) x.t.h = inSlot R (idx x.p) from ?_) ▸ hm
      unfold delL inSlot
      rw [List.filter_cons_of_pos (by simp), List.map_cons, List.filter_cons_of_neg (by simp), List.filter_eq_self]
      intro q hq
      obtain ⟨y, hy, rfl⟩ := List.mem_map.1 hq
      simpa using h.hds y (List.mem_filter.1 hy).1
    · have e2 : inSlot (x :: R) j = inSlot R j := by
        unfold inSlot
        rw [List.filter_cons_of_neg (by simpa using fun e2 => e e2.symm)]
      rw [← e2]
      exact (h.ls j hj).sm hs (fun e3 => e (h.inj j _ hj hp e3))
  tb := fun y hy => (h.tb y hy).sm hs (fun e => h.mb_b hp hy e.symm)
  nd := h.nd
  inj := h.inj
  tmb := h.tmb
  so := h.so
theorem inSlot_len (R : List Tb) (j : Nat) : (inSlot R j).length ≤ R.length := by
  unfold inSlot
  rw [List.length_map]
  exact List.length_filter_le _ _
end
theorem zeroTm (w : World) : (zeroValue 75).run Try.prog w = .ok (.pointer none) w := by kernel_rfl
theorem laysLook {w : World} {tm : Nat} {T : List Tb} (h : MapL w tm (keysT T)) {v : Value} {k : Hd} (o : okH k) (hv : getV (keysT T) k (.pointer none) = v) (nq : Nat) :
    (Instr.lookup 68 (.map (some tm)) (.agg #[.int .i64 k.slot, .int .i64 k.gen]) false).run Try.prog (w.drewN nq) = .ok v (w.drewN nq) := by
  have := (show MapL (w.drewN nq) tm (keysT T) from h.sm ((Sm.refl No w).drewN nq) (fun h => h)).look Try.underlying68 (zeroTm _) o
  rw [hv] at this
  exact this
theorem laysPut {w : World} {b : Nat} {l : List (Hd × Value)} (h : MapL w b l) (hl : l.length ≤ 1000000) {k : Hd} (o : okH k) : ∃ w', (Instr.mapUpdate 69 (.map (some b)) (.agg #[.int .i64 k.slot, .int .i64 k.gen]) (.bool true)).run Try.prog w = .ok () w' ∧ MapL w' b (putL l k (.bool true)) ∧ Sm (fun g => g = b) w w' :=
  h.put Try.underlying69 o (.bool true) hl
set_option maxRecDepth 100000 in
set_option maxHeartbeats 4000000 in
theorem lays_any (w : World) (Os : Nat → Prop) (r s tm now ord n : Nat) (mb : Nat → Nat) (sb : List Sl) (x : Tb) (R : List Tb) (h : IsW w Os r s tm mb now ord n sb (x :: R) R) (hnow : now ≤ 1099511627776) (hat : x.t.a ≤ 1099511627776) (hlen : R.length ≤ 100000) :
    Calls Try.prog 32 #[.pointer (some ⟨r, 0, none⟩), hv x.t.h] w fun e w' => e = .returned (.tuple #[]) ∧ IsW w' Os r s tm mb now ord n sb (⟨x.t, x.b, placeL now x.t.a⟩ :: R) (⟨x.t, x.b, placeL now x.t.a⟩ :: R) ∧ Sm (blW Os r tm mb (x :: R)) w w' := by
  have hxm : x ∈ x :: R := by simp
  have hs0 := (Sm.refl No w).alloc (.cells #[.int .i64 x.t.h.slot, .int .i64 x.t.h.gen] 29)
  have h0 := h.no hs0
  have hl := laysLook h0.tms (h0.key hxm) (getV_keys h0 hxm (.pointer none))
  have c3 := h0.bk.at 3 (v := .map (some tm)) rfl
  have hrl := h.bk.lt
  have H := Lib.hid (And.intro h (And.intro hs0 h0))
  obtain ⟨hd, hhd⟩ : ∃ hd, x.t.h = hd := ⟨_, rfl⟩
  rw [hhd] at hl c3 ⊢
  clear h hs0 h0
  have hbl := (H.out.1.tb x hxm).lt
  unfold hv
  go_enter Try.func32, Try.ntmps32
  go_wp2_with fail
  go_quiet (fail)
  obtain ⟨W, hW⟩ : ∃ W, (w.alloc (.cells #[.int .i64 hd.slot, .int .i64 hd.gen] 29)).drewN nq = W := ⟨_, rfl⟩
  have hsW : Sm No w W := by rw [← hW]; exact ((Sm.refl No w).alloc _).drewN nq
  have hbx : Bk W w.heap.size 29 #[.int .i64 hd.slot, .int .i64 hd.gen] := by rw [← hW]; exact (Bk.new w _ _).drewN nq
  rw [hW]
  obtain ⟨hx, hhx⟩ : ∃ hx, w.heap.size = hx := ⟨_, rfl⟩
  rw [hhx] at hbx ⊢
  have HW := Lib.hid (And.intro hsW (And.intro hbx hhx))
  have r0 := ((H.out.1.tb x hxm).sm hsW (fun h => h)).at 0 (v := .int .i64 x.t.a) rfl
  clear hW hsW hbx hhx hl c3
  go_wp2_with fail
  refine (place_any W r now x.t.a ((H.out.1.no HW.out.1).bk.at 0 rfl) hnow hat).mono ?_
  rintro e W1 ⟨rfl, hs1⟩
  have hs2 := HW.out.1.trans hs1 (fun _ _ h => h)
  have hI := H.out.1.no hs2
  obtain ⟨hp1, hp2⟩ := placeL_lt now x.t.a
  obtain ⟨p, hp⟩ : ∃ p, placeL now x.t.a = p := ⟨_, rfl⟩
  have HPl := Lib.hid hp
  rw [hp] at hp1 hp2 ⊢
  obtain ⟨pl, ps⟩ := p
  dsimp only at hp1 hp2 ⊢
  have HI := Lib.hid (And.intro hI (And.intro hs2 (HW.out.2.1.sm hs1 (fun h => h))))
  have r3 := (hI.tb x hxm).at 3 (v := .int .i64 x.p.1) rfl
  have r4 := (hI.tb x hxm).at 4 (v := .int .i64 x.p.2) rfl
  have f3 := (hI.tb x hxm).fz 3
  have f4 := (hI.tb x hxm).fz 4
  have hbl1 := (hI.tb x hxm).lt
  clear hI hs2 hs1 r0
  go_wp2_with fail
  obtain ⟨W2, hW2⟩ : ∃ W2, (W1.setCell ⟨x.b, 3, none⟩ (.int .i64 pl)).setCell ⟨x.b, 4, none⟩ (.int .i64 ps) = W2 := ⟨_, rfl⟩
  rw [hW2]
  obtain ⟨hI2, hs2⟩ := HI.out.1.setPlace (pl := pl) (ps := ps) hW2
  have hbx2 := HI.out.2.2.sm hs2 (fun e => by have := H.out.1.lt (b := x.b) (Or.inr (Or.inr (Or.inr (Or.inr ⟨x, hxm, rfl⟩)))); have := HW.out.2.2; omega)
  have hj : idx (pl, ps) < 320 := by unfold idx; dsimp only; omega
  obtain ⟨w7, hrun, hm7, hs7⟩ := laysPut ((hI2.ls _ hj).sm ((Sm.refl No W2).drew) (fun h => h)) (Nat.le_trans (inSlot_len R _) (by omega)) (k := hd) (hhd ▸ H.out.1.key hxm)
  have r3 := (hI2.tb _ (List.mem_cons_self ..)).at 3 (v := .int .i64 pl) rfl
  have r4 := (hI2.tb _ (List.mem_cons_self ..)).at 4 (v := .int .i64 ps) rfl
  have cj := hI2.bk.at (4 + idx (pl, ps)) (whCells_list hj)
  rw [show 4 + idx (pl, ps) = 4 + pl * 64 + ps from by unfold idx; dsimp only; omega] at cj
  have q0 := hbx2.at 0 (v := .int .i64 hd.slot) rfl
  have q1 := hbx2.at 1 (v := .int .i64 hd.gen) rfl
  obtain ⟨mj, hmj⟩ : ∃ mj, mb (idx (pl, ps)) = mj := ⟨_, rfl⟩
  rw [hmj] at hrun cj
  have hI7 := (hI2.no ((Sm.refl No W2).drew)).lay (x := ⟨x.t, x.b, (pl, ps)⟩) hj (hhd ▸ hm7) hs7
  have t3 := (hI7.tb _ (List.mem_cons_self ..)).at 3 (v := .int .i64 pl) rfl
  have t4 := (hI7.tb _ (List.mem_cons_self ..)).at 4 (v := .int .i64 ps) rfl
  have tj := hI7.bk.at (4 + idx (pl, ps)) (whCells_list hj)
  rw [show 4 + idx (pl, ps) = 4 + pl * 64 + ps from by unfold idx; dsimp only; omega, hmj] at tj
  have hbx7 := hbx2.drew.sm hs7 (fun e : hx = mb (idx (pl, ps)) => (hI2.ls _ hj).not_bk hbx2 e.symm)
  have u0 := hbx7.at 0 (v := .int .i64 hd.slot) rfl
  have u1 := hbx7.at 1 (v := .int .i64 hd.gen) rfl
  have hsa : Sm (blW Os r tm mb (x :: R)) w w7 := by
    refine ((HI.out.2.1.any _).trans hs2 (fun b _ e => Or.inr (Or.inr (Or.inr (Or.inr ⟨x, hxm, e⟩))))).drew.trans hs7 (fun b _ e => ?_)
    exact Or.inr (Or.inr (Or.inr (Or.inl ⟨_, hj, e⟩)))
  have HF := Lib.hid (And.intro hI7 hsa)
  have b1 : (0 : Int) ≤ (pl : Int) := by omega
  have b2 : (pl : Int) < 5 := by omega
  have b3 : (0 : Int) ≤ (ps : Int) := by omega
  have b4 : (ps : Int) < 64 := by omega
  clear hW2 hI2 hs2 hm7 hs7 hbx2 hmj hp hp1 hp2 hj f3 f4 hI7 hbx7 hsa
  go_wp2_with fail
  go_region_held3 (fun w' => w'.cell? ⟨x.b, 3, none⟩ = some (.int .i64 pl) ∧ w'.cell? ⟨x.b, 4, none⟩ = some (.int .i64 ps) ∧ w'.cell? ⟨r, 4 + pl * 64 + ps, none⟩ = some (.map (some mj)) ∧ w'.cell? ⟨hx, 0, none⟩ = some (.int .i64 hd.slot) ∧ w'.cell? ⟨hx, 1, none⟩ = some (.int .i64 hd.gen)) (first | exact ⟨r3, r4, cj, q0, q1⟩ | exact ⟨t3, t4, tj, u0, u1⟩) (fail)
  go_wp2_with fail
  go_end0
  rw [HPl.out]
  exact ⟨rfl, HF.out⟩
theorem liftsDrop {w : World} {b : Nat} {l : List (Hd × Value)} (h : MapL w b l) {k : Hd} (o : okH k) : ∃ w', (Builtin.delete_ #[69, 29] 0 #[.map (some b), .agg #[.int .i64 k.slot, .int .i64 k.gen]]).run Try.prog w = .ok (.tuple #[]) w' ∧ MapL w' b (delL l k) ∧ Sm (fun g => g = b) w w' :=
  h.drop Try.underlying69 o 0
set_option maxRecDepth 100000 in
set_option maxHeartbeats 4000000 in
theorem lifts_any (w : World) (Os : Nat → Prop) (r s tm now ord n : Nat) (mb : Nat → Nat) (sb : List Sl) (x : Tb) (R : List Tb) (h : IsW w Os r s tm mb now ord n sb (x :: R) (x :: R)) (hokp : okP x.p) :
    Calls Try.prog 34 #[.pointer (some ⟨r, 0, none⟩), hv x.t.h] w fun e w' => e = .returned (.tuple #[]) ∧ IsW w' Os r s tm mb now ord n sb (x :: R) R ∧ Sm (blW Os r tm mb (x :: R)) w w' := by
  have hxm : x ∈ x :: R := by simp
  have hs0 := (Sm.refl No w).alloc (.cells #[.int .i64 x.t.h.slot, .int .i64 x.t.h.gen] 29)
  have h0 := h.no hs0
  have hl := laysLook h0.tms (h0.key hxm) (getV_keys h0 hxm (.pointer none))
  have c3 := h0.bk.at 3 (v := .map (some tm)) rfl
  have hrl := h.bk.lt
  have H := Lib.hid (And.intro h (And.intro hs0 h0))
  obtain ⟨hd, hhd⟩ : ∃ hd, x.t.h = hd := ⟨_, rfl⟩
  rw [hhd] at hl c3 ⊢
  clear h hs0 h0
  have hbl := (H.out.1.tb x hxm).lt
  unfold hv
  go_enter Try.func34, Try.ntmps34
  go_wp2_with fail
  go_quiet (fail)
  obtain ⟨W, hW⟩ : ∃ W, (w.alloc (.cells #[.int .i64 hd.slot, .int .i64 hd.gen] 29)).drewN nq = W := ⟨_, rfl⟩
  have hsW : Sm No w W := by rw [← hW]; exact ((Sm.refl No w).alloc _).drewN nq
  have hbx : Bk W w.heap.size 29 #[.int .i64 hd.slot, .int .i64 hd.gen] := by rw [← hW]; exact (Bk.new w _ _).drewN nq
  rw [hW]
  obtain ⟨hx, hhx⟩ : ∃ hx, w.heap.size = hx := ⟨_, rfl⟩
  rw [hhx] at hbx ⊢
  have HW := Lib.hid (And.intro hsW (And.intro hbx hhx))
  have hI := H.out.1.no hsW
  obtain ⟨hp1, hp2⟩ := hokp
  obtain ⟨pl, hpl⟩ : ∃ pl, x.p.1 = pl := ⟨_, rfl⟩
  obtain ⟨ps, hps⟩ : ∃ ps, x.p.2 = ps := ⟨_, rfl⟩
  have hix : idx x.p = pl * 64 + ps := by unfold idx; rw [hpl, hps]
  rw [hpl] at hp1
  rw [hps] at hp2
  have hj : idx x.p < 320 := by rw [hix]; omega
  obtain ⟨w7, hrun, hm7, hs7⟩ := liftsDrop ((hI.ls _ hj).sm ((Sm.refl No W).drew) (fun h => h)) (k := hd) (hhd ▸ H.out.1.key hxm)
  have r3 := (hI.tb _ hxm).at 3 (v := .int .i64 pl) (by simp [tmCells, hpl])
  have r4 := (hI.tb _ hxm).at 4 (v := .int .i64 ps) (by simp [tmCells, hps])
  have cj := hI.bk.at (4 + idx x.p) (whCells_list hj)
  rw [show 4 + idx x.p = 4 + pl * 64 + ps from by rw [hix]; omega] at cj
  have q0 := hbx.at 0 (v := .int .i64 hd.slot) rfl
  have q1 := hbx.at 1 (v := .int .i64 hd.gen) rfl
  obtain ⟨mj, hmj⟩ : ∃ mj, mb (idx x.p) = mj := ⟨_, rfl⟩
  rw [hmj] at hrun cj
  have hI7 := (hI.no ((Sm.refl No W).drew)).lift hj (hhd ▸ hm7) hs7
  have t3 := (hI7.tb _ (List.mem_cons_self ..)).at 3 (v := .int .i64 pl) (by simp [tmCells, hpl])
  have t4 := (hI7.tb _ (List.mem_cons_self ..)).at 4 (v := .int .i64 ps) (by simp [tmCells, hps])
  have tj := hI7.bk.at (4 + idx x.p) (whCells_list hj)
  rw [show 4 + idx x.p = 4 + pl * 64 + ps from by rw [hix]; omega, hmj] at tj
  have hbx7 := hbx.drew.sm hs7 (fun e : hx = mb (idx x.p) => (hI.ls _ hj).not_bk hbx e.symm)
  have u0 := hbx7.at 0 (v := .int .i64 hd.slot) rfl
  have u1 := hbx7.at 1 (v := .int .i64 hd.gen) rfl
  have hsa : Sm (blW Os r tm mb (x :: R)) w w7 := (hsW.any _).drew.trans hs7 (fun b _ e => Or.inr (Or.inr (Or.inr (Or.inl ⟨_, hj, e⟩))))
  have HF := Lib.hid (And.intro hI7 hsa)
  have b1 : (0 : Int) ≤ (pl : Int) := by omega
  have b2 : (pl : Int) < 5 := by omega
  have b3 : (0 : Int) ≤ (ps : Int) := by omega
  have b4 : (ps : Int) < 64 := by omega
  have hrl2 := hI.bk.lt
  have hbl2 := (hI.tb x hxm).lt
  clear hW hsW hbx hhx hl c3 hI hpl hps hix hp1 hp2 hj hm7 hs7 hmj hI7 hbx7 hsa
  go_wp2_with fail
  go_region_held3 (fun w' => w'.cell? ⟨x.b, 3, none⟩ = some (.int .i64 pl) ∧ w'.cell? ⟨x.b, 4, none⟩ = some (.int .i64 ps) ∧ w'.cell? ⟨r, 4 + pl * 64 + ps, none⟩ = some (.map (some mj)) ∧ w'.cell? ⟨hx, 0, none⟩ = some (.int .i64 hd.slot) ∧ w'.cell? ⟨hx, 1, none⟩ = some (.int .i64 hd.gen)) (first | exact ⟨r3, r4, cj, q0, q1⟩ | exact ⟨t3, t4, tj, u0, u1⟩) (fail)
  go_wp2_with fail
  go_end0
  exact ⟨rfl, HF.out⟩
end Go.Proofs.Ytgmgjkafdkgalaa
