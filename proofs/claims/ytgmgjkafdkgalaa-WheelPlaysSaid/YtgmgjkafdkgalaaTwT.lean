/- The document's Slab (usherref2): Take. -/
import Derived.Test.YtgmgjkafdkgalaaTwS
namespace Go.Proofs.Ytgmgjkafdkgalaa
open Go.RowKit Go.Proofs Go.Maps

theorem isB_inv {l : List Sl} {h : Hd} (hB : isB l h = true) : ∃ (k : Nat) (x : Sl), h.slot = (k : Nat) ∧ l[k]? = some x ∧ x.u = true ∧ (x.g : Int) = h.gen := by
  unfold isB at hB
  rw [Bool.and_eq_true, decide_eq_true_eq] at hB
  obtain ⟨h0, h1⟩ := hB
  cases hx : l[h.slot.toNat]? with
  | none => rw [hx] at h1; cases h1
  | some x =>
    rw [hx] at h1
    simp only [Bool.and_eq_true, decide_eq_true_eq] at h1
    exact ⟨h.slot.toNat, x, by omega, hx, h1.1, h1.2⟩
theorem usedN_off {l : List Sl} {k : Nat} {x : Sl} (hx : l[k]? = some x) (hu : x.u = true) : usedN (l.set k ⟨x.g, false, x.v⟩) + 1 = usedN l := by
  induction l generalizing k with
  | nil => simp at hx
  | cons y r ih =>
    cases k with
    | zero =>
      simp at hx
      subst hx
      simp [usedN, hu]
    | succ k =>
      have := ih (k := k) (by simpa using hx)
      unfold usedN at this ⊢
      rw [List.set_cons_succ, List.filter_cons, List.filter_cons]
      split
      · simp only [List.length_cons]; omega
      · omega
theorem rows_off {l : List Sl} {k : Nat} {x : Sl} (hx : l[k]? = some x) : uL (l.set k ⟨x.g, false, x.v⟩) = (uL l).set k (.bool false) ∧ gL (l.set k ⟨x.g, false, x.v⟩) = gL l ∧ vL (l.set k ⟨x.g, false, x.v⟩) = vL l := by
  refine ⟨by simp [uL, List.map_set], ?_, ?_⟩
  · unfold gL
    rw [List.map_set]
    apply List.ext_getElem?
    intro i
    rw [List.getElem?_set]
    split
    · rename_i e; subst e; simp [hx]; exact (List.getElem?_eq_some_iff.1 hx).1
    · rfl
  · unfold vL
    rw [List.map_set]
    apply List.ext_getElem?
    intro i
    rw [List.getElem?_set]
    split
    · rename_i e; subst e; simp [hx]; exact (List.getElem?_eq_some_iff.1 hx).1
    · rfl
def RsPost (w : World) (O : Nat → Prop) (s : Nat) (l : List Sl) (w' : World) : Prop := RSl w' O s l ∧ Sm O w w'
def RTake (w : World) (O : Nat → Prop) (s : Nat) (l : List Sl) (h : Hd) (r : Int) (n i : Value) (wr : World) : Prop :=
  (n = .int .i64 0 ∧ i = .int .i64 0 ∧ wr = w) ∨ (n = .int .i64 r ∧ i = .int .i64 1 ∧ RsPost w O s (takeB l h) wr)
set_option maxRecDepth 100000 in
set_option maxHeartbeats 4000000 in
theorem rsTake_any (w : World) (O : Nat → Prop) (s : Nat) (l : List Sl) (h : Hd) (hR : RSl w O s l) (ok : okH h) (hb off c : Nat) (hA : RowC w (some ⟨hb, off, none⟩) [.int .i64 h.slot, .int .i64 h.gen]) (hl : l.length ≤ 1000000) :
    Calls Try.prog 42 #[.pointer (some ⟨s, 0, none⟩), .slice (some ⟨hb, off, none⟩) 1 c] w fun e w' => e = .returned (.int .i64 (if isB l h = true then 1 else 0)) ∧ RsPost w O s (takeB l h) w' := by
  obtain ⟨_, _, hA1, hbl, a0⟩ := hA 0 _ rfl
  injection hA1 with hA1; injection hA1 with q1 q2; subst q1 q2
  obtain ⟨_, _, hA1, _, a1⟩ := hA 1 _ rfl
  injection hA1 with hA1; injection hA1 with q1 q2; subst q1 q2
  rw [Nat.add_zero] at a0
  obtain ⟨r, hr⟩ : ∃ r : Int, (if isB l h = true then 1 else 0) = r := ⟨_, rfl⟩
  rw [hr]
  have H := Lib.hid hR
  have HRr := Lib.hid hr
  clear hR hA hr
  go_enter Try.func42, Try.ntmps42
  go_wp2_with fail
  go_loopw [5, 6] (fun n i wr => RTake w O s l h r n i wr) (fun _ b _ => 1 - (intOf b).toNat)
  case atStart => exact Or.inl ⟨rfl, rfl, rfl⟩
  case round =>
    rcases hrel with ⟨rfl, rfl, rfl⟩ | ⟨rfl, rfl, hP⟩
    · have hi := rsIs_any wr O s l h H.out ok
      go_wp2_with fail
      refine hi.mono ?_
      rintro e w1 ⟨rfl, hs1⟩
      have HS := Lib.hid hs1
      cases hB : isB l h
      · have HB := Lib.hid hB
        clear hB hi hs1 a0 a1
        go_wp2_with fail
        refine ⟨Or.inr ⟨by rw [← HRr.out, HB.out]; rfl, rfl, ?_, HS.out.any _⟩, by simp [intOf]⟩
        rw [takeB_not HB.out]
        exact H.out.no HS.out
      · obtain ⟨k, x, hk, hx, hu, hg⟩ := isB_inv hB
        obtain ⟨uv, gv, vv, h1, h2, h3, h4, h5, h6, h7, h8⟩ := H.out.no hs1
        obtain ⟨e1, e2, e3⟩ := uL_at hx
        have hlk : k < l.length := by
          rcases Nat.lt_or_ge k l.length with h | h
          · exact h
          · rw [List.getElem?_eq_none h] at hx; cases hx
        rcases own_row_form h2 with ⟨_, e0, _⟩ | ⟨bu, cu, rfl, hbu, _, hbul, hbc, hcell, hfz⟩
        · omega
        have r1 := hcell k _ e1
        rw [hu] at r1
        have f1 := hfz k
        have c1 := h1.at 1 (v := .slice (some ⟨bu, 0, none⟩) l.length cu) rfl
        have c4 := h1.at 4 (v := .int .i64 (usedN l)) rfl
        have f4 := h1.fz 4
        have hsl := h1.lt
        have hus := usedN_off hx hu
        have hle := usedN_le l
        have b0 := hs1.cell hbl a0
        have b1 := hs1.cell hbl a1
        rw [hk] at b0
        have hbl1 := Nat.lt_of_lt_of_le hbl hs1.size
        have k1 : (0 : Int) ≤ (k : Int) := by omega
        have k2 : (k : Int) < (l.length : Int) := by omega
        have hne : bu ≠ s := fun e => row_not_bk h2 h1 (by decide) (by rw [← e]; rfl)
        obtain ⟨un, hun⟩ : ∃ un, usedN l = un := ⟨_, rfl⟩
        rw [hun] at c4 hus hle
        have HUN := Lib.hid hun
        have HX := Lib.hid (And.intro hB (And.intro hk (And.intro hx (And.intro hu (And.intro hg (And.intro h1 (And.intro h2 (And.intro h3 (And.intro h4 (And.intro h5 (And.intro h6 (And.intro h7 h8))))))))))))
        clear hB hi hs1 a0 a1 hk hx hu hg h1 h2 h3 h4 h5 h6 h7 h8 e1 e2 e3 hcell hfz hun
        go_wp2_with fail
        go_region
        obtain ⟨W2, hW2⟩ : ∃ W2, (w1.setCell ⟨bu, k, none⟩ (.bool false)).drew = W2 := ⟨_, rfl⟩
        rw [hW2]
        have s2 : Sm (fun b => b = bu) w1 W2 := by rw [← hW2]; exact ((Sm.refl _ w1).set1 _ _).drew
        have b2 := HX.out.2.2.2.2.2.1.sm s2 (fun e => hne e.symm)
        have c4 := b2.at 4 (v := .int .i64 un) (by rw [HUN.out]; rfl)
        have f4 := b2.fz 4
        have hsl2 := b2.lt
        have HW := Lib.hid (And.intro hW2 (And.intro s2 b2))
        clear hW2 s2 b2
        go_wp2_with fail
        obtain ⟨g1, g2, g3, g4, g5, gbk, gu, gg, gw, gap, gO, gOs, glt⟩ := HX.out
        refine ⟨Or.inr ⟨by rw [← HRr.out, g1]; rfl, rfl, ?_⟩, by simp [intOf]⟩
        have s3 : Sm (fun b => b = bu ∨ b = s) w1 (W2.setCell ⟨s, 4, none⟩ (.int .i64 ((un : Int) - 1))) := by
          rw [← HW.out.1]
          exact ((Sm.refl _ w1).setS (Or.inl rfl) _ _).drew.setS (Or.inr rfl) _ _
        have hOb : O bu := gOs bu (Or.inl rfl)
        refine ⟨?_, (HS.out.any O).trans s3 (fun b _ e => by rcases e with rfl | rfl; exact hOb; exact gO)⟩
        obtain ⟨t1, t2, t3⟩ := rows_off g3
        rw [takeB_set g2 g3 g5]
        refine ⟨.slice (some ⟨bu, 0, none⟩) l.length cu, gv, vv, ?_, ?_, ?_, ?_, gap, gO, gOs, fun b hb => Nat.lt_of_lt_of_le (glt b hb) s3.size⟩
        · refine (HW.out.2.2.set 4 (.int .i64 ((un : Int) - 1))).eq ?_
          have := usedN_off g3 g4
          rw [HUN.out] at this
          rw [show ((un : Int) - 1) = ((usedN (l.set k ⟨x.g, false, x.v⟩) : Nat) : Int) by omega]
          rfl
        · rw [t1, List.length_set]
          have s1 := (gu.stored k (.bool false)).1
          have := own_row_sm s1 ((Sm.refl (fun b => b = s) _).drew.set1 4 (.int .i64 ((un : Int) - 1))) (fun b e1 e2 => by injection e1 with e1; exact hne (e1.trans e2))
          rw [HW.out.1] at this
          exact this
        · rw [t2, List.length_set]
          exact own_row_sm gg s3 (fun b e1 e2 => by
            rcases e2 with e2 | e2
            · exact row_not_row gg gu (by decide) e1 (by rw [e2]; rfl)
            · exact row_not_bk gg gbk (by decide) (by rw [← e2]; exact e1))
        · rw [t3, List.length_set]
          exact own_row_sm gw s3 (fun b e1 e2 => by
            rcases e2 with e2 | e2
            · exact row_not_row gw gu (by decide) e1 (by rw [e2]; rfl)
            · exact row_not_bk gw gbk (by decide) (by rw [← e2]; exact e1))
    · go_wp2_with fail
      go_ret
      exact ⟨rfl, hP⟩
end Go.Proofs.Ytgmgjkafdkgalaa
