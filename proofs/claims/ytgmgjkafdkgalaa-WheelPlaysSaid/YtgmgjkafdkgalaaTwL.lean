/- The law WheelPlays: its walk. -/
import Derived.Test.YtgmgjkafdkgalaaTwB
import Derived.Test.YtgmgjkafdkgalaaTwO
import Derived.Test.YtgmgjkafdkgalaaBits
import Derived.Deep.DeepCutAuto
import Derived.Deep.CutBlock
import Derived.Laws.StructEq
namespace Go.Proofs.Ytgmgjkafdkgalaa
open Go.RowKit Go.Proofs Go.Maps

/-- What both Wheels share behind k steps; the Handles that were given. -/
def GivR (w : World) (r x k : Nat) (st : St) (hl : List Hd) (gv : Value) (wr : World) : Prop :=
  OwnH wr w.heap.size gv hl ∧ Pl6 w wr (fun b => gv.ownBlock = some b) r st x st ∧ st.ord ≤ k ∧ 0 < hl.length ∧ hl.length ≤ k + 1 ∧ ∀ h ∈ hl, okH h
theorem giv_mk {w wr : World} {K2 : Nat → Prop} {r x k : Nat} {st : St} {hl : List Hd} {gv : Value} (hown : OwnH wr w.heap.size gv hl) (hP : Pl6 w wr K2 r st x st) (hK : ∀ b, gv.ownBlock = some b → K2 b) (ho : st.ord ≤ k) (h0 : 0 < hl.length) (h1 : hl.length ≤ k + 1) (ok : ∀ h ∈ hl, okH h) : GivR w r x k st hl gv wr :=
  ⟨hown, hP.less hK, ho, h0, h1, ok⟩
theorem can_k {w w4 : World} {g b1 b9 r x : Nat} {st st' : St} {o : Obj} (h : Pl6 w w4 (fun b => b = g ∨ b = b1 ∨ b = b1 + 1 ∨ b = b9) r st' x st) : ∀ b, (b = g ∨ b = b1 ∨ b = b1 + 1 ∨ b = w4.heap.size) → ((b = g ∨ b = b1 ∨ b = b1 + 1 ∨ b = b9) ∨ w4.heap.size ≤ b) ∧ b < (w4.alloc o).heap.size := fun b hb => by
  have h0 : ∀ b, (b = g ∨ b = b1 ∨ b = b1 + 1 ∨ b = b9) → b < w4.heap.size := fun b hb => h.lt hb
  have hz : w4.heap.size < (w4.alloc o).heap.size := by simp
  rcases hb with e | e | e | e
  · exact ⟨Or.inl (Or.inl e), Nat.lt_trans (h0 b (Or.inl e)) hz⟩
  · exact ⟨Or.inl (Or.inr (Or.inl e)), Nat.lt_trans (h0 b (Or.inr (Or.inl e))) hz⟩
  · exact ⟨Or.inl (Or.inr (Or.inr (Or.inl e))), Nat.lt_trans (h0 b (Or.inr (Or.inr (Or.inl e)))) hz⟩
  · exact ⟨Or.inr (Nat.le_of_eq e.symm), e ▸ hz⟩
def WhR6 (w : World) (n : Nat) (i : Value) (wr : World) : Prop := ∃ j : Nat, j ≤ n ∧ j ≤ 30 ∧ i = .int .i64 j ∧ Sm No w wr
def PlR (w : World) (r x n : Nat) (gv i : Value) (wr : World) : Prop := ∃ (k : Nat) (st : St) (hl : List Hd), k ≤ n ∧ k ≤ 120 ∧ i = .int .i64 k ∧ GivR w r x k st hl gv wr
def PlC (w : World) (r x k : Nat) (gv ok : Value) (wr : World) : Prop := ok = .bool true ∧ ∃ (st : St) (hl : List Hd), GivR w r x k st hl gv wr
set_option maxRecDepth 100000 in
set_option maxHeartbeats 16000000 in
theorem plays6_any (now : Int) (A : Option Addr) (l : List ActA) (c : Nat) (w : World) (_ : (Lit.int .i64 now).wf = true) (hA : ActR w A l) :
    Calls Try.prog 8 #[.int .i64 now, .slice A l.length c] w fun e w' => e = .returned (.bool true) ∧ Sm No w w' := by
  have HA := Lib.hid hA.2
  have hlen : l.length ≤ 9223372036854775807 := hA.1
  clear hA
  by_cases hnow : 0 ≤ now ∧ now ≤ 1099511627776
  · obtain ⟨hn0, hn1⟩ := hnow
    obtain ⟨now, rfl⟩ := Int.eq_ofNat_of_zero_le hn0
    go_enter Try.func8, Try.ntmps8
    go_wp2_with fail
    refine (new6 (w := w) (K := No) now (by omega) (Sm.refl _ _) (fun _ h => h.elim)).mono ?_
    rintro e w1 ⟨r, rfl, hO, _⟩
    have H1 := Lib.hid hO
    clear hO
    go_wp2_with fail
    refine (pl_new now (by omega) H1.out).mono ?_
    rintro e w2 ⟨x, rfl, hP⟩
    have H2 := Lib.hid hP
    clear hP
    go_wp2_with fail
    have hG0 : GivR w r x 0 (St.new now) [⟨0, 0⟩] (.slice (some ⟨w2.heap.size, 0, none⟩) 1 1) (w2.alloc (.cells #[.int .i64 0, .int .i64 0] 29)) := by
      refine ⟨World.ownsRow_lit w2 #[.int .i64 0, .int .i64 0] 1 H2.out.sm.size (by decide) rfl, ?_, Nat.le_refl _, by decide, by decide, fun h hh => ?_⟩
      · refine H2.out.re ((Sm.refl No w2).alloc _) (fun _ h => h) (fun _ h => h.elim) (fun b hb => ?_)
        injection hb with hb
        have hb : w2.heap.size = b := hb
        subst hb
        exact ⟨Or.inr (Nat.le_refl _), by simp⟩
      · rw [List.mem_singleton.1 hh]
        exact ⟨by decide, by decide⟩
    have HG0 := Lib.hid hG0
    clear hG0
    go_loopw [9, 10] (fun gv i wr => PlR w r x l.length gv i wr) (fun _ i _ => l.length - (intOf i).toNat)
    case atStart => exact ⟨0, _, _, by omega, by omega, rfl, HG0.out⟩
    case round =>
      obtain ⟨k, st, hl, hk, hk2, rfl, hown, hP, hord, hl0, hlk, hokh⟩ := hrel
      clear HG0 H2 H1
      rcases own_row_form hown with ⟨_, e0, _⟩ | ⟨g, cap, rfl, hgb, hgB, hgl, hgc, hcell, hfz⟩
      · omega
      have HP := Lib.hid (And.intro hown (And.intro hP (And.intro hord (And.intro hokh (And.intro hcell hgB)))))
      clear hown hP hokh hcell hgb hgc hgB hfz
      by_cases hlt : k < l.length ∧ k < 120
      · obtain ⟨hlt1, hlt2⟩ := hlt
        obtain ⟨⟨kd, n, kk, ⟨hs, hg⟩⟩, hx⟩ : ∃ a, l[k]? = some a := ⟨_, List.getElem?_eq_getElem hlt1⟩
        obtain ⟨⟨wkd, wn, wkk, hokH⟩, a, rfl, bb, off, rfl, hbb, c0, c1, c2, c3, c4⟩ := HA.out k _ hx
        dsimp only at wkd wn wkk hokH c0 c1 c2 c3 c4
        clear hx
        have HW := Lib.hid (And.intro wn hokH)
        have HC := Lib.hid (And.intro c0 (And.intro c1 (And.intro c2 (And.intro c3 c4))))
        have hbr : bb < wr.heap.size := Nat.lt_of_lt_of_le hbb HP.out.2.1.sm.size
        have e0 := HP.out.2.1.sm.cell hbb c0
        have e1 := HP.out.2.1.sm.cell hbb c1
        have e2 := HP.out.2.1.sm.cell hbb c2
        obtain ⟨y1, hy1, hyb1⟩ := and_bd kk 65535 (by omega)
        have hyc1 : bits .and .i64 kk 65535 = (y1 : Int) := hyb1
        obtain ⟨y2, hy2, hyb2⟩ := and_bd n 65535 (by omega)
        have hyc2 : bits .and .i64 n 65535 = (y2 : Int) := hyb2
        obtain ⟨q1, hq1⟩ : ∃ q, y1 % hl.length = q := ⟨_, rfl⟩
        obtain ⟨q2, hq2⟩ : ∃ q, y2 % hl.length = q := ⟨_, rfl⟩
        have hm1 : (y1 : Int) % (hl.length : Int) = (q1 : Int) := by omega
        have hm2 : (y2 : Int) % (hl.length : Int) = (q2 : Int) := by omega
        have hq1l : q1 < hl.length := by rw [← hq1]; exact Nat.mod_lt _ hl0
        have hq2l : q2 < hl.length := by rw [← hq2]; exact Nat.mod_lt _ hl0
        obtain ⟨h1, hh1⟩ : ∃ h, hl[q1]? = some h := ⟨_, List.getElem?_eq_getElem hq1l⟩
        obtain ⟨h2, hh2⟩ : ∃ h, hl[q2]? = some h := ⟨_, List.getElem?_eq_getElem hq2l⟩
        obtain ⟨t1, t2⟩ := hCells_at hh1
        obtain ⟨t3, t4⟩ := hCells_at hh2
        have d1 := HP.out.2.2.2.2.1 _ _ t1
        have d2 := HP.out.2.2.2.2.1 _ _ t2
        have d3 := HP.out.2.2.2.2.1 _ _ t3
        have d4 := HP.out.2.2.2.2.1 _ _ t4
        have HH := Lib.hid (And.intro (HP.out.2.2.2.1 h1 (List.mem_of_getElem? hh1)) (HP.out.2.2.2.1 h2 (List.mem_of_getElem? hh2)))
        have i1 : (0 : Int) ≤ (q1 : Int) := by omega
        have i2 : (q1 : Int) < (hl.length : Int) := by omega
        have i3 : (0 : Int) ≤ (q2 : Int) := by omega
        have i4 : (q2 : Int) < (hl.length : Int) := by omega
        clear hyb1 hyb2 hq1 hq2 hh1 hh2 t1 t2 t3 t4 c0 c1 c2 c3 c4 wkd wn wkk hokH
        have hd2 : decide ((k : Int) < 120) = true := by simp; omega
        go_upto_block 2 with fail
        obtain ⟨wa, hwa⟩ : ∃ wa, (wr.alloc (.cells #[.int .i64 h1.slot, .int .i64 h1.gen] 29)).alloc (.cells #[.int .i64 h2.slot, .int .i64 h2.gen] 29) = wa := ⟨_, rfl⟩
        have hsa : Sm No wr wa := by rw [← hwa]; exact ((Sm.refl _ _).alloc _).alloc _
        have hB1 : Bk wa wr.heap.size 29 #[.int .i64 h1.slot, .int .i64 h1.gen] := by rw [← hwa]; exact (Bk.new wr _ _).alloc _
        have hB2 : Bk wa (wr.heap.size + 1) 29 #[.int .i64 h2.slot, .int .i64 h2.gen] := by rw [← hwa]; exact Bk.newAt _ _ _ (by simp)
        have hPa : Pl6 w wa (fun b => b = g ∨ b = wr.heap.size ∨ b = wr.heap.size + 1) r st x st := HP.out.2.1.re hsa (fun _ h => h.elim) (fun _ h => h.elim) (fun b hb => by
          rcases hb with rfl | rfl | rfl
          · exact ⟨Or.inl rfl, Nat.lt_of_lt_of_le hgl hsa.size⟩
          · exact ⟨Or.inr (Nat.le_refl _), hB1.lt⟩
          · exact ⟨Or.inr (Nat.le_succ _), hB2.lt⟩)
        have hoa := own_row_sm HP.out.1 hsa (fun _ _ h => h)
        rw [hwa]
        obtain ⟨b1, hb1⟩ : ∃ b1, wr.heap.size = b1 := ⟨_, rfl⟩
        rw [hb1] at hB1 hB2 hPa ⊢
        have hbra : bb < wa.heap.size := Nat.lt_of_lt_of_le hbr hsa.size
        have e0 := hPa.sm.cell hbb HC.out.1
        have e1 := hPa.sm.cell hbb HC.out.2.1
        have e2 := hPa.sm.cell hbb HC.out.2.2.1
        have cx := hPa.cells.2.1
        have hxl := hPa.cells.1
        have HM := Lib.hid (And.intro hoa (And.intro hPa (And.intro hB1 (And.intro hB2 hsa))))
        have HE := Lib.hid (And.intro hwa hb1)
        have hnow2 : st.now ≤ 1099511627776 := hPa.ok.now
        clear hwa hsa hB1 hB2 hPa hoa hb1 d1 d2 d3 d4 hm1 hm2 hyc1 hyc2 i1 i2 i3 i4 hbr hgl
        go_cut [9, 13] (fun gv ok wx => PlC w r x (k + 1) gv ok wx)
        case first =>
          by_cases k1 : kd = 1
          · have K1 : (kd == 1) = true := by simp [k1]
            have K2 : (kd == 2) = false := by simp [k1]
            have K3 : (kd == 3) = false := by simp [k1]
            have K4 : (kd == 4) = false := by simp [k1]
            have K5 : (kd == 5) = false := by simp [k1]
            have K6 : (kd == 6) = false := by simp [k1]
            clear k1
            as_aux_lemma =>
              obtain ⟨at', hat⟩ : ∃ m, aft st.now n = m := ⟨_, rfl⟩
              have HAT := Lib.hid hat
              clear hat
              go_wp2_with fail
              refine (after_say HAT _ hnow2 HW.out.1).mono ?_
              rintro e w9 ⟨rfl, rfl⟩
              obtain ⟨hd, cd, st', hadd⟩ : ∃ hd cd st', addW st at' kk = (hd, cd, st') := ⟨_, _, _, rfl⟩
              have hokd := addW_okH HM.out.2.1.ok (by have := hord; omega) at' kk
              have hordd := addW_ord st at' kk
              rw [hadd] at hokd hordd
              dsimp only at hokd hordd
              have HA1 := Lib.hid hadd
              have HOK := Lib.hid hokd
              clear hadd hokd
              have hord2 : st.ord ≤ 4000 := by omega
              have hord3 : st'.ord ≤ 4000 := by omega
              go_wp2_with fail
              refine (addL_say HA1 HM.out.2.1 hord2).mono ?_
              rintro e w3 ⟨rfl, hP3, hs3⟩
              have hP3g : g < w3.heap.size := hP3.lt (Or.inl rfl)
              have hown3 := own_row_sm HM.out.1 hs3 (fun b e h => h (Or.inl (Option.some.inj e).symm))
              have j3 := hP3.sm.cell hbb HC.out.2.2.1
              have hb3 := Nat.lt_of_lt_of_le hbb hP3.sm.size
              obtain ⟨ba, hbae⟩ : ∃ ba, w3.heap.size = ba := ⟨_, rfl⟩
              obtain ⟨w4, hw4⟩ : ∃ w4, w3.alloc (.cells #[.int .i64 hd.slot, .int .i64 hd.gen] 29) = w4 := ⟨_, rfl⟩
              have hs34 : Sm No w3 w4 := by rw [← hw4]; exact (Sm.refl _ _).alloc _
              have hba : Bk w4 ba 29 #[.int .i64 hd.slot, .int .i64 hd.gen] := by rw [← hw4, ← hbae]; exact Bk.new w3 _ _
              have hP4 : Pl6 w w4 (fun b => b = g ∨ b = ba) r st' x st := hP3.re hs34 (fun _ h => h.elim) (fun _ h => h.elim) (fun b hb => by
                rcases hb with rfl | rfl
                · exact ⟨Or.inl (Or.inl rfl), Nat.lt_of_lt_of_le (hP3.lt (Or.inl rfl)) hs34.size⟩
                · exact ⟨Or.inr (Nat.le_of_eq hbae), hba.lt⟩)
              have hown4 := own_row_sm hown3 hs34 (fun _ _ h => h)
              have H4 := Lib.hid (And.intro hP4 (And.intro hba hown4))
              have HW4 := Lib.hid (And.intro hw4 hbae)
              clear hP3 hs3 hown3 hP4 hba hown4 hbae hw4 hs34 e0 e1 e2 cx
              go_wp2_with fail
              rw [HW4.out.1, HW4.out.2]
              clear j3 hb3
              refine (addR_say HA1 H4.out.1 hord2).mono ?_
              rintro e w5 ⟨rfl, hP5, hs5⟩
              have hown5 := own_row_sm H4.out.2.2 hs5 (fun b e h => h (Or.inl (Option.some.inj e).symm))
              have hba5 := H4.out.2.1.sm hs5 (fun h => h (Or.inr rfl))
              have hs56 : Sm No w5 (w5.alloc (.cells #[.int .i64 hd.slot, .int .i64 hd.gen] 29)) := (Sm.refl _ _).alloc _
              have hbc : Bk (w5.alloc (.cells #[.int .i64 hd.slot, .int .i64 hd.gen] 29)) w5.heap.size 29 #[.int .i64 hd.slot, .int .i64 hd.gen] := Bk.new w5 _ _
              have hP7 : Pl6 w ((w5.alloc (.cells #[.int .i64 hd.slot, .int .i64 hd.gen] 29)).alloc (.cells #[.int .i64 hd.slot, .int .i64 hd.gen] 29)) (fun b => b = g) r st' x st' := hP5.re (hs56.alloc _) (fun _ h => h.elim) (fun _ h => h.elim) (fun b hb => by
                subst hb
                exact ⟨Or.inl (Or.inl rfl), Nat.lt_of_lt_of_le (hP5.lt (Or.inl rfl)) (hs56.alloc _).size⟩)
              have hown7 : OwnH ((w5.alloc (.cells #[.int .i64 hd.slot, .int .i64 hd.gen] 29)).alloc (.cells #[.int .i64 hd.slot, .int .i64 hd.gen] 29)) w.heap.size (.slice (some ⟨g, 0, none⟩) hl.length cap) hl := own_row_sm hown5 (hs56.alloc _) (fun _ _ h => h)
              have hba7 := (hba5.no hs56).alloc (.cells #[.int .i64 hd.slot, .int .i64 hd.gen] 29)
              have hbc7 := hbc.alloc (.cells #[.int .i64 hd.slot, .int .i64 hd.gen] 29)
              have hbn7 : Bk ((w5.alloc (.cells #[.int .i64 hd.slot, .int .i64 hd.gen] 29)).alloc (.cells #[.int .i64 hd.slot, .int .i64 hd.gen] 29)) (w5.heap.size + 1) 29 #[.int .i64 hd.slot, .int .i64 hd.gen] := Bk.newAt _ _ _ (by simp)
              have hbg : w.heap.size ≤ w5.heap.size := hP5.sm.size
              have hgne : ∀ b, (Value.slice (some ⟨g, 0, none⟩) hl.length cap).ownBlock = some b → b = g := fun b e => (Option.some.inj e).symm
              have hag : ba ≠ g := fun e => by have := hP3g; have := HW4.out.2; omega
              have hcg : w5.heap.size ≠ g := fun e => by have := hP5.lt (b := g) (Or.inl rfl); omega
              have hll : hl.length ≤ 1000 := by omega
              have H7 := Lib.hid (And.intro hP7 (And.intro hown7 (And.intro hba7 (And.intro hbc7 (And.intro hbn7 (And.intro hag (And.intro hcg hbg)))))))
              clear hP5 hs5 hown5 hba5 hs56 hbc hP7 hown7 hba7 hbc7 hbn7 hgne hag hcg hbg
              go_wp2_with (refine wpList_push rfl _ _ 43 29 rfl Try.underlying43 _ 2 16 infoHd rfl (by decide) (by decide) w.heap.size hl.length _ (hCells hl) rfl H7.out.2.1 (w5.heap.size + 1) #[.int .i64 hd.slot, .int .i64 hd.gen] rfl H7.out.2.2.2.2.1 rfl (by simp [Value.oneCell']) (by omega) (by have := H7.out.2.2.2.2.2.2.2; simp; omega) ?_; intro v8 w8 hown8 hs8 hv8; refine RowKit.Hid.out ?_)
              refine Lib.hid ?_
              have hI8 : OwnH w8 w.heap.size v8 (hl ++ [hd]) := by
                unfold OwnH
                rw [List.length_append, hCells_append]
                exact hown8
              have hP8 := H7.out.1.re (K2 := fun b => v8.ownBlock = some b) hs8 (fun b e => (Option.some.inj e).symm) (fun b e => row_base H7.out.2.1 e) (fun b hb => ⟨by
                rcases hv8 with e | e
                · exact Or.inl (Option.some.inj (e.symm.trans hb)).symm
                · right
                  have hb' : v8.ownBlock = some b := hb
                  rw [e] at hb'
                  injection hb' with hb'
                  simp at hb' ⊢
                  omega, own_row_lt hI8 hb⟩)
              have hba8 := H7.out.2.2.1.sm hs8 (fun e => H7.out.2.2.2.2.2.1 (Option.some.inj e).symm)
              have hbc8 := H7.out.2.2.2.1.sm hs8 (fun e => H7.out.2.2.2.2.2.2.1 (Option.some.inj e).symm)
              have a0 := hba8.at 0 (v := .int .i64 hd.slot) rfl
              have a1 := hba8.at 1 (v := .int .i64 hd.gen) rfl
              have b0 := hbc8.at 0 (v := .int .i64 hd.slot) rfl
              have b1' := hbc8.at 1 (v := .int .i64 hd.gen) rfl
              have H8 := Lib.hid (And.intro hI8 hP8)
              clear hI8 hP8 hba8 hbc8 hown8 hs8 hv8
              go_wp2_with fail
              go_meet
              exact ⟨rfl, st', hl ++ [hd], giv_mk H8.out.1 H8.out.2 (fun _ e => e) (by omega) (by simp) (by simp; omega) (fun h hh => by
                rcases List.mem_append.1 hh with h1 | h1
                · exact HP.out.2.2.2.1 h h1
                · rw [List.mem_singleton.1 h1]; exact HOK.out)⟩
          · have K1 : (kd == 1) = false := by simp [k1]
            clear k1
            by_cases k2 : kd = 2
            · have K2 : (kd == 2) = true := by simp [k2]
              have K3 : (kd == 3) = false := by simp [k2]
              have K4 : (kd == 4) = false := by simp [k2]
              have K5 : (kd == 5) = false := by simp [k2]
              have K6 : (kd == 6) = false := by simp [k2]
              clear k2
              as_aux_lemma =>
                obtain ⟨at', hat⟩ : ∃ m, aft st.now n = m := ⟨_, rfl⟩
                have HAT := Lib.hid hat
                clear hat
                obtain ⟨n', st', hres⟩ : ∃ n' st', resetW st h1 at' = (n', st') := ⟨_, _, rfl⟩
                have hord' := resetW_ord st h1 at'
                have hnow' := resetW_now st h1 at'
                rw [hres] at hord' hnow'
                dsimp only at hord' hnow'
                have HRS := Lib.hid hres
                have HN := Lib.hid hnow'
                clear hres hnow'
                have f0 := HM.out.2.2.1.at 0 (v := .int .i64 h1.slot) rfl
                have f1 := HM.out.2.2.1.at 1 (v := .int .i64 h1.gen) rfl
                have hb1l := HM.out.2.2.1.lt
                have hord2 : st.ord ≤ 4000 := by omega
                go_wp2_with fail
                go_region_held3 (fun w' => w'.cell? ⟨b1, 0, none⟩ = some (.int .i64 h1.slot) ∧ w'.cell? ⟨b1, 1, none⟩ = some (.int .i64 h1.gen) ∧ w'.cell? ⟨bb, off + k * 5 + 1, none⟩ = some (.int .i64 n) ∧ w'.cell? ⟨x, 2, none⟩ = some (.int .i64 st.now)) (first | exact ⟨f0, f1, e1, cx⟩ | exact ⟨hB4.at 0 rfl, hB4.at 1 rfl, hP4.sm.cell hbb HC.out.2.1, hP4.cells.2.1⟩ | exact ⟨hB6.at 0 rfl, hB6.at 1 rfl, hP6.sm.cell hbb HC.out.2.1, hP6.nowAt HN.out⟩)
                  (first
                    | (go_at_call 21; (with_reducible refine (after_say HAT _ hnow2 HW.out.1).mono ?_); rintro e w9 ⟨rfl, rfl⟩)
                    | (go_at_call 18; (with_reducible refine (resetL_say (k := h1) HRS (HM.out.2.1.no (Sm.refl No wa).drew) HH.out.1 hord2).mono ?_); rintro e w4 ⟨rfl, hP4, hs4⟩; have hB4 := (HM.out.2.2.1.drew).sm hs4 (fun h => h (Or.inr (Or.inl rfl))))
                    | (go_at_call 23; (with_reducible refine (resetR_say (k := h1) HRS hP4 hord2).mono ?_); rintro e w6 ⟨rfl, hP6, hs6⟩; have hB6 := hB4.sm hs6 (fun h => h (Or.inr (Or.inl rfl)))))
                all_goals
                  have hown6 := own_row_sm (own_row_sm (World.ownsRow.drew HM.out.1) hs4 (fun b e h => h (Or.inl (Option.some.inj e).symm))) hs6 (fun b e h => h (Or.inl (Option.some.inj e).symm))
                  have H6 := Lib.hid (And.intro hown6 hP6)
                  clear hown6 hP6 hP4 hs4 hs6 hB4 hB6
                  go_wp2_with fail
                  go_meet
                  exact ⟨rfl, st', hl, giv_mk H6.out.1 H6.out.2 (fun b e => Or.inl (Option.some.inj e).symm) (by omega) hl0 (by omega) HP.out.2.2.2.1⟩
            · have K2 : (kd == 2) = false := by simp [k2]
              clear k2
              by_cases k3 : kd = 3
              · have K3 : (kd == 3) = true := by simp [k3]
                have K4 : (kd == 4) = false := by simp [k3]
                have K5 : (kd == 5) = false := by simp [k3]
                have K6 : (kd == 6) = false := by simp [k3]
                clear k3
                as_aux_lemma =>
                  obtain ⟨n', st', hres⟩ : ∃ n' st', cancelW st [h1, h2] = (n', st') := ⟨_, _, rfl⟩
                  have hkp := cancelW_kept [h1, h2] st
                  rw [hres] at hkp
                  dsimp only at hkp
                  have HRS := Lib.hid hres
                  have HN := Lib.hid hkp.2
                  have hord' := hkp.1
                  have hord3 : st'.ord ≤ k + 1 := by omega
                  clear hres hkp hord'
                  have f0 := HM.out.2.2.1.at 0 (v := .int .i64 h1.slot) rfl
                  have f1 := HM.out.2.2.1.at 1 (v := .int .i64 h1.gen) rfl
                  have f2 := HM.out.2.2.2.1.at 0 (v := .int .i64 h2.slot) rfl
                  have f3 := HM.out.2.2.2.1.at 1 (v := .int .i64 h2.gen) rfl
                  have hb1l := HM.out.2.2.1.lt
                  have hb2l := HM.out.2.2.2.1.lt
                  have hord2 : st.ord ≤ 4000 := by omega
                  have sA : Sm No wa (wa.alloc (.cells #[.int .i64 h1.slot, .int .i64 h1.gen, .int .i64 h2.slot, .int .i64 h2.gen] 29)).drew := ((Sm.refl No wa).alloc _).drew
                  have sB : Sm No wa ((wa.alloc (.cells #[.int .i64 h1.slot, .int .i64 h1.gen, .int .i64 h2.slot, .int .i64 h2.gen] 29)).alloc (.cells #[.int .i64 h1.slot, .int .i64 h1.gen, .int .i64 h2.slot, .int .i64 h2.gen] 29)).drew := (((Sm.refl No wa).alloc _).alloc _).drew
                  have kA1 : Bk (wa.alloc (.cells #[.int .i64 h1.slot, .int .i64 h1.gen, .int .i64 h2.slot, .int .i64 h2.gen] 29)).drew wa.heap.size 29 #[.int .i64 h1.slot, .int .i64 h1.gen, .int .i64 h2.slot, .int .i64 h2.gen] := (Bk.new wa _ _).drew
                  have kB1 : Bk ((wa.alloc (.cells #[.int .i64 h1.slot, .int .i64 h1.gen, .int .i64 h2.slot, .int .i64 h2.gen] 29)).alloc (.cells #[.int .i64 h1.slot, .int .i64 h1.gen, .int .i64 h2.slot, .int .i64 h2.gen] 29)).drew wa.heap.size 29 #[.int .i64 h1.slot, .int .i64 h1.gen, .int .i64 h2.slot, .int .i64 h2.gen] := ((Bk.new wa _ _).alloc _).drew
                  have kB2 : Bk ((wa.alloc (.cells #[.int .i64 h1.slot, .int .i64 h1.gen, .int .i64 h2.slot, .int .i64 h2.gen] 29)).alloc (.cells #[.int .i64 h1.slot, .int .i64 h1.gen, .int .i64 h2.slot, .int .i64 h2.gen] 29)).drew (wa.heap.size + 1) 29 #[.int .i64 h1.slot, .int .i64 h1.gen, .int .i64 h2.slot, .int .i64 h2.gen] := (Bk.newAt _ _ _ (by simp)).drew
                  have pA : Pl6 w (wa.alloc (.cells #[.int .i64 h1.slot, .int .i64 h1.gen, .int .i64 h2.slot, .int .i64 h2.gen] 29)).drew (fun b => b = g ∨ b = b1 ∨ b = b1 + 1 ∨ b = wa.heap.size) r st x st := HM.out.2.1.re sA (fun _ h => h.elim) (fun _ h => h.elim) (fun b hb => by
                    rcases hb with e | e | e | e
                    · exact ⟨Or.inl (Or.inl e), Nat.lt_of_lt_of_le (HM.out.2.1.lt (Or.inl e)) sA.size⟩
                    · exact ⟨Or.inl (Or.inr (Or.inl e)), Nat.lt_of_lt_of_le (HM.out.2.1.lt (Or.inr (Or.inl e))) sA.size⟩
                    · exact ⟨Or.inl (Or.inr (Or.inr e)), Nat.lt_of_lt_of_le (HM.out.2.1.lt (Or.inr (Or.inr e))) sA.size⟩
                    · exact ⟨Or.inr (Nat.le_of_eq e.symm), e ▸ kA1.lt⟩)
                  have pB : Pl6 w ((wa.alloc (.cells #[.int .i64 h1.slot, .int .i64 h1.gen, .int .i64 h2.slot, .int .i64 h2.gen] 29)).alloc (.cells #[.int .i64 h1.slot, .int .i64 h1.gen, .int .i64 h2.slot, .int .i64 h2.gen] 29)).drew (fun b => b = g ∨ b = b1 ∨ b = b1 + 1 ∨ b = wa.heap.size ∨ b = wa.heap.size + 1) r st x st := HM.out.2.1.re sB (fun _ h => h.elim) (fun _ h => h.elim) (fun b hb => by
                    rcases hb with e | e | e | e | e
                    · exact ⟨Or.inl (Or.inl e), Nat.lt_of_lt_of_le (HM.out.2.1.lt (Or.inl e)) sB.size⟩
                    · exact ⟨Or.inl (Or.inr (Or.inl e)), Nat.lt_of_lt_of_le (HM.out.2.1.lt (Or.inr (Or.inl e))) sB.size⟩
                    · exact ⟨Or.inl (Or.inr (Or.inr e)), Nat.lt_of_lt_of_le (HM.out.2.1.lt (Or.inr (Or.inr e))) sB.size⟩
                    · exact ⟨Or.inr (Nat.le_of_eq e.symm), e ▸ kB1.lt⟩
                    · exact ⟨Or.inr (by omega), e ▸ kB2.lt⟩)
                  have HX := Lib.hid (And.intro pA (And.intro pB (And.intro kA1 (And.intro kB1 (And.intro kB2 (And.intro (own_row_sm HM.out.1 sA (fun _ _ h => h)) (And.intro (own_row_sm HM.out.1 sB (fun _ _ h => h)) (And.intro (HM.out.2.2.1.no sA) (And.intro (HM.out.2.2.2.1.no sA) (And.intro (HM.out.2.2.1.no sB) (HM.out.2.2.2.1.no sB)))))))))))
                  clear sA sB pA pB kA1 kB1 kB2
                  go_wp2_with fail
                  go_region_held3 (fun w' => w'.cell? ⟨b1, 0, none⟩ = some (.int .i64 h1.slot) ∧ w'.cell? ⟨b1, 1, none⟩ = some (.int .i64 h1.gen) ∧ w'.cell? ⟨b1 + 1, 0, none⟩ = some (.int .i64 h2.slot) ∧ w'.cell? ⟨b1 + 1, 1, none⟩ = some (.int .i64 h2.gen)) (first | exact ⟨f0, f1, f2, f3⟩ | exact ⟨hC4.at 0 rfl, hC4.at 1 rfl, hD4.at 0 rfl, hD4.at 1 rfl⟩ | exact ⟨hC6.at 0 rfl, hC6.at 1 rfl, hD6.at 0 rfl, hD6.at 1 rfl⟩ | exact ⟨(hC4.alloc _).at 0 rfl, (hC4.alloc _).at 1 rfl, (hD4.alloc _).at 0 rfl, (hD4.alloc _).at 1 rfl⟩ | go_keep)
                    (first
                      | (go_at_call 19; (with_reducible refine (cancelL_say HRS HX.out.1 HX.out.2.2.1 (Or.inr (Or.inr (Or.inr rfl))) HH.out hord2).mono ?_); rintro e w4 ⟨rfl, hP4, hs4⟩; have hC4 := HX.out.2.2.2.2.2.2.2.1.sm hs4 (fun h => h (Or.inr (Or.inl rfl))); have hD4 := HX.out.2.2.2.2.2.2.2.2.1.sm hs4 (fun h => h (Or.inr (Or.inr (Or.inl rfl)))); have hown4 := own_row_sm HX.out.2.2.2.2.2.1 hs4 (fun b e h => h (Or.inl (Option.some.inj e).symm)); have hP5 := hP4.re (K2 := fun b => b = g ∨ b = b1 ∨ b = b1 + 1 ∨ b = w4.heap.size) ((Sm.refl No w4).alloc (.cells #[.int .i64 h1.slot, .int .i64 h1.gen, .int .i64 h2.slot, .int .i64 h2.gen] 29)) (fun _ h => h.elim) (fun _ h => h.elim) (can_k hP4); have HY := Lib.hid (And.intro hP5 (Bk.new w4 29 #[.int .i64 h1.slot, .int .i64 h1.gen, .int .i64 h2.slot, .int .i64 h2.gen])))
                      | (go_at_call 19; (with_reducible refine (cancelL_say HRS HX.out.2.1 HX.out.2.2.2.1 (Or.inr (Or.inr (Or.inr (Or.inl rfl)))) HH.out hord2).mono ?_); rintro e w4 ⟨rfl, hP4, hs4⟩; have hC4 := HX.out.2.2.2.2.2.2.2.2.2.1.sm hs4 (fun h => h (Or.inr (Or.inl rfl))); have hD4 := HX.out.2.2.2.2.2.2.2.2.2.2.sm hs4 (fun h => h (Or.inr (Or.inr (Or.inl rfl)))); have hown4 := own_row_sm HX.out.2.2.2.2.2.2.1 hs4 (fun b e h => h (Or.inl (Option.some.inj e).symm)); have HY := Lib.hid (And.intro hP4 (HX.out.2.2.2.2.1.sm hs4 (fun h => h (Or.inr (Or.inr (Or.inr (Or.inr rfl))))))))
                      | (go_at_call 19; (with_reducible refine (cancelL_say HRS HX.out.2.1 HX.out.2.2.2.2.1 (Or.inr (Or.inr (Or.inr (Or.inr rfl)))) HH.out hord2).mono ?_); rintro e w4 ⟨rfl, hP4, hs4⟩; have hC4 := HX.out.2.2.2.2.2.2.2.2.2.1.sm hs4 (fun h => h (Or.inr (Or.inl rfl))); have hD4 := HX.out.2.2.2.2.2.2.2.2.2.2.sm hs4 (fun h => h (Or.inr (Or.inr (Or.inl rfl)))); have hown4 := own_row_sm HX.out.2.2.2.2.2.2.1 hs4 (fun b e h => h (Or.inl (Option.some.inj e).symm)); have HY := Lib.hid (And.intro hP4 (HX.out.2.2.2.1.sm hs4 (fun h => h (Or.inr (Or.inr (Or.inr (Or.inl rfl))))))))
                      | (go_at_call 24; (with_reducible refine (cancelR_say HRS HY.out.1 HY.out.2 (Or.inr (Or.inr (Or.inr rfl))) HH.out hord2).mono ?_); rintro e w6 ⟨rfl, hP6, hs6⟩; have hC6 := (hC4.alloc (.cells #[.int .i64 h1.slot, .int .i64 h1.gen, .int .i64 h2.slot, .int .i64 h2.gen] 29)).sm hs6 (fun h => h (Or.inr (Or.inl rfl))); have hD6 := (hD4.alloc (.cells #[.int .i64 h1.slot, .int .i64 h1.gen, .int .i64 h2.slot, .int .i64 h2.gen] 29)).sm hs6 (fun h => h (Or.inr (Or.inr (Or.inl rfl)))); have hown6 := own_row_sm (World.ownsRow.alloc hown4 (.cells #[.int .i64 h1.slot, .int .i64 h1.gen, .int .i64 h2.slot, .int .i64 h2.gen] 29)) hs6 (fun b e h => h (Or.inl (Option.some.inj e).symm)))
                      | (go_at_call 24; (with_reducible refine (cancelR_say HRS HY.out.1 HY.out.2 (Or.inr (Or.inr (Or.inr (Or.inl rfl)))) HH.out hord2).mono ?_); rintro e w6 ⟨rfl, hP6, hs6⟩; have hC6 := hC4.sm hs6 (fun h => h (Or.inr (Or.inl rfl))); have hD6 := hD4.sm hs6 (fun h => h (Or.inr (Or.inr (Or.inl rfl)))); have hown6 := own_row_sm hown4 hs6 (fun b e h => h (Or.inl (Option.some.inj e).symm)))
                      | (go_at_call 24; (with_reducible refine (cancelR_say HRS HY.out.1 HY.out.2 (Or.inr (Or.inr (Or.inr (Or.inr rfl)))) HH.out hord2).mono ?_); rintro e w6 ⟨rfl, hP6, hs6⟩; have hC6 := hC4.sm hs6 (fun h => h (Or.inr (Or.inl rfl))); have hD6 := hD4.sm hs6 (fun h => h (Or.inr (Or.inr (Or.inl rfl)))); have hown6 := own_row_sm hown4 hs6 (fun b e h => h (Or.inl (Option.some.inj e).symm))))
                  all_goals
                    have H6 := Lib.hid (And.intro hown6 hP6)
                    clear hown6 hP6 hP4 hs4 hs6 hC4 hD4 hC6 hD6 hown4 HX HY
                    go_wp2_with fail
                    go_meet
                    exact ⟨rfl, st', hl, giv_mk H6.out.1 H6.out.2 (fun b e => Or.inl (Option.some.inj e).symm) (by omega) hl0 (by omega) HP.out.2.2.2.1⟩
              · have K3 : (kd == 3) = false := by simp [k3]
                clear k3
                by_cases k4 : kd = 4
                · have K4 : (kd == 4) = true := by simp [k4]
                  have K5 : (kd == 5) = false := by simp [k4]
                  have K6 : (kd == 6) = false := by simp [k4]
                  clear k4
                  as_aux_lemma =>
                    obtain ⟨at', hat⟩ : ∃ m, aft st.now n = m := ⟨_, rfl⟩
                    have HAT := Lib.hid hat
                    clear hat
                    obtain ⟨L, st', hadv⟩ : ∃ L st', advW st at' = (L, st') := ⟨_, _, rfl⟩
                    have hLl := advW_len st at'
                    have hord' : (advW st at').2.ord = st.ord := rfl
                    rw [hadv] at hLl hord'
                    dsimp only at hLl hord'
                    have hsl := HM.out.2.1.ok.len
                    have HADV := Lib.hid hadv
                    have hLl2 : L.length ≤ 1000000 := by omega
                    have hord3 : st'.ord ≤ k + 1 := by omega
                    have hord2 : st.ord ≤ 4000 := by omega
                    clear hadv hLl hord' hsl
                    go_wp2_with fail
                    go_quiet ((go_at_call 21; exact Calls.quiet_of_same (after_say HAT _ hnow2 HW.out.1)))
                    go_wp2_with fail
                    refine (advL_say HADV (HM.out.2.1.no ((Sm.refl No wa).drewN _)) hord2).mono ?_
                    rintro e w4 ⟨v4, rfl, hI4, hP4, hs4⟩
                    have hown4 := own_row_sm (own_row_sm HM.out.1 ((Sm.refl No wa).drewN _) (fun _ _ h => h)) hs4 (fun b e h => h (Or.inl (Option.some.inj e).symm))
                    obtain ⟨A4, c4, rfl, _⟩ := hI4.row
                    have H4 := Lib.hid (And.intro hI4 (And.intro hP4 hown4))
                    clear hI4 hP4 hs4 hown4
                    go_wp2_with fail
                    refine (advR_say HADV H4.out.2.1 hord2).mono ?_
                    rintro e w5 ⟨v5, rfl, hI5, hP5, hs5⟩
                    have hown5 := own_row_sm H4.out.2.2 hs5 (fun b e h => h (Or.inl (Or.inl (Option.some.inj e).symm)))
                    have hr4 := own_row_sm H4.out.1 hs5 (fun b e h => h (Or.inr e))
                    obtain ⟨A4', c4', ee, hR4⟩ := OwnI.row hr4
                    injection ee with ee1 _ ee2
                    subst ee1 ee2
                    obtain ⟨A5, c5, rfl, hR5⟩ := hI5.row
                    have H5 := Lib.hid (And.intro hP5 (And.intro hown5 (And.intro hR4 hR5)))
                    clear hI5 hP5 hs5 hown5 hr4 hR4 hR5
                    go_wp2_with fail
                    refine (ints6_any _ _ _ _ _ L H5.out.2.2.1 H5.out.2.2.2 hLl2).mono ?_
                    rintro e w6 ⟨rfl, hs6⟩
                    have H6 := Lib.hid (And.intro (own_row_sm H5.out.2.1 hs6 (fun _ _ h => h)) ((H5.out.1.no hs6).less (K2 := fun b => b = g) (fun b h => Or.inl (Or.inl h))))
                    clear hs6
                    go_wp2_with fail
                    go_meet
                    exact ⟨rfl, st', hl, giv_mk H6.out.1 H6.out.2 (fun b e => (Option.some.inj e).symm) hord3 hl0 (by omega) HP.out.2.2.2.1⟩
                · have K4 : (kd == 4) = false := by simp [k4]
                  clear k4
                  by_cases k5 : kd = 5
                  · have K5 : (kd == 5) = true := by simp [k5]
                    have K6 : (kd == 6) = false := by simp [k5]
                    clear k5
                    as_aux_lemma =>
                      obtain ⟨hd, cd, st', hadd⟩ : ∃ hd cd st', addW st n kk = (hd, cd, st') := ⟨_, _, _, rfl⟩
                      have hokd := addW_okH HM.out.2.1.ok (by have := hord; omega) n kk
                      have hordd := addW_ord st n kk
                      rw [hadd] at hokd hordd
                      dsimp only at hokd hordd
                      have HA1 := Lib.hid hadd
                      have HOK := Lib.hid hokd
                      clear hadd hokd
                      have hord2 : st.ord ≤ 4000 := by omega
                      have hord3 : st'.ord ≤ 4000 := by omega
                      go_wp2_with fail
                      refine (addL_say HA1 HM.out.2.1 hord2).mono ?_
                      rintro e w3 ⟨rfl, hP3, hs3⟩
                      have hP3g : g < w3.heap.size := hP3.lt (Or.inl rfl)
                      have hown3 := own_row_sm HM.out.1 hs3 (fun b e h => h (Or.inl (Option.some.inj e).symm))
                      have j3 := hP3.sm.cell hbb HC.out.2.2.1
                      have hb3 := Nat.lt_of_lt_of_le hbb hP3.sm.size
                      obtain ⟨ba, hbae⟩ : ∃ ba, w3.heap.size = ba := ⟨_, rfl⟩
                      obtain ⟨w4, hw4⟩ : ∃ w4, w3.alloc (.cells #[.int .i64 hd.slot, .int .i64 hd.gen] 29) = w4 := ⟨_, rfl⟩
                      have hs34 : Sm No w3 w4 := by rw [← hw4]; exact (Sm.refl _ _).alloc _
                      have hba : Bk w4 ba 29 #[.int .i64 hd.slot, .int .i64 hd.gen] := by rw [← hw4, ← hbae]; exact Bk.new w3 _ _
                      have hP4 : Pl6 w w4 (fun b => b = g ∨ b = ba) r st' x st := hP3.re hs34 (fun _ h => h.elim) (fun _ h => h.elim) (fun b hb => by
                        rcases hb with rfl | rfl
                        · exact ⟨Or.inl (Or.inl rfl), Nat.lt_of_lt_of_le (hP3.lt (Or.inl rfl)) hs34.size⟩
                        · exact ⟨Or.inr (Nat.le_of_eq hbae), hba.lt⟩)
                      have hown4 := own_row_sm hown3 hs34 (fun _ _ h => h)
                      have H4 := Lib.hid (And.intro hP4 (And.intro hba hown4))
                      have HW4 := Lib.hid (And.intro hw4 hbae)
                      clear hP3 hs3 hown3 hP4 hba hown4 hbae hw4 hs34 e0 e1 e2 cx
                      go_wp2_with fail
                      rw [HW4.out.1, HW4.out.2]
                      clear j3 hb3
                      refine (addR_say HA1 H4.out.1 hord2).mono ?_
                      rintro e w5 ⟨rfl, hP5, hs5⟩
                      have hown5 := own_row_sm H4.out.2.2 hs5 (fun b e h => h (Or.inl (Option.some.inj e).symm))
                      have hba5 := H4.out.2.1.sm hs5 (fun h => h (Or.inr rfl))
                      have hs56 : Sm No w5 (w5.alloc (.cells #[.int .i64 hd.slot, .int .i64 hd.gen] 29)) := (Sm.refl _ _).alloc _
                      have hbc : Bk (w5.alloc (.cells #[.int .i64 hd.slot, .int .i64 hd.gen] 29)) w5.heap.size 29 #[.int .i64 hd.slot, .int .i64 hd.gen] := Bk.new w5 _ _
                      have hP7 : Pl6 w ((w5.alloc (.cells #[.int .i64 hd.slot, .int .i64 hd.gen] 29)).alloc (.cells #[.int .i64 hd.slot, .int .i64 hd.gen] 29)) (fun b => b = g) r st' x st' := hP5.re (hs56.alloc _) (fun _ h => h.elim) (fun _ h => h.elim) (fun b hb => by
                        subst hb
                        exact ⟨Or.inl (Or.inl rfl), Nat.lt_of_lt_of_le (hP5.lt (Or.inl rfl)) (hs56.alloc _).size⟩)
                      have hown7 : OwnH ((w5.alloc (.cells #[.int .i64 hd.slot, .int .i64 hd.gen] 29)).alloc (.cells #[.int .i64 hd.slot, .int .i64 hd.gen] 29)) w.heap.size (.slice (some ⟨g, 0, none⟩) hl.length cap) hl := own_row_sm hown5 (hs56.alloc _) (fun _ _ h => h)
                      have hba7 := (hba5.no hs56).alloc (.cells #[.int .i64 hd.slot, .int .i64 hd.gen] 29)
                      have hbc7 := hbc.alloc (.cells #[.int .i64 hd.slot, .int .i64 hd.gen] 29)
                      have hbn7 : Bk ((w5.alloc (.cells #[.int .i64 hd.slot, .int .i64 hd.gen] 29)).alloc (.cells #[.int .i64 hd.slot, .int .i64 hd.gen] 29)) (w5.heap.size + 1) 29 #[.int .i64 hd.slot, .int .i64 hd.gen] := Bk.newAt _ _ _ (by simp)
                      have hbg : w.heap.size ≤ w5.heap.size := hP5.sm.size
                      have hgne : ∀ b, (Value.slice (some ⟨g, 0, none⟩) hl.length cap).ownBlock = some b → b = g := fun b e => (Option.some.inj e).symm
                      have hag : ba ≠ g := fun e => by have := hP3g; have := HW4.out.2; omega
                      have hcg : w5.heap.size ≠ g := fun e => by have := hP5.lt (b := g) (Or.inl rfl); omega
                      have hll : hl.length ≤ 1000 := by omega
                      have H7 := Lib.hid (And.intro hP7 (And.intro hown7 (And.intro hba7 (And.intro hbc7 (And.intro hbn7 (And.intro hag (And.intro hcg hbg)))))))
                      clear hP5 hs5 hown5 hba5 hs56 hbc hP7 hown7 hba7 hbc7 hbn7 hgne hag hcg hbg
                      go_wp2_with (refine wpList_push rfl _ _ 43 29 rfl Try.underlying43 _ 2 16 infoHd rfl (by decide) (by decide) w.heap.size hl.length _ (hCells hl) rfl H7.out.2.1 (w5.heap.size + 1) #[.int .i64 hd.slot, .int .i64 hd.gen] rfl H7.out.2.2.2.2.1 rfl (by simp [Value.oneCell']) (by omega) (by have := H7.out.2.2.2.2.2.2.2; simp; omega) ?_; intro v8 w8 hown8 hs8 hv8; refine RowKit.Hid.out ?_)
                      refine Lib.hid ?_
                      have hI8 : OwnH w8 w.heap.size v8 (hl ++ [hd]) := by
                        unfold OwnH
                        rw [List.length_append, hCells_append]
                        exact hown8
                      have hP8 := H7.out.1.re (K2 := fun b => v8.ownBlock = some b) hs8 (fun b e => (Option.some.inj e).symm) (fun b e => row_base H7.out.2.1 e) (fun b hb => ⟨by
                        rcases hv8 with e | e
                        · exact Or.inl (Option.some.inj (e.symm.trans hb)).symm
                        · right
                          have hb' : v8.ownBlock = some b := hb
                          rw [e] at hb'
                          injection hb' with hb'
                          simp at hb' ⊢
                          omega, own_row_lt hI8 hb⟩)
                      have hba8 := H7.out.2.2.1.sm hs8 (fun e => H7.out.2.2.2.2.2.1 (Option.some.inj e).symm)
                      have hbc8 := H7.out.2.2.2.1.sm hs8 (fun e => H7.out.2.2.2.2.2.2.1 (Option.some.inj e).symm)
                      have a0 := hba8.at 0 (v := .int .i64 hd.slot) rfl
                      have a1 := hba8.at 1 (v := .int .i64 hd.gen) rfl
                      have b0 := hbc8.at 0 (v := .int .i64 hd.slot) rfl
                      have b1' := hbc8.at 1 (v := .int .i64 hd.gen) rfl
                      have H8 := Lib.hid (And.intro hI8 hP8)
                      clear hI8 hP8 hba8 hbc8 hown8 hs8 hv8
                      go_wp2_with fail
                      go_meet
                      exact ⟨rfl, st', hl ++ [hd], giv_mk H8.out.1 H8.out.2 (fun _ e => e) (by omega) (by simp) (by simp; omega) (fun h hh => by
                        rcases List.mem_append.1 hh with h1 | h1
                        · exact HP.out.2.2.2.1 h h1
                        · rw [List.mem_singleton.1 h1]; exact HOK.out)⟩
                  · have K5 : (kd == 5) = false := by simp [k5]
                    clear k5
                    by_cases k6 : kd = 6
                    · have K6 : (kd == 6) = true := by simp [k6]
                      clear k6
                      as_aux_lemma =>
                        obtain ⟨n', st', hres⟩ : ∃ n' st', resetW st ⟨hs, hg⟩ st.now = (n', st') := ⟨_, _, rfl⟩
                        have hord' := resetW_ord st ⟨hs, hg⟩ st.now
                        have hnow' := resetW_now st ⟨hs, hg⟩ st.now
                        rw [hres] at hord' hnow'
                        dsimp only at hord' hnow'
                        have HRS := Lib.hid hres
                        have HN := Lib.hid hnow'
                        clear hres hnow'
                        have e3 := HM.out.2.1.sm.cell hbb HC.out.2.2.2.1
                        have e4 := HM.out.2.1.sm.cell hbb HC.out.2.2.2.2
                        have hord2 : st.ord ≤ 4000 := by omega
                        go_wp2_with fail
                        go_region_held3 (fun w' => w'.cell? ⟨bb, off + k * 5 + 3, none⟩ = some (.int .i64 hs) ∧ w'.cell? ⟨bb, off + k * 5 + 3 + 1, none⟩ = some (.int .i64 hg) ∧ w'.cell? ⟨x, 2, none⟩ = some (.int .i64 st.now)) (first | exact ⟨e3, e4, cx⟩ | exact ⟨hP4.sm.cell hbb HC.out.2.2.2.1, hP4.sm.cell hbb HC.out.2.2.2.2, hP4.cells.2.1⟩ | exact ⟨hP6.sm.cell hbb HC.out.2.2.2.1, hP6.sm.cell hbb HC.out.2.2.2.2, hP6.nowAt HN.out⟩)
                          (first
                            | (go_at_call 18; (with_reducible refine (resetL_say (k := ⟨hs, hg⟩) HRS (HM.out.2.1.no (Sm.refl No wa).drew) HW.out.2 hord2).mono ?_); rintro e w4 ⟨rfl, hP4, hs4⟩; have hB4 := (HM.out.2.2.1.drew).sm hs4 (fun h => h (Or.inr (Or.inl rfl))))
                            | (go_at_call 23; (with_reducible refine (resetR_say (k := ⟨hs, hg⟩) HRS hP4 hord2).mono ?_); rintro e w6 ⟨rfl, hP6, hs6⟩; have hB6 := hB4.sm hs6 (fun h => h (Or.inr (Or.inl rfl)))))
                        all_goals
                          have hown6 := own_row_sm (own_row_sm (World.ownsRow.drew HM.out.1) hs4 (fun b e h => h (Or.inl (Option.some.inj e).symm))) hs6 (fun b e h => h (Or.inl (Option.some.inj e).symm))
                          have H6 := Lib.hid (And.intro hown6 hP6)
                          clear hown6 hP6 hP4 hs4 hs6 hB4 hB6
                          go_wp2_with fail
                          go_meet
                          exact ⟨rfl, st', hl, giv_mk H6.out.1 H6.out.2 (fun b e => Or.inl (Option.some.inj e).symm) (by omega) hl0 (by omega) HP.out.2.2.2.1⟩
                    · have K6 : (kd == 6) = false := by simp [k6]
                      clear k6
                      as_aux_lemma =>
                        go_wp2_with fail
                        go_meet
                        exact ⟨rfl, st, hl, giv_mk HM.out.1 HM.out.2.1 (fun b e => Or.inl (Option.some.inj e).symm) (by omega) hl0 (by omega) HP.out.2.2.2.1⟩
        case rest =>
          as_aux_lemma =>
            obtain ⟨rfl, st2, hl2, hown, hP, hord2, hl02, hlk2, hokh2⟩ := hcut
            clear e0 e1 e2 cx hxl hq1l hq2l
            rcases own_row_form hown with ⟨_, e0, _⟩ | ⟨g2, cap2, rfl, _, _, hgl2, _, _, _⟩
            · omega
            obtain ⟨nn, nb, hnx⟩ : ∃ nn nb, nextW st2 = (nn, nb) := ⟨_, _, rfl⟩
            have HNX := Lib.hid hnx
            have H2 := Lib.hid (And.intro hown (And.intro hP hokh2))
            have hord4 : st2.ord ≤ 4000 := by omega
            clear hnx hown hP hokh2
            go_wp2_with fail
            refine (nextL_say HNX H2.out.2.1).mono ?_
            rintro e w3 ⟨rfl, hs3⟩
            have H3 := Lib.hid (And.intro (own_row_sm H2.out.1 hs3 (fun _ _ h => h)) (H2.out.2.1.no hs3))
            clear hs3
            go_wp2_with fail
            refine (nextR_say HNX H3.out.2 hord4).mono ?_
            rintro e w4 ⟨rfl, hs4⟩
            have H4 := Lib.hid (And.intro (own_row_sm H3.out.1 hs4 (fun _ _ h => h)) (H3.out.2.no hs4))
            clear hs4
            obtain ⟨AL, cL, hx1⟩ := H4.out.2.cells.2.2
            have hx2 := H4.out.2.cells.2.1
            have hxl := H4.out.2.cells.1
            go_wp2_with fail
            go_quiet ((first
              | (go_at_call 15; exact Calls.quiet_of_same (pl_len (H4.out.2.no ((Sm.refl No w4).drewN _))))
              | (go_at_call 27; exact Calls.quiet_of_same (pl_now (H4.out.2.no ((Sm.refl No w4).drewN _))))))
            rename_i nq
            go_wp2_with fail
            have H5 := Lib.hid (And.intro (own_row_sm H4.out.1 ((Sm.refl No w4).drewN nq) (fun _ _ h => h)) (H4.out.2.no ((Sm.refl No w4).drewN nq)))
            obtain ⟨w5, hw5⟩ : ∃ w5, w4.drewN nq = w5 := ⟨_, rfl⟩
            rw [hw5] at H5
            have HW5 := Lib.hid hw5
            clear hx1 hx2 hxl hw5
            rw [HW5.out]
            go_loopw [24] (fun i wr' => WhR6 w5 hl2.length i wr') (fun i _ => hl2.length - (intOf i).toNat)
            case atStart => exact ⟨0, by omega, by omega, rfl, Sm.refl _ _⟩
            case round =>
              obtain ⟨j, hj, hj3, rfl, hs6⟩ := hrel
              have H6 := Lib.hid (And.intro (own_row_sm H5.out.1 hs6 (fun _ _ h => h)) (H5.out.2.no hs6))
              have HS6 := Lib.hid hs6
              clear hs6
              by_cases hlt3 : j < hl2.length ∧ j < 30
              · obtain ⟨hlt4, hlt5⟩ := hlt3
                obtain ⟨h, hh⟩ : ∃ h, hl2[j]? = some h := ⟨_, List.getElem?_eq_getElem hlt4⟩
                obtain ⟨t1, t2⟩ := hCells_at hh
                rcases own_row_form H6.out.1 with ⟨hf, _⟩ | ⟨g3, cap3, hf, _, _, hgl3, _, hcell, _⟩
                · cases hf
                injection hf with hf1 _ hf2
                injection hf1 with hf1
                injection hf1 with hf1 _
                subst hf1 hf2
                have p0 := hcell _ _ t1
                have p1 := hcell _ _ t2
                have hokj := H2.out.2.2 h (List.mem_of_getElem? hh)
                obtain ⟨wa1, wa2, wa3, hwh⟩ : ∃ a b c, whereW st2 h = (a, b, c) := ⟨_, _, _, rfl⟩
                have HWH := Lib.hid hwh
                have HOKJ := Lib.hid hokj
                have q0 : (0 : Int) ≤ (j : Int) := by omega
                have q1 : (j : Int) < (hl2.length : Int) := by omega
                have hd3 : decide ((j : Int) < 30) = true := by simp; omega
                clear hcell t1 t2 hh hwh hokj
                go_wp2_with fail
                refine (whereL_say HWH H6.out.2 HOKJ.out).mono ?_
                rintro e w7 ⟨rfl, hs7⟩
                have p2 := hs7.cell hgl3 p0
                have p3 := hs7.cell hgl3 p1
                have H7 := Lib.hid (And.intro (H6.out.2.no hs7) (HS6.out.trans hs7 (fun _ _ h => h)))
                clear hs7 p0 p1
                go_wp2_with fail
                refine (whereR_say HWH H7.out.1 hord4).mono ?_
                rintro e w8 ⟨rfl, hs8⟩
                have H8 := Lib.hid (H7.out.2.trans hs8 (fun _ _ h => h))
                clear hs8 p2 p3
                go_wp2_with fail
                exact ⟨⟨j + 1, by omega, by omega, by go_num, H8.out⟩, by simp [intOf]; omega⟩
              · have HE := Lib.hid (giv_mk H6.out.1 H6.out.2 (fun _ e => e) hord2 hl02 hlk2 H2.out.2.2)
                by_cases h30 : j = 30
                case' pos => have hd3 : decide ((j : Int) < 30) = false := by simp; omega
                case' pos => clear h30
                case' neg => have hd3 : ¬ j < hl2.length := by omega
                all_goals
                  clear hlt3
                  go_wp2_with fail
                  all_goals exact ⟨⟨k + 1, st2, hl2, by omega, by omega, by go_num, HE.out⟩, by simp [intOf]; omega⟩
      · as_aux_lemma =>
          have hdone : k = 120 ∨ ¬ k < l.length := by omega
          by_cases h120 : k = 120
          case' pos => have hd2 : decide ((k : Int) < 120) = false := by simp; omega
          case' pos => have hk3 := Nat.le_of_eq h120
          case' pos => have hk4 := Nat.le_of_eq h120.symm
          case' pos => clear h120
          case' neg => have hd3 : ¬ k < l.length := by omega
          all_goals
            clear hlt hdone
            go_wp2_with fail
            all_goals
              refine (known6_any _).mono ?_
              rintro e w' ⟨rfl, hs⟩
              have HF := Lib.hid (HP.out.2.1.sm.trans hs (fun _ _ h => h))
              clear hs
              go_wp2_with fail
              go_ret
              exact ⟨rfl, HF.out⟩
  · have H1 := Lib.hid hnow
    go_enter Try.func8, Try.ntmps8
    go_wp2_with fail
    refine (wnew_no w now H1.out).mono ?_
    rintro e w1 ⟨rfl, hs1⟩
    have HS1 := Lib.hid hs1
    clear hs1
    go_wp2_with fail
    refine (twnew_no w1 now H1.out).mono ?_
    rintro e w2 ⟨rfl, hs2⟩
    have HS2 := Lib.hid (HS1.out.trans hs2 (fun _ _ h => h))
    clear hs2
    go_wp2_with fail
    refine (known6_any w2).mono ?_
    rintro e w3 ⟨rfl, hs3⟩
    have HS3 := Lib.hid (HS2.out.trans hs3 (fun _ _ h => h))
    clear hs3
    go_wp2_with fail
    go_ret
    exact ⟨rfl, HS3.out⟩
end Go.Proofs.Ytgmgjkafdkgalaa
