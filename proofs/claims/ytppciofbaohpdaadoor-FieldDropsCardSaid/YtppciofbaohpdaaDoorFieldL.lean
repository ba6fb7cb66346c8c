/- The walk of FieldOne. -/
import Derived.Test.YtppciofbaohpdaaDoorFieldK
namespace Go.Proofs.YtppciofbaohpdaaDoor
open Go.RowKit Go.Proofs

theorem OwnF.row {w : World} {B : Nat} {v : Value} {l : List Fld} (h : OwnF w B v l) : ∃ A c, v = .slice A l.length c ∧ FRow w A l := by
  obtain ⟨A, c, hv, hR, _, _⟩ := own_rowC h
  exact ⟨A, c, hv, hR.frow⟩
theorem OwnF.no {w w' : World} {B : Nat} {v : Value} {l : List Fld} (h : OwnF w B v l) (hs : Sm No w w') : OwnF w' B v l := own_row_sm h hs (fun _ _ h => h)
theorem IsFields.lt {w : World} {B g : Nat} {t : TypeId} {v : Value} {l : List Fld} (h : IsFields w B g t v l) : g < w.heap.size ∧ ∀ b, v.ownBlock = some b → B ≤ b ∧ b < w.heap.size :=
  ⟨h.1.lt, fun b hb => World.ownsRow.lt h.2.1 b hb⟩

/-- What comes of adding the fields of a list from the k-th on, where the first k were laid. -/
def Sofar (l : List Fld) (k : Nat) : Prop := addL [] l = ((addL (l.take k) (l.drop k)).1, (addL (l.take k) (l.drop k)).2.1 + k, (addL (l.take k) (l.drop k)).2.2)
theorem sofar_zero (l : List Fld) : Sofar l 0 := by simp [Sofar]
theorem sofar_step {l : List Fld} {k : Nat} (h : Sofar l k) (hk : k < l.length) (hx : isX l[k] = true) (hc : ¬ 24 ≤ k) : Sofar l (k + 1) := by
  unfold Sofar at h ⊢
  rw [h, addL_step hk hx (by simp; omega), List.take_succ_eq_append_getElem hk]
  simp; omega
theorem sofar_not {l : List Fld} {k : Nat} (h : Sofar l k) (hk : k < l.length) (hx : isX l[k] = false) : (addL [] l).1 = l.take k := by
  rw [show addL [] l = _ from h, addL_not hk hx]
theorem sofar_full {l : List Fld} {k : Nat} (h : Sofar l k) (hk : k < l.length) (hx : isX l[k] = true) (hc : 24 ≤ k) : (addL [] l).1 = l.take k := by
  rw [show addL [] l = _ from h, addL_full hk hx (by simp; omega)]
theorem sofar_end {l : List Fld} {k : Nat} (h : Sofar l k) (hk : ¬ k < l.length) : (addL [] l).1 = l.take k := by
  rw [show addL [] l = _ from h, List.drop_eq_nil_of_le (by omega)]
  rfl

theorem addL_one (cur : List Fld) (x : Fld) : (isX x = false ∧ addL cur [x] = (cur, 0, 8)) ∨ (isX x = true ∧ 24 ≤ cur.length ∧ addL cur [x] = (cur, 0, 3)) ∨ (isX x = true ∧ cur.length < 24 ∧ addL cur [x] = (cur ++ [x], 1, 0)) := by
  cases hx : isX x
  · exact Or.inl ⟨rfl, by rw [addL, if_pos hx]⟩
  · by_cases hc : 24 ≤ cur.length
    · exact Or.inr (Or.inl ⟨rfl, hc, by rw [addL, if_neg (by simp [hx]), if_pos hc]⟩)
    · exact Or.inr (Or.inr ⟨rfl, by omega, by rw [addL, if_neg (by simp [hx]), if_neg hc]; rfl⟩)

def OneRel (w : World) (B ga : Nat) (va : Value) (gb : Nat) (l : List Fld) (n : Value) (wr : World) : Prop :=
  ∃ (k : Nat) (vb : Value), k ≤ l.length ∧ k ≤ 24 ∧ n = .int .i64 k ∧ Sofar l k ∧ IsFields wr B gb 78 vb (l.take k) ∧ IsFields wr w.heap.size ga 78 va (addL [] l).1 ∧ Sm No w wr ∧ B ≤ wr.heap.size

set_option maxRecDepth 100000 in
set_option maxHeartbeats 8000000 in
theorem one_any (A : Option Addr) (l : List Fld) (c : Nat) (w : World) (hA : ArgF w A l c) :
    Calls Tryd.prog 5 #[.slice A l.length c] w fun e w' => e = .returned (.bool true) ∧ Sm No w w' := by
  have hs1 := (Sm.refl No w).alloc (.cells #[.int .i64 0, .string ⟨#[]⟩, .string ⟨#[]⟩, .slice A l.length c] 36)
  have hb1 := Bk.new w 36 #[.int .i64 0, .string ⟨#[]⟩, .string ⟨#[]⟩, .slice A l.length c]
  have HH := Lib.hid (heavy_any (w.alloc (.cells #[.int .i64 0, .string ⟨#[]⟩, .string ⟨#[]⟩, .slice A l.length c] 36)) (some ⟨w.heap.size, 0, none⟩) 1 [⟨0, ⟨#[]⟩, ⟨#[]⟩, A, c, l⟩]
    ⟨fun k hk => (by
      obtain rfl : k = 0 := by simpa using hk
      exact ⟨⟨_, 0, rfl, hb1.lt, hb1.at 0 rfl, hb1.at 1 rfl, hb1.at 2 rfl, hb1.at 3 rfl⟩, hA.1.no hs1⟩), Nat.le_refl _, by omega, fun x hx => (by
      obtain rfl := List.mem_singleton.1 hx
      exact ⟨Nat.zero_le _, Nat.zero_le _, hA.no hs1⟩), fun h => by cases h⟩)
  have hl : l.length ≤ 4398046511104 := Nat.le_trans hA.2.1 hA.2.2.1
  have HA := Lib.hid (And.intro hA hs1)
  clear hA hs1 hb1
  go_enter Tryd.func5, Tryd.ntmps5
  go_wp2_with fail
  refine HH.out.mono ?_
  rintro e w1 ⟨b, rfl, hs2, hlight⟩
  have hs3 := HA.out.2.trans hs2 (fun _ _ h => h)
  cases b
  · obtain ⟨_, _, hl5, hsh⟩ := hlight rfl 0 (by simp) (by omega)
    simp only [List.getElem_cons_zero] at hl5 hsh
    have HO := Lib.hid (of_any w1 l A c (HA.out.1.1.no hs3) hsh (by omega))
    have HS := Lib.hid (And.intro hs3 hsh)
    clear hlight hs2 hs3 hsh
    go_wp2_with fail
    refine HO.out.mono ?_
    rintro e w2 ⟨ga, va, rfl, hga, hFa, hla, hs4⟩
    have HFa := Lib.hid (And.intro hga (And.intro hFa hs4))
    clear hga hFa hs4
    go_wp2_with fail
    refine (of_any w2 [] none 0 (fun k hk => absurd hk (by simp)) (by intro x hx; cases hx) (by simp)).mono ?_
    rintro e w3 ⟨gb, vb, rfl, hgb, hFb, _, hs5⟩
    have HFb := Lib.hid (And.intro hgb (And.intro hFb hs5))
    have hA3 := (HA.out.1.no (((HS.out.1.trans HFa.out.2.2 (fun _ _ h => h)).trans hs5 (fun _ _ h => h))))
    have hRel : OneRel w1 w2.heap.size ga va gb l (.int .i64 0) w3 :=
      ⟨0, vb, Nat.zero_le _, by omega, rfl, sofar_zero l, hFb, HFa.out.2.1.no hs5, HFa.out.2.2.trans hs5 (fun _ _ h => h), hs5.size⟩
    have hab : ga ≠ gb ∧ ∀ b, va.ownBlock = some b → b ≠ gb ∧ b < w2.heap.size := by
      obtain ⟨h1, h2⟩ := HFa.out.2.1.lt
      exact ⟨by omega, fun b hb => by have := h2 b hb; exact ⟨by omega, by omega⟩⟩
    have hga2 : ga < w2.heap.size := HFa.out.2.1.lt.1
    have HR := Lib.hid (And.intro hRel (And.intro hab (And.intro hgb hga2)))
    clear hgb hFb hs5 hRel hab hga2
    go_wp2_with fail
    go_loopw [5] (fun n wr => OneRel w1 w2.heap.size ga va gb l n wr) (fun n _ => l.length - (intOf n).toNat)
    case atStart => exact HR.out.1
    case round =>
      obtain ⟨k, vb', hk, hk24, rfl, hsof, hF, hFA, hsm, hB⟩ := hrel
      have HF := Lib.hid (And.intro hsof (And.intro hF (And.intro hFA (And.intro hsm hB))))
      clear hsof hF hFA hsm hB
      by_cases hlt : k < l.length
      · obtain ⟨bb, off, hAe, hbb, r0, r1⟩ := (HA.out.1.1.no (HS.out.1.trans HF.out.2.2.2.1 (fun _ _ h => h))) k hlt
        subst hAe
        obtain ⟨s0, s1⟩ := HS.out.2 _ (List.getElem_mem hlt)
        obtain ⟨⟨nm, vl⟩, hnm⟩ : ∃ x, l[k] = x := ⟨_, rfl⟩
        rw [hnm] at r0 r1 s0 s1
        dsimp only at r0 r1 s0 s1
        have k1 : (0 : Int) ≤ (k : Int) := by omega
        have k2 : (k : Int) < (l.length : Int) := by omega
        have hb0 := Bk.new wr 23 #[.string nm, .string vl]
        have hsw := (Sm.refl No wr).alloc (.cells #[.string nm, .string vl] 23)
        have HAdd := Lib.hid (add_any (wr.alloc (.cells #[.string nm, .string vl] 23)) w2.heap.size gb vb' (l.take k) [(nm, vl)] (some ⟨wr.heap.size, 0, none⟩) 1 (HF.out.2.1.no hsw) (by simp; omega)
          (fun j hj => by
            obtain rfl : j = 0 := by simpa using hj
            exact ⟨_, 0, rfl, hb0.lt, hb0.at 0 rfl, hb0.at 1 rfl⟩)
          (fun _ a ha => by
            injection ha with ha; subst ha
            obtain ⟨g1, g2⟩ := HF.out.2.1.lt
            rintro (e | e)
            · dsimp only at e; omega
            · have := g2 _ e; dsimp only at this; omega) (by intro x hx; obtain rfl := List.mem_singleton.1 hx; exact ⟨s0, s1⟩) (by simp) (by have := HF.out.2.2.2.2; simp; omega))
        have HN := Lib.hid (And.intro hnm hsw)
        clear hnm hb0 hsw s0 s1
        go_wp2_with fail
        refine HAdd.out.mono ?_
        rintro e w4 ⟨v4, rfl, hF4, hl4, hs4, hfo4⟩
        have H4 := Lib.hid (And.intro hF4 (And.intro hs4 hfo4))
        clear hF4 hl4 hs4 hfo4
        have hT : ∀ b, b < w1.heap.size → TouchF gb vb' b → No b := fun b hb h => by
          have hz := HF.out.2.2.2.2
          have hz2 := HF.out.2.2.2.1.size
          have hz3 := HR.out.2.2.1
          have hz4 := HFa.out.2.2.size
          rcases h with h | h
          · omega
          · have := (HF.out.2.1.lt).2 b h; omega
        have hsm4 := (HF.out.2.2.2.1.trans HN.out.2 (fun _ _ h => h)).trans H4.out.2.1 hT
        have hFA4 := (HF.out.2.2.1.no HN.out.2).sm H4.out.2.1 (fun h => by
            have h1 := HR.out.2.1.1
            have h2 := HR.out.2.2.2
            rcases h with h | h
            · exact h1 h
            · have := (HF.out.2.1.lt).2 _ h; omega) (fun b hb h => by
            have h1 := HR.out.2.1.2 b hb
            rcases h with h | h
            · exact h1.1 h
            · have := (HF.out.2.1.lt).2 _ h; omega)
        have HG := Lib.hid (And.intro hsm4 (And.intro hFA4 hT))
        clear hsm4 hFA4 hT
        rcases addL_one (l.take k) (nm, vl) with ⟨hx, he⟩ | ⟨hx, hc, he⟩ | ⟨hx, hc, he⟩
        · have hE : IsFields w4 w2.heap.size gb 78 v4 (l.take k) ∧ IsFields w4 w1.heap.size ga 78 va (l.take k) ∧ Sm No w1 w4 := by
            have h1 := H4.out.1
            rw [he] at h1
            have h2 := HG.out.2.1
            rw [sofar_not HF.out.1 hlt (by rw [HN.out.1]; exact hx)] at h2
            exact ⟨h1, h2, HG.out.1⟩
          rw [he]
          clear he hx
          obtain ⟨p, hp⟩ : ∃ p, l.take k = p := ⟨_, rfl⟩
          have hpl : p.length = k := by rw [← hp]; simp; omega
          rw [hp] at hE
          have hk5 : k ≤ 1000000 := by omega
          have HP := Lib.hid hpl
          have HE := Lib.hid hE
          clear hE hp hpl
          go_wp2_with fail
          refine (all_any _ _ ga va _ HE.out.2.1 (by rw [HP.out]; exact hk5)).mono ?_
          rintro e w5 ⟨v5, rfl, hO5, hs5⟩
          obtain ⟨A5, c5, rfl, hR5⟩ := hO5.row
          have H5 := Lib.hid (And.intro hR5 hs5)
          clear hO5 hR5 hs5
          go_wp2_with fail
          refine (all_any _ _ gb v4 _ (HE.out.1.no H5.out.2) (by rw [HP.out]; exact hk5)).mono ?_
          rintro e w6 ⟨v6, rfl, hO6, hs6⟩
          obtain ⟨A6, c6, rfl, hR6⟩ := hO6.row
          have H6 := Lib.hid (And.intro hR6 hs6)
          clear hO6 hR6 hs6
          go_wp2_with fail
          refine (fields_any _ A5 A6 c5 c6 _ (H5.out.1.no H6.out.2) H6.out.1 (by rw [HP.out]; exact hk5)).mono ?_
          rintro e w7 ⟨rfl, hs7⟩
          have H7 := Lib.hid ((H5.out.2.trans H6.out.2 (fun _ _ h => h)).trans hs7 (fun _ _ h => h))
          clear hs7
          go_wp2_with fail
          refine (len_any _ _ ga va _ (HE.out.2.1.no H7.out) (by rw [HP.out]; exact hk5)).mono ?_
          rintro e w8 ⟨rfl, rfl⟩
          rw [HP.out]
          go_wp2_with fail
          refine (known10_any _).mono ?_
          rintro e w9 ⟨rfl, hs9⟩
          go_wp2_with fail
          go_ret
          exact ⟨rfl, (HS.out.1.trans (HE.out.2.2.trans H7.out (fun _ _ h => h)) (fun _ _ h => h)).trans hs9 (fun _ _ h => h)⟩
        · have hE : IsFields w4 w2.heap.size gb 78 v4 (l.take k) ∧ IsFields w4 w1.heap.size ga 78 va (l.take k) ∧ Sm No w1 w4 := by
            have h1 := H4.out.1
            rw [he] at h1
            have h2 := HG.out.2.1
            rw [sofar_full HF.out.1 hlt (by rw [HN.out.1]; exact hx) (by simp at hc; omega)] at h2
            exact ⟨h1, h2, HG.out.1⟩
          rw [he]
          clear he hx hc
          obtain ⟨p, hp⟩ : ∃ p, l.take k = p := ⟨_, rfl⟩
          have hpl : p.length = k := by rw [← hp]; simp; omega
          rw [hp] at hE
          have hk5 : k ≤ 1000000 := by omega
          have HP := Lib.hid hpl
          have HE := Lib.hid hE
          clear hE hp hpl
          go_wp2_with fail
          refine (all_any _ _ ga va _ HE.out.2.1 (by rw [HP.out]; exact hk5)).mono ?_
          rintro e w5 ⟨v5, rfl, hO5, hs5⟩
          obtain ⟨A5, c5, rfl, hR5⟩ := hO5.row
          have H5 := Lib.hid (And.intro hR5 hs5)
          clear hO5 hR5 hs5
          go_wp2_with fail
          refine (all_any _ _ gb v4 _ (HE.out.1.no H5.out.2) (by rw [HP.out]; exact hk5)).mono ?_
          rintro e w6 ⟨v6, rfl, hO6, hs6⟩
          obtain ⟨A6, c6, rfl, hR6⟩ := hO6.row
          have H6 := Lib.hid (And.intro hR6 hs6)
          clear hO6 hR6 hs6
          go_wp2_with fail
          refine (fields_any _ A5 A6 c5 c6 _ (H5.out.1.no H6.out.2) H6.out.1 (by rw [HP.out]; exact hk5)).mono ?_
          rintro e w7 ⟨rfl, hs7⟩
          have H7 := Lib.hid ((H5.out.2.trans H6.out.2 (fun _ _ h => h)).trans hs7 (fun _ _ h => h))
          clear hs7
          go_wp2_with fail
          refine (len_any _ _ ga va _ (HE.out.2.1.no H7.out) (by rw [HP.out]; exact hk5)).mono ?_
          rintro e w8 ⟨rfl, rfl⟩
          rw [HP.out]
          go_wp2_with fail
          refine (known10_any _).mono ?_
          rintro e w9 ⟨rfl, hs9⟩
          go_wp2_with fail
          go_ret
          exact ⟨rfl, (HS.out.1.trans (HE.out.2.2.trans H7.out (fun _ _ h => h)) (fun _ _ h => h)).trans hs9 (fun _ _ h => h)⟩
        · have hE : OneRel w1 w2.heap.size ga va gb l (.int .i64 ((k + 1 : Nat) : Int)) w4 := by
            have h1 := H4.out.1
            rw [he] at h1
            have hc' : k < 24 := by simp at hc; omega
            refine ⟨k + 1, v4, by omega, by omega, rfl, sofar_step HF.out.1 hlt (by rw [HN.out.1]; exact hx) (by omega), ?_, HG.out.2.1, HG.out.1, ?_⟩
            · rw [List.take_succ_eq_append_getElem hlt, HN.out.1]
              exact h1
            · exact Nat.le_trans HF.out.2.2.2.2 (Nat.le_trans HN.out.2.size H4.out.2.1.size)
          have HE := Lib.hid hE
          rw [he]
          clear hE he hx hc
          go_wp2_with fail
          exact ⟨HE.out, by simp [intOf]; omega⟩
      · have hE : IsFields wr w2.heap.size gb 78 vb' (l.take k) ∧ IsFields wr w1.heap.size ga 78 va (l.take k) ∧ Sm No w1 wr := by
          have h2 := HF.out.2.2.1
          rw [sofar_end HF.out.1 hlt] at h2
          exact ⟨HF.out.2.1, h2, HF.out.2.2.2.1⟩
        obtain ⟨p, hp⟩ : ∃ p, l.take k = p := ⟨_, rfl⟩
        have hpl : p.length = k := by rw [← hp]; simp; omega
        rw [hp] at hE
        have hk5 : k ≤ 1000000 := by omega
        have HP := Lib.hid hpl
        have HE := Lib.hid hE
        clear hE hp hpl
        go_wp2_with fail
        refine (all_any _ _ ga va _ HE.out.2.1 (by rw [HP.out]; exact hk5)).mono ?_
        rintro e w5 ⟨v5, rfl, hO5, hs5⟩
        obtain ⟨A5, c5, rfl, hR5⟩ := hO5.row
        have H5 := Lib.hid (And.intro hR5 hs5)
        clear hO5 hR5 hs5
        go_wp2_with fail
        refine (all_any _ _ gb vb' _ (HE.out.1.no H5.out.2) (by rw [HP.out]; exact hk5)).mono ?_
        rintro e w6 ⟨v6, rfl, hO6, hs6⟩
        obtain ⟨A6, c6, rfl, hR6⟩ := hO6.row
        have H6 := Lib.hid (And.intro hR6 hs6)
        clear hO6 hR6 hs6
        go_wp2_with fail
        refine (fields_any _ A5 A6 c5 c6 _ (H5.out.1.no H6.out.2) H6.out.1 (by rw [HP.out]; exact hk5)).mono ?_
        rintro e w7 ⟨rfl, hs7⟩
        have H7 := Lib.hid ((H5.out.2.trans H6.out.2 (fun _ _ h => h)).trans hs7 (fun _ _ h => h))
        clear hs7
        go_wp2_with fail
        refine (len_any _ _ ga va _ (HE.out.2.1.no H7.out) (by rw [HP.out]; exact hk5)).mono ?_
        rintro e w8 ⟨rfl, rfl⟩
        rw [HP.out]
        go_wp2_with fail
        refine (known10_any _).mono ?_
        rintro e w9 ⟨rfl, hs9⟩
        go_wp2_with fail
        go_ret
        exact ⟨rfl, (HS.out.1.trans (HE.out.2.2.trans H7.out (fun _ _ h => h)) (fun _ _ h => h)).trans hs9 (fun _ _ h => h)⟩
  · clear hlight
    go_wp2_with fail
    go_ret
    exact ⟨rfl, hs3⟩
end Go.Proofs.YtppciofbaohpdaaDoor
