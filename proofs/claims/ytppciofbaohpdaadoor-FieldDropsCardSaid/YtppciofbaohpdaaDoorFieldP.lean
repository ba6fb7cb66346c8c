/- The walk of FieldDrops. -/
import Derived.Test.YtppciofbaohpdaaDoorFieldO
namespace Go.Proofs.YtppciofbaohpdaaDoor
open Go.RowKit Go.Proofs

/-! The plain law. -/
theorem sameL_comm (a b : List UInt8) : sameL a b = sameL b a := by unfold sameL; exact Bool.eq_iff_iff.2 ⟨fun h => beq_iff_eq.2 (beq_iff_eq.1 h).symm, fun h => beq_iff_eq.2 (beq_iff_eq.1 h).symm⟩
theorem among_one (name : ByteArray) (x : Fld) : amongL [name] x = sameL x.1.data.toList name.data.toList := by
  unfold amongL; simp [sameL_comm]
theorem values_left (name : ByteArray) (l : List Fld) : (valuesL l name).length = l.length - (leftL [name] l).length := by
  have h : (valuesL l name).length + (leftL [name] l).length = l.length := by
    induction l with
    | nil => rfl
    | cons x l ih =>
      simp only [valuesL, leftL, List.length_map, List.filter_cons, among_one] at ih ⊢
      cases sameL x.1.data.toList name.data.toList <;> simp at ih ⊢ <;> omega
  omega
theorem values_gone (name : ByteArray) (l : List Fld) : valuesL (leftL [name] l) name = [] := by
  unfold valuesL leftL
  rw [List.map_eq_nil_iff, List.filter_eq_nil_iff]
  intro x hx
  have := (List.mem_filter.1 hx).2
  rw [among_one] at this
  simpa using this
theorem get_gone (name : ByteArray) (l : List Fld) : getL (leftL [name] l) name = [] := by unfold getL; rw [values_gone]; rfl
theorem addL_mem : ∀ (l cur : List Fld), ∀ x ∈ (addL cur l).1, x ∈ cur ∨ (x ∈ l ∧ isX x = true)
  | [], cur, x, h => Or.inl (by simpa [addL] using h)
  | y :: l, cur, x, h => by
    rw [addL] at h
    split at h
    · exact Or.inl h
    · rename_i hy
      split at h
      · exact Or.inl h
      · rcases addL_mem l _ x h with g | ⟨g, e⟩
        · rcases List.mem_append.1 g with g | g
          · exact Or.inl g
          · obtain rfl := List.mem_singleton.1 g
            exact Or.inr ⟨by simp, by simpa using hy⟩
        · exact Or.inr ⟨List.mem_cons_of_mem _ g, e⟩
theorem short_addL {l : List Fld} (h : Short l) : Short (addL [] l).1 := fun x hx => by
  rcases addL_mem l [] x hx with g | ⟨g, _⟩
  · cases g
  · exact h x g
theorem short_left {l : List Fld} (names : List ByteArray) (h : Short l) : Short (leftL names l) := fun x hx => h x (List.mem_filter.1 hx).1
theorem add_single {x : Fld} (h : isX x = true) : addL [] [x] = ([x], 1, 0) := by
  rw [addL, if_neg (by simp [h]), if_neg (by simp)]; rfl
theorem values_single (x : Fld) (name : ByteArray) : (valuesL [x] name).length = if amongL [name] x = true then 1 else 0 := by
  unfold valuesL; rw [among_one, List.filter_cons]; split <;> rfl

theorem has_any (w : World) (B g : Nat) (v : Value) (l : List Fld) (name : ByteArray) (hF : IsFields w B g 78 v l) (hl : l.length ≤ 24) (hshort : Short l) (hn : name.size ≤ 1000000) :
    Calls Tryd.prog 43 #[.pointer (some ⟨g, 0, none⟩), .string name] w fun e w' => e = .returned (.bool (decide (0 < (valuesL l name).length))) ∧ Sm No w w' := by
  have HV := Lib.hid (values_any w B g v l name hF hl hshort hn)
  clear hF hshort
  go_enter Tryd.func43, Tryd.ntmps43
  go_wp2_with fail
  refine HV.out.mono ?_
  rintro e w1 ⟨vs, rfl, hO, hs⟩
  obtain ⟨A, c, rfl, _⟩ := own_rowC hO
  have HS := Lib.hid hs
  clear hO hs
  go_wp2_with fail
  all_goals
    go_ret
    exact ⟨ret_b (by simp; try omega), HS.out⟩

theorem has_gone (w : World) (B g : Nat) (v : Value) (l : List Fld) (name : ByteArray) (hF : IsFields w B g 78 v (leftL [name] l)) (hl : (leftL [name] l).length ≤ 24) (hshort : Short (leftL [name] l)) (hn : name.size ≤ 1000000) :
    Calls Tryd.prog 43 #[.pointer (some ⟨g, 0, none⟩), .string name] w fun e w' => e = .returned (.bool false) ∧ Sm No w w' := by
  have h := has_any w B g v _ name hF hl hshort hn
  rw [values_gone] at h
  exact h
theorem get_left (w : World) (B g : Nat) (v : Value) (l : List Fld) (name : ByteArray) (hF : IsFields w B g 78 v (leftL [name] l)) (hl : (leftL [name] l).length ≤ 24) (hshort : Short (leftL [name] l)) (hn : name.size ≤ 1000000) :
    Calls Tryd.prog 41 #[.pointer (some ⟨g, 0, none⟩), .string name] w fun e w' => e = .returned (.string ⟨#[]⟩) ∧ Sm No w w' := by
  have h := get_any w B g v _ name hF hl hshort hn
  rw [get_gone] at h
  exact h
theorem OwnF.row2 {w : World} {B : Nat} {v : Value} {l : List Fld} (h : OwnF w B v l) : ∃ A c, v = .slice A l.length c ∧ FRow w A l ∧ (∀ a, A = some a → B ≤ a.block ∧ a.block < w.heap.size) := by
  obtain ⟨A, c, rfl, hR⟩ := h.row
  refine ⟨A, c, rfl, hR, fun a ha => ?_⟩
  subst ha
  exact World.ownsRow.lt h a.block rfl
theorem len_one (x : Fld) (name : ByteArray) {f : Bool} (h : amongL [name] x = f) : (valuesL [x] name).length = if f = true then 1 else 0 := by rw [values_single, h]

def WantRel (w0 : World) (name : ByteArray) (L : List Fld) (want i : Value) (wr : World) : Prop :=
  ∃ k : Nat, k ≤ L.length ∧ i = .int .i64 k ∧ OwnF wr w0.heap.size want (leftL [name] (L.take k)) ∧ Sm No w0 wr

set_option maxRecDepth 100000 in
set_option maxHeartbeats 8000000 in
theorem drops_any (A : Option Addr) (l : List Fld) (c : Nat) (name : ByteArray) (w : World) (hA : ArgF w A l c) (hn : name.size ≤ 140737488351232) :
    Calls Tryd.prog 14 #[.slice A l.length c, .string name] w fun e w' => e = .returned (.bool true) ∧ Sm No w w' := by
  have hs1 := (Sm.refl No w).alloc (.cells #[.int .i64 0, .string name, .string ⟨#[]⟩, .slice A l.length c] 36)
  have hb1 := Bk.new w 36 #[.int .i64 0, .string name, .string ⟨#[]⟩, .slice A l.length c]
  have HH := Lib.hid (heavy_any (w.alloc (.cells #[.int .i64 0, .string name, .string ⟨#[]⟩, .slice A l.length c] 36)) (some ⟨w.heap.size, 0, none⟩) 1 [⟨0, name, ⟨#[]⟩, A, c, l⟩]
    ⟨fun k hk => (by
      obtain rfl : k = 0 := by simpa using hk
      exact ⟨⟨_, 0, rfl, hb1.lt, hb1.at 0 rfl, hb1.at 1 rfl, hb1.at 2 rfl, hb1.at 3 rfl⟩, hA.1.no hs1⟩), Nat.le_refl _, by omega, fun x hx => (by
      obtain rfl := List.mem_singleton.1 hx
      exact ⟨hn, Nat.zero_le _, hA.no hs1⟩), fun h => by cases h⟩)
  have hl : l.length ≤ 4398046511104 := Nat.le_trans hA.2.1 hA.2.2.1
  have HA := Lib.hid (And.intro hA hs1)
  clear hA hs1 hb1
  go_enter Tryd.func14, Tryd.ntmps14
  go_wp2_with fail
  refine HH.out.mono ?_
  rintro e w1 ⟨b, rfl, hs2, hlight⟩
  have hs3 := HA.out.2.trans hs2 (fun _ _ h => h)
  cases b
  · obtain ⟨hn5, _, hl5, hsh⟩ := hlight rfl 0 (by simp) (by omega)
    simp only [List.getElem_cons_zero] at hn5 hl5 hsh
    have hn6 : name.size ≤ 1000000 := by omega
    have HO := Lib.hid (of_any w1 l A c (HA.out.1.1.no hs3) hsh (by omega))
    have HS := Lib.hid (And.intro hs3 (And.intro (short_addL hsh) (fun x (hx : x ∈ (addL [] l).1) => (addL_mem l [] x hx).resolve_left (fun h => by cases h))))
    clear hlight hs2 hs3 hsh
    obtain ⟨L, hL⟩ : ∃ L, (addL [] l).1 = L := ⟨_, rfl⟩
    rw [hL] at HS
    go_wp2_with fail
    refine HO.out.mono ?_
    rintro e w2 ⟨g, v, rfl, hg, hF, hla, hs4⟩
    rw [hL] at hF hla
    have HF := Lib.hid (And.intro hF (And.intro hs4 hg))
    have hL6 : L.length ≤ 1000000 := by omega
    clear hF hg hs4 hL
    go_wp2_with fail
    refine (all_any _ _ g v L HF.out.1 hL6).mono ?_
    rintro e w3 ⟨v3, rfl, hO3, hs5⟩
    obtain ⟨A3, c3, rfl, hR3, hB3⟩ := hO3.row2
    have H3 := Lib.hid (And.intro hR3 (And.intro hs5 (HF.out.1.no hs5)))
    have HB3 := Lib.hid hB3
    clear hO3 hR3 hs5 hB3
    go_wp2_with fail
    refine (values_any w3 _ g v L name H3.out.2.2 hla HS.out.2.1 hn6).mono ?_
    rintro e w4 ⟨v4, rfl, hO4, hs6⟩
    obtain ⟨A4, c4, rfl, _⟩ := own_rowC hO4
    have hvl := values_left name L
    obtain ⟨nv, hnv⟩ : ∃ n, (valuesL L name).length = n := ⟨_, rfl⟩
    rw [hnv] at hvl ⊢
    have H4 := Lib.hid (And.intro hvl (And.intro hs6 (H3.out.2.2.no hs6)))
    have hnv6 : nv ≤ 24 := by rw [hvl]; omega
    clear hO4 hs6 hvl hnv
    have hs7 := (Sm.refl No w4).alloc (.cells #[.string name] 9)
    have hb7 := Bk.new w4 9 #[.string name]
    have HDr := Lib.hid (drop_any (w4.alloc (.cells #[.string name] 9)) _ g v L (some ⟨w4.heap.size, 0, none⟩) 1 [name] (H4.out.2.2.no hs7) hL6 HS.out.2.1
      (fun k hk => by
        obtain rfl : k = 0 := by simpa using hk
        exact ⟨_, 0, rfl, hb7.lt, hb7.at 0 rfl⟩)
      (fun a ha => by
        injection ha with ha; subst ha
        obtain ⟨g1, g2⟩ := H4.out.2.2.lt
        refine ⟨by simp, ?_⟩
        rintro (e | e)
        · dsimp only at e; omega
        · have := (g2 _ e).2; dsimp only at this; omega) (by simp) (fun s hs => by obtain rfl := List.mem_singleton.1 hs; exact hn6))
    have H7 := Lib.hid hs7
    clear hs7 hb7
    go_wp2_with fail
    refine HDr.out.mono ?_
    rintro e w5 ⟨v5, rfl, hF5, hob5, hs8⟩
    have hg1 := HF.out.1.lt
    have hT : ∀ b, b < w1.heap.size → TouchF g v b → No b := fun b hb h => by
      have := HF.out.2.2
      rcases h with h | h
      · omega
      · have := (hg1.2 b h).1; omega
    have hsm4 := (HF.out.2.1.trans H3.out.2.1 (fun _ _ h => h)).trans (H4.out.2.1.trans H7.out (fun _ _ h => h)) (fun _ _ h => h)
    have hsm5 := hsm4.trans hs8 hT
    have hR5 : FRow w5 A3 L := ((H3.out.1.no H4.out.2.1).no H7.out).sm hs8 (fun a ha h => by
      have := HB3.out a ha
      rcases h with h | h
      · omega
      · have := (hg1.2 _ h).2; omega)
    have H5 := Lib.hid (And.intro hF5 (And.intro hsm5 hR5))
    clear hF5 hob5 hs8 hg1 hT hsm4 hsm5 hR5
    rw [← H4.out.1]
    go_wp2_with fail
    go_loopw [9, 10] (fun want i wr => WantRel w5 name L want i wr) (fun _ i _ => L.length - (intOf i).toNat)
    case atStart => exact ⟨0, Nat.zero_le _, rfl, World.ownsRow_nil _ _ _ 2, Sm.refl _ _⟩
    case round =>
      obtain ⟨k, hk, rfl, hW, hsm⟩ := hrel
      have HW := Lib.hid (And.intro hW hsm)
      clear hW hsm
      by_cases hlt : k < L.length
      · obtain ⟨bb, off, hAe, hbb, r0, r1⟩ := (H5.out.2.2.no HW.out.2) k hlt
        subst hAe
        obtain ⟨s0, s1⟩ := HS.out.2.1 _ (List.getElem_mem hlt)
        obtain ⟨_, hisx⟩ := HS.out.2.2 _ (List.getElem_mem hlt)
        obtain ⟨⟨nm, vl⟩, hx⟩ : ∃ x, L[k] = x := ⟨_, rfl⟩
        rw [hx] at r0 r1 s0 s1 hisx
        have hl1 := leftL_snoc [name] L k hlt
        rw [hx] at hl1
        obtain ⟨f, hf⟩ : ∃ f, amongL [name] (nm, vl) = f := ⟨_, rfl⟩
        have hlen := len_one (nm, vl) name hf
        rw [hf] at hl1
        dsimp only at r0 r1 s0 s1
        have k1 : (0 : Int) ≤ (k : Int) := by omega
        have k2 : (k : Int) < (L.length : Int) := by omega
        have hb0 := Bk.new wr 23 #[.string nm, .string vl]
        have hsw := (Sm.refl No wr).alloc (.cells #[.string nm, .string vl] 23)
        have hsh1 : Short [(nm, vl)] := by intro x hx; obtain rfl := List.mem_singleton.1 hx; exact ⟨s0, s1⟩
        have HOf := Lib.hid (of_any (wr.alloc (.cells #[.string nm, .string vl] 23)) [(nm, vl)] (some ⟨wr.heap.size, 0, none⟩) 1 (fun j hj => by
            obtain rfl : j = 0 := by simpa using hj
            exact ⟨_, 0, rfl, hb0.lt, hb0.at 0 rfl, hb0.at 1 rfl⟩) hsh1 (by simp))
        have HX := Lib.hid (And.intro hl1 (And.intro hlen (And.intro hisx (And.intro hsw (And.intro hsh1 (HW.out.2.trans hsw (fun _ _ h => h)))))))
        clear hl1 hlen hisx hx hb0 hsw hsh1 hf
        go_wp2_with fail
        refine HOf.out.mono ?_
        rintro e w6 ⟨g6, v6, rfl, _, hF6, _, hs6⟩
        rw [add_single HX.out.2.2.1] at hF6
        have H6 := Lib.hid (And.intro hF6 (HX.out.2.2.2.2.2.trans hs6 (fun _ _ h => h)))
        have H6' := Lib.hid (HX.out.2.2.2.1.trans hs6 (fun _ _ h => h))
        clear hF6 hs6
        go_wp2_with fail
        refine (values_any w6 _ g6 v6 [(nm, vl)] name H6.out.1 (by simp) HX.out.2.2.2.2.1 hn6).mono ?_
        rintro e w7 ⟨v7, rfl, hO7, hs7⟩
        obtain ⟨A7, c7, rfl, _⟩ := own_rowC hO7
        have H7w := Lib.hid (H6'.out.trans hs7 (fun _ _ h => h))
        have r0' := H7w.out.cell hbb r0
        have r1' := H7w.out.cell hbb r1
        have H8 := Lib.hid (And.intro (H6.out.2.trans hs7 (fun _ _ h => h)) (own_row_sm HW.out.1 H7w.out (fun _ _ h => h)))
        clear hO7 hs7
        rw [HX.out.2.1]
        cases f
        · have hwl : (leftL [name] (L.take k)).length ≤ 1000000 := Nat.le_trans (leftL_len _ _) (by simp; omega)
          rw [if_neg (by simp)]
          go_wp2_with (refine wpList_push rfl _ _ 33 23 rfl Tryd.underlying33 _ 2 32 infoFieldB rfl (by decide) (by decide) w5.heap.size _ u9 _ rfl (World.ownsRow.alloc H8.out.2 _) w7.heap.size #[.string nm, .string vl] rfl (Bk.new w7 _ _) rfl (by simp [Value.oneCell']) hwl (by have := H8.out.1.size; simp; omega) ?_; intro v' w8 hown8 hs8 hv8)
          have hO9 : OwnF w8 w5.heap.size v' (leftL [name] (L.take (k + 1))) := by
            rw [HX.out.1, if_neg (by simp)]
            unfold OwnF
            rw [fldCells_snoc, List.length_append]
            exact hown8
          have hS9 : Sm No w5 w8 := (H8.out.1.alloc (.cells #[.string nm, .string vl] 23)).trans hs8 (fun b hb e => by
            have := (World.ownsRow.lt H8.out.2 b e).1
            omega)
          have H9 := Lib.hid (And.intro hO9 hS9)
          clear hO9 hS9 hown8 hs8 hv8
          go_wp2_with fail
          exact ⟨⟨k + 1, by omega, by go_num, H9.out.1, H9.out.2⟩, by simp [intOf]; omega⟩
        · rw [if_pos rfl]
          go_wp2_with fail
          exact ⟨⟨k + 1, by omega, by go_num, by rw [HX.out.1, if_pos trivial]; exact H8.out.2, H8.out.1⟩, by simp [intOf]; omega⟩
      · have ha : leftL [name] (L.take k) = leftL [name] L := by rw [List.take_of_length_le (by omega)]
        have hW2 := HW.out.1
        rw [ha] at hW2
        obtain ⟨AW, cW, hvW, hRW⟩ := hW2.row
        subst hvW
        have hLl : (leftL [name] L).length ≤ 24 := Nat.le_trans (leftL_len _ _) hla
        have hLs := short_left [name] HS.out.2.1
        have HG := Lib.hid (has_gone wr _ g v5 L name (H5.out.1.no HW.out.2) hLl hLs hn6)
        have HRW := Lib.hid (And.intro hRW (And.intro hLs (H5.out.1.no HW.out.2)))
        clear ha hW2 hRW hLs
        go_wp2_with fail
        refine HG.out.mono ?_
        rintro e w6 ⟨rfl, hs6⟩
        have H6 := Lib.hid hs6
        clear hs6
        go_wp2_with fail
        refine (get_left w6 _ g v5 L name (HRW.out.2.2.no H6.out) hLl HRW.out.2.1 hn6).mono ?_
        rintro e w7 ⟨rfl, hs7⟩
        have H7w := Lib.hid (H6.out.trans hs7 (fun _ _ h => h))
        clear hs7
        go_wp2_with fail
        refine (all_any w7 _ g v5 _ (HRW.out.2.2.no H7w.out) (by omega)).mono ?_
        rintro e w8 ⟨v8, rfl, hO8, hs8⟩
        obtain ⟨A8, c8, rfl, hR8⟩ := hO8.row
        have H8 := Lib.hid (And.intro hR8 (H7w.out.trans hs8 (fun _ _ h => h)))
        clear hO8 hR8 hs8
        go_wp2_with fail
        refine (fields_any w8 A8 AW c8 cW _ H8.out.1 (HRW.out.1.no H8.out.2) (by omega)).mono ?_
        rintro e w9 ⟨rfl, hs9⟩
        have H9 := Lib.hid (H8.out.2.trans hs9 (fun _ _ h => h))
        clear hs9
        go_wp2_with fail
        refine (known10_any _).mono ?_
        rintro e w10 ⟨rfl, hs10⟩
        go_wp2_with fail
        go_ret
        exact ⟨rfl, (((HS.out.1.trans H5.out.2.1 (fun _ _ h => h)).trans HW.out.2 (fun _ _ h => h)).trans H9.out (fun _ _ h => h)).trans hs10 (fun _ _ h => h)⟩
  · clear hlight
    go_wp2_with fail
    go_ret
    exact ⟨rfl, hs3⟩
end Go.Proofs.YtppciofbaohpdaaDoor
