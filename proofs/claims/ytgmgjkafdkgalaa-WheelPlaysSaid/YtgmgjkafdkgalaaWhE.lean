/- The slab in memory: at, Take. -/
import Derived.Test.YtgmgjkafdkgalaaWhD
namespace Go.Proofs.Ytgmgjkafdkgalaa
open Go.RowKit Go.Proofs Go.Maps

/-- What at hands back. -/
def AtPost (w : World) (l : List Sl) (v : Value) (h : Hd) (e : Ending) (w' : World) : Prop :=
  Sm No w w' ∧ ((isB l h = false ∧ e = .returned (.pointer none)) ∨ ∃ bb k c x, isB l h = true ∧ v = .slice (some ⟨bb, 0, none⟩) l.length c ∧ h.slot = (k : Nat) ∧ l[k]? = some x ∧ x.u = true ∧ (x.g : Int) = h.gen ∧ e = .returned (.pointer (some ⟨bb, k * 3, none⟩)))
set_option maxRecDepth 100000 in
set_option maxHeartbeats 4000000 in
theorem at_any (w : World) (s n : Nat) (l : List Sl) (v : Value) (h : Hd) (hb : Bk w s 93 #[.int .i64 4096, v, .int .i64 n]) (hr : w.ownsRow 0 95 3 v l.length (slCells l)) :
    Calls Try.prog 46 #[.pointer (some ⟨s, 0, none⟩), hv h] w (AtPost w l v h) := by
  obtain ⟨A, c, rfl, hR, hc, hA0⟩ := own_rowC hr
  have hslt := hb.lt
  have c1 := hb.at 1 (v := .slice A l.length c) rfl
  have hs0 := (Sm.refl No w).alloc (.cells #[.int .i64 h.slot, .int .i64 h.gen] 29)
  have H := Lib.hid (And.intro hb (And.intro hr (And.intro hR hs0)))
  clear hb hr hR hs0 hA0
  unfold hv
  by_cases h0 : h.slot < 0
  · have hB : isB l h = false := by unfold isB; rw [decide_eq_false (by omega)]; rfl
    have HB := Lib.hid hB
    clear hB
    go_enter Try.func46, Try.ntmps46
    go_wp2_with fail
    go_quiet (fail)
    go_wp2_with fail
    go_ret
    exact ⟨H.out.2.2.2.drewN _, Or.inl ⟨HB.out, rfl⟩⟩
  · obtain ⟨k, hk⟩ := Int.eq_ofNat_of_zero_le (show 0 ≤ h.slot by omega)
    obtain ⟨gen, hgen⟩ : ∃ gen, h.gen = gen := ⟨_, rfl⟩
    rw [hgen, hk]
    have HH := Lib.hid (And.intro hk hgen)
    have hs1 := H.out.2.2.2
    rw [hk, hgen] at hs1
    have HS := Lib.hid hs1
    clear hs1
    by_cases h1 : k < l.length
    · obtain ⟨x, hx⟩ : ∃ x, l[k]? = some x := ⟨_, List.getElem?_eq_getElem h1⟩
      obtain ⟨e0, e1, e2⟩ := slCells_at hx
      obtain ⟨bb, off, hA, hbl, r0⟩ := H.out.2.2.1.at e0
      obtain ⟨_, _, hA1, _, r1⟩ := H.out.2.2.1.at e1
      subst hA
      injection hA1 with hA1; injection hA1 with q1 q2; subst q1 q2
      obtain rfl : off = 0 := by
        rcases own_row_form H.out.2.1 with ⟨hv, _⟩ | ⟨g, cap, hv, _⟩
        · injection hv with hv; cases hv
        · injection hv with hv; injection hv with hv; injection hv with _ hv
      rw [Nat.zero_add] at r0 r1
      have hBe : isB l h = (x.u && decide ((x.g : Int) = gen)) := by
        unfold isB; rw [decide_eq_true (show 0 ≤ h.slot by omega), hk]; simp [hx, hgen]
      obtain ⟨xg, hxg⟩ : ∃ xg, x.g = xg := ⟨_, rfl⟩
      have k1 : (0 : Int) ≤ (k : Int) := by omega
      have k2 : (k : Int) < (l.length : Int) := by omega
      have k3 : decide (l.length ≤ k) = false := by simp; omega
      rw [hxg] at r0
      cases hu : x.u
      · have hB : isB l h = false := by rw [hBe, hu]; rfl
        have HB := Lib.hid hB
        rw [hu] at r1
        clear hB hBe hx hxg hu e0 e1 e2 hk hgen h0
        go_enter Try.func46, Try.ntmps46
        go_wp2_with fail
        go_quiet (fail)
        go_wp2_with fail
        go_quiet (fail)
        go_wp2_with fail
        go_quiet (fail)
        go_wp2_with fail
        go_ret
        exact ⟨((HS.out.drewN _).drewN _).drewN _, Or.inl ⟨HB.out, rfl⟩⟩
      · rw [hu] at r1
        by_cases hg : (xg : Int) = gen
        · have hB : isB l h = true := by rw [hBe, hu, hxg, hg]; simp
          have HB := Lib.hid (And.intro hB (And.intro hx (And.intro hu (And.intro hxg hg))))
          have hgb : ((xg : Int) == gen) = true := by simp [hg]
          clear hB hBe hx hxg hu e0 e1 e2 hk hgen h0 hg
          go_enter Try.func46, Try.ntmps46
          go_wp2_with fail
          go_quiet (fail)
          go_wp2_with fail
          go_quiet (fail)
          go_wp2_with fail
          go_quiet (fail)
          go_wp2_with fail
          go_ret
          exact ⟨((HS.out.drewN _).drewN _).drewN _, Or.inr ⟨bb, k, c, x, HB.out.1, rfl, HH.out.1, HB.out.2.1, HB.out.2.2.1, by rw [HB.out.2.2.2.1, HB.out.2.2.2.2, HH.out.2], rfl⟩⟩
        · have hB : isB l h = false := by rw [hBe, hu, hxg]; simp [hg]
          have HB := Lib.hid hB
          have hgb : ((xg : Int) == gen) = false := by simp [hg]
          clear hB hBe hx hxg hu e0 e1 e2 hk hgen h0 hg
          go_enter Try.func46, Try.ntmps46
          go_wp2_with fail
          go_quiet (fail)
          go_wp2_with fail
          go_quiet (fail)
          go_wp2_with fail
          go_quiet (fail)
          go_wp2_with fail
          go_ret
          exact ⟨((HS.out.drewN _).drewN _).drewN _, Or.inl ⟨HB.out, rfl⟩⟩
    · have hB : isB l h = false := by
        unfold isB; rw [List.getElem?_eq_none (by rw [hk]; simp; omega)]; simp
      have HB := Lib.hid hB
      have k1 : (0 : Int) ≤ (k : Int) := by omega
      have k3 : decide (l.length ≤ k) = true := by simp; omega
      clear hB hk hgen h0
      go_enter Try.func46, Try.ntmps46
      go_wp2_with fail
      go_quiet (fail)
      go_wp2_with fail
      go_ret
      exact ⟨HS.out.drewN _, Or.inl ⟨HB.out, rfl⟩⟩
theorem slCells_off {l : List Sl} {k : Nat} {x : Sl} (h : l[k]? = some x) : slCells (l.set k ⟨x.g, false, x.v⟩) = (slCells l).set (k * 3 + 1) (.bool false) := by
  induction l generalizing k with
  | nil => simp at h
  | cons y l ih =>
    cases k with
    | zero => simp at h; subst h; rfl
    | succ k =>
      have e1 : (k + 1) * 3 = k * 3 + 3 := by omega
      rw [e1]
      show [Value.int .i64 y.g, .bool y.u, .int .i64 y.v] ++ slCells (l.set k _) = _
      rw [ih (by simpa using h)]
      rfl
theorem takeB_set {l : List Sl} {h : Hd} {k : Nat} {x : Sl} (hk : h.slot = (k : Nat)) (hx : l[k]? = some x) (hg : (x.g : Int) = h.gen) : takeB l h = l.set k ⟨x.g, false, x.v⟩ := by
  apply List.ext_getElem?
  intro i
  unfold takeB
  rw [takeP_at]
  by_cases e : i = k
  · subst e
    have hlt : i < l.length := by
      rcases Nat.lt_or_ge i l.length with g | g
      · exact g
      · rw [List.getElem?_eq_none g] at hx; cases hx
    rw [hx]
    have e2 : (⟨(i : Int), (x.g : Int)⟩ : Hd) = h := by cases h; simp at hk hg ⊢; exact ⟨hk.symm, hg⟩
    simp [hlt, e2]
  · rw [List.getElem?_set_ne (fun e2 => e e2.symm)]
    cases hy : l[i]? with
    | none => rfl
    | some y =>
      have e2 : ¬ (⟨(i : Int), (y.g : Int)⟩ : Hd) = h := by
        intro e3
        have := congrArg Hd.slot e3
        simp at this
        omega
      simp [e2]
theorem takeB_not {l : List Sl} {h : Hd} (hB : isB l h = false) : takeB l h = l := takeP_none l _ (fun k hk => by rw [of_decide_eq_true hk]; exact hB)

/-- What Take has done. -/
def TakePost (w : World) (O : Nat → Prop) (s n : Nat) (l : List Sl) (h : Hd) (w' : World) : Prop :=
  IsSlab w' O s (takeB l h) (if isB l h = true then n - 1 else n) ∧ Sm O w w'
def TakeRel (w : World) (O : Nat → Prop) (s n : Nat) (l : List Sl) (h : Hd) (r : Int) (a b : Value) (wr : World) : Prop :=
  (a = .int .i64 0 ∧ b = .int .i64 0 ∧ wr = w) ∨ (a = .int .i64 r ∧ b = .int .i64 1 ∧ TakePost w O s n l h wr)
theorem ptr_neq (w : World) (g : Addr) : (binOp .neq 96 (.pointer (some g)) (.pointer none)).run Try.prog w = .ok (.bool true) w := by
  simp [go_sem, Try.underlying96]
theorem take_done {w W2 W3 : World} {O : Nat → Prop} {s n bb k c : Nat} {l : List Sl} {h : Hd} {x : Sl}
    (HX : isB l h = true ∧ h.slot = (k : Nat) ∧ l[k]? = some x ∧ (x.g : Int) = h.gen ∧ W2.ownsRow 0 95 3 (.slice (some ⟨bb, 0, none⟩) l.length c) l.length (slCells l) ∧ Bk W2 s 93 #[.int .i64 4096, .slice (some ⟨bb, 0, none⟩) l.length c, .int .i64 (n + 1 : Nat)]) (hs : Sm No w W2)
    (HB : Bk w s 93 #[.int .i64 4096, .slice (some ⟨bb, 0, none⟩) l.length c, .int .i64 (n + 1 : Nat)] ∧ w.ownsRow 0 95 3 (.slice (some ⟨bb, 0, none⟩) l.length c) l.length (slCells l) ∧ O s ∧ (∀ g, (Value.slice (some ⟨bb, 0, none⟩) l.length c).ownBlock = some g → O g) ∧ ∀ b, O b → b < w.heap.size)
    (hbs : bb ≠ s) (e : (W2.setCell ⟨bb, k * 3 + 1, none⟩ (.bool false)).setCell ⟨s, 2, none⟩ (.int .i64 (n : Nat)) = W3) : TakePost w O s (n + 1) l h W3 := by
  obtain ⟨h1, h2, h3, h4, h5, h6⟩ := HX
  obtain ⟨_, _, g3, g4, g5⟩ := HB
  have hs3 : Sm (fun b => b = bb ∨ b = s) W2 W3 := by
    rw [← e]
    exact ((Sm.refl _ W2).setS (Or.inl rfl) _ _).setS (Or.inr rfl) _ _
  have hO := g4 bb rfl
  refine ⟨?_, ((hs.any _).trans hs3 (fun b _ h => by rcases h with rfl | rfl; exact hO; exact g3))⟩
  rw [if_pos h1, takeB_set h2 h3 h4]
  refine ⟨.slice (some ⟨bb, 0, none⟩) l.length c, ?_, ?_, g3, g4, fun b hb => Nat.lt_of_lt_of_le (g5 b hb) (Nat.le_trans hs.size hs3.size)⟩
  · have := (h6.far (p := ⟨bb, k * 3 + 1, none⟩) (fun e => hbs e.symm) (.bool false)).set 2 (.int .i64 (n : Nat))
    rw [e] at this
    exact this.eq (by simp)
  · rw [slCells_off h3, List.length_set]
    have s1 := (h5.stored (k * 3 + 1) (.bool false)).1
    have := own_row_sm s1 ((Sm.refl (fun b => b = s) _).set1 2 (.int .i64 (n : Nat))) (fun b e1 e2 => by injection e1 with e1; exact hbs (e1.trans e2))
    rw [e] at this
    exact this
set_option maxRecDepth 100000 in
set_option maxHeartbeats 4000000 in
theorem take_any (w : World) (O : Nat → Prop) (s n : Nat) (l : List Sl) (h : Hd) (hS : IsSlab w O s l n) (hb off c : Nat) (hA : RowC w (some ⟨hb, off, none⟩) [.int .i64 h.slot, .int .i64 h.gen]) (hn : isB l h = true → 0 < n) (hn2 : n ≤ 4096) :
    Calls Try.prog 35 #[.pointer (some ⟨s, 0, none⟩), .slice (some ⟨hb, off, none⟩) 1 c] w fun e w' => e = .returned (.int .i64 (if isB l h = true then 1 else 0)) ∧ TakePost w O s n l h w' := by
  obtain ⟨_, _, hA1, hbl, a0⟩ := hA 0 _ rfl
  injection hA1 with hA1; injection hA1 with q1 q2; subst q1 q2
  obtain ⟨_, _, hA1, _, a1⟩ := hA 1 _ rfl
  injection hA1 with hA1; injection hA1 with q1 q2; subst q1 q2
  rw [Nat.add_zero] at a0
  obtain ⟨r, hr⟩ : ∃ r : Int, (if isB l h = true then 1 else 0) = r := ⟨_, rfl⟩
  rw [hr]
  have H := Lib.hid (And.intro hS (And.intro hn hr))
  clear hS hn hA hr
  go_enter Try.func35, Try.ntmps35
  go_wp2_with fail
  go_loopw [5, 11] (fun a b wr => TakeRel w O s n l h r a b wr) (fun _ b _ => 1 - (intOf b).toNat)
  case atStart => exact Or.inl ⟨rfl, rfl, rfl⟩
  case round =>
    rcases hrel with ⟨rfl, rfl, rfl⟩ | ⟨rfl, rfl, hP⟩
    · obtain ⟨v, hb1, hr1, hO1, hO2, hO3⟩ := H.out.1
      have ha0 := ((Sm.refl No wr).alloc (.cells #[.int .i64 0, .int .i64 0] 29)).alloc (.cells #[.int .i64 0, .int .i64 0] 29)
      have HB := Lib.hid (And.intro hb1 (And.intro hr1 (And.intro hO1 (And.intro hO2 hO3))))
      clear hb1 hr1 hO1 hO2 hO3 ha0
      go_wp2_with fail
      have hs1 := (Sm.refl No wr).alloc (.cells #[.int .i64 h.slot, .int .i64 h.gen] 29)
      refine (at_any _ s n l v h (HB.out.1.no hs1) (own_row_sm HB.out.2.1 hs1 (fun _ _ h => h))).mono ?_
      rintro e W2 ⟨hs2, hat⟩
      have hs3 := hs1.trans hs2 (fun _ _ h => h)
      have HS := Lib.hid hs3
      rcases hat with ⟨hB, rfl⟩ | ⟨bb, k, c', x, hB, rfl, hk, hx, hu, hg, rfl⟩
      · have hr0 : r = 0 := by rw [← H.out.2.2, hB]; rfl
        subst hr0
        have HB2 := Lib.hid hB
        clear hB hs1 hs2 hs3
        go_wp2_with fail
        refine ⟨Or.inr ⟨rfl, rfl, ?_, HS.out.any _⟩, by simp [intOf]⟩
        rw [takeB_not HB2.out, HB2.out]
        exact H.out.1.no HS.out
      · have hr0 : r = 1 := by rw [← H.out.2.2, hB]; rfl
        subst hr0
        have hn0 := H.out.2.1 hB
        have hbl2 : bb < W2.heap.size := Nat.lt_of_lt_of_le (own_row_lt HB.out.2.1 rfl) hs3.size
        have hrow := own_row_sm HB.out.2.1 hs3 (fun _ _ h => h)
        have hbk := HB.out.1.no hs3
        have hbs : bb ≠ s := fun e => row_not_bk HB.out.2.1 HB.out.1 (by decide) (by rw [← e]; rfl)
        have r1 := row_at hrow (slCells_at hx).2.1
        have f1 := World.ownsRow.frozenAt hrow (k * 3 + 1)
        have c2 := hbk.at 2 (v := .int .i64 n) rfl
        have f2 := hbk.fz 2
        have hslt := hbk.lt
        obtain ⟨n', rfl⟩ : ∃ n', n = n' + 1 := ⟨n - 1, by omega⟩
        have HX := Lib.hid (And.intro hB (And.intro hk (And.intro hx (And.intro hg (And.intro hrow hbk)))))
        have n1 : (((n' + 1 : Nat) : Int) - 1) = (n' : Int) := by omega
        have n2 : 0 ≤ ((n' + 1 : Nat) : Int) - 1 := by omega
        clear hB hs1 hs2 hs3 hrow hbk hx hk hg hu hn0
        go_wp2_with fail
        refine ⟨Or.inr ⟨rfl, rfl, take_done HX.out HS.out HB.out hbs rfl⟩, by simp [intOf]⟩
    · have HP := Lib.hid hP
      clear hP
      go_wp2_with fail
      go_ret
      exact ⟨rfl, HP.out⟩
end Go.Proofs.Ytgmgjkafdkgalaa
