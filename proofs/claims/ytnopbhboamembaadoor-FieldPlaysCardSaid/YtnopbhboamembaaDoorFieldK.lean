/- usherlaw10's fields and heavy; field's Len, All. -/
import Derived.Test.YtnopbhboamembaaDoorFieldI
import Derived.Test.YtnopbhboamembaaDoorOpenF
import Derived.Deep.QuietTactic
import Derived.BigQuiet
import Derived.WalkSpells
import Derived.Test.YtnopbhboamembaaDoorOwnMore
namespace Go.Proofs.YtnopbhboamembaaDoor
open Go.RowKit Go.Proofs

theorem fldCells_one (l : List Fld) : ∀ u ∈ fldCells l, u.oneCell' = true := by
  intro u hu
  obtain ⟨x, _, hx⟩ := List.mem_flatMap.1 hu
  simp only [List.mem_cons, List.not_mem_nil, or_false] at hx
  rcases hx with rfl | rfl <;> rfl
theorem FRow.rowC {w : World} {A : Option Addr} {l : List Fld} (h : FRow w A l) : RowC w A (fldCells l) := by
  intro j u hj
  have hlt : j < (fldCells l).length := (List.getElem?_eq_some_iff.1 hj).1
  rw [fldCells_len] at hlt
  obtain ⟨bb, off, hA, hb, h0, h1⟩ := h (j / 2) (by omega)
  obtain ⟨g0, g1⟩ := fldCells_at l (j / 2) (by omega)
  refine ⟨bb, off, hA, hb, ?_⟩
  by_cases e : j % 2 = 0
  · have e2 : j / 2 * 2 = j := by omega
    rw [e2] at g0 h0
    rw [g0] at hj
    injection hj with hj
    rw [h0, hj]
  · have e2 : j / 2 * 2 + 1 = j := by omega
    rw [e2] at g1
    rw [Nat.add_assoc, e2] at h1
    rw [g1] at hj
    injection hj with hj
    rw [h1, hj]
theorem RowC.frow {w : World} {A : Option Addr} {l : List Fld} (h : RowC w A (fldCells l)) : FRow w A l := by
  intro k hk
  obtain ⟨g0, g1⟩ := fldCells_at l k hk
  obtain ⟨bb, off, hA, hb, h0⟩ := h _ _ g0
  obtain ⟨bb', off', hA', _, h1⟩ := h _ _ g1
  rw [hA] at hA'
  injection hA' with e
  injection e with e1 e2
  subst e1 e2
  exact ⟨bb, off, hA, hb, h0, h1⟩
theorem IsFields.row0 {w : World} {B g : Nat} {t : TypeId} {v : Value} {l : List Fld} (h : IsFields w B g t v l) : ∃ A c, v = .slice A l.length c ∧ FRow w A l ∧ (A = none → l.length = 0 ∧ c = 0) := by
  obtain ⟨A, c, hv, hR, hc, h0⟩ := own_rowC h.2.1
  exact ⟨A, c, hv, hR.frow, fun e => ⟨by have := h0 e; omega, h0 e⟩⟩

def CountRel (w : World) (n : Nat) (i : Value) (wr : World) : Prop := ∃ k : Nat, k ≤ n ∧ i = .int .i64 k ∧ Sm No w wr

set_option maxHeartbeats 2000000 in
theorem fields_any (w : World) (A B : Option Addr) (c d : Nat) (l : List Fld) (hA : FRow w A l) (hB : FRow w B l) (hl : l.length ≤ 1000000) :
    Calls Tryd.prog 13 #[.slice A l.length c, .slice B l.length d] w fun e w' => e = .returned (.bool true) ∧ Sm No w w' := by
  have HA := Lib.hid (And.intro hA hB)
  clear hA hB
  go_enter Tryd.func13, Tryd.ntmps13
  go_wp2_with fail
  go_loopw [5] (fun i wr => CountRel w l.length i wr) (fun i _ => l.length - (intOf i).toNat)
  case atStart => exact ⟨0, Nat.zero_le _, rfl, Sm.refl _ _⟩
  case round =>
    obtain ⟨k, hk, rfl, hs⟩ := hrel
    have HS := Lib.hid hs
    clear hs
    by_cases hlt : k < l.length
    · obtain ⟨b1, o1, hA1, hb1, r0, r1⟩ := (HA.out.1.no HS.out) k hlt
      obtain ⟨b2, o2, hA2, hb2, r2, r3⟩ := (HA.out.2.no HS.out) k hlt
      subst hA1 hA2
      obtain ⟨nm, hnm⟩ : ∃ x, l[k].1 = x := ⟨_, rfl⟩
      obtain ⟨vl, hvl⟩ : ∃ x, l[k].2 = x := ⟨_, rfl⟩
      rw [hnm] at r0 r2
      rw [hvl] at r1 r3
      clear hnm hvl
      have k1 : (0 : Int) ≤ (k : Int) := by omega
      have k2 : (k : Int) < (l.length : Int) := by omega
      go_wp2_with fail
      go_quiet (fail)
      go_wp2_with fail
      exact ⟨⟨k + 1, by omega, by go_num, HS.out.drewN _⟩, by simp [intOf]; omega⟩
    · go_wp2_with fail
      go_ret
      exact ⟨rfl, HS.out⟩

/-- The acts that are looked at are light. -/
def Light1 (x : Act10) : Prop := x.name.size ≤ 5000 ∧ x.other.size ≤ 5000 ∧ x.l.length ≤ 5000 ∧ Short x.l
def HeavyPost (w : World) (l : List Act10) (e : Ending) (w' : World) : Prop := ∃ b, e = .returned (.bool b) ∧ Sm No w w' ∧ (b = false → ∀ k, (h : k < l.length) → k < 80 → Light1 l[k])
def HeavyRel (w : World) (l : List Act10) (n i : Value) (wr : World) : Prop :=
  ∃ (k m : Nat), k ≤ l.length ∧ i = .int .i64 k ∧ n = .int .i64 m ∧ m ≤ 5000 ∧ Sm No w wr ∧ ∀ j, (h : j < l.length) → j < k → Light1 l[j]
def HeavyRel2 (w : World) (s0 : Nat) (l : List Fld) (n i : Value) (wr : World) : Prop :=
  ∃ (k m : Nat), k ≤ l.length ∧ i = .int .i64 k ∧ n = .int .i64 m ∧ k ≤ m ∧ (0 < k → m ≤ 5000) ∧ s0 ≤ m ∧ m ≤ 562949953421312 ∧ Sm No w wr ∧ ∀ j, (h : j < l.length) → j < k → l[j].1.size ≤ 5000 ∧ l[j].2.size ≤ 5000

set_option maxHeartbeats 4000000 in
theorem heavy_any (w : World) (A : Option Addr) (c : Nat) (l : List Act10) (hA : ArgA w A l c) :
    Calls Tryd.prog 9 #[.slice A l.length c] w (HeavyPost w l) := by
  obtain ⟨hA, hlc, hc, hx, _⟩ := hA
  have hl : l.length ≤ 4398046511104 := by omega
  have HA := Lib.hid (And.intro hA hx)
  clear hA hx
  go_enter Tryd.func9, Tryd.ntmps9
  go_wp2_with fail
  go_loopw [3, 4, 5] (fun n i _ wr => HeavyRel w l n i wr) (fun _ i _ _ => l.length - (intOf i).toNat)
  case atStart => exact ⟨0, 0, Nat.zero_le _, rfl, rfl, by omega, Sm.refl _ _, fun j _ h => absurd h (by omega)⟩
  case round =>
    obtain ⟨k, m, hk, rfl, rfl, hm, hs, hli⟩ := hrel
    have HS := Lib.hid (And.intro hs hli)
    clear hs hli
    by_cases hlt : k < l.length
    · by_cases h80 : k < 80
      · obtain ⟨⟨bb, off, hAe, hbb, r0, r1, r2, r3⟩, hfr⟩ := (HA.out.1.no HS.out.1) k hlt
        obtain ⟨x1, x2, x3⟩ := HA.out.2 _ (List.getElem_mem hlt)
        subst hAe
        obtain ⟨⟨kd, nm, ot, la, lc, fl⟩, hxk⟩ : ∃ x, l[k] = x := ⟨_, rfl⟩
        rw [hxk] at r0 r1 r2 r3 hfr x1 x2 x3
        have HX := Lib.hid (And.intro hxk (And.intro hfr x3))
        have x4 : fl.length ≤ 4398046511104 := Nat.le_trans x3.2.1 x3.2.2.1
        dsimp only at r1 r2 r3 x1 x2
        clear hxk hfr x3 r0
        have k1 : (0 : Int) ≤ (k : Int) := by omega
        have k2 : (k : Int) < (l.length : Int) := by omega
        go_wp2_with fail
        go_quiet (fail)
        go_wp2_with fail
        go_loopw [3, 5] (fun n i wr' => HeavyRel2 wr (nm.size + ot.size) fl n i wr') (fun _ i _ => fl.length - (intOf i).toNat)
        case atStart => exact ⟨0, m + 5 + nm.size + ot.size, Nat.zero_le _, rfl, by go_num, Nat.zero_le _, fun h => absurd h (by omega), by omega, by omega, (Sm.refl No wr).drewN _, fun j _ h => absurd h (by omega)⟩
        case round =>
          obtain ⟨k', m', hk', rfl, rfl, hm1, hm2, hm0, hm3, hs2, hli2⟩ := hrel
          have r1' := hs2.cell hbb r1
          have r2' := hs2.cell hbb r2
          have r3' := hs2.cell hbb r3
          have HS2 := Lib.hid (And.intro hs2 hli2)
          clear hs2 hli2
          by_cases hlt2 : k' < fl.length
          · obtain ⟨b3, o3, hB3, hb3, q0, q1⟩ := (HX.out.2.1.no HS2.out.1) k' hlt2
            obtain ⟨y1, y2⟩ := HX.out.2.2.2.2.2.1 _ (List.getElem_mem hlt2)
            subst hB3
            obtain ⟨nm', hnm⟩ : ∃ x, fl[k'].1 = x := ⟨_, rfl⟩
            obtain ⟨vl', hvl⟩ : ∃ x, fl[k'].2 = x := ⟨_, rfl⟩
            rw [hnm] at q0 y1
            rw [hvl] at q1 y2
            have HN := Lib.hid (And.intro hnm hvl)
            clear hnm hvl
            have k3 : (0 : Int) ≤ (k' : Int) := by omega
            have k4 : (k' : Int) < (fl.length : Int) := by omega
            by_cases hbig : 5000 < m' + 5 + nm'.size + vl'.size
            · go_wp2_with fail
              go_quiet (fail)
              go_wp2_with fail
              go_ret
              exact ⟨true, rfl, HS.out.1.trans (HS2.out.1.drewN _) (fun _ _ h => h), fun h => by cases h⟩
            · go_wp2_with fail
              go_quiet (fail)
              go_wp2_with fail
              exact ⟨⟨k' + 1, m' + 5 + nm'.size + vl'.size, by omega, by go_num, by go_num, by omega, fun _ => by omega, by omega, by omega, HS2.out.1.drewN _, fun j hj hjk => by
                by_cases e : j = k'
                · subst e; rw [HN.out.1, HN.out.2]; exact ⟨by omega, by omega⟩
                · exact HS2.out.2 j hj (by omega)⟩, by simp [intOf]; omega⟩
          · by_cases hbig : 5000 < m'
            · go_wp2_with fail
              go_ret
              exact ⟨true, rfl, HS.out.1.trans HS2.out.1 (fun _ _ h => h), fun h => by cases h⟩
            · go_wp2_with fail
              exact ⟨⟨k + 1, m', by omega, by go_num, rfl, by omega, HS.out.1.trans HS2.out.1 (fun _ _ h => h), fun j hj hjk => by
                by_cases e : j = k
                · subst e
                  rw [HX.out.1]
                  refine ⟨by dsimp only; omega, by dsimp only; omega, by dsimp only; omega, ?_⟩
                  show Short fl
                  intro x hx
                  obtain ⟨i, hi, rfl⟩ := List.getElem_of_mem hx
                  obtain ⟨a1, a2⟩ := HS2.out.2 i hi (by omega)
                  exact ⟨by omega, by omega⟩
                · exact HS.out.2 j hj (by omega)⟩, by simp [intOf]; omega⟩
      · go_wp2_with fail
        go_ret
        exact ⟨false, rfl, HS.out.1, fun _ j hj hj80 => HS.out.2 j hj (by omega)⟩
    · go_wp2_with fail
      go_ret
      exact ⟨false, rfl, HS.out.1, fun _ j hj hj80 => HS.out.2 j hj (by omega)⟩

/-! field's Len, All. -/
theorem len_any (w : World) (B g : Nat) (v : Value) (l : List Fld) (hF : IsFields w B g 69 v l) (_ : l.length ≤ 1000000) :
    Calls Tryd.prog 23 #[.pointer (some ⟨g, 0, none⟩)] w fun e w' => e = .returned (.int .i64 l.length) ∧ w = w' := by
  obtain ⟨A, c, rfl, _⟩ := hF.row
  have cg := hF.1.at 0 (v := .slice A l.length c) rfl
  clear hF
  go_enter Tryd.func23, Tryd.ntmps23
  go_wp2_with fail
  go_ret
  exact ⟨rfl, rfl⟩
theorem len_nil (w : World) : Calls Tryd.prog 23 #[.pointer none] w fun e w' => e = .returned (.int .i64 0) ∧ w = w' := by
  go_enter Tryd.func23, Tryd.ntmps23
  go_wp2_with fail
  go_ret
  exact ⟨rfl, rfl⟩

/-- v is a slice of a block of its own, not before block B, that holds just these fields. -/
def OwnF (w : World) (B : Nat) (v : Value) (l : List Fld) : Prop := w.ownsRow B 47 2 v l.length (fldCells l)
def ClonePost (w : World) (l : List Fld) (e : Ending) (w' : World) : Prop := ∃ v, e = .returned v ∧ OwnF w' w.heap.size v l ∧ Sm No w w'

set_option maxRecDepth 100000 in
set_option maxHeartbeats 1000000 in
theorem clone_any (w : World) (A : Option Addr) (c : Nat) (l : List Fld) (hA : FRow w A l) (hl : l.length ≤ 1000000) (h0 : A = none → l.length = 0 ∧ c = 0) :
    Calls Tryd.prog 43 #[.slice A l.length c] w (ClonePost w l) := by
  have hA0 := hA
  have hsl := fun (w : World) (a : Option Addr) (n c : Nat) => Lib.run_eql_slice_nil (P := Tryd.prog) w 22 47 a n c 0 0 Tryd.underlying22
  clear hA
  cases A with
  | none =>
    obtain ⟨e, rfl⟩ := h0 rfl
    obtain rfl := List.eq_nil_of_length_eq_zero e
    go_enter Tryd.func43, Tryd.ntmps43
    go_wp2_with fail
    go_ret
    exact ⟨_, rfl, World.ownsRow_nil _ _ _ 2, Sm.refl _ _⟩
  | some a =>
    clear h0
    have HR := Lib.hid (hA0.rowC)
    clear hA0
    go_enter Tryd.func43, Tryd.ntmps43
    go_wp2_with (refine wpList_push_row rfl _ _ 22 47 rfl Tryd.underlying22 _ 2 32 infoFieldB rfl (by decide) (by decide) w.heap.size 0 _ [] rfl (own_empty w _ _ (Nat.le_refl _)) a l.length c (fldCells l) rfl (fldCells_len l) (HR.out.no ((Sm.refl No w).alloc _)) (fldCells_one l) (by omega) (by simp) ?_; intro v' w1 hown hs1 _ _)
    go_ret
    refine ⟨_, rfl, by simpa [OwnF] using hown, ((Sm.refl No w).alloc (.cells #[] 47)).trans hs1 (fun b hb e => ?_)⟩
    have e' : some w.heap.size = some b := e
    injection e' with e'
    omega

/-- field's All. -/
theorem all_any (w : World) (B g : Nat) (v : Value) (l : List Fld) (hF : IsFields w B g 69 v l) (hl : l.length ≤ 1000000) :
    Calls Tryd.prog 22 #[.pointer (some ⟨g, 0, none⟩)] w (ClonePost w l) := by
  obtain ⟨A, c, rfl, hR, h0⟩ := hF.row0
  have cg := hF.1.at 0 (v := .slice A l.length c) rfl
  have HC := Lib.hid (clone_any w A c l hR hl h0)
  clear hF hR h0
  go_enter Tryd.func22, Tryd.ntmps22
  go_wp2_with fail
  refine HC.out.mono ?_
  rintro e w1 ⟨v, rfl, hO, hs⟩
  have HX := Lib.hid (And.intro hO hs)
  clear hO hs
  go_wp2_with fail
  go_ret
  exact ⟨v, rfl, HX.out.1, HX.out.2⟩
theorem all_nil (w : World) : Calls Tryd.prog 22 #[.pointer none] w fun e w' => e = .returned (.slice none 0 0) ∧ w = w' := by
  go_enter Tryd.func22, Tryd.ntmps22
  go_wp2_with fail
  go_ret
  exact ⟨rfl, rfl⟩
end Go.Proofs.YtnopbhboamembaaDoor
