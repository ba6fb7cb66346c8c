/- New. -/
import Derived.Test.YtgmgjkafdkgalaaWhJ
import Derived.Laws.Tables
namespace Go.Proofs.Ytgmgjkafdkgalaa
open Go.RowKit Go.Proofs Go.Maps

def whC (now ord s tm : Nat) (f : Nat → Value) : Array Value := (Value.int .i64 now :: .int .i64 ord :: .pointer (some ⟨s, 0, none⟩) :: .map (some tm) :: (List.range 320).map f).toArray
theorem whC_at {now ord s tm : Nat} {f : Nat → Value} {j : Nat} (h : j < 320) : (whC now ord s tm f)[4 + j]? = some (f j) := by
  have e : 4 + j = j + 4 := by omega
  rw [e]
  unfold whC
  simp [h]
theorem whC_set {now ord s tm : Nat} {f : Nat → Value} {j : Nat} (v : Value) : (whC now ord s tm f).setIfInBounds (4 + j) v = whC now ord s tm (fun i => if i = j then v else f i) := by
  have e : 4 + j = j + 4 := by omega
  rw [e]
  unfold whC
  rw [List.setIfInBounds_toArray]
  congr 1
  show _ :: _ :: _ :: _ :: List.set _ j v = _
  congr 4
  apply List.ext_getElem?
  intro i
  by_cases hi : i < 320
  · by_cases e : j = i
    · subst e; simp [hi]
    · rw [List.getElem?_set_ne e]
      simp [hi]
      intro e2; exact absurd e2.symm e
  · rw [List.getElem?_eq_none (by simp; omega), List.getElem?_eq_none (by simp; omega)]
def nilMap : Value := .map none
theorem zero_wh (now s tm : Nat) : ((Try.zeroCells73.setIfInBounds 0 (.int .i64 now)).setIfInBounds 2 (.pointer (some ⟨s, 0, none⟩))).setIfInBounds 3 (.map (some tm)) = whC now 0 s tm (fun _ => nilMap) := by kernel_rfl
/-- The first m slots of the lists are laid. -/
def NewI (w : World) (r s tm now m : Nat) (wr : World) : Prop :=
  ∃ mb : Nat → Nat, Bk wr r 73 (whC now 0 s tm (fun j => if j < m then .map (some (mb j)) else nilMap)) ∧ (∀ j, j < m → MapL wr (mb j) []) ∧ (∀ i j, i < m → j < m → mb i = mb j → i = j) ∧ (∀ j, j < m → mb j ≠ tm ∧ mb j ≠ s ∧ w.heap.size ≤ mb j) ∧
    IsSlab wr (fun b => b = s) s [] 0 ∧ MapL wr tm [] ∧ Sm No w wr ∧ w.heap.size ≤ s ∧ w.heap.size ≤ tm ∧ w.heap.size ≤ r ∧ s ≠ r ∧ s ≠ tm
theorem NewI.start {w w2 : World} {s now : Nat} (hS : IsSlab w2 (fun b => b = s) s [] 0) (hs : Sm No w w2) (hz : w2.heap.size = w.heap.size + 1) (hsz : s = w.heap.size) {w' : World} (e : (w2.alloc (.map #[] 0)).alloc (.cells (whC now 0 s w2.heap.size (fun _ => nilMap)) 73) = w') :
    NewI w (w2.heap.size + 1) s w2.heap.size now 0 w' := by
  have h1 := (Sm.refl No w2).alloc (.map #[] 0)
  have h2 := (Sm.refl No (w2.alloc (.map #[] 0))).alloc (.cells (whC now 0 s w2.heap.size (fun _ => nilMap)) 73)
  rw [e] at h2
  have hb := Bk.newAt (w2.alloc (.map #[] 0)) 73 (whC now 0 s w2.heap.size (fun _ => nilMap)) (g := w2.heap.size + 1) (by simp)
  rw [e] at hb
  refine ⟨fun _ => 0, hb.eq (by congr 1), fun j hj => by omega, fun i j hi => by omega, fun j hj => by omega, (hS.no h1).no h2, ((MapL.made w2).sm h2 (fun h => h)), (hs.trans h1 (fun _ _ h => h)).trans h2 (fun _ _ h => h), by omega, by omega, by omega, by omega, by omega⟩
theorem NewI.step {w wr w' : World} {r s tm now m : Nat} (h : NewI w r s tm now m wr) (hm : m < 320) (e : (wr.setCell ⟨r, 4 + m, none⟩ (.map (some wr.heap.size))).alloc (.map #[] 0) = w') : NewI w r s tm now (m + 1) w' := by
  have e0 := World.setCell_alloc_past (w := wr) (.map #[] 0) r (4 + m) (.map (some wr.heap.size)) (by obtain ⟨_, h1, _⟩ := h; exact h1.lt)
  rw [← e0] at e
  obtain ⟨mb, h1, h2, h3, h4, h5, h6, h7, h8, h9, h10, h11, h12⟩ := h
  have hrl := h1.lt
  have ha := (Sm.refl No wr).alloc (.map #[] 0)
  have hs : Sm (fun b => b = r) (wr.alloc (.map #[] 0)) w' := by rw [← e]; exact (Sm.refl _ _).set1 _ _
  have hnm : MapL w' wr.heap.size [] := (MapL.made wr).sm hs (fun e => by omega)
  have mbr : ∀ j, j < m → mb j ≠ r := fun j hj => (h2 j hj).not_bk h1
  refine ⟨fun j => if j = m then wr.heap.size else mb j, ?_, fun j hj => ?_, fun i j hi hj e2 => ?_, fun j hj => ?_, ?_, ?_, ?_, h8, h9, h10, h11, h12⟩
  · have := (h1.sm ha (fun h => h)).set (4 + m) (.map (some wr.heap.size))
    rw [e, whC_set] at this
    refine this.eq ?_
    congr 1
    funext i
    by_cases e1 : i = m
    · subst e1; simp
    · by_cases e2 : i < m
      · simp [e1, e2]; omega
      · rw [if_neg e1, if_neg e2, if_neg (by omega)]
  · by_cases e1 : j = m
    · subst e1; simpa using hnm
    · simp only [e1, if_false]
      exact ((h2 j (by omega)).sm ha (fun h => h)).sm hs (mbr j (by omega))
  · by_cases e1 : i = m <;> by_cases e3 : j = m
    · omega
    · simp only [e1, e3, if_true, if_false] at e2
      have := (h2 j (by omega)).lt; omega
    · simp only [e1, e3, if_true, if_false] at e2
      have := (h2 i (by omega)).lt; omega
    · simp only [e1, e3, if_false] at e2
      exact h3 i j (by omega) (by omega) e2
  · by_cases e1 : j = m
    · simp only [e1, if_true]
      have := h6.lt
      obtain ⟨_, hsb, _⟩ := h5
      have := hsb.lt
      have := h7.size
      exact ⟨by omega, by omega, by omega⟩
    · simp only [e1, if_false]
      exact h4 j (by omega)
  · exact (h5.no ha).sm hs (fun b hb e => h11 (hb.symm.trans e))
  · exact (h6.sm ha (fun h => h)).sm hs (h6.not_bk h1)
  · exact ((h7.trans ha (fun _ _ h => h)).any _ |>.trans hs (fun b _ e => e)).mono (fun b hb e => by rw [e] at hb; omega)
theorem whC_full (now ord s tm : Nat) (mb : Nat → Nat) : whC now ord s tm (fun j => if j < 5 * 64 then .map (some (mb j)) else nilMap) = whCells now ord s tm mb := by
  have e : (List.range 320).map (fun j => if j < 5 * 64 then Value.map (some (mb j)) else nilMap) = (List.range 320).map (fun j => Value.map (some (mb j))) := by
    apply List.map_congr_left
    intro j hj
    rw [if_pos]
    have := List.mem_range.1 hj
    omega
  unfold whC whCells
  rw [e]
theorem NewI.done {w wr : World} {r s tm now : Nat} (hnow : now ≤ 1099511627776) (h : NewI w r s tm now (5 * 64) wr) : ∃ O : Nat → Prop, IsWheel wr O r (St.new now) ∧ Sm No w wr ∧ ∀ b, O b → w.heap.size ≤ b := by
  obtain ⟨mb, h1, h2, h3, h4, h5, h6, h7, h8, h9, h10, h11, h12⟩ := h
  have hI : IsW wr (fun b => b = s) r s tm mb now 0 0 [] [] [] := {
    bk := h1.eq (whC_full _ _ _ _ _)
    slab := h5
    tms := h6
    ls := fun j hj => h2 j hj
    tb := fun x hx => by cases hx
    nd := List.nodup_nil
    inj := fun i j hi hj => h3 i j hi hj
    tmb := fun j hj => (h4 j hj).1
    so := fun b hb => by subst hb; exact ⟨h11, h12, fun j hj => (h4 j hj).2.1.symm, fun x hx => by cases hx⟩ }
  refine ⟨blW (fun b => b = s) r tm mb [], ⟨_, s, tm, mb, [], hI, List.Perm.refl _, (fun x hx => by cases hx), St.Ok.new hnow, fun b hb => hb, fun b hb => hI.lt hb⟩, h7, fun b hb => ?_⟩
  rcases hb with rfl | rfl | rfl | ⟨j, hj, rfl⟩ | ⟨x, hx, _⟩
  · exact h8
  · exact h10
  · exact h9
  · exact (h4 j hj).2.2
  · cases hx
set_option maxRecDepth 100000 in
set_option maxHeartbeats 4000000 in
theorem wnew_any (w : World) (now : Nat) (hnow : now ≤ 1099511627776) :
    Calls Try.prog 11 #[.int .i64 now] w fun e w' => ∃ r O, e = .returned (.tuple #[.pointer (some ⟨r, 0, none⟩), .int .i64 0]) ∧ IsWheel w' O r (St.new now) ∧ Sm No w w' ∧ ∀ b, O b → w.heap.size ≤ b := by
  have hmm := @run_makeMap Try.prog
  have ht : isTime (now : Int) = true := by simp [isTime]; omega
  have HT := Lib.hid ht
  clear ht
  go_enter Try.func11, Try.ntmps11
  go_wp2_with fail
  refine (isTime_any w _).mono ?_
  rw [HT.out]
  rintro e w1 ⟨rfl, rfl⟩
  go_wp2_with fail
  refine (slabNew_any w1).mono ?_
  rintro e w2 ⟨rfl, hS2, hs2, hz2⟩
  have H2 := Lib.hid (And.intro hS2 (And.intro hs2 hz2))
  clear hS2 hs2 hz2
  go_wp2_with fail
  rw [zero_wh]
  obtain ⟨w3, hw3⟩ : ∃ w3, (w2.alloc (.map #[] 0)).alloc (.cells (whC now 0 w1.heap.size w2.heap.size (fun _ => nilMap)) 73) = w3 := ⟨_, rfl⟩
  rw [hw3]
  have hN := NewI.start H2.out.1 H2.out.2.1 H2.out.2.2 rfl hw3
  obtain ⟨s, hs⟩ : ∃ s, w1.heap.size = s := ⟨_, rfl⟩
  obtain ⟨tm, htm⟩ : ∃ tm, w2.heap.size = tm := ⟨_, rfl⟩
  obtain ⟨r, hr⟩ : ∃ r, tm + 1 = r := ⟨_, rfl⟩
  rw [hs, htm, hr] at hN
  rw [hs, htm, hr]
  have HN := Lib.hid hN
  clear hw3 hN hs htm hr H2
  go_loopw [24] (fun i wr => ∃ k : Nat, k ≤ 5 ∧ i = .int .i64 k ∧ NewI w1 r s tm now (k * 64) wr) (fun i _ => 5 - (intOf i).toNat)
  case atStart => exact ⟨0, by omega, rfl, HN.out⟩
  case round =>
    obtain ⟨k, hk, rfl, hI⟩ := hrel
    have HI := Lib.hid hI
    clear hI
    by_cases hlt : k < 5
    · have hd : decide ((k : Int) < 5) = true := by simp; omega
      go_wp2_with fail
      go_loopw [27] (fun i wr => ∃ m : Nat, m ≤ 64 ∧ i = .int .i64 m ∧ NewI w1 r s tm now (k * 64 + m) wr) (fun i _ => 64 - (intOf i).toNat)
      case atStart => exact ⟨0, by omega, rfl, HI.out⟩
      case round =>
        obtain ⟨m, hm, rfl, hI⟩ := hrel
        have HJ := Lib.hid hI
        by_cases hlt2 : m < 64
        · have hd2 : decide ((m : Int) < 64) = true := by simp; omega
          obtain ⟨_, h1, _⟩ := hI
          have cj := h1.at (4 + (k * 64 + m)) (whC_at (by omega))
          rw [if_neg (by omega), show 4 + (k * 64 + m) = 4 + k * 64 + m by omega] at cj
          have fj := h1.fz (4 + k * 64 + m)
          have hrl := h1.lt
          have b1 : (0 : Int) ≤ (k : Int) := by omega
          have b2 : (k : Int) < 5 := by omega
          have b3 : (0 : Int) ≤ (m : Int) := by omega
          have b4 : (m : Int) < 64 := by omega
          unfold nilMap at cj
          clear h1
          go_wp2_with fail
          exact ⟨⟨m + 1, by omega, by go_num, HJ.out.step (by omega) (by rw [show 4 + (k * 64 + m) = 4 + k * 64 + m by omega])⟩, by simp [intOf]; omega⟩
        · have hd2 : decide ((m : Int) < 64) = false := by simp; omega
          obtain rfl : m = 64 := by omega
          clear hI
          go_wp2_with fail
          exact ⟨⟨k + 1, by omega, by go_num, by rw [show (k + 1) * 64 = k * 64 + 64 by omega]; exact HJ.out⟩, by simp [intOf]; omega⟩
    · have hd : decide ((k : Int) < 5) = false := by simp; omega
      obtain rfl : k = 5 := by omega
      go_wp2_with fail
      go_ret2
      obtain ⟨O, g1, g2, g3⟩ := NewI.done hnow HI.out
      exact ⟨r, O, rfl, g1, g2, g3⟩
end Go.Proofs.Ytgmgjkafdkgalaa
