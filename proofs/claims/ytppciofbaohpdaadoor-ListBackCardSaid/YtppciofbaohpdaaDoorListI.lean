/- usherlaw9's texts, params, heavy; Has; known. -/
import Derived.Test.YtppciofbaohpdaaDoorListH
import Derived.Test.YtppciofbaohpdaaDoorFieldK
namespace Go.Proofs.YtppciofbaohpdaaDoor
open Go.RowKit Go.Proofs

theorem OwnT.row {w : World} {B : Nat} {v : Value} {l : List (List UInt8)} (h : OwnT w B v l) : ∃ A c, v = .slice A l.length c ∧ RowC w A (l.map strV) ∧ (∀ a, A = some a → B ≤ a.block ∧ a.block < w.heap.size) := by
  obtain ⟨A, c, rfl, hR, _, _⟩ := own_rowC h
  exact ⟨A, c, rfl, hR, fun a ha => by subst ha; exact World.ownsRow.lt h a.block rfl⟩
theorem OwnP.row {t : TypeId} {w : World} {B : Nat} {v : Value} {l : List Par} (h : OwnP t w B v l) : ∃ A c, v = .slice A l.length c ∧ RowC w A (parCells l) := by
  obtain ⟨A, c, rfl, hR, _, _⟩ := own_rowC h
  exact ⟨A, c, rfl, hR⟩
theorem RowC.at {w : World} {A : Option Addr} {cs : List Value} (h : RowC w A cs) {j : Nat} {u : Value} (hj : cs[j]? = some u) : ∃ bb off, A = some ⟨bb, off, none⟩ ∧ bb < w.heap.size ∧ w.cell? ⟨bb, off + j, none⟩ = some u := h j u hj
theorem RowC.at2 {w : World} {A : Option Addr} {cs : List Value} (h : RowC w A cs) {j k : Nat} {u v : Value} (hj : cs[j]? = some u) (hk : cs[k]? = some v) : ∃ bb off, A = some ⟨bb, off, none⟩ ∧ bb < w.heap.size ∧ w.cell? ⟨bb, off + j, none⟩ = some u ∧ w.cell? ⟨bb, off + k, none⟩ = some v := by
  obtain ⟨bb, off, hA, hb, h1⟩ := h j u hj
  obtain ⟨bb', off', hA', _, h2⟩ := h k v hk
  rw [hA] at hA'
  injection hA' with e
  injection e with e1 e2
  subst e1 e2
  exact ⟨bb, off, hA, hb, h1, h2⟩
theorem SRow.rowC {w : World} {A : Option Addr} {vs : List ByteArray} (h : SRow w A vs) : RowC w A ((bytesL vs).map strV) := by
  intro j u hj
  have hlt : j < vs.length := by simpa [bytesL] using (List.getElem?_eq_some_iff.1 hj).1
  obtain ⟨bb, off, hA, hb, h1⟩ := h j hlt
  refine ⟨bb, off, hA, hb, ?_⟩
  rw [h1]
  simp [bytesL, hlt] at hj
  rw [← hj]
  rfl

set_option maxHeartbeats 2000000 in
theorem texts9_any (w : World) (A B : Option Addr) (c d : Nat) (l : List (List UInt8)) (hA : RowC w A (l.map strV)) (hB : RowC w B (l.map strV)) (hl : l.length ≤ 1000000) :
    Calls Tryd.prog 27 #[.slice A l.length c, .slice B l.length d] w fun e w' => e = .returned (.bool true) ∧ Sm No w w' := by
  have HA := Lib.hid (And.intro hA hB)
  clear hA hB
  go_enter Tryd.func27, Tryd.ntmps27
  go_wp2_with fail
  go_loopw [5] (fun i wr => CountRel w l.length i wr) (fun i _ => l.length - (intOf i).toNat)
  case atStart => exact ⟨0, Nat.zero_le _, rfl, Sm.refl _ _⟩
  case round =>
    obtain ⟨k, hk, rfl, hs⟩ := hrel
    have HS := Lib.hid hs
    clear hs
    by_cases hlt : k < l.length
    · have e1 : (l.map strV)[k]? = some (strV l[k]) := by simp [hlt]
      obtain ⟨b1, o1, hA1, hb1, r0⟩ := (HA.out.1.no HS.out).at e1
      obtain ⟨b2, o2, hA2, hb2, r1⟩ := (HA.out.2.no HS.out).at e1
      subst hA1 hA2
      obtain ⟨nm, hnm⟩ : ∃ x, l[k] = x := ⟨_, rfl⟩
      rw [hnm, strV] at r0 r1
      have k1 : (0 : Int) ≤ (k : Int) := by omega
      have k2 : (k : Int) < (l.length : Int) := by omega
      clear hnm e1
      go_wp2_with fail
      first
        | (go_quiet (fail)
           go_wp2_with fail
           exact ⟨⟨k + 1, by omega, by go_num, HS.out.drewN _⟩, by simp [intOf]; omega⟩)
        | exact ⟨⟨k + 1, by omega, by go_num, HS.out⟩, by simp [intOf]; omega⟩
    · go_wp2_with fail
      go_ret
      exact ⟨rfl, HS.out⟩

set_option maxHeartbeats 2000000 in
theorem params9_any (w : World) (A B : Option Addr) (c d : Nat) (l : List Par) (hA : RowC w A (parCells l)) (hB : RowC w B (parCells l)) (hl : l.length ≤ 1000000) :
    Calls Tryd.prog 33 #[.slice A l.length c, .slice B l.length d] w fun e w' => e = .returned (.bool true) ∧ Sm No w w' := by
  have HA := Lib.hid (And.intro hA hB)
  clear hA hB
  go_enter Tryd.func33, Tryd.ntmps33
  go_wp2_with fail
  go_loopw [5] (fun i wr => CountRel w l.length i wr) (fun i _ => l.length - (intOf i).toNat)
  case atStart => exact ⟨0, Nat.zero_le _, rfl, Sm.refl _ _⟩
  case round =>
    obtain ⟨k, hk, rfl, hs⟩ := hrel
    have HS := Lib.hid hs
    clear hs
    by_cases hlt : k < l.length
    · obtain ⟨e1, e2⟩ := parCells_at l k hlt
      obtain ⟨b1, o1, hA1, hb1, r0, r1⟩ := (HA.out.1.no HS.out).at2 e1 e2
      obtain ⟨b2, o2, hA2, hb2, r2, r3⟩ := (HA.out.2.no HS.out).at2 e1 e2
      subst hA1 hA2
      obtain ⟨⟨nm, vl⟩, hnm⟩ : ∃ x, l[k] = x := ⟨_, rfl⟩
      rw [hnm] at r0 r1 r2 r3
      rw [← Nat.add_assoc] at r1 r3
      dsimp only [strV] at r0 r1 r2 r3
      have k1 : (0 : Int) ≤ (k : Int) := by omega
      have k2 : (k : Int) < (l.length : Int) := by omega
      clear hnm e1 e2
      go_wp2_with fail
      go_quiet (fail)
      go_wp2_with fail
      exact ⟨⟨k + 1, by omega, by go_num, HS.out.drewN _⟩, by simp [intOf]; omega⟩
    · go_wp2_with fail
      go_ret
      exact ⟨rfl, HS.out⟩
end Go.Proofs.YtppciofbaohpdaaDoor
