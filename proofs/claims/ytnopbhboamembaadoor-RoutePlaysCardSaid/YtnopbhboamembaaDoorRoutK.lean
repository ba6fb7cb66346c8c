/- usherlaw19: heavy. -/
import Derived.Test.YtnopbhboamembaaDoorOpenL
import Derived.Test.YtnopbhboamembaaDoorRoutI
namespace Go.Proofs.YtnopbhboamembaaDoor
open Go.RowKit Go.Proofs

def SmallA (x : LaidA) : Prop := x.pat.size ≤ 4000 ∧ x.ms.length ≤ 4000 ∧ ∀ t ∈ x.ms, t.size ≤ 4000
def SmallL (l : List LaidA) : Prop := l.length ≤ 100 ∧ ∀ x ∈ l, SmallA x
def HvRel (w : World) (l : List LaidA) (nv iv : Value) (wr : World) : Prop :=
  ∃ (k : Nat) (m : Nat), k ≤ l.length ∧ m ≤ 4000 ∧ k ≤ m ∧ nv = .int .i64 m ∧ iv = .int .i64 k ∧ Sm No w wr ∧ ∀ x ∈ l.take k, SmallA x
def HiRel (w : World) (x : LaidA) (k0 : Nat) (nv jv : Value) (wr : World) : Prop :=
  ∃ (j : Nat) (m : Nat), j ≤ x.ms.length ∧ (0 < j → m ≤ 4000) ∧ m ≤ 4005 + 140737488351232 ∧ k0 + 1 ≤ m ∧ x.pat.size + j ≤ m ∧ nv = .int .i64 m ∧ jv = .int .i64 j ∧ Sm No w wr ∧ ∀ t ∈ x.ms.take j, t.size ≤ 4000
/-- What heavy says: false of what is small. -/
def HeavyPost (w : World) (l : List LaidA) (e : Ending) (w' : World) : Prop := ∃ b, e = .returned (.bool b) ∧ Sm No w w' ∧ (b = false → SmallL l)
theorem take_stepA {α : Type} {l : List α} {p : α → Prop} {k : Nat} (h : ∀ x ∈ l.take k, p x) (hk : k < l.length) (hp : p l[k]) : ∀ x ∈ l.take (k + 1), p x := by
  intro x hx
  rw [List.take_succ_eq_append_getElem hk, List.mem_append, List.mem_singleton] at hx
  rcases hx with hx | rfl
  · exact h x hx
  · exact hp

set_option maxRecDepth 100000 in
set_option maxHeartbeats 4000000 in
theorem heavy19_any (w : World) (A : Option Addr) (l : List LaidA) (c : Nat) (h : ArgL w A l c) : Calls Tryd.prog 25 #[.slice A l.length c] w (HeavyPost w l) := by
  have HA := Lib.hid h
  have hc1 : (l.length : Int) ≤ 4398046511104 := by have := h.2.1; have := h.2.2.1; omega
  clear h
  go_enter Tryd.func25, Tryd.ntmps25
  go_wp2_with fail
  go_loopw [3, 4] (fun n i wr => HvRel w l n i wr) (fun _ i _ => l.length - (intOf i).toNat)
  case atStart => exact ⟨0, 0, Nat.zero_le _, by omega, by omega, rfl, rfl, Sm.refl _ _, fun x h => by simp at h⟩
  case round =>
    obtain ⟨k, m, hk, hm, hkm, rfl, rfl, hs, hall⟩ := hrel
    have HS := Lib.hid (And.intro hs hall)
    clear hs hall
    by_cases hlt : k < l.length
    · obtain ⟨⟨bb, off, hAe, hbb, r0, r1, r2⟩, hms⟩ := (HA.out.1.no HS.out.1) k hlt
      subst hAe
      have hpz := HA.out.2.2.2.1 _ (List.getElem_mem hlt)
      have hst : SmallA l[k] → ∀ x ∈ l.take (k + 1), SmallA x := fun hx => take_stepA HS.out.2 hlt hx
      obtain ⟨x, hx⟩ : ∃ x, l[k] = x := ⟨_, rfl⟩
      rw [hx] at r0 r1 r2 hms hpz hst
      obtain ⟨p, hp⟩ : ∃ p, x.pat = p := ⟨_, rfl⟩
      rw [hp] at r0 hpz
      have HX := Lib.hid (And.intro hx (And.intro hst hp))
      have k1 : (0 : Int) ≤ (k : Int) := by omega
      have k2 : (k : Int) < (l.length : Int) := by omega
      have hml : (x.ms.length : Int) ≤ 8796093022208 := by have := hms.2.1; have := hms.2.2.1; omega
      clear hx hp hms hst
      go_wp2_with fail
      obtain ⟨wo, hwo⟩ : ∃ wo : World, wo = wr := ⟨_, rfl⟩
      rw [← hwo] at HS
      have HW := Lib.hid hwo
      go_loopw [3, 5] (fun n j wr => HiRel w x k n j wr) (fun _ j _ => x.ms.length - (intOf j).toNat)
      case atStart => exact ⟨0, m + 5 + p.size, Nat.zero_le _, by omega, by omega, by omega, by rw [HX.out.2.2]; omega, by go_num, rfl, HW.out ▸ HS.out.1, fun t h => by simp at h⟩
      case round =>
        obtain ⟨j, m2, hj, hj0, hm2, hkm2, hpm, rfl, rfl, hs2, hall2⟩ := hrel
        obtain ⟨⟨bb2, off2, hA2, hbb2, q0, q1, q2⟩, hms2⟩ := (HA.out.1.no hs2) k hlt
        obtain ⟨rfl, rfl⟩ : bb = bb2 ∧ off = off2 := by injection hA2 with e; injection e with e1 e2; exact ⟨e1, e2⟩
        rw [HX.out.1] at q0 q1 q2 hms2
        have HS2 := Lib.hid (And.intro hs2 hall2)
        clear hs2 hall2 hA2
        by_cases hlt2 : j < x.ms.length
        · obtain ⟨b3, o3, hA3, hb3, q3⟩ := hms2.1 j hlt2
          rw [hA3] at q2
          have htz := hms2.2.2.2.1 _ (List.getElem_mem hlt2)
          have hst2 : x.ms[j].size ≤ 4000 → ∀ t ∈ x.ms.take (j + 1), t.size ≤ 4000 := fun ht => take_stepA HS2.out.2 hlt2 ht
          obtain ⟨t, ht⟩ : ∃ t, x.ms[j] = t := ⟨_, rfl⟩
          rw [ht] at q3 htz hst2
          have j1 : (0 : Int) ≤ (j : Int) := by omega
          have j2 : (j : Int) < (x.ms.length : Int) := by omega
          have HT := Lib.hid (And.intro hst2 (And.intro hj0 hpm))
          clear ht hst2 hj0 hms2 hA3 hpm
          by_cases hgt : 4000 < m2 + 1 + t.size
          · go_wp2_with fail
            go_ret
            exact ⟨true, rfl, HS2.out.1, fun h => by cases h⟩
          · go_wp2_with fail
            have hpm := HT.out.2.2
            exact ⟨⟨j + 1, m2 + 1 + t.size, by omega, by omega, by omega, by omega, by omega, by go_num, by go_num, HS2.out.1, HT.out.1 (by omega)⟩, by simp [intOf]; omega⟩
        · have hjl : j = x.ms.length := by omega
          have HJ := Lib.hid (And.intro hjl (And.intro hj0 hpm))
          clear hjl hj0 hpm hms2
          by_cases hgt : 4000 < m2
          · go_wp2_with fail
            go_ret
            exact ⟨true, rfl, HS2.out.1, fun h => by cases h⟩
          · have hsm : SmallA x := by
              have hpm := HJ.out.2.2
              have hjl := HJ.out.1
              refine ⟨by rw [HX.out.2.2]; rw [HX.out.2.2] at hpm; omega, by rw [HX.out.2.2] at hpm; omega, fun t ht => HS2.out.2 t (by rw [hjl, List.take_length]; exact ht)⟩
            have HF := Lib.hid (HX.out.2.1 hsm)
            clear hsm
            go_wp2_with fail
            exact ⟨⟨k + 1, m2, by omega, by omega, by omega, rfl, by go_num, HS2.out.1, HF.out⟩, by simp [intOf]; omega⟩
    · have hall : ∀ x ∈ l, SmallA x := by
        have := HS.out.2
        rw [List.take_of_length_le (by omega)] at this
        exact this
      have HF := Lib.hid hall
      clear hall
      by_cases h100 : l.length ≤ 100
      · go_wp2_with fail
        go_ret
        exact ⟨false, by simp; omega, HS.out.1, fun _ => ⟨h100, HF.out⟩⟩
      · go_wp2_with fail
        go_ret
        exact ⟨true, by simp; omega, HS.out.1, fun h => by cases h⟩
end Go.Proofs.YtnopbhboamembaaDoor
