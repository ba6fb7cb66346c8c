/- usherlaw10's fields and heavy; field's Len, All. -/
import Derived.Test.YtiglfbimijnpcaaGreatDoorQB
import Derived.Test.YtiglfbimijnpcaaGreatDoorQOpenF
import Derived.Deep.QuietTactic
import Derived.BigQuiet
import Derived.WalkSpells
import Derived.Test.YtiglfbimijnpcaaGreatDoorQO
namespace Go.Proofs.YtiglfbimijnpcaaGreatDoor
open Go.RowKit Go.Proofs

theorem fldCells_one (l : List Fld) : ∀ u ∈ fldCells l, u.oneCell' = true := by
  intro u hu
  obtain ⟨x, _, hx⟩ := List.mem_flatMap.1 hu
  simp only [List.mem_cons, List.not_mem_nil, or_false] at hx
  rcases hx with rfl | rfl <;> rfl
theorem FRow.rowC {w : World} {A : Option Addr} {l : List Fld} (h : FRow w A l) : RowC w A (fldCells l) := by
  intro j u hj
  have hlt : j < (fldCells l).length := (List.getElem?_eq_some_iff.1 hj).1
  rw [fldCells_len] at hlt
  obtain ⟨bb, off, hA, hb, h0, h1⟩ := h (j / 2) (by omega)
  obtain ⟨g0, g1⟩ := fldCells_at l (j / 2) (by omega)
  refine ⟨bb, off, hA, hb, ?_⟩
  by_cases e : j % 2 = 0
  · have e2 : j / 2 * 2 = j := by omega
    rw [e2] at g0 h0
    rw [g0] at hj
    injection hj with hj
    rw [h0, hj]
  · have e2 : j / 2 * 2 + 1 = j := by omega
    rw [e2] at g1
    rw [Nat.add_assoc, e2] at h1
    rw [g1] at hj
    injection hj with hj
    rw [h1, hj]
theorem RowC.frow {w : World} {A : Option Addr} {l : List Fld} (h : RowC w A (fldCells l)) : FRow w A l := by
  intro k hk
  obtain ⟨g0, g1⟩ := fldCells_at l k hk
  obtain ⟨bb, off, hA, hb, h0⟩ := h _ _ g0
  obtain ⟨bb', off', hA', _, h1⟩ := h _ _ g1
  rw [hA] at hA'
  injection hA' with e
  injection e with e1 e2
  subst e1 e2
  exact ⟨bb, off, hA, hb, h0, h1⟩
theorem IsFields.row0 {w : World} {B g : Nat} {t : TypeId} {v : Value} {l : List Fld} (h : IsFields w B g t v l) : ∃ A c, v = .slice A l.length c ∧ FRow w A l ∧ (A = none → l.length = 0 ∧ c = 0) := by
  obtain ⟨A, c, hv, hR, hc, h0⟩ := own_rowC h.2.1
  exact ⟨A, c, hv, hR.frow, fun e => ⟨by have := h0 e; omega, h0 e⟩⟩

def CountRel (w : World) (n : Nat) (i : Value) (wr : World) : Prop := ∃ k : Nat, k ≤ n ∧ i = .int .i64 k ∧ Sm No w wr

/-- The acts that are looked at are light. -/
def Light1 (x : Act10) : Prop := x.name.size ≤ 5000 ∧ x.other.size ≤ 5000 ∧ x.l.length ≤ 5000 ∧ Short x.l
def HeavyPost (w : World) (l : List Act10) (e : Ending) (w' : World) : Prop := ∃ b, e = .returned (.bool b) ∧ Sm No w w' ∧ (b = false → ∀ k, (h : k < l.length) → k < 80 → Light1 l[k])
def HeavyRel (w : World) (l : List Act10) (n i : Value) (wr : World) : Prop :=
  ∃ (k m : Nat), k ≤ l.length ∧ i = .int .i64 k ∧ n = .int .i64 m ∧ m ≤ 5000 ∧ Sm No w wr ∧ ∀ j, (h : j < l.length) → j < k → Light1 l[j]
def HeavyRel2 (w : World) (s0 : Nat) (l : List Fld) (n i : Value) (wr : World) : Prop :=
  ∃ (k m : Nat), k ≤ l.length ∧ i = .int .i64 k ∧ n = .int .i64 m ∧ k ≤ m ∧ (0 < k → m ≤ 5000) ∧ s0 ≤ m ∧ m ≤ 562949953421312 ∧ Sm No w wr ∧ ∀ j, (h : j < l.length) → j < k → l[j].1.size ≤ 5000 ∧ l[j].2.size ≤ 5000

/-! field's Len, All. -/
/-- v is a slice of a block of its own, not before block B, that holds just these fields. -/
def OwnF (w : World) (B : Nat) (v : Value) (l : List Fld) : Prop := w.ownsRow B 65 2 v l.length (fldCells l)
def ClonePost (w : World) (l : List Fld) (e : Ending) (w' : World) : Prop := ∃ v, e = .returned v ∧ OwnF w' w.heap.size v l ∧ Sm No w w'

end Go.Proofs.YtiglfbimijnpcaaGreatDoor

