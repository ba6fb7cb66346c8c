/- Arguments opened: rows of fields. -/
/- usherlaw10's fields and heavy; field's Len, All. -/
import Derived.Test.YtiglfbimijnpcaaGreatDoorQB
import Derived.Test.YtiglfbimijnpcaaGreatDoorQO
import Derived.Deep.QuietTactic
import Derived.BigQuiet
import Derived.WalkSpells
namespace Go.Proofs.YtiglfbimijnpcaaGreatDoor
open Go.RowKit Go.WideShapes Go.ChangeShapes Go.Proofs Go.Deep

/-- What is known of a slice of fields that came in. -/
def ArgF (w : World) (A : Option Addr) (l : List Fld) (c : Nat) : Prop :=
  FRow w A l ∧ l.length ≤ c ∧ c ≤ 4398046511104 ∧ (∀ x ∈ l, x.1.size ≤ 140737488351232 ∧ x.2.size ≤ 140737488351232) ∧ (A = none → c = 0)
theorem FRow.no {w w' : World} {A : Option Addr} {l : List Fld} (h : FRow w A l) (hs : Sm No w w') : FRow w' A l := h.sm hs (fun _ _ h => h)
theorem ArgF.no {w w' : World} {A : Option Addr} {l : List Fld} {c : Nat} (h : ArgF w A l c) (hs : Sm No w w') : ArgF w' A l c := ⟨h.1.no hs, h.2⟩

section
variable {H : Type} {enc : TypeId × Value → H} {w : World}

end

/-- An act of a script. -/
structure Act10 where
  kind : Int
  name : ByteArray
  other : ByteArray
  la : Option Addr
  lc : Nat
  l : List Fld
instance : Inhabited Act10 := ⟨⟨0, ⟨#[]⟩, ⟨#[]⟩, none, 0, []⟩⟩

/-- A slice of acts that can be read. -/
def ARow (w : World) (A : Option Addr) (l : List Act10) : Prop :=
  ∀ k, (h : k < l.length) → (∃ bb off, A = some ⟨bb, off, none⟩ ∧ bb < w.heap.size ∧ w.cell? ⟨bb, off + k * 4, none⟩ = some (.int .i64 l[k].kind) ∧ w.cell? ⟨bb, off + k * 4 + 1, none⟩ = some (.string l[k].name) ∧
    w.cell? ⟨bb, off + k * 4 + 2, none⟩ = some (.string l[k].other) ∧ w.cell? ⟨bb, off + k * 4 + 3, none⟩ = some (.slice l[k].la l[k].l.length l[k].lc)) ∧ FRow w l[k].la l[k].l
theorem ARow.no {w w' : World} {A : Option Addr} {l : List Act10} (h : ARow w A l) (hs : Sm No w w') : ARow w' A l := by
  intro k hk
  obtain ⟨⟨bb, off, hA, hb, h0, h1, h2, h3⟩, hf⟩ := h k hk
  exact ⟨⟨bb, off, hA, Nat.lt_of_lt_of_le hb hs.size, hs.cell hb h0, hs.cell hb h1, hs.cell hb h2, hs.cell hb h3⟩, hf.no hs⟩

section
variable {H : Type} {enc : TypeId × Value → H} {w : World}
end
end Go.Proofs.YtiglfbimijnpcaaGreatDoor

namespace Go.Proofs.YtiglfbimijnpcaaGreatDoor
open Go.RowKit Go.Proofs

theorem fldCells_one (l : List Fld) : ∀ u ∈ fldCells l, u.oneCell' = true := by
  intro u hu
  obtain ⟨x, _, hx⟩ := List.mem_flatMap.1 hu
  simp only [List.mem_cons, List.not_mem_nil, or_false] at hx
  rcases hx with rfl | rfl <;> rfl
theorem FRow.rowC {w : World} {A : Option Addr} {l : List Fld} (h : FRow w A l) : RowC w A (fldCells l) := by
  intro j u hj
  have hlt : j < (fldCells l).length := (List.getElem?_eq_some_iff.1 hj).1
  rw [fldCells_len] at hlt
  obtain ⟨bb, off, hA, hb, h0, h1⟩ := h (j / 2) (by omega)
  obtain ⟨g0, g1⟩ := fldCells_at l (j / 2) (by omega)
  refine ⟨bb, off, hA, hb, ?_⟩
  by_cases e : j % 2 = 0
  · have e2 : j / 2 * 2 = j := by omega
    rw [e2] at g0 h0
    rw [g0] at hj
    injection hj with hj
    rw [h0, hj]
  · have e2 : j / 2 * 2 + 1 = j := by omega
    rw [e2] at g1
    rw [Nat.add_assoc, e2] at h1
    rw [g1] at hj
    injection hj with hj
    rw [h1, hj]
theorem RowC.frow {w : World} {A : Option Addr} {l : List Fld} (h : RowC w A (fldCells l)) : FRow w A l := by
  intro k hk
  obtain ⟨g0, g1⟩ := fldCells_at l k hk
  obtain ⟨bb, off, hA, hb, h0⟩ := h _ _ g0
  obtain ⟨bb', off', hA', _, h1⟩ := h _ _ g1
  rw [hA] at hA'
  injection hA' with e
  injection e with e1 e2
  subst e1 e2
  exact ⟨bb, off, hA, hb, h0, h1⟩
def CountRel (w : World) (n : Nat) (i : Value) (wr : World) : Prop := ∃ k : Nat, k ≤ n ∧ i = .int .i64 k ∧ Sm No w wr

/-! field's Len, All. -/
/-- v is a slice of a block of its own, not before block B, that holds just these fields. -/
def OwnF (w : World) (B : Nat) (v : Value) (l : List Fld) : Prop := w.ownsRow B 65 2 v l.length (fldCells l)
end Go.Proofs.YtiglfbimijnpcaaGreatDoor

