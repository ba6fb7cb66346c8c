/- Fields in memory; field's Add and Of. -/
import Derived.Test.YtnopbhboamembaaDoorFieldC
import Derived.Test.YtnopbhboamembaaDoorOwnRows
namespace Go.Proofs.YtnopbhboamembaaDoor
open Go.RowKit Go.Proofs

abbrev Fld := ByteArray × ByteArray
def fldCells (l : List Fld) : List Value := l.flatMap fun x => [.string x.1, .string x.2]
def isX (x : Fld) : Bool := isF x.1.data.toList x.2.data.toList

/-- What Add makes of fields that are there and fields that come: all fields, how many were laid, how it was refused. -/
def addL : List Fld → List Fld → List Fld × Nat × Int
  | cur, [] => (cur, 0, 0)
  | cur, x :: xs => if isX x = false then (cur, 0, 8) else if 24 ≤ cur.length then (cur, 0, 3) else ((addL (cur ++ [x]) xs).1, (addL (cur ++ [x]) xs).2.1 + 1, (addL (cur ++ [x]) xs).2.2)

theorem fldCells_snoc (l : List Fld) (x : Fld) : fldCells (l ++ [x]) = fldCells l ++ [.string x.1, .string x.2] := by simp [fldCells]
theorem fldCells_len (l : List Fld) : (fldCells l).length = l.length * 2 := by
  induction l with
  | nil => rfl
  | cons x l ih => simp only [fldCells, List.flatMap_cons, List.length_append, List.length_cons, List.length_nil] at ih ⊢; omega
theorem fldCells_at (l : List Fld) (k : Nat) (h : k < l.length) : (fldCells l)[k * 2]? = some (.string l[k].1) ∧ (fldCells l)[k * 2 + 1]? = some (.string l[k].2) := by
  induction l generalizing k with
  | nil => exact absurd h (by simp)
  | cons x l ih =>
    cases k with
    | zero => exact ⟨rfl, rfl⟩
    | succ k =>
      have := ih k (by simpa using h)
      have e1 : (k + 1) * 2 = (k * 2) + 2 := by omega
      have e2 : fldCells (x :: l) = [.string x.1, .string x.2] ++ fldCells l := rfl
      rw [e1, e2]
      simpa using this

/-- Block g holds a slice of a block of its own, not before block B, that holds just these fields. -/
def IsFields (w : World) (B g : Nat) (t : TypeId) (v : Value) (l : List Fld) : Prop :=
  Bk w g t #[v] ∧ w.ownsRow B 47 2 v l.length (fldCells l) ∧ v.ownBlock ≠ some g

/-- A slice of fields that can be read. -/
def FRow (w : World) (A : Option Addr) (l : List Fld) : Prop :=
  ∀ k, (h : k < l.length) → ∃ bb off, A = some ⟨bb, off, none⟩ ∧ bb < w.heap.size ∧ w.cell? ⟨bb, off + k * 2, none⟩ = some (.string l[k].1) ∧ w.cell? ⟨bb, off + k * 2 + 1, none⟩ = some (.string l[k].2)

section
variable {S : Nat → Prop} {w w' : World} {B g : Nat} {t : TypeId} {v : Value} {l : List Fld} {A : Option Addr}
theorem IsFields.sm (h : IsFields w B g t v l) (hs : Sm S w w') (hg : ¬ S g) (hv : ∀ b, v.ownBlock = some b → ¬ S b) : IsFields w' B g t v l :=
  ⟨h.1.sm hs hg, own_row_sm h.2.1 hs hv, h.2.2⟩
theorem IsFields.no (h : IsFields w B g t v l) (hs : Sm No w w') : IsFields w' B g t v l := h.sm hs (fun h => h) (fun _ _ h => h)
theorem IsFields.len (h : IsFields w B g t v l) : ∃ A c, v = .slice A l.length c := by
  rcases own_row_form h.2.1 with ⟨rfl, h0, _⟩ | ⟨b, cap, rfl, _⟩
  · exact ⟨none, 0, by rw [h0]⟩
  · exact ⟨_, _, rfl⟩
theorem FRow.sm (h : FRow w A l) (hs : Sm S w w') (hA : ∀ a, A = some a → ¬ S a.block) : FRow w' A l := by
  intro k hk
  obtain ⟨bb, off, hA', hb, h1, h2⟩ := h k hk
  have e := hs.block bb hb (hA _ hA')
  exact ⟨bb, off, hA', Nat.lt_of_lt_of_le hb hs.size, (World.cell?_of_block (w := w) (a := ⟨bb, _, none⟩) e).trans h1, (World.cell?_of_block (w := w) (a := ⟨bb, _, none⟩) e).trans h2⟩
end

/-- All texts of fields are short enough. -/
def Short (l : List Fld) : Prop := ∀ x ∈ l, x.1.size ≤ 1000000 ∧ x.2.size ≤ 1000000

theorem addL_step {cur add : List Fld} {k : Nat} (h : k < add.length) (hx : isX add[k] = true) (hc : ¬ 24 ≤ cur.length) :
    addL cur (add.drop k) = ((addL (cur ++ [add[k]]) (add.drop (k + 1))).1, (addL (cur ++ [add[k]]) (add.drop (k + 1))).2.1 + 1, (addL (cur ++ [add[k]]) (add.drop (k + 1))).2.2) := by
  rw [List.drop_eq_getElem_cons h, addL, if_neg (by simp [hx]), if_neg hc]
theorem addL_not {cur add : List Fld} {k : Nat} (h : k < add.length) (hx : isX add[k] = false) : addL cur (add.drop k) = (cur, 0, 8) := by
  rw [List.drop_eq_getElem_cons h, addL, if_pos hx]
theorem addL_full {cur add : List Fld} {k : Nat} (h : k < add.length) (hx : isX add[k] = true) (hc : 24 ≤ cur.length) : addL cur (add.drop k) = (cur, 0, 3) := by
  rw [List.drop_eq_getElem_cons h, addL, if_neg (by simp [hx]), if_pos hc]
end Go.Proofs.YtnopbhboamembaaDoor
