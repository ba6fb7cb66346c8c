/- The walk of FieldOne. -/
/- The walk of FieldOfNothing. -/
/- field's Drop: which fields go. -/
/- clear on the end of a slice of the call's own. -/
/- field's Drop. -/
/- The walk of FieldDrops. -/
import Derived.Test.YtiglfbimijnpcaaGreatDoorQN
import Derived.Test.YtiglfbimijnpcaaGreatDoorQO
namespace Go.Proofs.YtiglfbimijnpcaaGreatDoor
open Go.RowKit Go.Proofs

theorem OwnF.row {w : World} {B : Nat} {v : Value} {l : List Fld} (h : OwnF w B v l) : ∃ A c, v = .slice A l.length c ∧ FRow w A l := by
  obtain ⟨A, c, hv, hR, _, _⟩ := own_rowC h
  exact ⟨A, c, hv, hR.frow⟩
theorem OwnF.no {w w' : World} {B : Nat} {v : Value} {l : List Fld} (h : OwnF w B v l) (hs : Sm No w w') : OwnF w' B v l := own_row_sm h hs (fun _ _ h => h)
theorem IsFields.lt {w : World} {B g : Nat} {t : TypeId} {v : Value} {l : List Fld} (h : IsFields w B g t v l) : g < w.heap.size ∧ ∀ b, v.ownBlock = some b → B ≤ b ∧ b < w.heap.size :=
  ⟨h.1.lt, fun b hb => World.ownsRow.lt h.2.1 b hb⟩

end Go.Proofs.YtiglfbimijnpcaaGreatDoor

namespace Go.Proofs.YtiglfbimijnpcaaGreatDoor
open Go.RowKit Go.Proofs

end Go.Proofs.YtiglfbimijnpcaaGreatDoor

namespace Go.Proofs.YtiglfbimijnpcaaGreatDoor
open Go.RowKit Go.Proofs

/-- What the closure of Drop leans on. -/
def Names (w : World) (gn : Nat) (names : List ByteArray) : Prop := ∃ A c, Bk w gn 82 #[.slice A names.length c] ∧ SRow w A names ∧ (∀ a, A = some a → a.block < w.heap.size ∧ a.block ≠ gn) ∧ names.length ≤ 1000000 ∧ ∀ s ∈ names, s.size ≤ 1000000
theorem Names.no {w w' : World} {gn : Nat} {names : List ByteArray} (h : Names w gn names) (hs : Sm No w w') : Names w' gn names := by
  obtain ⟨A, c, hb, hA, hl⟩ := h
  exact ⟨A, c, hb.sm hs (fun h => h), hA.no hs, fun a ha => ⟨Nat.lt_of_lt_of_le (hl.1 a ha).1 hs.size, (hl.1 a ha).2⟩, hl.2⟩

end Go.Proofs.YtiglfbimijnpcaaGreatDoor

namespace Go.Proofs.YtiglfbimijnpcaaGreatDoor
open Go.RowKit Go.Proofs

theorem Sm.setRow {S : Nat → Prop} {w w1 : World} (h : Sm S w w1) {g : Nat} (hg : S g ∨ w.heap.size ≤ g) (cs : Array Value) : Sm S w (w1.setRow g cs) :=
  ⟨h.os, h.tape, h.output, by have := h.size; simp [World.setRow]; omega, fun b hb hS => (setRow_other w1 g b cs (by
    rintro rfl
    rcases hg with hg | hg
    · exact hS hg
    · omega)).trans (h.block b hb hS)⟩

section
variable {P : Program} {ops : Array Oper} {rest : List Oper} {o : Oper} {a : Act} {w : World} {Q : Exit → Act → World → Prop}

end
end Go.Proofs.YtiglfbimijnpcaaGreatDoor

namespace Go.Proofs.YtiglfbimijnpcaaGreatDoor
open Go.RowKit Go.Proofs

theorem Names.sm {S : Nat → Prop} {w w' : World} {gn : Nat} {names : List ByteArray} (h : Names w gn names) (hs : Sm S w w') (hg : ¬ S gn) (hb : ∀ A c, w.cell? ⟨gn, 0, none⟩ = some (.slice (some A) names.length c) → ¬ S A.block) : Names w' gn names := by
  obtain ⟨A, c, hb0, hA, hl⟩ := h
  refine ⟨A, c, hb0.sm hs hg, hA.sm hs (fun a ha => hb a c ?_), fun a ha => ⟨Nat.lt_of_lt_of_le (hl.1 a ha).1 hs.size, (hl.1 a ha).2⟩, hl.2⟩
  have := hb0.at 0 (v := .slice A names.length c) rfl
  rw [ha] at this
  exact this

end Go.Proofs.YtiglfbimijnpcaaGreatDoor

namespace Go.Proofs.YtiglfbimijnpcaaGreatDoor
open Go.RowKit Go.Proofs

/-! The plain law. -/
theorem addL_mem : ∀ (l cur : List Fld), ∀ x ∈ (addL cur l).1, x ∈ cur ∨ (x ∈ l ∧ isX x = true)
  | [], cur, x, h => Or.inl (by simpa [addL] using h)
  | y :: l, cur, x, h => by
    rw [addL] at h
    split at h
    · exact Or.inl h
    · rename_i hy
      split at h
      · exact Or.inl h
      · rcases addL_mem l _ x h with g | ⟨g, e⟩
        · rcases List.mem_append.1 g with g | g
          · exact Or.inl g
          · obtain rfl := List.mem_singleton.1 g
            exact Or.inr ⟨by simp, by simpa using hy⟩
        · exact Or.inr ⟨List.mem_cons_of_mem _ g, e⟩
theorem short_addL {l : List Fld} (h : Short l) : Short (addL [] l).1 := fun x hx => by
  rcases addL_mem l [] x hx with g | ⟨g, _⟩
  · cases g
  · exact h x g
theorem OwnF.row2 {w : World} {B : Nat} {v : Value} {l : List Fld} (h : OwnF w B v l) : ∃ A c, v = .slice A l.length c ∧ FRow w A l ∧ (∀ a, A = some a → B ≤ a.block ∧ a.block < w.heap.size) := by
  obtain ⟨A, c, rfl, hR⟩ := h.row
  refine ⟨A, c, rfl, hR, fun a ha => ?_⟩
  subst ha
  exact World.ownsRow.lt h a.block rfl
end Go.Proofs.YtiglfbimijnpcaaGreatDoor

