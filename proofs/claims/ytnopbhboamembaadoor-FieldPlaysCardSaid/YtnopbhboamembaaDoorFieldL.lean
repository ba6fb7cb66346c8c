/- The walk of FieldOne. -/
import Derived.Test.YtnopbhboamembaaDoorFieldK
namespace Go.Proofs.YtnopbhboamembaaDoor
open Go.RowKit Go.Proofs

theorem OwnF.row {w : World} {B : Nat} {v : Value} {l : List Fld} (h : OwnF w B v l) : ∃ A c, v = .slice A l.length c ∧ FRow w A l := by
  obtain ⟨A, c, hv, hR, _, _⟩ := own_rowC h
  exact ⟨A, c, hv, hR.frow⟩
theorem OwnF.no {w w' : World} {B : Nat} {v : Value} {l : List Fld} (h : OwnF w B v l) (hs : Sm No w w') : OwnF w' B v l := own_row_sm h hs (fun _ _ h => h)
theorem IsFields.lt {w : World} {B g : Nat} {t : TypeId} {v : Value} {l : List Fld} (h : IsFields w B g t v l) : g < w.heap.size ∧ ∀ b, v.ownBlock = some b → B ≤ b ∧ b < w.heap.size :=
  ⟨h.1.lt, fun b hb => World.ownsRow.lt h.2.1 b hb⟩

/-- What comes of adding the fields of a list from the k-th on, where the first k were laid. -/
def Sofar (l : List Fld) (k : Nat) : Prop := addL [] l = ((addL (l.take k) (l.drop k)).1, (addL (l.take k) (l.drop k)).2.1 + k, (addL (l.take k) (l.drop k)).2.2)
theorem sofar_zero (l : List Fld) : Sofar l 0 := by simp [Sofar]
theorem sofar_step {l : List Fld} {k : Nat} (h : Sofar l k) (hk : k < l.length) (hx : isX l[k] = true) (hc : ¬ 24 ≤ k) : Sofar l (k + 1) := by
  unfold Sofar at h ⊢
  rw [h, addL_step hk hx (by simp; omega), List.take_succ_eq_append_getElem hk]
  simp; omega
theorem sofar_not {l : List Fld} {k : Nat} (h : Sofar l k) (hk : k < l.length) (hx : isX l[k] = false) : (addL [] l).1 = l.take k := by
  rw [show addL [] l = _ from h, addL_not hk hx]
theorem sofar_full {l : List Fld} {k : Nat} (h : Sofar l k) (hk : k < l.length) (hx : isX l[k] = true) (hc : 24 ≤ k) : (addL [] l).1 = l.take k := by
  rw [show addL [] l = _ from h, addL_full hk hx (by simp; omega)]
theorem sofar_end {l : List Fld} {k : Nat} (h : Sofar l k) (hk : ¬ k < l.length) : (addL [] l).1 = l.take k := by
  rw [show addL [] l = _ from h, List.drop_eq_nil_of_le (by omega)]
  rfl

theorem addL_one (cur : List Fld) (x : Fld) : (isX x = false ∧ addL cur [x] = (cur, 0, 8)) ∨ (isX x = true ∧ 24 ≤ cur.length ∧ addL cur [x] = (cur, 0, 3)) ∨ (isX x = true ∧ cur.length < 24 ∧ addL cur [x] = (cur ++ [x], 1, 0)) := by
  cases hx : isX x
  · exact Or.inl ⟨rfl, by rw [addL, if_pos hx]⟩
  · by_cases hc : 24 ≤ cur.length
    · exact Or.inr (Or.inl ⟨rfl, hc, by rw [addL, if_neg (by simp [hx]), if_pos hc]⟩)
    · exact Or.inr (Or.inr ⟨rfl, by omega, by rw [addL, if_neg (by simp [hx]), if_neg hc]; rfl⟩)

def OneRel (w : World) (B ga : Nat) (va : Value) (gb : Nat) (l : List Fld) (n : Value) (wr : World) : Prop :=
  ∃ (k : Nat) (vb : Value), k ≤ l.length ∧ k ≤ 24 ∧ n = .int .i64 k ∧ Sofar l k ∧ IsFields wr B gb 69 vb (l.take k) ∧ IsFields wr w.heap.size ga 69 va (addL [] l).1 ∧ Sm No w wr ∧ B ≤ wr.heap.size

end Go.Proofs.YtnopbhboamembaaDoor
