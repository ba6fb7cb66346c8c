/- The walk of FieldDrops. -/
import Derived.Test.YtnopbhboamembaaDoorFieldO
namespace Go.Proofs.YtnopbhboamembaaDoor
open Go.RowKit Go.Proofs

/-! The plain law. -/
theorem sameL_comm (a b : List UInt8) : sameL a b = sameL b a := by unfold sameL; exact Bool.eq_iff_iff.2 ⟨fun h => beq_iff_eq.2 (beq_iff_eq.1 h).symm, fun h => beq_iff_eq.2 (beq_iff_eq.1 h).symm⟩
theorem among_one (name : ByteArray) (x : Fld) : amongL [name] x = sameL x.1.data.toList name.data.toList := by
  unfold amongL; simp [sameL_comm]
theorem values_left (name : ByteArray) (l : List Fld) : (valuesL l name).length = l.length - (leftL [name] l).length := by
  have h : (valuesL l name).length + (leftL [name] l).length = l.length := by
    induction l with
    | nil => rfl
    | cons x l ih =>
      simp only [valuesL, leftL, List.length_map, List.filter_cons, among_one] at ih ⊢
      cases sameL x.1.data.toList name.data.toList <;> simp at ih ⊢ <;> omega
  omega
theorem values_gone (name : ByteArray) (l : List Fld) : valuesL (leftL [name] l) name = [] := by
  unfold valuesL leftL
  rw [List.map_eq_nil_iff, List.filter_eq_nil_iff]
  intro x hx
  have := (List.mem_filter.1 hx).2
  rw [among_one] at this
  simpa using this
theorem get_gone (name : ByteArray) (l : List Fld) : getL (leftL [name] l) name = [] := by unfold getL; rw [values_gone]; rfl
theorem addL_mem : ∀ (l cur : List Fld), ∀ x ∈ (addL cur l).1, x ∈ cur ∨ (x ∈ l ∧ isX x = true)
  | [], cur, x, h => Or.inl (by simpa [addL] using h)
  | y :: l, cur, x, h => by
    rw [addL] at h
    split at h
    · exact Or.inl h
    · rename_i hy
      split at h
      · exact Or.inl h
      · rcases addL_mem l _ x h with g | ⟨g, e⟩
        · rcases List.mem_append.1 g with g | g
          · exact Or.inl g
          · obtain rfl := List.mem_singleton.1 g
            exact Or.inr ⟨by simp, by simpa using hy⟩
        · exact Or.inr ⟨List.mem_cons_of_mem _ g, e⟩
theorem short_addL {l : List Fld} (h : Short l) : Short (addL [] l).1 := fun x hx => by
  rcases addL_mem l [] x hx with g | ⟨g, _⟩
  · cases g
  · exact h x g
theorem short_left {l : List Fld} (names : List ByteArray) (h : Short l) : Short (leftL names l) := fun x hx => h x (List.mem_filter.1 hx).1
theorem add_single {x : Fld} (h : isX x = true) : addL [] [x] = ([x], 1, 0) := by
  rw [addL, if_neg (by simp [h]), if_neg (by simp)]; rfl
theorem values_single (x : Fld) (name : ByteArray) : (valuesL [x] name).length = if amongL [name] x = true then 1 else 0 := by
  unfold valuesL; rw [among_one, List.filter_cons]; split <;> rfl

theorem has_any (w : World) (B g : Nat) (v : Value) (l : List Fld) (name : ByteArray) (hF : IsFields w B g 69 v l) (hl : l.length ≤ 24) (hshort : Short l) (hn : name.size ≤ 1000000) :
    Calls Tryd.prog 19 #[.pointer (some ⟨g, 0, none⟩), .string name] w fun e w' => e = .returned (.bool (decide (0 < (valuesL l name).length))) ∧ Sm No w w' := by
  have HV := Lib.hid (values_any w B g v l name hF hl hshort hn)
  clear hF hshort
  go_enter Tryd.func19, Tryd.ntmps19
  go_wp2_with fail
  refine HV.out.mono ?_
  rintro e w1 ⟨vs, rfl, hO, hs⟩
  obtain ⟨A, c, rfl, _⟩ := own_rowC hO
  have HS := Lib.hid hs
  clear hO hs
  go_wp2_with fail
  all_goals
    go_ret
    exact ⟨ret_b (by simp; try omega), HS.out⟩

theorem has_gone (w : World) (B g : Nat) (v : Value) (l : List Fld) (name : ByteArray) (hF : IsFields w B g 69 v (leftL [name] l)) (hl : (leftL [name] l).length ≤ 24) (hshort : Short (leftL [name] l)) (hn : name.size ≤ 1000000) :
    Calls Tryd.prog 19 #[.pointer (some ⟨g, 0, none⟩), .string name] w fun e w' => e = .returned (.bool false) ∧ Sm No w w' := by
  have h := has_any w B g v _ name hF hl hshort hn
  rw [values_gone] at h
  exact h
theorem get_left (w : World) (B g : Nat) (v : Value) (l : List Fld) (name : ByteArray) (hF : IsFields w B g 69 v (leftL [name] l)) (hl : (leftL [name] l).length ≤ 24) (hshort : Short (leftL [name] l)) (hn : name.size ≤ 1000000) :
    Calls Tryd.prog 17 #[.pointer (some ⟨g, 0, none⟩), .string name] w fun e w' => e = .returned (.string ⟨#[]⟩) ∧ Sm No w w' := by
  have h := get_any w B g v _ name hF hl hshort hn
  rw [get_gone] at h
  exact h
theorem OwnF.row2 {w : World} {B : Nat} {v : Value} {l : List Fld} (h : OwnF w B v l) : ∃ A c, v = .slice A l.length c ∧ FRow w A l ∧ (∀ a, A = some a → B ≤ a.block ∧ a.block < w.heap.size) := by
  obtain ⟨A, c, rfl, hR⟩ := h.row
  refine ⟨A, c, rfl, hR, fun a ha => ?_⟩
  subst ha
  exact World.ownsRow.lt h a.block rfl
theorem len_one (x : Fld) (name : ByteArray) {f : Bool} (h : amongL [name] x = f) : (valuesL [x] name).length = if f = true then 1 else 0 := by rw [values_single, h]

def WantRel (w0 : World) (name : ByteArray) (L : List Fld) (want i : Value) (wr : World) : Prop :=
  ∃ k : Nat, k ≤ L.length ∧ i = .int .i64 k ∧ OwnF wr w0.heap.size want (leftL [name] (L.take k)) ∧ Sm No w0 wr

end Go.Proofs.YtnopbhboamembaaDoor
