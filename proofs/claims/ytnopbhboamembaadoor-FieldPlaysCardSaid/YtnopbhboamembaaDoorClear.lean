/- clear on the end of a slice of the call's own. -/
import Derived.Test.YtnopbhboamembaaDoorOwnMore
namespace Go.Proofs.YtnopbhboamembaaDoor
open Go.RowKit Go.Proofs

theorem Sm.setRow {S : Nat → Prop} {w w1 : World} (h : Sm S w w1) {g : Nat} (hg : S g ∨ w.heap.size ≤ g) (cs : Array Value) : Sm S w (w1.setRow g cs) :=
  ⟨h.os, h.tape, h.output, by have := h.size; simp [World.setRow]; omega, fun b hb hS => (setRow_other w1 g b cs (by
    rintro rfl
    rcases hg with hg | hg
    · exact hS hg
    · omega)).trans (h.block b hb hS)⟩

section
variable {P : Program} {ops : Array Oper} {rest : List Oper} {o : Oper} {a : Act} {w : World} {Q : Exit → Act → World → Prop}

theorem wpList_clear_own (hgd : o.guard = none) (x : Operand) (st t : TypeId) (ho : o.op = .call { callee := .builtin .clear, args := #[x], argTypes := #[st] }) (ht : P.underlying st = some (.slice t))
    (z : Value) (size : Nat) (hz : ∀ w, (zeroValue t).run P w = .ok z w) (hzs : z.cells.size = size) (hsz : 0 < size) (h1 : ∀ u ∈ z.cells.toList, u.oneCell' = true)
    (B n cap g : Nat) (xs : List Value) (hown : w.ownsRow B t size (.slice (some ⟨g, 0, none⟩) n cap) n xs) (i : Nat) (hi : i < n) (c : Nat) (hx : a.eval x = .slice (some ⟨g, i * size, none⟩) (n - i) c)
    (h : ∀ w', w'.ownsRow B t size (.slice (some ⟨g, 0, none⟩) i cap) i (xs.take (i * size)) → Sm (fun b => b = g) w w' → wpList P ops Q rest (a.put o.dst (.tuple #[])) w') : wpList P ops Q (o :: rest) a w := by
  have hxs := hown.1
  rcases hown.2 with ⟨h', _⟩ | ⟨g', cap', cur, h', hb, hg, hnc, hcm, hcs, htake⟩
  · simp at h'
  simp only [Value.slice.injEq, Option.some.injEq, Addr.mk.injEq, and_true, true_and] at h'
  obtain ⟨rfl, rfl⟩ := h'
  obtain ⟨d, hd⟩ : ∃ d, n = i + (d + 1) := ⟨n - i - 1, by omega⟩
  have e1 : n - i = d + 1 := by omega
  have hzl : (Builtin.zeroCells z.cells (d + 1)).toList.length = (d + 1) * size := by rw [Array.length_toList, size_zeroCells, hzs]
  have hmul : n * size = i * size + (d + 1) * size := by rw [hd, Nat.add_mul]
  have hcap : n * size ≤ cap * size := Nat.mul_le_mul_right _ hnc
  have hr := run_storeCells_at (P := P) g (i * size) t (Builtin.zeroCells z.cells (d + 1)).toList 0 cur w hg (by rw [hzl]; omega) (fun v hv => by
    simp only [Builtin.zeroCells, Array.toList_map, List.mem_map] at hv
    obtain ⟨k, hk, rfl⟩ := hv
    have hlt : k % z.cells.size < z.cells.size := Nat.mod_lt _ (by omega)
    rw [getElem!_pos z.cells _ hlt]
    exact h1 _ (by simp))
  have hcl : ∀ ty, (Builtin.clear_ #[st] ty #[.slice (some ⟨g, i * size, none⟩) (d + 1) c]).run P w = .ok (.tuple #[]) (w.setRow g (cur.toList.take (i * size + 0) ++ (Builtin.zeroCells z.cells (d + 1)).toList ++ cur.toList.drop (i * size + 0 + (Builtin.zeroCells z.cells (d + 1)).toList.length)).toArray) := fun ty => by
    simp only [Builtin.clear_, List.getElem?_toArray, List.getElem?_cons_zero, Sem.run_bind, run_underlying ht, Result.andThen_ok, hz, hr, Sem.run_pure]
  refine wpList_plain hgd fun K hK => ?_
  unfold Oper.wp execOp
  rw [e1] at hx
  simp only [ho, resolve, invoke, builtin, Sem.run_bind, Sem.run_pure, Result.andThen_ok, List.map_toArray, List.map_cons, List.map_nil, hx, hcl]
  refine hK _ _ (h _ ⟨?_, Or.inr ⟨g, cap, _, rfl, hb, setRow_heap w g cur _ t _ hg, by omega, hcm, ?_, ?_⟩⟩ ((Sm.refl (fun b => b = g) w).setRow (Or.inl rfl) _))
  · rw [List.length_take, hxs]; omega
  · simp only [List.size_toArray, List.length_append, List.length_take, List.length_drop, Array.length_toList, hzl]; omega
  · rw [← htake, List.take_take, List.append_assoc]
    have e2 : i * size + 0 = i * size := rfl
    rw [e2, List.take_append_of_le_length (by rw [List.length_take, Array.length_toList]; omega), List.take_take]
    congr 1
    omega
end
end Go.Proofs.YtnopbhboamembaaDoor
