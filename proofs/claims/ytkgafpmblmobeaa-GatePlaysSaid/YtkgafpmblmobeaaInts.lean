/- Words and laws for a slice of ints that the call itself grows. -/
import Derived.Test.YtkgafpmblmobeaaLaws
import Derived.Test.YtkgafpmblmobeaaProg
import Derived.OwnWalk
namespace Go.Proofs.Ytkgafpmblmobeaa
open Go.RowKit Go.Proofs

/-- v is a slice of the call's own, from block B on, that holds just these numbers. -/
def OwnI (w : World) (B : Nat) (v : Value) (l : List Int) : Prop := w.ownsRow B 3 1 v l.length (l.map (Value.int .i64))

theorem infoInt : (Try.prog.info? 3).map (fun i => (i.zero, i.size, i.bytes)) = some (some (.int .i64 0), 1, 8) := by kernel_rfl

section
variable {w w' : World} {B : Nat} {v : Value} {l : List Int}
theorem OwnI.nil (w : World) (B : Nat) : OwnI w B (.slice none 0 0) [] := World.ownsRow_nil w B _ 1
theorem OwnI.sm {S : Nat → Prop} (h : OwnI w B v l) (hs : Sm S w w') (hS : ∀ b, B ≤ b → ¬ S b) : OwnI w' B v l := by
  obtain ⟨h1, h2⟩ := h
  refine ⟨h1, ?_⟩
  rcases h2 with h2 | ⟨g, cap, cur, hv, hg, hh, r⟩
  · exact Or.inl h2
  · refine Or.inr ⟨g, cap, cur, hv, hg, ?_, r⟩
    rw [hs.block g (Array.getElem?_eq_some_iff.1 hh).1 (hS g hg)]
    exact hh
theorem OwnI.drewN (h : OwnI w B v l) (n : Nat) : OwnI (w.drewN n) B v l := h
theorem OwnI.alloc (h : OwnI w B v l) (o : Obj) : OwnI (w.alloc o) B v l := World.ownsRow.alloc h o
/-- Either nothing is held, or the slice lies at the head of a block of its own. -/
theorem OwnI.form (h : OwnI w B v l) : (v = .slice none 0 0 ∧ l = []) ∨ ∃ g cap, v = .slice (some ⟨g, 0, none⟩) l.length cap ∧ B ≤ g ∧ g < w.heap.size ∧ ∀ j, j < l.length → w.cell? ⟨g, j, none⟩ = some (.int .i64 (l.getD j 0)) := by
  rcases h.2 with ⟨h1, h2⟩ | ⟨g, cap, cur, hv, hg, hh, hcap, hm, hcs, hcell⟩
  · exact Or.inl ⟨h1, by simpa using h2⟩
  · refine Or.inr ⟨g, cap, hv, hg, (Array.getElem?_eq_some_iff.1 hh).1, fun j hj => ?_⟩
    subst hv
    have hx := World.ownsRow.cells h (g := g) rfl j (.int .i64 (l.getD j 0)) (by simp [List.getD, hj])
    have hadd : (⟨g, 0, none⟩ : Addr).add j = ⟨g, j, none⟩ := by unfold Addr.add; split <;> simp_all
    rwa [hadd] at hx

theorem wpList_push_int {ops : Array Oper} {rest : List Oper} {o : Oper} {a : Act} {Q : Exit → Act → World → Prop} {z : Int} (hgd : o.guard = none) (s x : Operand)
    (ho : o.op = .call { callee := .builtin .append, args := #[s, x], argTypes := #[37, 37] })
    (hs : a.eval s = v) (hown : OwnI w B v l) (hx : a.eval x = .slice (some ⟨w.heap.size, 0, none⟩) 1 1) (hl : l.length ≤ 1000000) (hB : B ≤ w.heap.size)
    (h : ∀ v' w', OwnI w' B v' (l ++ [z]) → Sm (fun b => B ≤ b) w w' → wpList Try.prog ops Q rest (a.put o.dst v') w') : wpList Try.prog ops Q (o :: rest) a (w.alloc (.cells #[.int .i64 z] 3)) := by
  obtain ⟨i0, hi, hz0, hz1, hz2⟩ := info_parts infoInt
  refine wpList_append_own _ hgd s x 37 ho B 3 i0 (.int .i64 0) 1 8 Try.underlying37 hi hz0 hz1 hz2 rfl (by decide) v l.length (l.map (Value.int .i64)) hs (World.ownsRow.alloc hown _) ⟨w.heap.size, 0, none⟩ 1 1 [.int .i64 z] hx rfl
    (fun j u hj => ?_) (by simp [Value.oneCell']) (by unfold maxLen; omega) (by omega) (by simp; omega) ?_
  · match j, hj with
    | 0, hj =>
      obtain rfl : Value.int .i64 z = u := by simpa using hj
      exact (Bk.new w _ _).at 0 rfl
    | j + 1, hj => simp at hj
  · intro v' w' hown' hg _
    refine h v' w' (by simpa [OwnI] using hown') (((Sm.refl _ w).alloc _).grown hg (fun k hk => Or.inl ?_))
    rcases hown.2 with ⟨rfl, _⟩ | ⟨g, cap, cur, rfl, hg', _⟩
    · simp [Value.ownBlock] at hk
    · simp [Value.ownBlock] at hk
      show B ≤ k
      omega
end
end Go.Proofs.Ytkgafpmblmobeaa
