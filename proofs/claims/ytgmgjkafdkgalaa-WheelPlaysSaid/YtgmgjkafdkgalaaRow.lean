/- An argument that is a slice of ints: its numbers. -/
import Derived.Test.YtgmgjkafdkgalaaMem
import Derived.OpenShut
namespace Go.Proofs.Ytgmgjkafdkgalaa
open Go.RowKit Go.Proofs

/-- Nil; or a row of cap cells that hold the numbers zs, of which the first len are the slice's. -/
def IsRow (k : IntKind) (w : World) (a : Option Addr) (len cap : Nat) (zs : List Int) : Prop :=
  (a = none ∧ len = 0 ∧ cap = 0 ∧ zs = []) ∨
  ∃ x, a = some x ∧ len ≤ cap ∧ cap ≤ maxLen ∧ zs.length = cap ∧ (∀ i, i < zs.length → w.cell? (x.add i) = some (.int k (zs.getD i 0))) ∧ ∀ n ∈ zs, (Lit.int k n).wf = true

theorem IsRow.reads {w : World} {A : Option Addr} {len cap : Nat} {zs : List Int} (h : IsRow .i64 w A len cap zs) :
    ∃ xs : List Int, xs.length = len ∧ (∀ x ∈ xs, (Lit.int .i64 x).wf = true) ∧ ∀ k, k < xs.length → ∃ bb off, A = some ⟨bb, off, none⟩ ∧ bb < w.heap.size ∧ w.cell? ⟨bb, off + k, none⟩ = some (.int .i64 (xs.getD k 0)) := by
  rcases h with ⟨rfl, rfl, rfl, rfl⟩ | ⟨x, rfl, hl, _, hz, hc, hw⟩
  · exact ⟨[], rfl, by simp, by simp⟩
  · refine ⟨zs.take len, by rw [List.length_take]; omega, fun x hx => hw x (List.mem_of_mem_take hx), fun k hk => ?_⟩
    rw [List.length_take] at hk
    obtain ⟨bb, off, rfl, hc'⟩ := ints_at hc (by omega)
    refine ⟨bb, off, rfl, World.block_lt_of_cell? w ⟨bb, off + 0, none⟩ (hc' 0 (by omega)), ?_⟩
    rw [hc' k (by omega)]
    simp [List.getD, show k < len by omega]
end Go.Proofs.Ytgmgjkafdkgalaa
