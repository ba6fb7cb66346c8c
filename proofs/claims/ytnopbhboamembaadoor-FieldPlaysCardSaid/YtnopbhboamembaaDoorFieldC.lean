/- A line as a field: the twin's Parse. -/
import Derived.Test.YtnopbhboamembaaDoorFieldB
namespace Go.Proofs.YtnopbhboamembaaDoor
open Go.RowKit Go.Proofs

theorem idx_found {l : List UInt8} {c : UInt8} {k : Nat} (h0 : ∀ j, j < k → l[j]? ≠ some c) (h1 : l[k]? = some c) : Lib.indexByte l c = k := by
  rcases index_cases l c with h | ⟨i, h⟩
  · exact absurd h1 (Lib.indexByte_none h k)
  · obtain ⟨a, b⟩ := Lib.indexByte_some h
    have : i = k := by
      rcases Nat.lt_trichotomy i k with g | g | g
      · exact absurd a (h0 i g)
      · exact g
      · exact absurd h1 (b k g)
    rw [h, this]
theorem idx_none {l : List UInt8} {c : UInt8} (h0 : ∀ j, j < l.length → l[j]? ≠ some c) : Lib.indexByte l c = -1 := by
  rcases index_cases l c with h | ⟨i, h⟩
  · exact h
  · exact absurd (Lib.indexByte_some h).1 (h0 i (index_lt l c i h))

theorem rIs_say {n v : ByteArray} {r : Bool} (h : Hid (isF n.data.toList v.data.toList = r)) (hn : n.size ≤ 1000000) (hv : v.size ≤ 1000000) (w : World) :
    Calls Tryd.prog 34 #[.agg #[.string n, .string v]] w fun e w' => e = .returned (.bool r) ∧ Sm No w w' := by
  rw [← h.out]; exact rIs_any n v hn hv w

theorem parseL_long {l : List UInt8} (h : 256 < l.length) : parseL l = (9, [], []) := by unfold parseL; rw [if_pos h]
theorem parseL_none {l : List UInt8} (h : ¬ 256 < l.length) (h2 : Lib.indexByte l 58 = -1) : parseL l = (8, [], []) := by unfold parseL; rw [if_neg h, if_pos h2]
theorem parseL_at {l : List UInt8} {i : Nat} (h : ¬ 256 < l.length) (h2 : Lib.indexByte l 58 = i) : parseL l = if isF (l.take i) (trimL (l.drop (i + 1))) = true then (0, l.take i, trimL (l.drop (i + 1))) else (8, [], []) := by
  unfold parseL; rw [if_neg h, if_neg (by omega), h2]; rfl

def ColRel (s : ByteArray) (i : Value) : Prop := ∃ k : Nat, k ≤ s.size ∧ i = .int .i64 k ∧ ∀ j, j < k → s.data.toList[j]? ≠ some 58

end Go.Proofs.YtnopbhboamembaaDoor
