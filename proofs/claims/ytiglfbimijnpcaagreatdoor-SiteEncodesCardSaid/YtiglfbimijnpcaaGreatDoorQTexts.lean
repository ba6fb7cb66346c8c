/- Words for texts in memory: slices of texts of the call's own, the library's one variable. -/
import Derived.Test.YtiglfbimijnpcaaGreatDoorQF
import Derived.Test.YtiglfbimijnpcaaGreatDoorQO
namespace Go.Proofs.YtiglfbimijnpcaaGreatDoor
open Go.RowKit Go.Proofs

theorem infoStr : (Tryz.prog.info? 9).map (fun i => (i.zero, i.size, i.bytes)) = some (some (.string ⟨#[]⟩), 1, 16) := by kernel_rfl
theorem drop_at (s : ByteArray) (k : Nat) (h : k < s.size) : s.data.toList.drop k = s[k] :: s.data.toList.drop (k + 1) := by
  have h2 : k < s.data.toList.length := by simp; exact h
  rw [List.drop_eq_getElem_cons h2]
  rfl

theorem u8_ne {c : UInt8} {n : Nat} (hn : n < 256) (h : c ≠ UInt8.ofNat n) : ((c.toNat : Int) == (n : Int)) = false := by
  simp
  intro e
  exact h (UInt8.toNat_inj.mp (by simp; omega))
def strV (l : List UInt8) : Value := .string ⟨l.toArray⟩
/-- v is a slice of a block of its own, not before block B, that holds just these texts. -/
def OwnT (w : World) (B : Nat) (v : Value) (l : List (List UInt8)) : Prop := w.ownsRow B 9 1 v l.length (l.map strV)
theorem OwnT.no {w w' : World} {B : Nat} {v : Value} {l : List (List UInt8)} (h : OwnT w B v l) (hs : Sm No w w') : OwnT w' B v l := own_row_sm h hs (fun _ _ h => h)
theorem OwnT.push {w : World} {B : Nat} {v : Value} {l : List (List UInt8)} {t : List UInt8} (h : w.ownsRow B 9 1 v (l.length + 1) (l.map strV ++ [strV t])) : OwnT w B v (l ++ [t]) := by
  unfold OwnT
  rw [List.length_append, List.map_append]
  exact h

/-- The one variable of the library's that strings.Split reads. -/
def G0 (w : World) : Prop := ∃ m, w.cell? ⟨0, 0, none⟩ = some (.int .i64 m)
theorem G0.no {w w' : World} (h : G0 w) (hs : Sm No w w') : G0 w' := by
  obtain ⟨m, hm⟩ := h
  exact ⟨m, hs.cell (World.block_lt_of_cell? w _ hm) hm⟩

def bytesL (vs : List ByteArray) : List (List UInt8) := vs.map (·.data.toList)
end Go.Proofs.YtiglfbimijnpcaaGreatDoor

