/- The twin's Fields: Add. -/
/- The twin's Fields: Values, Get. -/
/- The twin's Fields: Get, Drop; usherlaw10.texts. -/
import Derived.Test.YtiglfbimijnpcaaGreatDoorQC
import Derived.Deep.RegionLaw
namespace Go.Proofs.YtiglfbimijnpcaaGreatDoor
open Go.RowKit Go.Proofs

end Go.Proofs.YtiglfbimijnpcaaGreatDoor

namespace Go.Proofs.YtiglfbimijnpcaaGreatDoor
open Go.RowKit Go.Proofs

theorem rSame_say {s t : ByteArray} {r : Bool} (h : Hid (sameL s.data.toList t.data.toList = r)) (hs : s.size ≤ 1000000) (ht : t.size ≤ 1000000) (w : World) :
    Calls Tryz.prog 106 #[.string s, .string t] w fun e w' => e = .returned (.bool r) ∧ Sm No w w' := by
  rw [← h.out]; exact rSame_any s t hs ht w

end Go.Proofs.YtiglfbimijnpcaaGreatDoor

namespace Go.Proofs.YtiglfbimijnpcaaGreatDoor
open Go.RowKit Go.Proofs

theorem join_take {ys : List (List UInt8)} {k : Nat} {y : List UInt8} (s : List UInt8) (h : ys[k]? = some y) : Lib.join (ys.take (k + 1)) s = if k = 0 then y else Lib.join (ys.take k) s ++ s ++ y := by
  cases ys with
  | nil => simp at h
  | cons x r =>
    cases k with
    | zero => simp at h; subst h; simp [Lib.join_one]
    | succ j =>
      rw [List.take_succ_cons, Lib.join_cons, if_neg (by omega), List.take_succ_cons, Lib.join_cons, Lib.joinTail_take_succ _ _ _ _ (by simpa using h)]
      simp [List.append_assoc]
theorem OwnS.row {w : World} {B : Nat} {v : Value} {l : List ByteArray} (h : OwnS w B v l) : ∃ A c, v = .slice A l.length c ∧ SRow w A l := by
  obtain ⟨A, c, rfl, hR, _⟩ := own_rowC h
  refine ⟨A, c, rfl, fun k hk => ?_⟩
  obtain ⟨bb, off, hA, hb, h1⟩ := hR k (.string l[k]) (by simp [hk])
  exact ⟨bb, off, hA, hb, h1⟩
theorem tlist_append (a b : ByteArray) : (a ++ b).data.toList = a.data.toList ++ b.data.toList := by simp

def GetRel (xs : List ByteArray) (s i : Value) : Prop := ∃ (k : Nat) (t : ByteArray), k ≤ xs.length ∧ i = .int .i64 k ∧ s = .string t ∧ t.data.toList = Lib.join ((xs.take k).map (·.data.toList)) sep ∧ t.size ≤ 1000002 * k

end Go.Proofs.YtiglfbimijnpcaaGreatDoor

