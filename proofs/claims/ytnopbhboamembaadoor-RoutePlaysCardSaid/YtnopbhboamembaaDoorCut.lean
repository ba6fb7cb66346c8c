/- strings.Cut at one byte. -/
import Derived.Test.YtnopbhboamembaaDoorAscF
import Derived.Test.YtnopbhboamembaaDoorLaws
import Derived.Lib.IndexLaws
namespace Go.Proofs.YtnopbhboamembaaDoor
open Go.RowKit Go.Proofs

theorem index_one (s : ByteArray) (c : UInt8) (w : World) (r : Int) (h : Hid (Lib.indexByte s.data.toList c = r)) : Calls Tryd.prog 120 #[.string s, .string ⟨#[c]⟩] w fun e w' => e = .returned (.int .i64 r) ∧ w = w' := by
  rw [← h.out]
  exact (Tryd.stringslite_Index_one s c w).mono fun _ _ ⟨a, b⟩ => ⟨a, b.symm⟩

theorem cut_none1 (s : ByteArray) (c : UInt8) (w : World) (h : Hid (Lib.indexByte s.data.toList c = -1)) :
    Calls Tryd.prog 93 #[.string s, .string ⟨#[c]⟩] w fun e w' => e = .returned (.tuple #[.string s, .string ⟨#[]⟩, .bool false]) ∧ w = w' := by
  go_enter Tryd.func93, Tryd.ntmps93
  go_wp2_with fail
  refine (index_one s c _ _ h).mono ?_
  rintro e w' ⟨rfl, rfl⟩
  go_wp2_with fail
  exact bodyPost_ret (v := .tuple #[.string s, .string ⟨#[]⟩, .bool false]) (by simp [results, Tryd.results93, go_sem]) rfl ⟨rfl, rfl⟩

theorem cut_some1 (s : ByteArray) (c : UInt8) (w : World) (i : Nat) (hi : i < s.size) (hs : s.size ≤ 1000000) (h : Hid (Lib.indexByte s.data.toList c = i)) :
    Calls Tryd.prog 93 #[.string s, .string ⟨#[c]⟩] w fun e w' => e = .returned (.tuple #[.string (s.extract 0 i), .string (s.extract (i + 1) s.size), .bool true]) ∧ ∃ n, w' = w.drewN n := by
  have e1 : IntKind.i64.wrap ((i : Int) + 1) = ((i + 1 : Nat) : Int) := by rw [IntWalk.i64_in _ (by omega)]; omega
  have hi2 : i + 1 ≤ s.size := hi
  go_enter Tryd.func93, Tryd.ntmps93
  go_wp2_with fail
  refine (index_one s c _ _ h).mono ?_
  rintro e w' ⟨rfl, rfl⟩
  go_wp2_with fail
  go_quiet (fail)
  go_wp2
  exact bodyPost_ret (v := .tuple #[.string (s.extract 0 i), .string (s.extract (i + 1) s.size), .bool true]) (by simp [results, Tryd.results93, go_sem]) rfl ⟨rfl, _, rfl⟩

theorem cut_none (s : ByteArray) (c : UInt8) (w : World) (h : Hid (Lib.indexByte s.data.toList c = -1)) :
    Calls Tryd.prog 74 #[.string s, .string ⟨#[c]⟩] w fun e w' => e = .returned (.tuple #[.string s, .string ⟨#[]⟩, .bool false]) ∧ w = w' := by
  go_enter Tryd.func74, Tryd.ntmps74
  go_wp2_with fail
  refine (cut_none1 s c _ h).mono ?_
  rintro e w' ⟨rfl, rfl⟩
  go_wp2_with fail
  exact bodyPost_ret (v := .tuple #[.string s, .string ⟨#[]⟩, .bool false]) (by simp [results, Tryd.results74, go_sem]) rfl ⟨rfl, rfl⟩

theorem cut_some (s : ByteArray) (c : UInt8) (w : World) (i : Nat) (hi : i < s.size) (hs : s.size ≤ 1000000) (h : Hid (Lib.indexByte s.data.toList c = i)) :
    Calls Tryd.prog 74 #[.string s, .string ⟨#[c]⟩] w fun e w' => e = .returned (.tuple #[.string (s.extract 0 i), .string (s.extract (i + 1) s.size), .bool true]) ∧ ∃ n, w' = w.drewN n := by
  go_enter Tryd.func74, Tryd.ntmps74
  go_wp2_with fail
  refine (cut_some1 s c _ i hi hs h).mono ?_
  rintro e w' ⟨rfl, n, rfl⟩
  go_wp2_with fail
  exact bodyPost_ret (v := .tuple #[.string (s.extract 0 i), .string (s.extract (i + 1) s.size), .bool true]) (by simp [results, Tryd.results74, go_sem]) rfl ⟨rfl, _, rfl⟩
end Go.Proofs.YtnopbhboamembaaDoor
