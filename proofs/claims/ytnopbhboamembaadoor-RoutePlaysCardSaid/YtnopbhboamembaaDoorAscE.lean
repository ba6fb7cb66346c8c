/- The walks of package ascii and of its twin: Same, Trim. -/
import Derived.Test.YtnopbhboamembaaDoorAscD
import Derived.Shelf.Strings.SlTrimAscii
namespace Go.Proofs.YtnopbhboamembaaDoor
open Go.RowKit Go.Proofs Go.Shelf

def sameL (l m : List UInt8) : Bool := lowL l == lowL m

theorem same_any (s t : ByteArray) (hs : s.size ≤ 1000000) (ht : t.size ≤ 1000000) (w : World) : Calls Tryd.prog 36 #[.string s, .string t] w fun e w' => e = .returned (.bool (sameL s.data.toList t.data.toList)) ∧ Sm No w w' := by
  unfold sameL
  generalize hx : lowL s.data.toList = x
  generalize hy : lowL t.data.toList = y
  have HX := Lib.hid hx
  have HY := Lib.hid hy
  clear hx hy
  go_enter Tryd.func36, Tryd.ntmps36
  go_wp2_with fail
  refine (lower_any s hs _).mono ?_
  rintro e w1 ⟨rfl, hs1⟩
  rw [HX.out]
  go_wp2_with fail
  refine (lower_any t ht _).mono ?_
  rintro e w2 ⟨rfl, hs2⟩
  rw [HY.out]
  go_wp2_with fail
  go_ret
  exact ⟨ret_bool (by simp), hs1.trans hs2 (fun _ _ h => h)⟩

theorem rSame_any (s t : ByteArray) (hs : s.size ≤ 1000000) (ht : t.size ≤ 1000000) (w : World) : Calls Tryd.prog 37 #[.string s, .string t] w fun e w' => e = .returned (.bool (sameL s.data.toList t.data.toList)) ∧ Sm No w w' := by
  unfold sameL
  generalize hx : lowL s.data.toList = x
  generalize hy : lowL t.data.toList = y
  have HX := Lib.hid hx
  have HY := Lib.hid hy
  clear hx hy
  go_enter Tryd.func37, Tryd.ntmps37
  go_wp2_with fail
  refine (rLower_any s hs _).mono ?_
  rintro e w1 ⟨rfl, hs1⟩
  rw [HX.out]
  go_wp2_with fail
  refine (rLower_any t ht _).mono ?_
  rintro e w2 ⟨rfl, hs2⟩
  rw [HY.out]
  go_wp2_with fail
  go_ret
  exact ⟨ret_bool (by simp), hs1.trans hs2 (fun _ _ h => h)⟩

theorem trim_any (s : ByteArray) (hs : s.size ≤ 9223372036854775807) (w : World) : Calls Tryd.prog 66 #[.string s] w fun e w' => e = .returned (.string ⟨(trimL s.data.toList).toArray⟩) ∧ Sm No w w' := by
  have hcon := fun (w : World) => Any.strings_Trim_laid Tryd.lays160 (by kernel_rfl) s ⟨#[9, 32]⟩ w hs (by decide) (ascii_of_all (by decide))
  change ∀ w, Calls Tryd.prog 88 _ _ (fun e w' => e = .returned (.string ⟨(trimL s.data.toList).toArray⟩) ∧ Below w.heap.size w w') at hcon
  generalize (⟨(trimL s.data.toList).toArray⟩ : ByteArray) = r at hcon ⊢
  go_enter Tryd.func66, Tryd.ntmps66
  go_wp2_with fail
  refine (hcon _).mono ?_
  rintro e w' ⟨rfl, hB⟩
  go_wp2_with fail
  go_ret
  exact ⟨rfl, Sm.of_below hB No⟩
end Go.Proofs.YtnopbhboamembaaDoor
