/- Arguments opened: texts. -/
import Derived.Test.YtnopbhboamembaaDoorTexts
import Derived.Test.YtnopbhboamembaaDoorOpen
namespace Go.Proofs.YtnopbhboamembaaDoor
open Go.RowKit Go.Proofs

section
open Go.WideShapes Go.ChangeShapes
variable {H : Type} {enc : TypeId × Value → H} {w : World}
set_option maxRecDepth 100000 in
theorem open_arg_strs {base : Nat} {v : Value} {d : DataW H} {ps : List MemPlace} (hv : Value.okWide Tryd.prog w .any base 39 v) (h : DataW.Trod enc Tryd.prog w 0 (fun _ => true) true 39 v d ps) (hz : ∀ n ∈ d.weights Tryd.prog 39, n ≤ 140737488351232) :
    ∃ A l c, v = .slice A l.length c ∧ ArgS w A l c := by
  obtain ⟨x, len, cap, rfl⟩ := okWide_slice Tryd.underlying39 hv
  obtain ⟨k, hk⟩ := h
  exact open_strs_at Tryd.underlying39 Tryd.underlying9 (by kernel_rfl) (by kernel_rfl) hk hz
end
end Go.Proofs.YtnopbhboamembaaDoor
