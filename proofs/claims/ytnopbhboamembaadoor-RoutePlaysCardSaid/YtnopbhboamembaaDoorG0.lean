/- The library's one variable, from the world's shape. -/
import Derived.Test.YtnopbhboamembaaDoorTexts
import Derived.Test.YtnopbhboamembaaDoorShelf
namespace Go.Proofs.YtnopbhboamembaaDoor
open Go.RowKit Go.Proofs

theorem g0_of {w : World} (h : w.ShapedOpen Tryd.prog) : G0 w :=
  Go.Proofs.cell_of_shapedOpen_int (zero := #[.int .i64 0]) (t := 3) h (of_decide_eq_true (by kernel_rfl)) (by kernel_rfl) rfl (by kernel_rfl) (by kernel_rfl) Tryd.underlying3
end Go.Proofs.YtnopbhboamembaaDoor
