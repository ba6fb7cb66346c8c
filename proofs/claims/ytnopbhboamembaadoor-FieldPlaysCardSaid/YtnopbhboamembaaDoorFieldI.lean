/- The walk of FieldParses. -/
import Derived.Test.YtnopbhboamembaaDoorFieldH
namespace Go.Proofs.YtnopbhboamembaaDoor
open Go.RowKit Go.Proofs

end Go.Proofs.YtnopbhboamembaaDoor
