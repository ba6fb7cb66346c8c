/-
  NARROWER THAN 'FOR EVERY INPUT', by the rows' own cells (each row's printed sentence says how): FieldPlays: laid · RouteTurns: laid · RouteDeep: laid · RouteHead: laid · RoutePlays: laid · RouteOfNothing: laid.
  DERIVED. THE GIVEN ROWS OF THIS SEAT. 6 by the template 'for every input the law returns true; each argument reads behind the call as it read before'; 0 by the template 'total and deterministic' (their statements: YtnopbhboamembaaDoorTotals.lean).
  GIVEN WITH THE SEED: the statements are not yours to turn. If you find one false, say at which input.
  Laid BY PROGRAM, IN A SANDBOX (cutbox-rows.mjs): the forced cells as the released guide's own fill.sh prints them over the translation 61be99a7a2e52b2b… (all of the seat's roots in one cut). By AI agents, Wed Nov 11 2026. No macro, syntax, notation, axiom, sorry.
-/
import Derived.Test.YtnopbhboamembaaDoorChecked
import GoSem.PinnedTables
import GoSem.Claim
import GoSem.ClaimJoined
import GoSem.ClaimMapViews
import Derived.JoinedTies
import Derived.KernelRfl
namespace Go.Proofs.YtnopbhboamembaaDoor
/- THE CELL 'sum', in the pinned program and in every row, IS THE sha256 OF THE DUMP (.gsa) THAT YtnopbhboamembaaDoorProg.lean LOADS. Nothing in Lean hashes anything: it is a label: what it is worth is what the hold of that sum in a sandbox is worth. -/
noncomputable def Tryd.pinned : Pinned := { name := "ytnopbhboamembaadoor", sum := "61be99a7a2e52b2b30f62eaae2003f252ed280e459e7c52611f199aea1d9fc5a", checked := Tryd.checked }
namespace Rows
def none {H : Type} : Left H := { results := [], args := [] }

/- WHAT THE LISTED PACKAGE-LEVEL VARIABLES READ AS WHEN THE CALL BEGINS. Each datum BY PROGRAM (the guide's laid-datum.mjs) off the statement by which the dump's own 'gosem.cut.vars' lays the variable. In a bare row this is a premise. The card (YtnopbhboamembaaDoorCards.lean) ties it to the program's text. -/
def laid_unicode_utf8_acceptRanges {H : Type} : DataW H := .agg [.agg [.lit (.int .u8 128), .lit (.int .u8 191)], .agg [.lit (.int .u8 160), .lit (.int .u8 191)], .agg [.lit (.int .u8 128), .lit (.int .u8 159)], .agg [.lit (.int .u8 144), .lit (.int .u8 191)], .agg [.lit (.int .u8 128), .lit (.int .u8 143)], .agg [.lit (.int .u8 0), .lit (.int .u8 0)], .agg [.lit (.int .u8 0), .lit (.int .u8 0)], .agg [.lit (.int .u8 0), .lit (.int .u8 0)], .agg [.lit (.int .u8 0), .lit (.int .u8 0)], .agg [.lit (.int .u8 0), .lit (.int .u8 0)], .agg [.lit (.int .u8 0), .lit (.int .u8 0)], .agg [.lit (.int .u8 0), .lit (.int .u8 0)], .agg [.lit (.int .u8 0), .lit (.int .u8 0)], .agg [.lit (.int .u8 0), .lit (.int .u8 0)], .agg [.lit (.int .u8 0), .lit (.int .u8 0)], .agg [.lit (.int .u8 0), .lit (.int .u8 0)]]
/-- One of Go's own tables, pinned by name: the form's constant. -/
def laid_unicode_utf8_first : DataW Unit := Go.Pinned.utf8First

/-- 'usherlaw10.FieldPlays': WHATEVER THE INPUT: true; the input reads as it did. -/
def fieldPlaysSpec : ChangeSpec := { name := "fieldPlays", fn := fun _ => fun
  | [d1, d2] => { results := [.lit (.bool true)], args := [d1, d2] }
  | _ => none }
def fieldPlaysRow : OpenClaim := { program := "ytnopbhboamembaadoor", sum := "61be99a7a2e52b2b30f62eaae2003f252ed280e459e7c52611f199aea1d9fc5a", func := "usher/usherlaw10.FieldPlays", spec := "fieldPlays", inPlace := ["internal/bytealg.IndexByteString", "internal/bytealg.IndexString", "internal/abi.NoEscape", "internal/bytealg.MakeNoZero"], unfollowed := true, recurses := true, named := ["unicode/utf8.first", "unicode/utf8.acceptRanges", "internal/bytealg.MaxLen"], apart := false, laid := [("unicode/utf8.acceptRanges", laid_unicode_utf8_acceptRanges), ("unicode/utf8.first", laid_unicode_utf8_first)] }
def FieldPlaysSaid : Prop := fieldPlaysRow.holds Tryd.pinned (OpenSpec.ofChange fieldPlaysSpec)

/-- ITS FALSE NEIGHBOUR: 'it returns false'. Refute it at one input. -/
def fieldPlaysWrong : ChangeSpec := { name := "fieldPlays", fn := fun _ => fun
  | [d1, d2] => { results := [.lit (.bool false)], args := [d1, d2] }
  | _ => none }
def FieldPlaysWrongFalsely : Prop := fieldPlaysRow.holds Tryd.pinned (OpenSpec.ofChange fieldPlaysWrong)

/-- 'usherlaw19.RouteTurns': WHATEVER THE INPUT: true; the input reads as it did. -/
def routeTurnsSpec : ChangeSpec := { name := "routeTurns", fn := fun _ => fun
  | [d1, d2, d3] => { results := [.lit (.bool true)], args := [d1, d2, d3] }
  | _ => none }
def routeTurnsRow : OpenClaim := { program := "ytnopbhboamembaadoor", sum := "61be99a7a2e52b2b30f62eaae2003f252ed280e459e7c52611f199aea1d9fc5a", func := "usher/usherlaw19.RouteTurns", spec := "routeTurns", inPlace := ["internal/bytealg.CountString", "internal/bytealg.IndexByteString", "internal/bytealg.IndexString"], unfollowed := true, recurses := true, named := ["unicode/utf8.first", "unicode/utf8.acceptRanges", "internal/bytealg.MaxLen"], apart := false, laid := [("unicode/utf8.acceptRanges", laid_unicode_utf8_acceptRanges), ("unicode/utf8.first", laid_unicode_utf8_first)] }
def RouteTurnsSaid : Prop := routeTurnsRow.holds Tryd.pinned (OpenSpec.ofChange routeTurnsSpec)

/-- ITS FALSE NEIGHBOUR: 'it returns false'. Refute it at one input. -/
def routeTurnsWrong : ChangeSpec := { name := "routeTurns", fn := fun _ => fun
  | [d1, d2, d3] => { results := [.lit (.bool false)], args := [d1, d2, d3] }
  | _ => none }
def RouteTurnsWrongFalsely : Prop := routeTurnsRow.holds Tryd.pinned (OpenSpec.ofChange routeTurnsWrong)

/-- 'usherlaw19.RouteDeep': WHATEVER THE INPUT: true; the input reads as it did. -/
def routeDeepSpec : ChangeSpec := { name := "routeDeep", fn := fun _ => fun
  | [d1, d2] => { results := [.lit (.bool true)], args := [d1, d2] }
  | _ => none }
def routeDeepRow : OpenClaim := { program := "ytnopbhboamembaadoor", sum := "61be99a7a2e52b2b30f62eaae2003f252ed280e459e7c52611f199aea1d9fc5a", func := "usher/usherlaw19.RouteDeep", spec := "routeDeep", inPlace := ["internal/bytealg.CountString", "internal/bytealg.IndexByteString", "internal/bytealg.IndexString"], unfollowed := true, recurses := true, named := ["unicode/utf8.first", "unicode/utf8.acceptRanges", "internal/bytealg.MaxLen"], apart := false, laid := [("unicode/utf8.acceptRanges", laid_unicode_utf8_acceptRanges), ("unicode/utf8.first", laid_unicode_utf8_first)] }
def RouteDeepSaid : Prop := routeDeepRow.holds Tryd.pinned (OpenSpec.ofChange routeDeepSpec)

/-- ITS FALSE NEIGHBOUR: 'it returns false'. Refute it at one input. -/
def routeDeepWrong : ChangeSpec := { name := "routeDeep", fn := fun _ => fun
  | [d1, d2] => { results := [.lit (.bool false)], args := [d1, d2] }
  | _ => none }
def RouteDeepWrongFalsely : Prop := routeDeepRow.holds Tryd.pinned (OpenSpec.ofChange routeDeepWrong)

/-- 'usherlaw19.RouteHead': WHATEVER THE INPUT: true; the input reads as it did. -/
def routeHeadSpec : ChangeSpec := { name := "routeHead", fn := fun _ => fun
  | [d1, d2, d3, d4] => { results := [.lit (.bool true)], args := [d1, d2, d3, d4] }
  | _ => none }
def routeHeadRow : OpenClaim := { program := "ytnopbhboamembaadoor", sum := "61be99a7a2e52b2b30f62eaae2003f252ed280e459e7c52611f199aea1d9fc5a", func := "usher/usherlaw19.RouteHead", spec := "routeHead", inPlace := ["internal/bytealg.CountString", "internal/bytealg.IndexByteString", "internal/bytealg.IndexString"], unfollowed := true, recurses := true, named := ["unicode/utf8.first", "unicode/utf8.acceptRanges", "internal/bytealg.MaxLen"], apart := false, laid := [("unicode/utf8.acceptRanges", laid_unicode_utf8_acceptRanges), ("unicode/utf8.first", laid_unicode_utf8_first)] }
def RouteHeadSaid : Prop := routeHeadRow.holds Tryd.pinned (OpenSpec.ofChange routeHeadSpec)

/-- ITS FALSE NEIGHBOUR: 'it returns false'. Refute it at one input. -/
def routeHeadWrong : ChangeSpec := { name := "routeHead", fn := fun _ => fun
  | [d1, d2, d3, d4] => { results := [.lit (.bool false)], args := [d1, d2, d3, d4] }
  | _ => none }
def RouteHeadWrongFalsely : Prop := routeHeadRow.holds Tryd.pinned (OpenSpec.ofChange routeHeadWrong)

/-- 'usherlaw19.RoutePlays': WHATEVER THE INPUT: true; the input reads as it did. -/
def routePlaysSpec : ChangeSpec := { name := "routePlays", fn := fun _ => fun
  | [d1, d2, d3] => { results := [.lit (.bool true)], args := [d1, d2, d3] }
  | _ => none }
def routePlaysRow : OpenClaim := { program := "ytnopbhboamembaadoor", sum := "61be99a7a2e52b2b30f62eaae2003f252ed280e459e7c52611f199aea1d9fc5a", func := "usher/usherlaw19.RoutePlays", spec := "routePlays", inPlace := ["internal/bytealg.CountString", "internal/bytealg.IndexByteString", "internal/bytealg.IndexString"], unfollowed := true, recurses := true, named := ["unicode/utf8.first", "unicode/utf8.acceptRanges", "internal/bytealg.MaxLen"], apart := false, laid := [("unicode/utf8.acceptRanges", laid_unicode_utf8_acceptRanges), ("unicode/utf8.first", laid_unicode_utf8_first)] }
def RoutePlaysSaid : Prop := routePlaysRow.holds Tryd.pinned (OpenSpec.ofChange routePlaysSpec)

/-- ITS FALSE NEIGHBOUR: 'it returns false'. Refute it at one input. -/
def routePlaysWrong : ChangeSpec := { name := "routePlays", fn := fun _ => fun
  | [d1, d2, d3] => { results := [.lit (.bool false)], args := [d1, d2, d3] }
  | _ => none }
def RoutePlaysWrongFalsely : Prop := routePlaysRow.holds Tryd.pinned (OpenSpec.ofChange routePlaysWrong)

/-- 'usherlaw19.RouteOfNothing': WHATEVER THE INPUT: true; the input reads as it did. -/
def routeOfNothingSpec : ChangeSpec := { name := "routeOfNothing", fn := fun _ => fun
  | [d] => { results := [.lit (.bool true)], args := [d] }
  | _ => none }
def routeOfNothingRow : OpenClaim := { program := "ytnopbhboamembaadoor", sum := "61be99a7a2e52b2b30f62eaae2003f252ed280e459e7c52611f199aea1d9fc5a", func := "usher/usherlaw19.RouteOfNothing", spec := "routeOfNothing", inPlace := ["internal/bytealg.CountString", "internal/bytealg.IndexByteString", "internal/bytealg.IndexString"], unfollowed := true, recurses := true, named := ["unicode/utf8.first", "unicode/utf8.acceptRanges", "internal/bytealg.MaxLen"], apart := false, laid := [("unicode/utf8.acceptRanges", laid_unicode_utf8_acceptRanges), ("unicode/utf8.first", laid_unicode_utf8_first)] }
def RouteOfNothingSaid : Prop := routeOfNothingRow.holds Tryd.pinned (OpenSpec.ofChange routeOfNothingSpec)

/-- ITS FALSE NEIGHBOUR: 'it returns false'. Refute it at one input. -/
def routeOfNothingWrong : ChangeSpec := { name := "routeOfNothing", fn := fun _ => fun
  | [d] => { results := [.lit (.bool false)], args := [d] }
  | _ => none }
def RouteOfNothingWrongFalsely : Prop := routeOfNothingRow.holds Tryd.pinned (OpenSpec.ofChange routeOfNothingWrong)

/- THE SECOND FORM. 'bulk': how many values and letters a reading holds, each counted each time it is reached (what is shared counts as often as it is met; a slice's spare places count too). A statement '..UptoSaid' is the law's where the arguments, and the package variables that the reading takes, are together of bulk at most 1048576: NARROWER than '..Said'. Prove '..Said' where nothing that the law and all that it calls make is longer than what came in: it says more and counts as full. Else prove '..UptoSaid'. A law counts once. -/
mutual
def uptoBulk {H : Type} : DataW H → Nat
  | .lit (.string bytes) => bytes.length + 1
  | .lit _ => 1
  | .nil => 1
  | .ptr d => uptoBulk d + 1
  | .slice elems spare => uptoBulkAll elems + uptoBulkAll spare + 1
  | .agg parts => uptoBulkAll parts + 1
  | .iface _ d => uptoBulk d + 1
  | .map entries => uptoBulkEntries entries + 1
  | .held _ => 1
def uptoBulkAll {H : Type} : List (DataW H) → Nat
  | [] => 0
  | d :: r => uptoBulk d + uptoBulkAll r
def uptoBulkEntries {H : Type} : List (Lit × DataW H) → Nat
  | [] => 0
  | x :: r => uptoBulkEntry x + uptoBulkEntries r
def uptoBulkEntry {H : Type} : Lit × DataW H → Nat
  | (.string bytes, d) => bytes.length + uptoBulk d + 1
  | (_, d) => uptoBulk d + 1
 end
def uptoSmall : (H : Type) → List (DataW H) → Bool := fun _ ds => decide (uptoBulkAll ds ≤ 1048576)
def OpenSpec.upto (s : _root_.Go.ChangeSpec) : _root_.Go.OpenSpec := { _root_.Go.OpenSpec.ofChange s with cond := some uptoSmall }

/-- 'usherlaw10.FieldPlays', WHERE WHAT IT READS IS OF BULK AT MOST 1048576: true; the input reads as it did. -/
def fieldPlaysUptoRow : OpenClaim := { program := "ytnopbhboamembaadoor", sum := "61be99a7a2e52b2b30f62eaae2003f252ed280e459e7c52611f199aea1d9fc5a", func := "usher/usherlaw10.FieldPlays", spec := "fieldPlays", inPlace := ["internal/bytealg.IndexByteString", "internal/bytealg.IndexString", "internal/abi.NoEscape", "internal/bytealg.MakeNoZero"], unfollowed := true, recurses := true, named := ["unicode/utf8.first", "unicode/utf8.acceptRanges", "internal/bytealg.MaxLen"], apart := false, laid := [("unicode/utf8.acceptRanges", laid_unicode_utf8_acceptRanges), ("unicode/utf8.first", laid_unicode_utf8_first)], narrowed := true }
def FieldPlaysUptoSaid : Prop := fieldPlaysUptoRow.holds Tryd.pinned (OpenSpec.upto fieldPlaysSpec)

/-- 'usherlaw19.RouteTurns', WHERE WHAT IT READS IS OF BULK AT MOST 1048576: true; the input reads as it did. -/
def routeTurnsUptoRow : OpenClaim := { program := "ytnopbhboamembaadoor", sum := "61be99a7a2e52b2b30f62eaae2003f252ed280e459e7c52611f199aea1d9fc5a", func := "usher/usherlaw19.RouteTurns", spec := "routeTurns", inPlace := ["internal/bytealg.CountString", "internal/bytealg.IndexByteString", "internal/bytealg.IndexString"], unfollowed := true, recurses := true, named := ["unicode/utf8.first", "unicode/utf8.acceptRanges", "internal/bytealg.MaxLen"], apart := false, laid := [("unicode/utf8.acceptRanges", laid_unicode_utf8_acceptRanges), ("unicode/utf8.first", laid_unicode_utf8_first)], narrowed := true }
def RouteTurnsUptoSaid : Prop := routeTurnsUptoRow.holds Tryd.pinned (OpenSpec.upto routeTurnsSpec)

/-- 'usherlaw19.RouteDeep', WHERE WHAT IT READS IS OF BULK AT MOST 1048576: true; the input reads as it did. -/
def routeDeepUptoRow : OpenClaim := { program := "ytnopbhboamembaadoor", sum := "61be99a7a2e52b2b30f62eaae2003f252ed280e459e7c52611f199aea1d9fc5a", func := "usher/usherlaw19.RouteDeep", spec := "routeDeep", inPlace := ["internal/bytealg.CountString", "internal/bytealg.IndexByteString", "internal/bytealg.IndexString"], unfollowed := true, recurses := true, named := ["unicode/utf8.first", "unicode/utf8.acceptRanges", "internal/bytealg.MaxLen"], apart := false, laid := [("unicode/utf8.acceptRanges", laid_unicode_utf8_acceptRanges), ("unicode/utf8.first", laid_unicode_utf8_first)], narrowed := true }
def RouteDeepUptoSaid : Prop := routeDeepUptoRow.holds Tryd.pinned (OpenSpec.upto routeDeepSpec)

/-- 'usherlaw19.RouteHead', WHERE WHAT IT READS IS OF BULK AT MOST 1048576: true; the input reads as it did. -/
def routeHeadUptoRow : OpenClaim := { program := "ytnopbhboamembaadoor", sum := "61be99a7a2e52b2b30f62eaae2003f252ed280e459e7c52611f199aea1d9fc5a", func := "usher/usherlaw19.RouteHead", spec := "routeHead", inPlace := ["internal/bytealg.CountString", "internal/bytealg.IndexByteString", "internal/bytealg.IndexString"], unfollowed := true, recurses := true, named := ["unicode/utf8.first", "unicode/utf8.acceptRanges", "internal/bytealg.MaxLen"], apart := false, laid := [("unicode/utf8.acceptRanges", laid_unicode_utf8_acceptRanges), ("unicode/utf8.first", laid_unicode_utf8_first)], narrowed := true }
def RouteHeadUptoSaid : Prop := routeHeadUptoRow.holds Tryd.pinned (OpenSpec.upto routeHeadSpec)

/-- 'usherlaw19.RoutePlays', WHERE WHAT IT READS IS OF BULK AT MOST 1048576: true; the input reads as it did. -/
def routePlaysUptoRow : OpenClaim := { program := "ytnopbhboamembaadoor", sum := "61be99a7a2e52b2b30f62eaae2003f252ed280e459e7c52611f199aea1d9fc5a", func := "usher/usherlaw19.RoutePlays", spec := "routePlays", inPlace := ["internal/bytealg.CountString", "internal/bytealg.IndexByteString", "internal/bytealg.IndexString"], unfollowed := true, recurses := true, named := ["unicode/utf8.first", "unicode/utf8.acceptRanges", "internal/bytealg.MaxLen"], apart := false, laid := [("unicode/utf8.acceptRanges", laid_unicode_utf8_acceptRanges), ("unicode/utf8.first", laid_unicode_utf8_first)], narrowed := true }
def RoutePlaysUptoSaid : Prop := routePlaysUptoRow.holds Tryd.pinned (OpenSpec.upto routePlaysSpec)

/-- 'usherlaw19.RouteOfNothing', WHERE WHAT IT READS IS OF BULK AT MOST 1048576: true; the input reads as it did. -/
def routeOfNothingUptoRow : OpenClaim := { program := "ytnopbhboamembaadoor", sum := "61be99a7a2e52b2b30f62eaae2003f252ed280e459e7c52611f199aea1d9fc5a", func := "usher/usherlaw19.RouteOfNothing", spec := "routeOfNothing", inPlace := ["internal/bytealg.CountString", "internal/bytealg.IndexByteString", "internal/bytealg.IndexString"], unfollowed := true, recurses := true, named := ["unicode/utf8.first", "unicode/utf8.acceptRanges", "internal/bytealg.MaxLen"], apart := false, laid := [("unicode/utf8.acceptRanges", laid_unicode_utf8_acceptRanges), ("unicode/utf8.first", laid_unicode_utf8_first)], narrowed := true }
def RouteOfNothingUptoSaid : Prop := routeOfNothingUptoRow.holds Tryd.pinned (OpenSpec.upto routeOfNothingSpec)

end Rows
end Go.Proofs.YtnopbhboamembaaDoor
