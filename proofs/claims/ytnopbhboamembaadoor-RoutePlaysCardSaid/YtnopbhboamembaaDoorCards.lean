/-
  DERIVED. GIVEN WITH THE SEED: THE CARDS: each row of YtnopbhboamembaaDoorRows.lean that lists a variable, with what it lists TIED to the program's text (the seventh form; the later family's looks); each row that meets fmt, with fmt's text TOLD by the authors' own Lean function (tested against real Go, not proved from fmt's source: count such statements apart). THE CARD IS WHAT COUNTS. Prove the row's statement (the work); the ties are given (YtnopbhboamembaaDoorTie.lean); close each card by the builder's one call (the guide's Derived/Test/ToyasCard.lean, 'card_holds'). Laid BY PROGRAM, IN A SANDBOX (cutbox-door.mjs). By AI agents, Wed Nov 11 2026. No macro, syntax, notation, axiom, sorry.
-/
import Derived.Test.YtnopbhboamembaaDoorRows
import GoSem.ClaimSeven
namespace Go.Proofs.YtnopbhboamembaaDoor
namespace Rows

/-- THE TIED CARD OF 'usherlaw10.FieldPlays'. -/
def fieldPlaysCard : Claim7 := { stood := { row := fieldPlaysRow, standIns := [], harness := (true, "1582c5a58cef60f22ec8a946a1203214cfa02a03b7a3604589cb37dc5cc3fcc1"), looks := false }, kinds := [], alts := [], laidByText := true, laidKinds := [.data, .pinned], laidTests := true, laidLooks := .later }
def FieldPlaysCardSaid : Prop := Claim7.holds Tryd.pinned (.plain (OpenSpec.ofChange fieldPlaysSpec)) fieldPlaysCard

/-- THE TIED CARD OF 'usherlaw19.RouteTurns'. -/
def routeTurnsCard : Claim7 := { stood := { row := routeTurnsRow, standIns := [], harness := (true, "1582c5a58cef60f22ec8a946a1203214cfa02a03b7a3604589cb37dc5cc3fcc1"), looks := false }, kinds := [], alts := [], laidByText := true, laidKinds := [.data, .pinned], laidTests := true, laidLooks := .later }
def RouteTurnsCardSaid : Prop := Claim7.holds Tryd.pinned (.plain (OpenSpec.ofChange routeTurnsSpec)) routeTurnsCard

/-- THE TIED CARD OF 'usherlaw19.RouteDeep'. -/
def routeDeepCard : Claim7 := { stood := { row := routeDeepRow, standIns := [], harness := (true, "1582c5a58cef60f22ec8a946a1203214cfa02a03b7a3604589cb37dc5cc3fcc1"), looks := false }, kinds := [], alts := [], laidByText := true, laidKinds := [.data, .pinned], laidTests := true, laidLooks := .later }
def RouteDeepCardSaid : Prop := Claim7.holds Tryd.pinned (.plain (OpenSpec.ofChange routeDeepSpec)) routeDeepCard

/-- THE TIED CARD OF 'usherlaw19.RouteHead'. -/
def routeHeadCard : Claim7 := { stood := { row := routeHeadRow, standIns := [], harness := (true, "1582c5a58cef60f22ec8a946a1203214cfa02a03b7a3604589cb37dc5cc3fcc1"), looks := false }, kinds := [], alts := [], laidByText := true, laidKinds := [.data, .pinned], laidTests := true, laidLooks := .later }
def RouteHeadCardSaid : Prop := Claim7.holds Tryd.pinned (.plain (OpenSpec.ofChange routeHeadSpec)) routeHeadCard

/-- THE TIED CARD OF 'usherlaw19.RoutePlays'. -/
def routePlaysCard : Claim7 := { stood := { row := routePlaysRow, standIns := [], harness := (true, "1582c5a58cef60f22ec8a946a1203214cfa02a03b7a3604589cb37dc5cc3fcc1"), looks := false }, kinds := [], alts := [], laidByText := true, laidKinds := [.data, .pinned], laidTests := true, laidLooks := .later }
def RoutePlaysCardSaid : Prop := Claim7.holds Tryd.pinned (.plain (OpenSpec.ofChange routePlaysSpec)) routePlaysCard

/-- THE TIED CARD OF 'usherlaw19.RouteOfNothing'. -/
def routeOfNothingCard : Claim7 := { stood := { row := routeOfNothingRow, standIns := [], harness := (true, "1582c5a58cef60f22ec8a946a1203214cfa02a03b7a3604589cb37dc5cc3fcc1"), looks := false }, kinds := [], alts := [], laidByText := true, laidKinds := [.data, .pinned], laidTests := true, laidLooks := .later }
def RouteOfNothingCardSaid : Prop := Claim7.holds Tryd.pinned (.plain (OpenSpec.ofChange routeOfNothingSpec)) routeOfNothingCard

/-- THE SECOND FORM's CARD OF 'usherlaw10.FieldPlays'. -/
def fieldPlaysUptoCard : Claim7 := { stood := { row := fieldPlaysUptoRow, standIns := [], harness := (true, "1582c5a58cef60f22ec8a946a1203214cfa02a03b7a3604589cb37dc5cc3fcc1"), looks := false }, kinds := [], alts := [], laidByText := true, laidKinds := [.data, .pinned], laidTests := true, laidLooks := .later }
def FieldPlaysUptoCardSaid : Prop := Claim7.holds Tryd.pinned (.plain (OpenSpec.upto fieldPlaysSpec)) fieldPlaysUptoCard

/-- THE SECOND FORM's CARD OF 'usherlaw19.RouteTurns'. -/
def routeTurnsUptoCard : Claim7 := { stood := { row := routeTurnsUptoRow, standIns := [], harness := (true, "1582c5a58cef60f22ec8a946a1203214cfa02a03b7a3604589cb37dc5cc3fcc1"), looks := false }, kinds := [], alts := [], laidByText := true, laidKinds := [.data, .pinned], laidTests := true, laidLooks := .later }
def RouteTurnsUptoCardSaid : Prop := Claim7.holds Tryd.pinned (.plain (OpenSpec.upto routeTurnsSpec)) routeTurnsUptoCard

/-- THE SECOND FORM's CARD OF 'usherlaw19.RouteDeep'. -/
def routeDeepUptoCard : Claim7 := { stood := { row := routeDeepUptoRow, standIns := [], harness := (true, "1582c5a58cef60f22ec8a946a1203214cfa02a03b7a3604589cb37dc5cc3fcc1"), looks := false }, kinds := [], alts := [], laidByText := true, laidKinds := [.data, .pinned], laidTests := true, laidLooks := .later }
def RouteDeepUptoCardSaid : Prop := Claim7.holds Tryd.pinned (.plain (OpenSpec.upto routeDeepSpec)) routeDeepUptoCard

/-- THE SECOND FORM's CARD OF 'usherlaw19.RouteHead'. -/
def routeHeadUptoCard : Claim7 := { stood := { row := routeHeadUptoRow, standIns := [], harness := (true, "1582c5a58cef60f22ec8a946a1203214cfa02a03b7a3604589cb37dc5cc3fcc1"), looks := false }, kinds := [], alts := [], laidByText := true, laidKinds := [.data, .pinned], laidTests := true, laidLooks := .later }
def RouteHeadUptoCardSaid : Prop := Claim7.holds Tryd.pinned (.plain (OpenSpec.upto routeHeadSpec)) routeHeadUptoCard

/-- THE SECOND FORM's CARD OF 'usherlaw19.RoutePlays'. -/
def routePlaysUptoCard : Claim7 := { stood := { row := routePlaysUptoRow, standIns := [], harness := (true, "1582c5a58cef60f22ec8a946a1203214cfa02a03b7a3604589cb37dc5cc3fcc1"), looks := false }, kinds := [], alts := [], laidByText := true, laidKinds := [.data, .pinned], laidTests := true, laidLooks := .later }
def RoutePlaysUptoCardSaid : Prop := Claim7.holds Tryd.pinned (.plain (OpenSpec.upto routePlaysSpec)) routePlaysUptoCard

/-- THE SECOND FORM's CARD OF 'usherlaw19.RouteOfNothing'. -/
def routeOfNothingUptoCard : Claim7 := { stood := { row := routeOfNothingUptoRow, standIns := [], harness := (true, "1582c5a58cef60f22ec8a946a1203214cfa02a03b7a3604589cb37dc5cc3fcc1"), looks := false }, kinds := [], alts := [], laidByText := true, laidKinds := [.data, .pinned], laidTests := true, laidLooks := .later }
def RouteOfNothingUptoCardSaid : Prop := Claim7.holds Tryd.pinned (.plain (OpenSpec.upto routeOfNothingSpec)) routeOfNothingUptoCard
end Rows
end Go.Proofs.YtnopbhboamembaaDoor
