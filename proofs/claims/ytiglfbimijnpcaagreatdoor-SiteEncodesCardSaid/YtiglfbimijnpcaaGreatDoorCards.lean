/-
  DERIVED. GIVEN WITH THE SEED: THE CARDS: each row of YtiglfbimijnpcaaGreatDoorRows.lean that lists a variable, with what it lists TIED to the program's text (the seventh form; the later family's looks); each row that meets fmt, with fmt's text TOLD by the authors' own Lean function (tested against real Go, not proved from fmt's source: count such statements apart). THE CARD IS WHAT COUNTS. Prove the row's statement (the work); the ties are given (YtiglfbimijnpcaaGreatDoorTie.lean); close each card by the builder's one call (the guide's Derived/Test/ToyasCard.lean, 'card_holds'). Laid BY PROGRAM, IN A SANDBOX (cutbox-door.mjs). By AI agents, Wed Nov 11 2026. No macro, syntax, notation, axiom, sorry.
-/
import Derived.Test.YtiglfbimijnpcaaGreatDoorRows
import GoSem.ClaimSeven
namespace Go.Proofs.YtiglfbimijnpcaaGreatDoor
namespace Rows

/-- THE TIED CARD OF 'usherlaw20.SiteEncodes'. -/
def siteEncodesCard : Claim7 := { stood := { row := siteEncodesRow, standIns := [], harness := (true, "8b64b9093e16e00571d2af70cf29bf1504a0dadb5d55c39403e55ddf802ab38d"), looks := false }, kinds := [], alts := [], laidByText := true, laidKinds := [.data, .data, .data, .data, .pinned], laidTests := true, laidLooks := .later }
def SiteEncodesCardSaid : Prop := Claim7.holds Tryz.pinned (.plain (OpenSpec.ofChange siteEncodesSpec)) siteEncodesCard

/-- THE TIED CARD OF 'usherlaw20.SiteHeads'. -/
def siteHeadsCard : Claim7 := { stood := { row := siteHeadsRow, standIns := [], harness := (true, "8b64b9093e16e00571d2af70cf29bf1504a0dadb5d55c39403e55ddf802ab38d"), looks := false }, kinds := [], alts := [], laidByText := true, laidKinds := [.data, .data, .data, .data, .pinned], laidTests := true, laidLooks := .later }
def SiteHeadsCardSaid : Prop := Claim7.holds Tryz.pinned (.plain (OpenSpec.ofChange siteHeadsSpec)) siteHeadsCard

/-- THE TIED CARD OF 'usherlaw20.SiteOfNothing'. -/
def siteOfNothingCard : Claim7 := { stood := { row := siteOfNothingRow, standIns := [], harness := (true, "8b64b9093e16e00571d2af70cf29bf1504a0dadb5d55c39403e55ddf802ab38d"), looks := false }, kinds := [], alts := [], laidByText := true, laidKinds := [.data, .data, .data, .data, .pinned], laidTests := true, laidLooks := .later }
def SiteOfNothingCardSaid : Prop := Claim7.holds Tryz.pinned (.plain (OpenSpec.ofChange siteOfNothingSpec)) siteOfNothingCard

/-- THE TIED CARD OF 'usherlaw20.SiteEcho'. -/
def siteEchoCard : Claim7 := { stood := { row := siteEchoRow, standIns := [], harness := (true, "8b64b9093e16e00571d2af70cf29bf1504a0dadb5d55c39403e55ddf802ab38d"), looks := false }, kinds := [], alts := [], laidByText := true, laidKinds := [.data, .data, .data, .data, .pinned], laidTests := true, laidLooks := .later }
def SiteEchoCardSaid : Prop := Claim7.holds Tryz.pinned (.plain (OpenSpec.ofChange siteEchoSpec)) siteEchoCard

/-- THE TIED CARD OF 'usherlaw20.SiteServes'. -/
def siteServesCard : Claim7 := { stood := { row := siteServesRow, standIns := [], harness := (true, "8b64b9093e16e00571d2af70cf29bf1504a0dadb5d55c39403e55ddf802ab38d"), looks := false }, kinds := [], alts := [], laidByText := true, laidKinds := [.data, .data, .data, .data, .pinned], laidTests := true, laidLooks := .later }
def SiteServesCardSaid : Prop := Claim7.holds Tryz.pinned (.plain (OpenSpec.ofChange siteServesSpec)) siteServesCard

/-- THE SECOND FORM's CARD OF 'usherlaw20.SiteEncodes'. -/
def siteEncodesUptoCard : Claim7 := { stood := { row := siteEncodesUptoRow, standIns := [], harness := (true, "8b64b9093e16e00571d2af70cf29bf1504a0dadb5d55c39403e55ddf802ab38d"), looks := false }, kinds := [], alts := [], laidByText := true, laidKinds := [.data, .data, .data, .data, .pinned], laidTests := true, laidLooks := .later }
def SiteEncodesUptoCardSaid : Prop := Claim7.holds Tryz.pinned (.plain (OpenSpec.upto siteEncodesSpec)) siteEncodesUptoCard

/-- THE SECOND FORM's CARD OF 'usherlaw20.SiteHeads'. -/
def siteHeadsUptoCard : Claim7 := { stood := { row := siteHeadsUptoRow, standIns := [], harness := (true, "8b64b9093e16e00571d2af70cf29bf1504a0dadb5d55c39403e55ddf802ab38d"), looks := false }, kinds := [], alts := [], laidByText := true, laidKinds := [.data, .data, .data, .data, .pinned], laidTests := true, laidLooks := .later }
def SiteHeadsUptoCardSaid : Prop := Claim7.holds Tryz.pinned (.plain (OpenSpec.upto siteHeadsSpec)) siteHeadsUptoCard

/-- THE SECOND FORM's CARD OF 'usherlaw20.SiteOfNothing'. -/
def siteOfNothingUptoCard : Claim7 := { stood := { row := siteOfNothingUptoRow, standIns := [], harness := (true, "8b64b9093e16e00571d2af70cf29bf1504a0dadb5d55c39403e55ddf802ab38d"), looks := false }, kinds := [], alts := [], laidByText := true, laidKinds := [.data, .data, .data, .data, .pinned], laidTests := true, laidLooks := .later }
def SiteOfNothingUptoCardSaid : Prop := Claim7.holds Tryz.pinned (.plain (OpenSpec.upto siteOfNothingSpec)) siteOfNothingUptoCard

/-- THE SECOND FORM's CARD OF 'usherlaw20.SiteEcho'. -/
def siteEchoUptoCard : Claim7 := { stood := { row := siteEchoUptoRow, standIns := [], harness := (true, "8b64b9093e16e00571d2af70cf29bf1504a0dadb5d55c39403e55ddf802ab38d"), looks := false }, kinds := [], alts := [], laidByText := true, laidKinds := [.data, .data, .data, .data, .pinned], laidTests := true, laidLooks := .later }
def SiteEchoUptoCardSaid : Prop := Claim7.holds Tryz.pinned (.plain (OpenSpec.upto siteEchoSpec)) siteEchoUptoCard

/-- THE SECOND FORM's CARD OF 'usherlaw20.SiteServes'. -/
def siteServesUptoCard : Claim7 := { stood := { row := siteServesUptoRow, standIns := [], harness := (true, "8b64b9093e16e00571d2af70cf29bf1504a0dadb5d55c39403e55ddf802ab38d"), looks := false }, kinds := [], alts := [], laidByText := true, laidKinds := [.data, .data, .data, .data, .pinned], laidTests := true, laidLooks := .later }
def SiteServesUptoCardSaid : Prop := Claim7.holds Tryz.pinned (.plain (OpenSpec.upto siteServesSpec)) siteServesUptoCard
end Rows
end Go.Proofs.YtiglfbimijnpcaaGreatDoor
