/-
  DERIVED. GIVEN WITH THE SEED: THE CARDS: each row of YtadcjgopaadfjaaGreatDoorRows.lean that lists a variable, with what it lists TIED to the program's text (the seventh form; the later family's looks); each row that meets fmt, with fmt's text TOLD by the authors' own Lean function (tested against real Go, not proved from fmt's source: count such statements apart). THE CARD IS WHAT COUNTS. Prove the row's statement (the work); the ties are given (YtadcjgopaadfjaaGreatDoorTie.lean); close each card by the builder's one call (the guide's Derived/Test/ToyasCard.lean, 'card_holds'). Laid BY PROGRAM, IN A SANDBOX (cutbox-door.mjs). By AI agents, Wed Nov 11 2026. No macro, syntax, notation, axiom, sorry.
-/
import Derived.Test.YtadcjgopaadfjaaGreatDoorRows
import GoSem.ClaimSeven
namespace Go.Proofs.YtadcjgopaadfjaaGreatDoor
namespace Rows

/-- THE TIED CARD OF 'usherlaw21.ConnLate'. -/
def connLateCard : Claim7 := { stood := { row := connLateRow, standIns := [], harness := (true, "db8f88d4671774d600fb7fdf7ff53adc71520c33bd862cf9bfe72aca6cdf0f7c"), looks := true }, kinds := [], alts := [], laidByText := true, laidKinds := [.data, .data, .data, .data, .sentinel, .sentinel, .pinned], laidTests := true, laidLooks := .later }
def ConnLateCardSaid : Prop := Claim7.holds Tryz.pinned (.plain (OpenSpec.ofChange connLateSpec)) connLateCard

/-- THE TIED CARD OF 'usherlaw21.ConnWord'. -/
def connWordCard : Claim7 := { stood := { row := connWordRow, standIns := [], harness := (true, "db8f88d4671774d600fb7fdf7ff53adc71520c33bd862cf9bfe72aca6cdf0f7c"), looks := true }, kinds := [], alts := [], laidByText := true, laidKinds := [.data, .data, .data, .data, .sentinel, .sentinel, .pinned], laidTests := true, laidLooks := .later }
def ConnWordCardSaid : Prop := Claim7.holds Tryz.pinned (.plain (OpenSpec.ofChange connWordSpec)) connWordCard

/-- THE TIED CARD OF 'usherlaw21.ConnPipeline'. -/
def connPipelineCard : Claim7 := { stood := { row := connPipelineRow, standIns := [], harness := (true, "db8f88d4671774d600fb7fdf7ff53adc71520c33bd862cf9bfe72aca6cdf0f7c"), looks := true }, kinds := [], alts := [], laidByText := true, laidKinds := [.data, .data, .data, .data, .sentinel, .sentinel, .pinned], laidTests := true, laidLooks := .later }
def ConnPipelineCardSaid : Prop := Claim7.holds Tryz.pinned (.plain (OpenSpec.ofChange connPipelineSpec)) connPipelineCard

/-- THE TIED CARD OF 'usherlaw21.ConnQuits'. -/
def connQuitsCard : Claim7 := { stood := { row := connQuitsRow, standIns := [], harness := (true, "db8f88d4671774d600fb7fdf7ff53adc71520c33bd862cf9bfe72aca6cdf0f7c"), looks := true }, kinds := [], alts := [], laidByText := true, laidKinds := [.data, .data, .data, .data, .sentinel, .sentinel, .pinned], laidTests := true, laidLooks := .later }
def ConnQuitsCardSaid : Prop := Claim7.holds Tryz.pinned (.plain (OpenSpec.ofChange connQuitsSpec)) connQuitsCard

/-- THE TIED CARD OF 'usherlaw21.ConnEnds'. -/
def connEndsCard : Claim7 := { stood := { row := connEndsRow, standIns := [], harness := (true, "db8f88d4671774d600fb7fdf7ff53adc71520c33bd862cf9bfe72aca6cdf0f7c"), looks := true }, kinds := [], alts := [], laidByText := true, laidKinds := [.data, .data, .data, .data, .sentinel, .sentinel, .pinned], laidTests := true, laidLooks := .later }
def ConnEndsCardSaid : Prop := Claim7.holds Tryz.pinned (.plain (OpenSpec.ofChange connEndsSpec)) connEndsCard

/-- THE TIED CARD OF 'usherlaw21.ConnOfNothing'. -/
def connOfNothingCard : Claim7 := { stood := { row := connOfNothingRow, standIns := [], harness := (true, "db8f88d4671774d600fb7fdf7ff53adc71520c33bd862cf9bfe72aca6cdf0f7c"), looks := true }, kinds := [], alts := [], laidByText := true, laidKinds := [.data, .data, .data, .data, .sentinel, .sentinel, .pinned], laidTests := true, laidLooks := .later }
def ConnOfNothingCardSaid : Prop := Claim7.holds Tryz.pinned (.plain (OpenSpec.ofChange connOfNothingSpec)) connOfNothingCard

/-- THE SECOND FORM's CARD OF 'usherlaw21.ConnLate'. -/
def connLateUptoCard : Claim7 := { stood := { row := connLateUptoRow, standIns := [], harness := (true, "db8f88d4671774d600fb7fdf7ff53adc71520c33bd862cf9bfe72aca6cdf0f7c"), looks := true }, kinds := [], alts := [], laidByText := true, laidKinds := [.data, .data, .data, .data, .sentinel, .sentinel, .pinned], laidTests := true, laidLooks := .later }
def ConnLateUptoCardSaid : Prop := Claim7.holds Tryz.pinned (.plain (OpenSpec.upto connLateSpec)) connLateUptoCard

/-- THE SECOND FORM's CARD OF 'usherlaw21.ConnWord'. -/
def connWordUptoCard : Claim7 := { stood := { row := connWordUptoRow, standIns := [], harness := (true, "db8f88d4671774d600fb7fdf7ff53adc71520c33bd862cf9bfe72aca6cdf0f7c"), looks := true }, kinds := [], alts := [], laidByText := true, laidKinds := [.data, .data, .data, .data, .sentinel, .sentinel, .pinned], laidTests := true, laidLooks := .later }
def ConnWordUptoCardSaid : Prop := Claim7.holds Tryz.pinned (.plain (OpenSpec.upto connWordSpec)) connWordUptoCard

/-- THE SECOND FORM's CARD OF 'usherlaw21.ConnPipeline'. -/
def connPipelineUptoCard : Claim7 := { stood := { row := connPipelineUptoRow, standIns := [], harness := (true, "db8f88d4671774d600fb7fdf7ff53adc71520c33bd862cf9bfe72aca6cdf0f7c"), looks := true }, kinds := [], alts := [], laidByText := true, laidKinds := [.data, .data, .data, .data, .sentinel, .sentinel, .pinned], laidTests := true, laidLooks := .later }
def ConnPipelineUptoCardSaid : Prop := Claim7.holds Tryz.pinned (.plain (OpenSpec.upto connPipelineSpec)) connPipelineUptoCard

/-- THE SECOND FORM's CARD OF 'usherlaw21.ConnQuits'. -/
def connQuitsUptoCard : Claim7 := { stood := { row := connQuitsUptoRow, standIns := [], harness := (true, "db8f88d4671774d600fb7fdf7ff53adc71520c33bd862cf9bfe72aca6cdf0f7c"), looks := true }, kinds := [], alts := [], laidByText := true, laidKinds := [.data, .data, .data, .data, .sentinel, .sentinel, .pinned], laidTests := true, laidLooks := .later }
def ConnQuitsUptoCardSaid : Prop := Claim7.holds Tryz.pinned (.plain (OpenSpec.upto connQuitsSpec)) connQuitsUptoCard

/-- THE SECOND FORM's CARD OF 'usherlaw21.ConnEnds'. -/
def connEndsUptoCard : Claim7 := { stood := { row := connEndsUptoRow, standIns := [], harness := (true, "db8f88d4671774d600fb7fdf7ff53adc71520c33bd862cf9bfe72aca6cdf0f7c"), looks := true }, kinds := [], alts := [], laidByText := true, laidKinds := [.data, .data, .data, .data, .sentinel, .sentinel, .pinned], laidTests := true, laidLooks := .later }
def ConnEndsUptoCardSaid : Prop := Claim7.holds Tryz.pinned (.plain (OpenSpec.upto connEndsSpec)) connEndsUptoCard

/-- THE SECOND FORM's CARD OF 'usherlaw21.ConnOfNothing'. -/
def connOfNothingUptoCard : Claim7 := { stood := { row := connOfNothingUptoRow, standIns := [], harness := (true, "db8f88d4671774d600fb7fdf7ff53adc71520c33bd862cf9bfe72aca6cdf0f7c"), looks := true }, kinds := [], alts := [], laidByText := true, laidKinds := [.data, .data, .data, .data, .sentinel, .sentinel, .pinned], laidTests := true, laidLooks := .later }
def ConnOfNothingUptoCardSaid : Prop := Claim7.holds Tryz.pinned (.plain (OpenSpec.upto connOfNothingSpec)) connOfNothingUptoCard
end Rows
end Go.Proofs.YtadcjgopaadfjaaGreatDoor
