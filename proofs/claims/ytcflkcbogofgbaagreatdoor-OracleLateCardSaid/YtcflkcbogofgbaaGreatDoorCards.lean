/-
  DERIVED. GIVEN WITH THE SEED: THE CARDS: each row of YtcflkcbogofgbaaGreatDoorRows.lean that lists a variable, with what it lists TIED to the program's text (the seventh form; the later family's looks); each row that meets fmt, with fmt's text TOLD by the authors' own Lean function (tested against real Go, not proved from fmt's source: count such statements apart). THE CARD IS WHAT COUNTS. Prove the row's statement (the work); the ties are given (YtcflkcbogofgbaaGreatDoorTie.lean); close each card by the builder's one call (the guide's Derived/Test/ToyasCard.lean, 'card_holds'). Laid BY PROGRAM, IN A SANDBOX (cutbox-door.mjs). By AI agents, Wed Nov 11 2026. No macro, syntax, notation, axiom, sorry.
-/
import Derived.Test.YtcflkcbogofgbaaGreatDoorRows
import GoSem.ClaimSeven
namespace Go.Proofs.YtcflkcbogofgbaaGreatDoor
namespace Rows

/-- THE TIED CARD OF 'usherlaw25.OracleBegins'. -/
def oracleBeginsCard : Claim7 := { stood := { row := oracleBeginsRow, standIns := [], harness := (true, "9732a1dc87b8d8d058fddbe96cced8636ef5b45ce24e0600adbb76c921742c49"), looks := true }, kinds := [], alts := [], laidByText := true, laidKinds := [.data, .data, .data, .data, .sentinel, .sentinel, .pinned], laidTests := true, laidLooks := .later }
def OracleBeginsCardSaid : Prop := Claim7.holds Tryz.pinned (.plain (OpenSpec.ofChange oracleBeginsSpec)) oracleBeginsCard

/-- THE TIED CARD OF 'usherlaw25.OracleAnswers'. -/
def oracleAnswersCard : Claim7 := { stood := { row := oracleAnswersRow, standIns := [], harness := (true, "9732a1dc87b8d8d058fddbe96cced8636ef5b45ce24e0600adbb76c921742c49"), looks := true }, kinds := [], alts := [], laidByText := true, laidKinds := [.data, .data, .data, .data, .sentinel, .sentinel, .pinned], laidTests := true, laidLooks := .later }
def OracleAnswersCardSaid : Prop := Claim7.holds Tryz.pinned (.plain (OpenSpec.ofChange oracleAnswersSpec)) oracleAnswersCard

/-- THE TIED CARD OF 'usherlaw25.OracleTells'. -/
def oracleTellsCard : Claim7 := { stood := { row := oracleTellsRow, standIns := [], harness := (true, "9732a1dc87b8d8d058fddbe96cced8636ef5b45ce24e0600adbb76c921742c49"), looks := true }, kinds := [], alts := [], laidByText := true, laidKinds := [.data, .data, .data, .data, .sentinel, .sentinel, .pinned], laidTests := true, laidLooks := .later }
def OracleTellsCardSaid : Prop := Claim7.holds Tryz.pinned (.plain (OpenSpec.ofChange oracleTellsSpec)) oracleTellsCard

/-- THE TIED CARD OF 'usherlaw25.OracleLate'. -/
def oracleLateCard : Claim7 := { stood := { row := oracleLateRow, standIns := [], harness := (true, "9732a1dc87b8d8d058fddbe96cced8636ef5b45ce24e0600adbb76c921742c49"), looks := true }, kinds := [], alts := [], laidByText := true, laidKinds := [.data, .data, .data, .data, .sentinel, .sentinel, .pinned], laidTests := true, laidLooks := .later }
def OracleLateCardSaid : Prop := Claim7.holds Tryz.pinned (.plain (OpenSpec.ofChange oracleLateSpec)) oracleLateCard

/-- THE SECOND FORM's CARD OF 'usherlaw25.OracleBegins'. -/
def oracleBeginsUptoCard : Claim7 := { stood := { row := oracleBeginsUptoRow, standIns := [], harness := (true, "9732a1dc87b8d8d058fddbe96cced8636ef5b45ce24e0600adbb76c921742c49"), looks := true }, kinds := [], alts := [], laidByText := true, laidKinds := [.data, .data, .data, .data, .sentinel, .sentinel, .pinned], laidTests := true, laidLooks := .later }
def OracleBeginsUptoCardSaid : Prop := Claim7.holds Tryz.pinned (.plain (OpenSpec.upto oracleBeginsSpec)) oracleBeginsUptoCard

/-- THE SECOND FORM's CARD OF 'usherlaw25.OracleAnswers'. -/
def oracleAnswersUptoCard : Claim7 := { stood := { row := oracleAnswersUptoRow, standIns := [], harness := (true, "9732a1dc87b8d8d058fddbe96cced8636ef5b45ce24e0600adbb76c921742c49"), looks := true }, kinds := [], alts := [], laidByText := true, laidKinds := [.data, .data, .data, .data, .sentinel, .sentinel, .pinned], laidTests := true, laidLooks := .later }
def OracleAnswersUptoCardSaid : Prop := Claim7.holds Tryz.pinned (.plain (OpenSpec.upto oracleAnswersSpec)) oracleAnswersUptoCard

/-- THE SECOND FORM's CARD OF 'usherlaw25.OracleTells'. -/
def oracleTellsUptoCard : Claim7 := { stood := { row := oracleTellsUptoRow, standIns := [], harness := (true, "9732a1dc87b8d8d058fddbe96cced8636ef5b45ce24e0600adbb76c921742c49"), looks := true }, kinds := [], alts := [], laidByText := true, laidKinds := [.data, .data, .data, .data, .sentinel, .sentinel, .pinned], laidTests := true, laidLooks := .later }
def OracleTellsUptoCardSaid : Prop := Claim7.holds Tryz.pinned (.plain (OpenSpec.upto oracleTellsSpec)) oracleTellsUptoCard

/-- THE SECOND FORM's CARD OF 'usherlaw25.OracleLate'. -/
def oracleLateUptoCard : Claim7 := { stood := { row := oracleLateUptoRow, standIns := [], harness := (true, "9732a1dc87b8d8d058fddbe96cced8636ef5b45ce24e0600adbb76c921742c49"), looks := true }, kinds := [], alts := [], laidByText := true, laidKinds := [.data, .data, .data, .data, .sentinel, .sentinel, .pinned], laidTests := true, laidLooks := .later }
def OracleLateUptoCardSaid : Prop := Claim7.holds Tryz.pinned (.plain (OpenSpec.upto oracleLateSpec)) oracleLateUptoCard
end Rows
end Go.Proofs.YtcflkcbogofgbaaGreatDoor
