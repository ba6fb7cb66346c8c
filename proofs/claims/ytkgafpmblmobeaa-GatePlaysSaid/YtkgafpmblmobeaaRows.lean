/-
  No cell of these rows narrows 'for every input' (looked for: loops, veiled, ifaces, maps, wideKeys, modest, calm, conditions, laid).
  DERIVED. THE GIVEN ROWS OF THIS SEAT. 5 by the template 'for every input the law returns true; each argument reads behind the call as it read before'; 0 by the template 'total and deterministic' (their statements: YtkgafpmblmobeaaTotals.lean).
  GIVEN WITH THE SEED: the statements are not yours to turn. If you find one false, say at which input.
  Laid BY PROGRAM, IN A SANDBOX (cutbox-rows.mjs): the forced cells as the released guide's own fill.sh prints them over the translation d0aad9b3d47e5afe… (all of the seat's roots in one cut). By AI agents, Wed Nov 11 2026. No macro, syntax, notation, axiom, sorry.
-/
import Derived.Test.YtkgafpmblmobeaaChecked
import GoSem.Claim
import GoSem.ClaimJoined
import GoSem.ClaimMapViews
import Derived.JoinedTies
import Derived.KernelRfl
namespace Go.Proofs.Ytkgafpmblmobeaa
/- THE CELL 'sum', in the pinned program and in every row, IS THE sha256 OF THE DUMP (.gsa) THAT YtkgafpmblmobeaaProg.lean LOADS. Nothing in Lean hashes anything: it is a label: what it is worth is what the hold of that sum in a sandbox is worth. -/
noncomputable def Try.pinned : Pinned := { name := "ytkgafpmblmobeaa", sum := "d0aad9b3d47e5afe40c3d435866c59f5421117723cce013c9365d6f2f555b2ff", checked := Try.checked }
namespace Rows
def none {H : Type} : Left H := { results := [], args := [] }

/-- 'usherlaw22.GateWaits': WHATEVER THE INPUT: true; the input reads as it did. -/
def gateWaitsSpec : ChangeSpec := { name := "gateWaits", fn := fun _ => fun
  | [d1, d2, d3, d4] => { results := [.lit (.bool true)], args := [d1, d2, d3, d4] }
  | _ => none }
def gateWaitsRow : OpenClaim := { program := "ytkgafpmblmobeaa", sum := "d0aad9b3d47e5afe40c3d435866c59f5421117723cce013c9365d6f2f555b2ff", func := "usher/usherlaw22.GateWaits", spec := "gateWaits", apart := false }
def GateWaitsSaid : Prop := gateWaitsRow.holds Try.pinned (OpenSpec.ofChange gateWaitsSpec)

/-- ITS FALSE NEIGHBOUR: 'it returns false'. Refute it at one input. -/
def gateWaitsWrong : ChangeSpec := { name := "gateWaits", fn := fun _ => fun
  | [d1, d2, d3, d4] => { results := [.lit (.bool false)], args := [d1, d2, d3, d4] }
  | _ => none }
def GateWaitsWrongFalsely : Prop := gateWaitsRow.holds Try.pinned (OpenSpec.ofChange gateWaitsWrong)

/-- 'usherlaw22.GateBounds': WHATEVER THE INPUT: true; the input reads as it did. -/
def gateBoundsSpec : ChangeSpec := { name := "gateBounds", fn := fun _ => fun
  | [d1, d2, d3] => { results := [.lit (.bool true)], args := [d1, d2, d3] }
  | _ => none }
def gateBoundsRow : OpenClaim := { program := "ytkgafpmblmobeaa", sum := "d0aad9b3d47e5afe40c3d435866c59f5421117723cce013c9365d6f2f555b2ff", func := "usher/usherlaw22.GateBounds", spec := "gateBounds", apart := false }
def GateBoundsSaid : Prop := gateBoundsRow.holds Try.pinned (OpenSpec.ofChange gateBoundsSpec)

/-- ITS FALSE NEIGHBOUR: 'it returns false'. Refute it at one input. -/
def gateBoundsWrong : ChangeSpec := { name := "gateBounds", fn := fun _ => fun
  | [d1, d2, d3] => { results := [.lit (.bool false)], args := [d1, d2, d3] }
  | _ => none }
def GateBoundsWrongFalsely : Prop := gateBoundsRow.holds Try.pinned (OpenSpec.ofChange gateBoundsWrong)

/-- 'usherlaw22.GatePlays': WHATEVER THE INPUT: true; the input reads as it did. -/
def gatePlaysSpec : ChangeSpec := { name := "gatePlays", fn := fun _ => fun
  | [d1, d2] => { results := [.lit (.bool true)], args := [d1, d2] }
  | _ => none }
def gatePlaysRow : OpenClaim := { program := "ytkgafpmblmobeaa", sum := "d0aad9b3d47e5afe40c3d435866c59f5421117723cce013c9365d6f2f555b2ff", func := "usher/usherlaw22.GatePlays", spec := "gatePlays", apart := false }
def GatePlaysSaid : Prop := gatePlaysRow.holds Try.pinned (OpenSpec.ofChange gatePlaysSpec)

/-- ITS FALSE NEIGHBOUR: 'it returns false'. Refute it at one input. -/
def gatePlaysWrong : ChangeSpec := { name := "gatePlays", fn := fun _ => fun
  | [d1, d2] => { results := [.lit (.bool false)], args := [d1, d2] }
  | _ => none }
def GatePlaysWrongFalsely : Prop := gatePlaysRow.holds Try.pinned (OpenSpec.ofChange gatePlaysWrong)

/-- 'usherlaw22.GateOfNothing': WHATEVER THE INPUT: true; the input reads as it did. -/
def gateOfNothingSpec : ChangeSpec := { name := "gateOfNothing", fn := fun _ => fun
  | [d] => { results := [.lit (.bool true)], args := [d] }
  | _ => none }
def gateOfNothingRow : OpenClaim := { program := "ytkgafpmblmobeaa", sum := "d0aad9b3d47e5afe40c3d435866c59f5421117723cce013c9365d6f2f555b2ff", func := "usher/usherlaw22.GateOfNothing", spec := "gateOfNothing", apart := false }
def GateOfNothingSaid : Prop := gateOfNothingRow.holds Try.pinned (OpenSpec.ofChange gateOfNothingSpec)

/-- ITS FALSE NEIGHBOUR: 'it returns false'. Refute it at one input. -/
def gateOfNothingWrong : ChangeSpec := { name := "gateOfNothing", fn := fun _ => fun
  | [d] => { results := [.lit (.bool false)], args := [d] }
  | _ => none }
def GateOfNothingWrongFalsely : Prop := gateOfNothingRow.holds Try.pinned (OpenSpec.ofChange gateOfNothingWrong)

/-- 'usherlaw22.GateStops': WHATEVER THE INPUT: true; the input reads as it did. -/
def gateStopsSpec : ChangeSpec := { name := "gateStops", fn := fun _ => fun
  | [d1, d2, d3, d4] => { results := [.lit (.bool true)], args := [d1, d2, d3, d4] }
  | _ => none }
def gateStopsRow : OpenClaim := { program := "ytkgafpmblmobeaa", sum := "d0aad9b3d47e5afe40c3d435866c59f5421117723cce013c9365d6f2f555b2ff", func := "usher/usherlaw22.GateStops", spec := "gateStops", apart := false }
def GateStopsSaid : Prop := gateStopsRow.holds Try.pinned (OpenSpec.ofChange gateStopsSpec)

/-- ITS FALSE NEIGHBOUR: 'it returns false'. Refute it at one input. -/
def gateStopsWrong : ChangeSpec := { name := "gateStops", fn := fun _ => fun
  | [d1, d2, d3, d4] => { results := [.lit (.bool false)], args := [d1, d2, d3, d4] }
  | _ => none }
def GateStopsWrongFalsely : Prop := gateStopsRow.holds Try.pinned (OpenSpec.ofChange gateStopsWrong)

/- THE SECOND FORM. 'bulk': how many values and letters a reading holds, each counted each time it is reached (what is shared counts as often as it is met; a slice's spare places count too). A statement '..UptoSaid' is the law's where the arguments, and the package variables that the reading takes, are together of bulk at most 1048576: NARROWER than '..Said'. Prove '..Said' where nothing that the law and all that it calls make is longer than what came in: it says more and counts as full. Else prove '..UptoSaid'. A law counts once. -/
mutual
def uptoBulk {H : Type} : DataW H → Nat
  | .lit (.string bytes) => bytes.length + 1
  | .lit _ => 1
  | .nil => 1
  | .ptr d => uptoBulk d + 1
  | .slice elems spare => uptoBulkAll elems + uptoBulkAll spare + 1
  | .agg parts => uptoBulkAll parts + 1
  | .iface _ d => uptoBulk d + 1
  | .map entries => uptoBulkEntries entries + 1
  | .held _ => 1
def uptoBulkAll {H : Type} : List (DataW H) → Nat
  | [] => 0
  | d :: r => uptoBulk d + uptoBulkAll r
def uptoBulkEntries {H : Type} : List (Lit × DataW H) → Nat
  | [] => 0
  | x :: r => uptoBulkEntry x + uptoBulkEntries r
def uptoBulkEntry {H : Type} : Lit × DataW H → Nat
  | (.string bytes, d) => bytes.length + uptoBulk d + 1
  | (_, d) => uptoBulk d + 1
 end
def uptoSmall : (H : Type) → List (DataW H) → Bool := fun _ ds => decide (uptoBulkAll ds ≤ 1048576)
def OpenSpec.upto (s : _root_.Go.ChangeSpec) : _root_.Go.OpenSpec := { _root_.Go.OpenSpec.ofChange s with cond := some uptoSmall }

/-- 'usherlaw22.GateWaits', WHERE WHAT IT READS IS OF BULK AT MOST 1048576: true; the input reads as it did. -/
def gateWaitsUptoRow : OpenClaim := { program := "ytkgafpmblmobeaa", sum := "d0aad9b3d47e5afe40c3d435866c59f5421117723cce013c9365d6f2f555b2ff", func := "usher/usherlaw22.GateWaits", spec := "gateWaits", apart := false, narrowed := true }
def GateWaitsUptoSaid : Prop := gateWaitsUptoRow.holds Try.pinned (OpenSpec.upto gateWaitsSpec)

/-- 'usherlaw22.GateBounds', WHERE WHAT IT READS IS OF BULK AT MOST 1048576: true; the input reads as it did. -/
def gateBoundsUptoRow : OpenClaim := { program := "ytkgafpmblmobeaa", sum := "d0aad9b3d47e5afe40c3d435866c59f5421117723cce013c9365d6f2f555b2ff", func := "usher/usherlaw22.GateBounds", spec := "gateBounds", apart := false, narrowed := true }
def GateBoundsUptoSaid : Prop := gateBoundsUptoRow.holds Try.pinned (OpenSpec.upto gateBoundsSpec)

/-- 'usherlaw22.GatePlays', WHERE WHAT IT READS IS OF BULK AT MOST 1048576: true; the input reads as it did. -/
def gatePlaysUptoRow : OpenClaim := { program := "ytkgafpmblmobeaa", sum := "d0aad9b3d47e5afe40c3d435866c59f5421117723cce013c9365d6f2f555b2ff", func := "usher/usherlaw22.GatePlays", spec := "gatePlays", apart := false, narrowed := true }
def GatePlaysUptoSaid : Prop := gatePlaysUptoRow.holds Try.pinned (OpenSpec.upto gatePlaysSpec)

/-- 'usherlaw22.GateOfNothing', WHERE WHAT IT READS IS OF BULK AT MOST 1048576: true; the input reads as it did. -/
def gateOfNothingUptoRow : OpenClaim := { program := "ytkgafpmblmobeaa", sum := "d0aad9b3d47e5afe40c3d435866c59f5421117723cce013c9365d6f2f555b2ff", func := "usher/usherlaw22.GateOfNothing", spec := "gateOfNothing", apart := false, narrowed := true }
def GateOfNothingUptoSaid : Prop := gateOfNothingUptoRow.holds Try.pinned (OpenSpec.upto gateOfNothingSpec)

/-- 'usherlaw22.GateStops', WHERE WHAT IT READS IS OF BULK AT MOST 1048576: true; the input reads as it did. -/
def gateStopsUptoRow : OpenClaim := { program := "ytkgafpmblmobeaa", sum := "d0aad9b3d47e5afe40c3d435866c59f5421117723cce013c9365d6f2f555b2ff", func := "usher/usherlaw22.GateStops", spec := "gateStops", apart := false, narrowed := true }
def GateStopsUptoSaid : Prop := gateStopsUptoRow.holds Try.pinned (OpenSpec.upto gateStopsSpec)

end Rows
end Go.Proofs.Ytkgafpmblmobeaa
