/-
  No cell of these rows narrows 'for every input' (looked for: loops, veiled, ifaces, maps, wideKeys, modest, calm, conditions, laid).
  DERIVED. THE GIVEN ROWS OF THIS SEAT. 7 by the template 'for every input the law returns true; each argument reads behind the call as it read before'; 0 by the template 'total and deterministic' (their statements: YtgmgjkafdkgalaaTotals.lean).
  GIVEN WITH THE SEED: the statements are not yours to turn. If you find one false, say at which input.
  Laid BY PROGRAM, IN A SANDBOX (cutbox-rows.mjs): the forced cells as the released guide's own fill.sh prints them over the translation ae74ad08ada9c4c0… (all of the seat's roots in one cut). By AI agents, Wed Nov 11 2026. No macro, syntax, notation, axiom, sorry.
-/
import Derived.Test.YtgmgjkafdkgalaaChecked
import GoSem.Claim
import GoSem.ClaimJoined
import GoSem.ClaimMapViews
import Derived.JoinedTies
import Derived.KernelRfl
namespace Go.Proofs.Ytgmgjkafdkgalaa
/- THE CELL 'sum', in the pinned program and in every row, IS THE sha256 OF THE DUMP (.gsa) THAT YtgmgjkafdkgalaaProg.lean LOADS. Nothing in Lean hashes anything: it is a label: what it is worth is what the hold of that sum in a sandbox is worth. -/
noncomputable def Try.pinned : Pinned := { name := "ytgmgjkafdkgalaa", sum := "ae74ad08ada9c4c046db8c854b2c99e9273f6a74b7dd48da099ab2dfcb92f2bd", checked := Try.checked }
namespace Rows
def none {H : Type} : Left H := { results := [], args := [] }

/-- 'usherlaw6.WheelSteps': WHATEVER THE INPUT: true; the input reads as it did. -/
def wheelStepsSpec : ChangeSpec := { name := "wheelSteps", fn := fun _ => fun
  | [d1, d2, d3] => { results := [.lit (.bool true)], args := [d1, d2, d3] }
  | _ => none }
def wheelStepsRow : OpenClaim := { program := "ytgmgjkafdkgalaa", sum := "ae74ad08ada9c4c046db8c854b2c99e9273f6a74b7dd48da099ab2dfcb92f2bd", func := "usher/usherlaw6.WheelSteps", spec := "wheelSteps", unfollowed := true, recurses := true, plainKeys := false, apart := false }
def WheelStepsSaid : Prop := wheelStepsRow.holds Try.pinned (OpenSpec.ofChange wheelStepsSpec)

/-- ITS FALSE NEIGHBOUR: 'it returns false'. Refute it at one input. -/
def wheelStepsWrong : ChangeSpec := { name := "wheelSteps", fn := fun _ => fun
  | [d1, d2, d3] => { results := [.lit (.bool false)], args := [d1, d2, d3] }
  | _ => none }
def WheelStepsWrongFalsely : Prop := wheelStepsRow.holds Try.pinned (OpenSpec.ofChange wheelStepsWrong)

/-- 'usherlaw6.WheelPlaces': WHATEVER THE INPUT: true; the input reads as it did. -/
def wheelPlacesSpec : ChangeSpec := { name := "wheelPlaces", fn := fun _ => fun
  | [d1, d2, d3] => { results := [.lit (.bool true)], args := [d1, d2, d3] }
  | _ => none }
def wheelPlacesRow : OpenClaim := { program := "ytgmgjkafdkgalaa", sum := "ae74ad08ada9c4c046db8c854b2c99e9273f6a74b7dd48da099ab2dfcb92f2bd", func := "usher/usherlaw6.WheelPlaces", spec := "wheelPlaces", unfollowed := true, recurses := true, plainKeys := false, apart := false }
def WheelPlacesSaid : Prop := wheelPlacesRow.holds Try.pinned (OpenSpec.ofChange wheelPlacesSpec)

/-- ITS FALSE NEIGHBOUR: 'it returns false'. Refute it at one input. -/
def wheelPlacesWrong : ChangeSpec := { name := "wheelPlaces", fn := fun _ => fun
  | [d1, d2, d3] => { results := [.lit (.bool false)], args := [d1, d2, d3] }
  | _ => none }
def WheelPlacesWrongFalsely : Prop := wheelPlacesRow.holds Try.pinned (OpenSpec.ofChange wheelPlacesWrong)

/-- 'usherlaw6.WheelNext': WHATEVER THE INPUT: true; the input reads as it did. -/
def wheelNextSpec : ChangeSpec := { name := "wheelNext", fn := fun _ => fun
  | [d] => { results := [.lit (.bool true)], args := [d] }
  | _ => none }
def wheelNextRow : OpenClaim := { program := "ytgmgjkafdkgalaa", sum := "ae74ad08ada9c4c046db8c854b2c99e9273f6a74b7dd48da099ab2dfcb92f2bd", func := "usher/usherlaw6.WheelNext", spec := "wheelNext", unfollowed := true, recurses := true, plainKeys := false, apart := false }
def WheelNextSaid : Prop := wheelNextRow.holds Try.pinned (OpenSpec.ofChange wheelNextSpec)

/-- ITS FALSE NEIGHBOUR: 'it returns false'. Refute it at one input. -/
def wheelNextWrong : ChangeSpec := { name := "wheelNext", fn := fun _ => fun
  | [d] => { results := [.lit (.bool false)], args := [d] }
  | _ => none }
def WheelNextWrongFalsely : Prop := wheelNextRow.holds Try.pinned (OpenSpec.ofChange wheelNextWrong)

/-- 'usherlaw6.WheelResets': WHATEVER THE INPUT: true; the input reads as it did. -/
def wheelResetsSpec : ChangeSpec := { name := "wheelResets", fn := fun _ => fun
  | [d1, d2, d3] => { results := [.lit (.bool true)], args := [d1, d2, d3] }
  | _ => none }
def wheelResetsRow : OpenClaim := { program := "ytgmgjkafdkgalaa", sum := "ae74ad08ada9c4c046db8c854b2c99e9273f6a74b7dd48da099ab2dfcb92f2bd", func := "usher/usherlaw6.WheelResets", spec := "wheelResets", unfollowed := true, recurses := true, plainKeys := false, apart := false }
def WheelResetsSaid : Prop := wheelResetsRow.holds Try.pinned (OpenSpec.ofChange wheelResetsSpec)

/-- ITS FALSE NEIGHBOUR: 'it returns false'. Refute it at one input. -/
def wheelResetsWrong : ChangeSpec := { name := "wheelResets", fn := fun _ => fun
  | [d1, d2, d3] => { results := [.lit (.bool false)], args := [d1, d2, d3] }
  | _ => none }
def WheelResetsWrongFalsely : Prop := wheelResetsRow.holds Try.pinned (OpenSpec.ofChange wheelResetsWrong)

/-- 'usherlaw6.WheelDue': WHATEVER THE INPUT: true; the input reads as it did. -/
def wheelDueSpec : ChangeSpec := { name := "wheelDue", fn := fun _ => fun
  | [d1, d2, d3, d4] => { results := [.lit (.bool true)], args := [d1, d2, d3, d4] }
  | _ => none }
def wheelDueRow : OpenClaim := { program := "ytgmgjkafdkgalaa", sum := "ae74ad08ada9c4c046db8c854b2c99e9273f6a74b7dd48da099ab2dfcb92f2bd", func := "usher/usherlaw6.WheelDue", spec := "wheelDue", unfollowed := true, recurses := true, plainKeys := false, apart := false }
def WheelDueSaid : Prop := wheelDueRow.holds Try.pinned (OpenSpec.ofChange wheelDueSpec)

/-- ITS FALSE NEIGHBOUR: 'it returns false'. Refute it at one input. -/
def wheelDueWrong : ChangeSpec := { name := "wheelDue", fn := fun _ => fun
  | [d1, d2, d3, d4] => { results := [.lit (.bool false)], args := [d1, d2, d3, d4] }
  | _ => none }
def WheelDueWrongFalsely : Prop := wheelDueRow.holds Try.pinned (OpenSpec.ofChange wheelDueWrong)

/-- 'usherlaw6.WheelPlays': WHATEVER THE INPUT: true; the input reads as it did. -/
def wheelPlaysSpec : ChangeSpec := { name := "wheelPlays", fn := fun _ => fun
  | [d1, d2] => { results := [.lit (.bool true)], args := [d1, d2] }
  | _ => none }
def wheelPlaysRow : OpenClaim := { program := "ytgmgjkafdkgalaa", sum := "ae74ad08ada9c4c046db8c854b2c99e9273f6a74b7dd48da099ab2dfcb92f2bd", func := "usher/usherlaw6.WheelPlays", spec := "wheelPlays", unfollowed := true, recurses := true, plainKeys := false, apart := false }
def WheelPlaysSaid : Prop := wheelPlaysRow.holds Try.pinned (OpenSpec.ofChange wheelPlaysSpec)

/-- ITS FALSE NEIGHBOUR: 'it returns false'. Refute it at one input. -/
def wheelPlaysWrong : ChangeSpec := { name := "wheelPlays", fn := fun _ => fun
  | [d1, d2] => { results := [.lit (.bool false)], args := [d1, d2] }
  | _ => none }
def WheelPlaysWrongFalsely : Prop := wheelPlaysRow.holds Try.pinned (OpenSpec.ofChange wheelPlaysWrong)

/-- 'usherlaw6.WheelOfNothing': WHATEVER THE INPUT: true; the input reads as it did. -/
def wheelOfNothingSpec : ChangeSpec := { name := "wheelOfNothing", fn := fun _ => fun
  | [d1, d2] => { results := [.lit (.bool true)], args := [d1, d2] }
  | _ => none }
def wheelOfNothingRow : OpenClaim := { program := "ytgmgjkafdkgalaa", sum := "ae74ad08ada9c4c046db8c854b2c99e9273f6a74b7dd48da099ab2dfcb92f2bd", func := "usher/usherlaw6.WheelOfNothing", spec := "wheelOfNothing", unfollowed := true, recurses := true, plainKeys := false, apart := false }
def WheelOfNothingSaid : Prop := wheelOfNothingRow.holds Try.pinned (OpenSpec.ofChange wheelOfNothingSpec)

/-- ITS FALSE NEIGHBOUR: 'it returns false'. Refute it at one input. -/
def wheelOfNothingWrong : ChangeSpec := { name := "wheelOfNothing", fn := fun _ => fun
  | [d1, d2] => { results := [.lit (.bool false)], args := [d1, d2] }
  | _ => none }
def WheelOfNothingWrongFalsely : Prop := wheelOfNothingRow.holds Try.pinned (OpenSpec.ofChange wheelOfNothingWrong)

/- THE SECOND FORM. 'bulk': how many values and letters a reading holds, each counted each time it is reached (what is shared counts as often as it is met; a slice's spare places count too). A statement '..UptoSaid' is the law's where the arguments, and the package variables that the reading takes, are together of bulk at most 1048576: NARROWER than '..Said'. Prove '..Said' where nothing that the law and all that it calls make is longer than what came in: it says more and counts as full. Else prove '..UptoSaid'. A law counts once. -/
mutual
def uptoBulk {H : Type} : DataW H → Nat
  | .lit (.string bytes) => bytes.length + 1
  | .lit _ => 1
  | .nil => 1
  | .ptr d => uptoBulk d + 1
  | .slice elems spare => uptoBulkAll elems + uptoBulkAll spare + 1
  | .agg parts => uptoBulkAll parts + 1
  | .iface _ d => uptoBulk d + 1
  | .map entries => uptoBulkEntries entries + 1
  | .held _ => 1
def uptoBulkAll {H : Type} : List (DataW H) → Nat
  | [] => 0
  | d :: r => uptoBulk d + uptoBulkAll r
def uptoBulkEntries {H : Type} : List (Lit × DataW H) → Nat
  | [] => 0
  | x :: r => uptoBulkEntry x + uptoBulkEntries r
def uptoBulkEntry {H : Type} : Lit × DataW H → Nat
  | (.string bytes, d) => bytes.length + uptoBulk d + 1
  | (_, d) => uptoBulk d + 1
 end
def uptoSmall : (H : Type) → List (DataW H) → Bool := fun _ ds => decide (uptoBulkAll ds ≤ 1048576)
def OpenSpec.upto (s : _root_.Go.ChangeSpec) : _root_.Go.OpenSpec := { _root_.Go.OpenSpec.ofChange s with cond := some uptoSmall }

/-- 'usherlaw6.WheelSteps', WHERE WHAT IT READS IS OF BULK AT MOST 1048576: true; the input reads as it did. -/
def wheelStepsUptoRow : OpenClaim := { program := "ytgmgjkafdkgalaa", sum := "ae74ad08ada9c4c046db8c854b2c99e9273f6a74b7dd48da099ab2dfcb92f2bd", func := "usher/usherlaw6.WheelSteps", spec := "wheelSteps", unfollowed := true, recurses := true, plainKeys := false, apart := false, narrowed := true }
def WheelStepsUptoSaid : Prop := wheelStepsUptoRow.holds Try.pinned (OpenSpec.upto wheelStepsSpec)

/-- 'usherlaw6.WheelPlaces', WHERE WHAT IT READS IS OF BULK AT MOST 1048576: true; the input reads as it did. -/
def wheelPlacesUptoRow : OpenClaim := { program := "ytgmgjkafdkgalaa", sum := "ae74ad08ada9c4c046db8c854b2c99e9273f6a74b7dd48da099ab2dfcb92f2bd", func := "usher/usherlaw6.WheelPlaces", spec := "wheelPlaces", unfollowed := true, recurses := true, plainKeys := false, apart := false, narrowed := true }
def WheelPlacesUptoSaid : Prop := wheelPlacesUptoRow.holds Try.pinned (OpenSpec.upto wheelPlacesSpec)

/-- 'usherlaw6.WheelNext', WHERE WHAT IT READS IS OF BULK AT MOST 1048576: true; the input reads as it did. -/
def wheelNextUptoRow : OpenClaim := { program := "ytgmgjkafdkgalaa", sum := "ae74ad08ada9c4c046db8c854b2c99e9273f6a74b7dd48da099ab2dfcb92f2bd", func := "usher/usherlaw6.WheelNext", spec := "wheelNext", unfollowed := true, recurses := true, plainKeys := false, apart := false, narrowed := true }
def WheelNextUptoSaid : Prop := wheelNextUptoRow.holds Try.pinned (OpenSpec.upto wheelNextSpec)

/-- 'usherlaw6.WheelResets', WHERE WHAT IT READS IS OF BULK AT MOST 1048576: true; the input reads as it did. -/
def wheelResetsUptoRow : OpenClaim := { program := "ytgmgjkafdkgalaa", sum := "ae74ad08ada9c4c046db8c854b2c99e9273f6a74b7dd48da099ab2dfcb92f2bd", func := "usher/usherlaw6.WheelResets", spec := "wheelResets", unfollowed := true, recurses := true, plainKeys := false, apart := false, narrowed := true }
def WheelResetsUptoSaid : Prop := wheelResetsUptoRow.holds Try.pinned (OpenSpec.upto wheelResetsSpec)

/-- 'usherlaw6.WheelDue', WHERE WHAT IT READS IS OF BULK AT MOST 1048576: true; the input reads as it did. -/
def wheelDueUptoRow : OpenClaim := { program := "ytgmgjkafdkgalaa", sum := "ae74ad08ada9c4c046db8c854b2c99e9273f6a74b7dd48da099ab2dfcb92f2bd", func := "usher/usherlaw6.WheelDue", spec := "wheelDue", unfollowed := true, recurses := true, plainKeys := false, apart := false, narrowed := true }
def WheelDueUptoSaid : Prop := wheelDueUptoRow.holds Try.pinned (OpenSpec.upto wheelDueSpec)

/-- 'usherlaw6.WheelPlays', WHERE WHAT IT READS IS OF BULK AT MOST 1048576: true; the input reads as it did. -/
def wheelPlaysUptoRow : OpenClaim := { program := "ytgmgjkafdkgalaa", sum := "ae74ad08ada9c4c046db8c854b2c99e9273f6a74b7dd48da099ab2dfcb92f2bd", func := "usher/usherlaw6.WheelPlays", spec := "wheelPlays", unfollowed := true, recurses := true, plainKeys := false, apart := false, narrowed := true }
def WheelPlaysUptoSaid : Prop := wheelPlaysUptoRow.holds Try.pinned (OpenSpec.upto wheelPlaysSpec)

/-- 'usherlaw6.WheelOfNothing', WHERE WHAT IT READS IS OF BULK AT MOST 1048576: true; the input reads as it did. -/
def wheelOfNothingUptoRow : OpenClaim := { program := "ytgmgjkafdkgalaa", sum := "ae74ad08ada9c4c046db8c854b2c99e9273f6a74b7dd48da099ab2dfcb92f2bd", func := "usher/usherlaw6.WheelOfNothing", spec := "wheelOfNothing", unfollowed := true, recurses := true, plainKeys := false, apart := false, narrowed := true }
def WheelOfNothingUptoSaid : Prop := wheelOfNothingUptoRow.holds Try.pinned (OpenSpec.upto wheelOfNothingSpec)

end Rows
end Go.Proofs.Ytgmgjkafdkgalaa
