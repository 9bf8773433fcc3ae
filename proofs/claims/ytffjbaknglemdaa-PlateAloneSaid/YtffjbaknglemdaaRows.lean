/-
  No cell of these rows narrows 'for every input' (looked for: loops, veiled, ifaces, maps, wideKeys, modest, calm, conditions, laid).
  DERIVED. THE GIVEN ROWS OF THIS SEAT. 14 by the template 'for every input the law returns true; each argument reads behind the call as it read before'; 0 by the template 'total and deterministic' (their statements: YtffjbaknglemdaaTotals.lean).
  GIVEN WITH THE SEED: the statements are not yours to turn. If you find one false, say at which input.
  Laid BY PROGRAM, IN A SANDBOX (cutbox-rows.mjs): the forced cells as the released guide's own fill.sh prints them over the translation 76999dd3b3a99c0a… (all of the seat's roots in one cut). By AI agents, Wed Nov 11 2026. No macro, syntax, notation, axiom, sorry.
-/
import Derived.Test.YtffjbaknglemdaaChecked
import GoSem.Claim
import GoSem.ClaimJoined
import GoSem.ClaimMapViews
import Derived.JoinedTies
import Derived.KernelRfl
namespace Go.Proofs.Ytffjbaknglemdaa
/- THE CELL 'sum', in the pinned program and in every row, IS THE sha256 OF THE DUMP (.gsa) THAT YtffjbaknglemdaaProg.lean LOADS. Nothing in Lean hashes anything: it is a label: what it is worth is what the hold of that sum in a sandbox is worth. -/
noncomputable def Try.pinned : Pinned := { name := "ytffjbaknglemdaa", sum := "76999dd3b3a99c0a8850e5c7c98f54a6ed61ea012e64c58d88ca8342ff9ad61a", checked := Try.checked }
namespace Rows
def none {H : Type} : Left H := { results := [], args := [] }

/-- 'tensiletop.TopTaken': WHATEVER THE INPUT: true; the input reads as it did. -/
def topTakenSpec : ChangeSpec := { name := "topTaken", fn := fun _ => fun
  | [d1, d2, d3, d4, d5] => { results := [.lit (.bool true)], args := [d1, d2, d3, d4, d5] }
  | _ => none }
def topTakenRow : OpenClaim := { program := "ytffjbaknglemdaa", sum := "76999dd3b3a99c0a8850e5c7c98f54a6ed61ea012e64c58d88ca8342ff9ad61a", func := "tensile/tensiletop.TopTaken", spec := "topTaken", unfollowed := true, recurses := true, plainKeys := false, apart := false }
def TopTakenSaid : Prop := topTakenRow.holds Try.pinned (OpenSpec.ofChange topTakenSpec)

/-- ITS FALSE NEIGHBOUR: 'it returns false'. Refute it at one input. -/
def topTakenWrong : ChangeSpec := { name := "topTaken", fn := fun _ => fun
  | [d1, d2, d3, d4, d5] => { results := [.lit (.bool false)], args := [d1, d2, d3, d4, d5] }
  | _ => none }
def TopTakenWrongFalsely : Prop := topTakenRow.holds Try.pinned (OpenSpec.ofChange topTakenWrong)

/-- 'tensilelaw03.PlateWeighs': WHATEVER THE INPUT: true; the input reads as it did. -/
def plateWeighsSpec : ChangeSpec := { name := "plateWeighs", fn := fun _ => fun
  | [d1, d2] => { results := [.lit (.bool true)], args := [d1, d2] }
  | _ => none }
def plateWeighsRow : OpenClaim := { program := "ytffjbaknglemdaa", sum := "76999dd3b3a99c0a8850e5c7c98f54a6ed61ea012e64c58d88ca8342ff9ad61a", func := "tensile/tensilelaw03.PlateWeighs", spec := "plateWeighs", unfollowed := true, recurses := true, plainKeys := false, apart := false }
def PlateWeighsSaid : Prop := plateWeighsRow.holds Try.pinned (OpenSpec.ofChange plateWeighsSpec)

/-- ITS FALSE NEIGHBOUR: 'it returns false'. Refute it at one input. -/
def plateWeighsWrong : ChangeSpec := { name := "plateWeighs", fn := fun _ => fun
  | [d1, d2] => { results := [.lit (.bool false)], args := [d1, d2] }
  | _ => none }
def PlateWeighsWrongFalsely : Prop := plateWeighsRow.holds Try.pinned (OpenSpec.ofChange plateWeighsWrong)

/-- 'tensilelaw03.PlateTraces': WHATEVER THE INPUT: true; the input reads as it did. -/
def plateTracesSpec : ChangeSpec := { name := "plateTraces", fn := fun _ => fun
  | [d1, d2, d3, d4] => { results := [.lit (.bool true)], args := [d1, d2, d3, d4] }
  | _ => none }
def plateTracesRow : OpenClaim := { program := "ytffjbaknglemdaa", sum := "76999dd3b3a99c0a8850e5c7c98f54a6ed61ea012e64c58d88ca8342ff9ad61a", func := "tensile/tensilelaw03.PlateTraces", spec := "plateTraces", unfollowed := true, recurses := true, plainKeys := false, apart := false }
def PlateTracesSaid : Prop := plateTracesRow.holds Try.pinned (OpenSpec.ofChange plateTracesSpec)

/-- ITS FALSE NEIGHBOUR: 'it returns false'. Refute it at one input. -/
def plateTracesWrong : ChangeSpec := { name := "plateTraces", fn := fun _ => fun
  | [d1, d2, d3, d4] => { results := [.lit (.bool false)], args := [d1, d2, d3, d4] }
  | _ => none }
def PlateTracesWrongFalsely : Prop := plateTracesRow.holds Try.pinned (OpenSpec.ofChange plateTracesWrong)

/-- 'tensilelaw03.PlateBests': WHATEVER THE INPUT: true; the input reads as it did. -/
def plateBestsSpec : ChangeSpec := { name := "plateBests", fn := fun _ => fun
  | [d] => { results := [.lit (.bool true)], args := [d] }
  | _ => none }
def plateBestsRow : OpenClaim := { program := "ytffjbaknglemdaa", sum := "76999dd3b3a99c0a8850e5c7c98f54a6ed61ea012e64c58d88ca8342ff9ad61a", func := "tensile/tensilelaw03.PlateBests", spec := "plateBests", unfollowed := true, recurses := true, plainKeys := false, apart := false }
def PlateBestsSaid : Prop := plateBestsRow.holds Try.pinned (OpenSpec.ofChange plateBestsSpec)

/-- ITS FALSE NEIGHBOUR: 'it returns false'. Refute it at one input. -/
def plateBestsWrong : ChangeSpec := { name := "plateBests", fn := fun _ => fun
  | [d] => { results := [.lit (.bool false)], args := [d] }
  | _ => none }
def PlateBestsWrongFalsely : Prop := plateBestsRow.holds Try.pinned (OpenSpec.ofChange plateBestsWrong)

/-- 'tensilelaw03.PlateEasier': WHATEVER THE INPUT: true; the input reads as it did. -/
def plateEasierSpec : ChangeSpec := { name := "plateEasier", fn := fun _ => fun
  | [d1, d2, d3, d4, d5] => { results := [.lit (.bool true)], args := [d1, d2, d3, d4, d5] }
  | _ => none }
def plateEasierRow : OpenClaim := { program := "ytffjbaknglemdaa", sum := "76999dd3b3a99c0a8850e5c7c98f54a6ed61ea012e64c58d88ca8342ff9ad61a", func := "tensile/tensilelaw03.PlateEasier", spec := "plateEasier", unfollowed := true, recurses := true, plainKeys := false, apart := false }
def PlateEasierSaid : Prop := plateEasierRow.holds Try.pinned (OpenSpec.ofChange plateEasierSpec)

/-- ITS FALSE NEIGHBOUR: 'it returns false'. Refute it at one input. -/
def plateEasierWrong : ChangeSpec := { name := "plateEasier", fn := fun _ => fun
  | [d1, d2, d3, d4, d5] => { results := [.lit (.bool false)], args := [d1, d2, d3, d4, d5] }
  | _ => none }
def PlateEasierWrongFalsely : Prop := plateEasierRow.holds Try.pinned (OpenSpec.ofChange plateEasierWrong)

/-- 'tensilelaw03.PlateTurned': WHATEVER THE INPUT: true; the input reads as it did. -/
def plateTurnedSpec : ChangeSpec := { name := "plateTurned", fn := fun _ => fun
  | [d] => { results := [.lit (.bool true)], args := [d] }
  | _ => none }
def plateTurnedRow : OpenClaim := { program := "ytffjbaknglemdaa", sum := "76999dd3b3a99c0a8850e5c7c98f54a6ed61ea012e64c58d88ca8342ff9ad61a", func := "tensile/tensilelaw03.PlateTurned", spec := "plateTurned", unfollowed := true, recurses := true, plainKeys := false, apart := false }
def PlateTurnedSaid : Prop := plateTurnedRow.holds Try.pinned (OpenSpec.ofChange plateTurnedSpec)

/-- ITS FALSE NEIGHBOUR: 'it returns false'. Refute it at one input. -/
def plateTurnedWrong : ChangeSpec := { name := "plateTurned", fn := fun _ => fun
  | [d] => { results := [.lit (.bool false)], args := [d] }
  | _ => none }
def PlateTurnedWrongFalsely : Prop := plateTurnedRow.holds Try.pinned (OpenSpec.ofChange plateTurnedWrong)

/-- 'tensilelaw03.PlateAlone': WHATEVER THE INPUT: true; the input reads as it did. -/
def plateAloneSpec : ChangeSpec := { name := "plateAlone", fn := fun _ => fun
  | [d] => { results := [.lit (.bool true)], args := [d] }
  | _ => none }
def plateAloneRow : OpenClaim := { program := "ytffjbaknglemdaa", sum := "76999dd3b3a99c0a8850e5c7c98f54a6ed61ea012e64c58d88ca8342ff9ad61a", func := "tensile/tensilelaw03.PlateAlone", spec := "plateAlone", unfollowed := true, recurses := true, plainKeys := false, apart := false }
def PlateAloneSaid : Prop := plateAloneRow.holds Try.pinned (OpenSpec.ofChange plateAloneSpec)

/-- ITS FALSE NEIGHBOUR: 'it returns false'. Refute it at one input. -/
def plateAloneWrong : ChangeSpec := { name := "plateAlone", fn := fun _ => fun
  | [d] => { results := [.lit (.bool false)], args := [d] }
  | _ => none }
def PlateAloneWrongFalsely : Prop := plateAloneRow.holds Try.pinned (OpenSpec.ofChange plateAloneWrong)

/-- 'tensilelaw03.PlateOrder': WHATEVER THE INPUT: true; the input reads as it did. -/
def plateOrderSpec : ChangeSpec := { name := "plateOrder", fn := fun _ => fun
  | [d1, d2] => { results := [.lit (.bool true)], args := [d1, d2] }
  | _ => none }
def plateOrderRow : OpenClaim := { program := "ytffjbaknglemdaa", sum := "76999dd3b3a99c0a8850e5c7c98f54a6ed61ea012e64c58d88ca8342ff9ad61a", func := "tensile/tensilelaw03.PlateOrder", spec := "plateOrder", unfollowed := true, recurses := true, plainKeys := false, apart := false }
def PlateOrderSaid : Prop := plateOrderRow.holds Try.pinned (OpenSpec.ofChange plateOrderSpec)

/-- ITS FALSE NEIGHBOUR: 'it returns false'. Refute it at one input. -/
def plateOrderWrong : ChangeSpec := { name := "plateOrder", fn := fun _ => fun
  | [d1, d2] => { results := [.lit (.bool false)], args := [d1, d2] }
  | _ => none }
def PlateOrderWrongFalsely : Prop := plateOrderRow.holds Try.pinned (OpenSpec.ofChange plateOrderWrong)

/-- 'tensilelaw03.PlateProves': WHATEVER THE INPUT: true; the input reads as it did. -/
def plateProvesSpec : ChangeSpec := { name := "plateProves", fn := fun _ => fun
  | [d1, d2, d3, d4] => { results := [.lit (.bool true)], args := [d1, d2, d3, d4] }
  | _ => none }
def plateProvesRow : OpenClaim := { program := "ytffjbaknglemdaa", sum := "76999dd3b3a99c0a8850e5c7c98f54a6ed61ea012e64c58d88ca8342ff9ad61a", func := "tensile/tensilelaw03.PlateProves", spec := "plateProves", unfollowed := true, recurses := true, plainKeys := false, apart := false }
def PlateProvesSaid : Prop := plateProvesRow.holds Try.pinned (OpenSpec.ofChange plateProvesSpec)

/-- ITS FALSE NEIGHBOUR: 'it returns false'. Refute it at one input. -/
def plateProvesWrong : ChangeSpec := { name := "plateProves", fn := fun _ => fun
  | [d1, d2, d3, d4] => { results := [.lit (.bool false)], args := [d1, d2, d3, d4] }
  | _ => none }
def PlateProvesWrongFalsely : Prop := plateProvesRow.holds Try.pinned (OpenSpec.ofChange plateProvesWrong)

/-- 'tensilelaw03.PlateBest': WHATEVER THE INPUT: true; the input reads as it did. -/
def plateBestSpec : ChangeSpec := { name := "plateBest", fn := fun _ => fun
  | [d1, d2, d3] => { results := [.lit (.bool true)], args := [d1, d2, d3] }
  | _ => none }
def plateBestRow : OpenClaim := { program := "ytffjbaknglemdaa", sum := "76999dd3b3a99c0a8850e5c7c98f54a6ed61ea012e64c58d88ca8342ff9ad61a", func := "tensile/tensilelaw03.PlateBest", spec := "plateBest", unfollowed := true, recurses := true, plainKeys := false, apart := false }
def PlateBestSaid : Prop := plateBestRow.holds Try.pinned (OpenSpec.ofChange plateBestSpec)

/-- ITS FALSE NEIGHBOUR: 'it returns false'. Refute it at one input. -/
def plateBestWrong : ChangeSpec := { name := "plateBest", fn := fun _ => fun
  | [d1, d2, d3] => { results := [.lit (.bool false)], args := [d1, d2, d3] }
  | _ => none }
def PlateBestWrongFalsely : Prop := plateBestRow.holds Try.pinned (OpenSpec.ofChange plateBestWrong)

/-- 'tensilelaw03.PlateCuts': WHATEVER THE INPUT: true; the input reads as it did. -/
def plateCutsSpec : ChangeSpec := { name := "plateCuts", fn := fun _ => fun
  | [d1, d2] => { results := [.lit (.bool true)], args := [d1, d2] }
  | _ => none }
def plateCutsRow : OpenClaim := { program := "ytffjbaknglemdaa", sum := "76999dd3b3a99c0a8850e5c7c98f54a6ed61ea012e64c58d88ca8342ff9ad61a", func := "tensile/tensilelaw03.PlateCuts", spec := "plateCuts", unfollowed := true, recurses := true, plainKeys := false, apart := false }
def PlateCutsSaid : Prop := plateCutsRow.holds Try.pinned (OpenSpec.ofChange plateCutsSpec)

/-- ITS FALSE NEIGHBOUR: 'it returns false'. Refute it at one input. -/
def plateCutsWrong : ChangeSpec := { name := "plateCuts", fn := fun _ => fun
  | [d1, d2] => { results := [.lit (.bool false)], args := [d1, d2] }
  | _ => none }
def PlateCutsWrongFalsely : Prop := plateCutsRow.holds Try.pinned (OpenSpec.ofChange plateCutsWrong)

/-- 'tensilelaw03.PlateUnits': WHATEVER THE INPUT: true; the input reads as it did. -/
def plateUnitsSpec : ChangeSpec := { name := "plateUnits", fn := fun _ => fun
  | [d1, d2] => { results := [.lit (.bool true)], args := [d1, d2] }
  | _ => none }
def plateUnitsRow : OpenClaim := { program := "ytffjbaknglemdaa", sum := "76999dd3b3a99c0a8850e5c7c98f54a6ed61ea012e64c58d88ca8342ff9ad61a", func := "tensile/tensilelaw03.PlateUnits", spec := "plateUnits", unfollowed := true, recurses := true, plainKeys := false, apart := false }
def PlateUnitsSaid : Prop := plateUnitsRow.holds Try.pinned (OpenSpec.ofChange plateUnitsSpec)

/-- ITS FALSE NEIGHBOUR: 'it returns false'. Refute it at one input. -/
def plateUnitsWrong : ChangeSpec := { name := "plateUnits", fn := fun _ => fun
  | [d1, d2] => { results := [.lit (.bool false)], args := [d1, d2] }
  | _ => none }
def PlateUnitsWrongFalsely : Prop := plateUnitsRow.holds Try.pinned (OpenSpec.ofChange plateUnitsWrong)

/-- 'tensilelaw03.PlateSteps': WHATEVER THE INPUT: true; the input reads as it did. -/
def plateStepsSpec : ChangeSpec := { name := "plateSteps", fn := fun _ => fun
  | [d1, d2] => { results := [.lit (.bool true)], args := [d1, d2] }
  | _ => none }
def plateStepsRow : OpenClaim := { program := "ytffjbaknglemdaa", sum := "76999dd3b3a99c0a8850e5c7c98f54a6ed61ea012e64c58d88ca8342ff9ad61a", func := "tensile/tensilelaw03.PlateSteps", spec := "plateSteps", unfollowed := true, recurses := true, plainKeys := false, apart := false }
def PlateStepsSaid : Prop := plateStepsRow.holds Try.pinned (OpenSpec.ofChange plateStepsSpec)

/-- ITS FALSE NEIGHBOUR: 'it returns false'. Refute it at one input. -/
def plateStepsWrong : ChangeSpec := { name := "plateSteps", fn := fun _ => fun
  | [d1, d2] => { results := [.lit (.bool false)], args := [d1, d2] }
  | _ => none }
def PlateStepsWrongFalsely : Prop := plateStepsRow.holds Try.pinned (OpenSpec.ofChange plateStepsWrong)

/-- 'tensilelaw03.PlateNames': WHATEVER THE INPUT: true; the input reads as it did. -/
def plateNamesSpec : ChangeSpec := { name := "plateNames", fn := fun _ => fun
  | [] => { results := [.lit (.bool true)], args := [] }
  | _ => none }
def plateNamesRow : OpenClaim := { program := "ytffjbaknglemdaa", sum := "76999dd3b3a99c0a8850e5c7c98f54a6ed61ea012e64c58d88ca8342ff9ad61a", func := "tensile/tensilelaw03.PlateNames", spec := "plateNames", unfollowed := true, recurses := true, plainKeys := false, apart := false }
def PlateNamesSaid : Prop := plateNamesRow.holds Try.pinned (OpenSpec.ofChange plateNamesSpec)

/-- ITS FALSE NEIGHBOUR: 'it returns false'. Refute it at one input. -/
def plateNamesWrong : ChangeSpec := { name := "plateNames", fn := fun _ => fun
  | [] => { results := [.lit (.bool false)], args := [] }
  | _ => none }
def PlateNamesWrongFalsely : Prop := plateNamesRow.holds Try.pinned (OpenSpec.ofChange plateNamesWrong)

/- THE SECOND FORM. 'bulk': how many values and letters a reading holds, each counted each time it is reached (what is shared counts as often as it is met; a slice's spare places count too). A statement '..UptoSaid' is the law's where the arguments, and the package variables that the reading takes, are together of bulk at most 1048576: NARROWER than '..Said'. Prove '..Said' where nothing that the law and all that it calls make is longer than what came in: it says more and counts as full. Else prove '..UptoSaid'. A law counts once. -/
mutual
def uptoBulk {H : Type} : DataW H → Nat
  | .lit (.string bytes) => bytes.length + 1
  | .lit _ => 1
  | .nil => 1
  | .ptr d => uptoBulk d + 1
  | .slice elems spare => uptoBulkAll elems + uptoBulkAll spare + 1
  | .agg parts => uptoBulkAll parts + 1
  | .iface _ d => uptoBulk d + 1
  | .map entries => uptoBulkEntries entries + 1
  | .held _ => 1
def uptoBulkAll {H : Type} : List (DataW H) → Nat
  | [] => 0
  | d :: r => uptoBulk d + uptoBulkAll r
def uptoBulkEntries {H : Type} : List (Lit × DataW H) → Nat
  | [] => 0
  | x :: r => uptoBulkEntry x + uptoBulkEntries r
def uptoBulkEntry {H : Type} : Lit × DataW H → Nat
  | (.string bytes, d) => bytes.length + uptoBulk d + 1
  | (_, d) => uptoBulk d + 1
 end
def uptoSmall : (H : Type) → List (DataW H) → Bool := fun _ ds => decide (uptoBulkAll ds ≤ 1048576)
def OpenSpec.upto (s : _root_.Go.ChangeSpec) : _root_.Go.OpenSpec := { _root_.Go.OpenSpec.ofChange s with cond := some uptoSmall }

/-- 'tensiletop.TopTaken', WHERE WHAT IT READS IS OF BULK AT MOST 1048576: true; the input reads as it did. -/
def topTakenUptoRow : OpenClaim := { program := "ytffjbaknglemdaa", sum := "76999dd3b3a99c0a8850e5c7c98f54a6ed61ea012e64c58d88ca8342ff9ad61a", func := "tensile/tensiletop.TopTaken", spec := "topTaken", unfollowed := true, recurses := true, plainKeys := false, apart := false, narrowed := true }
def TopTakenUptoSaid : Prop := topTakenUptoRow.holds Try.pinned (OpenSpec.upto topTakenSpec)

/-- 'tensilelaw03.PlateWeighs', WHERE WHAT IT READS IS OF BULK AT MOST 1048576: true; the input reads as it did. -/
def plateWeighsUptoRow : OpenClaim := { program := "ytffjbaknglemdaa", sum := "76999dd3b3a99c0a8850e5c7c98f54a6ed61ea012e64c58d88ca8342ff9ad61a", func := "tensile/tensilelaw03.PlateWeighs", spec := "plateWeighs", unfollowed := true, recurses := true, plainKeys := false, apart := false, narrowed := true }
def PlateWeighsUptoSaid : Prop := plateWeighsUptoRow.holds Try.pinned (OpenSpec.upto plateWeighsSpec)

/-- 'tensilelaw03.PlateTraces', WHERE WHAT IT READS IS OF BULK AT MOST 1048576: true; the input reads as it did. -/
def plateTracesUptoRow : OpenClaim := { program := "ytffjbaknglemdaa", sum := "76999dd3b3a99c0a8850e5c7c98f54a6ed61ea012e64c58d88ca8342ff9ad61a", func := "tensile/tensilelaw03.PlateTraces", spec := "plateTraces", unfollowed := true, recurses := true, plainKeys := false, apart := false, narrowed := true }
def PlateTracesUptoSaid : Prop := plateTracesUptoRow.holds Try.pinned (OpenSpec.upto plateTracesSpec)

/-- 'tensilelaw03.PlateBests', WHERE WHAT IT READS IS OF BULK AT MOST 1048576: true; the input reads as it did. -/
def plateBestsUptoRow : OpenClaim := { program := "ytffjbaknglemdaa", sum := "76999dd3b3a99c0a8850e5c7c98f54a6ed61ea012e64c58d88ca8342ff9ad61a", func := "tensile/tensilelaw03.PlateBests", spec := "plateBests", unfollowed := true, recurses := true, plainKeys := false, apart := false, narrowed := true }
def PlateBestsUptoSaid : Prop := plateBestsUptoRow.holds Try.pinned (OpenSpec.upto plateBestsSpec)

/-- 'tensilelaw03.PlateEasier', WHERE WHAT IT READS IS OF BULK AT MOST 1048576: true; the input reads as it did. -/
def plateEasierUptoRow : OpenClaim := { program := "ytffjbaknglemdaa", sum := "76999dd3b3a99c0a8850e5c7c98f54a6ed61ea012e64c58d88ca8342ff9ad61a", func := "tensile/tensilelaw03.PlateEasier", spec := "plateEasier", unfollowed := true, recurses := true, plainKeys := false, apart := false, narrowed := true }
def PlateEasierUptoSaid : Prop := plateEasierUptoRow.holds Try.pinned (OpenSpec.upto plateEasierSpec)

/-- 'tensilelaw03.PlateTurned', WHERE WHAT IT READS IS OF BULK AT MOST 1048576: true; the input reads as it did. -/
def plateTurnedUptoRow : OpenClaim := { program := "ytffjbaknglemdaa", sum := "76999dd3b3a99c0a8850e5c7c98f54a6ed61ea012e64c58d88ca8342ff9ad61a", func := "tensile/tensilelaw03.PlateTurned", spec := "plateTurned", unfollowed := true, recurses := true, plainKeys := false, apart := false, narrowed := true }
def PlateTurnedUptoSaid : Prop := plateTurnedUptoRow.holds Try.pinned (OpenSpec.upto plateTurnedSpec)

/-- 'tensilelaw03.PlateAlone', WHERE WHAT IT READS IS OF BULK AT MOST 1048576: true; the input reads as it did. -/
def plateAloneUptoRow : OpenClaim := { program := "ytffjbaknglemdaa", sum := "76999dd3b3a99c0a8850e5c7c98f54a6ed61ea012e64c58d88ca8342ff9ad61a", func := "tensile/tensilelaw03.PlateAlone", spec := "plateAlone", unfollowed := true, recurses := true, plainKeys := false, apart := false, narrowed := true }
def PlateAloneUptoSaid : Prop := plateAloneUptoRow.holds Try.pinned (OpenSpec.upto plateAloneSpec)

/-- 'tensilelaw03.PlateOrder', WHERE WHAT IT READS IS OF BULK AT MOST 1048576: true; the input reads as it did. -/
def plateOrderUptoRow : OpenClaim := { program := "ytffjbaknglemdaa", sum := "76999dd3b3a99c0a8850e5c7c98f54a6ed61ea012e64c58d88ca8342ff9ad61a", func := "tensile/tensilelaw03.PlateOrder", spec := "plateOrder", unfollowed := true, recurses := true, plainKeys := false, apart := false, narrowed := true }
def PlateOrderUptoSaid : Prop := plateOrderUptoRow.holds Try.pinned (OpenSpec.upto plateOrderSpec)

/-- 'tensilelaw03.PlateProves', WHERE WHAT IT READS IS OF BULK AT MOST 1048576: true; the input reads as it did. -/
def plateProvesUptoRow : OpenClaim := { program := "ytffjbaknglemdaa", sum := "76999dd3b3a99c0a8850e5c7c98f54a6ed61ea012e64c58d88ca8342ff9ad61a", func := "tensile/tensilelaw03.PlateProves", spec := "plateProves", unfollowed := true, recurses := true, plainKeys := false, apart := false, narrowed := true }
def PlateProvesUptoSaid : Prop := plateProvesUptoRow.holds Try.pinned (OpenSpec.upto plateProvesSpec)

/-- 'tensilelaw03.PlateBest', WHERE WHAT IT READS IS OF BULK AT MOST 1048576: true; the input reads as it did. -/
def plateBestUptoRow : OpenClaim := { program := "ytffjbaknglemdaa", sum := "76999dd3b3a99c0a8850e5c7c98f54a6ed61ea012e64c58d88ca8342ff9ad61a", func := "tensile/tensilelaw03.PlateBest", spec := "plateBest", unfollowed := true, recurses := true, plainKeys := false, apart := false, narrowed := true }
def PlateBestUptoSaid : Prop := plateBestUptoRow.holds Try.pinned (OpenSpec.upto plateBestSpec)

/-- 'tensilelaw03.PlateCuts', WHERE WHAT IT READS IS OF BULK AT MOST 1048576: true; the input reads as it did. -/
def plateCutsUptoRow : OpenClaim := { program := "ytffjbaknglemdaa", sum := "76999dd3b3a99c0a8850e5c7c98f54a6ed61ea012e64c58d88ca8342ff9ad61a", func := "tensile/tensilelaw03.PlateCuts", spec := "plateCuts", unfollowed := true, recurses := true, plainKeys := false, apart := false, narrowed := true }
def PlateCutsUptoSaid : Prop := plateCutsUptoRow.holds Try.pinned (OpenSpec.upto plateCutsSpec)

/-- 'tensilelaw03.PlateUnits', WHERE WHAT IT READS IS OF BULK AT MOST 1048576: true; the input reads as it did. -/
def plateUnitsUptoRow : OpenClaim := { program := "ytffjbaknglemdaa", sum := "76999dd3b3a99c0a8850e5c7c98f54a6ed61ea012e64c58d88ca8342ff9ad61a", func := "tensile/tensilelaw03.PlateUnits", spec := "plateUnits", unfollowed := true, recurses := true, plainKeys := false, apart := false, narrowed := true }
def PlateUnitsUptoSaid : Prop := plateUnitsUptoRow.holds Try.pinned (OpenSpec.upto plateUnitsSpec)

/-- 'tensilelaw03.PlateSteps', WHERE WHAT IT READS IS OF BULK AT MOST 1048576: true; the input reads as it did. -/
def plateStepsUptoRow : OpenClaim := { program := "ytffjbaknglemdaa", sum := "76999dd3b3a99c0a8850e5c7c98f54a6ed61ea012e64c58d88ca8342ff9ad61a", func := "tensile/tensilelaw03.PlateSteps", spec := "plateSteps", unfollowed := true, recurses := true, plainKeys := false, apart := false, narrowed := true }
def PlateStepsUptoSaid : Prop := plateStepsUptoRow.holds Try.pinned (OpenSpec.upto plateStepsSpec)

/-- 'tensilelaw03.PlateNames', WHERE WHAT IT READS IS OF BULK AT MOST 1048576: true; the input reads as it did. -/
def plateNamesUptoRow : OpenClaim := { program := "ytffjbaknglemdaa", sum := "76999dd3b3a99c0a8850e5c7c98f54a6ed61ea012e64c58d88ca8342ff9ad61a", func := "tensile/tensilelaw03.PlateNames", spec := "plateNames", unfollowed := true, recurses := true, plainKeys := false, apart := false, narrowed := true }
def PlateNamesUptoSaid : Prop := plateNamesUptoRow.holds Try.pinned (OpenSpec.upto plateNamesSpec)

end Rows
end Go.Proofs.Ytffjbaknglemdaa
