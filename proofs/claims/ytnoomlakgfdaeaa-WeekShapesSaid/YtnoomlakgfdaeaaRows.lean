/-
  No cell of these rows narrows 'for every input' (looked for: loops, veiled, ifaces, maps, wideKeys, modest, calm, conditions, laid).
  DERIVED. THE GIVEN ROWS OF THIS SEAT. 16 by the template 'for every input the law returns true; each argument reads behind the call as it read before'; 0 by the template 'total and deterministic' (their statements: YtnoomlakgfdaeaaTotals.lean).
  GIVEN WITH THE SEED: the statements are not yours to turn. If you find one false, say at which input.
  Laid BY PROGRAM, IN A SANDBOX (cutbox-rows.mjs): the forced cells as the released guide's own fill.sh prints them over the translation 38402e2ebdb7910a… (all of the seat's roots in one cut). By AI agents, Wed Nov 11 2026. No macro, syntax, notation, axiom, sorry.
-/
import Derived.Test.YtnoomlakgfdaeaaChecked
import GoSem.Claim
import GoSem.ClaimJoined
import GoSem.ClaimMapViews
import Derived.JoinedTies
import Derived.KernelRfl
namespace Go.Proofs.Ytnoomlakgfdaeaa
/- THE CELL 'sum', in the pinned program and in every row, IS THE sha256 OF THE DUMP (.gsa) THAT YtnoomlakgfdaeaaProg.lean LOADS. Nothing in Lean hashes anything: it is a label: what it is worth is what the hold of that sum in a sandbox is worth. -/
noncomputable def Try.pinned : Pinned := { name := "ytnoomlakgfdaeaa", sum := "38402e2ebdb7910a46b662f28fac440f625b7f6a7cb66ea14320d46eb1a849e4", checked := Try.checked }
namespace Rows
def none {H : Type} : Left H := { results := [], args := [] }

/-- 'ferialaw08.MomentBack': WHATEVER THE INPUT: true; the input reads as it did. -/
def momentBackSpec : ChangeSpec := { name := "momentBack", fn := fun _ => fun
  | [d1, d2] => { results := [.lit (.bool true)], args := [d1, d2] }
  | _ => none }
def momentBackRow : OpenClaim := { program := "ytnoomlakgfdaeaa", sum := "38402e2ebdb7910a46b662f28fac440f625b7f6a7cb66ea14320d46eb1a849e4", func := "feria/ferialaw08.MomentBack", spec := "momentBack", unfollowed := true, recurses := true, apart := false }
def MomentBackSaid : Prop := momentBackRow.holds Try.pinned (OpenSpec.ofChange momentBackSpec)

/-- ITS FALSE NEIGHBOUR: 'it returns false'. Refute it at one input. -/
def momentBackWrong : ChangeSpec := { name := "momentBack", fn := fun _ => fun
  | [d1, d2] => { results := [.lit (.bool false)], args := [d1, d2] }
  | _ => none }
def MomentBackWrongFalsely : Prop := momentBackRow.holds Try.pinned (OpenSpec.ofChange momentBackWrong)

/-- 'ferialaw05.CivilNumbers': WHATEVER THE INPUT: true; the input reads as it did. -/
def civilNumbersSpec : ChangeSpec := { name := "civilNumbers", fn := fun _ => fun
  | [d1, d2, d3] => { results := [.lit (.bool true)], args := [d1, d2, d3] }
  | _ => none }
def civilNumbersRow : OpenClaim := { program := "ytnoomlakgfdaeaa", sum := "38402e2ebdb7910a46b662f28fac440f625b7f6a7cb66ea14320d46eb1a849e4", func := "feria/ferialaw05.CivilNumbers", spec := "civilNumbers", apart := false }
def CivilNumbersSaid : Prop := civilNumbersRow.holds Try.pinned (OpenSpec.ofChange civilNumbersSpec)

/-- ITS FALSE NEIGHBOUR: 'it returns false'. Refute it at one input. -/
def civilNumbersWrong : ChangeSpec := { name := "civilNumbers", fn := fun _ => fun
  | [d1, d2, d3] => { results := [.lit (.bool false)], args := [d1, d2, d3] }
  | _ => none }
def CivilNumbersWrongFalsely : Prop := civilNumbersRow.holds Try.pinned (OpenSpec.ofChange civilNumbersWrong)

/-- 'ferialaw10.UnitWhich': WHATEVER THE INPUT: true; the input reads as it did. -/
def unitWhichSpec : ChangeSpec := { name := "unitWhich", fn := fun _ => fun
  | [d1, d2, d3] => { results := [.lit (.bool true)], args := [d1, d2, d3] }
  | _ => none }
def unitWhichRow : OpenClaim := { program := "ytnoomlakgfdaeaa", sum := "38402e2ebdb7910a46b662f28fac440f625b7f6a7cb66ea14320d46eb1a849e4", func := "feria/ferialaw10.UnitWhich", spec := "unitWhich", apart := false }
def UnitWhichSaid : Prop := unitWhichRow.holds Try.pinned (OpenSpec.ofChange unitWhichSpec)

/-- ITS FALSE NEIGHBOUR: 'it returns false'. Refute it at one input. -/
def unitWhichWrong : ChangeSpec := { name := "unitWhich", fn := fun _ => fun
  | [d1, d2, d3] => { results := [.lit (.bool false)], args := [d1, d2, d3] }
  | _ => none }
def UnitWhichWrongFalsely : Prop := unitWhichRow.holds Try.pinned (OpenSpec.ofChange unitWhichWrong)

/-- 'ferialaw05.CivilBack': WHATEVER THE INPUT: true; the input reads as it did. -/
def civilBackSpec : ChangeSpec := { name := "civilBack", fn := fun _ => fun
  | [d] => { results := [.lit (.bool true)], args := [d] }
  | _ => none }
def civilBackRow : OpenClaim := { program := "ytnoomlakgfdaeaa", sum := "38402e2ebdb7910a46b662f28fac440f625b7f6a7cb66ea14320d46eb1a849e4", func := "feria/ferialaw05.CivilBack", spec := "civilBack", apart := false }
def CivilBackSaid : Prop := civilBackRow.holds Try.pinned (OpenSpec.ofChange civilBackSpec)

/-- ITS FALSE NEIGHBOUR: 'it returns false'. Refute it at one input. -/
def civilBackWrong : ChangeSpec := { name := "civilBack", fn := fun _ => fun
  | [d] => { results := [.lit (.bool false)], args := [d] }
  | _ => none }
def CivilBackWrongFalsely : Prop := civilBackRow.holds Try.pinned (OpenSpec.ofChange civilBackWrong)

/-- 'ferialaw05.CivilDates': WHATEVER THE INPUT: true; the input reads as it did. -/
def civilDatesSpec : ChangeSpec := { name := "civilDates", fn := fun _ => fun
  | [d] => { results := [.lit (.bool true)], args := [d] }
  | _ => none }
def civilDatesRow : OpenClaim := { program := "ytnoomlakgfdaeaa", sum := "38402e2ebdb7910a46b662f28fac440f625b7f6a7cb66ea14320d46eb1a849e4", func := "feria/ferialaw05.CivilDates", spec := "civilDates", apart := false }
def CivilDatesSaid : Prop := civilDatesRow.holds Try.pinned (OpenSpec.ofChange civilDatesSpec)

/-- ITS FALSE NEIGHBOUR: 'it returns false'. Refute it at one input. -/
def civilDatesWrong : ChangeSpec := { name := "civilDates", fn := fun _ => fun
  | [d] => { results := [.lit (.bool false)], args := [d] }
  | _ => none }
def CivilDatesWrongFalsely : Prop := civilDatesRow.holds Try.pinned (OpenSpec.ofChange civilDatesWrong)

/-- 'ferialaw05.CivilEra': WHATEVER THE INPUT: true; the input reads as it did. -/
def civilEraSpec : ChangeSpec := { name := "civilEra", fn := fun _ => fun
  | [d1, d2] => { results := [.lit (.bool true)], args := [d1, d2] }
  | _ => none }
def civilEraRow : OpenClaim := { program := "ytnoomlakgfdaeaa", sum := "38402e2ebdb7910a46b662f28fac440f625b7f6a7cb66ea14320d46eb1a849e4", func := "feria/ferialaw05.CivilEra", spec := "civilEra", apart := false }
def CivilEraSaid : Prop := civilEraRow.holds Try.pinned (OpenSpec.ofChange civilEraSpec)

/-- ITS FALSE NEIGHBOUR: 'it returns false'. Refute it at one input. -/
def civilEraWrong : ChangeSpec := { name := "civilEra", fn := fun _ => fun
  | [d1, d2] => { results := [.lit (.bool false)], args := [d1, d2] }
  | _ => none }
def CivilEraWrongFalsely : Prop := civilEraRow.holds Try.pinned (OpenSpec.ofChange civilEraWrong)

/-- 'ferialaw08.MomentRises': WHATEVER THE INPUT: true; the input reads as it did. -/
def momentRisesSpec : ChangeSpec := { name := "momentRises", fn := fun _ => fun
  | [d1, d2] => { results := [.lit (.bool true)], args := [d1, d2] }
  | _ => none }
def momentRisesRow : OpenClaim := { program := "ytnoomlakgfdaeaa", sum := "38402e2ebdb7910a46b662f28fac440f625b7f6a7cb66ea14320d46eb1a849e4", func := "feria/ferialaw08.MomentRises", spec := "momentRises", unfollowed := true, recurses := true, apart := false }
def MomentRisesSaid : Prop := momentRisesRow.holds Try.pinned (OpenSpec.ofChange momentRisesSpec)

/-- ITS FALSE NEIGHBOUR: 'it returns false'. Refute it at one input. -/
def momentRisesWrong : ChangeSpec := { name := "momentRises", fn := fun _ => fun
  | [d1, d2] => { results := [.lit (.bool false)], args := [d1, d2] }
  | _ => none }
def MomentRisesWrongFalsely : Prop := momentRisesRow.holds Try.pinned (OpenSpec.ofChange momentRisesWrong)

/-- 'ferialaw06.WeekDays': WHATEVER THE INPUT: true; the input reads as it did. -/
def weekDaysSpec : ChangeSpec := { name := "weekDays", fn := fun _ => fun
  | [d1, d2, d3] => { results := [.lit (.bool true)], args := [d1, d2, d3] }
  | _ => none }
def weekDaysRow : OpenClaim := { program := "ytnoomlakgfdaeaa", sum := "38402e2ebdb7910a46b662f28fac440f625b7f6a7cb66ea14320d46eb1a849e4", func := "feria/ferialaw06.WeekDays", spec := "weekDays", apart := false }
def WeekDaysSaid : Prop := weekDaysRow.holds Try.pinned (OpenSpec.ofChange weekDaysSpec)

/-- ITS FALSE NEIGHBOUR: 'it returns false'. Refute it at one input. -/
def weekDaysWrong : ChangeSpec := { name := "weekDays", fn := fun _ => fun
  | [d1, d2, d3] => { results := [.lit (.bool false)], args := [d1, d2, d3] }
  | _ => none }
def WeekDaysWrongFalsely : Prop := weekDaysRow.holds Try.pinned (OpenSpec.ofChange weekDaysWrong)

/-- 'ferialaw06.WeekOn': WHATEVER THE INPUT: true; the input reads as it did. -/
def weekOnSpec : ChangeSpec := { name := "weekOn", fn := fun _ => fun
  | [d] => { results := [.lit (.bool true)], args := [d] }
  | _ => none }
def weekOnRow : OpenClaim := { program := "ytnoomlakgfdaeaa", sum := "38402e2ebdb7910a46b662f28fac440f625b7f6a7cb66ea14320d46eb1a849e4", func := "feria/ferialaw06.WeekOn", spec := "weekOn", apart := false }
def WeekOnSaid : Prop := weekOnRow.holds Try.pinned (OpenSpec.ofChange weekOnSpec)

/-- ITS FALSE NEIGHBOUR: 'it returns false'. Refute it at one input. -/
def weekOnWrong : ChangeSpec := { name := "weekOn", fn := fun _ => fun
  | [d] => { results := [.lit (.bool false)], args := [d] }
  | _ => none }
def WeekOnWrongFalsely : Prop := weekOnRow.holds Try.pinned (OpenSpec.ofChange weekOnWrong)

/-- 'ferialaw06.WeekFar': WHATEVER THE INPUT: true; the input reads as it did. -/
def weekFarSpec : ChangeSpec := { name := "weekFar", fn := fun _ => fun
  | [d] => { results := [.lit (.bool true)], args := [d] }
  | _ => none }
def weekFarRow : OpenClaim := { program := "ytnoomlakgfdaeaa", sum := "38402e2ebdb7910a46b662f28fac440f625b7f6a7cb66ea14320d46eb1a849e4", func := "feria/ferialaw06.WeekFar", spec := "weekFar", apart := false }
def WeekFarSaid : Prop := weekFarRow.holds Try.pinned (OpenSpec.ofChange weekFarSpec)

/-- ITS FALSE NEIGHBOUR: 'it returns false'. Refute it at one input. -/
def weekFarWrong : ChangeSpec := { name := "weekFar", fn := fun _ => fun
  | [d] => { results := [.lit (.bool false)], args := [d] }
  | _ => none }
def WeekFarWrongFalsely : Prop := weekFarRow.holds Try.pinned (OpenSpec.ofChange weekFarWrong)

/-- 'ferialaw08.MomentSplits': WHATEVER THE INPUT: true; the input reads as it did. -/
def momentSplitsSpec : ChangeSpec := { name := "momentSplits", fn := fun _ => fun
  | [d1, d2, d3] => { results := [.lit (.bool true)], args := [d1, d2, d3] }
  | _ => none }
def momentSplitsRow : OpenClaim := { program := "ytnoomlakgfdaeaa", sum := "38402e2ebdb7910a46b662f28fac440f625b7f6a7cb66ea14320d46eb1a849e4", func := "feria/ferialaw08.MomentSplits", spec := "momentSplits", unfollowed := true, recurses := true, apart := false }
def MomentSplitsSaid : Prop := momentSplitsRow.holds Try.pinned (OpenSpec.ofChange momentSplitsSpec)

/-- ITS FALSE NEIGHBOUR: 'it returns false'. Refute it at one input. -/
def momentSplitsWrong : ChangeSpec := { name := "momentSplits", fn := fun _ => fun
  | [d1, d2, d3] => { results := [.lit (.bool false)], args := [d1, d2, d3] }
  | _ => none }
def MomentSplitsWrongFalsely : Prop := momentSplitsRow.holds Try.pinned (OpenSpec.ofChange momentSplitsWrong)

/-- 'ferialaw06.WeekShapes': WHATEVER THE INPUT: true; the input reads as it did. -/
def weekShapesSpec : ChangeSpec := { name := "weekShapes", fn := fun _ => fun
  | [d1, d2, d3] => { results := [.lit (.bool true)], args := [d1, d2, d3] }
  | _ => none }
def weekShapesRow : OpenClaim := { program := "ytnoomlakgfdaeaa", sum := "38402e2ebdb7910a46b662f28fac440f625b7f6a7cb66ea14320d46eb1a849e4", func := "feria/ferialaw06.WeekShapes", spec := "weekShapes", unfollowed := true, recurses := true, apart := false }
def WeekShapesSaid : Prop := weekShapesRow.holds Try.pinned (OpenSpec.ofChange weekShapesSpec)

/-- ITS FALSE NEIGHBOUR: 'it returns false'. Refute it at one input. -/
def weekShapesWrong : ChangeSpec := { name := "weekShapes", fn := fun _ => fun
  | [d1, d2, d3] => { results := [.lit (.bool false)], args := [d1, d2, d3] }
  | _ => none }
def WeekShapesWrongFalsely : Prop := weekShapesRow.holds Try.pinned (OpenSpec.ofChange weekShapesWrong)

/-- 'ferialaw06.WeekNames': WHATEVER THE INPUT: true; the input reads as it did. -/
def weekNamesSpec : ChangeSpec := { name := "weekNames", fn := fun _ => fun
  | [d1, d2] => { results := [.lit (.bool true)], args := [d1, d2] }
  | _ => none }
def weekNamesRow : OpenClaim := { program := "ytnoomlakgfdaeaa", sum := "38402e2ebdb7910a46b662f28fac440f625b7f6a7cb66ea14320d46eb1a849e4", func := "feria/ferialaw06.WeekNames", spec := "weekNames", apart := false }
def WeekNamesSaid : Prop := weekNamesRow.holds Try.pinned (OpenSpec.ofChange weekNamesSpec)

/-- ITS FALSE NEIGHBOUR: 'it returns false'. Refute it at one input. -/
def weekNamesWrong : ChangeSpec := { name := "weekNames", fn := fun _ => fun
  | [d1, d2] => { results := [.lit (.bool false)], args := [d1, d2] }
  | _ => none }
def WeekNamesWrongFalsely : Prop := weekNamesRow.holds Try.pinned (OpenSpec.ofChange weekNamesWrong)

/-- 'ferialaw08.MomentStamps': WHATEVER THE INPUT: true; the input reads as it did. -/
def momentStampsSpec : ChangeSpec := { name := "momentStamps", fn := fun _ => fun
  | [d1, d2] => { results := [.lit (.bool true)], args := [d1, d2] }
  | _ => none }
def momentStampsRow : OpenClaim := { program := "ytnoomlakgfdaeaa", sum := "38402e2ebdb7910a46b662f28fac440f625b7f6a7cb66ea14320d46eb1a849e4", func := "feria/ferialaw08.MomentStamps", spec := "momentStamps", unfollowed := true, recurses := true, apart := false }
def MomentStampsSaid : Prop := momentStampsRow.holds Try.pinned (OpenSpec.ofChange momentStampsSpec)

/-- ITS FALSE NEIGHBOUR: 'it returns false'. Refute it at one input. -/
def momentStampsWrong : ChangeSpec := { name := "momentStamps", fn := fun _ => fun
  | [d1, d2] => { results := [.lit (.bool false)], args := [d1, d2] }
  | _ => none }
def MomentStampsWrongFalsely : Prop := momentStampsRow.holds Try.pinned (OpenSpec.ofChange momentStampsWrong)

/-- 'ferialaw10.UnitPhases': WHATEVER THE INPUT: true; the input reads as it did. -/
def unitPhasesSpec : ChangeSpec := { name := "unitPhases", fn := fun _ => fun
  | [d1, d2, d3] => { results := [.lit (.bool true)], args := [d1, d2, d3] }
  | _ => none }
def unitPhasesRow : OpenClaim := { program := "ytnoomlakgfdaeaa", sum := "38402e2ebdb7910a46b662f28fac440f625b7f6a7cb66ea14320d46eb1a849e4", func := "feria/ferialaw10.UnitPhases", spec := "unitPhases", apart := false }
def UnitPhasesSaid : Prop := unitPhasesRow.holds Try.pinned (OpenSpec.ofChange unitPhasesSpec)

/-- ITS FALSE NEIGHBOUR: 'it returns false'. Refute it at one input. -/
def unitPhasesWrong : ChangeSpec := { name := "unitPhases", fn := fun _ => fun
  | [d1, d2, d3] => { results := [.lit (.bool false)], args := [d1, d2, d3] }
  | _ => none }
def UnitPhasesWrongFalsely : Prop := unitPhasesRow.holds Try.pinned (OpenSpec.ofChange unitPhasesWrong)

/-- 'ferialaw08.MomentReads': WHATEVER THE INPUT: true; the input reads as it did. -/
def momentReadsSpec : ChangeSpec := { name := "momentReads", fn := fun _ => fun
  | [d] => { results := [.lit (.bool true)], args := [d] }
  | _ => none }
def momentReadsRow : OpenClaim := { program := "ytnoomlakgfdaeaa", sum := "38402e2ebdb7910a46b662f28fac440f625b7f6a7cb66ea14320d46eb1a849e4", func := "feria/ferialaw08.MomentReads", spec := "momentReads", unfollowed := true, recurses := true, apart := false }
def MomentReadsSaid : Prop := momentReadsRow.holds Try.pinned (OpenSpec.ofChange momentReadsSpec)

/-- ITS FALSE NEIGHBOUR: 'it returns false'. Refute it at one input. -/
def momentReadsWrong : ChangeSpec := { name := "momentReads", fn := fun _ => fun
  | [d] => { results := [.lit (.bool false)], args := [d] }
  | _ => none }
def MomentReadsWrongFalsely : Prop := momentReadsRow.holds Try.pinned (OpenSpec.ofChange momentReadsWrong)

/- THE SECOND FORM. 'bulk': how many values and letters a reading holds, each counted each time it is reached (what is shared counts as often as it is met; a slice's spare places count too). A statement '..UptoSaid' is the law's where the arguments, and the package variables that the reading takes, are together of bulk at most 1048576: NARROWER than '..Said'. Prove '..Said' where nothing that the law and all that it calls make is longer than what came in: it says more and counts as full. Else prove '..UptoSaid'. A law counts once. -/
mutual
def uptoBulk {H : Type} : DataW H → Nat
  | .lit (.string bytes) => bytes.length + 1
  | .lit _ => 1
  | .nil => 1
  | .ptr d => uptoBulk d + 1
  | .slice elems spare => uptoBulkAll elems + uptoBulkAll spare + 1
  | .agg parts => uptoBulkAll parts + 1
  | .iface _ d => uptoBulk d + 1
  | .map entries => uptoBulkEntries entries + 1
  | .held _ => 1
def uptoBulkAll {H : Type} : List (DataW H) → Nat
  | [] => 0
  | d :: r => uptoBulk d + uptoBulkAll r
def uptoBulkEntries {H : Type} : List (Lit × DataW H) → Nat
  | [] => 0
  | x :: r => uptoBulkEntry x + uptoBulkEntries r
def uptoBulkEntry {H : Type} : Lit × DataW H → Nat
  | (.string bytes, d) => bytes.length + uptoBulk d + 1
  | (_, d) => uptoBulk d + 1
 end
def uptoSmall : (H : Type) → List (DataW H) → Bool := fun _ ds => decide (uptoBulkAll ds ≤ 1048576)
def OpenSpec.upto (s : _root_.Go.ChangeSpec) : _root_.Go.OpenSpec := { _root_.Go.OpenSpec.ofChange s with cond := some uptoSmall }

/-- 'ferialaw08.MomentBack', WHERE WHAT IT READS IS OF BULK AT MOST 1048576: true; the input reads as it did. -/
def momentBackUptoRow : OpenClaim := { program := "ytnoomlakgfdaeaa", sum := "38402e2ebdb7910a46b662f28fac440f625b7f6a7cb66ea14320d46eb1a849e4", func := "feria/ferialaw08.MomentBack", spec := "momentBack", unfollowed := true, recurses := true, apart := false, narrowed := true }
def MomentBackUptoSaid : Prop := momentBackUptoRow.holds Try.pinned (OpenSpec.upto momentBackSpec)

/-- 'ferialaw05.CivilNumbers', WHERE WHAT IT READS IS OF BULK AT MOST 1048576: true; the input reads as it did. -/
def civilNumbersUptoRow : OpenClaim := { program := "ytnoomlakgfdaeaa", sum := "38402e2ebdb7910a46b662f28fac440f625b7f6a7cb66ea14320d46eb1a849e4", func := "feria/ferialaw05.CivilNumbers", spec := "civilNumbers", apart := false, narrowed := true }
def CivilNumbersUptoSaid : Prop := civilNumbersUptoRow.holds Try.pinned (OpenSpec.upto civilNumbersSpec)

/-- 'ferialaw10.UnitWhich', WHERE WHAT IT READS IS OF BULK AT MOST 1048576: true; the input reads as it did. -/
def unitWhichUptoRow : OpenClaim := { program := "ytnoomlakgfdaeaa", sum := "38402e2ebdb7910a46b662f28fac440f625b7f6a7cb66ea14320d46eb1a849e4", func := "feria/ferialaw10.UnitWhich", spec := "unitWhich", apart := false, narrowed := true }
def UnitWhichUptoSaid : Prop := unitWhichUptoRow.holds Try.pinned (OpenSpec.upto unitWhichSpec)

/-- 'ferialaw05.CivilBack', WHERE WHAT IT READS IS OF BULK AT MOST 1048576: true; the input reads as it did. -/
def civilBackUptoRow : OpenClaim := { program := "ytnoomlakgfdaeaa", sum := "38402e2ebdb7910a46b662f28fac440f625b7f6a7cb66ea14320d46eb1a849e4", func := "feria/ferialaw05.CivilBack", spec := "civilBack", apart := false, narrowed := true }
def CivilBackUptoSaid : Prop := civilBackUptoRow.holds Try.pinned (OpenSpec.upto civilBackSpec)

/-- 'ferialaw05.CivilDates', WHERE WHAT IT READS IS OF BULK AT MOST 1048576: true; the input reads as it did. -/
def civilDatesUptoRow : OpenClaim := { program := "ytnoomlakgfdaeaa", sum := "38402e2ebdb7910a46b662f28fac440f625b7f6a7cb66ea14320d46eb1a849e4", func := "feria/ferialaw05.CivilDates", spec := "civilDates", apart := false, narrowed := true }
def CivilDatesUptoSaid : Prop := civilDatesUptoRow.holds Try.pinned (OpenSpec.upto civilDatesSpec)

/-- 'ferialaw05.CivilEra', WHERE WHAT IT READS IS OF BULK AT MOST 1048576: true; the input reads as it did. -/
def civilEraUptoRow : OpenClaim := { program := "ytnoomlakgfdaeaa", sum := "38402e2ebdb7910a46b662f28fac440f625b7f6a7cb66ea14320d46eb1a849e4", func := "feria/ferialaw05.CivilEra", spec := "civilEra", apart := false, narrowed := true }
def CivilEraUptoSaid : Prop := civilEraUptoRow.holds Try.pinned (OpenSpec.upto civilEraSpec)

/-- 'ferialaw08.MomentRises', WHERE WHAT IT READS IS OF BULK AT MOST 1048576: true; the input reads as it did. -/
def momentRisesUptoRow : OpenClaim := { program := "ytnoomlakgfdaeaa", sum := "38402e2ebdb7910a46b662f28fac440f625b7f6a7cb66ea14320d46eb1a849e4", func := "feria/ferialaw08.MomentRises", spec := "momentRises", unfollowed := true, recurses := true, apart := false, narrowed := true }
def MomentRisesUptoSaid : Prop := momentRisesUptoRow.holds Try.pinned (OpenSpec.upto momentRisesSpec)

/-- 'ferialaw06.WeekDays', WHERE WHAT IT READS IS OF BULK AT MOST 1048576: true; the input reads as it did. -/
def weekDaysUptoRow : OpenClaim := { program := "ytnoomlakgfdaeaa", sum := "38402e2ebdb7910a46b662f28fac440f625b7f6a7cb66ea14320d46eb1a849e4", func := "feria/ferialaw06.WeekDays", spec := "weekDays", apart := false, narrowed := true }
def WeekDaysUptoSaid : Prop := weekDaysUptoRow.holds Try.pinned (OpenSpec.upto weekDaysSpec)

/-- 'ferialaw06.WeekOn', WHERE WHAT IT READS IS OF BULK AT MOST 1048576: true; the input reads as it did. -/
def weekOnUptoRow : OpenClaim := { program := "ytnoomlakgfdaeaa", sum := "38402e2ebdb7910a46b662f28fac440f625b7f6a7cb66ea14320d46eb1a849e4", func := "feria/ferialaw06.WeekOn", spec := "weekOn", apart := false, narrowed := true }
def WeekOnUptoSaid : Prop := weekOnUptoRow.holds Try.pinned (OpenSpec.upto weekOnSpec)

/-- 'ferialaw06.WeekFar', WHERE WHAT IT READS IS OF BULK AT MOST 1048576: true; the input reads as it did. -/
def weekFarUptoRow : OpenClaim := { program := "ytnoomlakgfdaeaa", sum := "38402e2ebdb7910a46b662f28fac440f625b7f6a7cb66ea14320d46eb1a849e4", func := "feria/ferialaw06.WeekFar", spec := "weekFar", apart := false, narrowed := true }
def WeekFarUptoSaid : Prop := weekFarUptoRow.holds Try.pinned (OpenSpec.upto weekFarSpec)

/-- 'ferialaw08.MomentSplits', WHERE WHAT IT READS IS OF BULK AT MOST 1048576: true; the input reads as it did. -/
def momentSplitsUptoRow : OpenClaim := { program := "ytnoomlakgfdaeaa", sum := "38402e2ebdb7910a46b662f28fac440f625b7f6a7cb66ea14320d46eb1a849e4", func := "feria/ferialaw08.MomentSplits", spec := "momentSplits", unfollowed := true, recurses := true, apart := false, narrowed := true }
def MomentSplitsUptoSaid : Prop := momentSplitsUptoRow.holds Try.pinned (OpenSpec.upto momentSplitsSpec)

/-- 'ferialaw06.WeekShapes', WHERE WHAT IT READS IS OF BULK AT MOST 1048576: true; the input reads as it did. -/
def weekShapesUptoRow : OpenClaim := { program := "ytnoomlakgfdaeaa", sum := "38402e2ebdb7910a46b662f28fac440f625b7f6a7cb66ea14320d46eb1a849e4", func := "feria/ferialaw06.WeekShapes", spec := "weekShapes", unfollowed := true, recurses := true, apart := false, narrowed := true }
def WeekShapesUptoSaid : Prop := weekShapesUptoRow.holds Try.pinned (OpenSpec.upto weekShapesSpec)

/-- 'ferialaw06.WeekNames', WHERE WHAT IT READS IS OF BULK AT MOST 1048576: true; the input reads as it did. -/
def weekNamesUptoRow : OpenClaim := { program := "ytnoomlakgfdaeaa", sum := "38402e2ebdb7910a46b662f28fac440f625b7f6a7cb66ea14320d46eb1a849e4", func := "feria/ferialaw06.WeekNames", spec := "weekNames", apart := false, narrowed := true }
def WeekNamesUptoSaid : Prop := weekNamesUptoRow.holds Try.pinned (OpenSpec.upto weekNamesSpec)

/-- 'ferialaw08.MomentStamps', WHERE WHAT IT READS IS OF BULK AT MOST 1048576: true; the input reads as it did. -/
def momentStampsUptoRow : OpenClaim := { program := "ytnoomlakgfdaeaa", sum := "38402e2ebdb7910a46b662f28fac440f625b7f6a7cb66ea14320d46eb1a849e4", func := "feria/ferialaw08.MomentStamps", spec := "momentStamps", unfollowed := true, recurses := true, apart := false, narrowed := true }
def MomentStampsUptoSaid : Prop := momentStampsUptoRow.holds Try.pinned (OpenSpec.upto momentStampsSpec)

/-- 'ferialaw10.UnitPhases', WHERE WHAT IT READS IS OF BULK AT MOST 1048576: true; the input reads as it did. -/
def unitPhasesUptoRow : OpenClaim := { program := "ytnoomlakgfdaeaa", sum := "38402e2ebdb7910a46b662f28fac440f625b7f6a7cb66ea14320d46eb1a849e4", func := "feria/ferialaw10.UnitPhases", spec := "unitPhases", apart := false, narrowed := true }
def UnitPhasesUptoSaid : Prop := unitPhasesUptoRow.holds Try.pinned (OpenSpec.upto unitPhasesSpec)

/-- 'ferialaw08.MomentReads', WHERE WHAT IT READS IS OF BULK AT MOST 1048576: true; the input reads as it did. -/
def momentReadsUptoRow : OpenClaim := { program := "ytnoomlakgfdaeaa", sum := "38402e2ebdb7910a46b662f28fac440f625b7f6a7cb66ea14320d46eb1a849e4", func := "feria/ferialaw08.MomentReads", spec := "momentReads", unfollowed := true, recurses := true, apart := false, narrowed := true }
def MomentReadsUptoSaid : Prop := momentReadsUptoRow.holds Try.pinned (OpenSpec.upto momentReadsSpec)

end Rows
end Go.Proofs.Ytnoomlakgfdaeaa
