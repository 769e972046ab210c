/-
  No cell of these rows narrows 'for every input' (looked for: loops, veiled, ifaces, maps, wideKeys, modest, calm, conditions, laid).
  DERIVED. THE GIVEN ROWS OF THIS SEAT. 10 by the template 'for every input the law returns true; each argument reads behind the call as it read before'; 0 by the template 'total and deterministic' (their statements: YticloblhdjnjkaaTotals.lean).
  GIVEN WITH THE SEED: the statements are not yours to turn. If you find one false, say at which input.
  Laid BY PROGRAM, IN A SANDBOX (cutbox-rows.mjs): the forced cells as the released guide's own fill.sh prints them over the translation 3059407b90abdd40… (all of the seat's roots in one cut). By AI agents, Wed Nov 11 2026. No macro, syntax, notation, axiom, sorry.
-/
import Derived.Test.YticloblhdjnjkaaChecked
import GoSem.Claim
import GoSem.ClaimJoined
import GoSem.ClaimMapViews
import Derived.JoinedTies
import Derived.KernelRfl
namespace Go.Proofs.Yticloblhdjnjkaa
/- THE CELL 'sum', in the pinned program and in every row, IS THE sha256 OF THE DUMP (.gsa) THAT YticloblhdjnjkaaProg.lean LOADS. Nothing in Lean hashes anything: it is a label: what it is worth is what the hold of that sum in a sandbox is worth. -/
noncomputable def Try.pinned : Pinned := { name := "yticloblhdjnjkaa", sum := "3059407b90abdd40e92c2aaf249df00cd8a542b363f4f16b5185d033a004a2bd", checked := Try.checked }
namespace Rows
def none {H : Type} : Left H := { results := [], args := [] }

/-- 'ferialaw01.NumBack': WHATEVER THE INPUT: true; the input reads as it did. -/
def numBackSpec : ChangeSpec := { name := "numBack", fn := fun _ => fun
  | [d1, d2] => { results := [.lit (.bool true)], args := [d1, d2] }
  | _ => none }
def numBackRow : OpenClaim := { program := "yticloblhdjnjkaa", sum := "3059407b90abdd40e92c2aaf249df00cd8a542b363f4f16b5185d033a004a2bd", func := "feria/ferialaw01.NumBack", spec := "numBack", apart := false }
def NumBackSaid : Prop := numBackRow.holds Try.pinned (OpenSpec.ofChange numBackSpec)

/-- ITS FALSE NEIGHBOUR: 'it returns false'. Refute it at one input. -/
def numBackWrong : ChangeSpec := { name := "numBack", fn := fun _ => fun
  | [d1, d2] => { results := [.lit (.bool false)], args := [d1, d2] }
  | _ => none }
def NumBackWrongFalsely : Prop := numBackRow.holds Try.pinned (OpenSpec.ofChange numBackWrong)

/-- 'ferialaw01.NumDivides': WHATEVER THE INPUT: true; the input reads as it did. -/
def numDividesSpec : ChangeSpec := { name := "numDivides", fn := fun _ => fun
  | [d1, d2, d3] => { results := [.lit (.bool true)], args := [d1, d2, d3] }
  | _ => none }
def numDividesRow : OpenClaim := { program := "yticloblhdjnjkaa", sum := "3059407b90abdd40e92c2aaf249df00cd8a542b363f4f16b5185d033a004a2bd", func := "feria/ferialaw01.NumDivides", spec := "numDivides", apart := false }
def NumDividesSaid : Prop := numDividesRow.holds Try.pinned (OpenSpec.ofChange numDividesSpec)

/-- ITS FALSE NEIGHBOUR: 'it returns false'. Refute it at one input. -/
def numDividesWrong : ChangeSpec := { name := "numDivides", fn := fun _ => fun
  | [d1, d2, d3] => { results := [.lit (.bool false)], args := [d1, d2, d3] }
  | _ => none }
def NumDividesWrongFalsely : Prop := numDividesRow.holds Try.pinned (OpenSpec.ofChange numDividesWrong)

/-- 'ferialaw09.SpanMeets': WHATEVER THE INPUT: true; the input reads as it did. -/
def spanMeetsSpec : ChangeSpec := { name := "spanMeets", fn := fun _ => fun
  | [d1, d2] => { results := [.lit (.bool true)], args := [d1, d2] }
  | _ => none }
def spanMeetsRow : OpenClaim := { program := "yticloblhdjnjkaa", sum := "3059407b90abdd40e92c2aaf249df00cd8a542b363f4f16b5185d033a004a2bd", func := "feria/ferialaw09.SpanMeets", spec := "spanMeets", apart := false }
def SpanMeetsSaid : Prop := spanMeetsRow.holds Try.pinned (OpenSpec.ofChange spanMeetsSpec)

/-- ITS FALSE NEIGHBOUR: 'it returns false'. Refute it at one input. -/
def spanMeetsWrong : ChangeSpec := { name := "spanMeets", fn := fun _ => fun
  | [d1, d2] => { results := [.lit (.bool false)], args := [d1, d2] }
  | _ => none }
def SpanMeetsWrongFalsely : Prop := spanMeetsRow.holds Try.pinned (OpenSpec.ofChange spanMeetsWrong)

/-- 'ferialaw01.NumParts': WHATEVER THE INPUT: true; the input reads as it did. -/
def numPartsSpec : ChangeSpec := { name := "numParts", fn := fun _ => fun
  | [d1, d2, d3] => { results := [.lit (.bool true)], args := [d1, d2, d3] }
  | _ => none }
def numPartsRow : OpenClaim := { program := "yticloblhdjnjkaa", sum := "3059407b90abdd40e92c2aaf249df00cd8a542b363f4f16b5185d033a004a2bd", func := "feria/ferialaw01.NumParts", spec := "numParts", apart := false }
def NumPartsSaid : Prop := numPartsRow.holds Try.pinned (OpenSpec.ofChange numPartsSpec)

/-- ITS FALSE NEIGHBOUR: 'it returns false'. Refute it at one input. -/
def numPartsWrong : ChangeSpec := { name := "numParts", fn := fun _ => fun
  | [d1, d2, d3] => { results := [.lit (.bool false)], args := [d1, d2, d3] }
  | _ => none }
def NumPartsWrongFalsely : Prop := numPartsRow.holds Try.pinned (OpenSpec.ofChange numPartsWrong)

/-- 'ferialaw09.SpanTells': WHATEVER THE INPUT: true; the input reads as it did. -/
def spanTellsSpec : ChangeSpec := { name := "spanTells", fn := fun _ => fun
  | [d1, d2] => { results := [.lit (.bool true)], args := [d1, d2] }
  | _ => none }
def spanTellsRow : OpenClaim := { program := "yticloblhdjnjkaa", sum := "3059407b90abdd40e92c2aaf249df00cd8a542b363f4f16b5185d033a004a2bd", func := "feria/ferialaw09.SpanTells", spec := "spanTells", apart := false }
def SpanTellsSaid : Prop := spanTellsRow.holds Try.pinned (OpenSpec.ofChange spanTellsSpec)

/-- ITS FALSE NEIGHBOUR: 'it returns false'. Refute it at one input. -/
def spanTellsWrong : ChangeSpec := { name := "spanTells", fn := fun _ => fun
  | [d1, d2] => { results := [.lit (.bool false)], args := [d1, d2] }
  | _ => none }
def SpanTellsWrongFalsely : Prop := spanTellsRow.holds Try.pinned (OpenSpec.ofChange spanTellsWrong)

/-- 'ferialaw01.NumAll': WHATEVER THE INPUT: true; the input reads as it did. -/
def numAllSpec : ChangeSpec := { name := "numAll", fn := fun _ => fun
  | [d] => { results := [.lit (.bool true)], args := [d] }
  | _ => none }
def numAllRow : OpenClaim := { program := "yticloblhdjnjkaa", sum := "3059407b90abdd40e92c2aaf249df00cd8a542b363f4f16b5185d033a004a2bd", func := "feria/ferialaw01.NumAll", spec := "numAll", unfollowed := true, recurses := true, apart := false }
def NumAllSaid : Prop := numAllRow.holds Try.pinned (OpenSpec.ofChange numAllSpec)

/-- ITS FALSE NEIGHBOUR: 'it returns false'. Refute it at one input. -/
def numAllWrong : ChangeSpec := { name := "numAll", fn := fun _ => fun
  | [d] => { results := [.lit (.bool false)], args := [d] }
  | _ => none }
def NumAllWrongFalsely : Prop := numAllRow.holds Try.pinned (OpenSpec.ofChange numAllWrong)

/-- 'ferialaw01.NumTimes': WHATEVER THE INPUT: true; the input reads as it did. -/
def numTimesSpec : ChangeSpec := { name := "numTimes", fn := fun _ => fun
  | [d1, d2] => { results := [.lit (.bool true)], args := [d1, d2] }
  | _ => none }
def numTimesRow : OpenClaim := { program := "yticloblhdjnjkaa", sum := "3059407b90abdd40e92c2aaf249df00cd8a542b363f4f16b5185d033a004a2bd", func := "feria/ferialaw01.NumTimes", spec := "numTimes", apart := false }
def NumTimesSaid : Prop := numTimesRow.holds Try.pinned (OpenSpec.ofChange numTimesSpec)

/-- ITS FALSE NEIGHBOUR: 'it returns false'. Refute it at one input. -/
def numTimesWrong : ChangeSpec := { name := "numTimes", fn := fun _ => fun
  | [d1, d2] => { results := [.lit (.bool false)], args := [d1, d2] }
  | _ => none }
def NumTimesWrongFalsely : Prop := numTimesRow.holds Try.pinned (OpenSpec.ofChange numTimesWrong)

/-- 'ferialaw28.CalChecks': WHATEVER THE INPUT: true; the input reads as it did. -/
def calChecksSpec : ChangeSpec := { name := "calChecks", fn := fun _ => fun
  | [d] => { results := [.lit (.bool true)], args := [d] }
  | _ => none }
def calChecksRow : OpenClaim := { program := "yticloblhdjnjkaa", sum := "3059407b90abdd40e92c2aaf249df00cd8a542b363f4f16b5185d033a004a2bd", func := "feria/ferialaw28.CalChecks", spec := "calChecks", unfollowed := true, recurses := true, apart := false }
def CalChecksSaid : Prop := calChecksRow.holds Try.pinned (OpenSpec.ofChange calChecksSpec)

/-- ITS FALSE NEIGHBOUR: 'it returns false'. Refute it at one input. -/
def calChecksWrong : ChangeSpec := { name := "calChecks", fn := fun _ => fun
  | [d] => { results := [.lit (.bool false)], args := [d] }
  | _ => none }
def CalChecksWrongFalsely : Prop := calChecksRow.holds Try.pinned (OpenSpec.ofChange calChecksWrong)

/-- 'ferialaw28.CalEach': WHATEVER THE INPUT: true; the input reads as it did. -/
def calEachSpec : ChangeSpec := { name := "calEach", fn := fun _ => fun
  | [d1, d2, d3] => { results := [.lit (.bool true)], args := [d1, d2, d3] }
  | _ => none }
def calEachRow : OpenClaim := { program := "yticloblhdjnjkaa", sum := "3059407b90abdd40e92c2aaf249df00cd8a542b363f4f16b5185d033a004a2bd", func := "feria/ferialaw28.CalEach", spec := "calEach", unfollowed := true, recurses := true, apart := false }
def CalEachSaid : Prop := calEachRow.holds Try.pinned (OpenSpec.ofChange calEachSpec)

/-- ITS FALSE NEIGHBOUR: 'it returns false'. Refute it at one input. -/
def calEachWrong : ChangeSpec := { name := "calEach", fn := fun _ => fun
  | [d1, d2, d3] => { results := [.lit (.bool false)], args := [d1, d2, d3] }
  | _ => none }
def CalEachWrongFalsely : Prop := calEachRow.holds Try.pinned (OpenSpec.ofChange calEachWrong)

/-- 'ferialaw28.CalFields': WHATEVER THE INPUT: true; the input reads as it did. -/
def calFieldsSpec : ChangeSpec := { name := "calFields", fn := fun _ => fun
  | [d1, d2, d3] => { results := [.lit (.bool true)], args := [d1, d2, d3] }
  | _ => none }
def calFieldsRow : OpenClaim := { program := "yticloblhdjnjkaa", sum := "3059407b90abdd40e92c2aaf249df00cd8a542b363f4f16b5185d033a004a2bd", func := "feria/ferialaw28.CalFields", spec := "calFields", unfollowed := true, recurses := true, apart := false }
def CalFieldsSaid : Prop := calFieldsRow.holds Try.pinned (OpenSpec.ofChange calFieldsSpec)

/-- ITS FALSE NEIGHBOUR: 'it returns false'. Refute it at one input. -/
def calFieldsWrong : ChangeSpec := { name := "calFields", fn := fun _ => fun
  | [d1, d2, d3] => { results := [.lit (.bool false)], args := [d1, d2, d3] }
  | _ => none }
def CalFieldsWrongFalsely : Prop := calFieldsRow.holds Try.pinned (OpenSpec.ofChange calFieldsWrong)

/- THE SECOND FORM. 'bulk': how many values and letters a reading holds, each counted each time it is reached (what is shared counts as often as it is met; a slice's spare places count too). A statement '..UptoSaid' is the law's where the arguments, and the package variables that the reading takes, are together of bulk at most 1048576: NARROWER than '..Said'. Prove '..Said' where nothing that the law and all that it calls make is longer than what came in: it says more and counts as full. Else prove '..UptoSaid'. A law counts once. -/
mutual
def uptoBulk {H : Type} : DataW H → Nat
  | .lit (.string bytes) => bytes.length + 1
  | .lit _ => 1
  | .nil => 1
  | .ptr d => uptoBulk d + 1
  | .slice elems spare => uptoBulkAll elems + uptoBulkAll spare + 1
  | .agg parts => uptoBulkAll parts + 1
  | .iface _ d => uptoBulk d + 1
  | .map entries => uptoBulkEntries entries + 1
  | .held _ => 1
def uptoBulkAll {H : Type} : List (DataW H) → Nat
  | [] => 0
  | d :: r => uptoBulk d + uptoBulkAll r
def uptoBulkEntries {H : Type} : List (Lit × DataW H) → Nat
  | [] => 0
  | x :: r => uptoBulkEntry x + uptoBulkEntries r
def uptoBulkEntry {H : Type} : Lit × DataW H → Nat
  | (.string bytes, d) => bytes.length + uptoBulk d + 1
  | (_, d) => uptoBulk d + 1
 end
def uptoSmall : (H : Type) → List (DataW H) → Bool := fun _ ds => decide (uptoBulkAll ds ≤ 1048576)
def OpenSpec.upto (s : _root_.Go.ChangeSpec) : _root_.Go.OpenSpec := { _root_.Go.OpenSpec.ofChange s with cond := some uptoSmall }

/-- 'ferialaw01.NumBack', WHERE WHAT IT READS IS OF BULK AT MOST 1048576: true; the input reads as it did. -/
def numBackUptoRow : OpenClaim := { program := "yticloblhdjnjkaa", sum := "3059407b90abdd40e92c2aaf249df00cd8a542b363f4f16b5185d033a004a2bd", func := "feria/ferialaw01.NumBack", spec := "numBack", apart := false, narrowed := true }
def NumBackUptoSaid : Prop := numBackUptoRow.holds Try.pinned (OpenSpec.upto numBackSpec)

/-- 'ferialaw01.NumDivides', WHERE WHAT IT READS IS OF BULK AT MOST 1048576: true; the input reads as it did. -/
def numDividesUptoRow : OpenClaim := { program := "yticloblhdjnjkaa", sum := "3059407b90abdd40e92c2aaf249df00cd8a542b363f4f16b5185d033a004a2bd", func := "feria/ferialaw01.NumDivides", spec := "numDivides", apart := false, narrowed := true }
def NumDividesUptoSaid : Prop := numDividesUptoRow.holds Try.pinned (OpenSpec.upto numDividesSpec)

/-- 'ferialaw09.SpanMeets', WHERE WHAT IT READS IS OF BULK AT MOST 1048576: true; the input reads as it did. -/
def spanMeetsUptoRow : OpenClaim := { program := "yticloblhdjnjkaa", sum := "3059407b90abdd40e92c2aaf249df00cd8a542b363f4f16b5185d033a004a2bd", func := "feria/ferialaw09.SpanMeets", spec := "spanMeets", apart := false, narrowed := true }
def SpanMeetsUptoSaid : Prop := spanMeetsUptoRow.holds Try.pinned (OpenSpec.upto spanMeetsSpec)

/-- 'ferialaw01.NumParts', WHERE WHAT IT READS IS OF BULK AT MOST 1048576: true; the input reads as it did. -/
def numPartsUptoRow : OpenClaim := { program := "yticloblhdjnjkaa", sum := "3059407b90abdd40e92c2aaf249df00cd8a542b363f4f16b5185d033a004a2bd", func := "feria/ferialaw01.NumParts", spec := "numParts", apart := false, narrowed := true }
def NumPartsUptoSaid : Prop := numPartsUptoRow.holds Try.pinned (OpenSpec.upto numPartsSpec)

/-- 'ferialaw09.SpanTells', WHERE WHAT IT READS IS OF BULK AT MOST 1048576: true; the input reads as it did. -/
def spanTellsUptoRow : OpenClaim := { program := "yticloblhdjnjkaa", sum := "3059407b90abdd40e92c2aaf249df00cd8a542b363f4f16b5185d033a004a2bd", func := "feria/ferialaw09.SpanTells", spec := "spanTells", apart := false, narrowed := true }
def SpanTellsUptoSaid : Prop := spanTellsUptoRow.holds Try.pinned (OpenSpec.upto spanTellsSpec)

/-- 'ferialaw01.NumAll', WHERE WHAT IT READS IS OF BULK AT MOST 1048576: true; the input reads as it did. -/
def numAllUptoRow : OpenClaim := { program := "yticloblhdjnjkaa", sum := "3059407b90abdd40e92c2aaf249df00cd8a542b363f4f16b5185d033a004a2bd", func := "feria/ferialaw01.NumAll", spec := "numAll", unfollowed := true, recurses := true, apart := false, narrowed := true }
def NumAllUptoSaid : Prop := numAllUptoRow.holds Try.pinned (OpenSpec.upto numAllSpec)

/-- 'ferialaw01.NumTimes', WHERE WHAT IT READS IS OF BULK AT MOST 1048576: true; the input reads as it did. -/
def numTimesUptoRow : OpenClaim := { program := "yticloblhdjnjkaa", sum := "3059407b90abdd40e92c2aaf249df00cd8a542b363f4f16b5185d033a004a2bd", func := "feria/ferialaw01.NumTimes", spec := "numTimes", apart := false, narrowed := true }
def NumTimesUptoSaid : Prop := numTimesUptoRow.holds Try.pinned (OpenSpec.upto numTimesSpec)

/-- 'ferialaw28.CalChecks', WHERE WHAT IT READS IS OF BULK AT MOST 1048576: true; the input reads as it did. -/
def calChecksUptoRow : OpenClaim := { program := "yticloblhdjnjkaa", sum := "3059407b90abdd40e92c2aaf249df00cd8a542b363f4f16b5185d033a004a2bd", func := "feria/ferialaw28.CalChecks", spec := "calChecks", unfollowed := true, recurses := true, apart := false, narrowed := true }
def CalChecksUptoSaid : Prop := calChecksUptoRow.holds Try.pinned (OpenSpec.upto calChecksSpec)

/-- 'ferialaw28.CalEach', WHERE WHAT IT READS IS OF BULK AT MOST 1048576: true; the input reads as it did. -/
def calEachUptoRow : OpenClaim := { program := "yticloblhdjnjkaa", sum := "3059407b90abdd40e92c2aaf249df00cd8a542b363f4f16b5185d033a004a2bd", func := "feria/ferialaw28.CalEach", spec := "calEach", unfollowed := true, recurses := true, apart := false, narrowed := true }
def CalEachUptoSaid : Prop := calEachUptoRow.holds Try.pinned (OpenSpec.upto calEachSpec)

/-- 'ferialaw28.CalFields', WHERE WHAT IT READS IS OF BULK AT MOST 1048576: true; the input reads as it did. -/
def calFieldsUptoRow : OpenClaim := { program := "yticloblhdjnjkaa", sum := "3059407b90abdd40e92c2aaf249df00cd8a542b363f4f16b5185d033a004a2bd", func := "feria/ferialaw28.CalFields", spec := "calFields", unfollowed := true, recurses := true, apart := false, narrowed := true }
def CalFieldsUptoSaid : Prop := calFieldsUptoRow.holds Try.pinned (OpenSpec.upto calFieldsSpec)

end Rows
end Go.Proofs.Yticloblhdjnjkaa
