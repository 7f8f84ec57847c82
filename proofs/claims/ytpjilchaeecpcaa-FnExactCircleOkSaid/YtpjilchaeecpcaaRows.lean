/-
  No cell of these rows narrows 'for every input' (looked for: loops, veiled, ifaces, maps, wideKeys, modest, calm, conditions, laid).
  DERIVED. THE GIVEN ROWS OF THIS SEAT. 12 by the template 'for every input the law returns true; each argument reads behind the call as it read before'; 0 by the template 'total and deterministic' (their statements: YtpjilchaeecpcaaTotals.lean).
  GIVEN WITH THE SEED: the statements are not yours to turn. If you find one false, say at which input.
  Laid BY PROGRAM, IN A SANDBOX (cutbox-rows.mjs): the forced cells as the released guide's own fill.sh prints them over the translation 114df2539debe8b1… (all of the seat's roots in one cut). By AI agents, Wed Nov 11 2026. No macro, syntax, notation, axiom, sorry.
-/
import Derived.Test.YtpjilchaeecpcaaChecked
import GoSem.Claim
import GoSem.ClaimJoined
import GoSem.ClaimMapViews
import Derived.JoinedTies
import Derived.KernelRfl
namespace Go.Proofs.Ytpjilchaeecpcaa
/- THE CELL 'sum', in the pinned program and in every row, IS THE sha256 OF THE DUMP (.gsa) THAT YtpjilchaeecpcaaProg.lean LOADS. Nothing in Lean hashes anything: it is a label: what it is worth is what the hold of that sum in a sandbox is worth. -/
noncomputable def Try.pinned : Pinned := { name := "ytpjilchaeecpcaa", sum := "114df2539debe8b13ee83897fb1877623c4c97fe13d0e85ff078f12086ae03bf", checked := Try.checked }
namespace Rows
def none {H : Type} : Left H := { results := [], args := [] }

/-- 'laws.FnExactMapOk': WHATEVER THE INPUT: true; the input reads as it did. -/
def fnExactMapOkSpec : ChangeSpec := { name := "fnExactMapOk", fn := fun _ => fun
  | [d] => { results := [.lit (.bool true)], args := [d] }
  | _ => none }
def fnExactMapOkRow : OpenClaim := { program := "ytpjilchaeecpcaa", sum := "114df2539debe8b13ee83897fb1877623c4c97fe13d0e85ff078f12086ae03bf", func := "loop.example/g00989/laws.FnExactMapOk", spec := "fnExactMapOk", apart := false }
def FnExactMapOkSaid : Prop := fnExactMapOkRow.holds Try.pinned (OpenSpec.ofChange fnExactMapOkSpec)

/-- ITS FALSE NEIGHBOUR: 'it returns false'. Refute it at one input. -/
def fnExactMapOkWrong : ChangeSpec := { name := "fnExactMapOk", fn := fun _ => fun
  | [d] => { results := [.lit (.bool false)], args := [d] }
  | _ => none }
def FnExactMapOkWrongFalsely : Prop := fnExactMapOkRow.holds Try.pinned (OpenSpec.ofChange fnExactMapOkWrong)

/-- 'laws.FnExactAddMaps': WHATEVER THE INPUT: true; the input reads as it did. -/
def fnExactAddMapsSpec : ChangeSpec := { name := "fnExactAddMaps", fn := fun _ => fun
  | [d1, d2] => { results := [.lit (.bool true)], args := [d1, d2] }
  | _ => none }
def fnExactAddMapsRow : OpenClaim := { program := "ytpjilchaeecpcaa", sum := "114df2539debe8b13ee83897fb1877623c4c97fe13d0e85ff078f12086ae03bf", func := "loop.example/g00989/laws.FnExactAddMaps", spec := "fnExactAddMaps", apart := false }
def FnExactAddMapsSaid : Prop := fnExactAddMapsRow.holds Try.pinned (OpenSpec.ofChange fnExactAddMapsSpec)

/-- ITS FALSE NEIGHBOUR: 'it returns false'. Refute it at one input. -/
def fnExactAddMapsWrong : ChangeSpec := { name := "fnExactAddMaps", fn := fun _ => fun
  | [d1, d2] => { results := [.lit (.bool false)], args := [d1, d2] }
  | _ => none }
def FnExactAddMapsWrongFalsely : Prop := fnExactAddMapsRow.holds Try.pinned (OpenSpec.ofChange fnExactAddMapsWrong)

/-- 'laws.FnExactStepsIn': WHATEVER THE INPUT: true; the input reads as it did. -/
def fnExactStepsInSpec : ChangeSpec := { name := "fnExactStepsIn", fn := fun _ => fun
  | [d1, d2] => { results := [.lit (.bool true)], args := [d1, d2] }
  | _ => none }
def fnExactStepsInRow : OpenClaim := { program := "ytpjilchaeecpcaa", sum := "114df2539debe8b13ee83897fb1877623c4c97fe13d0e85ff078f12086ae03bf", func := "loop.example/g00989/laws.FnExactStepsIn", spec := "fnExactStepsIn", apart := false }
def FnExactStepsInSaid : Prop := fnExactStepsInRow.holds Try.pinned (OpenSpec.ofChange fnExactStepsInSpec)

/-- ITS FALSE NEIGHBOUR: 'it returns false'. Refute it at one input. -/
def fnExactStepsInWrong : ChangeSpec := { name := "fnExactStepsIn", fn := fun _ => fun
  | [d1, d2] => { results := [.lit (.bool false)], args := [d1, d2] }
  | _ => none }
def FnExactStepsInWrongFalsely : Prop := fnExactStepsInRow.holds Try.pinned (OpenSpec.ofChange fnExactStepsInWrong)

/-- 'laws.FnExactStepSize': WHATEVER THE INPUT: true; the input reads as it did. -/
def fnExactStepSizeSpec : ChangeSpec := { name := "fnExactStepSize", fn := fun _ => fun
  | [d] => { results := [.lit (.bool true)], args := [d] }
  | _ => none }
def fnExactStepSizeRow : OpenClaim := { program := "ytpjilchaeecpcaa", sum := "114df2539debe8b13ee83897fb1877623c4c97fe13d0e85ff078f12086ae03bf", func := "loop.example/g00989/laws.FnExactStepSize", spec := "fnExactStepSize", apart := false }
def FnExactStepSizeSaid : Prop := fnExactStepSizeRow.holds Try.pinned (OpenSpec.ofChange fnExactStepSizeSpec)

/-- ITS FALSE NEIGHBOUR: 'it returns false'. Refute it at one input. -/
def fnExactStepSizeWrong : ChangeSpec := { name := "fnExactStepSize", fn := fun _ => fun
  | [d] => { results := [.lit (.bool false)], args := [d] }
  | _ => none }
def FnExactStepSizeWrongFalsely : Prop := fnExactStepSizeRow.holds Try.pinned (OpenSpec.ofChange fnExactStepSizeWrong)

/-- 'laws.FnExactSplitComma': WHATEVER THE INPUT: true; the input reads as it did. -/
def fnExactSplitCommaSpec : ChangeSpec := { name := "fnExactSplitComma", fn := fun _ => fun
  | [d] => { results := [.lit (.bool true)], args := [d] }
  | _ => none }
def fnExactSplitCommaRow : OpenClaim := { program := "ytpjilchaeecpcaa", sum := "114df2539debe8b13ee83897fb1877623c4c97fe13d0e85ff078f12086ae03bf", func := "loop.example/g00989/laws.FnExactSplitComma", spec := "fnExactSplitComma", apart := false }
def FnExactSplitCommaSaid : Prop := fnExactSplitCommaRow.holds Try.pinned (OpenSpec.ofChange fnExactSplitCommaSpec)

/-- ITS FALSE NEIGHBOUR: 'it returns false'. Refute it at one input. -/
def fnExactSplitCommaWrong : ChangeSpec := { name := "fnExactSplitComma", fn := fun _ => fun
  | [d] => { results := [.lit (.bool false)], args := [d] }
  | _ => none }
def FnExactSplitCommaWrongFalsely : Prop := fnExactSplitCommaRow.holds Try.pinned (OpenSpec.ofChange fnExactSplitCommaWrong)

/-- 'laws.FnExactEqualCircle': WHATEVER THE INPUT: true; the input reads as it did. -/
def fnExactEqualCircleSpec : ChangeSpec := { name := "fnExactEqualCircle", fn := fun _ => fun
  | [] => { results := [.lit (.bool true)], args := [] }
  | _ => none }
def fnExactEqualCircleRow : OpenClaim := { program := "ytpjilchaeecpcaa", sum := "114df2539debe8b13ee83897fb1877623c4c97fe13d0e85ff078f12086ae03bf", func := "loop.example/g00989/laws.FnExactEqualCircle", spec := "fnExactEqualCircle", apart := false }
def FnExactEqualCircleSaid : Prop := fnExactEqualCircleRow.holds Try.pinned (OpenSpec.ofChange fnExactEqualCircleSpec)

/-- ITS FALSE NEIGHBOUR: 'it returns false'. Refute it at one input. -/
def fnExactEqualCircleWrong : ChangeSpec := { name := "fnExactEqualCircle", fn := fun _ => fun
  | [] => { results := [.lit (.bool false)], args := [] }
  | _ => none }
def FnExactEqualCircleWrongFalsely : Prop := fnExactEqualCircleRow.holds Try.pinned (OpenSpec.ofChange fnExactEqualCircleWrong)

/-- 'laws.FnHeard': WHATEVER THE INPUT: true; the input reads as it did. -/
def fnHeardSpec : ChangeSpec := { name := "fnHeard", fn := fun _ => fun
  | [d] => { results := [.lit (.bool true)], args := [d] }
  | _ => none }
def fnHeardRow : OpenClaim := { program := "ytpjilchaeecpcaa", sum := "114df2539debe8b13ee83897fb1877623c4c97fe13d0e85ff078f12086ae03bf", func := "loop.example/g00989/laws.FnHeard", spec := "fnHeard", recurses := true, apart := false }
def FnHeardSaid : Prop := fnHeardRow.holds Try.pinned (OpenSpec.ofChange fnHeardSpec)

/-- ITS FALSE NEIGHBOUR: 'it returns false'. Refute it at one input. -/
def fnHeardWrong : ChangeSpec := { name := "fnHeard", fn := fun _ => fun
  | [d] => { results := [.lit (.bool false)], args := [d] }
  | _ => none }
def FnHeardWrongFalsely : Prop := fnHeardRow.holds Try.pinned (OpenSpec.ofChange fnHeardWrong)

/-- 'laws.FnExactHides': WHATEVER THE INPUT: true; the input reads as it did. -/
def fnExactHidesSpec : ChangeSpec := { name := "fnExactHides", fn := fun _ => fun
  | [d1, d2] => { results := [.lit (.bool true)], args := [d1, d2] }
  | _ => none }
def fnExactHidesRow : OpenClaim := { program := "ytpjilchaeecpcaa", sum := "114df2539debe8b13ee83897fb1877623c4c97fe13d0e85ff078f12086ae03bf", func := "loop.example/g00989/laws.FnExactHides", spec := "fnExactHides", apart := false }
def FnExactHidesSaid : Prop := fnExactHidesRow.holds Try.pinned (OpenSpec.ofChange fnExactHidesSpec)

/-- ITS FALSE NEIGHBOUR: 'it returns false'. Refute it at one input. -/
def fnExactHidesWrong : ChangeSpec := { name := "fnExactHides", fn := fun _ => fun
  | [d1, d2] => { results := [.lit (.bool false)], args := [d1, d2] }
  | _ => none }
def FnExactHidesWrongFalsely : Prop := fnExactHidesRow.holds Try.pinned (OpenSpec.ofChange fnExactHidesWrong)

/-- 'laws.FnFamilies': WHATEVER THE INPUT: true; the input reads as it did. -/
def fnFamiliesSpec : ChangeSpec := { name := "fnFamilies", fn := fun _ => fun
  | [d] => { results := [.lit (.bool true)], args := [d] }
  | _ => none }
def fnFamiliesRow : OpenClaim := { program := "ytpjilchaeecpcaa", sum := "114df2539debe8b13ee83897fb1877623c4c97fe13d0e85ff078f12086ae03bf", func := "loop.example/g00989/laws.FnFamilies", spec := "fnFamilies", recurses := true, apart := false }
def FnFamiliesSaid : Prop := fnFamiliesRow.holds Try.pinned (OpenSpec.ofChange fnFamiliesSpec)

/-- ITS FALSE NEIGHBOUR: 'it returns false'. Refute it at one input. -/
def fnFamiliesWrong : ChangeSpec := { name := "fnFamilies", fn := fun _ => fun
  | [d] => { results := [.lit (.bool false)], args := [d] }
  | _ => none }
def FnFamiliesWrongFalsely : Prop := fnFamiliesRow.holds Try.pinned (OpenSpec.ofChange fnFamiliesWrong)

/-- 'laws.FnExactCircleOk': WHATEVER THE INPUT: true; the input reads as it did. -/
def fnExactCircleOkSpec : ChangeSpec := { name := "fnExactCircleOk", fn := fun _ => fun
  | [d] => { results := [.lit (.bool true)], args := [d] }
  | _ => none }
def fnExactCircleOkRow : OpenClaim := { program := "ytpjilchaeecpcaa", sum := "114df2539debe8b13ee83897fb1877623c4c97fe13d0e85ff078f12086ae03bf", func := "loop.example/g00989/laws.FnExactCircleOk", spec := "fnExactCircleOk", apart := false }
def FnExactCircleOkSaid : Prop := fnExactCircleOkRow.holds Try.pinned (OpenSpec.ofChange fnExactCircleOkSpec)

/-- ITS FALSE NEIGHBOUR: 'it returns false'. Refute it at one input. -/
def fnExactCircleOkWrong : ChangeSpec := { name := "fnExactCircleOk", fn := fun _ => fun
  | [d] => { results := [.lit (.bool false)], args := [d] }
  | _ => none }
def FnExactCircleOkWrongFalsely : Prop := fnExactCircleOkRow.holds Try.pinned (OpenSpec.ofChange fnExactCircleOkWrong)

/-- 'laws.FnExactCommaOf': WHATEVER THE INPUT: true; the input reads as it did. -/
def fnExactCommaOfSpec : ChangeSpec := { name := "fnExactCommaOf", fn := fun _ => fun
  | [d] => { results := [.lit (.bool true)], args := [d] }
  | _ => none }
def fnExactCommaOfRow : OpenClaim := { program := "ytpjilchaeecpcaa", sum := "114df2539debe8b13ee83897fb1877623c4c97fe13d0e85ff078f12086ae03bf", func := "loop.example/g00989/laws.FnExactCommaOf", spec := "fnExactCommaOf", apart := false }
def FnExactCommaOfSaid : Prop := fnExactCommaOfRow.holds Try.pinned (OpenSpec.ofChange fnExactCommaOfSpec)

/-- ITS FALSE NEIGHBOUR: 'it returns false'. Refute it at one input. -/
def fnExactCommaOfWrong : ChangeSpec := { name := "fnExactCommaOf", fn := fun _ => fun
  | [d] => { results := [.lit (.bool false)], args := [d] }
  | _ => none }
def FnExactCommaOfWrongFalsely : Prop := fnExactCommaOfRow.holds Try.pinned (OpenSpec.ofChange fnExactCommaOfWrong)

/-- 'laws.FnExactMeanFifth': WHATEVER THE INPUT: true; the input reads as it did. -/
def fnExactMeanFifthSpec : ChangeSpec := { name := "fnExactMeanFifth", fn := fun _ => fun
  | [d1, d2] => { results := [.lit (.bool true)], args := [d1, d2] }
  | _ => none }
def fnExactMeanFifthRow : OpenClaim := { program := "ytpjilchaeecpcaa", sum := "114df2539debe8b13ee83897fb1877623c4c97fe13d0e85ff078f12086ae03bf", func := "loop.example/g00989/laws.FnExactMeanFifth", spec := "fnExactMeanFifth", apart := false }
def FnExactMeanFifthSaid : Prop := fnExactMeanFifthRow.holds Try.pinned (OpenSpec.ofChange fnExactMeanFifthSpec)

/-- ITS FALSE NEIGHBOUR: 'it returns false'. Refute it at one input. -/
def fnExactMeanFifthWrong : ChangeSpec := { name := "fnExactMeanFifth", fn := fun _ => fun
  | [d1, d2] => { results := [.lit (.bool false)], args := [d1, d2] }
  | _ => none }
def FnExactMeanFifthWrongFalsely : Prop := fnExactMeanFifthRow.holds Try.pinned (OpenSpec.ofChange fnExactMeanFifthWrong)

/- THE SECOND FORM. 'bulk': how many values and letters a reading holds, each counted each time it is reached (what is shared counts as often as it is met; a slice's spare places count too). A statement '..UptoSaid' is the law's where the arguments, and the package variables that the reading takes, are together of bulk at most 1048576: NARROWER than '..Said'. Prove '..Said' where nothing that the law and all that it calls make is longer than what came in: it says more and counts as full. Else prove '..UptoSaid'. A law counts once. -/
mutual
def uptoBulk {H : Type} : DataW H → Nat
  | .lit (.string bytes) => bytes.length + 1
  | .lit _ => 1
  | .nil => 1
  | .ptr d => uptoBulk d + 1
  | .slice elems spare => uptoBulkAll elems + uptoBulkAll spare + 1
  | .agg parts => uptoBulkAll parts + 1
  | .iface _ d => uptoBulk d + 1
  | .map entries => uptoBulkEntries entries + 1
  | .held _ => 1
def uptoBulkAll {H : Type} : List (DataW H) → Nat
  | [] => 0
  | d :: r => uptoBulk d + uptoBulkAll r
def uptoBulkEntries {H : Type} : List (Lit × DataW H) → Nat
  | [] => 0
  | x :: r => uptoBulkEntry x + uptoBulkEntries r
def uptoBulkEntry {H : Type} : Lit × DataW H → Nat
  | (.string bytes, d) => bytes.length + uptoBulk d + 1
  | (_, d) => uptoBulk d + 1
 end
def uptoSmall : (H : Type) → List (DataW H) → Bool := fun _ ds => decide (uptoBulkAll ds ≤ 1048576)
def OpenSpec.upto (s : _root_.Go.ChangeSpec) : _root_.Go.OpenSpec := { _root_.Go.OpenSpec.ofChange s with cond := some uptoSmall }

/-- 'laws.FnExactMapOk', WHERE WHAT IT READS IS OF BULK AT MOST 1048576: true; the input reads as it did. -/
def fnExactMapOkUptoRow : OpenClaim := { program := "ytpjilchaeecpcaa", sum := "114df2539debe8b13ee83897fb1877623c4c97fe13d0e85ff078f12086ae03bf", func := "loop.example/g00989/laws.FnExactMapOk", spec := "fnExactMapOk", apart := false, narrowed := true }
def FnExactMapOkUptoSaid : Prop := fnExactMapOkUptoRow.holds Try.pinned (OpenSpec.upto fnExactMapOkSpec)

/-- 'laws.FnExactAddMaps', WHERE WHAT IT READS IS OF BULK AT MOST 1048576: true; the input reads as it did. -/
def fnExactAddMapsUptoRow : OpenClaim := { program := "ytpjilchaeecpcaa", sum := "114df2539debe8b13ee83897fb1877623c4c97fe13d0e85ff078f12086ae03bf", func := "loop.example/g00989/laws.FnExactAddMaps", spec := "fnExactAddMaps", apart := false, narrowed := true }
def FnExactAddMapsUptoSaid : Prop := fnExactAddMapsUptoRow.holds Try.pinned (OpenSpec.upto fnExactAddMapsSpec)

/-- 'laws.FnExactStepsIn', WHERE WHAT IT READS IS OF BULK AT MOST 1048576: true; the input reads as it did. -/
def fnExactStepsInUptoRow : OpenClaim := { program := "ytpjilchaeecpcaa", sum := "114df2539debe8b13ee83897fb1877623c4c97fe13d0e85ff078f12086ae03bf", func := "loop.example/g00989/laws.FnExactStepsIn", spec := "fnExactStepsIn", apart := false, narrowed := true }
def FnExactStepsInUptoSaid : Prop := fnExactStepsInUptoRow.holds Try.pinned (OpenSpec.upto fnExactStepsInSpec)

/-- 'laws.FnExactStepSize', WHERE WHAT IT READS IS OF BULK AT MOST 1048576: true; the input reads as it did. -/
def fnExactStepSizeUptoRow : OpenClaim := { program := "ytpjilchaeecpcaa", sum := "114df2539debe8b13ee83897fb1877623c4c97fe13d0e85ff078f12086ae03bf", func := "loop.example/g00989/laws.FnExactStepSize", spec := "fnExactStepSize", apart := false, narrowed := true }
def FnExactStepSizeUptoSaid : Prop := fnExactStepSizeUptoRow.holds Try.pinned (OpenSpec.upto fnExactStepSizeSpec)

/-- 'laws.FnExactSplitComma', WHERE WHAT IT READS IS OF BULK AT MOST 1048576: true; the input reads as it did. -/
def fnExactSplitCommaUptoRow : OpenClaim := { program := "ytpjilchaeecpcaa", sum := "114df2539debe8b13ee83897fb1877623c4c97fe13d0e85ff078f12086ae03bf", func := "loop.example/g00989/laws.FnExactSplitComma", spec := "fnExactSplitComma", apart := false, narrowed := true }
def FnExactSplitCommaUptoSaid : Prop := fnExactSplitCommaUptoRow.holds Try.pinned (OpenSpec.upto fnExactSplitCommaSpec)

/-- 'laws.FnExactEqualCircle', WHERE WHAT IT READS IS OF BULK AT MOST 1048576: true; the input reads as it did. -/
def fnExactEqualCircleUptoRow : OpenClaim := { program := "ytpjilchaeecpcaa", sum := "114df2539debe8b13ee83897fb1877623c4c97fe13d0e85ff078f12086ae03bf", func := "loop.example/g00989/laws.FnExactEqualCircle", spec := "fnExactEqualCircle", apart := false, narrowed := true }
def FnExactEqualCircleUptoSaid : Prop := fnExactEqualCircleUptoRow.holds Try.pinned (OpenSpec.upto fnExactEqualCircleSpec)

/-- 'laws.FnHeard', WHERE WHAT IT READS IS OF BULK AT MOST 1048576: true; the input reads as it did. -/
def fnHeardUptoRow : OpenClaim := { program := "ytpjilchaeecpcaa", sum := "114df2539debe8b13ee83897fb1877623c4c97fe13d0e85ff078f12086ae03bf", func := "loop.example/g00989/laws.FnHeard", spec := "fnHeard", recurses := true, apart := false, narrowed := true }
def FnHeardUptoSaid : Prop := fnHeardUptoRow.holds Try.pinned (OpenSpec.upto fnHeardSpec)

/-- 'laws.FnExactHides', WHERE WHAT IT READS IS OF BULK AT MOST 1048576: true; the input reads as it did. -/
def fnExactHidesUptoRow : OpenClaim := { program := "ytpjilchaeecpcaa", sum := "114df2539debe8b13ee83897fb1877623c4c97fe13d0e85ff078f12086ae03bf", func := "loop.example/g00989/laws.FnExactHides", spec := "fnExactHides", apart := false, narrowed := true }
def FnExactHidesUptoSaid : Prop := fnExactHidesUptoRow.holds Try.pinned (OpenSpec.upto fnExactHidesSpec)

/-- 'laws.FnFamilies', WHERE WHAT IT READS IS OF BULK AT MOST 1048576: true; the input reads as it did. -/
def fnFamiliesUptoRow : OpenClaim := { program := "ytpjilchaeecpcaa", sum := "114df2539debe8b13ee83897fb1877623c4c97fe13d0e85ff078f12086ae03bf", func := "loop.example/g00989/laws.FnFamilies", spec := "fnFamilies", recurses := true, apart := false, narrowed := true }
def FnFamiliesUptoSaid : Prop := fnFamiliesUptoRow.holds Try.pinned (OpenSpec.upto fnFamiliesSpec)

/-- 'laws.FnExactCircleOk', WHERE WHAT IT READS IS OF BULK AT MOST 1048576: true; the input reads as it did. -/
def fnExactCircleOkUptoRow : OpenClaim := { program := "ytpjilchaeecpcaa", sum := "114df2539debe8b13ee83897fb1877623c4c97fe13d0e85ff078f12086ae03bf", func := "loop.example/g00989/laws.FnExactCircleOk", spec := "fnExactCircleOk", apart := false, narrowed := true }
def FnExactCircleOkUptoSaid : Prop := fnExactCircleOkUptoRow.holds Try.pinned (OpenSpec.upto fnExactCircleOkSpec)

/-- 'laws.FnExactCommaOf', WHERE WHAT IT READS IS OF BULK AT MOST 1048576: true; the input reads as it did. -/
def fnExactCommaOfUptoRow : OpenClaim := { program := "ytpjilchaeecpcaa", sum := "114df2539debe8b13ee83897fb1877623c4c97fe13d0e85ff078f12086ae03bf", func := "loop.example/g00989/laws.FnExactCommaOf", spec := "fnExactCommaOf", apart := false, narrowed := true }
def FnExactCommaOfUptoSaid : Prop := fnExactCommaOfUptoRow.holds Try.pinned (OpenSpec.upto fnExactCommaOfSpec)

/-- 'laws.FnExactMeanFifth', WHERE WHAT IT READS IS OF BULK AT MOST 1048576: true; the input reads as it did. -/
def fnExactMeanFifthUptoRow : OpenClaim := { program := "ytpjilchaeecpcaa", sum := "114df2539debe8b13ee83897fb1877623c4c97fe13d0e85ff078f12086ae03bf", func := "loop.example/g00989/laws.FnExactMeanFifth", spec := "fnExactMeanFifth", apart := false, narrowed := true }
def FnExactMeanFifthUptoSaid : Prop := fnExactMeanFifthUptoRow.holds Try.pinned (OpenSpec.upto fnExactMeanFifthSpec)

end Rows
end Go.Proofs.Ytpjilchaeecpcaa
