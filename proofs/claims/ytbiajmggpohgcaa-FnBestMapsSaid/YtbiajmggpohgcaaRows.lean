/-
  No cell of these rows narrows 'for every input' (looked for: loops, veiled, ifaces, maps, wideKeys, modest, calm, conditions, laid).
  DERIVED. THE GIVEN ROWS OF THIS SEAT. 12 by the template 'for every input the law returns true; each argument reads behind the call as it read before'; 0 by the template 'total and deterministic' (their statements: YtbiajmggpohgcaaTotals.lean).
  GIVEN WITH THE SEED: the statements are not yours to turn. If you find one false, say at which input.
  Laid BY PROGRAM, IN A SANDBOX (cutbox-rows.mjs): the forced cells as the released guide's own fill.sh prints them over the translation c2951d4c84ce2dcc… (all of the seat's roots in one cut). By AI agents, Wed Nov 11 2026. No macro, syntax, notation, axiom, sorry.
-/
import Derived.Test.YtbiajmggpohgcaaChecked
import GoSem.Claim
import GoSem.ClaimJoined
import GoSem.ClaimMapViews
import Derived.JoinedTies
import Derived.KernelRfl
namespace Go.Proofs.Ytbiajmggpohgcaa
/- THE CELL 'sum', in the pinned program and in every row, IS THE sha256 OF THE DUMP (.gsa) THAT YtbiajmggpohgcaaProg.lean LOADS. Nothing in Lean hashes anything: it is a label: what it is worth is what the hold of that sum in a sandbox is worth. -/
noncomputable def Try.pinned : Pinned := { name := "ytbiajmggpohgcaa", sum := "c2951d4c84ce2dcc42fb1867fed89e2985fc72cd9b2b31437e7ae94ed443992d", checked := Try.checked }
namespace Rows
def none {H : Type} : Left H := { results := [], args := [] }

/-- 'laws.FnExactSmallThirdParts': WHATEVER THE INPUT: true; the input reads as it did. -/
def fnExactSmallThirdPartsSpec : ChangeSpec := { name := "fnExactSmallThirdParts", fn := fun _ => fun
  | [d1, d2] => { results := [.lit (.bool true)], args := [d1, d2] }
  | _ => none }
def fnExactSmallThirdPartsRow : OpenClaim := { program := "ytbiajmggpohgcaa", sum := "c2951d4c84ce2dcc42fb1867fed89e2985fc72cd9b2b31437e7ae94ed443992d", func := "loop.example/g00989/laws.FnExactSmallThirdParts", spec := "fnExactSmallThirdParts", apart := false }
def FnExactSmallThirdPartsSaid : Prop := fnExactSmallThirdPartsRow.holds Try.pinned (OpenSpec.ofChange fnExactSmallThirdPartsSpec)

/-- ITS FALSE NEIGHBOUR: 'it returns false'. Refute it at one input. -/
def fnExactSmallThirdPartsWrong : ChangeSpec := { name := "fnExactSmallThirdParts", fn := fun _ => fun
  | [d1, d2] => { results := [.lit (.bool false)], args := [d1, d2] }
  | _ => none }
def FnExactSmallThirdPartsWrongFalsely : Prop := fnExactSmallThirdPartsRow.holds Try.pinned (OpenSpec.ofChange fnExactSmallThirdPartsWrong)

/-- 'laws.FnExactThirdParts': WHATEVER THE INPUT: true; the input reads as it did. -/
def fnExactThirdPartsSpec : ChangeSpec := { name := "fnExactThirdParts", fn := fun _ => fun
  | [d1, d2] => { results := [.lit (.bool true)], args := [d1, d2] }
  | _ => none }
def fnExactThirdPartsRow : OpenClaim := { program := "ytbiajmggpohgcaa", sum := "c2951d4c84ce2dcc42fb1867fed89e2985fc72cd9b2b31437e7ae94ed443992d", func := "loop.example/g00989/laws.FnExactThirdParts", spec := "fnExactThirdParts", apart := false }
def FnExactThirdPartsSaid : Prop := fnExactThirdPartsRow.holds Try.pinned (OpenSpec.ofChange fnExactThirdPartsSpec)

/-- ITS FALSE NEIGHBOUR: 'it returns false'. Refute it at one input. -/
def fnExactThirdPartsWrong : ChangeSpec := { name := "fnExactThirdParts", fn := fun _ => fun
  | [d1, d2] => { results := [.lit (.bool false)], args := [d1, d2] }
  | _ => none }
def FnExactThirdPartsWrongFalsely : Prop := fnExactThirdPartsRow.holds Try.pinned (OpenSpec.ofChange fnExactThirdPartsWrong)

/-- 'laws.FnBestMaps': WHATEVER THE INPUT: true; the input reads as it did. -/
def fnBestMapsSpec : ChangeSpec := { name := "fnBestMaps", fn := fun _ => fun
  | [d] => { results := [.lit (.bool true)], args := [d] }
  | _ => none }
def fnBestMapsRow : OpenClaim := { program := "ytbiajmggpohgcaa", sum := "c2951d4c84ce2dcc42fb1867fed89e2985fc72cd9b2b31437e7ae94ed443992d", func := "loop.example/g00989/laws.FnBestMaps", spec := "fnBestMaps", apart := false }
def FnBestMapsSaid : Prop := fnBestMapsRow.holds Try.pinned (OpenSpec.ofChange fnBestMapsSpec)

/-- ITS FALSE NEIGHBOUR: 'it returns false'. Refute it at one input. -/
def fnBestMapsWrong : ChangeSpec := { name := "fnBestMaps", fn := fun _ => fun
  | [d] => { results := [.lit (.bool false)], args := [d] }
  | _ => none }
def FnBestMapsWrongFalsely : Prop := fnBestMapsRow.holds Try.pinned (OpenSpec.ofChange fnBestMapsWrong)

/-- 'laws.FnExactFamilyOf': WHATEVER THE INPUT: true; the input reads as it did. -/
def fnExactFamilyOfSpec : ChangeSpec := { name := "fnExactFamilyOf", fn := fun _ => fun
  | [d] => { results := [.lit (.bool true)], args := [d] }
  | _ => none }
def fnExactFamilyOfRow : OpenClaim := { program := "ytbiajmggpohgcaa", sum := "c2951d4c84ce2dcc42fb1867fed89e2985fc72cd9b2b31437e7ae94ed443992d", func := "loop.example/g00989/laws.FnExactFamilyOf", spec := "fnExactFamilyOf", recurses := true, apart := false }
def FnExactFamilyOfSaid : Prop := fnExactFamilyOfRow.holds Try.pinned (OpenSpec.ofChange fnExactFamilyOfSpec)

/-- ITS FALSE NEIGHBOUR: 'it returns false'. Refute it at one input. -/
def fnExactFamilyOfWrong : ChangeSpec := { name := "fnExactFamilyOf", fn := fun _ => fun
  | [d] => { results := [.lit (.bool false)], args := [d] }
  | _ => none }
def FnExactFamilyOfWrongFalsely : Prop := fnExactFamilyOfRow.holds Try.pinned (OpenSpec.ofChange fnExactFamilyOfWrong)

/-- 'laws.FnExactTurnCircle': WHATEVER THE INPUT: true; the input reads as it did. -/
def fnExactTurnCircleSpec : ChangeSpec := { name := "fnExactTurnCircle", fn := fun _ => fun
  | [d1, d2] => { results := [.lit (.bool true)], args := [d1, d2] }
  | _ => none }
def fnExactTurnCircleRow : OpenClaim := { program := "ytbiajmggpohgcaa", sum := "c2951d4c84ce2dcc42fb1867fed89e2985fc72cd9b2b31437e7ae94ed443992d", func := "loop.example/g00989/laws.FnExactTurnCircle", spec := "fnExactTurnCircle", apart := false }
def FnExactTurnCircleSaid : Prop := fnExactTurnCircleRow.holds Try.pinned (OpenSpec.ofChange fnExactTurnCircleSpec)

/-- ITS FALSE NEIGHBOUR: 'it returns false'. Refute it at one input. -/
def fnExactTurnCircleWrong : ChangeSpec := { name := "fnExactTurnCircle", fn := fun _ => fun
  | [d1, d2] => { results := [.lit (.bool false)], args := [d1, d2] }
  | _ => none }
def FnExactTurnCircleWrongFalsely : Prop := fnExactTurnCircleRow.holds Try.pinned (OpenSpec.ofChange fnExactTurnCircleWrong)

/-- 'laws.FnExactFifthAt': WHATEVER THE INPUT: true; the input reads as it did. -/
def fnExactFifthAtSpec : ChangeSpec := { name := "fnExactFifthAt", fn := fun _ => fun
  | [d1, d2] => { results := [.lit (.bool true)], args := [d1, d2] }
  | _ => none }
def fnExactFifthAtRow : OpenClaim := { program := "ytbiajmggpohgcaa", sum := "c2951d4c84ce2dcc42fb1867fed89e2985fc72cd9b2b31437e7ae94ed443992d", func := "loop.example/g00989/laws.FnExactFifthAt", spec := "fnExactFifthAt", apart := false }
def FnExactFifthAtSaid : Prop := fnExactFifthAtRow.holds Try.pinned (OpenSpec.ofChange fnExactFifthAtSpec)

/-- ITS FALSE NEIGHBOUR: 'it returns false'. Refute it at one input. -/
def fnExactFifthAtWrong : ChangeSpec := { name := "fnExactFifthAt", fn := fun _ => fun
  | [d1, d2] => { results := [.lit (.bool false)], args := [d1, d2] }
  | _ => none }
def FnExactFifthAtWrongFalsely : Prop := fnExactFifthAtRow.holds Try.pinned (OpenSpec.ofChange fnExactFifthAtWrong)

/-- 'laws.FnExactThirdsOf': WHATEVER THE INPUT: true; the input reads as it did. -/
def fnExactThirdsOfSpec : ChangeSpec := { name := "fnExactThirdsOf", fn := fun _ => fun
  | [d] => { results := [.lit (.bool true)], args := [d] }
  | _ => none }
def fnExactThirdsOfRow : OpenClaim := { program := "ytbiajmggpohgcaa", sum := "c2951d4c84ce2dcc42fb1867fed89e2985fc72cd9b2b31437e7ae94ed443992d", func := "loop.example/g00989/laws.FnExactThirdsOf", spec := "fnExactThirdsOf", apart := false }
def FnExactThirdsOfSaid : Prop := fnExactThirdsOfRow.holds Try.pinned (OpenSpec.ofChange fnExactThirdsOfSpec)

/-- ITS FALSE NEIGHBOUR: 'it returns false'. Refute it at one input. -/
def fnExactThirdsOfWrong : ChangeSpec := { name := "fnExactThirdsOf", fn := fun _ => fun
  | [d] => { results := [.lit (.bool false)], args := [d] }
  | _ => none }
def FnExactThirdsOfWrongFalsely : Prop := fnExactThirdsOfRow.holds Try.pinned (OpenSpec.ofChange fnExactThirdsOfWrong)

/-- 'laws.FnExactDifferenceOf': WHATEVER THE INPUT: true; the input reads as it did. -/
def fnExactDifferenceOfSpec : ChangeSpec := { name := "fnExactDifferenceOf", fn := fun _ => fun
  | [d1, d2] => { results := [.lit (.bool true)], args := [d1, d2] }
  | _ => none }
def fnExactDifferenceOfRow : OpenClaim := { program := "ytbiajmggpohgcaa", sum := "c2951d4c84ce2dcc42fb1867fed89e2985fc72cd9b2b31437e7ae94ed443992d", func := "loop.example/g00989/laws.FnExactDifferenceOf", spec := "fnExactDifferenceOf", apart := false }
def FnExactDifferenceOfSaid : Prop := fnExactDifferenceOfRow.holds Try.pinned (OpenSpec.ofChange fnExactDifferenceOfSpec)

/-- ITS FALSE NEIGHBOUR: 'it returns false'. Refute it at one input. -/
def fnExactDifferenceOfWrong : ChangeSpec := { name := "fnExactDifferenceOf", fn := fun _ => fun
  | [d1, d2] => { results := [.lit (.bool false)], args := [d1, d2] }
  | _ => none }
def FnExactDifferenceOfWrongFalsely : Prop := fnExactDifferenceOfRow.holds Try.pinned (OpenSpec.ofChange fnExactDifferenceOfWrong)

/-- 'laws.FnExactIsConsistent': WHATEVER THE INPUT: true; the input reads as it did. -/
def fnExactIsConsistentSpec : ChangeSpec := { name := "fnExactIsConsistent", fn := fun _ => fun
  | [d] => { results := [.lit (.bool true)], args := [d] }
  | _ => none }
def fnExactIsConsistentRow : OpenClaim := { program := "ytbiajmggpohgcaa", sum := "c2951d4c84ce2dcc42fb1867fed89e2985fc72cd9b2b31437e7ae94ed443992d", func := "loop.example/g00989/laws.FnExactIsConsistent", spec := "fnExactIsConsistent", apart := false }
def FnExactIsConsistentSaid : Prop := fnExactIsConsistentRow.holds Try.pinned (OpenSpec.ofChange fnExactIsConsistentSpec)

/-- ITS FALSE NEIGHBOUR: 'it returns false'. Refute it at one input. -/
def fnExactIsConsistentWrong : ChangeSpec := { name := "fnExactIsConsistent", fn := fun _ => fun
  | [d] => { results := [.lit (.bool false)], args := [d] }
  | _ => none }
def FnExactIsConsistentWrongFalsely : Prop := fnExactIsConsistentRow.holds Try.pinned (OpenSpec.ofChange fnExactIsConsistentWrong)

/-- 'laws.FnExactThirdAt': WHATEVER THE INPUT: true; the input reads as it did. -/
def fnExactThirdAtSpec : ChangeSpec := { name := "fnExactThirdAt", fn := fun _ => fun
  | [d1, d2] => { results := [.lit (.bool true)], args := [d1, d2] }
  | _ => none }
def fnExactThirdAtRow : OpenClaim := { program := "ytbiajmggpohgcaa", sum := "c2951d4c84ce2dcc42fb1867fed89e2985fc72cd9b2b31437e7ae94ed443992d", func := "loop.example/g00989/laws.FnExactThirdAt", spec := "fnExactThirdAt", apart := false }
def FnExactThirdAtSaid : Prop := fnExactThirdAtRow.holds Try.pinned (OpenSpec.ofChange fnExactThirdAtSpec)

/-- ITS FALSE NEIGHBOUR: 'it returns false'. Refute it at one input. -/
def fnExactThirdAtWrong : ChangeSpec := { name := "fnExactThirdAt", fn := fun _ => fun
  | [d1, d2] => { results := [.lit (.bool false)], args := [d1, d2] }
  | _ => none }
def FnExactThirdAtWrongFalsely : Prop := fnExactThirdAtRow.holds Try.pinned (OpenSpec.ofChange fnExactThirdAtWrong)

/-- 'laws.FnExactBestMap': WHATEVER THE INPUT: true; the input reads as it did. -/
def fnExactBestMapSpec : ChangeSpec := { name := "fnExactBestMap", fn := fun _ => fun
  | [d] => { results := [.lit (.bool true)], args := [d] }
  | _ => none }
def fnExactBestMapRow : OpenClaim := { program := "ytbiajmggpohgcaa", sum := "c2951d4c84ce2dcc42fb1867fed89e2985fc72cd9b2b31437e7ae94ed443992d", func := "loop.example/g00989/laws.FnExactBestMap", spec := "fnExactBestMap", apart := false }
def FnExactBestMapSaid : Prop := fnExactBestMapRow.holds Try.pinned (OpenSpec.ofChange fnExactBestMapSpec)

/-- ITS FALSE NEIGHBOUR: 'it returns false'. Refute it at one input. -/
def fnExactBestMapWrong : ChangeSpec := { name := "fnExactBestMap", fn := fun _ => fun
  | [d] => { results := [.lit (.bool false)], args := [d] }
  | _ => none }
def FnExactBestMapWrongFalsely : Prop := fnExactBestMapRow.holds Try.pinned (OpenSpec.ofChange fnExactBestMapWrong)

/-- 'laws.FnExactWolfOf': WHATEVER THE INPUT: true; the input reads as it did. -/
def fnExactWolfOfSpec : ChangeSpec := { name := "fnExactWolfOf", fn := fun _ => fun
  | [d1, d2] => { results := [.lit (.bool true)], args := [d1, d2] }
  | _ => none }
def fnExactWolfOfRow : OpenClaim := { program := "ytbiajmggpohgcaa", sum := "c2951d4c84ce2dcc42fb1867fed89e2985fc72cd9b2b31437e7ae94ed443992d", func := "loop.example/g00989/laws.FnExactWolfOf", spec := "fnExactWolfOf", apart := false }
def FnExactWolfOfSaid : Prop := fnExactWolfOfRow.holds Try.pinned (OpenSpec.ofChange fnExactWolfOfSpec)

/-- ITS FALSE NEIGHBOUR: 'it returns false'. Refute it at one input. -/
def fnExactWolfOfWrong : ChangeSpec := { name := "fnExactWolfOf", fn := fun _ => fun
  | [d1, d2] => { results := [.lit (.bool false)], args := [d1, d2] }
  | _ => none }
def FnExactWolfOfWrongFalsely : Prop := fnExactWolfOfRow.holds Try.pinned (OpenSpec.ofChange fnExactWolfOfWrong)

/- THE SECOND FORM. 'bulk': how many values and letters a reading holds, each counted each time it is reached (what is shared counts as often as it is met; a slice's spare places count too). A statement '..UptoSaid' is the law's where the arguments, and the package variables that the reading takes, are together of bulk at most 1048576: NARROWER than '..Said'. Prove '..Said' where nothing that the law and all that it calls make is longer than what came in: it says more and counts as full. Else prove '..UptoSaid'. A law counts once. -/
mutual
def uptoBulk {H : Type} : DataW H → Nat
  | .lit (.string bytes) => bytes.length + 1
  | .lit _ => 1
  | .nil => 1
  | .ptr d => uptoBulk d + 1
  | .slice elems spare => uptoBulkAll elems + uptoBulkAll spare + 1
  | .agg parts => uptoBulkAll parts + 1
  | .iface _ d => uptoBulk d + 1
  | .map entries => uptoBulkEntries entries + 1
  | .held _ => 1
def uptoBulkAll {H : Type} : List (DataW H) → Nat
  | [] => 0
  | d :: r => uptoBulk d + uptoBulkAll r
def uptoBulkEntries {H : Type} : List (Lit × DataW H) → Nat
  | [] => 0
  | x :: r => uptoBulkEntry x + uptoBulkEntries r
def uptoBulkEntry {H : Type} : Lit × DataW H → Nat
  | (.string bytes, d) => bytes.length + uptoBulk d + 1
  | (_, d) => uptoBulk d + 1
 end
def uptoSmall : (H : Type) → List (DataW H) → Bool := fun _ ds => decide (uptoBulkAll ds ≤ 1048576)
def OpenSpec.upto (s : _root_.Go.ChangeSpec) : _root_.Go.OpenSpec := { _root_.Go.OpenSpec.ofChange s with cond := some uptoSmall }

/-- 'laws.FnExactSmallThirdParts', WHERE WHAT IT READS IS OF BULK AT MOST 1048576: true; the input reads as it did. -/
def fnExactSmallThirdPartsUptoRow : OpenClaim := { program := "ytbiajmggpohgcaa", sum := "c2951d4c84ce2dcc42fb1867fed89e2985fc72cd9b2b31437e7ae94ed443992d", func := "loop.example/g00989/laws.FnExactSmallThirdParts", spec := "fnExactSmallThirdParts", apart := false, narrowed := true }
def FnExactSmallThirdPartsUptoSaid : Prop := fnExactSmallThirdPartsUptoRow.holds Try.pinned (OpenSpec.upto fnExactSmallThirdPartsSpec)

/-- 'laws.FnExactThirdParts', WHERE WHAT IT READS IS OF BULK AT MOST 1048576: true; the input reads as it did. -/
def fnExactThirdPartsUptoRow : OpenClaim := { program := "ytbiajmggpohgcaa", sum := "c2951d4c84ce2dcc42fb1867fed89e2985fc72cd9b2b31437e7ae94ed443992d", func := "loop.example/g00989/laws.FnExactThirdParts", spec := "fnExactThirdParts", apart := false, narrowed := true }
def FnExactThirdPartsUptoSaid : Prop := fnExactThirdPartsUptoRow.holds Try.pinned (OpenSpec.upto fnExactThirdPartsSpec)

/-- 'laws.FnBestMaps', WHERE WHAT IT READS IS OF BULK AT MOST 1048576: true; the input reads as it did. -/
def fnBestMapsUptoRow : OpenClaim := { program := "ytbiajmggpohgcaa", sum := "c2951d4c84ce2dcc42fb1867fed89e2985fc72cd9b2b31437e7ae94ed443992d", func := "loop.example/g00989/laws.FnBestMaps", spec := "fnBestMaps", apart := false, narrowed := true }
def FnBestMapsUptoSaid : Prop := fnBestMapsUptoRow.holds Try.pinned (OpenSpec.upto fnBestMapsSpec)

/-- 'laws.FnExactFamilyOf', WHERE WHAT IT READS IS OF BULK AT MOST 1048576: true; the input reads as it did. -/
def fnExactFamilyOfUptoRow : OpenClaim := { program := "ytbiajmggpohgcaa", sum := "c2951d4c84ce2dcc42fb1867fed89e2985fc72cd9b2b31437e7ae94ed443992d", func := "loop.example/g00989/laws.FnExactFamilyOf", spec := "fnExactFamilyOf", recurses := true, apart := false, narrowed := true }
def FnExactFamilyOfUptoSaid : Prop := fnExactFamilyOfUptoRow.holds Try.pinned (OpenSpec.upto fnExactFamilyOfSpec)

/-- 'laws.FnExactTurnCircle', WHERE WHAT IT READS IS OF BULK AT MOST 1048576: true; the input reads as it did. -/
def fnExactTurnCircleUptoRow : OpenClaim := { program := "ytbiajmggpohgcaa", sum := "c2951d4c84ce2dcc42fb1867fed89e2985fc72cd9b2b31437e7ae94ed443992d", func := "loop.example/g00989/laws.FnExactTurnCircle", spec := "fnExactTurnCircle", apart := false, narrowed := true }
def FnExactTurnCircleUptoSaid : Prop := fnExactTurnCircleUptoRow.holds Try.pinned (OpenSpec.upto fnExactTurnCircleSpec)

/-- 'laws.FnExactFifthAt', WHERE WHAT IT READS IS OF BULK AT MOST 1048576: true; the input reads as it did. -/
def fnExactFifthAtUptoRow : OpenClaim := { program := "ytbiajmggpohgcaa", sum := "c2951d4c84ce2dcc42fb1867fed89e2985fc72cd9b2b31437e7ae94ed443992d", func := "loop.example/g00989/laws.FnExactFifthAt", spec := "fnExactFifthAt", apart := false, narrowed := true }
def FnExactFifthAtUptoSaid : Prop := fnExactFifthAtUptoRow.holds Try.pinned (OpenSpec.upto fnExactFifthAtSpec)

/-- 'laws.FnExactThirdsOf', WHERE WHAT IT READS IS OF BULK AT MOST 1048576: true; the input reads as it did. -/
def fnExactThirdsOfUptoRow : OpenClaim := { program := "ytbiajmggpohgcaa", sum := "c2951d4c84ce2dcc42fb1867fed89e2985fc72cd9b2b31437e7ae94ed443992d", func := "loop.example/g00989/laws.FnExactThirdsOf", spec := "fnExactThirdsOf", apart := false, narrowed := true }
def FnExactThirdsOfUptoSaid : Prop := fnExactThirdsOfUptoRow.holds Try.pinned (OpenSpec.upto fnExactThirdsOfSpec)

/-- 'laws.FnExactDifferenceOf', WHERE WHAT IT READS IS OF BULK AT MOST 1048576: true; the input reads as it did. -/
def fnExactDifferenceOfUptoRow : OpenClaim := { program := "ytbiajmggpohgcaa", sum := "c2951d4c84ce2dcc42fb1867fed89e2985fc72cd9b2b31437e7ae94ed443992d", func := "loop.example/g00989/laws.FnExactDifferenceOf", spec := "fnExactDifferenceOf", apart := false, narrowed := true }
def FnExactDifferenceOfUptoSaid : Prop := fnExactDifferenceOfUptoRow.holds Try.pinned (OpenSpec.upto fnExactDifferenceOfSpec)

/-- 'laws.FnExactIsConsistent', WHERE WHAT IT READS IS OF BULK AT MOST 1048576: true; the input reads as it did. -/
def fnExactIsConsistentUptoRow : OpenClaim := { program := "ytbiajmggpohgcaa", sum := "c2951d4c84ce2dcc42fb1867fed89e2985fc72cd9b2b31437e7ae94ed443992d", func := "loop.example/g00989/laws.FnExactIsConsistent", spec := "fnExactIsConsistent", apart := false, narrowed := true }
def FnExactIsConsistentUptoSaid : Prop := fnExactIsConsistentUptoRow.holds Try.pinned (OpenSpec.upto fnExactIsConsistentSpec)

/-- 'laws.FnExactThirdAt', WHERE WHAT IT READS IS OF BULK AT MOST 1048576: true; the input reads as it did. -/
def fnExactThirdAtUptoRow : OpenClaim := { program := "ytbiajmggpohgcaa", sum := "c2951d4c84ce2dcc42fb1867fed89e2985fc72cd9b2b31437e7ae94ed443992d", func := "loop.example/g00989/laws.FnExactThirdAt", spec := "fnExactThirdAt", apart := false, narrowed := true }
def FnExactThirdAtUptoSaid : Prop := fnExactThirdAtUptoRow.holds Try.pinned (OpenSpec.upto fnExactThirdAtSpec)

/-- 'laws.FnExactBestMap', WHERE WHAT IT READS IS OF BULK AT MOST 1048576: true; the input reads as it did. -/
def fnExactBestMapUptoRow : OpenClaim := { program := "ytbiajmggpohgcaa", sum := "c2951d4c84ce2dcc42fb1867fed89e2985fc72cd9b2b31437e7ae94ed443992d", func := "loop.example/g00989/laws.FnExactBestMap", spec := "fnExactBestMap", apart := false, narrowed := true }
def FnExactBestMapUptoSaid : Prop := fnExactBestMapUptoRow.holds Try.pinned (OpenSpec.upto fnExactBestMapSpec)

/-- 'laws.FnExactWolfOf', WHERE WHAT IT READS IS OF BULK AT MOST 1048576: true; the input reads as it did. -/
def fnExactWolfOfUptoRow : OpenClaim := { program := "ytbiajmggpohgcaa", sum := "c2951d4c84ce2dcc42fb1867fed89e2985fc72cd9b2b31437e7ae94ed443992d", func := "loop.example/g00989/laws.FnExactWolfOf", spec := "fnExactWolfOf", apart := false, narrowed := true }
def FnExactWolfOfUptoSaid : Prop := fnExactWolfOfUptoRow.holds Try.pinned (OpenSpec.upto fnExactWolfOfSpec)

end Rows
end Go.Proofs.Ytbiajmggpohgcaa
