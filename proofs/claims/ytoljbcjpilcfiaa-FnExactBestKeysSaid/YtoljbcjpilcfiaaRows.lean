/-
  No cell of these rows narrows 'for every input' (looked for: loops, veiled, ifaces, maps, wideKeys, modest, calm, conditions, laid).
  DERIVED. THE GIVEN ROWS OF THIS SEAT. 11 by the template 'for every input the law returns true; each argument reads behind the call as it read before'; 0 by the template 'total and deterministic' (their statements: YtoljbcjpilcfiaaTotals.lean).
  GIVEN WITH THE SEED: the statements are not yours to turn. If you find one false, say at which input.
  Laid BY PROGRAM, IN A SANDBOX (cutbox-rows.mjs): the forced cells as the released guide's own fill.sh prints them over the translation 8d1ffdb365c68f6e… (all of the seat's roots in one cut). By AI agents, Wed Nov 11 2026. No macro, syntax, notation, axiom, sorry.
-/
import Derived.Test.YtoljbcjpilcfiaaChecked
import GoSem.Claim
import GoSem.ClaimJoined
import GoSem.ClaimMapViews
import Derived.JoinedTies
import Derived.KernelRfl
namespace Go.Proofs.Ytoljbcjpilcfiaa
/- THE CELL 'sum', in the pinned program and in every row, IS THE sha256 OF THE DUMP (.gsa) THAT YtoljbcjpilcfiaaProg.lean LOADS. Nothing in Lean hashes anything: it is a label: what it is worth is what the hold of that sum in a sandbox is worth. -/
noncomputable def Try.pinned : Pinned := { name := "ytoljbcjpilcfiaa", sum := "8d1ffdb365c68f6e622cc3442b86008f91247902f07637ff2d50b2798e88aed6", checked := Try.checked }
namespace Rows
def none {H : Type} : Left H := { results := [], args := [] }

/-- 'laws.FnMaps': WHATEVER THE INPUT: true; the input reads as it did. -/
def fnMapsSpec : ChangeSpec := { name := "fnMaps", fn := fun _ => fun
  | [d] => { results := [.lit (.bool true)], args := [d] }
  | _ => none }
def fnMapsRow : OpenClaim := { program := "ytoljbcjpilcfiaa", sum := "8d1ffdb365c68f6e622cc3442b86008f91247902f07637ff2d50b2798e88aed6", func := "loop.example/g00989/laws.FnMaps", spec := "fnMaps", apart := false }
def FnMapsSaid : Prop := fnMapsRow.holds Try.pinned (OpenSpec.ofChange fnMapsSpec)

/-- ITS FALSE NEIGHBOUR: 'it returns false'. Refute it at one input. -/
def fnMapsWrong : ChangeSpec := { name := "fnMaps", fn := fun _ => fun
  | [d] => { results := [.lit (.bool false)], args := [d] }
  | _ => none }
def FnMapsWrongFalsely : Prop := fnMapsRow.holds Try.pinned (OpenSpec.ofChange fnMapsWrong)

/-- 'laws.FnHidden': WHATEVER THE INPUT: true; the input reads as it did. -/
def fnHiddenSpec : ChangeSpec := { name := "fnHidden", fn := fun _ => fun
  | [d] => { results := [.lit (.bool true)], args := [d] }
  | _ => none }
def fnHiddenRow : OpenClaim := { program := "ytoljbcjpilcfiaa", sum := "8d1ffdb365c68f6e622cc3442b86008f91247902f07637ff2d50b2798e88aed6", func := "loop.example/g00989/laws.FnHidden", spec := "fnHidden", apart := false }
def FnHiddenSaid : Prop := fnHiddenRow.holds Try.pinned (OpenSpec.ofChange fnHiddenSpec)

/-- ITS FALSE NEIGHBOUR: 'it returns false'. Refute it at one input. -/
def fnHiddenWrong : ChangeSpec := { name := "fnHidden", fn := fun _ => fun
  | [d] => { results := [.lit (.bool false)], args := [d] }
  | _ => none }
def FnHiddenWrongFalsely : Prop := fnHiddenRow.holds Try.pinned (OpenSpec.ofChange fnHiddenWrong)

/-- 'laws.FnThirds': WHATEVER THE INPUT: true; the input reads as it did. -/
def fnThirdsSpec : ChangeSpec := { name := "fnThirds", fn := fun _ => fun
  | [d] => { results := [.lit (.bool true)], args := [d] }
  | _ => none }
def fnThirdsRow : OpenClaim := { program := "ytoljbcjpilcfiaa", sum := "8d1ffdb365c68f6e622cc3442b86008f91247902f07637ff2d50b2798e88aed6", func := "loop.example/g00989/laws.FnThirds", spec := "fnThirds", apart := false }
def FnThirdsSaid : Prop := fnThirdsRow.holds Try.pinned (OpenSpec.ofChange fnThirdsSpec)

/-- ITS FALSE NEIGHBOUR: 'it returns false'. Refute it at one input. -/
def fnThirdsWrong : ChangeSpec := { name := "fnThirds", fn := fun _ => fun
  | [d] => { results := [.lit (.bool false)], args := [d] }
  | _ => none }
def FnThirdsWrongFalsely : Prop := fnThirdsRow.holds Try.pinned (OpenSpec.ofChange fnThirdsWrong)

/-- 'laws.FnCircles': WHATEVER THE INPUT: true; the input reads as it did. -/
def fnCirclesSpec : ChangeSpec := { name := "fnCircles", fn := fun _ => fun
  | [d] => { results := [.lit (.bool true)], args := [d] }
  | _ => none }
def fnCirclesRow : OpenClaim := { program := "ytoljbcjpilcfiaa", sum := "8d1ffdb365c68f6e622cc3442b86008f91247902f07637ff2d50b2798e88aed6", func := "loop.example/g00989/laws.FnCircles", spec := "fnCircles", apart := false }
def FnCirclesSaid : Prop := fnCirclesRow.holds Try.pinned (OpenSpec.ofChange fnCirclesSpec)

/-- ITS FALSE NEIGHBOUR: 'it returns false'. Refute it at one input. -/
def fnCirclesWrong : ChangeSpec := { name := "fnCircles", fn := fun _ => fun
  | [d] => { results := [.lit (.bool false)], args := [d] }
  | _ => none }
def FnCirclesWrongFalsely : Prop := fnCirclesRow.holds Try.pinned (OpenSpec.ofChange fnCirclesWrong)

/-- 'laws.FnExactCommasWithin': WHATEVER THE INPUT: true; the input reads as it did. -/
def fnExactCommasWithinSpec : ChangeSpec := { name := "fnExactCommasWithin", fn := fun _ => fun
  | [d] => { results := [.lit (.bool true)], args := [d] }
  | _ => none }
def fnExactCommasWithinRow : OpenClaim := { program := "ytoljbcjpilcfiaa", sum := "8d1ffdb365c68f6e622cc3442b86008f91247902f07637ff2d50b2798e88aed6", func := "loop.example/g00989/laws.FnExactCommasWithin", spec := "fnExactCommasWithin", apart := false }
def FnExactCommasWithinSaid : Prop := fnExactCommasWithinRow.holds Try.pinned (OpenSpec.ofChange fnExactCommasWithinSpec)

/-- ITS FALSE NEIGHBOUR: 'it returns false'. Refute it at one input. -/
def fnExactCommasWithinWrong : ChangeSpec := { name := "fnExactCommasWithin", fn := fun _ => fun
  | [d] => { results := [.lit (.bool false)], args := [d] }
  | _ => none }
def FnExactCommasWithinWrongFalsely : Prop := fnExactCommasWithinRow.holds Try.pinned (OpenSpec.ofChange fnExactCommasWithinWrong)

/-- 'laws.FnExactHiddenCommas': WHATEVER THE INPUT: true; the input reads as it did. -/
def fnExactHiddenCommasSpec : ChangeSpec := { name := "fnExactHiddenCommas", fn := fun _ => fun
  | [d1, d2] => { results := [.lit (.bool true)], args := [d1, d2] }
  | _ => none }
def fnExactHiddenCommasRow : OpenClaim := { program := "ytoljbcjpilcfiaa", sum := "8d1ffdb365c68f6e622cc3442b86008f91247902f07637ff2d50b2798e88aed6", func := "loop.example/g00989/laws.FnExactHiddenCommas", spec := "fnExactHiddenCommas", apart := false }
def FnExactHiddenCommasSaid : Prop := fnExactHiddenCommasRow.holds Try.pinned (OpenSpec.ofChange fnExactHiddenCommasSpec)

/-- ITS FALSE NEIGHBOUR: 'it returns false'. Refute it at one input. -/
def fnExactHiddenCommasWrong : ChangeSpec := { name := "fnExactHiddenCommas", fn := fun _ => fun
  | [d1, d2] => { results := [.lit (.bool false)], args := [d1, d2] }
  | _ => none }
def FnExactHiddenCommasWrongFalsely : Prop := fnExactHiddenCommasRow.holds Try.pinned (OpenSpec.ofChange fnExactHiddenCommasWrong)

/-- 'laws.FnMeans': WHATEVER THE INPUT: true; the input reads as it did. -/
def fnMeansSpec : ChangeSpec := { name := "fnMeans", fn := fun _ => fun
  | [d] => { results := [.lit (.bool true)], args := [d] }
  | _ => none }
def fnMeansRow : OpenClaim := { program := "ytoljbcjpilcfiaa", sum := "8d1ffdb365c68f6e622cc3442b86008f91247902f07637ff2d50b2798e88aed6", func := "loop.example/g00989/laws.FnMeans", spec := "fnMeans", apart := false }
def FnMeansSaid : Prop := fnMeansRow.holds Try.pinned (OpenSpec.ofChange fnMeansSpec)

/-- ITS FALSE NEIGHBOUR: 'it returns false'. Refute it at one input. -/
def fnMeansWrong : ChangeSpec := { name := "fnMeans", fn := fun _ => fun
  | [d] => { results := [.lit (.bool false)], args := [d] }
  | _ => none }
def FnMeansWrongFalsely : Prop := fnMeansRow.holds Try.pinned (OpenSpec.ofChange fnMeansWrong)

/-- 'laws.FnCommas': WHATEVER THE INPUT: true; the input reads as it did. -/
def fnCommasSpec : ChangeSpec := { name := "fnCommas", fn := fun _ => fun
  | [d] => { results := [.lit (.bool true)], args := [d] }
  | _ => none }
def fnCommasRow : OpenClaim := { program := "ytoljbcjpilcfiaa", sum := "8d1ffdb365c68f6e622cc3442b86008f91247902f07637ff2d50b2798e88aed6", func := "loop.example/g00989/laws.FnCommas", spec := "fnCommas", apart := false }
def FnCommasSaid : Prop := fnCommasRow.holds Try.pinned (OpenSpec.ofChange fnCommasSpec)

/-- ITS FALSE NEIGHBOUR: 'it returns false'. Refute it at one input. -/
def fnCommasWrong : ChangeSpec := { name := "fnCommas", fn := fun _ => fun
  | [d] => { results := [.lit (.bool false)], args := [d] }
  | _ => none }
def FnCommasWrongFalsely : Prop := fnCommasRow.holds Try.pinned (OpenSpec.ofChange fnCommasWrong)

/-- 'laws.FnShared': WHATEVER THE INPUT: true; the input reads as it did. -/
def fnSharedSpec : ChangeSpec := { name := "fnShared", fn := fun _ => fun
  | [d] => { results := [.lit (.bool true)], args := [d] }
  | _ => none }
def fnSharedRow : OpenClaim := { program := "ytoljbcjpilcfiaa", sum := "8d1ffdb365c68f6e622cc3442b86008f91247902f07637ff2d50b2798e88aed6", func := "loop.example/g00989/laws.FnShared", spec := "fnShared", apart := false }
def FnSharedSaid : Prop := fnSharedRow.holds Try.pinned (OpenSpec.ofChange fnSharedSpec)

/-- ITS FALSE NEIGHBOUR: 'it returns false'. Refute it at one input. -/
def fnSharedWrong : ChangeSpec := { name := "fnShared", fn := fun _ => fun
  | [d] => { results := [.lit (.bool false)], args := [d] }
  | _ => none }
def FnSharedWrongFalsely : Prop := fnSharedRow.holds Try.pinned (OpenSpec.ofChange fnSharedWrong)

/-- 'laws.FnBestKeys': WHATEVER THE INPUT: true; the input reads as it did. -/
def fnBestKeysSpec : ChangeSpec := { name := "fnBestKeys", fn := fun _ => fun
  | [d] => { results := [.lit (.bool true)], args := [d] }
  | _ => none }
def fnBestKeysRow : OpenClaim := { program := "ytoljbcjpilcfiaa", sum := "8d1ffdb365c68f6e622cc3442b86008f91247902f07637ff2d50b2798e88aed6", func := "loop.example/g00989/laws.FnBestKeys", spec := "fnBestKeys", inPlace := ["internal/reflectlite.ValueOf", "internal/reflectlite.Swapper", "(internal/reflectlite.Value).Len"], unfollowed := true, recurses := true, apart := false }
def FnBestKeysSaid : Prop := fnBestKeysRow.holds Try.pinned (OpenSpec.ofChange fnBestKeysSpec)

/-- ITS FALSE NEIGHBOUR: 'it returns false'. Refute it at one input. -/
def fnBestKeysWrong : ChangeSpec := { name := "fnBestKeys", fn := fun _ => fun
  | [d] => { results := [.lit (.bool false)], args := [d] }
  | _ => none }
def FnBestKeysWrongFalsely : Prop := fnBestKeysRow.holds Try.pinned (OpenSpec.ofChange fnBestKeysWrong)

/-- 'laws.FnExactBestKeys': WHATEVER THE INPUT: true; the input reads as it did. -/
def fnExactBestKeysSpec : ChangeSpec := { name := "fnExactBestKeys", fn := fun _ => fun
  | [d] => { results := [.lit (.bool true)], args := [d] }
  | _ => none }
def fnExactBestKeysRow : OpenClaim := { program := "ytoljbcjpilcfiaa", sum := "8d1ffdb365c68f6e622cc3442b86008f91247902f07637ff2d50b2798e88aed6", func := "loop.example/g00989/laws.FnExactBestKeys", spec := "fnExactBestKeys", inPlace := ["internal/reflectlite.ValueOf", "internal/reflectlite.Swapper", "(internal/reflectlite.Value).Len"], unfollowed := true, recurses := true, apart := false }
def FnExactBestKeysSaid : Prop := fnExactBestKeysRow.holds Try.pinned (OpenSpec.ofChange fnExactBestKeysSpec)

/-- ITS FALSE NEIGHBOUR: 'it returns false'. Refute it at one input. -/
def fnExactBestKeysWrong : ChangeSpec := { name := "fnExactBestKeys", fn := fun _ => fun
  | [d] => { results := [.lit (.bool false)], args := [d] }
  | _ => none }
def FnExactBestKeysWrongFalsely : Prop := fnExactBestKeysRow.holds Try.pinned (OpenSpec.ofChange fnExactBestKeysWrong)

/- THE SECOND FORM. 'bulk': how many values and letters a reading holds, each counted each time it is reached (what is shared counts as often as it is met; a slice's spare places count too). A statement '..UptoSaid' is the law's where the arguments, and the package variables that the reading takes, are together of bulk at most 1048576: NARROWER than '..Said'. Prove '..Said' where nothing that the law and all that it calls make is longer than what came in: it says more and counts as full. Else prove '..UptoSaid'. A law counts once. -/
mutual
def uptoBulk {H : Type} : DataW H → Nat
  | .lit (.string bytes) => bytes.length + 1
  | .lit _ => 1
  | .nil => 1
  | .ptr d => uptoBulk d + 1
  | .slice elems spare => uptoBulkAll elems + uptoBulkAll spare + 1
  | .agg parts => uptoBulkAll parts + 1
  | .iface _ d => uptoBulk d + 1
  | .map entries => uptoBulkEntries entries + 1
  | .held _ => 1
def uptoBulkAll {H : Type} : List (DataW H) → Nat
  | [] => 0
  | d :: r => uptoBulk d + uptoBulkAll r
def uptoBulkEntries {H : Type} : List (Lit × DataW H) → Nat
  | [] => 0
  | x :: r => uptoBulkEntry x + uptoBulkEntries r
def uptoBulkEntry {H : Type} : Lit × DataW H → Nat
  | (.string bytes, d) => bytes.length + uptoBulk d + 1
  | (_, d) => uptoBulk d + 1
 end
def uptoSmall : (H : Type) → List (DataW H) → Bool := fun _ ds => decide (uptoBulkAll ds ≤ 1048576)
def OpenSpec.upto (s : _root_.Go.ChangeSpec) : _root_.Go.OpenSpec := { _root_.Go.OpenSpec.ofChange s with cond := some uptoSmall }

/-- 'laws.FnMaps', WHERE WHAT IT READS IS OF BULK AT MOST 1048576: true; the input reads as it did. -/
def fnMapsUptoRow : OpenClaim := { program := "ytoljbcjpilcfiaa", sum := "8d1ffdb365c68f6e622cc3442b86008f91247902f07637ff2d50b2798e88aed6", func := "loop.example/g00989/laws.FnMaps", spec := "fnMaps", apart := false, narrowed := true }
def FnMapsUptoSaid : Prop := fnMapsUptoRow.holds Try.pinned (OpenSpec.upto fnMapsSpec)

/-- 'laws.FnHidden', WHERE WHAT IT READS IS OF BULK AT MOST 1048576: true; the input reads as it did. -/
def fnHiddenUptoRow : OpenClaim := { program := "ytoljbcjpilcfiaa", sum := "8d1ffdb365c68f6e622cc3442b86008f91247902f07637ff2d50b2798e88aed6", func := "loop.example/g00989/laws.FnHidden", spec := "fnHidden", apart := false, narrowed := true }
def FnHiddenUptoSaid : Prop := fnHiddenUptoRow.holds Try.pinned (OpenSpec.upto fnHiddenSpec)

/-- 'laws.FnThirds', WHERE WHAT IT READS IS OF BULK AT MOST 1048576: true; the input reads as it did. -/
def fnThirdsUptoRow : OpenClaim := { program := "ytoljbcjpilcfiaa", sum := "8d1ffdb365c68f6e622cc3442b86008f91247902f07637ff2d50b2798e88aed6", func := "loop.example/g00989/laws.FnThirds", spec := "fnThirds", apart := false, narrowed := true }
def FnThirdsUptoSaid : Prop := fnThirdsUptoRow.holds Try.pinned (OpenSpec.upto fnThirdsSpec)

/-- 'laws.FnCircles', WHERE WHAT IT READS IS OF BULK AT MOST 1048576: true; the input reads as it did. -/
def fnCirclesUptoRow : OpenClaim := { program := "ytoljbcjpilcfiaa", sum := "8d1ffdb365c68f6e622cc3442b86008f91247902f07637ff2d50b2798e88aed6", func := "loop.example/g00989/laws.FnCircles", spec := "fnCircles", apart := false, narrowed := true }
def FnCirclesUptoSaid : Prop := fnCirclesUptoRow.holds Try.pinned (OpenSpec.upto fnCirclesSpec)

/-- 'laws.FnExactCommasWithin', WHERE WHAT IT READS IS OF BULK AT MOST 1048576: true; the input reads as it did. -/
def fnExactCommasWithinUptoRow : OpenClaim := { program := "ytoljbcjpilcfiaa", sum := "8d1ffdb365c68f6e622cc3442b86008f91247902f07637ff2d50b2798e88aed6", func := "loop.example/g00989/laws.FnExactCommasWithin", spec := "fnExactCommasWithin", apart := false, narrowed := true }
def FnExactCommasWithinUptoSaid : Prop := fnExactCommasWithinUptoRow.holds Try.pinned (OpenSpec.upto fnExactCommasWithinSpec)

/-- 'laws.FnExactHiddenCommas', WHERE WHAT IT READS IS OF BULK AT MOST 1048576: true; the input reads as it did. -/
def fnExactHiddenCommasUptoRow : OpenClaim := { program := "ytoljbcjpilcfiaa", sum := "8d1ffdb365c68f6e622cc3442b86008f91247902f07637ff2d50b2798e88aed6", func := "loop.example/g00989/laws.FnExactHiddenCommas", spec := "fnExactHiddenCommas", apart := false, narrowed := true }
def FnExactHiddenCommasUptoSaid : Prop := fnExactHiddenCommasUptoRow.holds Try.pinned (OpenSpec.upto fnExactHiddenCommasSpec)

/-- 'laws.FnMeans', WHERE WHAT IT READS IS OF BULK AT MOST 1048576: true; the input reads as it did. -/
def fnMeansUptoRow : OpenClaim := { program := "ytoljbcjpilcfiaa", sum := "8d1ffdb365c68f6e622cc3442b86008f91247902f07637ff2d50b2798e88aed6", func := "loop.example/g00989/laws.FnMeans", spec := "fnMeans", apart := false, narrowed := true }
def FnMeansUptoSaid : Prop := fnMeansUptoRow.holds Try.pinned (OpenSpec.upto fnMeansSpec)

/-- 'laws.FnCommas', WHERE WHAT IT READS IS OF BULK AT MOST 1048576: true; the input reads as it did. -/
def fnCommasUptoRow : OpenClaim := { program := "ytoljbcjpilcfiaa", sum := "8d1ffdb365c68f6e622cc3442b86008f91247902f07637ff2d50b2798e88aed6", func := "loop.example/g00989/laws.FnCommas", spec := "fnCommas", apart := false, narrowed := true }
def FnCommasUptoSaid : Prop := fnCommasUptoRow.holds Try.pinned (OpenSpec.upto fnCommasSpec)

/-- 'laws.FnShared', WHERE WHAT IT READS IS OF BULK AT MOST 1048576: true; the input reads as it did. -/
def fnSharedUptoRow : OpenClaim := { program := "ytoljbcjpilcfiaa", sum := "8d1ffdb365c68f6e622cc3442b86008f91247902f07637ff2d50b2798e88aed6", func := "loop.example/g00989/laws.FnShared", spec := "fnShared", apart := false, narrowed := true }
def FnSharedUptoSaid : Prop := fnSharedUptoRow.holds Try.pinned (OpenSpec.upto fnSharedSpec)

/-- 'laws.FnBestKeys', WHERE WHAT IT READS IS OF BULK AT MOST 1048576: true; the input reads as it did. -/
def fnBestKeysUptoRow : OpenClaim := { program := "ytoljbcjpilcfiaa", sum := "8d1ffdb365c68f6e622cc3442b86008f91247902f07637ff2d50b2798e88aed6", func := "loop.example/g00989/laws.FnBestKeys", spec := "fnBestKeys", inPlace := ["internal/reflectlite.ValueOf", "internal/reflectlite.Swapper", "(internal/reflectlite.Value).Len"], unfollowed := true, recurses := true, apart := false, narrowed := true }
def FnBestKeysUptoSaid : Prop := fnBestKeysUptoRow.holds Try.pinned (OpenSpec.upto fnBestKeysSpec)

/-- 'laws.FnExactBestKeys', WHERE WHAT IT READS IS OF BULK AT MOST 1048576: true; the input reads as it did. -/
def fnExactBestKeysUptoRow : OpenClaim := { program := "ytoljbcjpilcfiaa", sum := "8d1ffdb365c68f6e622cc3442b86008f91247902f07637ff2d50b2798e88aed6", func := "loop.example/g00989/laws.FnExactBestKeys", spec := "fnExactBestKeys", inPlace := ["internal/reflectlite.ValueOf", "internal/reflectlite.Swapper", "(internal/reflectlite.Value).Len"], unfollowed := true, recurses := true, apart := false, narrowed := true }
def FnExactBestKeysUptoSaid : Prop := fnExactBestKeysUptoRow.holds Try.pinned (OpenSpec.upto fnExactBestKeysSpec)

end Rows
end Go.Proofs.Ytoljbcjpilcfiaa
