/-
  No cell of these rows narrows 'for every input' (looked for: loops, veiled, ifaces, maps, wideKeys, modest, calm, conditions, laid).
  DERIVED. THE GIVEN ROWS OF THIS SEAT. 12 by the template 'for every input the law returns true; each argument reads behind the call as it read before'; 0 by the template 'total and deterministic' (their statements: YtijomdbjgfahbaaTotals.lean).
  GIVEN WITH THE SEED: the statements are not yours to turn. If you find one false, say at which input.
  Laid BY PROGRAM, IN A SANDBOX (cutbox-rows.mjs): the forced cells as the released guide's own fill.sh prints them over the translation d7168edda4f13a0a… (all of the seat's roots in one cut). By AI agents, Wed Nov 11 2026. No macro, syntax, notation, axiom, sorry.
-/
import Derived.Test.YtijomdbjgfahbaaChecked
import GoSem.Claim
import GoSem.ClaimJoined
import GoSem.ClaimMapViews
import Derived.JoinedTies
import Derived.KernelRfl
namespace Go.Proofs.Ytijomdbjgfahbaa
/- THE CELL 'sum', in the pinned program and in every row, IS THE sha256 OF THE DUMP (.gsa) THAT YtijomdbjgfahbaaProg.lean LOADS. Nothing in Lean hashes anything: it is a label: what it is worth is what the hold of that sum in a sandbox is worth. -/
noncomputable def Try.pinned : Pinned := { name := "ytijomdbjgfahbaa", sum := "d7168edda4f13a0a822404aa93183416cab5786d786b76a179dc2b75e43cba03", checked := Try.checked }
namespace Rows
def none {H : Type} : Left H := { results := [], args := [] }

/-- 'laws.FnExactMeets': WHATEVER THE INPUT: true; the input reads as it did. -/
def fnExactMeetsSpec : ChangeSpec := { name := "fnExactMeets", fn := fun _ => fun
  | [d1, d2] => { results := [.lit (.bool true)], args := [d1, d2] }
  | _ => none }
def fnExactMeetsRow : OpenClaim := { program := "ytijomdbjgfahbaa", sum := "d7168edda4f13a0a822404aa93183416cab5786d786b76a179dc2b75e43cba03", func := "loop.example/g00989/laws.FnExactMeets", spec := "fnExactMeets", apart := false }
def FnExactMeetsSaid : Prop := fnExactMeetsRow.holds Try.pinned (OpenSpec.ofChange fnExactMeetsSpec)

/-- ITS FALSE NEIGHBOUR: 'it returns false'. Refute it at one input. -/
def fnExactMeetsWrong : ChangeSpec := { name := "fnExactMeets", fn := fun _ => fun
  | [d1, d2] => { results := [.lit (.bool false)], args := [d1, d2] }
  | _ => none }
def FnExactMeetsWrongFalsely : Prop := fnExactMeetsRow.holds Try.pinned (OpenSpec.ofChange fnExactMeetsWrong)

/-- 'laws.FnWishes': WHATEVER THE INPUT: true; the input reads as it did. -/
def fnWishesSpec : ChangeSpec := { name := "fnWishes", fn := fun _ => fun
  | [d] => { results := [.lit (.bool true)], args := [d] }
  | _ => none }
def fnWishesRow : OpenClaim := { program := "ytijomdbjgfahbaa", sum := "d7168edda4f13a0a822404aa93183416cab5786d786b76a179dc2b75e43cba03", func := "loop.example/g00989/laws.FnWishes", spec := "fnWishes", recurses := true, apart := false }
def FnWishesSaid : Prop := fnWishesRow.holds Try.pinned (OpenSpec.ofChange fnWishesSpec)

/-- ITS FALSE NEIGHBOUR: 'it returns false'. Refute it at one input. -/
def fnWishesWrong : ChangeSpec := { name := "fnWishes", fn := fun _ => fun
  | [d] => { results := [.lit (.bool false)], args := [d] }
  | _ => none }
def FnWishesWrongFalsely : Prop := fnWishesRow.holds Try.pinned (OpenSpec.ofChange fnWishesWrong)

/-- 'laws.FnMaps': WHATEVER THE INPUT: true; the input reads as it did. -/
def fnMapsSpec : ChangeSpec := { name := "fnMaps", fn := fun _ => fun
  | [d] => { results := [.lit (.bool true)], args := [d] }
  | _ => none }
def fnMapsRow : OpenClaim := { program := "ytijomdbjgfahbaa", sum := "d7168edda4f13a0a822404aa93183416cab5786d786b76a179dc2b75e43cba03", func := "loop.example/g00989/laws.FnMaps", spec := "fnMaps", apart := false }
def FnMapsSaid : Prop := fnMapsRow.holds Try.pinned (OpenSpec.ofChange fnMapsSpec)

/-- ITS FALSE NEIGHBOUR: 'it returns false'. Refute it at one input. -/
def fnMapsWrong : ChangeSpec := { name := "fnMaps", fn := fun _ => fun
  | [d] => { results := [.lit (.bool false)], args := [d] }
  | _ => none }
def FnMapsWrongFalsely : Prop := fnMapsRow.holds Try.pinned (OpenSpec.ofChange fnMapsWrong)

/-- 'laws.FnExactCountMeeting': WHATEVER THE INPUT: true; the input reads as it did. -/
def fnExactCountMeetingSpec : ChangeSpec := { name := "fnExactCountMeeting", fn := fun _ => fun
  | [d1, d2] => { results := [.lit (.bool true)], args := [d1, d2] }
  | _ => none }
def fnExactCountMeetingRow : OpenClaim := { program := "ytijomdbjgfahbaa", sum := "d7168edda4f13a0a822404aa93183416cab5786d786b76a179dc2b75e43cba03", func := "loop.example/g00989/laws.FnExactCountMeeting", spec := "fnExactCountMeeting", recurses := true, apart := false }
def FnExactCountMeetingSaid : Prop := fnExactCountMeetingRow.holds Try.pinned (OpenSpec.ofChange fnExactCountMeetingSpec)

/-- ITS FALSE NEIGHBOUR: 'it returns false'. Refute it at one input. -/
def fnExactCountMeetingWrong : ChangeSpec := { name := "fnExactCountMeeting", fn := fun _ => fun
  | [d1, d2] => { results := [.lit (.bool false)], args := [d1, d2] }
  | _ => none }
def FnExactCountMeetingWrongFalsely : Prop := fnExactCountMeetingRow.holds Try.pinned (OpenSpec.ofChange fnExactCountMeetingWrong)

/-- 'laws.FnExactIsComma': WHATEVER THE INPUT: true; the input reads as it did. -/
def fnExactIsCommaSpec : ChangeSpec := { name := "fnExactIsComma", fn := fun _ => fun
  | [d] => { results := [.lit (.bool true)], args := [d] }
  | _ => none }
def fnExactIsCommaRow : OpenClaim := { program := "ytijomdbjgfahbaa", sum := "d7168edda4f13a0a822404aa93183416cab5786d786b76a179dc2b75e43cba03", func := "loop.example/g00989/laws.FnExactIsComma", spec := "fnExactIsComma", apart := false }
def FnExactIsCommaSaid : Prop := fnExactIsCommaRow.holds Try.pinned (OpenSpec.ofChange fnExactIsCommaSpec)

/-- ITS FALSE NEIGHBOUR: 'it returns false'. Refute it at one input. -/
def fnExactIsCommaWrong : ChangeSpec := { name := "fnExactIsComma", fn := fun _ => fun
  | [d] => { results := [.lit (.bool false)], args := [d] }
  | _ => none }
def FnExactIsCommaWrongFalsely : Prop := fnExactIsCommaRow.holds Try.pinned (OpenSpec.ofChange fnExactIsCommaWrong)

/-- 'laws.FnExactThirdError': WHATEVER THE INPUT: true; the input reads as it did. -/
def fnExactThirdErrorSpec : ChangeSpec := { name := "fnExactThirdError", fn := fun _ => fun
  | [d1, d2] => { results := [.lit (.bool true)], args := [d1, d2] }
  | _ => none }
def fnExactThirdErrorRow : OpenClaim := { program := "ytijomdbjgfahbaa", sum := "d7168edda4f13a0a822404aa93183416cab5786d786b76a179dc2b75e43cba03", func := "loop.example/g00989/laws.FnExactThirdError", spec := "fnExactThirdError", apart := false }
def FnExactThirdErrorSaid : Prop := fnExactThirdErrorRow.holds Try.pinned (OpenSpec.ofChange fnExactThirdErrorSpec)

/-- ITS FALSE NEIGHBOUR: 'it returns false'. Refute it at one input. -/
def fnExactThirdErrorWrong : ChangeSpec := { name := "fnExactThirdError", fn := fun _ => fun
  | [d1, d2] => { results := [.lit (.bool false)], args := [d1, d2] }
  | _ => none }
def FnExactThirdErrorWrongFalsely : Prop := fnExactThirdErrorRow.holds Try.pinned (OpenSpec.ofChange fnExactThirdErrorWrong)

/-- 'laws.FnCommas': WHATEVER THE INPUT: true; the input reads as it did. -/
def fnCommasSpec : ChangeSpec := { name := "fnCommas", fn := fun _ => fun
  | [d] => { results := [.lit (.bool true)], args := [d] }
  | _ => none }
def fnCommasRow : OpenClaim := { program := "ytijomdbjgfahbaa", sum := "d7168edda4f13a0a822404aa93183416cab5786d786b76a179dc2b75e43cba03", func := "loop.example/g00989/laws.FnCommas", spec := "fnCommas", apart := false }
def FnCommasSaid : Prop := fnCommasRow.holds Try.pinned (OpenSpec.ofChange fnCommasSpec)

/-- ITS FALSE NEIGHBOUR: 'it returns false'. Refute it at one input. -/
def fnCommasWrong : ChangeSpec := { name := "fnCommas", fn := fun _ => fun
  | [d] => { results := [.lit (.bool false)], args := [d] }
  | _ => none }
def FnCommasWrongFalsely : Prop := fnCommasRow.holds Try.pinned (OpenSpec.ofChange fnCommasWrong)

/-- 'laws.FnExactSharedBy': WHATEVER THE INPUT: true; the input reads as it did. -/
def fnExactSharedBySpec : ChangeSpec := { name := "fnExactSharedBy", fn := fun _ => fun
  | [d1, d2] => { results := [.lit (.bool true)], args := [d1, d2] }
  | _ => none }
def fnExactSharedByRow : OpenClaim := { program := "ytijomdbjgfahbaa", sum := "d7168edda4f13a0a822404aa93183416cab5786d786b76a179dc2b75e43cba03", func := "loop.example/g00989/laws.FnExactSharedBy", spec := "fnExactSharedBy", apart := false }
def FnExactSharedBySaid : Prop := fnExactSharedByRow.holds Try.pinned (OpenSpec.ofChange fnExactSharedBySpec)

/-- ITS FALSE NEIGHBOUR: 'it returns false'. Refute it at one input. -/
def fnExactSharedByWrong : ChangeSpec := { name := "fnExactSharedBy", fn := fun _ => fun
  | [d1, d2] => { results := [.lit (.bool false)], args := [d1, d2] }
  | _ => none }
def FnExactSharedByWrongFalsely : Prop := fnExactSharedByRow.holds Try.pinned (OpenSpec.ofChange fnExactSharedByWrong)

/-- 'laws.FnMeans': WHATEVER THE INPUT: true; the input reads as it did. -/
def fnMeansSpec : ChangeSpec := { name := "fnMeans", fn := fun _ => fun
  | [d] => { results := [.lit (.bool true)], args := [d] }
  | _ => none }
def fnMeansRow : OpenClaim := { program := "ytijomdbjgfahbaa", sum := "d7168edda4f13a0a822404aa93183416cab5786d786b76a179dc2b75e43cba03", func := "loop.example/g00989/laws.FnMeans", spec := "fnMeans", apart := false }
def FnMeansSaid : Prop := fnMeansRow.holds Try.pinned (OpenSpec.ofChange fnMeansSpec)

/-- ITS FALSE NEIGHBOUR: 'it returns false'. Refute it at one input. -/
def fnMeansWrong : ChangeSpec := { name := "fnMeans", fn := fun _ => fun
  | [d] => { results := [.lit (.bool false)], args := [d] }
  | _ => none }
def FnMeansWrongFalsely : Prop := fnMeansRow.holds Try.pinned (OpenSpec.ofChange fnMeansWrong)

/-- 'laws.FnExactCirclesHeard': WHATEVER THE INPUT: true; the input reads as it did. -/
def fnExactCirclesHeardSpec : ChangeSpec := { name := "fnExactCirclesHeard", fn := fun _ => fun
  | [d1, d2] => { results := [.lit (.bool true)], args := [d1, d2] }
  | _ => none }
def fnExactCirclesHeardRow : OpenClaim := { program := "ytijomdbjgfahbaa", sum := "d7168edda4f13a0a822404aa93183416cab5786d786b76a179dc2b75e43cba03", func := "loop.example/g00989/laws.FnExactCirclesHeard", spec := "fnExactCirclesHeard", recurses := true, apart := false }
def FnExactCirclesHeardSaid : Prop := fnExactCirclesHeardRow.holds Try.pinned (OpenSpec.ofChange fnExactCirclesHeardSpec)

/-- ITS FALSE NEIGHBOUR: 'it returns false'. Refute it at one input. -/
def fnExactCirclesHeardWrong : ChangeSpec := { name := "fnExactCirclesHeard", fn := fun _ => fun
  | [d1, d2] => { results := [.lit (.bool false)], args := [d1, d2] }
  | _ => none }
def FnExactCirclesHeardWrongFalsely : Prop := fnExactCirclesHeardRow.holds Try.pinned (OpenSpec.ofChange fnExactCirclesHeardWrong)

/-- 'laws.FnExactNearestHeard': WHATEVER THE INPUT: true; the input reads as it did. -/
def fnExactNearestHeardSpec : ChangeSpec := { name := "fnExactNearestHeard", fn := fun _ => fun
  | [d1, d2] => { results := [.lit (.bool true)], args := [d1, d2] }
  | _ => none }
def fnExactNearestHeardRow : OpenClaim := { program := "ytijomdbjgfahbaa", sum := "d7168edda4f13a0a822404aa93183416cab5786d786b76a179dc2b75e43cba03", func := "loop.example/g00989/laws.FnExactNearestHeard", spec := "fnExactNearestHeard", recurses := true, apart := false }
def FnExactNearestHeardSaid : Prop := fnExactNearestHeardRow.holds Try.pinned (OpenSpec.ofChange fnExactNearestHeardSpec)

/-- ITS FALSE NEIGHBOUR: 'it returns false'. Refute it at one input. -/
def fnExactNearestHeardWrong : ChangeSpec := { name := "fnExactNearestHeard", fn := fun _ => fun
  | [d1, d2] => { results := [.lit (.bool false)], args := [d1, d2] }
  | _ => none }
def FnExactNearestHeardWrongFalsely : Prop := fnExactNearestHeardRow.holds Try.pinned (OpenSpec.ofChange fnExactNearestHeardWrong)

/-- 'laws.FnExactFirstMeeting': WHATEVER THE INPUT: true; the input reads as it did. -/
def fnExactFirstMeetingSpec : ChangeSpec := { name := "fnExactFirstMeeting", fn := fun _ => fun
  | [d1, d2] => { results := [.lit (.bool true)], args := [d1, d2] }
  | _ => none }
def fnExactFirstMeetingRow : OpenClaim := { program := "ytijomdbjgfahbaa", sum := "d7168edda4f13a0a822404aa93183416cab5786d786b76a179dc2b75e43cba03", func := "loop.example/g00989/laws.FnExactFirstMeeting", spec := "fnExactFirstMeeting", recurses := true, apart := false }
def FnExactFirstMeetingSaid : Prop := fnExactFirstMeetingRow.holds Try.pinned (OpenSpec.ofChange fnExactFirstMeetingSpec)

/-- ITS FALSE NEIGHBOUR: 'it returns false'. Refute it at one input. -/
def fnExactFirstMeetingWrong : ChangeSpec := { name := "fnExactFirstMeeting", fn := fun _ => fun
  | [d1, d2] => { results := [.lit (.bool false)], args := [d1, d2] }
  | _ => none }
def FnExactFirstMeetingWrongFalsely : Prop := fnExactFirstMeetingRow.holds Try.pinned (OpenSpec.ofChange fnExactFirstMeetingWrong)

/- THE SECOND FORM. 'bulk': how many values and letters a reading holds, each counted each time it is reached (what is shared counts as often as it is met; a slice's spare places count too). A statement '..UptoSaid' is the law's where the arguments, and the package variables that the reading takes, are together of bulk at most 1048576: NARROWER than '..Said'. Prove '..Said' where nothing that the law and all that it calls make is longer than what came in: it says more and counts as full. Else prove '..UptoSaid'. A law counts once. -/
mutual
def uptoBulk {H : Type} : DataW H → Nat
  | .lit (.string bytes) => bytes.length + 1
  | .lit _ => 1
  | .nil => 1
  | .ptr d => uptoBulk d + 1
  | .slice elems spare => uptoBulkAll elems + uptoBulkAll spare + 1
  | .agg parts => uptoBulkAll parts + 1
  | .iface _ d => uptoBulk d + 1
  | .map entries => uptoBulkEntries entries + 1
  | .held _ => 1
def uptoBulkAll {H : Type} : List (DataW H) → Nat
  | [] => 0
  | d :: r => uptoBulk d + uptoBulkAll r
def uptoBulkEntries {H : Type} : List (Lit × DataW H) → Nat
  | [] => 0
  | x :: r => uptoBulkEntry x + uptoBulkEntries r
def uptoBulkEntry {H : Type} : Lit × DataW H → Nat
  | (.string bytes, d) => bytes.length + uptoBulk d + 1
  | (_, d) => uptoBulk d + 1
 end
def uptoSmall : (H : Type) → List (DataW H) → Bool := fun _ ds => decide (uptoBulkAll ds ≤ 1048576)
def OpenSpec.upto (s : _root_.Go.ChangeSpec) : _root_.Go.OpenSpec := { _root_.Go.OpenSpec.ofChange s with cond := some uptoSmall }

/-- 'laws.FnExactMeets', WHERE WHAT IT READS IS OF BULK AT MOST 1048576: true; the input reads as it did. -/
def fnExactMeetsUptoRow : OpenClaim := { program := "ytijomdbjgfahbaa", sum := "d7168edda4f13a0a822404aa93183416cab5786d786b76a179dc2b75e43cba03", func := "loop.example/g00989/laws.FnExactMeets", spec := "fnExactMeets", apart := false, narrowed := true }
def FnExactMeetsUptoSaid : Prop := fnExactMeetsUptoRow.holds Try.pinned (OpenSpec.upto fnExactMeetsSpec)

/-- 'laws.FnWishes', WHERE WHAT IT READS IS OF BULK AT MOST 1048576: true; the input reads as it did. -/
def fnWishesUptoRow : OpenClaim := { program := "ytijomdbjgfahbaa", sum := "d7168edda4f13a0a822404aa93183416cab5786d786b76a179dc2b75e43cba03", func := "loop.example/g00989/laws.FnWishes", spec := "fnWishes", recurses := true, apart := false, narrowed := true }
def FnWishesUptoSaid : Prop := fnWishesUptoRow.holds Try.pinned (OpenSpec.upto fnWishesSpec)

/-- 'laws.FnMaps', WHERE WHAT IT READS IS OF BULK AT MOST 1048576: true; the input reads as it did. -/
def fnMapsUptoRow : OpenClaim := { program := "ytijomdbjgfahbaa", sum := "d7168edda4f13a0a822404aa93183416cab5786d786b76a179dc2b75e43cba03", func := "loop.example/g00989/laws.FnMaps", spec := "fnMaps", apart := false, narrowed := true }
def FnMapsUptoSaid : Prop := fnMapsUptoRow.holds Try.pinned (OpenSpec.upto fnMapsSpec)

/-- 'laws.FnExactCountMeeting', WHERE WHAT IT READS IS OF BULK AT MOST 1048576: true; the input reads as it did. -/
def fnExactCountMeetingUptoRow : OpenClaim := { program := "ytijomdbjgfahbaa", sum := "d7168edda4f13a0a822404aa93183416cab5786d786b76a179dc2b75e43cba03", func := "loop.example/g00989/laws.FnExactCountMeeting", spec := "fnExactCountMeeting", recurses := true, apart := false, narrowed := true }
def FnExactCountMeetingUptoSaid : Prop := fnExactCountMeetingUptoRow.holds Try.pinned (OpenSpec.upto fnExactCountMeetingSpec)

/-- 'laws.FnExactIsComma', WHERE WHAT IT READS IS OF BULK AT MOST 1048576: true; the input reads as it did. -/
def fnExactIsCommaUptoRow : OpenClaim := { program := "ytijomdbjgfahbaa", sum := "d7168edda4f13a0a822404aa93183416cab5786d786b76a179dc2b75e43cba03", func := "loop.example/g00989/laws.FnExactIsComma", spec := "fnExactIsComma", apart := false, narrowed := true }
def FnExactIsCommaUptoSaid : Prop := fnExactIsCommaUptoRow.holds Try.pinned (OpenSpec.upto fnExactIsCommaSpec)

/-- 'laws.FnExactThirdError', WHERE WHAT IT READS IS OF BULK AT MOST 1048576: true; the input reads as it did. -/
def fnExactThirdErrorUptoRow : OpenClaim := { program := "ytijomdbjgfahbaa", sum := "d7168edda4f13a0a822404aa93183416cab5786d786b76a179dc2b75e43cba03", func := "loop.example/g00989/laws.FnExactThirdError", spec := "fnExactThirdError", apart := false, narrowed := true }
def FnExactThirdErrorUptoSaid : Prop := fnExactThirdErrorUptoRow.holds Try.pinned (OpenSpec.upto fnExactThirdErrorSpec)

/-- 'laws.FnCommas', WHERE WHAT IT READS IS OF BULK AT MOST 1048576: true; the input reads as it did. -/
def fnCommasUptoRow : OpenClaim := { program := "ytijomdbjgfahbaa", sum := "d7168edda4f13a0a822404aa93183416cab5786d786b76a179dc2b75e43cba03", func := "loop.example/g00989/laws.FnCommas", spec := "fnCommas", apart := false, narrowed := true }
def FnCommasUptoSaid : Prop := fnCommasUptoRow.holds Try.pinned (OpenSpec.upto fnCommasSpec)

/-- 'laws.FnExactSharedBy', WHERE WHAT IT READS IS OF BULK AT MOST 1048576: true; the input reads as it did. -/
def fnExactSharedByUptoRow : OpenClaim := { program := "ytijomdbjgfahbaa", sum := "d7168edda4f13a0a822404aa93183416cab5786d786b76a179dc2b75e43cba03", func := "loop.example/g00989/laws.FnExactSharedBy", spec := "fnExactSharedBy", apart := false, narrowed := true }
def FnExactSharedByUptoSaid : Prop := fnExactSharedByUptoRow.holds Try.pinned (OpenSpec.upto fnExactSharedBySpec)

/-- 'laws.FnMeans', WHERE WHAT IT READS IS OF BULK AT MOST 1048576: true; the input reads as it did. -/
def fnMeansUptoRow : OpenClaim := { program := "ytijomdbjgfahbaa", sum := "d7168edda4f13a0a822404aa93183416cab5786d786b76a179dc2b75e43cba03", func := "loop.example/g00989/laws.FnMeans", spec := "fnMeans", apart := false, narrowed := true }
def FnMeansUptoSaid : Prop := fnMeansUptoRow.holds Try.pinned (OpenSpec.upto fnMeansSpec)

/-- 'laws.FnExactCirclesHeard', WHERE WHAT IT READS IS OF BULK AT MOST 1048576: true; the input reads as it did. -/
def fnExactCirclesHeardUptoRow : OpenClaim := { program := "ytijomdbjgfahbaa", sum := "d7168edda4f13a0a822404aa93183416cab5786d786b76a179dc2b75e43cba03", func := "loop.example/g00989/laws.FnExactCirclesHeard", spec := "fnExactCirclesHeard", recurses := true, apart := false, narrowed := true }
def FnExactCirclesHeardUptoSaid : Prop := fnExactCirclesHeardUptoRow.holds Try.pinned (OpenSpec.upto fnExactCirclesHeardSpec)

/-- 'laws.FnExactNearestHeard', WHERE WHAT IT READS IS OF BULK AT MOST 1048576: true; the input reads as it did. -/
def fnExactNearestHeardUptoRow : OpenClaim := { program := "ytijomdbjgfahbaa", sum := "d7168edda4f13a0a822404aa93183416cab5786d786b76a179dc2b75e43cba03", func := "loop.example/g00989/laws.FnExactNearestHeard", spec := "fnExactNearestHeard", recurses := true, apart := false, narrowed := true }
def FnExactNearestHeardUptoSaid : Prop := fnExactNearestHeardUptoRow.holds Try.pinned (OpenSpec.upto fnExactNearestHeardSpec)

/-- 'laws.FnExactFirstMeeting', WHERE WHAT IT READS IS OF BULK AT MOST 1048576: true; the input reads as it did. -/
def fnExactFirstMeetingUptoRow : OpenClaim := { program := "ytijomdbjgfahbaa", sum := "d7168edda4f13a0a822404aa93183416cab5786d786b76a179dc2b75e43cba03", func := "loop.example/g00989/laws.FnExactFirstMeeting", spec := "fnExactFirstMeeting", recurses := true, apart := false, narrowed := true }
def FnExactFirstMeetingUptoSaid : Prop := fnExactFirstMeetingUptoRow.holds Try.pinned (OpenSpec.upto fnExactFirstMeetingSpec)

end Rows
end Go.Proofs.Ytijomdbjgfahbaa
