/- The law FnExactMapOk over whole numbers alone: the program's MapOk and the reference's give one answer. Conditions: none. -/
import Derived.Test.YtpjilchaeecpcaaPFnExactMapOkx1
namespace Go.Proofs.Ytpjilchaeecpcaa.Pure
open Go.RowKit Go.Proofs.Ytpjilchaeecpcaa.PFnExactMapOk Go.Proofs.YtpjilchaeecpcaaW.PrintWords Go.Proofs.YtpjilchaeecpcaaW.PrintLast

theorem l01In_eq (a b c : Int) : spec_l01In.f a b c = some (decide (b ≤ a ∧ a ≤ c)) := by
  unfold spec_l01In.f
  by_cases h : b ≤ a <;> simp [h]
theorem within_eq (a b c : Int) : impl_within.f a b c = some (decide (b ≤ a ∧ a ≤ c)) := by
  unfold impl_within.f
  by_cases h : b ≤ a <;> simp [h]
def mapOk (a b c : Int) : Bool := decide ((1 ≤ a ∧ a ≤ 60) ∧ (0 ≤ b ∧ b ≤ 200) ∧ (0 ≤ c ∧ c ≤ 200))
theorem spec_mapOk (a b c : Int) : spec_MapOk.f a b c = some (mapOk a b c) := by
  unfold spec_MapOk.f mapOk
  simp only [l01In_eq, Option.bind_some]
  by_cases h1 : 1 ≤ a ∧ a ≤ 60 <;> by_cases h2 : 0 ≤ b ∧ b ≤ 200 <;> simp [h1, h2]
theorem impl_mapOk (a b c : Int) : impl_MapOk.f a b c = some (mapOk a b c) := by
  unfold impl_MapOk.f mapOk
  simp only [within_eq, Option.bind_some]
  by_cases h1 : 1 ≤ a ∧ a ≤ 60 <;> by_cases h2 : 0 ≤ b ∧ b ≤ 200 <;> simp [h1, h2]

theorem FnExactMapOk (a b c : Int) (_ : (Lit.int .i64 a).wf = true) (_ : (Lit.int .i64 b).wf = true) (_ : (Lit.int .i64 c).wf = true) : laws_FnExactMapOk.f a b c = some true := by
  unfold laws_FnExactMapOk.f laws_toMap.f
  simp [spec_mapOk, impl_mapOk]

end Go.Proofs.Ytpjilchaeecpcaa.Pure
