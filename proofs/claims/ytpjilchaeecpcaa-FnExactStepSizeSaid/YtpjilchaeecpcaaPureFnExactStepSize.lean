/- The law FnExactStepSize over whole numbers alone: the program's StepSize and the reference's give one answer. Conditions: none. -/
import Derived.Test.YtpjilchaeecpcaaPFnExactStepSizex1
import Derived.Test.YtpjilchaeecpcaaWMore
namespace Go.Proofs.Ytpjilchaeecpcaa.Pure
open Go.RowKit Go.Proofs.Ytpjilchaeecpcaa.PFnExactStepSize Go.Proofs.YtpjilchaeecpcaaW.PrintWords Go.Proofs.YtpjilchaeecpcaaW.PrintLast Go.Proofs.YtpjilchaeecpcaaW.PrintMore
set_option linter.unusedVariables false
set_option linter.unusedSimpArgs false

theorem l01In_eq (a b c : Int) : spec_l01In.f a b c = some (decide (b ≤ a ∧ a ≤ c)) := by
  unfold spec_l01In.f
  by_cases h : b ≤ a <;> simp [h]
theorem within_eq (a b c : Int) : impl_within.f a b c = some (decide (b ≤ a ∧ a ≤ c)) := by
  unfold impl_within.f
  by_cases h : b ≤ a <;> simp [h]

def mapOk (a b c : Int) : Bool := decide ((1 ≤ a ∧ a ≤ 60) ∧ (0 ≤ b ∧ b ≤ 200) ∧ (0 ≤ c ∧ c ≤ 200))
theorem spec_mapOk (a b c : Int) : spec_MapOk.f a b c = some (mapOk a b c) := by
  unfold spec_MapOk.f mapOk
  simp only [l01In_eq, Option.bind_some]
  by_cases h1 : 1 ≤ a ∧ a ≤ 60 <;> by_cases h2 : 0 ≤ b ∧ b ≤ 200 <;> simp [h1, h2]
theorem impl_mapOk (a b c : Int) : impl_MapOk.f a b c = some (mapOk a b c) := by
  unfold impl_MapOk.f mapOk
  simp only [within_eq, Option.bind_some]
  by_cases h1 : 1 ≤ a ∧ a ≤ 60 <;> by_cases h2 : 0 ≤ b ∧ b ≤ 200 <;> simp [h1, h2]
theorem mapOk_bounds {a b c : Int} (h : mapOk a b c = true) : (1 ≤ a ∧ a ≤ 60) ∧ (0 ≤ b ∧ b ≤ 200) ∧ (0 ≤ c ∧ c ≤ 200) := of_decide_eq_true h

def stepSize (a b c : Int) : Int × Int × Int × Int := if mapOk a b c = true ∧ a ≤ 12 then (1, 0, 0, a) else (0, 0, 0, 0)
theorem impl_stepSize (a b c : Int) : impl_StepSize.f a b c = some (stepSize a b c) := by
  unfold impl_StepSize.f stepSize
  simp only [impl_mapOk, Option.bind_some]
  by_cases h1 : mapOk a b c = true
  · by_cases h2 : a > 12
    · rw [if_pos h1, if_pos h2, if_neg (by omega)]
    · rw [if_pos h1, if_neg h2, if_pos ⟨h1, by omega⟩]
  · rw [if_neg h1, if_neg (fun h => h1 h.1)]

theorem spec_stepSize (a b c : Int) : spec_StepSize.f a b c = some (stepSize a b c) := by
  unfold spec_StepSize.f stepSize
  simp only [spec_mapOk, Option.bind_some]
  by_cases h1 : mapOk a b c = true
  · by_cases h2 : a > 12
    · rw [if_pos h1, if_pos h2, if_neg (by omega)]
    · rw [if_pos h1, if_neg h2, if_pos ⟨h1, by omega⟩]
  · rw [if_neg h1, if_neg (fun h => h1 h.1)]

theorem eqInterval_refl (a b c d : Int) : laws_eqInterval.f a b c d a b c d = some true := by
  unfold laws_eqInterval.f; simp

theorem FnExactStepSize (a b c : Int) (_ : (Lit.int .i64 a).wf = true) (_ : (Lit.int .i64 b).wf = true) (_ : (Lit.int .i64 c).wf = true) : laws_FnExactStepSize.f a b c = some true := by
  unfold laws_FnExactStepSize.f laws_toMap.f
  simp [spec_stepSize, impl_stepSize, eqInterval_refl]

end Go.Proofs.Ytpjilchaeecpcaa.Pure
