/- The law FnExactCommaOf over whole numbers alone: the program's CommaOf and the reference's give one answer. Conditions: none. -/
import Derived.Test.YtpjilchaeecpcaaPFnExactCommaOfx1
import Derived.Test.YtpjilchaeecpcaaWMore
namespace Go.Proofs.Ytpjilchaeecpcaa.Pure
open Go.RowKit Go.Proofs.Ytpjilchaeecpcaa.PFnExactCommaOf Go.Proofs.YtpjilchaeecpcaaW.PrintWords Go.Proofs.YtpjilchaeecpcaaW.PrintLast Go.Proofs.YtpjilchaeecpcaaW.PrintMore
set_option linter.unusedVariables false
set_option linter.unusedSimpArgs false

theorem l01In_eq (a b c : Int) : spec_l01In.f a b c = some (decide (b ≤ a ∧ a ≤ c)) := by
  unfold spec_l01In.f
  by_cases h : b ≤ a <;> simp [h]
theorem within_eq (a b c : Int) : impl_within.f a b c = some (decide (b ≤ a ∧ a ≤ c)) := by
  unfold impl_within.f
  by_cases h : b ≤ a <;> simp [h]

def iok (a b c d : Int) : Bool := decide ((1 ≤ d ∧ d ≤ 12) ∧ (-400 ≤ a ∧ a ≤ 400) ∧ (-400 ≤ b ∧ b ≤ 400) ∧ (-400 ≤ c ∧ c ≤ 400))
theorem spec_iok (a b c d : Int) : spec_IntervalOk.f a b c d = some (iok a b c d) := by
  unfold spec_IntervalOk.f iok
  simp only [l01In_eq, Option.bind_some]
  by_cases h1 : 1 ≤ d ∧ d ≤ 12 <;> by_cases h2 : -400 ≤ a ∧ a ≤ 400 <;> by_cases h3 : -400 ≤ b ∧ b ≤ 400 <;> simp [h1, h2, h3]
theorem impl_iok (a b c d : Int) : impl_IntervalOk.f a b c d = some (iok a b c d) := by
  unfold impl_IntervalOk.f iok
  simp only [within_eq, Option.bind_some]
  by_cases h1 : 1 ≤ d ∧ d ≤ 12 <;> by_cases h2 : -400 ≤ a ∧ a ≤ 400 <;> by_cases h3 : -400 ≤ b ∧ b ≤ 400 <;> simp [h1, h2, h3]
theorem iok_bounds {a b c d : Int} (h : iok a b c d = true) : (1 ≤ d ∧ d ≤ 12) ∧ (-400 ≤ a ∧ a ≤ 400) ∧ (-400 ≤ b ∧ b ≤ 400) ∧ (-400 ≤ c ∧ c ≤ 400) := of_decide_eq_true h
theorem iok_mk {a b c d : Int} (h : (1 ≤ d ∧ d ≤ 12) ∧ (-400 ≤ a ∧ a ≤ 400) ∧ (-400 ≤ b ∧ b ≤ 400) ∧ (-400 ≤ c ∧ c ≤ 400)) : iok a b c d = true := decide_eq_true h

def pureOf (a b c : Int) : Int × Int × Int × Int := if iok a b c 1 = true then (a, b, c, 1) else (0, 0, 0, 0)
theorem impl_pureOf (a b c : Int) : impl_PureOf.f a b c = some (pureOf a b c) := by
  unfold impl_PureOf.f pureOf
  simp only [impl_iok, Option.bind_some]
  split <;> rfl

theorem spec_pureOf (a b c : Int) : spec_PureOf.f a b c = some (pureOf a b c) := by
  unfold spec_PureOf.f pureOf
  simp only [spec_iok, Option.bind_some]
  split <;> rfl

def commaOf (k : Int) : Int × Int × Int × Int := if k = 1 then (-19, 12, 0, 1) else if k = 2 then (-4, 4, -1, 1) else if k = 3 then (7, 0, -3, 1) else if k = 4 then (-15, 8, 1, 1) else if k = 5 then (11, -4, -2, 1) else if k = 6 then (3, 4, -4, 1) else (0, 0, 0, 0)
theorem impl_commaOf (k : Int) : impl_CommaOf.f k = some (commaOf k) := by
  unfold impl_CommaOf.f commaOf
  simp only [impl_pureOf, Option.bind_some]
  repeat' split
  all_goals rfl

theorem spec_commaOf (k : Int) : spec_CommaOf.f k = some (commaOf k) := by
  unfold spec_CommaOf.f commaOf
  simp only [spec_pureOf, Option.bind_some]
  repeat' split
  all_goals rfl

theorem eqInterval_refl (a b c d : Int) : laws_eqInterval.f a b c d a b c d = some true := by
  unfold laws_eqInterval.f; simp

theorem FnExactCommaOf : laws_FnExactCommaOf.Pure := by
  intro a0 _
  unfold laws_FnExactCommaOf.f
  simp [spec_commaOf, impl_commaOf, eqInterval_refl]

end Go.Proofs.Ytpjilchaeecpcaa.Pure
