/- The law FnExactHides over whole numbers alone: the program's Hides and the reference's give one answer. Conditions: none. -/
import Derived.Test.YtpjilchaeecpcaaPFnExactHidesx2
import Derived.Test.YtpjilchaeecpcaaWMore
namespace Go.Proofs.Ytpjilchaeecpcaa.Pure
open Go.RowKit Go.Proofs.Ytpjilchaeecpcaa.PFnExactHides Go.Proofs.YtpjilchaeecpcaaW.PrintWords Go.Proofs.YtpjilchaeecpcaaW.PrintLast Go.Proofs.YtpjilchaeecpcaaW.PrintMore
set_option linter.unusedVariables false
set_option linter.unusedSimpArgs false

theorem wrap_id {x : Int} (h : -4611686018427387904 ≤ x ∧ x ≤ 4611686018427387904) : wrap64 x = x := by
  unfold wrap64; omega

theorem l01In_eq (a b c : Int) : spec_l01In.f a b c = some (decide (b ≤ a ∧ a ≤ c)) := by
  unfold spec_l01In.f
  by_cases h : b ≤ a <;> simp [h]
theorem within_eq (a b c : Int) : impl_within.f a b c = some (decide (b ≤ a ∧ a ≤ c)) := by
  unfold impl_within.f
  by_cases h : b ≤ a <;> simp [h]

def mapOk (a b c : Int) : Bool := decide ((1 ≤ a ∧ a ≤ 60) ∧ (0 ≤ b ∧ b ≤ 200) ∧ (0 ≤ c ∧ c ≤ 200))
theorem spec_mapOk (a b c : Int) : spec_MapOk.f a b c = some (mapOk a b c) := by
  unfold spec_MapOk.f mapOk
  simp only [l01In_eq, Option.bind_some]
  by_cases h1 : 1 ≤ a ∧ a ≤ 60 <;> by_cases h2 : 0 ≤ b ∧ b ≤ 200 <;> simp [h1, h2]
theorem impl_mapOk (a b c : Int) : impl_MapOk.f a b c = some (mapOk a b c) := by
  unfold impl_MapOk.f mapOk
  simp only [within_eq, Option.bind_some]
  by_cases h1 : 1 ≤ a ∧ a ≤ 60 <;> by_cases h2 : 0 ≤ b ∧ b ≤ 200 <;> simp [h1, h2]
theorem mapOk_bounds {a b c : Int} (h : mapOk a b c = true) : (1 ≤ a ∧ a ≤ 60) ∧ (0 ≤ b ∧ b ≤ 200) ∧ (0 ≤ c ∧ c ≤ 200) := of_decide_eq_true h

def iok (a b c d : Int) : Bool := decide ((1 ≤ d ∧ d ≤ 12) ∧ (-400 ≤ a ∧ a ≤ 400) ∧ (-400 ≤ b ∧ b ≤ 400) ∧ (-400 ≤ c ∧ c ≤ 400))
theorem spec_iok (a b c d : Int) : spec_IntervalOk.f a b c d = some (iok a b c d) := by
  unfold spec_IntervalOk.f iok
  simp only [l01In_eq, Option.bind_some]
  by_cases h1 : 1 ≤ d ∧ d ≤ 12 <;> by_cases h2 : -400 ≤ a ∧ a ≤ 400 <;> by_cases h3 : -400 ≤ b ∧ b ≤ 400 <;> simp [h1, h2, h3]
theorem impl_iok (a b c d : Int) : impl_IntervalOk.f a b c d = some (iok a b c d) := by
  unfold impl_IntervalOk.f iok
  simp only [within_eq, Option.bind_some]
  by_cases h1 : 1 ≤ d ∧ d ≤ 12 <;> by_cases h2 : -400 ≤ a ∧ a ≤ 400 <;> by_cases h3 : -400 ≤ b ∧ b ≤ 400 <;> simp [h1, h2, h3]
theorem iok_bounds {a b c d : Int} (h : iok a b c d = true) : (1 ≤ d ∧ d ≤ 12) ∧ (-400 ≤ a ∧ a ≤ 400) ∧ (-400 ≤ b ∧ b ≤ 400) ∧ (-400 ≤ c ∧ c ≤ 400) := of_decide_eq_true h
theorem iok_mk {a b c d : Int} (h : (1 ≤ d ∧ d ≤ 12) ∧ (-400 ≤ a ∧ a ≤ 400) ∧ (-400 ≤ b ∧ b ≤ 400) ∧ (-400 ≤ c ∧ c ≤ 400)) : iok a b c d = true := decide_eq_true h

def stepsIn (a b c x y z r : Int) : Int × Bool := if mapOk a b c = true ∧ iok x y z r = true ∧ r = 1 then (a * x + b * y + c * z, true) else (0, false)
theorem mul_bound {a x A X : Int} (ha : 0 ≤ a ∧ a ≤ A) (hx : -X ≤ x ∧ x ≤ X) : -(A * X) ≤ a * x ∧ a * x ≤ A * X := by
  have hA : 0 ≤ A := by omega
  have hX : 0 ≤ X := by omega
  constructor
  · have h1 : a * (-X) ≤ a * x := Int.mul_le_mul_of_nonneg_left hx.1 ha.1
    have h2 : a * X ≤ A * X := Int.mul_le_mul_of_nonneg_right ha.2 hX
    have h3 : a * (-X) = -(a * X) := by rw [Int.mul_neg]
    omega
  · have h1 : a * x ≤ a * X := Int.mul_le_mul_of_nonneg_left hx.2 ha.1
    have h2 : a * X ≤ A * X := Int.mul_le_mul_of_nonneg_right ha.2 hX
    omega
theorem steps_wrap {a b c x y z r : Int} (hm : mapOk a b c = true) (hi : iok x y z r = true) : wrap64 ((wrap64 ((wrap64 (a * x)) + (wrap64 (b * y)))) + (wrap64 (c * z))) = a * x + b * y + c * z := by
  obtain ⟨m1, m2, m3⟩ := mapOk_bounds hm
  obtain ⟨i1, i2, i3, i4⟩ := iok_bounds hi
  have p1 := mul_bound (a := a) (x := x) (A := 60) (X := 400) (by omega) (by omega)
  have p2 := mul_bound (a := b) (x := y) (A := 200) (X := 400) (by omega) (by omega)
  have p3 := mul_bound (a := c) (x := z) (A := 200) (X := 400) (by omega) (by omega)
  rw [wrap_id (x := a * x) (by omega), wrap_id (x := b * y) (by omega), wrap_id (x := c * z) (by omega), wrap_id (x := a * x + b * y) (by omega), wrap_id (by omega)]
theorem spec_stepsIn (a b c x y z r : Int) : spec_StepsIn.f a b c x y z r = some (stepsIn a b c x y z r) := by
  unfold spec_StepsIn.f stepsIn
  simp only [spec_mapOk, spec_iok, Option.bind_some]
  by_cases h1 : mapOk a b c = true
  · by_cases h2 : iok x y z r = true
    · rw [if_pos h1, if_pos h2, steps_wrap h1 h2]
      by_cases h3 : r = 1
      · rw [if_pos h3, if_pos ⟨h1, h2, h3⟩]
      · rw [if_neg h3, if_neg (fun h => h3 h.2.2)]
    · rw [if_pos h1, if_neg h2, if_neg (fun h => h2 h.2.1)]
  · rw [if_neg h1, if_neg (fun h => h1 h.1)]
theorem impl_stepsIn (a b c x y z r : Int) : impl_StepsIn.f a b c x y z r = some (stepsIn a b c x y z r) := by
  unfold impl_StepsIn.f stepsIn
  simp only [impl_mapOk, impl_iok, Option.bind_some]
  by_cases h1 : mapOk a b c = true
  · by_cases h2 : iok x y z r = true
    · rw [if_pos h1, if_pos h2, steps_wrap h1 h2]
      by_cases h3 : r = 1
      · rw [if_pos h3, if_pos ⟨h1, h2, h3⟩]
      · rw [if_neg h3, if_neg (fun h => h3 h.2.2)]
    · rw [if_pos h1, if_neg h2, if_neg (fun h => h2 h.2.1)]
  · rw [if_neg h1, if_neg (fun h => h1 h.1)]

def hides (a b c x y z r : Int) : Bool := (stepsIn a b c x y z r).2 && ((stepsIn a b c x y z r).1 == 0)
theorem spec_hides (a b c x y z r : Int) : spec_Hides.f a b c x y z r = some (hides a b c x y z r) := by
  unfold spec_Hides.f hides
  rw [spec_stepsIn]
  simp only [Option.bind_some]
  cases (stepsIn a b c x y z r).2 <;> simp
theorem impl_hides (a b c x y z r : Int) : impl_Hides.f a b c x y z r = some (hides a b c x y z r) := by
  unfold impl_Hides.f hides
  rw [impl_stepsIn]
  simp only [Option.bind_some]
  cases (stepsIn a b c x y z r).2 <;> simp

theorem FnExactHides (a b c x y z r : Int) (_ : (Lit.int .i64 a).wf = true) (_ : (Lit.int .i64 b).wf = true) (_ : (Lit.int .i64 c).wf = true) (_ : (Lit.int .i64 x).wf = true) (_ : (Lit.int .i64 y).wf = true) (_ : (Lit.int .i64 z).wf = true) (_ : (Lit.int .i64 r).wf = true) :
    laws_FnExactHides.f a b c x y z r = some true := by
  unfold laws_FnExactHides.f laws_toMap.f laws_toInterval.f
  simp [spec_hides, impl_hides]

end Go.Proofs.Ytpjilchaeecpcaa.Pure
