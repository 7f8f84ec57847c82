/- The law FnExactSplitComma over whole numbers alone: the program's SplitComma and the reference's give one answer. Conditions: none. -/
import Derived.Test.YtpjilchaeecpcaaPFnExactSplitCommax1
import Derived.Test.YtpjilchaeecpcaaWMore
namespace Go.Proofs.Ytpjilchaeecpcaa.Pure
open Go.RowKit Go.Proofs.Ytpjilchaeecpcaa.PFnExactSplitComma Go.Proofs.YtpjilchaeecpcaaW.PrintWords Go.Proofs.YtpjilchaeecpcaaW.PrintLast Go.Proofs.YtpjilchaeecpcaaW.PrintMore
set_option linter.unusedVariables false
set_option linter.unusedSimpArgs false

theorem l01In_eq (a b c : Int) : spec_l01In.f a b c = some (decide (b ≤ a ∧ a ≤ c)) := by
  unfold spec_l01In.f
  by_cases h : b ≤ a <;> simp [h]
theorem within_eq (a b c : Int) : impl_within.f a b c = some (decide (b ≤ a ∧ a ≤ c)) := by
  unfold impl_within.f
  by_cases h : b ≤ a <;> simp [h]

def iok (a b c d : Int) : Bool := decide ((1 ≤ d ∧ d ≤ 12) ∧ (-400 ≤ a ∧ a ≤ 400) ∧ (-400 ≤ b ∧ b ≤ 400) ∧ (-400 ≤ c ∧ c ≤ 400))
theorem spec_iok (a b c d : Int) : spec_IntervalOk.f a b c d = some (iok a b c d) := by
  unfold spec_IntervalOk.f iok
  simp only [l01In_eq, Option.bind_some]
  by_cases h1 : 1 ≤ d ∧ d ≤ 12 <;> by_cases h2 : -400 ≤ a ∧ a ≤ 400 <;> by_cases h3 : -400 ≤ b ∧ b ≤ 400 <;> simp [h1, h2, h3]
theorem impl_iok (a b c d : Int) : impl_IntervalOk.f a b c d = some (iok a b c d) := by
  unfold impl_IntervalOk.f iok
  simp only [within_eq, Option.bind_some]
  by_cases h1 : 1 ≤ d ∧ d ≤ 12 <;> by_cases h2 : -400 ≤ a ∧ a ≤ 400 <;> by_cases h3 : -400 ≤ b ∧ b ≤ 400 <;> simp [h1, h2, h3]
theorem iok_bounds {a b c d : Int} (h : iok a b c d = true) : (1 ≤ d ∧ d ≤ 12) ∧ (-400 ≤ a ∧ a ≤ 400) ∧ (-400 ≤ b ∧ b ≤ 400) ∧ (-400 ≤ c ∧ c ≤ 400) := of_decide_eq_true h
theorem iok_mk {a b c d : Int} (h : (1 ≤ d ∧ d ≤ 12) ∧ (-400 ≤ a ∧ a ≤ 400) ∧ (-400 ≤ b ∧ b ≤ 400) ∧ (-400 ≤ c ∧ c ≤ 400)) : iok a b c d = true := decide_eq_true h

theorem wrap_id {x : Int} (h : -4611686018427387904 ≤ x ∧ x ≤ 4611686018427387904) : wrap64 x = x := by
  unfold wrap64; omega

def splitTail (x y z : Int) : Int × Int × Bool :=
  if (Int.tmod (wrap64 (y - (wrap64 (4 * (wrap64 (-z)))))) 12) = 0 then
    (if x = (wrap64 ((wrap64 ((-19) * (wrap64 (Int.tdiv (wrap64 (y - (wrap64 (4 * (wrap64 (-z)))))) 12)))) - (wrap64 (4 * (wrap64 (-z)))))) ∧ (-50 ≤ (wrap64 (Int.tdiv (wrap64 (y - (wrap64 (4 * (wrap64 (-z)))))) 12)) ∧ (wrap64 (Int.tdiv (wrap64 (y - (wrap64 (4 * (wrap64 (-z)))))) 12)) ≤ 50) ∧ (-50 ≤ wrap64 (-z) ∧ wrap64 (-z) ≤ 50)
      then (wrap64 (Int.tdiv (wrap64 (y - (wrap64 (4 * (wrap64 (-z)))))) 12), wrap64 (-z), true) else (0, 0, false)) else (0, 0, false)
def splitComma (x y z r : Int) : Int × Int × Bool := if iok x y z r = true ∧ r = 1 then splitTail x y z else (0, 0, false)
theorem impl_splitTail (k : Nat) (x y z r : Int) : impl_SplitComma.j0 (k + 1) false x y z r = some (splitTail x y z) := by
  simp only [impl_SplitComma.j0, within_eq, Option.bind_some, splitTail]
  generalize wrap64 (Int.tdiv (wrap64 (y - (wrap64 (4 * (wrap64 (-z)))))) 12) = A
  generalize wrap64 ((wrap64 ((-19) * A)) - (wrap64 (4 * (wrap64 (-z))))) = C
  generalize wrap64 (-z) = B
  by_cases h1 : Int.tmod (wrap64 (y - (wrap64 (4 * B)))) 12 = 0 <;> by_cases h2 : x = C <;> by_cases h3 : -50 ≤ A ∧ A ≤ 50 <;> by_cases h4 : -50 ≤ B ∧ B ≤ 50 <;> simp [h1, h2, h3, h4, eq_comm]
theorem impl_splitComma {k : Nat} (x y z r : Int) (hk : 0 < k) : impl_SplitComma.f k x y z r = some (splitComma x y z r) := by
  obtain ⟨k, rfl⟩ : ∃ m, k = m + 1 := ⟨k - 1, by omega⟩
  unfold impl_SplitComma.f splitComma
  simp only [impl_iok, Option.bind_some]
  by_cases h1 : iok x y z r = true
  · by_cases h2 : r = 1
    · subst h2
      rw [if_pos h1, if_pos ⟨h1, rfl⟩]
      exact impl_splitTail k x y z 1
    · rw [if_pos h1, if_neg (fun h => h2 h.2)]
      have e : (r != 1) = true := by simpa using h2
      rw [e]
      simp [impl_SplitComma.j0]
  · rw [if_neg h1, if_neg (fun h => h1 h.1)]
    simp [impl_SplitComma.j0]

theorem spec_splitTail (k : Nat) (x y z r : Int) : spec_SplitComma.j0 (k + 1) false x y z r = some (splitTail x y z) := by
  simp only [spec_SplitComma.j0, l01In_eq, Option.bind_some, splitTail]
  generalize wrap64 (Int.tdiv (wrap64 (y - (wrap64 (4 * (wrap64 (-z)))))) 12) = A
  generalize wrap64 ((wrap64 ((-19) * A)) - (wrap64 (4 * (wrap64 (-z))))) = C
  generalize wrap64 (-z) = B
  by_cases h1 : Int.tmod (wrap64 (y - (wrap64 (4 * B)))) 12 = 0 <;> by_cases h2 : x = C <;> by_cases h3 : -50 ≤ A ∧ A ≤ 50 <;> by_cases h4 : -50 ≤ B ∧ B ≤ 50 <;> simp [h1, h2, h3, h4]
theorem spec_splitComma {k : Nat} (x y z r : Int) (hk : 0 < k) : spec_SplitComma.f k x y z r = some (splitComma x y z r) := by
  obtain ⟨k, rfl⟩ : ∃ m, k = m + 1 := ⟨k - 1, by omega⟩
  unfold spec_SplitComma.f splitComma
  simp only [spec_iok, Option.bind_some]
  by_cases h1 : iok x y z r = true
  · by_cases h2 : r = 1
    · subst h2
      rw [if_pos h1, if_pos ⟨h1, rfl⟩]
      exact spec_splitTail k x y z 1
    · rw [if_pos h1, if_neg (fun h => h2 h.2)]
      have e : (r != 1) = true := by simpa using h2
      rw [e]
      simp [spec_SplitComma.j0]
  · rw [if_neg h1, if_neg (fun h => h1 h.1)]
    simp [spec_SplitComma.j0]

theorem FnExactSplitComma (x y z r : Int) (_ : (Lit.int .i64 x).wf = true) (_ : (Lit.int .i64 y).wf = true) (_ : (Lit.int .i64 z).wf = true) (_ : (Lit.int .i64 r).wf = true) : ∃ k, laws_FnExactSplitComma.f k x y z r = some true := by
  refine ⟨1, ?_⟩
  unfold laws_FnExactSplitComma.f laws_toInterval.f
  simp [spec_splitComma, impl_splitComma]

end Go.Proofs.Ytpjilchaeecpcaa.Pure
