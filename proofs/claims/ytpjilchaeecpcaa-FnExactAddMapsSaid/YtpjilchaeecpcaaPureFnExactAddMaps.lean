/- The law FnExactAddMaps over whole numbers alone: the program's AddMaps and the reference's give one answer. Conditions: none. -/
import Derived.Test.YtpjilchaeecpcaaQFnExactAddMapsx2
import Derived.Test.YtpjilchaeecpcaaWMore
namespace Go.Proofs.Ytpjilchaeecpcaa.Pure
open Go.RowKit Go.Proofs.Ytpjilchaeecpcaa.PFnExactAddMaps Go.Proofs.YtpjilchaeecpcaaW.PrintWords Go.Proofs.YtpjilchaeecpcaaW.PrintLast Go.Proofs.YtpjilchaeecpcaaW.PrintMore
set_option linter.unusedVariables false
set_option linter.unusedSimpArgs false

theorem l01In_eq (a b c : Int) : spec_l01In.f a b c = some (decide (b ≤ a ∧ a ≤ c)) := by
  unfold spec_l01In.f
  by_cases h : b ≤ a <;> simp [h]
theorem within_eq (a b c : Int) : impl_within.f a b c = some (decide (b ≤ a ∧ a ≤ c)) := by
  unfold impl_within.f
  by_cases h : b ≤ a <;> simp [h]

def mapOk (a b c : Int) : Bool := decide ((1 ≤ a ∧ a ≤ 60) ∧ (0 ≤ b ∧ b ≤ 200) ∧ (0 ≤ c ∧ c ≤ 200))
theorem spec_mapOk (a b c : Int) : spec_MapOk.f a b c = some (mapOk a b c) := by
  unfold spec_MapOk.f mapOk
  simp only [l01In_eq, Option.bind_some]
  by_cases h1 : 1 ≤ a ∧ a ≤ 60 <;> by_cases h2 : 0 ≤ b ∧ b ≤ 200 <;> simp [h1, h2]
theorem impl_mapOk (a b c : Int) : impl_MapOk.f a b c = some (mapOk a b c) := by
  unfold impl_MapOk.f mapOk
  simp only [within_eq, Option.bind_some]
  by_cases h1 : 1 ≤ a ∧ a ≤ 60 <;> by_cases h2 : 0 ≤ b ∧ b ≤ 200 <;> simp [h1, h2]
theorem mapOk_bounds {a b c : Int} (h : mapOk a b c = true) : (1 ≤ a ∧ a ≤ 60) ∧ (0 ≤ b ∧ b ≤ 200) ∧ (0 ≤ c ∧ c ≤ 200) := of_decide_eq_true h

theorem wrap_id {x : Int} (h : -4611686018427387904 ≤ x ∧ x ≤ 4611686018427387904) : wrap64 x = x := by
  unfold wrap64; omega

def addMaps (a b c x y z : Int) : Int × Int × Int × Bool := if mapOk a b c = true ∧ mapOk x y z = true ∧ mapOk (a + x) (b + y) (c + z) = true then (a + x, b + y, c + z, true) else (0, 0, 0, false)
theorem impl_addMaps (a b c x y z : Int) : impl_AddMaps.f a b c x y z = some (addMaps a b c x y z) := by
  unfold impl_AddMaps.f addMaps
  simp only [impl_mapOk, Option.bind_some]
  by_cases h1 : mapOk a b c = true
  · by_cases h2 : mapOk x y z = true
    · obtain ⟨m1, m2, m3⟩ := mapOk_bounds h1
      obtain ⟨n1, n2, n3⟩ := mapOk_bounds h2
      rw [if_pos h1, if_pos h2, wrap_id (x := a + x) (by omega), wrap_id (x := b + y) (by omega), wrap_id (x := c + z) (by omega)]
      by_cases h3 : mapOk (a + x) (b + y) (c + z) = true
      · rw [if_pos h3, if_pos ⟨h1, h2, h3⟩]
      · rw [if_neg h3, if_neg (fun h => h3 h.2.2)]
    · rw [if_pos h1, if_neg h2, if_neg (fun h => h2 h.2.1)]
  · rw [if_neg h1, if_neg (fun h => h1 h.1)]

theorem spec_addMaps (a b c x y z : Int) : spec_AddMaps.f a b c x y z = some (addMaps a b c x y z) := by
  unfold spec_AddMaps.f addMaps
  simp only [spec_mapOk, Option.bind_some]
  by_cases h1 : mapOk a b c = true
  · by_cases h2 : mapOk x y z = true
    · obtain ⟨m1, m2, m3⟩ := mapOk_bounds h1
      obtain ⟨n1, n2, n3⟩ := mapOk_bounds h2
      rw [if_pos h1, if_pos h2, wrap_id (x := a + x) (by omega), wrap_id (x := b + y) (by omega), wrap_id (x := c + z) (by omega)]
      by_cases h3 : mapOk (a + x) (b + y) (c + z) = true
      · rw [if_pos h3, if_pos ⟨h1, h2, h3⟩]
      · rw [if_neg h3, if_neg (fun h => h3 h.2.2)]
    · rw [if_pos h1, if_neg h2, if_neg (fun h => h2 h.2.1)]
  · rw [if_neg h1, if_neg (fun h => h1 h.1)]

theorem eqMap_refl (a b c : Int) : laws_eqMap.f a b c a b c = some true := by
  unfold laws_eqMap.f; simp

theorem FnExactAddMaps (a b c x y z : Int) (_ : (Lit.int .i64 a).wf = true) (_ : (Lit.int .i64 b).wf = true) (_ : (Lit.int .i64 c).wf = true) (_ : (Lit.int .i64 x).wf = true) (_ : (Lit.int .i64 y).wf = true) (_ : (Lit.int .i64 z).wf = true) :
    laws_FnExactAddMaps.f a b c x y z = some true := by
  unfold laws_FnExactAddMaps.f laws_toMap.f
  simp [spec_addMaps, impl_addMaps, eqMap_refl]

end Go.Proofs.Ytpjilchaeecpcaa.Pure
