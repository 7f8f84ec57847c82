/- The law FnTurned over numbers and lists alone: turning a circle turns its thirds. Conditions: none. -/
import Derived.Test.YtcaaaalljhdnkaaDoorQFnTurnedx6
import Derived.Test.YtcaaaalljhdnkaaDoorVFnTurneda
import Derived.OpenShut
import Derived.Laws.Strings
import Derived.Lib.Join
import Derived.Lib.ItoaNum
namespace Go.Proofs.YtcaaaalljhdnkaaDoor.Pure
open Go.RowKit Go.Proofs.YtcaaaalljhdnkaaDoor.PFnTurned Go.Proofs.YtcaaaalljhdnkaaDoorW.PrintWords Go.Proofs.YtcaaaalljhdnkaaDoorW.PrintLast Go.Proofs.YtcaaaalljhdnkaaDoorW.PrintMore
set_option linter.unusedVariables false
set_option linter.unusedSimpArgs false

theorem wrap_id {x : Int} (h : -4611686018427387904 ≤ x ∧ x ≤ 4611686018427387904) : wrap64 x = x := by
  unfold wrap64; omega

theorem rd_mid (pre rest : List Int) (p : Int) : rd (pre ++ p :: rest) ((pre.length : Nat) : Int) = p := by
  unfold rd
  simp [List.getD]
theorem rd_getD (l : List Int) (i : Nat) : rd l (i : Int) = l.getD i 0 := by unfold rd; simp
theorem succ_wrap {n : Nat} (h : n ≤ 1099511627776) : wrap64 ((n : Int) + 1) = ((n + 1 : Nat) : Int) := by
  rw [wrap_id (by omega)]; omega
theorem split_at {α : Type} (l : List α) (i : Nat) (h : i ≤ l.length) : ∃ pre rest, l = pre ++ rest ∧ pre.length = i := ⟨l.take i, l.drop i, (List.take_append_drop i l).symm, by simp; omega⟩

theorem u8_range {x : Int} (h : (Lit.int .u8 x).wf = true) : 0 ≤ x ∧ x ≤ 255 := bounds_u8 h
theorem at_eq {l : List Int} {i : Int} (hi : 0 ≤ i ∧ i ≤ 100) (hl : l.length ≤ 1048576) (hw : ∀ x ∈ l, (Lit.int .u8 x).wf = true) : ∃ x, laws_at.f l i = some x ∧ 0 ≤ x ∧ x ≤ 255 := by
  unfold laws_at.f
  by_cases h : (l.length : Int) = 0
  · exact ⟨0, by rw [if_pos h], by omega, by omega⟩
  · rw [if_neg h, wrap_id (x := i * 5) (by omega), wrap_id (x := i * 5 + 1) (by omega), Int.tmod_eq_emod_of_nonneg (by omega)]
    have h1 := Int.emod_nonneg (i * 5 + 1) h
    have h2 := Int.emod_lt_of_pos (i * 5 + 1) (show (0 : Int) < (l.length : Int) by omega)
    rw [if_pos h1, if_pos h2]
    have hr : 0 ≤ rd l ((i * 5 + 1) % (l.length : Int)) ∧ rd l ((i * 5 + 1) % (l.length : Int)) ≤ 255 := by
      unfold rd
      rw [List.getD_eq_getElem?_getD, List.getElem?_eq_getElem (by omega)]
      exact u8_range (hw _ (List.getElem_mem _))
    exact ⟨_, by rw [wrap_id (by omega)], hr⟩
theorem big_eq (l : List Int) : laws_big.f l = some (decide (1048576 < l.length)) := by
  unfold laws_big.f
  congr 1
  rw [decide_eq_decide]; omega

theorem wraps_i64_8 (n : Int) (h0 : 0 ≤ n) (h1 : n < 2 ^ 8) : IntKind.i64.wrap n = n := by
  rw [show (2 : Int) ^ 8 = 256 from rfl] at h1
  rw [IntKind.wrap_i64]; omega
theorem and_byte (x : Int) : 0 ≤ Go.bits .and .i64 x 255 ∧ Go.bits .and .i64 x 255 ≤ 255 := by
  have h : Go.bits .and .i64 x 255 = IntKind.i64.wrap (((BitVec.ofInt 64 x &&& BitVec.ofInt 64 255).toNat : Nat) : Int) := rfl
  rw [h, BitVec.toNat_and]
  have h2 : (BitVec.ofInt 64 x).toNat &&& (BitVec.ofInt 64 255).toNat ≤ 255 := Nat.le_trans Nat.and_le_right (by decide)
  generalize (BitVec.ofInt 64 x).toNat &&& (BitVec.ofInt 64 255).toNat = n at *
  rw [IntKind.wrap_i64]; omega
def Bytes (l : List Int) : Prop := ∀ x ∈ l, 0 ≤ x ∧ x ≤ 255
theorem byte_ok {l : List Int} {i : Int} (h : Int) (hi : 0 ≤ i ∧ i ≤ (l.length : Int)) (hl : l.length ≤ 1048576) : ∃ x i' h', spec_l01Byte.f l i h = some (x, i', h') ∧ (0 ≤ x ∧ x ≤ 255) ∧ (0 ≤ i' ∧ i' ≤ (l.length : Int)) := by
  unfold spec_l01Byte.f
  by_cases hc : i < (l.length : Int)
  · rw [if_pos hc, if_pos hi.1]
    exact ⟨_, _, _, rfl, and_byte _, by rw [wrap_id (by omega)]; omega⟩
  · rw [if_neg hc]
    exact ⟨_, _, _, rfl, and_byte _, hi⟩
theorem below_ok {l : List Int} {i : Int} (h n : Int) (hi : 0 ≤ i ∧ i ≤ (l.length : Int)) (hl : l.length ≤ 1048576) : ∃ x i' h', spec_l01Below.f l i h n = some (x, i', h') ∧ (0 ≤ x) ∧ (0 < n → x < n) ∧ (n ≤ 0 → x = 0) ∧ (0 ≤ i' ∧ i' ≤ (l.length : Int)) := by
  unfold spec_l01Below.f
  by_cases h0 : n ≤ 0
  · rw [if_pos h0]; exact ⟨0, i, h, rfl, by omega, by omega, fun _ => rfl, hi⟩
  rw [if_neg h0]
  by_cases h1 : n ≤ 256
  · rw [if_pos h1]
    obtain ⟨x, i', h', e, hx, hi'⟩ := byte_ok h hi hl
    rw [e, Option.bind_some, if_neg (by omega)]
    refine ⟨_, _, _, rfl, ?_, fun _ => ?_, fun hn => by omega, hi'⟩
    · rw [Int.tmod_eq_emod_of_nonneg hx.1]; exact Int.emod_nonneg _ (by omega)
    · rw [Int.tmod_eq_emod_of_nonneg hx.1]; exact Int.emod_lt_of_pos _ (by omega)
  · rw [if_neg h1]
    obtain ⟨x1, i1, h1', e1, hx1, hi1⟩ := byte_ok h hi hl
    obtain ⟨x2, i2, h2', e2, hx2, hi2⟩ := byte_ok h1' hi1 hl
    obtain ⟨x3, i3, h3', e3, hx3, hi3⟩ := byte_ok h2' hi2 hl
    obtain ⟨x4, i4, h4', e4, hx4, hi4⟩ := byte_ok h3' hi3 hl
    rw [e1, Option.bind_some, e2, Option.bind_some, e3, Option.bind_some, e4, Option.bind_some, if_neg (by omega)]
    refine ⟨_, _, _, rfl, ?_, fun _ => ?_, fun hn => by omega, hi4⟩
    all_goals simp only [wrap_id (x := x1 * 16777216) (by omega), wrap_id (x := x2 * 65536) (by omega), wrap_id (x := x3 * 256) (by omega), wrap_id (x := x1 * 16777216 + x2 * 65536) (by omega), wrap_id (x := x1 * 16777216 + x2 * 65536 + x3 * 256) (by omega), wrap_id (x := x1 * 16777216 + x2 * 65536 + x3 * 256 + x4) (by omega)]
    · rw [Int.tmod_eq_emod_of_nonneg (by omega)]; exact Int.emod_nonneg _ (by omega)
    · rw [Int.tmod_eq_emod_of_nonneg (by omega)]; exact Int.emod_lt_of_pos _ (by omega)
theorem pick_ok {l : List Int} {i : Int} (h : Int) {c : List Int} (hc : 0 < c.length) (hi : 0 ≤ i ∧ i ≤ (l.length : Int)) (hl : l.length ≤ 1048576) : ∃ x i' h', spec_l01PickInt.f l i h c = some (x, i', h') ∧ x ∈ c ∧ (0 ≤ i' ∧ i' ≤ (l.length : Int)) := by
  unfold spec_l01PickInt.f
  obtain ⟨x, i', h', e, x0, x1, _, hi'⟩ := below_ok h (c.length : Int) hi hl
  have x2 := x1 (by omega)
  rw [e, Option.bind_some, if_pos x0, if_pos x2]
  refine ⟨_, _, _, rfl, ?_, hi'⟩
  unfold rd
  rw [List.getD_eq_getElem?_getD, List.getElem?_eq_getElem (by omega)]
  exact List.getElem_mem _
theorem once_ok {l : List Int} {i : Int} (h n : Int) (hi : 0 ≤ i ∧ i ≤ (l.length : Int)) (hl : l.length ≤ 1048576) : ∃ b i' h', spec_l01Once.f l i h n = some (b, i', h') ∧ (0 ≤ i' ∧ i' ≤ (l.length : Int)) := by
  unfold spec_l01Once.f
  obtain ⟨x, i', h', e, _, _, _, hi'⟩ := below_ok h n hi hl
  rw [e, Option.bind_some]
  exact ⟨_, _, _, rfl, hi'⟩
theorem new_l0 {l : List Int} (hl : l.length ≤ 1048576) : ∀ (d i k : Nat) (h : Int), i + d = l.length → d < k → ∃ h', spec_l01New.l0 k l h (i : Int) = some (l, 0, h') := by
  intro d
  induction d with
  | zero =>
    intro i k h hi hk
    obtain ⟨k, rfl⟩ : ∃ q, k = q + 1 := ⟨k - 1, by omega⟩
    simp only [spec_l01New.l0]
    rw [if_neg (by omega)]
    exact ⟨_, rfl⟩
  | succ d ih =>
    intro i k h hi hk
    obtain ⟨k, rfl⟩ : ∃ q, k = q + 1 := ⟨k - 1, by omega⟩
    simp only [spec_l01New.l0]
    rw [if_pos (by omega)]
    by_cases h4 : (i : Int) < 4000
    · rw [if_pos h4, if_pos (by omega), succ_wrap (by omega)]
      exact ih (i + 1) k _ (by omega) (by omega)
    · rw [if_neg h4]; exact ⟨_, rfl⟩
theorem new_ok {l : List Int} {k : Nat} (hl : l.length ≤ 1048576) (hk : 1048577 ≤ k) : ∃ h, spec_l01New.f k l = some (l, 0, h) := by
  unfold spec_l01New.f
  exact new_l0 hl l.length 0 k _ (by omega) (by omega)

theorem l01In_eq (a b c : Int) : spec_l01In.f a b c = some (decide (b ≤ a ∧ a ≤ c)) := by
  unfold spec_l01In.f
  by_cases h : b ≤ a <;> simp [h]
theorem within_eq (a b c : Int) : impl_within.f a b c = some (decide (b ≤ a ∧ a ≤ c)) := by
  unfold impl_within.f
  by_cases h : b ≤ a <;> simp [h]

def inR (p : Int) : Bool := decide (0 ≤ p ∧ p ≤ 12)
def circOk (l : List Int) : Bool := l.all inR && (decide (l.length = 12) && (l.sum == 12))
theorem impl_circOk_l0 : ∀ (rest pre : List Int) (s : Int) (k : Nat), rest.length < k → (pre ++ rest).length ≤ 1099511627776 → 0 ≤ s ∧ s ≤ 12 * (pre.length : Int) →
    impl_CircleOk.l0 k s (pre ++ rest) ((pre ++ rest).length : Int) (pre.length : Int) (pre ++ rest) = some (rest.all inR && (decide ((pre ++ rest).length = 12) && (s + rest.sum == 12))) := by
  intro rest
  induction rest with
  | nil =>
    intro pre s k hk hl hs
    obtain ⟨k, rfl⟩ : ∃ m, k = m + 1 := ⟨k - 1, by simp at hk; omega⟩
    simp only [impl_CircleOk.l0]
    rw [if_neg (by simp)]
    by_cases h : (pre ++ ([] : List Int)).length = 12
    · rw [if_pos (by omega)]; simp at h; simp [h]
    · rw [if_neg (by omega)]; simp at h; simp [h]
  | cons p rest ih =>
    intro pre s k hk hl hs
    obtain ⟨k, rfl⟩ : ∃ m, k = m + 1 := ⟨k - 1, by simp at hk; omega⟩
    simp only [impl_CircleOk.l0]
    rw [if_pos (by simp; omega), if_pos (by omega), if_pos (by simp; omega), rd_mid, within_eq]
    simp only [Option.bind_some]
    by_cases hp : 0 ≤ p ∧ p ≤ 12
    · have hl2 : pre.length ≤ 1099511627776 := by simp at hl; omega
      rw [if_pos (by simpa using hp), wrap_id (x := s + p) (by omega), succ_wrap hl2]
      have := ih (pre ++ [p]) (s + p) k (by simp at hk; omega) (by simp at hl ⊢; omega) (by simp; omega)
      have e : pre ++ [p] ++ rest = pre ++ p :: rest := by simp
      have e2 : ((pre ++ [p]).length : Int) = ((pre.length + 1 : Nat) : Int) := by simp
      rw [e, e2] at this
      rw [this]
      have hi : inR p = true := decide_eq_true hp
      simp [hi, Int.add_assoc]
    · rw [if_neg (by simpa using hp)]
      have hi : inR p = false := decide_eq_false hp
      simp [hi]
theorem impl_circOk {k : Nat} {l : List Int} (hk : l.length < k) (hl : l.length ≤ 1099511627776) : impl_CircleOk.f k l = some (circOk l) := by
  have := impl_circOk_l0 l [] 0 k hk (by simpa using hl) (by simp)
  unfold impl_CircleOk.f circOk
  simpa using this
theorem circOk_len {l : List Int} (h : circOk l = true) : l.length = 12 := by
  unfold circOk at h; simp at h; exact h.2.1
theorem circOk_sum {l : List Int} (h : circOk l = true) : l.sum = 12 := by
  unfold circOk at h; simp at h; exact h.2.2
theorem circOk_mem {l : List Int} (h : circOk l = true) : ∀ p ∈ l, 0 ≤ p ∧ p ≤ 12 := by
  unfold circOk at h; simp at h
  intro p hp
  have := h.1 p hp
  exact of_decide_eq_true this

theorem spec_circOk_l0 : ∀ (rest pre : List Int) (s : Int) (k : Nat), rest.length < k → (pre ++ rest).length ≤ 1099511627776 → 0 ≤ s ∧ s ≤ 12 * (pre.length : Int) →
    spec_CircleOk.l0 k s (pre.length : Int) (pre ++ rest) = some (rest.all inR && (decide ((pre ++ rest).length = 12) && (s + rest.sum == 12))) := by
  intro rest
  induction rest with
  | nil =>
    intro pre s k hk hl hs
    obtain ⟨k, rfl⟩ : ∃ m, k = m + 1 := ⟨k - 1, by simp at hk; omega⟩
    simp only [spec_CircleOk.l0]
    rw [if_neg (by simp)]
    by_cases h : (pre ++ ([] : List Int)).length = 12
    · rw [if_pos (by omega)]; simp at h; simp [h]
    · rw [if_neg (by omega)]; simp at h; simp [h]
  | cons p rest ih =>
    intro pre s k hk hl hs
    obtain ⟨k, rfl⟩ : ∃ m, k = m + 1 := ⟨k - 1, by simp at hk; omega⟩
    simp only [spec_CircleOk.l0]
    rw [if_pos (by simp; omega), if_pos (by omega), rd_mid, l01In_eq]
    simp only [Option.bind_some]
    by_cases hp : 0 ≤ p ∧ p ≤ 12
    · have hl2 : pre.length ≤ 1099511627776 := by simp at hl; omega
      rw [if_pos (by simpa using hp), wrap_id (x := s + p) (by omega), succ_wrap hl2]
      have := ih (pre ++ [p]) (s + p) k (by simp at hk; omega) (by simp at hl ⊢; omega) (by simp; omega)
      have e : pre ++ [p] ++ rest = pre ++ p :: rest := by simp
      have e2 : ((pre ++ [p]).length : Int) = ((pre.length + 1 : Nat) : Int) := by simp
      rw [e, e2] at this
      rw [this]
      have hi : inR p = true := decide_eq_true hp
      simp [hi, Int.add_assoc]
    · rw [if_neg (by simpa using hp)]
      have hi : inR p = false := decide_eq_false hp
      simp [hi]
theorem spec_circOk {k : Nat} {l : List Int} (hk : l.length < k) (hl : l.length ≤ 1099511627776) : spec_CircleOk.f k l = some (circOk l) := by
  have := spec_circOk_l0 l [] 0 k hk (by simpa using hl) (by simp)
  unfold spec_CircleOk.f circOk
  simpa using this

theorem circ_j1 {l c : List Int} (i h : Int) {k : Nat} (hc : c.length = 12) (hk : 100 ≤ k) : ∃ c' i' h', spec_l12Circle.j1 k l i h c = some (c', i', h') ∧ circOk c' = true := by
  obtain ⟨k', rfl⟩ : ∃ k', k = k' + 1 := ⟨k - 1, by omega⟩
  rw [spec_l12Circle.j1, spec_circOk (by omega) (by omega), Option.bind_some]
  by_cases g : circOk c = true
  · rw [if_pos g]; exact ⟨c, i, h, rfl, g⟩
  · rw [if_neg g, spec_EqualCircle.f, Option.bind_some]; exact ⟨_, i, h, rfl, by decide⟩
theorem tmod12 (x : Int) (hx : 0 ≤ x ∧ x ≤ 11) : 0 ≤ Int.tmod (wrap64 (x + 1)) 12 ∧ Int.tmod (wrap64 (x + 1)) 12 < 12 := by
  rw [wrap_id (by omega)]
  have h1 := Int.tmod_nonneg 12 (show 0 ≤ x + 1 by omega)
  have h2 := Int.tmod_lt_of_pos (x + 1) (show (0 : Int) < 12 by decide)
  exact ⟨h1, h2⟩
theorem circ_l0 {l : List Int} (hl : l.length ≤ 1048576) (p : Int) : ∀ (d : Nat) (c : List Int) (i h : Int) (k : Nat), c.length = 12 → (0 ≤ i ∧ i ≤ (l.length : Int)) → d ≤ 100 → 200 + d ≤ k → ∃ c' i' h', spec_l12Circle.l0 k p (d : Int) l i h c = some (c', i', h') ∧ circOk c' = true := by
  intro d
  induction d with
  | zero =>
    intro c i h k hc hi hd hk
    obtain ⟨k', rfl⟩ : ∃ k', k = k' + 1 := ⟨k - 1, by omega⟩
    rw [spec_l12Circle.l0, if_neg (by omega)]
    obtain ⟨b, i1, h1, e1, hi1⟩ := once_ok h 4 hi hl
    rw [e1, Option.bind_some]
    dsimp only
    by_cases g : b = true
    · rw [if_pos g]
      obtain ⟨x, i2, h2, e2, x0, x1, _, hi2⟩ := below_ok h1 12 hi1 hl
      rw [e2, Option.bind_some]
      dsimp only
      obtain ⟨y, i3, h3, e3, y0, y1, _, hi3⟩ := below_ok h2 12 hi2 hl
      rw [e3, Option.bind_some]
      dsimp only
      have x2 := x1 (by decide)
      have y2 := y1 (by decide)
      rw [if_pos x0, if_pos (by omega)]
      split
      · first
          | rw [if_pos (show y < (c.length : Int) by omega)]
          | rw [if_pos y0, if_pos (show y < (c.length : Int) by omega)]
        split
        · rw [Option.bind_some]; exact circ_j1 _ _ (by simp; exact hc) (by omega)
        · exact circ_j1 _ _ hc (by omega)
      · exact circ_j1 _ _ hc (by omega)
    · rw [if_neg g]; exact circ_j1 _ _ hc (by omega)
  | succ d ih =>
    intro c i h k hc hi hd hk
    obtain ⟨k', rfl⟩ : ∃ k', k = k' + 1 := ⟨k - 1, by omega⟩
    rw [spec_l12Circle.l0, if_pos (by omega)]
    obtain ⟨x, i1, h1, e1, x0, x1, _, hi1⟩ := below_ok h 12 hi hl
    rw [e1, Option.bind_some]
    dsimp only
    have x2 := x1 (by decide)
    have ht := tmod12 x (by omega)
    rw [if_pos x0, if_pos (by omega), wrap_id (x := ((d + 1 : Nat) : Int) - 1) (by omega), show ((d + 1 : Nat) : Int) - 1 = (d : Int) by omega]
    split
    · rw [if_pos ht.1, if_pos (by omega)]
      exact ih _ i1 h1 k' (by simp; exact hc) hi1 (by omega) (by omega)
    · exact ih _ i1 h1 k' (by simp; exact hc) hi1 (by omega) (by omega)
theorem circle_ok {l : List Int} {i : Int} (h : Int) (hi : 0 ≤ i ∧ i ≤ (l.length : Int)) (hl : l.length ≤ 1048576) {k : Nat} (hk : 1000 ≤ k) : ∃ c i' h', spec_l12Circle.f k l i h = some (c, i', h') ∧ circOk c = true := by
  unfold spec_l12Circle.f
  rw [if_pos (by decide)]
  obtain ⟨p, i1, h1, e1, hp, hi1⟩ := pick_ok h (c := [1, 2, 3, 4]) (by decide) hi hl
  rw [e1, Option.bind_some]
  dsimp only
  simp only [List.mem_cons, List.not_mem_nil, or_false] at hp
  rcases hp with rfl | rfl | rfl | rfl
  · rw [if_neg (by decide), show wrap64 ((12 : Int) / 1) = ((12 : Nat) : Int) by rw [wrap_id (by decide)]; rfl]; exact circ_l0 hl _ 12 (List.replicate 12 0) i1 h1 k (by simp) hi1 (by omega) (by omega)
  · rw [if_neg (by decide), show wrap64 ((12 : Int) / 2) = ((6 : Nat) : Int) by rw [wrap_id (by decide)]; rfl]; exact circ_l0 hl _ 6 (List.replicate 12 0) i1 h1 k (by simp) hi1 (by omega) (by omega)
  · rw [if_neg (by decide), show wrap64 ((12 : Int) / 3) = ((4 : Nat) : Int) by rw [wrap_id (by decide)]; rfl]; exact circ_l0 hl _ 4 (List.replicate 12 0) i1 h1 k (by simp) hi1 (by omega) (by omega)
  · rw [if_neg (by decide), show wrap64 ((12 : Int) / 4) = ((3 : Nat) : Int) by rw [wrap_id (by decide)]; rfl]; exact circ_l0 hl _ 3 (List.replicate 12 0) i1 h1 k (by simp) hi1 (by omega) (by omega)
theorem drawCircle_ok {l : List Int} {k : Nat} (hl : l.length ≤ 1048576) (hk : 1048577 ≤ k) : ∃ c, spec_DrawCircle.f k l = some c ∧ circOk c = true := by
  unfold spec_DrawCircle.f
  obtain ⟨h, e⟩ := new_ok hl hk
  rw [e, Option.bind_some]
  dsimp only
  obtain ⟨c, i', h', e2, hc⟩ := circle_ok h (i := 0) (by omega) hl (k := k) (by omega)
  rw [e2, Option.bind_some]
  exact ⟨c, rfl, hc⟩

def isKey (l : List Int) (i : Int) : Bool := circOk l && decide (0 ≤ i ∧ i ≤ 11)
theorem impl_isKey_eq {k : Nat} {l : List Int} (i : Int) (hk : l.length < k) (hl : l.length ≤ 1099511627776) : impl_isKey.f k l i = some (isKey l i) := by
  unfold impl_isKey.f isKey
  rw [impl_circOk hk hl]
  simp only [Option.bind_some, within_eq]
  cases circOk l <;> simp
theorem isKey_parts {l : List Int} {i : Int} (h : isKey l i = true) : circOk l = true ∧ (0 ≤ i ∧ i ≤ 11) := by
  unfold isKey at h
  simp only [Bool.and_eq_true] at h
  exact ⟨h.1, of_decide_eq_true h.2⟩


def turned (l : List Int) (n : Int) : List Int := if isKey l n = true then l.drop n.toNat ++ l.take n.toNat else []
theorem impl_turn {k : Nat} {l : List Int} (n : Int) (hk : l.length < k) (hl : l.length ≤ 1099511627776) : impl_TurnCircle.f k l n = some (turned l n) := by
  unfold impl_TurnCircle.f turned
  rw [impl_isKey_eq n hk hl]
  simp only [Option.bind_some]
  by_cases h : isKey l n = true
  · rw [if_pos h, if_pos h]
    obtain ⟨h1, h2⟩ := isKey_parts h
    have h3 := circOk_len h1
    rw [if_pos h2.1, if_pos (by omega), if_pos (by simp; omega), if_pos (by simp; omega)]
    simp
  · rw [if_neg h, if_neg h]

def psum (l : List Int) (i : Int) : Nat → Int
  | 0 => 0
  | n + 1 => psum l i n + l.getD ((i.toNat + n) % 12) 0
theorem getD_range {l : List Int} (h : circOk l = true) (j : Nat) : 0 ≤ l.getD j 0 ∧ l.getD j 0 ≤ 12 := by
  rcases Nat.lt_or_ge j l.length with hj | hj
  · rw [List.getD_eq_getElem?_getD, List.getElem?_eq_getElem hj]
    exact circOk_mem h _ (List.getElem_mem hj)
  · rw [List.getD_eq_getElem?_getD, List.getElem?_eq_none hj]; simp
theorem psum_range {l : List Int} (h : circOk l = true) (i : Int) (n : Nat) : 0 ≤ psum l i n ∧ psum l i n ≤ 12 * n := by
  induction n with
  | zero => simp [psum]
  | succ n ih => have := getD_range h ((i.toNat + n) % 12); simp only [psum]; omega
theorem idx_eq {i : Int} {n : Nat} (hi : 0 ≤ i ∧ i ≤ 11) (hn : n ≤ 100) : Int.tmod (wrap64 (i + (n : Int))) 12 = (((i.toNat + n) % 12 : Nat) : Int) := by
  rw [wrap_id (by omega), Int.tmod_eq_emod_of_nonneg (by omega)]; omega

theorem impl_parts_l0 {l : List Int} (h : circOk l = true) {i : Int} (hi : 0 ≤ i ∧ i ≤ 11) (n : Nat) (hn : n ≤ 100) : ∀ (d m k : Nat), m + d = n → d < k → impl_partsFrom.l0 k i (n : Int) (psum l i m) (m : Int) l = some (psum l i n) := by
  intro d
  induction d with
  | zero =>
    intro m k hm hk
    obtain ⟨k, rfl⟩ : ∃ q, k = q + 1 := ⟨k - 1, by omega⟩
    simp only [impl_partsFrom.l0]
    rw [if_neg (by omega)]
    congr 2
  | succ d ih =>
    intro m k hm hk
    obtain ⟨k, rfl⟩ : ∃ q, k = q + 1 := ⟨k - 1, by omega⟩
    have hl := circOk_len h
    have hg := getD_range h ((i.toNat + m) % 12)
    have hp := psum_range h i m
    have hmod : (i.toNat + m) % 12 < 12 := Nat.mod_lt _ (by omega)
    simp only [impl_partsFrom.l0]
    rw [if_pos (by omega), idx_eq hi (by omega), if_pos (by omega), if_pos (by omega), rd_getD, wrap_id (by omega), succ_wrap (by omega)]
    exact ih (m + 1) k (by omega) (by omega)
def parts (l : List Int) (i : Int) (n : Nat) : Int := if isKey l i = true then psum l i n else 0
theorem impl_partsFrom_eq {k n : Nat} {l : List Int} (i : Int) (hk : l.length < k) (hl : l.length ≤ 1099511627776) (hn : n ≤ 100) (hkn : n < k) : impl_partsFrom.f k l i (n : Int) = some (parts l i n) := by
  unfold impl_partsFrom.f parts
  rw [impl_isKey_eq i hk hl]
  simp only [Option.bind_some]
  by_cases h : isKey l i = true
  · rw [if_pos h, if_pos h]
    obtain ⟨h1, h2⟩ := isKey_parts h
    exact impl_parts_l0 h1 h2 n hn n 0 k (by omega) hkn
  · rw [if_neg h, if_neg h]

theorem impl_thirdParts {k : Nat} {l : List Int} (i : Int) (hk : l.length < k) (hk2 : 5 < k) (hl : l.length ≤ 1099511627776) : impl_ThirdParts.f k l i = some (parts l i 4) := by
  unfold impl_ThirdParts.f
  have := impl_partsFrom_eq (k := k) (n := 4) i hk hl (by omega) (by omega)
  rw [show ((4 : Nat) : Int) = 4 from rfl] at this
  rw [this]; rfl

theorem mx_neg {a : Int} (h : -4611686018427387904 ≤ a ∧ a ≤ 4611686018427387904) : mx a (wrap64 (-a)) = ((a.natAbs : Nat) : Int) := by
  rw [wrap_id (by omega)]
  unfold mx
  split <;> omega

theorem impl_gcd_l0 : ∀ (k : Nat) (y x : Int), y.natAbs < k → (-4611686018427387904 ≤ x ∧ x ≤ 4611686018427387904) → (-4611686018427387904 ≤ y ∧ y ≤ 4611686018427387904) → impl_divisor.l0 k x y = some ((Int.gcd x y : Nat) : Int) := by
  intro k
  induction k with
  | zero => intro y x h; omega
  | succ k ih =>
    intro y x h hx hy
    simp only [impl_divisor.l0]
    by_cases h0 : y = 0
    · subst h0
      rw [if_pos rfl]
      by_cases hn : x < 0
      · rw [if_pos hn, wrap_id (by omega)]
        simp; omega
      · rw [if_neg hn]
        simp; omega
    · rw [if_neg h0]
      have e : (Int.tmod x y).natAbs = x.natAbs % y.natAbs := Int.natAbs_tmod x y
      have hl : x.natAbs % y.natAbs < y.natAbs := Nat.mod_lt _ (by omega)
      rw [ih (Int.tmod x y) y (by omega) hy (by omega)]
      congr 2
      unfold Int.gcd
      rw [e]
      exact ((Nat.gcd_comm _ _).trans (Nat.gcd_rec y.natAbs x.natAbs).symm).trans (Nat.gcd_comm _ _)
theorem impl_gcd {k : Nat} {a b : Int} (ha : -4611686018427387904 ≤ a ∧ a ≤ 4611686018427387904) (hb : -4611686018427387904 ≤ b ∧ b ≤ 4611686018427387904) (hk : b.natAbs < k) :
    impl_divisor.f k a b = some ((Int.gcd a b : Nat) : Int) := impl_gcd_l0 k b a hk ha hb

def g4 (a b c d : Int) : Int := ((Int.gcd ((Int.gcd a b : Nat) : Int) ((Int.gcd c d : Nat) : Int) : Nat) : Int)
def simp4 (a b c d : Int) : Int × Int × Int × Int := (Int.tdiv a (g4 a b c d), Int.tdiv b (g4 a b c d), Int.tdiv c (g4 a b c d), Int.tdiv d (g4 a b c d))
theorem gcd_le_right {c d : Int} (h : 1 ≤ d) : Int.gcd c d ≤ d.natAbs := Nat.le_of_dvd (by omega) (Nat.gcd_dvd_right _ _)
theorem gcd_le_bound {a b : Int} {B : Nat} (ha : a.natAbs ≤ B) (hb : b.natAbs ≤ B) : Int.gcd a b ≤ B := by
  unfold Int.gcd
  rcases Nat.eq_zero_or_pos b.natAbs with h | h
  · rw [h, Nat.gcd_zero_right]; exact ha
  · exact Nat.le_trans (Nat.le_of_dvd h (Nat.gcd_dvd_right _ _)) hb
theorem g4_pos {a b c d : Int} (h : 1 ≤ d) : 1 ≤ g4 a b c d := by
  unfold g4
  have h1 : 0 < Int.gcd c d := Int.gcd_pos_of_ne_zero_right _ (by omega)
  have : 0 < Int.gcd ((Int.gcd a b : Nat) : Int) ((Int.gcd c d : Nat) : Int) := Int.gcd_pos_of_ne_zero_right _ (by omega)
  omega
theorem tdiv_bound {a g : Int} {B : Int} (hg : 1 ≤ g) (h : -B ≤ a ∧ a ≤ B) : -B ≤ Int.tdiv a g ∧ Int.tdiv a g ≤ B := by
  have h1 : (Int.tdiv a g).natAbs ≤ a.natAbs := by rw [Int.natAbs_tdiv]; exact Nat.div_le_self _ _
  omega
theorem impl_simple {k : Nat} {a b c d : Int} (ha : -1000000 ≤ a ∧ a ≤ 1000000) (hb : -1000000 ≤ b ∧ b ≤ 1000000) (hc : -1000000 ≤ c ∧ c ≤ 1000000) (hd : 1 ≤ d ∧ d ≤ 1000000) (hk : 1000000 < k) :
    impl_simplest.f k a b c d = some (simp4 a b c d) := by
  unfold impl_simplest.f
  have e1 := gcd_le_bound (a := a) (b := b) (B := 1000000) (by omega) (by omega)
  have e2 := gcd_le_bound (a := c) (b := d) (B := 1000000) (by omega) (by omega)
  have hg := g4_pos (a := a) (b := b) (c := c) hd.1
  rw [impl_gcd (by omega) (by omega) (by omega)]
  simp only [Option.bind_some]
  rw [impl_gcd (by omega) (by omega) (by omega)]
  simp only [Option.bind_some]
  rw [impl_gcd (by omega) (by omega) (by omega)]
  simp only [Option.bind_some]
  show (if g4 a b c d = 0 then none else some (wrap64 (Int.tdiv a (g4 a b c d)), wrap64 (Int.tdiv b (g4 a b c d)), wrap64 (Int.tdiv c (g4 a b c d)), wrap64 (Int.tdiv d (g4 a b c d)))) = _
  have b1 := tdiv_bound hg ha
  have b2 := tdiv_bound hg hb
  have b3 := tdiv_bound hg hc
  have b4 := tdiv_bound (B := 1000000) hg (show -1000000 ≤ d ∧ d ≤ 1000000 by omega)
  rw [if_neg (by omega), wrap_id (by omega), wrap_id (by omega), wrap_id (by omega), wrap_id (by omega)]
  rfl

def thirdAt (l : List Int) (i : Int) : Int × Int × Int × Int := if isKey l i = true then simp4 (19 * psum l i 4 - 72) (48 - 12 * psum l i 4) 0 12 else (0, 0, 0, 0)
theorem impl_thirdAt {k : Nat} {l : List Int} (i : Int) (hk : l.length < k) (hk2 : 1000000 < k) (hl : l.length ≤ 1099511627776) : impl_ThirdAt.f k l i = some (thirdAt l i) := by
  unfold impl_ThirdAt.f thirdAt
  rw [impl_isKey_eq i hk hl]
  simp only [Option.bind_some]
  by_cases h : isKey l i = true
  · rw [if_pos h, if_pos h, impl_thirdParts i hk (by omega) hl]
    simp only [Option.bind_some]
    obtain ⟨h1, h2⟩ := isKey_parts h
    have h4 := psum_range h1 i 4
    have er : parts l i 4 = psum l i 4 := by unfold parts; rw [if_pos h]
    rw [er]
    generalize psum l i 4 = p at *
    rw [wrap_id (x := 19 * p) (by omega), wrap_id (x := 19 * p - 72) (by omega), wrap_id (x := 12 * p) (by omega), wrap_id (x := 48 - 12 * p) (by omega), impl_simple (by omega) (by omega) (by omega) (by omega) hk2]
    rfl
  · rw [if_neg h, if_neg h]

def digs (x : Int) : List UInt8 := Lib.decDigits x.toNat
def dig (x : Int) : ByteArray := ⟨(digs x).toArray⟩
def tailT (l : List Int) : List UInt8 := l.flatMap fun x => 44 :: digs x
def textL : List Int → List UInt8
  | [] => []
  | x :: l => digs x ++ tailT l
theorem digs_len : ∀ x : Fin 13, (digs (x.val : Int)).length ≤ 2 := by decide +kernel
theorem digs_le {x : Int} (h : 0 ≤ x ∧ x ≤ 12) : (digs x).length ≤ 2 := by
  have := digs_len ⟨x.toNat, by omega⟩
  have e : ((x.toNat : Nat) : Int) = x := by omega
  simp only [e] at this
  exact this
theorem join_text : ∀ (l : List Int) (x : Int), Lib.join ((dig x :: l.map dig).map (·.data.toList)) [44] = digs x ++ tailT l := by
  intro l
  induction l with
  | nil => intro x; simp [Lib.join, tailT, dig]
  | cons y l ih =>
    intro x
    have e := ih y
    unfold Lib.join at e ⊢
    simp only [List.map_cons] at e ⊢
    rw [List.intercalate_cons_cons, e]
    simp [tailT, dig]
theorem tail_len : ∀ (l : List Int), (∀ x ∈ l, 0 ≤ x ∧ x ≤ 12) → (tailT l).length ≤ 3 * l.length := by
  intro l
  induction l with
  | nil => intro _; simp [tailT]
  | cons x l ih =>
    intro h
    have h1 := ih (fun y hy => h y (by simp [hy]))
    have h2 := digs_le (h x (by simp))
    unfold tailT at h1 ⊢
    rw [List.flatMap_cons, List.length_append, List.length_cons, List.length_cons]
    omega
theorem impl_format {x : Int} (h : 0 ≤ x ∧ x ≤ 12) : impl_FormatInt.f x = some (dig x) := by
  unfold impl_FormatInt.f strconv_Itoa.f
  rw [if_pos (by omega)]; rfl
theorem impl_ints_l0 : ∀ (rest pre : List Int) (k : Nat), rest.length < k → (pre ++ rest).length ≤ 1000 → 0 < (pre ++ rest).length → (∀ x ∈ pre ++ rest, 0 ≤ x ∧ x ≤ 12) →
    impl_intsText.l0 k (pre.map dig) (pre ++ rest) ((pre ++ rest).length : Int) ((pre.length : Nat) : Int) = some ⟨(textL (pre ++ rest)).toArray⟩ := by
  intro rest
  induction rest with
  | nil =>
    intro pre k hk hl hp hx
    obtain ⟨k, rfl⟩ : ∃ m, k = m + 1 := ⟨k - 1, by omega⟩
    rw [impl_intsText.l0, if_neg (by simp)]
    rw [List.append_nil] at hl hp hx ⊢
    cases pre with
    | nil => simp at hp
    | cons x pre =>
      have h1 := tail_len pre (fun y hy => hx y (by simp [hy]))
      have h2 := digs_le (hx x (by simp))
      have hl2 : pre.length + 1 ≤ 1000 := by simpa using hl
      unfold strings_Join.f
      rw [List.map_cons, show (⟨#[44]⟩ : ByteArray).data.toList = [44] from rfl, join_text, if_pos ⟨by rw [List.length_cons, List.length_map]; omega, by rw [List.length_append]; omega⟩]
      rfl
  | cons x rest ih =>
    intro pre k hk hl hp hx
    obtain ⟨k, rfl⟩ : ∃ m, k = m + 1 := ⟨k - 1, by omega⟩
    have hl2 : pre.length + rest.length + 1 ≤ 1000 := by simp at hl; omega
    have hk2 : rest.length < k := by simp at hk; omega
    have hlen : ((pre ++ x :: rest).length : Int) = (pre.length : Int) + (rest.length : Int) + 1 := by simp; omega
    have e := ih (pre ++ [x]) k hk2 (by simp; omega) (by simp; omega) (by simpa using hx)
    rw [List.append_assoc, List.singleton_append, List.map_append, List.map_cons, List.map_nil] at e
    have e2 : (((pre ++ [x]).length : Nat) : Int) = ((pre.length + 1 : Nat) : Int) := by simp
    rw [e2] at e
    rw [impl_intsText.l0, if_pos (by rw [hlen]; omega), if_pos (by omega), if_pos (by rw [hlen]; omega), rd_mid, impl_format (hx x (by simp)), Option.bind_some, if_pos (by rw [List.length_map]; omega), succ_wrap (by omega), e]
def ctext (l : List Int) : ByteArray := if circOk l = true then ⟨(textL l).toArray⟩ else ⟨#[]⟩
theorem impl_circleText {k : Nat} {l : List Int} (hk : l.length < k) (hk2 : 12 < k) (hl : l.length ≤ 1099511627776) : impl_CircleText.f k l = some (ctext l) := by
  unfold impl_CircleText.f ctext
  rw [impl_circOk hk hl, Option.bind_some]
  by_cases h : circOk l = true
  · rw [if_pos h, if_pos h]
    have h12 := circOk_len h
    unfold impl_intsText.f
    have e := impl_ints_l0 l [] k (by omega) (by simp; omega) (by simp; omega) (by simpa using circOk_mem h)
    rw [show ((([] : List Int).length : Nat) : Int) = 0 from rfl, List.nil_append, List.map_nil] at e
    rw [e]; rfl
  · rw [if_neg h, if_neg h]

theorem circOk_mk {l : List Int} (h1 : l.length = 12) (h2 : l.sum = 12) (h3 : ∀ p ∈ l, 0 ≤ p ∧ p ≤ 12) : circOk l = true := by
  unfold circOk
  have e : l.all inR = true := List.all_eq_true.2 fun p hp => decide_eq_true (h3 p hp)
  rw [e, decide_eq_true h1, h2]; rfl
theorem turned_eq {c : List Int} {n : Int} (h : circOk c = true) (hn : 0 ≤ n ∧ n ≤ 11) : turned c n = c.drop n.toNat ++ c.take n.toNat := by
  have hk : isKey c n = true := by unfold isKey; rw [h, Bool.true_and]; exact decide_eq_true hn
  unfold turned; rw [if_pos hk]
theorem turned_ok {c : List Int} {n : Int} (h : circOk c = true) (hn : 0 ≤ n ∧ n ≤ 11) : circOk (turned c n) = true := by
  have h1 := circOk_len h
  have h2 := circOk_sum h
  have h3 := circOk_mem h
  rw [turned_eq h hn]
  refine circOk_mk (by rw [List.length_append, List.length_drop, List.length_take]; omega) ?_ (fun p hp => ?_)
  · have e : (c.take n.toNat ++ c.drop n.toNat).sum = 12 := by rw [List.take_append_drop]; exact h2
    rw [List.sum_append] at e ⊢
    omega
  · rcases List.mem_append.1 hp with hp | hp
    · exact h3 p (List.mem_of_mem_drop hp)
    · exact h3 p (List.mem_of_mem_take hp)
theorem turned_get {c : List Int} {n : Int} (h : circOk c = true) (hn : 0 ≤ n ∧ n ≤ 11) {j : Nat} (hj : j < 12) : (turned c n).getD j 0 = c.getD ((j + n.toNat) % 12) 0 := by
  have h1 := circOk_len h
  rw [turned_eq h hn, List.getD_eq_getElem?_getD, List.getD_eq_getElem?_getD]
  rcases Nat.lt_or_ge j (12 - n.toNat) with g | g
  · rw [List.getElem?_append_left (by rw [List.length_drop]; omega), List.getElem?_drop, Nat.mod_eq_of_lt (by omega), Nat.add_comm]
  · rw [List.getElem?_append_right (by rw [List.length_drop]; omega), List.length_drop, List.getElem?_take_of_lt (by omega)]
    congr 2
    omega
theorem turned_back {c : List Int} {n : Int} (h : circOk c = true) (hn : 0 ≤ n ∧ n ≤ 11) : turned (turned c n) (Int.tmod (12 - n) 12) = c := by
  have h1 := circOk_len h
  have ht := turned_ok h hn
  by_cases h0 : n = 0
  · subst h0
    rw [show Int.tmod (12 - 0) 12 = 0 by decide, turned_eq ht (by omega), turned_eq h (by omega)]
    simp
  · have e : Int.tmod (12 - n) 12 = 12 - n := by rw [Int.tmod_eq_emod_of_nonneg (by omega)]; omega
    rw [e, turned_eq ht (by omega), turned_eq h hn]
    have e2 : (12 - n).toNat = (c.drop n.toNat).length := by rw [List.length_drop]; omega
    rw [e2, List.drop_left, List.take_left, List.take_append_drop]
theorem psum_turn {c : List Int} {n i : Int} (h : circOk c = true) (hn : 0 ≤ n ∧ n ≤ 11) (hi : 0 ≤ i ∧ i ≤ 11) : ∀ m : Nat, psum (turned c n) i m = psum c (Int.tmod (i + n) 12) m := by
  intro m
  induction m with
  | zero => rfl
  | succ m ih =>
    have e : (Int.tmod (i + n) 12).toNat = (i.toNat + n.toNat) % 12 := by rw [Int.tmod_eq_emod_of_nonneg (by omega)]; omega
    simp only [psum]
    rw [ih, turned_get h hn (Nat.mod_lt _ (by omega)), e]
    congr 2
    omega
theorem tmod12r {x : Int} (hx : 0 ≤ x ∧ x ≤ 255) : 0 ≤ Int.tmod x 12 ∧ Int.tmod x 12 ≤ 11 := by
  rw [Int.tmod_eq_emod_of_nonneg hx.1]
  omega
theorem digs_pos : ∀ x : Fin 13, 0 < (digs (x.val : Int)).length := by decide +kernel
theorem text_ne {c : List Int} (h : circOk c = true) : ¬ (ctext c).toList = ([] : List UInt8) := by
  have h1 := circOk_len h
  have h3 := circOk_mem h
  unfold ctext
  rw [if_pos h, ByteArray.toList_eq]
  cases c with
  | nil => simp at h1
  | cons x c =>
    have hx := h3 x (by simp)
    have hd := digs_pos ⟨x.toNat, by omega⟩
    have ex : ((x.toNat : Nat) : Int) = x := by omega
    simp only [ex] at hd
    intro e
    have e2 : digs x ++ tailT c = [] := by simpa [textL] using e
    rw [List.append_eq_nil_iff] at e2
    rw [e2.1] at hd
    simp at hd
theorem FnTurned : laws_FnTurned.Pure := by
  intro l hm hl hw
  refine ⟨1048600 + 1000000, ?_⟩
  unfold laws_FnTurned.f
  rw [big_eq, Option.bind_some]
  by_cases hb : 1048576 < l.length
  · rw [if_pos (decide_eq_true hb)]
  rw [if_neg (by simpa using hb)]
  obtain ⟨c, e0, hc⟩ := drawCircle_ok (l := l) (k := 1048600 + 1000000) (by omega) (by omega)
  obtain ⟨x, e1, x0, x1⟩ := at_eq (l := l) (i := 0) (by omega) (by omega) hw
  obtain ⟨y, e2, y0, y1⟩ := at_eq (l := l) (i := 1) (by omega) (by omega) hw
  have hn := tmod12r ⟨x0, x1⟩
  have hi := tmod12r ⟨y0, y1⟩
  rw [e0, Option.bind_some, e1, Option.bind_some, e2, Option.bind_some]
  generalize Int.tmod x 12 = n at *
  generalize Int.tmod y 12 = i at *
  have h12 := circOk_len hc
  have ht := turned_ok hc hn
  have t12 := circOk_len ht
  have hin : 0 ≤ Int.tmod (i + n) 12 ∧ Int.tmod (i + n) 12 ≤ 11 := by rw [Int.tmod_eq_emod_of_nonneg (by omega)]; omega
  have ki : isKey (turned c n) i = true := by unfold isKey; rw [ht, Bool.true_and]; exact decide_eq_true hi
  have kin : isKey c (Int.tmod (i + n) 12) = true := by unfold isKey; rw [hc, Bool.true_and]; exact decide_eq_true hin
  have p1 : parts (turned c n) i 4 = psum (turned c n) i 4 := by unfold parts; rw [if_pos ki]
  have p2 : parts c (Int.tmod (i + n) 12) 4 = psum c (Int.tmod (i + n) 12) 4 := by unfold parts; rw [if_pos kin]
  have ps := psum_turn hc hn hi 4
  have a1 : thirdAt (turned c n) i = thirdAt c (Int.tmod (i + n) 12) := by unfold thirdAt; rw [if_pos ki, if_pos kin, ps]
  rw [impl_turn _ (by omega) (by omega), Option.bind_some, wrap_id (x := 12 - n) (by omega), impl_turn _ (by omega) (by omega), Option.bind_some, turned_back hc hn, wrap_id (x := i + n) (by omega)]
  rw [impl_thirdParts _ (by omega) (by omega) (by omega), Option.bind_some, impl_thirdParts _ (by omega) (by omega) (by omega), Option.bind_some, p1, p2, ps, if_pos rfl]
  rw [impl_circleText (by omega) (by omega) (by omega), Option.bind_some, Option.bind_some, if_pos rfl, Option.bind_some, if_neg (text_ne hc)]
  rw [impl_thirdAt _ (by omega) (by omega) (by omega), Option.bind_some, impl_thirdAt _ (by omega) (by omega) (by omega), Option.bind_some, a1]
  simp

end Go.Proofs.YtcaaaalljhdnkaaDoor.Pure
