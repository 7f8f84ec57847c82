/- The law FnThirds over the bytes alone: in a drawn circle four fifths less two octaves are the third, the third less the pure one is its error, wide under twelve parts, and the small third has the rest of the twelve parts. Conditions: none. -/
import Derived.Test.YtoljbcjpilcfiaaQFnThirdsx9
import Derived.Test.YtoljbcjpilcfiaaVFnThirdsa
import Derived.OpenShut
namespace Go.Proofs.Ytoljbcjpilcfiaa.Pure
open Go.RowKit Go.Proofs.Ytoljbcjpilcfiaa.PFnThirds Go.Proofs.YtoljbcjpilcfiaaW.PrintWords Go.Proofs.YtoljbcjpilcfiaaW.PrintLast Go.Proofs.YtoljbcjpilcfiaaW.PrintMore
set_option linter.unusedVariables false
set_option linter.unusedSimpArgs false

theorem wrap_id {x : Int} (h : -4611686018427387904 ≤ x ∧ x ≤ 4611686018427387904) : wrap64 x = x := by
  unfold wrap64; omega

theorem rd_mid (pre rest : List Int) (p : Int) : rd (pre ++ p :: rest) ((pre.length : Nat) : Int) = p := by
  unfold rd
  simp [List.getD]
theorem rd_getD (l : List Int) (i : Nat) : rd l (i : Int) = l.getD i 0 := by unfold rd; simp
theorem succ_wrap {n : Nat} (h : n ≤ 1099511627776) : wrap64 ((n : Int) + 1) = ((n + 1 : Nat) : Int) := by
  rw [wrap_id (by omega)]; omega
theorem split_at {α : Type} (l : List α) (i : Nat) (h : i ≤ l.length) : ∃ pre rest, l = pre ++ rest ∧ pre.length = i := ⟨l.take i, l.drop i, (List.take_append_drop i l).symm, by simp; omega⟩

theorem wraps_i64_8 (n : Int) (h0 : 0 ≤ n) (h1 : n < 2 ^ 8) : IntKind.i64.wrap n = n := by
  rw [show (2 : Int) ^ 8 = 256 from rfl] at h1
  rw [IntKind.wrap_i64]; omega
theorem and_byte (x : Int) : 0 ≤ Go.bits .and .i64 x 255 ∧ Go.bits .and .i64 x 255 ≤ 255 := by
  have h : Go.bits .and .i64 x 255 = IntKind.i64.wrap (((BitVec.ofInt 64 x &&& BitVec.ofInt 64 255).toNat : Nat) : Int) := rfl
  rw [h, BitVec.toNat_and]
  have h2 : (BitVec.ofInt 64 x).toNat &&& (BitVec.ofInt 64 255).toNat ≤ 255 := Nat.le_trans Nat.and_le_right (by decide)
  generalize (BitVec.ofInt 64 x).toNat &&& (BitVec.ofInt 64 255).toNat = n at *
  rw [IntKind.wrap_i64]; omega
def Bytes (l : List Int) : Prop := ∀ x ∈ l, 0 ≤ x ∧ x ≤ 255
theorem byte_ok {l : List Int} {i : Int} (h : Int) (hi : 0 ≤ i ∧ i ≤ (l.length : Int)) (hl : l.length ≤ 1048576) : ∃ x i' h', spec_l01Byte.f l i h = some (x, i', h') ∧ (0 ≤ x ∧ x ≤ 255) ∧ (0 ≤ i' ∧ i' ≤ (l.length : Int)) := by
  unfold spec_l01Byte.f
  by_cases hc : i < (l.length : Int)
  · rw [if_pos hc, if_pos hi.1]
    exact ⟨_, _, _, rfl, and_byte _, by rw [wrap_id (by omega)]; omega⟩
  · rw [if_neg hc]
    exact ⟨_, _, _, rfl, and_byte _, hi⟩
theorem below_ok {l : List Int} {i : Int} (h n : Int) (hi : 0 ≤ i ∧ i ≤ (l.length : Int)) (hl : l.length ≤ 1048576) : ∃ x i' h', spec_l01Below.f l i h n = some (x, i', h') ∧ (0 ≤ x) ∧ (0 < n → x < n) ∧ (n ≤ 0 → x = 0) ∧ (0 ≤ i' ∧ i' ≤ (l.length : Int)) := by
  unfold spec_l01Below.f
  by_cases h0 : n ≤ 0
  · rw [if_pos h0]; exact ⟨0, i, h, rfl, by omega, by omega, fun _ => rfl, hi⟩
  rw [if_neg h0]
  by_cases h1 : n ≤ 256
  · rw [if_pos h1]
    obtain ⟨x, i', h', e, hx, hi'⟩ := byte_ok h hi hl
    rw [e, Option.bind_some, if_neg (by omega)]
    refine ⟨_, _, _, rfl, ?_, fun _ => ?_, fun hn => by omega, hi'⟩
    · rw [Int.tmod_eq_emod_of_nonneg hx.1]; exact Int.emod_nonneg _ (by omega)
    · rw [Int.tmod_eq_emod_of_nonneg hx.1]; exact Int.emod_lt_of_pos _ (by omega)
  · rw [if_neg h1]
    obtain ⟨x1, i1, h1', e1, hx1, hi1⟩ := byte_ok h hi hl
    obtain ⟨x2, i2, h2', e2, hx2, hi2⟩ := byte_ok h1' hi1 hl
    obtain ⟨x3, i3, h3', e3, hx3, hi3⟩ := byte_ok h2' hi2 hl
    obtain ⟨x4, i4, h4', e4, hx4, hi4⟩ := byte_ok h3' hi3 hl
    rw [e1, Option.bind_some, e2, Option.bind_some, e3, Option.bind_some, e4, Option.bind_some, if_neg (by omega)]
    refine ⟨_, _, _, rfl, ?_, fun _ => ?_, fun hn => by omega, hi4⟩
    all_goals simp only [wrap_id (x := x1 * 16777216) (by omega), wrap_id (x := x2 * 65536) (by omega), wrap_id (x := x3 * 256) (by omega), wrap_id (x := x1 * 16777216 + x2 * 65536) (by omega), wrap_id (x := x1 * 16777216 + x2 * 65536 + x3 * 256) (by omega), wrap_id (x := x1 * 16777216 + x2 * 65536 + x3 * 256 + x4) (by omega)]
    · rw [Int.tmod_eq_emod_of_nonneg (by omega)]; exact Int.emod_nonneg _ (by omega)
    · rw [Int.tmod_eq_emod_of_nonneg (by omega)]; exact Int.emod_lt_of_pos _ (by omega)
theorem pick_ok {l : List Int} {i : Int} (h : Int) {c : List Int} (hc : 0 < c.length) (hi : 0 ≤ i ∧ i ≤ (l.length : Int)) (hl : l.length ≤ 1048576) : ∃ x i' h', spec_l01PickInt.f l i h c = some (x, i', h') ∧ x ∈ c ∧ (0 ≤ i' ∧ i' ≤ (l.length : Int)) := by
  unfold spec_l01PickInt.f
  obtain ⟨x, i', h', e, x0, x1, _, hi'⟩ := below_ok h (c.length : Int) hi hl
  have x2 := x1 (by omega)
  rw [e, Option.bind_some, if_pos x0, if_pos x2]
  refine ⟨_, _, _, rfl, ?_, hi'⟩
  unfold rd
  rw [List.getD_eq_getElem?_getD, List.getElem?_eq_getElem (by omega)]
  exact List.getElem_mem _
theorem once_ok {l : List Int} {i : Int} (h n : Int) (hi : 0 ≤ i ∧ i ≤ (l.length : Int)) (hl : l.length ≤ 1048576) : ∃ b i' h', spec_l01Once.f l i h n = some (b, i', h') ∧ (0 ≤ i' ∧ i' ≤ (l.length : Int)) := by
  unfold spec_l01Once.f
  obtain ⟨x, i', h', e, _, _, _, hi'⟩ := below_ok h n hi hl
  rw [e, Option.bind_some]
  exact ⟨_, _, _, rfl, hi'⟩
theorem new_l0 {l : List Int} (hl : l.length ≤ 1048576) : ∀ (d i k : Nat) (h : Int), i + d = l.length → d < k → ∃ h', spec_l01New.l0 k l h (i : Int) = some (l, 0, h') := by
  intro d
  induction d with
  | zero =>
    intro i k h hi hk
    obtain ⟨k, rfl⟩ : ∃ q, k = q + 1 := ⟨k - 1, by omega⟩
    simp only [spec_l01New.l0]
    rw [if_neg (by omega)]
    exact ⟨_, rfl⟩
  | succ d ih =>
    intro i k h hi hk
    obtain ⟨k, rfl⟩ : ∃ q, k = q + 1 := ⟨k - 1, by omega⟩
    simp only [spec_l01New.l0]
    rw [if_pos (by omega)]
    by_cases h4 : (i : Int) < 4000
    · rw [if_pos h4, if_pos (by omega), succ_wrap (by omega)]
      exact ih (i + 1) k _ (by omega) (by omega)
    · rw [if_neg h4]; exact ⟨_, rfl⟩
theorem new_ok {l : List Int} {k : Nat} (hl : l.length ≤ 1048576) (hk : 1048577 ≤ k) : ∃ h, spec_l01New.f k l = some (l, 0, h) := by
  unfold spec_l01New.f
  exact new_l0 hl l.length 0 k _ (by omega) (by omega)

theorem l01In_eq (a b c : Int) : spec_l01In.f a b c = some (decide (b ≤ a ∧ a ≤ c)) := by
  unfold spec_l01In.f
  by_cases h : b ≤ a <;> simp [h]
theorem within_eq (a b c : Int) : impl_within.f a b c = some (decide (b ≤ a ∧ a ≤ c)) := by
  unfold impl_within.f
  by_cases h : b ≤ a <;> simp [h]

def inR (p : Int) : Bool := decide (0 ≤ p ∧ p ≤ 12)
def circOk (l : List Int) : Bool := l.all inR && (decide (l.length = 12) && (l.sum == 12))
theorem impl_circOk_l0 : ∀ (rest pre : List Int) (s : Int) (k : Nat), rest.length < k → (pre ++ rest).length ≤ 1099511627776 → 0 ≤ s ∧ s ≤ 12 * (pre.length : Int) →
    impl_CircleOk.l0 k s (pre ++ rest) ((pre ++ rest).length : Int) (pre.length : Int) (pre ++ rest) = some (rest.all inR && (decide ((pre ++ rest).length = 12) && (s + rest.sum == 12))) := by
  intro rest
  induction rest with
  | nil =>
    intro pre s k hk hl hs
    obtain ⟨k, rfl⟩ : ∃ m, k = m + 1 := ⟨k - 1, by simp at hk; omega⟩
    simp only [impl_CircleOk.l0]
    rw [if_neg (by simp)]
    by_cases h : (pre ++ ([] : List Int)).length = 12
    · rw [if_pos (by omega)]; simp at h; simp [h]
    · rw [if_neg (by omega)]; simp at h; simp [h]
  | cons p rest ih =>
    intro pre s k hk hl hs
    obtain ⟨k, rfl⟩ : ∃ m, k = m + 1 := ⟨k - 1, by simp at hk; omega⟩
    simp only [impl_CircleOk.l0]
    rw [if_pos (by simp; omega), if_pos (by omega), if_pos (by simp; omega), rd_mid, within_eq]
    simp only [Option.bind_some]
    by_cases hp : 0 ≤ p ∧ p ≤ 12
    · have hl2 : pre.length ≤ 1099511627776 := by simp at hl; omega
      rw [if_pos (by simpa using hp), wrap_id (x := s + p) (by omega), succ_wrap hl2]
      have := ih (pre ++ [p]) (s + p) k (by simp at hk; omega) (by simp at hl ⊢; omega) (by simp; omega)
      have e : pre ++ [p] ++ rest = pre ++ p :: rest := by simp
      have e2 : ((pre ++ [p]).length : Int) = ((pre.length + 1 : Nat) : Int) := by simp
      rw [e, e2] at this
      rw [this]
      have hi : inR p = true := decide_eq_true hp
      simp [hi, Int.add_assoc]
    · rw [if_neg (by simpa using hp)]
      have hi : inR p = false := decide_eq_false hp
      simp [hi]
theorem impl_circOk {k : Nat} {l : List Int} (hk : l.length < k) (hl : l.length ≤ 1099511627776) : impl_CircleOk.f k l = some (circOk l) := by
  have := impl_circOk_l0 l [] 0 k hk (by simpa using hl) (by simp)
  unfold impl_CircleOk.f circOk
  simpa using this
theorem circOk_len {l : List Int} (h : circOk l = true) : l.length = 12 := by
  unfold circOk at h; simp at h; exact h.2.1
theorem circOk_sum {l : List Int} (h : circOk l = true) : l.sum = 12 := by
  unfold circOk at h; simp at h; exact h.2.2
theorem circOk_mem {l : List Int} (h : circOk l = true) : ∀ p ∈ l, 0 ≤ p ∧ p ≤ 12 := by
  unfold circOk at h; simp at h
  intro p hp
  have := h.1 p hp
  exact of_decide_eq_true this

theorem spec_circOk_l0 : ∀ (rest pre : List Int) (s : Int) (k : Nat), rest.length < k → (pre ++ rest).length ≤ 1099511627776 → 0 ≤ s ∧ s ≤ 12 * (pre.length : Int) →
    spec_CircleOk.l0 k s (pre.length : Int) (pre ++ rest) = some (rest.all inR && (decide ((pre ++ rest).length = 12) && (s + rest.sum == 12))) := by
  intro rest
  induction rest with
  | nil =>
    intro pre s k hk hl hs
    obtain ⟨k, rfl⟩ : ∃ m, k = m + 1 := ⟨k - 1, by simp at hk; omega⟩
    simp only [spec_CircleOk.l0]
    rw [if_neg (by simp)]
    by_cases h : (pre ++ ([] : List Int)).length = 12
    · rw [if_pos (by omega)]; simp at h; simp [h]
    · rw [if_neg (by omega)]; simp at h; simp [h]
  | cons p rest ih =>
    intro pre s k hk hl hs
    obtain ⟨k, rfl⟩ : ∃ m, k = m + 1 := ⟨k - 1, by simp at hk; omega⟩
    simp only [spec_CircleOk.l0]
    rw [if_pos (by simp; omega), if_pos (by omega), rd_mid, l01In_eq]
    simp only [Option.bind_some]
    by_cases hp : 0 ≤ p ∧ p ≤ 12
    · have hl2 : pre.length ≤ 1099511627776 := by simp at hl; omega
      rw [if_pos (by simpa using hp), wrap_id (x := s + p) (by omega), succ_wrap hl2]
      have := ih (pre ++ [p]) (s + p) k (by simp at hk; omega) (by simp at hl ⊢; omega) (by simp; omega)
      have e : pre ++ [p] ++ rest = pre ++ p :: rest := by simp
      have e2 : ((pre ++ [p]).length : Int) = ((pre.length + 1 : Nat) : Int) := by simp
      rw [e, e2] at this
      rw [this]
      have hi : inR p = true := decide_eq_true hp
      simp [hi, Int.add_assoc]
    · rw [if_neg (by simpa using hp)]
      have hi : inR p = false := decide_eq_false hp
      simp [hi]
theorem spec_circOk {k : Nat} {l : List Int} (hk : l.length < k) (hl : l.length ≤ 1099511627776) : spec_CircleOk.f k l = some (circOk l) := by
  have := spec_circOk_l0 l [] 0 k hk (by simpa using hl) (by simp)
  unfold spec_CircleOk.f circOk
  simpa using this

theorem circ_j1 {l c : List Int} (i h : Int) {k : Nat} (hc : c.length = 12) (hk : 100 ≤ k) : ∃ c' i' h', spec_l12Circle.j1 k l i h c = some (c', i', h') ∧ circOk c' = true := by
  obtain ⟨k', rfl⟩ : ∃ k', k = k' + 1 := ⟨k - 1, by omega⟩
  rw [spec_l12Circle.j1, spec_circOk (by omega) (by omega), Option.bind_some]
  by_cases g : circOk c = true
  · rw [if_pos g]; exact ⟨c, i, h, rfl, g⟩
  · rw [if_neg g, spec_EqualCircle.f, Option.bind_some]; exact ⟨_, i, h, rfl, by decide⟩
theorem tmod12 (x : Int) (hx : 0 ≤ x ∧ x ≤ 11) : 0 ≤ Int.tmod (wrap64 (x + 1)) 12 ∧ Int.tmod (wrap64 (x + 1)) 12 < 12 := by
  rw [wrap_id (by omega)]
  have h1 := Int.tmod_nonneg 12 (show 0 ≤ x + 1 by omega)
  have h2 := Int.tmod_lt_of_pos (x + 1) (show (0 : Int) < 12 by decide)
  exact ⟨h1, h2⟩
theorem circ_l0 {l : List Int} (hl : l.length ≤ 1048576) (p : Int) : ∀ (d : Nat) (c : List Int) (i h : Int) (k : Nat), c.length = 12 → (0 ≤ i ∧ i ≤ (l.length : Int)) → d ≤ 100 → 200 + d ≤ k → ∃ c' i' h', spec_l12Circle.l0 k p (d : Int) l i h c = some (c', i', h') ∧ circOk c' = true := by
  intro d
  induction d with
  | zero =>
    intro c i h k hc hi hd hk
    obtain ⟨k', rfl⟩ : ∃ k', k = k' + 1 := ⟨k - 1, by omega⟩
    rw [spec_l12Circle.l0, if_neg (by omega)]
    obtain ⟨b, i1, h1, e1, hi1⟩ := once_ok h 4 hi hl
    rw [e1, Option.bind_some]
    dsimp only
    by_cases g : b = true
    · rw [if_pos g]
      obtain ⟨x, i2, h2, e2, x0, x1, _, hi2⟩ := below_ok h1 12 hi1 hl
      rw [e2, Option.bind_some]
      dsimp only
      obtain ⟨y, i3, h3, e3, y0, y1, _, hi3⟩ := below_ok h2 12 hi2 hl
      rw [e3, Option.bind_some]
      dsimp only
      have x2 := x1 (by decide)
      have y2 := y1 (by decide)
      rw [if_pos x0, if_pos (by omega)]
      split
      · first
          | rw [if_pos (show y < (c.length : Int) by omega)]
          | rw [if_pos y0, if_pos (show y < (c.length : Int) by omega)]
        split
        · rw [Option.bind_some]; exact circ_j1 _ _ (by simp; exact hc) (by omega)
        · exact circ_j1 _ _ hc (by omega)
      · exact circ_j1 _ _ hc (by omega)
    · rw [if_neg g]; exact circ_j1 _ _ hc (by omega)
  | succ d ih =>
    intro c i h k hc hi hd hk
    obtain ⟨k', rfl⟩ : ∃ k', k = k' + 1 := ⟨k - 1, by omega⟩
    rw [spec_l12Circle.l0, if_pos (by omega)]
    obtain ⟨x, i1, h1, e1, x0, x1, _, hi1⟩ := below_ok h 12 hi hl
    rw [e1, Option.bind_some]
    dsimp only
    have x2 := x1 (by decide)
    have ht := tmod12 x (by omega)
    rw [if_pos x0, if_pos (by omega), wrap_id (x := ((d + 1 : Nat) : Int) - 1) (by omega), show ((d + 1 : Nat) : Int) - 1 = (d : Int) by omega]
    split
    · rw [if_pos ht.1, if_pos (by omega)]
      exact ih _ i1 h1 k' (by simp; exact hc) hi1 (by omega) (by omega)
    · exact ih _ i1 h1 k' (by simp; exact hc) hi1 (by omega) (by omega)
theorem circle_ok {l : List Int} {i : Int} (h : Int) (hi : 0 ≤ i ∧ i ≤ (l.length : Int)) (hl : l.length ≤ 1048576) {k : Nat} (hk : 1000 ≤ k) : ∃ c i' h', spec_l12Circle.f k l i h = some (c, i', h') ∧ circOk c = true := by
  unfold spec_l12Circle.f
  rw [if_pos (by decide)]
  obtain ⟨p, i1, h1, e1, hp, hi1⟩ := pick_ok h (c := [1, 2, 3, 4]) (by decide) hi hl
  rw [e1, Option.bind_some]
  dsimp only
  simp only [List.mem_cons, List.not_mem_nil, or_false] at hp
  rcases hp with rfl | rfl | rfl | rfl
  · rw [if_neg (by decide), show wrap64 ((12 : Int) / 1) = ((12 : Nat) : Int) by rw [wrap_id (by decide)]; rfl]; exact circ_l0 hl _ 12 (List.replicate 12 0) i1 h1 k (by simp) hi1 (by omega) (by omega)
  · rw [if_neg (by decide), show wrap64 ((12 : Int) / 2) = ((6 : Nat) : Int) by rw [wrap_id (by decide)]; rfl]; exact circ_l0 hl _ 6 (List.replicate 12 0) i1 h1 k (by simp) hi1 (by omega) (by omega)
  · rw [if_neg (by decide), show wrap64 ((12 : Int) / 3) = ((4 : Nat) : Int) by rw [wrap_id (by decide)]; rfl]; exact circ_l0 hl _ 4 (List.replicate 12 0) i1 h1 k (by simp) hi1 (by omega) (by omega)
  · rw [if_neg (by decide), show wrap64 ((12 : Int) / 4) = ((3 : Nat) : Int) by rw [wrap_id (by decide)]; rfl]; exact circ_l0 hl _ 3 (List.replicate 12 0) i1 h1 k (by simp) hi1 (by omega) (by omega)
theorem drawCircle_ok {l : List Int} {k : Nat} (hl : l.length ≤ 1048576) (hk : 1048577 ≤ k) : ∃ c, spec_DrawCircle.f k l = some c ∧ circOk c = true := by
  unfold spec_DrawCircle.f
  obtain ⟨h, e⟩ := new_ok hl hk
  rw [e, Option.bind_some]
  dsimp only
  obtain ⟨c, i', h', e2, hc⟩ := circle_ok h (i := 0) (by omega) hl (k := k) (by omega)
  rw [e2, Option.bind_some]
  exact ⟨c, rfl, hc⟩

theorem u8_range {x : Int} (h : (Lit.int .u8 x).wf = true) : 0 ≤ x ∧ x ≤ 255 := bounds_u8 h
theorem at_eq {l : List Int} {i : Int} (hi : 0 ≤ i ∧ i ≤ 100) (hl : l.length ≤ 1048576) (hw : ∀ x ∈ l, (Lit.int .u8 x).wf = true) : ∃ x, laws_at.f l i = some x ∧ 0 ≤ x ∧ x ≤ 255 := by
  unfold laws_at.f
  by_cases h : (l.length : Int) = 0
  · exact ⟨0, by rw [if_pos h], by omega, by omega⟩
  · rw [if_neg h, wrap_id (x := i * 5) (by omega), wrap_id (x := i * 5 + 1) (by omega), Int.tmod_eq_emod_of_nonneg (by omega)]
    have h1 := Int.emod_nonneg (i * 5 + 1) h
    have h2 := Int.emod_lt_of_pos (i * 5 + 1) (show (0 : Int) < (l.length : Int) by omega)
    rw [if_pos h1, if_pos h2]
    have hr : 0 ≤ rd l ((i * 5 + 1) % (l.length : Int)) ∧ rd l ((i * 5 + 1) % (l.length : Int)) ≤ 255 := by
      unfold rd
      rw [List.getD_eq_getElem?_getD, List.getElem?_eq_getElem (by omega)]
      exact u8_range (hw _ (List.getElem_mem _))
    exact ⟨_, by rw [wrap_id (by omega)], hr⟩
theorem big_eq (l : List Int) : laws_big.f l = some (decide (1048576 < l.length)) := by
  unfold laws_big.f
  congr 1
  rw [decide_eq_decide]; omega

def psum (l : List Int) (i : Int) : Nat → Int
  | 0 => 0
  | n + 1 => psum l i n + l.getD ((i.toNat + n) % 12) 0
theorem getD_range {l : List Int} (h : circOk l = true) (j : Nat) : 0 ≤ l.getD j 0 ∧ l.getD j 0 ≤ 12 := by
  rcases Nat.lt_or_ge j l.length with hj | hj
  · rw [List.getD_eq_getElem?_getD, List.getElem?_eq_getElem hj]
    exact circOk_mem h _ (List.getElem_mem hj)
  · rw [List.getD_eq_getElem?_getD, List.getElem?_eq_none hj]; simp
theorem psum_range {l : List Int} (h : circOk l = true) (i : Int) (n : Nat) : 0 ≤ psum l i n ∧ psum l i n ≤ 12 * n := by
  induction n with
  | zero => simp [psum]
  | succ n ih => have := getD_range h ((i.toNat + n) % 12); simp only [psum]; omega
theorem idx_eq {i : Int} {n : Nat} (hi : 0 ≤ i ∧ i ≤ 11) (hn : n ≤ 100) : Int.tmod (wrap64 (i + (n : Int))) 12 = (((i.toNat + n) % 12 : Nat) : Int) := by
  rw [wrap_id (by omega), Int.tmod_eq_emod_of_nonneg (by omega)]; omega

def isKey (l : List Int) (i : Int) : Bool := circOk l && decide (0 ≤ i ∧ i ≤ 11)
theorem impl_isKey_eq {k : Nat} {l : List Int} (i : Int) (hk : l.length < k) (hl : l.length ≤ 1099511627776) : impl_isKey.f k l i = some (isKey l i) := by
  unfold impl_isKey.f isKey
  rw [impl_circOk hk hl]
  simp only [Option.bind_some, within_eq]
  cases circOk l <;> simp
theorem isKey_parts {l : List Int} {i : Int} (h : isKey l i = true) : circOk l = true ∧ (0 ≤ i ∧ i ≤ 11) := by
  unfold isKey at h
  simp only [Bool.and_eq_true] at h
  exact ⟨h.1, of_decide_eq_true h.2⟩

theorem impl_parts_l0 {l : List Int} (h : circOk l = true) {i : Int} (hi : 0 ≤ i ∧ i ≤ 11) (n : Nat) (hn : n ≤ 100) : ∀ (d m k : Nat), m + d = n → d < k → impl_partsFrom.l0 k i (n : Int) (psum l i m) (m : Int) l = some (psum l i n) := by
  intro d
  induction d with
  | zero =>
    intro m k hm hk
    obtain ⟨k, rfl⟩ : ∃ q, k = q + 1 := ⟨k - 1, by omega⟩
    simp only [impl_partsFrom.l0]
    rw [if_neg (by omega)]
    congr 2
  | succ d ih =>
    intro m k hm hk
    obtain ⟨k, rfl⟩ : ∃ q, k = q + 1 := ⟨k - 1, by omega⟩
    have hl := circOk_len h
    have hg := getD_range h ((i.toNat + m) % 12)
    have hp := psum_range h i m
    have hmod : (i.toNat + m) % 12 < 12 := Nat.mod_lt _ (by omega)
    simp only [impl_partsFrom.l0]
    rw [if_pos (by omega), idx_eq hi (by omega), if_pos (by omega), if_pos (by omega), rd_getD, wrap_id (by omega), succ_wrap (by omega)]
    exact ih (m + 1) k (by omega) (by omega)
def parts (l : List Int) (i : Int) (n : Nat) : Int := if isKey l i = true then psum l i n else 0
theorem impl_partsFrom_eq {k n : Nat} {l : List Int} (i : Int) (hk : l.length < k) (hl : l.length ≤ 1099511627776) (hn : n ≤ 100) (hkn : n < k) : impl_partsFrom.f k l i (n : Int) = some (parts l i n) := by
  unfold impl_partsFrom.f parts
  rw [impl_isKey_eq i hk hl]
  simp only [Option.bind_some]
  by_cases h : isKey l i = true
  · rw [if_pos h, if_pos h]
    obtain ⟨h1, h2⟩ := isKey_parts h
    exact impl_parts_l0 h1 h2 n hn n 0 k (by omega) hkn
  · rw [if_neg h, if_neg h]

theorem impl_thirdParts {k : Nat} {l : List Int} (i : Int) (hk : l.length < k) (hk2 : 5 < k) (hl : l.length ≤ 1099511627776) : impl_ThirdParts.f k l i = some (parts l i 4) := by
  unfold impl_ThirdParts.f
  have := impl_partsFrom_eq (k := k) (n := 4) i hk hl (by omega) (by omega)
  rw [show ((4 : Nat) : Int) = 4 from rfl] at this
  rw [this]; rfl

theorem mx_neg {a : Int} (h : -4611686018427387904 ≤ a ∧ a ≤ 4611686018427387904) : mx a (wrap64 (-a)) = ((a.natAbs : Nat) : Int) := by
  rw [wrap_id (by omega)]
  unfold mx
  split <;> omega

theorem impl_gcd_l0 : ∀ (k : Nat) (y x : Int), y.natAbs < k → (-4611686018427387904 ≤ x ∧ x ≤ 4611686018427387904) → (-4611686018427387904 ≤ y ∧ y ≤ 4611686018427387904) → impl_divisor.l0 k x y = some ((Int.gcd x y : Nat) : Int) := by
  intro k
  induction k with
  | zero => intro y x h; omega
  | succ k ih =>
    intro y x h hx hy
    simp only [impl_divisor.l0]
    by_cases h0 : y = 0
    · subst h0
      rw [if_pos rfl]
      by_cases hn : x < 0
      · rw [if_pos hn, wrap_id (by omega)]
        simp; omega
      · rw [if_neg hn]
        simp; omega
    · rw [if_neg h0]
      have e : (Int.tmod x y).natAbs = x.natAbs % y.natAbs := Int.natAbs_tmod x y
      have hl : x.natAbs % y.natAbs < y.natAbs := Nat.mod_lt _ (by omega)
      rw [ih (Int.tmod x y) y (by omega) hy (by omega)]
      congr 2
      unfold Int.gcd
      rw [e]
      exact ((Nat.gcd_comm _ _).trans (Nat.gcd_rec y.natAbs x.natAbs).symm).trans (Nat.gcd_comm _ _)
theorem impl_gcd {k : Nat} {a b : Int} (ha : -4611686018427387904 ≤ a ∧ a ≤ 4611686018427387904) (hb : -4611686018427387904 ≤ b ∧ b ≤ 4611686018427387904) (hk : b.natAbs < k) :
    impl_divisor.f k a b = some ((Int.gcd a b : Nat) : Int) := impl_gcd_l0 k b a hk ha hb

def g4 (a b c d : Int) : Int := ((Int.gcd ((Int.gcd a b : Nat) : Int) ((Int.gcd c d : Nat) : Int) : Nat) : Int)
def simp4 (a b c d : Int) : Int × Int × Int × Int := (Int.tdiv a (g4 a b c d), Int.tdiv b (g4 a b c d), Int.tdiv c (g4 a b c d), Int.tdiv d (g4 a b c d))
theorem gcd_le_right {c d : Int} (h : 1 ≤ d) : Int.gcd c d ≤ d.natAbs := Nat.le_of_dvd (by omega) (Nat.gcd_dvd_right _ _)
theorem gcd_le_bound {a b : Int} {B : Nat} (ha : a.natAbs ≤ B) (hb : b.natAbs ≤ B) : Int.gcd a b ≤ B := by
  unfold Int.gcd
  rcases Nat.eq_zero_or_pos b.natAbs with h | h
  · rw [h, Nat.gcd_zero_right]; exact ha
  · exact Nat.le_trans (Nat.le_of_dvd h (Nat.gcd_dvd_right _ _)) hb
theorem g4_pos {a b c d : Int} (h : 1 ≤ d) : 1 ≤ g4 a b c d := by
  unfold g4
  have h1 : 0 < Int.gcd c d := Int.gcd_pos_of_ne_zero_right _ (by omega)
  have : 0 < Int.gcd ((Int.gcd a b : Nat) : Int) ((Int.gcd c d : Nat) : Int) := Int.gcd_pos_of_ne_zero_right _ (by omega)
  omega
theorem tdiv_bound {a g : Int} {B : Int} (hg : 1 ≤ g) (h : -B ≤ a ∧ a ≤ B) : -B ≤ Int.tdiv a g ∧ Int.tdiv a g ≤ B := by
  have h1 : (Int.tdiv a g).natAbs ≤ a.natAbs := by rw [Int.natAbs_tdiv]; exact Nat.div_le_self _ _
  omega
theorem impl_simple {k : Nat} {a b c d : Int} (ha : -1000000 ≤ a ∧ a ≤ 1000000) (hb : -1000000 ≤ b ∧ b ≤ 1000000) (hc : -1000000 ≤ c ∧ c ≤ 1000000) (hd : 1 ≤ d ∧ d ≤ 1000000) (hk : 1000000 < k) :
    impl_simplest.f k a b c d = some (simp4 a b c d) := by
  unfold impl_simplest.f
  have e1 := gcd_le_bound (a := a) (b := b) (B := 1000000) (by omega) (by omega)
  have e2 := gcd_le_bound (a := c) (b := d) (B := 1000000) (by omega) (by omega)
  have hg := g4_pos (a := a) (b := b) (c := c) hd.1
  rw [impl_gcd (by omega) (by omega) (by omega)]
  simp only [Option.bind_some]
  rw [impl_gcd (by omega) (by omega) (by omega)]
  simp only [Option.bind_some]
  rw [impl_gcd (by omega) (by omega) (by omega)]
  simp only [Option.bind_some]
  show (if g4 a b c d = 0 then none else some (wrap64 (Int.tdiv a (g4 a b c d)), wrap64 (Int.tdiv b (g4 a b c d)), wrap64 (Int.tdiv c (g4 a b c d)), wrap64 (Int.tdiv d (g4 a b c d)))) = _
  have b1 := tdiv_bound hg ha
  have b2 := tdiv_bound hg hb
  have b3 := tdiv_bound hg hc
  have b4 := tdiv_bound (B := 1000000) hg (show -1000000 ≤ d ∧ d ≤ 1000000 by omega)
  rw [if_neg (by omega), wrap_id (by omega), wrap_id (by omega), wrap_id (by omega), wrap_id (by omega)]
  rfl

def thirdAt (l : List Int) (i : Int) : Int × Int × Int × Int := if isKey l i = true then simp4 (19 * psum l i 4 - 72) (48 - 12 * psum l i 4) 0 12 else (0, 0, 0, 0)
theorem impl_thirdAt {k : Nat} {l : List Int} (i : Int) (hk : l.length < k) (hk2 : 1000000 < k) (hl : l.length ≤ 1099511627776) : impl_ThirdAt.f k l i = some (thirdAt l i) := by
  unfold impl_ThirdAt.f thirdAt
  rw [impl_isKey_eq i hk hl]
  simp only [Option.bind_some]
  by_cases h : isKey l i = true
  · rw [if_pos h, if_pos h, impl_thirdParts i hk (by omega) hl]
    simp only [Option.bind_some]
    obtain ⟨h1, h2⟩ := isKey_parts h
    have h4 := psum_range h1 i 4
    have er : parts l i 4 = psum l i 4 := by unfold parts; rw [if_pos h]
    rw [er]
    generalize psum l i 4 = p at *
    rw [wrap_id (x := 19 * p) (by omega), wrap_id (x := 19 * p - 72) (by omega), wrap_id (x := 12 * p) (by omega), wrap_id (x := 48 - 12 * p) (by omega), impl_simple (by omega) (by omega) (by omega) (by omega) hk2]
    rfl
  · rw [if_neg h, if_neg h]

def iok (a b c d : Int) : Bool := decide ((1 ≤ d ∧ d ≤ 12) ∧ (-400 ≤ a ∧ a ≤ 400) ∧ (-400 ≤ b ∧ b ≤ 400) ∧ (-400 ≤ c ∧ c ≤ 400))
theorem impl_iok (a b c d : Int) : impl_IntervalOk.f a b c d = some (iok a b c d) := by
  unfold impl_IntervalOk.f iok
  simp only [within_eq, Option.bind_some]
  by_cases h1 : 1 ≤ d ∧ d ≤ 12 <;> by_cases h2 : -400 ≤ a ∧ a ≤ 400 <;> by_cases h3 : -400 ≤ b ∧ b ≤ 400 <;> simp [h1, h2, h3]
theorem iok_bounds {a b c d : Int} (h : iok a b c d = true) : (1 ≤ d ∧ d ≤ 12) ∧ (-400 ≤ a ∧ a ≤ 400) ∧ (-400 ≤ b ∧ b ≤ 400) ∧ (-400 ≤ c ∧ c ≤ 400) := of_decide_eq_true h
theorem iok_mk {a b c d : Int} (h : (1 ≤ d ∧ d ≤ 12) ∧ (-400 ≤ a ∧ a ≤ 400) ∧ (-400 ≤ b ∧ b ≤ 400) ∧ (-400 ≤ c ∧ c ≤ 400)) : iok a b c d = true := decide_eq_true h

def chk (a b c d : Int) : Int × Int × Int × Int × Bool := if iok (simp4 a b c d).1 (simp4 a b c d).2.1 (simp4 a b c d).2.2.1 (simp4 a b c d).2.2.2 = true then ((simp4 a b c d).1, (simp4 a b c d).2.1, (simp4 a b c d).2.2.1, (simp4 a b c d).2.2.2, true) else (0, 0, 0, 0, false)
theorem impl_checked {k : Nat} {a b c d : Int} (ha : -1000000 ≤ a ∧ a ≤ 1000000) (hb : -1000000 ≤ b ∧ b ≤ 1000000) (hc : -1000000 ≤ c ∧ c ≤ 1000000) (hd : 1 ≤ d ∧ d ≤ 1000000) (hk : 1000000 < k) :
    impl_okInterval.f k a b c d = some (chk a b c d) := by
  unfold impl_okInterval.f chk
  rw [impl_simple ha hb hc hd hk]
  simp only [Option.bind_some, impl_iok]
  split <;> rfl

theorem mulb {a x A X : Int} (ha : -A ≤ a ∧ a ≤ A) (hx : -X ≤ x ∧ x ≤ X) : -(A * X) ≤ a * x ∧ a * x ≤ A * X := by
  have hA : 0 ≤ A := by omega
  have hX : 0 ≤ X := by omega
  have h : (a * x).natAbs ≤ (A * X).natAbs := by
    rw [Int.natAbs_mul, Int.natAbs_mul]
    exact Nat.mul_le_mul (by omega) (by omega)
  have h2 : 0 ≤ A * X := Int.mul_nonneg hA hX
  omega

def addI (a b c d x y z r : Int) : Int × Int × Int × Int × Bool := if iok a b c d = true ∧ iok x y z r = true then chk (a * r + x * d) (b * r + y * d) (c * r + z * d) (d * r) else (0, 0, 0, 0, false)
theorem add_wrap {a d x r : Int} (ha : -400 ≤ a ∧ a ≤ 400) (hx : -400 ≤ x ∧ x ≤ 400) (hd : 1 ≤ d ∧ d ≤ 12) (hr : 1 ≤ r ∧ r ≤ 12) : wrap64 ((wrap64 (a * r)) + (wrap64 (x * d))) = a * r + x * d ∧ (-1000000 ≤ a * r + x * d ∧ a * r + x * d ≤ 1000000) := by
  have m1 := mulb (A := 400) (X := 12) (a := a) (x := r) (by omega) (by omega)
  have m2 := mulb (A := 400) (X := 12) (a := x) (x := d) (by omega) (by omega)
  rw [wrap_id (x := a * r) (by omega), wrap_id (x := x * d) (by omega), wrap_id (by omega)]
  exact ⟨rfl, by omega⟩
theorem root_wrap {d r : Int} (hd : 1 ≤ d ∧ d ≤ 12) (hr : 1 ≤ r ∧ r ≤ 12) : wrap64 (d * r) = d * r ∧ 1 ≤ d * r ∧ d * r ≤ 1000000 := by
  have m1 := mulb (A := 12) (X := 12) (a := d) (x := r) (by omega) (by omega)
  have : 0 < d * r := Int.mul_pos (by omega) (by omega)
  exact ⟨wrap_id (by omega), by omega, by omega⟩
theorem impl_addI {k : Nat} (a b c d x y z r : Int) (hk : 1000000 < k) : impl_AddIntervals.f k a b c d x y z r = some (addI a b c d x y z r) := by
  unfold impl_AddIntervals.f addI
  rw [impl_iok, impl_iok]
  simp only [Option.bind_some]
  by_cases h1 : iok a b c d = true
  · by_cases h2 : iok x y z r = true
    · obtain ⟨i1, i2, i3, i4⟩ := iok_bounds h1
      obtain ⟨j1, j2, j3, j4⟩ := iok_bounds h2
      rw [if_pos h1, if_pos h2, if_pos ⟨h1, h2⟩]
      obtain ⟨e1, b1⟩ := add_wrap i2 j2 i1 j1
      obtain ⟨e2, b2⟩ := add_wrap i3 j3 i1 j1
      obtain ⟨e3, b3⟩ := add_wrap i4 j4 i1 j1
      obtain ⟨e4, b4⟩ := root_wrap i1 j1
      rw [e1, e2, e3, e4, impl_checked b1 b2 b3 b4 hk]
      rfl
    · rw [if_pos h1, if_neg h2, if_neg (fun h => h2 h.2)]
  · rw [if_neg h1, if_neg (fun h => h1 h.1)]

def minusI (a b c d x y z r : Int) : Int × Int × Int × Int × Bool := addI a b c d (-x) (-y) (-z) r
theorem impl_minusI {k : Nat} {a b c d x y z r : Int} (hx : -4000000000 ≤ x ∧ x ≤ 4000000000) (hy : -4000000000 ≤ y ∧ y ≤ 4000000000) (hz : -4000000000 ≤ z ∧ z ≤ 4000000000) (hk : 1000000 < k) : impl_minus.f k a b c d x y z r = some (minusI a b c d x y z r) := by
  unfold impl_minus.f impl_negated.f
  simp only [Option.bind_some]
  rw [wrap_id (x := -x) (by omega), wrap_id (x := -y) (by omega), wrap_id (x := -z) (by omega), impl_addI _ _ _ _ _ _ _ _ hk]
  rfl

def pureOf (a b c : Int) : Int × Int × Int × Int := if iok a b c 1 = true then (a, b, c, 1) else (0, 0, 0, 0)
theorem impl_pureOf (a b c : Int) : impl_PureOf.f a b c = some (pureOf a b c) := by
  unfold impl_PureOf.f pureOf
  simp only [impl_iok, Option.bind_some]
  split <;> rfl

theorem psum4_le {l : List Int} (h : circOk l = true) {i : Int} (hi : 0 ≤ i ∧ i ≤ 11) : psum l i 4 ≤ 12 := by
  have hl := circOk_len h
  have hs := circOk_sum h
  have hm := circOk_mem h
  match l, hl with
  | [a0, a1, a2, a3, a4, a5, a6, a7, a8, a9, a10, a11], _ =>
    have p0 := hm a0 (by simp); have p1 := hm a1 (by simp); have p2 := hm a2 (by simp); have p3 := hm a3 (by simp)
    have p4 := hm a4 (by simp); have p5 := hm a5 (by simp); have p6 := hm a6 (by simp); have p7 := hm a7 (by simp)
    have p8 := hm a8 (by simp); have p9 := hm a9 (by simp); have p10 := hm a10 (by simp); have p11 := hm a11 (by simp)
    simp only [List.sum_cons, List.sum_nil] at hs
    have hc : i = 0 ∨ i = 1 ∨ i = 2 ∨ i = 3 ∨ i = 4 ∨ i = 5 ∨ i = 6 ∨ i = 7 ∨ i = 8 ∨ i = 9 ∨ i = 10 ∨ i = 11 := by omega
    rcases hc with rfl | rfl | rfl | rfl | rfl | rfl | rfl | rfl | rfl | rfl | rfl | rfl <;> simp [psum] <;> omega
def errOf (p : Int) : Int × Int × Int × Int := simp4 (19 * p - 48) (48 - 12 * p) (-12) 12
theorem err_fin : ∀ p : Fin 13, ∃ ok, minusI (simp4 (19 * (p.val : Int) - 72) (48 - 12 * (p.val : Int)) 0 12).1 (simp4 (19 * (p.val : Int) - 72) (48 - 12 * (p.val : Int)) 0 12).2.1 (simp4 (19 * (p.val : Int) - 72) (48 - 12 * (p.val : Int)) 0 12).2.2.1 (simp4 (19 * (p.val : Int) - 72) (48 - 12 * (p.val : Int)) 0 12).2.2.2 (-2) 0 1 1
    = ((errOf (p.val : Int)).1, (errOf (p.val : Int)).2.1, (errOf (p.val : Int)).2.2.1, (errOf (p.val : Int)).2.2.2, ok) := by decide +kernel
theorem pureThird : pureOf (-2) 0 1 = (-2, 0, 1, 1) := by decide
def thirdError (l : List Int) (i : Int) : Int × Int × Int × Int := if isKey l i = true then errOf (psum l i 4) else (0, 0, 0, 0)
theorem impl_thirdError {k : Nat} {l : List Int} (i : Int) (hk : l.length < k) (hk2 : 1000000 < k) (hl : l.length ≤ 1099511627776) : impl_ThirdError.f k l i = some (thirdError l i) := by
  unfold impl_ThirdError.f thirdError
  rw [impl_isKey_eq i hk hl]
  simp only [Option.bind_some]
  by_cases h : isKey l i = true
  · rw [if_pos h, if_pos h, impl_thirdAt i hk hk2 hl, Option.bind_some, impl_pureOf, pureThird, Option.bind_some]
    dsimp only
    unfold thirdAt
    rw [if_pos h]
    obtain ⟨h1, h2⟩ := isKey_parts h
    have h3 := psum_range h1 i 4
    have h4 := psum4_le h1 h2
    obtain ⟨ok, he⟩ := err_fin ⟨(psum l i 4).toNat, by omega⟩
    have e1 : (((psum l i 4).toNat : Nat) : Int) = psum l i 4 := by omega
    simp only [e1] at he
    rw [impl_minusI (by omega) (by omega) (by omega) hk2, he]
    rfl
  · rw [if_neg h, if_neg h]

def val : List Int → Int
  | [] => 0
  | d :: ds => d + 10000 * val ds
def Dig (l : List Int) : Prop := ∀ d ∈ l, 0 ≤ d ∧ d < 10000
def Norm (l : List Int) : Prop := Dig l ∧ l.getLast? ≠ some 0
def cmpZ (m n : Int) : Int := if m < n then -1 else if n < m then 1 else 0
theorem val_append (a b : List Int) : val (a ++ b) = val a + 10000 ^ a.length * val b := by
  induction a with
  | nil => simp [val]
  | cons x a ih =>
    simp only [List.cons_append, val, ih, List.length_cons, Int.pow_succ]
    rw [Int.mul_add, ← Int.add_assoc, Int.mul_comm (10000 ^ a.length) 10000, Int.mul_assoc]
theorem val_snoc (a : List Int) (x : Int) : val (a ++ [x]) = val a + 10000 ^ a.length * x := by
  rw [val_append]; simp [val]
theorem Dig.append {a b : List Int} (ha : Dig a) (hb : Dig b) : Dig (a ++ b) := by
  intro d hd
  rcases List.mem_append.1 hd with h | h
  · exact ha d h
  · exact hb d h
theorem Dig.left {a b : List Int} (h : Dig (a ++ b)) : Dig a := fun d hd => h d (List.mem_append.2 (.inl hd))
theorem Dig.right {a b : List Int} (h : Dig (a ++ b)) : Dig b := fun d hd => h d (List.mem_append.2 (.inr hd))
theorem Dig.one {x : Int} (h : 0 ≤ x ∧ x < 10000) : Dig [x] := by
  intro d hd
  simp at hd; subst hd; exact h
theorem pow10_pos (n : Nat) : (0 : Int) < 10000 ^ n := Int.pow_pos (by decide)
theorem val_nn {a : List Int} (h : Dig a) : 0 ≤ val a := by
  induction a with
  | nil => simp [val]
  | cons x a ih =>
    have h1 := ih (fun d hd => h d (List.mem_cons_of_mem _ hd))
    have h2 := h x List.mem_cons_self
    simp only [val]; omega
theorem val_lt {a : List Int} (h : Dig a) : val a < 10000 ^ a.length := by
  induction a with
  | nil => simp [val]
  | cons x a ih =>
    have h1 := ih (fun d hd => h d (List.mem_cons_of_mem _ hd))
    have h2 := h x List.mem_cons_self
    simp only [val, List.length_cons, Int.pow_succ]
    omega
theorem val_ge {a : List Int} (h : Norm a) (hn : a ≠ []) : 10000 ^ (a.length - 1) ≤ val a := by
  obtain ⟨b, x, rfl⟩ := (List.eq_nil_or_concat a).resolve_left hn
  simp only [List.concat_eq_append] at h hn ⊢
  rw [val_snoc]
  have hx : x ≠ 0 := by have := h.2; simpa using this
  have hx2 := h.1 x (by simp)
  have h3 : (10000 : Int) ^ b.length * 1 ≤ 10000 ^ b.length * x := Int.mul_le_mul_of_nonneg_left (by omega) (Int.le_of_lt (pow10_pos _))
  have h4 := val_nn h.1.left
  have e : (b ++ [x]).length - 1 = b.length := by simp
  rw [e]; omega
theorem norm_of_val {a : List Int} (h : Dig a) (hv : a ≠ [] → 10000 ^ (a.length - 1) ≤ val a) : Norm a := by
  refine ⟨h, ?_⟩
  rcases List.eq_nil_or_concat a with rfl | ⟨b, x, rfl⟩
  · simp
  · simp only [List.concat_eq_append] at h hv ⊢
    have h1 := hv (by simp)
    have e : (b ++ [x]).length - 1 = b.length := by simp
    rw [e, val_snoc] at h1
    have h2 := val_lt h.left
    intro hx
    have : x = 0 := by simpa using hx
    subst this
    omega
theorem cmpZ_cases (m n : Int) : (cmpZ m n = -1 ∧ m < n) ∨ (cmpZ m n = 0 ∧ m = n) ∨ (cmpZ m n = 1 ∧ n < m) := by
  unfold cmpZ
  rcases Int.lt_trichotomy m n with h | h | h
  · left; rw [if_pos h]; exact ⟨rfl, h⟩
  · right; left; rw [if_neg (by omega), if_neg (by omega)]; exact ⟨rfl, h⟩
  · right; right; rw [if_neg (by omega), if_pos h]; exact ⟨rfl, h⟩
theorem cmpZ_lt {m n : Int} (h : m < n) : cmpZ m n = -1 := by unfold cmpZ; rw [if_pos h]
theorem cmpZ_gt {m n : Int} (h : n < m) : cmpZ m n = 1 := by unfold cmpZ; rw [if_neg (by omega), if_pos h]
theorem cmpZ_self (m : Int) : cmpZ m m = 0 := by unfold cmpZ; rw [if_neg (by omega), if_neg (by omega)]
theorem cmp_snoc {a b : List Int} {x y : Int} (ha : Dig a) (hb : Dig b) (hl : a.length = b.length) :
    cmpZ (val (a ++ [x])) (val (b ++ [y])) = if x < y then -1 else if x > y then 1 else cmpZ (val a) (val b) := by
  rw [val_snoc, val_snoc, hl]
  have h1 := val_lt ha
  have h2 := val_lt hb
  have h3 := val_nn ha
  have h4 := val_nn hb
  have hP := pow10_pos b.length
  rw [hl] at h1
  generalize (10000 : Int) ^ b.length = P at *
  rcases Int.lt_trichotomy x y with h | h | h
  · have h5 : P * (x + 1) ≤ P * y := Int.mul_le_mul_of_nonneg_left (by omega) (by omega)
    rw [Int.mul_add] at h5
    rw [if_pos h]; exact cmpZ_lt (by omega)
  · subst h
    rw [if_neg (by omega), if_neg (by omega)]
    rcases cmpZ_cases (val a) (val b) with ⟨g, g'⟩ | ⟨g, g'⟩ | ⟨g, g'⟩
    · rw [g]; exact cmpZ_lt (by omega)
    · rw [g, g']; exact cmpZ_self _
    · rw [g]; exact cmpZ_gt (by omega)
  · have h5 : P * (y + 1) ≤ P * x := Int.mul_le_mul_of_nonneg_left (by omega) (by omega)
    rw [Int.mul_add] at h5
    rw [if_neg (by omega), if_pos h]; exact cmpZ_gt (by omega)
theorem ipow_le {b m n : Nat} (hb : 0 < b) (h : m ≤ n) : (b : Int) ^ m ≤ (b : Int) ^ n := by
  rw [← Int.natCast_pow, ← Int.natCast_pow]; exact Int.ofNat_le.2 (Nat.pow_le_pow_right hb h)
theorem ipow_base {a b n : Nat} (h : a ≤ b) : (a : Int) ^ n ≤ (b : Int) ^ n := by
  rw [← Int.natCast_pow, ← Int.natCast_pow]; exact Int.ofNat_le.2 (Nat.pow_le_pow_left h n)
theorem ipow_inv {b m n : Nat} (hb : 1 < b) (h : (b : Int) ^ m ≤ (b : Int) ^ n) : m ≤ n := by
  rw [← Int.natCast_pow, ← Int.natCast_pow] at h; exact (Nat.pow_le_pow_iff_right hb).1 (Int.ofNat_le.1 h)
theorem cmp_len {a b : List Int} (ha : Norm a) (hb : Norm b) (hl : a.length < b.length) : val a < val b := by
  have h1 := val_lt ha.1
  have h2 := val_ge hb (by intro e; subst e; simp at hl)
  have h3 : (10000 : Int) ^ a.length ≤ 10000 ^ (b.length - 1) := ipow_le (b := 10000) (by decide) (by omega)
  omega
theorem len_le_of_val {a : List Int} {n : Nat} (h : Norm a) (hv : val a ≤ 2 ^ n) : a.length ≤ n + 1 := by
  rcases Nat.eq_zero_or_pos a.length with h0 | h0
  · omega
  have h2 := val_ge h (by intro e; subst e; simp at h0)
  have h3 : (2 : Int) ^ (a.length - 1) ≤ 10000 ^ (a.length - 1) := ipow_base (a := 2) (b := 10000) (by decide)
  have h4 : (2 : Int) ^ (a.length - 1) ≤ 2 ^ n := by omega
  have := ipow_inv (b := 2) (by decide) h4
  omega
def mulL : List Int → Int → Int → List Int × Int
  | [], _, c => ([], c)
  | d :: ds, b, c => (((d * b + c) % 10000) :: (mulL ds b ((d * b + c) / 10000)).1, (mulL ds b ((d * b + c) / 10000)).2)
theorem mulL_len (ds : List Int) (b c : Int) : (mulL ds b c).1.length = ds.length := by
  induction ds generalizing c with
  | nil => rfl
  | cons d ds ih => simp only [mulL, List.length_cons, ih]
theorem mulL_dig (ds : List Int) (b c : Int) : Dig (mulL ds b c).1 := by
  induction ds generalizing c with
  | nil => intro d hd; simp [mulL] at hd
  | cons d ds ih =>
    intro x hx
    simp only [mulL, List.mem_cons] at hx
    rcases hx with rfl | hx
    · omega
    · exact ih _ x hx
theorem mulL_val (ds : List Int) (b c : Int) : val (mulL ds b c).1 + 10000 ^ ds.length * (mulL ds b c).2 = val ds * b + c := by
  induction ds generalizing c with
  | nil => simp [mulL, val]
  | cons d ds ih =>
    simp only [mulL, val, List.length_cons]
    have h := ih ((d * b + c) / 10000)
    have e := Int.mul_ediv_add_emod (d * b + c) 10000
    rw [Int.pow_succ, Int.add_mul, Int.mul_assoc 10000]
    have e2 : (10000 : Int) ^ ds.length * 10000 * (mulL ds b ((d * b + c) / 10000)).2 = 10000 * (10000 ^ ds.length * (mulL ds b ((d * b + c) / 10000)).2) := by
      rw [Int.mul_comm ((10000 : Int) ^ ds.length) 10000, Int.mul_assoc]
    rw [e2]
    generalize val (mulL ds b ((d * b + c) / 10000)).1 = V at *
    generalize (10000 : Int) ^ ds.length * (mulL ds b ((d * b + c) / 10000)).2 = C at *
    generalize val ds * b = X at *
    generalize d * b = Y at *
    omega
theorem digit_step {d b c : Int} (hd : 0 ≤ d ∧ d < 10000) (hb : 1 ≤ b) (hc : 0 ≤ c ∧ c < b) : 0 ≤ d * b + c ∧ d * b + c < 10000 * b ∧ (0 ≤ (d * b + c) / 10000 ∧ (d * b + c) / 10000 < b) := by
  have h1 : 0 ≤ d * b := Int.mul_nonneg hd.1 (by omega)
  have h2 : d * b ≤ 9999 * b := Int.mul_le_mul_of_nonneg_right (by omega) (by omega)
  omega
theorem mulL_carry (ds : List Int) {b c : Int} (hd : Dig ds) (hb : 1 ≤ b) (hc : 0 ≤ c ∧ c < b) : 0 ≤ (mulL ds b c).2 ∧ (mulL ds b c).2 < b := by
  induction ds generalizing c with
  | nil => exact hc
  | cons d ds ih =>
    have h := digit_step (hd d List.mem_cons_self) hb hc
    exact ih (fun x hx => hd x (List.mem_cons_of_mem _ hx)) h.2.2

def pwZ (a b c : Int) : Int := 2 ^ a.toNat * 3 ^ b.toNat * 5 ^ c.toNat
def sgn3 (a b c : Int) : Int := cmpZ (pwZ a b c) (pwZ (-a) (-b) (-c))
theorem pwZ_pos (a b c : Int) : 0 < pwZ a b c := Int.mul_pos (Int.mul_pos (Int.pow_pos (by decide)) (Int.pow_pos (by decide))) (Int.pow_pos (by decide))
theorem cmpZ_swap (m n : Int) : cmpZ n m = - cmpZ m n := by
  rcases cmpZ_cases m n with ⟨h, h'⟩ | ⟨h, h'⟩ | ⟨h, h'⟩ <;> rcases cmpZ_cases n m with ⟨g, g'⟩ | ⟨g, g'⟩ | ⟨g, g'⟩ <;> rw [h, g] <;> first | rfl | omega
theorem sgn3_neg (a b c : Int) : sgn3 (-a) (-b) (-c) = - sgn3 a b c := by
  unfold sgn3; rw [Int.neg_neg, Int.neg_neg, Int.neg_neg]; exact cmpZ_swap _ _
theorem ipow_lt {m n : Int} (hm : 0 ≤ m) (h : m < n) : ∀ {g : Nat}, g ≠ 0 → m ^ g < n ^ g := by
  intro g hg
  obtain ⟨u, rfl⟩ := Int.eq_ofNat_of_zero_le hm
  obtain ⟨v, rfl⟩ := Int.eq_ofNat_of_zero_le (show 0 ≤ n by omega)
  have : u ^ g < v ^ g := Nat.pow_lt_pow_left (by omega) hg
  rw [← Int.natCast_pow, ← Int.natCast_pow]; exact Int.ofNat_lt.2 this
theorem cmpZ_pow {m n : Int} (hm : 0 ≤ m) (hn : 0 ≤ n) {g : Nat} (hg : g ≠ 0) : cmpZ (m ^ g) (n ^ g) = cmpZ m n := by
  rcases cmpZ_cases m n with ⟨h, h'⟩ | ⟨h, h'⟩ | ⟨h, h'⟩
  · rw [h]; exact cmpZ_lt (ipow_lt hm h' hg)
  · rw [h, h']; exact cmpZ_self _
  · rw [h]; exact cmpZ_gt (ipow_lt hn h' hg)
theorem ipow_mul (x : Int) (m n : Nat) : x ^ (m * n) = (x ^ m) ^ n := Int.pow_mul ..
theorem imul_pow (x y : Int) (n : Nat) : (x * y) ^ n = x ^ n * y ^ n := Int.mul_pow ..
theorem toNat_mul {g : Nat} (a : Int) : ((g : Int) * a).toNat = a.toNat * g := by
  rcases Int.le_total 0 a with h | h
  · obtain ⟨u, rfl⟩ := Int.eq_ofNat_of_zero_le h
    rw [← Int.natCast_mul, Int.toNat_natCast, Int.toNat_natCast, Nat.mul_comm]
  · have h1 : (g : Int) * a ≤ 0 := Int.mul_nonpos_of_nonneg_of_nonpos (by omega) h
    rw [Int.toNat_of_nonpos h1, Int.toNat_of_nonpos h, Nat.zero_mul]
theorem pwZ_scale (g : Nat) (a b c : Int) : pwZ (g * a) (g * b) (g * c) = pwZ a b c ^ g := by
  unfold pwZ
  rw [toNat_mul, toNat_mul, toNat_mul, ipow_mul, ipow_mul, ipow_mul, ← imul_pow, ← imul_pow]
theorem sgn3_scale {g : Nat} (hg : g ≠ 0) (a b c : Int) : sgn3 (g * a) (g * b) (g * c) = sgn3 a b c := by
  unfold sgn3
  rw [← Int.mul_neg, ← Int.mul_neg, ← Int.mul_neg, pwZ_scale, pwZ_scale]
  exact cmpZ_pow (Int.le_of_lt (pwZ_pos _ _ _)) (Int.le_of_lt (pwZ_pos _ _ _)) hg
theorem sgn3_div {a b c : Int} {g : Nat} (hg : g ≠ 0) (ha : (g : Int) ∣ a) (hb : (g : Int) ∣ b) (hc : (g : Int) ∣ c) : sgn3 (Int.tdiv a g) (Int.tdiv b g) (Int.tdiv c g) = sgn3 a b c := by
  obtain ⟨x, rfl⟩ := ha
  obtain ⟨y, rfl⟩ := hb
  obtain ⟨z, rfl⟩ := hc
  have hg' : (g : Int) ≠ 0 := by omega
  rw [Int.mul_tdiv_cancel_left _ hg', Int.mul_tdiv_cancel_left _ hg', Int.mul_tdiv_cancel_left _ hg', sgn3_scale hg]

theorem itimes_run {n : Int} (hn : 1 ≤ n ∧ n ≤ 1000000000) : ∀ (rest done acc : List Int) (c : Int) (k : Nat), Dig rest → 0 ≤ c ∧ c < n → done.length + rest.length ≤ 1000000 → acc.length + rest.length ≤ 1000000 →
    impl_times.l0 (k + rest.length) n acc c (done ++ rest) ((done ++ rest).length : Int) (done.length : Int) = impl_times.l0 k n (acc ++ (mulL rest n c).1) (mulL rest n c).2 (done ++ rest) ((done ++ rest).length : Int) ((done.length + rest.length : Nat) : Int) := by
  intro rest
  induction rest with
  | nil => intro done acc c k _ _ _ _; simp [mulL]
  | cons d rest ih =>
    intro done acc c k hd hc hl ha
    have hs := digit_step (hd d List.mem_cons_self) hn.1 hc
    have e0 : k + (d :: rest).length = (k + rest.length) + 1 := by simp; omega
    rw [e0]
    simp only [impl_times.l0]
    simp only [List.length_cons] at hl ha
    have hdb : 0 ≤ d * n ∧ d * n ≤ 10000000000000 := by
      have h1 := hd d List.mem_cons_self
      have h2 : d * n ≤ 10000 * n := Int.mul_le_mul_of_nonneg_right (by omega) (by omega)
      have h3 := Int.mul_nonneg h1.1 (show 0 ≤ n by omega)
      omega
    rw [if_pos (by simp; omega), if_pos (by omega), if_pos (by simp; omega), if_pos (by omega), rd_mid, wrap_id (x := d * n) (by omega), wrap_id (x := d * n + c) (by omega), Int.tmod_eq_emod_of_nonneg hs.1, Int.tdiv_eq_ediv_of_nonneg hs.1, wrap_id (x := (d * n + c) / 10000) (by omega), succ_wrap (by omega)]
    have h := ih (done ++ [d]) (acc ++ [(d * n + c) % 10000]) ((d * n + c) / 10000) k (fun x hx => hd x (List.mem_cons_of_mem _ hx)) hs.2.2 (by simp; omega) (by simp; omega)
    have e2 : ((done ++ [d]).length : Int) = ((done.length + 1 : Nat) : Int) := by simp
    have e5 : done ++ [d] ++ rest = done ++ d :: rest := by simp
    rw [e2, e5] at h
    rw [h]
    have e3 : (acc ++ [(d * n + c) % 10000]) ++ (mulL rest n ((d * n + c) / 10000)).1 = acc ++ (mulL (d :: rest) n c).1 := by simp [mulL]
    have e4 : (done ++ [d]).length + rest.length = done.length + (d :: rest).length := by simp; omega
    rw [e3, e4]
    rfl
theorem itimes_l2 : ∀ (m : Nat) (x : List Int) (k : Nat), x.length = m → Dig x → m ≤ 2000000 → m < k → ∃ out, impl_times.l2 k x = some out ∧ Norm out ∧ val out = val x ∧ out.length ≤ x.length := by
  intro m
  induction m with
  | zero =>
    intro x k hx _ _ hk
    obtain ⟨k, rfl⟩ : ∃ q, k = q + 1 := ⟨k - 1, by omega⟩
    obtain rfl := List.eq_nil_of_length_eq_zero hx
    refine ⟨[], ?_, ⟨by intro d hd; simp at hd, by simp⟩, rfl, Nat.le_refl _⟩
    simp only [impl_times.l2]
    rw [if_neg (by simp)]
  | succ m ih =>
    intro x k hx hd hm hk
    obtain ⟨k, rfl⟩ : ∃ q, k = q + 1 := ⟨k - 1, by omega⟩
    obtain ⟨a, y, rfl⟩ := (List.eq_nil_or_concat x).resolve_left (by intro e; subst e; simp at hx)
    simp only [List.concat_eq_append] at *
    have ha : a.length = m := by simpa using hx
    have el : wrap64 (((a ++ [y]).length : Int) - 1) = ((m : Nat) : Int) := by rw [wrap_id (by omega)]; omega
    have er : rd (a ++ [y]) (m : Int) = y := by have := rd_mid a [] y; rwa [ha] at this
    simp only [impl_times.l2]
    rw [if_pos (by omega), el, if_pos (by omega), if_pos (by omega), er]
    by_cases hy : y = 0
    · rw [if_pos hy, if_pos (by omega)]
      have et : (a ++ [y]).take ((m : Int)).toNat = a := by rw [Int.toNat_natCast, ← ha, List.take_left]
      rw [et]
      obtain ⟨out, h1, h2, h3, h4⟩ := ih a k ha hd.left (by omega) (by omega)
      exact ⟨out, h1, h2, by rw [h3, val_snoc, hy]; omega, by omega⟩
    · rw [if_neg hy]
      exact ⟨_, rfl, ⟨hd, by simpa using hy⟩, rfl, Nat.le_refl _⟩
theorem itimes_l1 : ∀ (m : Nat) (x : List Int) (c : Int) (k : Nat), Dig x → 0 ≤ c ∧ c < 10000 ^ m → c ≤ 1000000000 → x.length + m ≤ 2000000 → x.length + 2 * m + 1 < k →
    ∃ out, impl_times.l1 k x c = some out ∧ Norm out ∧ val out = val x + 10000 ^ x.length * c ∧ out.length ≤ x.length + m := by
  intro m
  induction m with
  | zero =>
    intro x c k hd hc hb hl hk
    obtain ⟨k, rfl⟩ : ∃ q, k = q + 1 := ⟨k - 1, by omega⟩
    have hc0 : c = 0 := by simp at hc; omega
    subst hc0
    simp only [impl_times.l1]
    rw [if_neg (by omega)]
    obtain ⟨out, h1, h2, h3, h4⟩ := itimes_l2 x.length x k rfl hd (by omega) (by omega)
    exact ⟨out, h1, h2, by rw [h3, Int.mul_zero]; omega, by omega⟩
  | succ m ih =>
    intro x c k hd hc hb hl hk
    obtain ⟨k, rfl⟩ : ∃ q, k = q + 1 := ⟨k - 1, by omega⟩
    simp only [impl_times.l1]
    by_cases h0 : c > 0
    · rw [if_pos h0, if_pos (by omega), Int.tmod_eq_emod_of_nonneg hc.1, Int.tdiv_eq_ediv_of_nonneg hc.1, wrap_id (by omega)]
      have hdiv : c / 10000 < 10000 ^ m := by
        have := hc.2
        rw [Int.pow_succ] at this
        omega
      obtain ⟨out, h1, h2, h3, h4⟩ := ih (x ++ [c % 10000]) (c / 10000) k (hd.append (Dig.one (by omega))) ⟨by omega, hdiv⟩ (by omega) (by simp; omega) (by simp; omega)
      refine ⟨out, h1, h2, ?_, by simp at h4; omega⟩
      rw [h3, val_snoc]
      have el : (x ++ [c % 10000]).length = x.length + 1 := by simp
      have e := Int.mul_ediv_add_emod c 10000
      rw [el, Int.pow_succ, Int.mul_assoc, Int.add_assoc, ← Int.mul_add, Int.add_comm (c % 10000), e]
    · rw [if_neg h0]
      have hc0 : c = 0 := by omega
      obtain ⟨out, h1, h2, h3, h4⟩ := itimes_l2 x.length x k rfl hd (by omega) (by omega)
      exact ⟨out, h1, h2, by rw [h3, hc0, Int.mul_zero]; omega, by omega⟩
theorem impl_times_eq {x : List Int} {n : Int} {k : Nat} (hn : 1 ≤ n ∧ n ≤ 1000000000) (hx : Norm x) (hl : x.length ≤ 1000000) (hk : 4000000 ≤ k) :
    ∃ out, impl_times.f k x n = some out ∧ Norm out ∧ val out = val x * n ∧ out.length ≤ x.length + 3 := by
  unfold impl_times.f
  obtain ⟨k, rfl⟩ : ∃ q, k = (q + 1) + x.length := ⟨k - x.length - 1, by omega⟩
  have hr := itimes_run hn x [] [] 0 (k + 1) hx.1 (by omega) (by simp; omega) (by simp; omega)
  have hr' : impl_times.l0 (k + 1 + x.length) n [] 0 x (x.length : Int) 0 = impl_times.l0 (k + 1) n (mulL x n 0).1 (mulL x n 0).2 x (x.length : Int) (x.length : Int) := by simpa using hr
  rw [hr']
  simp only [impl_times.l0]
  rw [if_neg (by omega)]
  have hc := mulL_carry x (c := 0) hx.1 hn.1 (by omega)
  have hlen := mulL_len x n 0
  have hv := mulL_val x n 0
  have h103 : (10000 : Int) ^ 3 = 1000000000000 := by decide
  obtain ⟨out, h1, h2, h3, h4⟩ := itimes_l1 3 (mulL x n 0).1 (mulL x n 0).2 k (mulL_dig x n 0) ⟨hc.1, by rw [h103]; omega⟩ (by omega) (by omega) (by omega)
  exact ⟨out, h1, h2, by rw [h3, hlen, hv]; omega, by omega⟩
theorem prod_l2 {p e q left : Int} {x7 : List Int} {x21 : List (List Int)} {x22 x23 : Int} (n : Nat) (hn : n ≤ 29) (hp : 1 ≤ p ∧ p ≤ 5) (hpn : p ^ n ≤ 1000000000) : ∀ (d i k : Nat), i + d = n →
    impl_product.l2 (k + d + 1) x7 [p, e, q] left (n : Int) (p ^ i) (i : Int) x21 x22 x23 = (impl_times.f k x7 (p ^ n)).bind fun t => impl_product.l1 k t [p, e, q] (wrap64 (left - (n : Int))) x21 x22 x23 := by
  intro d
  induction d with
  | zero =>
    intro i k hi
    simp only [impl_product.l2]
    rw [if_neg (by omega)]
    have : i = n := by omega
    subst this; rfl
  | succ d ih =>
    intro i k hi
    have e0 : k + (d + 1) + 1 = (k + d + 1) + 1 := by omega
    rw [e0]
    obtain ⟨K, hK⟩ : ∃ K, K = k + d + 1 := ⟨_, rfl⟩
    rw [← hK]
    simp only [impl_product.l2]
    rw [hK]
    have er : rd [p, e, q] 0 = p := by rfl
    have hb : 0 ≤ p ^ i * p ∧ p ^ i * p ≤ 1000000000 := by
      have h1 : p ^ (i + 1) ≤ p ^ n := by
        obtain ⟨u, rfl⟩ := Int.eq_ofNat_of_zero_le (show 0 ≤ p by omega)
        exact ipow_le (b := u) (by omega) (by omega)
      rw [Int.pow_succ] at h1
      have h2 : 0 < p ^ i := Int.pow_pos (by omega)
      have h3 := Int.mul_pos h2 (show 0 < p by omega)
      omega
    rw [if_pos (by omega), if_pos (by simp), er, wrap_id (by omega), succ_wrap (by omega), ← Int.pow_succ]
    exact ih (i + 1) k (by omega)
theorem prod_l1 {p e : Int} {q : Nat} (hp : 1 ≤ p ∧ p ≤ 5) (hq : 1 ≤ q ∧ q ≤ 29) (hpq : p ^ q ≤ 1000000000) (x21 : List (List Int)) (x22 x23 : Int) : ∀ (m left : Nat) (x : List Int) (k : Nat), left ≤ m → Norm x → 1 ≤ val x → x.length + 3 * left ≤ 1000000 → 40 * left + 5000000 ≤ k →
    ∃ out k', impl_product.l1 k x [p, e, (q : Int)] (left : Int) x21 x22 x23 = impl_product.l0 k' out x21 x22 (wrap64 (x23 + 1)) ∧ Norm out ∧ 1 ≤ val out ∧ val out = val x * p ^ left ∧ out.length ≤ x.length + 3 * left ∧ k ≤ k' + 40 * left + 1 := by
  intro m
  induction m with
  | zero =>
    intro left x k hm hx hv hl hk
    obtain ⟨k, rfl⟩ : ∃ q, k = q + 1 := ⟨k - 1, by omega⟩
    have : left = 0 := by omega
    subst this
    refine ⟨x, k, ?_, hx, hv, by simp, by omega, by omega⟩
    simp only [impl_product.l1]
    rw [if_neg (by omega)]
  | succ m ih =>
    intro left x k hm hx hv hl hk
    rcases Nat.eq_zero_or_pos left with h0 | h0
    · exact ih left x k (by omega) hx hv hl hk
    · have hmn : ∃ n : Nat, mn (left : Int) (rd [p, e, (q : Int)] 2) = (n : Int) ∧ 1 ≤ n ∧ n ≤ left ∧ n ≤ q := by
        have er : rd [p, e, (q : Int)] 2 = (q : Int) := rfl
        rw [er]; unfold mn
        split
        · exact ⟨q, rfl, by omega, by omega, by omega⟩
        · exact ⟨left, rfl, by omega, by omega, by omega⟩
      obtain ⟨n, hn, n1, n2, n3⟩ := hmn
      obtain ⟨k, rfl⟩ : ∃ r, k = (r + n + 1) + 1 := ⟨k - n - 2, by omega⟩
      have hpn : p ^ n ≤ 1000000000 := by
        have h1 : p ^ n ≤ p ^ q := by
          obtain ⟨u, rfl⟩ := Int.eq_ofNat_of_zero_le (show 0 ≤ p by omega)
          exact ipow_le (b := u) (by omega) n3
        omega
      have hpn0 : 0 < p ^ n := Int.pow_pos (by omega)
      have hpn1 : 1 ≤ p ^ n := hpn0
      obtain ⟨t, t1, t2, t3, t4⟩ := impl_times_eq (x := x) (n := p ^ n) (k := k) ⟨hpn1, hpn⟩ hx (by omega) (by omega)
      have ht : 1 ≤ val t := by
        rw [t3]
        have : val x * 1 ≤ val x * p ^ n := Int.mul_le_mul_of_nonneg_left hpn1 (by omega)
        omega
      obtain ⟨out, k', g1, g2, g3, g4, g5, g6⟩ := ih (left - n) t k (by omega) t2 ht (by omega) (by omega)
      refine ⟨out, k', ?_, g2, g3, ?_, by omega, by omega⟩
      · simp only [impl_product.l1]
        rw [if_pos (by omega), if_pos (by simp), hn]
        have := prod_l2 (e := e) (q := (q : Int)) (left := (left : Int)) (x7 := x) (x21 := x21) (x22 := x22) (x23 := x23) n (by omega) hp hpn n 0 k (by omega)
        rw [show ((0 : Nat) : Int) = 0 from rfl, Int.pow_zero] at this
        rw [this, t1, Option.bind_some, wrap_id (by omega)]
        have e1 : (left : Int) - (n : Int) = ((left - n : Nat) : Int) := by omega
        rw [e1]; exact g1
      · rw [g4, t3, Int.mul_assoc, ← Int.pow_add]
        congr 2; omega
theorem impl_prod {a b c : Nat} {k : Nat} (ha : a ≤ 100000) (hb : b ≤ 100000) (hc : c ≤ 100000) (hk : 100000000 ≤ k) :
    ∃ out, impl_product.f k (a : Int) (b : Int) (c : Int) = some out ∧ Norm out ∧ val out = 2 ^ a * 3 ^ b * 5 ^ c ∧ out.length ≤ 1000000 := by
  unfold impl_product.f
  simp only [Option.bind_some]
  obtain ⟨k, rfl⟩ : ∃ r, k = r + 1 := ⟨k - 1, by omega⟩
  have n1 : Norm [1] := ⟨by intro d hd; simp at hd; omega, by simp⟩
  generalize hR : ([[2, (a : Int), 29], [3, (b : Int), 18], [5, (c : Int), 12]] : List (List Int)) = R
  have hRl : (R.length : Int) = 3 := by rw [← hR]; rfl
  have r0 : rd_L2 R 0 = [2, (a : Int), 29] := by rw [← hR]; rfl
  have r1 : rd_L2 R 1 = [3, (b : Int), 18] := by rw [← hR]; rfl
  have r2 : rd_L2 R 2 = [5, (c : Int), 12] := by rw [← hR]; rfl
  rw [hRl]
  obtain ⟨o1, k1, g1, N1, p1, v1, l1, f1⟩ := prod_l1 (p := 2) (e := (a : Int)) (q := 29) (by omega) (by omega) (by decide) R 3 0 a a [1] k (Nat.le_refl _) n1 (by simp [val]) (by simp; omega) (by omega)
  simp only [List.length_cons, List.length_nil] at l1
  obtain ⟨k1, rfl⟩ : ∃ r, k1 = r + 1 := ⟨k1 - 1, by omega⟩
  obtain ⟨o2, k2, g2, N2, p2, v2, l2, f2⟩ := prod_l1 (p := 3) (e := (b : Int)) (q := 18) (by omega) (by omega) (by decide) R 3 1 b b o1 k1 (Nat.le_refl _) N1 p1 (by omega) (by omega)
  obtain ⟨k2, rfl⟩ : ∃ r, k2 = r + 1 := ⟨k2 - 1, by omega⟩
  obtain ⟨o3, k3, g3, N3, p3, v3, l3, f3⟩ := prod_l1 (p := 5) (e := (c : Int)) (q := 12) (by omega) (by omega) (by decide) R 3 2 c c o2 k2 (Nat.le_refl _) N2 p2 (by omega) (by omega)
  obtain ⟨k3, rfl⟩ : ∃ r, k3 = r + 1 := ⟨k3 - 1, by omega⟩
  refine ⟨o3, ?_, N3, ?_, by omega⟩
  · simp only [impl_product.l0]
    rw [if_pos (by omega), if_pos (by omega), if_pos (by omega), r0, if_pos (by simp)]
    have e0 : rd [2, (a : Int), 29] 1 = (a : Int) := rfl
    rw [e0]
    rw [show ((29 : Nat) : Int) = 29 from rfl] at g1
    rw [g1, wrap_id (by omega)]
    simp only [impl_product.l0]
    rw [show (0 : Int) + 1 = 1 from rfl]
    rw [if_pos (by omega), if_pos (by omega), if_pos (by omega), r1, if_pos (by simp)]
    have e1 : rd [3, (b : Int), 18] 1 = (b : Int) := rfl
    rw [e1]
    rw [show ((18 : Nat) : Int) = 18 from rfl] at g2
    rw [g2, wrap_id (by omega)]
    simp only [impl_product.l0]
    rw [show (1 : Int) + 1 = 2 from rfl]
    rw [if_pos (by omega), if_pos (by omega), if_pos (by omega), r2, if_pos (by simp)]
    have e2 : rd [5, (c : Int), 12] 1 = (c : Int) := rfl
    rw [e2]
    rw [show ((12 : Nat) : Int) = 12 from rfl] at g3
    rw [g3, wrap_id (by omega)]
    simp only [impl_product.l0]
    rw [show (2 : Int) + 1 = 3 from rfl, if_neg (by omega)]
  · rw [v3, v2, v1]; simp [val]
theorem impl_cmp_l0 : ∀ (n : Nat) (a b s : List Int) (k : Nat), a.length = n → b.length = n → Dig a → Dig b → n + s.length ≤ 1000000 → n < k →
    impl_order.l0 k (a ++ s) (b ++ s) ((n : Int) - 1) = some (cmpZ (val a) (val b)) := by
  intro n
  induction n with
  | zero =>
    intro a b s k ha hb _ _ _ hk
    obtain ⟨k, rfl⟩ : ∃ q, k = q + 1 := ⟨k - 1, by omega⟩
    simp only [impl_order.l0]
    rw [if_neg (by omega)]
    rw [List.eq_nil_of_length_eq_zero ha, List.eq_nil_of_length_eq_zero hb, cmpZ_self]
  | succ n ih =>
    intro a b s k ha hb da db hl hk
    obtain ⟨k, rfl⟩ : ∃ q, k = q + 1 := ⟨k - 1, by omega⟩
    obtain ⟨a, x, rfl⟩ := (List.eq_nil_or_concat a).resolve_left (by intro e; subst e; simp at ha)
    obtain ⟨b, y, rfl⟩ := (List.eq_nil_or_concat b).resolve_left (by intro e; subst e; simp at hb)
    simp only [List.concat_eq_append] at *
    have ha' : a.length = n := by simpa using ha
    have hb' : b.length = n := by simpa using hb
    have ei : ((n + 1 : Nat) : Int) - 1 = (n : Int) := by omega
    rw [ei]
    simp only [impl_order.l0]
    have ra : rd (a ++ [x] ++ s) (n : Int) = x := by have := rd_mid a s x; rw [ha'] at this; simpa using this
    have rb : rd (b ++ [y] ++ s) (n : Int) = y := by have := rd_mid b s y; rw [hb'] at this; simpa using this
    rw [if_pos (by omega), if_pos (by omega), if_pos (by simp; omega), if_pos (by simp; omega), ra, rb, cmp_snoc da.left db.left (by omega)]
    by_cases h2 : x < y
    · rw [if_pos h2, if_pos h2]
    · rw [if_neg h2, if_neg h2]
      by_cases h3 : x > y
      · rw [if_pos h3, if_pos h3]
      · rw [if_neg h3, if_neg h3, wrap_id (by omega)]
        have e : x = y := by omega
        subst e
        have := ih a b (x :: s) k ha' hb' da.left db.left (by simp; omega) (by omega)
        simpa using this
theorem impl_cmp {a b : List Int} {k : Nat} (ha : Norm a) (hb : Norm b) (hl : a.length ≤ 1000000) (hk : 100000000 ≤ k) : impl_order.f k a b = some (cmpZ (val a) (val b)) := by
  unfold impl_order.f
  by_cases h : a.length = b.length
  · rw [if_pos (by omega), wrap_id (by omega)]
    have := impl_cmp_l0 a.length a b [] k rfl h.symm ha.1 hb.1 (by simp; omega) (by omega)
    simpa using this
  · rw [if_neg (by omega)]
    by_cases h2 : a.length < b.length
    · rw [if_pos (by omega), cmpZ_lt (cmp_len ha hb h2)]
    · rw [if_neg (by omega), cmpZ_gt (cmp_len hb ha (by omega))]
theorem mx_zero' (a : Int) : mx a 0 = ((a.toNat : Nat) : Int) := by unfold mx; split <;> omega
theorem impl_sign_eq {a b c : Int} {k : Nat} (ha : -100000 ≤ a ∧ a ≤ 100000) (hb : -100000 ≤ b ∧ b ≤ 100000) (hc : -100000 ≤ c ∧ c ≤ 100000) (hk : 100000000 ≤ k) : impl_sign.f k a b c = some (sgn3 a b c) := by
  unfold impl_sign.f
  rw [wrap_id (x := -a) (by omega), wrap_id (x := -b) (by omega), wrap_id (x := -c) (by omega), mx_zero', mx_zero', mx_zero', mx_zero', mx_zero', mx_zero']
  obtain ⟨u, eu, nu, vu, lu⟩ := impl_prod (a := a.toNat) (b := b.toNat) (c := c.toNat) (k := k) (by omega) (by omega) (by omega) hk
  obtain ⟨v, ev, nv, vv, lv⟩ := impl_prod (a := (-a).toNat) (b := (-b).toNat) (c := (-c).toNat) (k := k) (by omega) (by omega) (by omega) hk
  rw [eu, Option.bind_some, ev, Option.bind_some, impl_cmp nu nv lu hk, Option.bind_some, vu, vv]
  rfl

def signOf (a b c d : Int) : Int := if iok a b c d = true then sgn3 a b c else 0
theorem impl_signOf {k : Nat} (a b c d : Int) (hk : 100000000 ≤ k) : impl_SignOf.f k a b c d = some (signOf a b c d) := by
  unfold impl_SignOf.f signOf
  rw [impl_iok, Option.bind_some]
  by_cases h : iok a b c d = true
  · obtain ⟨i1, i2, i3, i4⟩ := iok_bounds h
    rw [if_pos h, if_pos h, impl_sign_eq (by omega) (by omega) (by omega) hk]; rfl
  · rw [if_neg h, if_neg h]

theorem err_ok : ∀ p : Fin 13, iok (errOf (p.val : Int)).1 (errOf (p.val : Int)).2.1 (errOf (p.val : Int)).2.2.1 (errOf (p.val : Int)).2.2.2 = true := by decide +kernel
theorem err_iok {l : List Int} {i : Int} (h : isKey l i = true) : iok (errOf (psum l i 4)).1 (errOf (psum l i 4)).2.1 (errOf (psum l i 4)).2.2.1 (errOf (psum l i 4)).2.2.2 = true := by
  obtain ⟨h1, h2⟩ := isKey_parts h
  have h3 := psum_range h1 i 4
  have h4 := psum4_le h1 h2
  have he := err_ok ⟨(psum l i 4).toNat, by omega⟩
  have e1 : (((psum l i 4).toNat : Nat) : Int) = psum l i 4 := by omega
  simp only [e1] at he
  exact he
def isWide (l : List Int) (i : Int) : Bool := if isKey l i = true then decide (sgn3 (errOf (psum l i 4)).1 (errOf (psum l i 4)).2.1 (errOf (psum l i 4)).2.2.1 > 0) else false
theorem impl_isWide {k : Nat} {l : List Int} (i : Int) (hk : l.length < k) (hk2 : 100000000 ≤ k) (hl : l.length ≤ 1099511627776) : impl_IsWideThird.f k l i = some (isWide l i) := by
  unfold impl_IsWideThird.f isWide
  rw [impl_thirdError i hk (by omega) hl, Option.bind_some, impl_iok, Option.bind_some, thirdError]
  by_cases h : isKey l i = true
  · have ho := err_iok h
    rw [if_pos h, if_pos h, if_pos ho, impl_signOf _ _ _ _ hk2, Option.bind_some, signOf, if_pos ho]
  · rw [if_neg h, if_neg h, if_neg (by decide)]

def fifthAt (l : List Int) (i : Int) : Int × Int × Int × Int := if isKey l i = true then simp4 (19 * l.getD i.toNat 0 - 12) (12 - 12 * l.getD i.toNat 0) 0 12 else (0, 0, 0, 0)
theorem impl_fifthAt {k : Nat} {l : List Int} (i : Int) (hk : l.length < k) (hk2 : 1000000 < k) (hl : l.length ≤ 1099511627776) : impl_FifthAt.f k l i = some (fifthAt l i) := by
  unfold impl_FifthAt.f fifthAt
  rw [impl_isKey_eq i hk hl]
  simp only [Option.bind_some]
  by_cases h : isKey l i = true
  · rw [if_pos h, if_pos h]
    obtain ⟨h1, h2⟩ := isKey_parts h
    have h3 := circOk_len h1
    have h4 := getD_range h1 i.toNat
    have er : rd l i = l.getD i.toNat 0 := rfl
    rw [if_pos h2.1, if_pos (by omega), er]
    generalize l.getD i.toNat 0 = p at *
    rw [wrap_id (x := 19 * p) (by omega), wrap_id (x := 19 * p - 12) (by omega), wrap_id (x := 12 * p) (by omega), wrap_id (x := 12 - 12 * p) (by omega), impl_simple (by omega) (by omega) (by omega) (by omega) hk2]
    rfl
  · rw [if_neg h, if_neg h]

def accT (s j : Int) : Int × Int × Int × Int := simp4 (19 * s - 12 * j - 24) (12 * j - 12 * s) 0 12
theorem third_step : ∀ (s p : Fin 13) (j : Fin 4), s.val + p.val ≤ 12 → addI (accT (s.val : Int) (j.val : Int)).1 (accT (s.val : Int) (j.val : Int)).2.1 (accT (s.val : Int) (j.val : Int)).2.2.1 (accT (s.val : Int) (j.val : Int)).2.2.2
      (simp4 (19 * (p.val : Int) - 12) (12 - 12 * (p.val : Int)) 0 12).1 (simp4 (19 * (p.val : Int) - 12) (12 - 12 * (p.val : Int)) 0 12).2.1 (simp4 (19 * (p.val : Int) - 12) (12 - 12 * (p.val : Int)) 0 12).2.2.1 (simp4 (19 * (p.val : Int) - 12) (12 - 12 * (p.val : Int)) 0 12).2.2.2
    = ((accT ((s.val : Int) + (p.val : Int)) ((j.val : Int) + 1)).1, (accT ((s.val : Int) + (p.val : Int)) ((j.val : Int) + 1)).2.1, (accT ((s.val : Int) + (p.val : Int)) ((j.val : Int) + 1)).2.2.1, (accT ((s.val : Int) + (p.val : Int)) ((j.val : Int) + 1)).2.2.2, true) := by decide +kernel
theorem third_add {s p j : Int} (hs : 0 ≤ s) (hp : 0 ≤ p) (hsp : s + p ≤ 12) (hj : 0 ≤ j ∧ j ≤ 3) : addI (accT s j).1 (accT s j).2.1 (accT s j).2.2.1 (accT s j).2.2.2 (simp4 (19 * p - 12) (12 - 12 * p) 0 12).1 (simp4 (19 * p - 12) (12 - 12 * p) 0 12).2.1 (simp4 (19 * p - 12) (12 - 12 * p) 0 12).2.2.1 (simp4 (19 * p - 12) (12 - 12 * p) 0 12).2.2.2
    = ((accT (s + p) (j + 1)).1, (accT (s + p) (j + 1)).2.1, (accT (s + p) (j + 1)).2.2.1, (accT (s + p) (j + 1)).2.2.2, true) := by
  have h := third_step ⟨s.toNat, by omega⟩ ⟨p.toNat, by omega⟩ ⟨j.toNat, by omega⟩ (by simp only []; omega)
  have e1 : ((s.toNat : Nat) : Int) = s := by omega
  have e2 : ((p.toNat : Nat) : Int) = p := by omega
  have e3 : ((j.toNat : Nat) : Int) = j := by omega
  simp only [e1, e2, e3] at h
  exact h
theorem third_end : ∀ p : Fin 13, addI (accT (p.val : Int) 4).1 (accT (p.val : Int) 4).2.1 (accT (p.val : Int) 4).2.2.1 (accT (p.val : Int) 4).2.2.2 2 0 (-1) 1 = ((errOf (p.val : Int)).1, (errOf (p.val : Int)).2.1, (errOf (p.val : Int)).2.2.1, (errOf (p.val : Int)).2.2.2, true)
    ∧ decide (sgn3 (errOf (p.val : Int)).1 (errOf (p.val : Int)).2.1 (errOf (p.val : Int)).2.2.1 > 0) = decide ((p.val : Int) < 12) := by decide +kernel
theorem accT_four (p : Int) : accT p 4 = simp4 (19 * p - 72) (48 - 12 * p) 0 12 := by
  unfold accT
  rw [show 19 * p - 12 * 4 - 24 = 19 * p - 72 by omega, show 12 * 4 - 12 * p = 48 - 12 * p by omega]
theorem pureTwo : pureOf 2 0 (-1) = (2, 0, -1, 1) := by decide
theorem pureStart : pureOf (-2) 0 0 = (-2, 0, 0, 1) := by decide
theorem acc_start : accT 0 0 = (-2, 0, 0, 1) := by decide
theorem psum_le4 {l : List Int} (h : circOk l = true) {i : Int} (hi : 0 ≤ i ∧ i ≤ 11) {n : Nat} (hn : n ≤ 4) : psum l i n ≤ 12 := by
  have h4 := psum4_le h hi
  have g0 := getD_range h ((i.toNat + 0) % 12)
  have g1 := getD_range h ((i.toNat + 1) % 12)
  have g2 := getD_range h ((i.toNat + 2) % 12)
  have g3 := getD_range h ((i.toNat + 3) % 12)
  simp only [psum] at h4
  have hc : n = 0 ∨ n = 1 ∨ n = 2 ∨ n = 3 ∨ n = 4 := by omega
  rcases hc with rfl | rfl | rfl | rfl | rfl <;> simp only [psum] <;> omega
theorem psum_all {l : List Int} (h : circOk l = true) {i : Int} (hi : 0 ≤ i ∧ i ≤ 11) : psum l i 9 + l.getD ((i.toNat + 9) % 12) 0 + l.getD ((i.toNat + 10) % 12) 0 + l.getD ((i.toNat + 11) % 12) 0 = 12 := by
  have hl := circOk_len h
  have hs := circOk_sum h
  match l, hl with
  | [a0, a1, a2, a3, a4, a5, a6, a7, a8, a9, a10, a11], _ =>
    simp only [List.sum_cons, List.sum_nil] at hs
    have hc : i = 0 ∨ i = 1 ∨ i = 2 ∨ i = 3 ∨ i = 4 ∨ i = 5 ∨ i = 6 ∨ i = 7 ∨ i = 8 ∨ i = 9 ∨ i = 10 ∨ i = 11 := by omega
    rcases hc with rfl | rfl | rfl | rfl | rfl | rfl | rfl | rfl | rfl | rfl | rfl | rfl <;> simp [psum] <;> omega
theorem impl_smallParts {k : Nat} {l : List Int} (i : Int) (hk : l.length < k) (hk2 : 10 < k) (hl : l.length ≤ 1099511627776) : impl_SmallThirdParts.f k l i = some (parts l i 9) := by
  unfold impl_SmallThirdParts.f
  have := impl_partsFrom_eq (k := k) (n := 9) i hk hl (by omega) (by omega)
  rw [show ((9 : Nat) : Int) = 9 from rfl] at this
  rw [this]; rfl
theorem FnThirds (l : List Int) (hm : l.length ≤ maxLen) (_ : l.length * 1 ≤ 140737488351232) (hw : ∀ x ∈ l, (Lit.int .u8 x).wf = true) : ∃ k, laws_FnThirds.f k l = some true := by
  by_cases hb : 1048576 < l.length
  · refine ⟨1, ?_⟩
    unfold laws_FnThirds.f
    rw [big_eq, decide_eq_true hb]; rfl
  · refine ⟨100000100, ?_⟩
    unfold laws_FnThirds.f
    rw [big_eq, decide_eq_false hb]
    obtain ⟨c, ec, hc⟩ := drawCircle_ok (l := l) (k := 100000100) (by omega) (by omega)
    have h12 := circOk_len hc
    obtain ⟨x, ex, x0, x1⟩ := at_eq (l := l) (i := 0) (by omega) (by omega) hw
    rw [Option.bind_some, if_neg (by decide), ec, Option.bind_some, ex, Option.bind_some, impl_pureOf, pureStart, Option.bind_some]
    dsimp only
    have t0 := Int.tmod_nonneg 12 x0
    have t1 := Int.tmod_lt_of_pos x (show (0 : Int) < 12 by decide)
    generalize Int.tmod x 12 = i at *
    have hi : 0 ≤ i ∧ i ≤ 11 := ⟨t0, by omega⟩
    have hkey : isKey c i = true := by unfold isKey; rw [hc, Bool.true_and]; exact decide_eq_true hi
    have key : ∀ (d j k : Nat), j + d = 4 → 100000010 + d < k → laws_FnThirds.l0 k i (j : Int) c (accT (psum c i j) (j : Int)).1 (accT (psum c i j) (j : Int)).2.1 (accT (psum c i j) (j : Int)).2.2.1 (accT (psum c i j) (j : Int)).2.2.2 = some true := by
      intro d
      induction d with
      | zero =>
        intro j k hj hk
        obtain rfl : j = 4 := by omega
        obtain ⟨k', rfl⟩ : ∃ k', k = k' + 1 := ⟨k - 1, by omega⟩
        have e5 : ((4 : Nat) : Int) = 4 := rfl
        have p0 := psum_range hc i 4
        have p1 := psum4_le hc hi
        have hf := third_end ⟨(psum c i 4).toNat, by omega⟩
        have ep : (((psum c i 4).toNat : Nat) : Int) = psum c i 4 := by omega
        simp only [ep] at hf
        have hio := err_iok hkey
        have e9 : parts c i 9 = psum c i 9 := by unfold parts; rw [if_pos hkey]
        have e4 : parts c i 4 = psum c i 4 := by unfold parts; rw [if_pos hkey]
        have eT : thirdAt c i = accT (psum c i 4) 4 := by unfold thirdAt; rw [if_pos hkey, accT_four]
        have eE : thirdError c i = errOf (psum c i 4) := by unfold thirdError; rw [if_pos hkey]
        have eW : isWide c i = decide (psum c i 4 < 12) := by unfold isWide; rw [if_pos hkey]; exact hf.2
        have i9 : Int.tmod (wrap64 (i + 9)) 12 = (((i.toNat + 9) % 12 : Nat) : Int) := idx_eq (n := 9) hi (by omega)
        have i10 : Int.tmod (wrap64 (i + 10)) 12 = (((i.toNat + 10) % 12 : Nat) : Int) := idx_eq (n := 10) hi (by omega)
        have i11 : Int.tmod (wrap64 (i + 11)) 12 = (((i.toNat + 11) % 12 : Nat) : Int) := idx_eq (n := 11) hi (by omega)
        have hall := psum_all hc hi
        have g9 := getD_range hc ((i.toNat + 9) % 12)
        have g10 := getD_range hc ((i.toNat + 10) % 12)
        have g11 := getD_range hc ((i.toNat + 11) % 12)
        rw [laws_FnThirds.l0, if_neg (by omega), e5, impl_pureOf, pureTwo, Option.bind_some]
        dsimp only
        rw [impl_addI _ _ _ _ _ _ _ _ (by omega), hf.1, Option.bind_some, impl_isWide i (by omega) (by omega) (by omega), Option.bind_some, impl_smallParts i (by omega) (by omega) (by omega), Option.bind_some, impl_thirdAt i (by omega) (by omega) (by omega), Option.bind_some, eT, if_pos (by simp), if_pos rfl]
        rw [impl_thirdError i (by omega) (by omega) (by omega), Option.bind_some, eE, if_pos (by simp), impl_thirdParts i (by omega) (by omega) (by omega), Option.bind_some, e4, eW, if_pos (by simp), impl_signOf _ _ _ _ (by omega), Option.bind_some]
        have eS : signOf (errOf (psum c i 4)).1 (errOf (psum c i 4)).2.1 (errOf (psum c i 4)).2.2.1 (errOf (psum c i 4)).2.2.2 = sgn3 (errOf (psum c i 4)).1 (errOf (psum c i 4)).2.1 (errOf (psum c i 4)).2.2.1 := by unfold signOf; rw [if_pos hio]
        rw [eS, hf.2, if_pos (by simp), i9, i10, i11]
        rw [if_pos (by omega), if_pos (by omega), if_pos (by omega), if_pos (by omega), if_pos (by omega), if_pos (by omega), rd_getD, rd_getD, rd_getD, e9]
        rw [wrap_id (x := 12 - psum c i 9) (by omega), wrap_id (x := c.getD ((i.toNat + 9) % 12) 0 + c.getD ((i.toNat + 10) % 12) 0) (by omega), wrap_id (by omega)]
        rw [show 12 - psum c i 9 = c.getD ((i.toNat + 9) % 12) 0 + c.getD ((i.toNat + 10) % 12) 0 + c.getD ((i.toNat + 11) % 12) 0 by omega]
        simp
      | succ d ih =>
        intro j k hj hk
        obtain ⟨k', rfl⟩ : ∃ k', k = k' + 1 := ⟨k - 1, by omega⟩
        have hs := psum_range hc i j
        have hg := getD_range hc ((i.toNat + j) % 12)
        have hle := psum_le4 hc hi (n := j + 1) (by omega)
        have hii := ih (j + 1) k' (by omega) (by omega)
        have hkj : isKey c (((i.toNat + j) % 12 : Nat) : Int) = true := by
          unfold isKey; rw [hc, Bool.true_and]; exact decide_eq_true ⟨by omega, by omega⟩
        have e6 : fifthAt c (((i.toNat + j) % 12 : Nat) : Int) = simp4 (19 * c.getD ((i.toNat + j) % 12) 0 - 12) (12 - 12 * c.getD ((i.toNat + j) % 12) 0) 0 12 := by
          unfold fifthAt; rw [if_pos hkj]; rfl
        have e7 : psum c i (j + 1) = psum c i j + c.getD ((i.toNat + j) % 12) 0 := rfl
        rw [e7] at hle hii
        rw [laws_FnThirds.l0, if_pos (by omega), idx_eq hi (by omega), impl_fifthAt _ (by omega) (by omega) (by omega), Option.bind_some, e6, impl_addI _ _ _ _ _ _ _ _ (by omega), third_add hs.1 hg.1 hle (by omega), Option.bind_some, if_pos rfl, succ_wrap (by omega)]
        exact hii
    have hfin := key 4 0 100000100 (by omega) (by omega)
    rw [show psum c i 0 = 0 from rfl, show ((0 : Nat) : Int) = 0 from rfl, acc_start] at hfin
    exact hfin

end Go.Proofs.Ytoljbcjpilcfiaa.Pure
