/- The law FnBestKeys over the bytes alone: the best keys of a drawn circle come in the order of their thirds, and of equal ones the lower key first. Conditions: none. -/
import Derived.Test.YtoljbcjpilcfiaaQFnBestKeysx5
import Derived.Test.YtoljbcjpilcfiaaVFnBestKeysa
import Derived.OpenShut
namespace Go.Proofs.Ytoljbcjpilcfiaa.Pure
open Go.RowKit Go.Proofs.Ytoljbcjpilcfiaa.PFnBestKeys Go.Proofs.YtoljbcjpilcfiaaW.PrintWords Go.Proofs.YtoljbcjpilcfiaaW.PrintLast Go.Proofs.YtoljbcjpilcfiaaW.PrintMore
set_option linter.unusedVariables false
set_option linter.unusedSimpArgs false

theorem wrap_id {x : Int} (h : -4611686018427387904 ≤ x ∧ x ≤ 4611686018427387904) : wrap64 x = x := by
  unfold wrap64; omega

theorem rd_mid (pre rest : List Int) (p : Int) : rd (pre ++ p :: rest) ((pre.length : Nat) : Int) = p := by
  unfold rd
  simp [List.getD]
theorem rd_getD (l : List Int) (i : Nat) : rd l (i : Int) = l.getD i 0 := by unfold rd; simp
theorem succ_wrap {n : Nat} (h : n ≤ 1099511627776) : wrap64 ((n : Int) + 1) = ((n + 1 : Nat) : Int) := by
  rw [wrap_id (by omega)]; omega
theorem split_at {α : Type} (l : List α) (i : Nat) (h : i ≤ l.length) : ∃ pre rest, l = pre ++ rest ∧ pre.length = i := ⟨l.take i, l.drop i, (List.take_append_drop i l).symm, by simp; omega⟩

theorem wraps_i64_8 (n : Int) (h0 : 0 ≤ n) (h1 : n < 2 ^ 8) : IntKind.i64.wrap n = n := by
  rw [show (2 : Int) ^ 8 = 256 from rfl] at h1
  rw [IntKind.wrap_i64]; omega
theorem and_byte (x : Int) : 0 ≤ Go.bits .and .i64 x 255 ∧ Go.bits .and .i64 x 255 ≤ 255 := by
  have h : Go.bits .and .i64 x 255 = IntKind.i64.wrap (((BitVec.ofInt 64 x &&& BitVec.ofInt 64 255).toNat : Nat) : Int) := rfl
  rw [h, BitVec.toNat_and]
  have h2 : (BitVec.ofInt 64 x).toNat &&& (BitVec.ofInt 64 255).toNat ≤ 255 := Nat.le_trans Nat.and_le_right (by decide)
  generalize (BitVec.ofInt 64 x).toNat &&& (BitVec.ofInt 64 255).toNat = n at *
  rw [IntKind.wrap_i64]; omega
def Bytes (l : List Int) : Prop := ∀ x ∈ l, 0 ≤ x ∧ x ≤ 255
theorem byte_ok {l : List Int} {i : Int} (h : Int) (hi : 0 ≤ i ∧ i ≤ (l.length : Int)) (hl : l.length ≤ 1048576) : ∃ x i' h', spec_l01Byte.f l i h = some (x, i', h') ∧ (0 ≤ x ∧ x ≤ 255) ∧ (0 ≤ i' ∧ i' ≤ (l.length : Int)) := by
  unfold spec_l01Byte.f
  by_cases hc : i < (l.length : Int)
  · rw [if_pos hc, if_pos hi.1]
    exact ⟨_, _, _, rfl, and_byte _, by rw [wrap_id (by omega)]; omega⟩
  · rw [if_neg hc]
    exact ⟨_, _, _, rfl, and_byte _, hi⟩
theorem below_ok {l : List Int} {i : Int} (h n : Int) (hi : 0 ≤ i ∧ i ≤ (l.length : Int)) (hl : l.length ≤ 1048576) : ∃ x i' h', spec_l01Below.f l i h n = some (x, i', h') ∧ (0 ≤ x) ∧ (0 < n → x < n) ∧ (n ≤ 0 → x = 0) ∧ (0 ≤ i' ∧ i' ≤ (l.length : Int)) := by
  unfold spec_l01Below.f
  by_cases h0 : n ≤ 0
  · rw [if_pos h0]; exact ⟨0, i, h, rfl, by omega, by omega, fun _ => rfl, hi⟩
  rw [if_neg h0]
  by_cases h1 : n ≤ 256
  · rw [if_pos h1]
    obtain ⟨x, i', h', e, hx, hi'⟩ := byte_ok h hi hl
    rw [e, Option.bind_some, if_neg (by omega)]
    refine ⟨_, _, _, rfl, ?_, fun _ => ?_, fun hn => by omega, hi'⟩
    · rw [Int.tmod_eq_emod_of_nonneg hx.1]; exact Int.emod_nonneg _ (by omega)
    · rw [Int.tmod_eq_emod_of_nonneg hx.1]; exact Int.emod_lt_of_pos _ (by omega)
  · rw [if_neg h1]
    obtain ⟨x1, i1, h1', e1, hx1, hi1⟩ := byte_ok h hi hl
    obtain ⟨x2, i2, h2', e2, hx2, hi2⟩ := byte_ok h1' hi1 hl
    obtain ⟨x3, i3, h3', e3, hx3, hi3⟩ := byte_ok h2' hi2 hl
    obtain ⟨x4, i4, h4', e4, hx4, hi4⟩ := byte_ok h3' hi3 hl
    rw [e1, Option.bind_some, e2, Option.bind_some, e3, Option.bind_some, e4, Option.bind_some, if_neg (by omega)]
    refine ⟨_, _, _, rfl, ?_, fun _ => ?_, fun hn => by omega, hi4⟩
    all_goals simp only [wrap_id (x := x1 * 16777216) (by omega), wrap_id (x := x2 * 65536) (by omega), wrap_id (x := x3 * 256) (by omega), wrap_id (x := x1 * 16777216 + x2 * 65536) (by omega), wrap_id (x := x1 * 16777216 + x2 * 65536 + x3 * 256) (by omega), wrap_id (x := x1 * 16777216 + x2 * 65536 + x3 * 256 + x4) (by omega)]
    · rw [Int.tmod_eq_emod_of_nonneg (by omega)]; exact Int.emod_nonneg _ (by omega)
    · rw [Int.tmod_eq_emod_of_nonneg (by omega)]; exact Int.emod_lt_of_pos _ (by omega)
theorem pick_ok {l : List Int} {i : Int} (h : Int) {c : List Int} (hc : 0 < c.length) (hi : 0 ≤ i ∧ i ≤ (l.length : Int)) (hl : l.length ≤ 1048576) : ∃ x i' h', spec_l01PickInt.f l i h c = some (x, i', h') ∧ x ∈ c ∧ (0 ≤ i' ∧ i' ≤ (l.length : Int)) := by
  unfold spec_l01PickInt.f
  obtain ⟨x, i', h', e, x0, x1, _, hi'⟩ := below_ok h (c.length : Int) hi hl
  have x2 := x1 (by omega)
  rw [e, Option.bind_some, if_pos x0, if_pos x2]
  refine ⟨_, _, _, rfl, ?_, hi'⟩
  unfold rd
  rw [List.getD_eq_getElem?_getD, List.getElem?_eq_getElem (by omega)]
  exact List.getElem_mem _
theorem once_ok {l : List Int} {i : Int} (h n : Int) (hi : 0 ≤ i ∧ i ≤ (l.length : Int)) (hl : l.length ≤ 1048576) : ∃ b i' h', spec_l01Once.f l i h n = some (b, i', h') ∧ (0 ≤ i' ∧ i' ≤ (l.length : Int)) := by
  unfold spec_l01Once.f
  obtain ⟨x, i', h', e, _, _, _, hi'⟩ := below_ok h n hi hl
  rw [e, Option.bind_some]
  exact ⟨_, _, _, rfl, hi'⟩
theorem new_l0 {l : List Int} (hl : l.length ≤ 1048576) : ∀ (d i k : Nat) (h : Int), i + d = l.length → d < k → ∃ h', spec_l01New.l0 k l h (i : Int) = some (l, 0, h') := by
  intro d
  induction d with
  | zero =>
    intro i k h hi hk
    obtain ⟨k, rfl⟩ : ∃ q, k = q + 1 := ⟨k - 1, by omega⟩
    simp only [spec_l01New.l0]
    rw [if_neg (by omega)]
    exact ⟨_, rfl⟩
  | succ d ih =>
    intro i k h hi hk
    obtain ⟨k, rfl⟩ : ∃ q, k = q + 1 := ⟨k - 1, by omega⟩
    simp only [spec_l01New.l0]
    rw [if_pos (by omega)]
    by_cases h4 : (i : Int) < 4000
    · rw [if_pos h4, if_pos (by omega), succ_wrap (by omega)]
      exact ih (i + 1) k _ (by omega) (by omega)
    · rw [if_neg h4]; exact ⟨_, rfl⟩
theorem new_ok {l : List Int} {k : Nat} (hl : l.length ≤ 1048576) (hk : 1048577 ≤ k) : ∃ h, spec_l01New.f k l = some (l, 0, h) := by
  unfold spec_l01New.f
  exact new_l0 hl l.length 0 k _ (by omega) (by omega)

theorem l01In_eq (a b c : Int) : spec_l01In.f a b c = some (decide (b ≤ a ∧ a ≤ c)) := by
  unfold spec_l01In.f
  by_cases h : b ≤ a <;> simp [h]
theorem within_eq (a b c : Int) : impl_within.f a b c = some (decide (b ≤ a ∧ a ≤ c)) := by
  unfold impl_within.f
  by_cases h : b ≤ a <;> simp [h]

def inR (p : Int) : Bool := decide (0 ≤ p ∧ p ≤ 12)
def circOk (l : List Int) : Bool := l.all inR && (decide (l.length = 12) && (l.sum == 12))
theorem impl_circOk_l0 : ∀ (rest pre : List Int) (s : Int) (k : Nat), rest.length < k → (pre ++ rest).length ≤ 1099511627776 → 0 ≤ s ∧ s ≤ 12 * (pre.length : Int) →
    impl_CircleOk.l0 k s (pre ++ rest) ((pre ++ rest).length : Int) (pre.length : Int) (pre ++ rest) = some (rest.all inR && (decide ((pre ++ rest).length = 12) && (s + rest.sum == 12))) := by
  intro rest
  induction rest with
  | nil =>
    intro pre s k hk hl hs
    obtain ⟨k, rfl⟩ : ∃ m, k = m + 1 := ⟨k - 1, by simp at hk; omega⟩
    simp only [impl_CircleOk.l0]
    rw [if_neg (by simp)]
    by_cases h : (pre ++ ([] : List Int)).length = 12
    · rw [if_pos (by omega)]; simp at h; simp [h]
    · rw [if_neg (by omega)]; simp at h; simp [h]
  | cons p rest ih =>
    intro pre s k hk hl hs
    obtain ⟨k, rfl⟩ : ∃ m, k = m + 1 := ⟨k - 1, by simp at hk; omega⟩
    simp only [impl_CircleOk.l0]
    rw [if_pos (by simp; omega), if_pos (by omega), if_pos (by simp; omega), rd_mid, within_eq]
    simp only [Option.bind_some]
    by_cases hp : 0 ≤ p ∧ p ≤ 12
    · have hl2 : pre.length ≤ 1099511627776 := by simp at hl; omega
      rw [if_pos (by simpa using hp), wrap_id (x := s + p) (by omega), succ_wrap hl2]
      have := ih (pre ++ [p]) (s + p) k (by simp at hk; omega) (by simp at hl ⊢; omega) (by simp; omega)
      have e : pre ++ [p] ++ rest = pre ++ p :: rest := by simp
      have e2 : ((pre ++ [p]).length : Int) = ((pre.length + 1 : Nat) : Int) := by simp
      rw [e, e2] at this
      rw [this]
      have hi : inR p = true := decide_eq_true hp
      simp [hi, Int.add_assoc]
    · rw [if_neg (by simpa using hp)]
      have hi : inR p = false := decide_eq_false hp
      simp [hi]
theorem impl_circOk {k : Nat} {l : List Int} (hk : l.length < k) (hl : l.length ≤ 1099511627776) : impl_CircleOk.f k l = some (circOk l) := by
  have := impl_circOk_l0 l [] 0 k hk (by simpa using hl) (by simp)
  unfold impl_CircleOk.f circOk
  simpa using this
theorem circOk_len {l : List Int} (h : circOk l = true) : l.length = 12 := by
  unfold circOk at h; simp at h; exact h.2.1
theorem circOk_sum {l : List Int} (h : circOk l = true) : l.sum = 12 := by
  unfold circOk at h; simp at h; exact h.2.2
theorem circOk_mem {l : List Int} (h : circOk l = true) : ∀ p ∈ l, 0 ≤ p ∧ p ≤ 12 := by
  unfold circOk at h; simp at h
  intro p hp
  have := h.1 p hp
  exact of_decide_eq_true this

theorem spec_circOk_l0 : ∀ (rest pre : List Int) (s : Int) (k : Nat), rest.length < k → (pre ++ rest).length ≤ 1099511627776 → 0 ≤ s ∧ s ≤ 12 * (pre.length : Int) →
    spec_CircleOk.l0 k s (pre.length : Int) (pre ++ rest) = some (rest.all inR && (decide ((pre ++ rest).length = 12) && (s + rest.sum == 12))) := by
  intro rest
  induction rest with
  | nil =>
    intro pre s k hk hl hs
    obtain ⟨k, rfl⟩ : ∃ m, k = m + 1 := ⟨k - 1, by simp at hk; omega⟩
    simp only [spec_CircleOk.l0]
    rw [if_neg (by simp)]
    by_cases h : (pre ++ ([] : List Int)).length = 12
    · rw [if_pos (by omega)]; simp at h; simp [h]
    · rw [if_neg (by omega)]; simp at h; simp [h]
  | cons p rest ih =>
    intro pre s k hk hl hs
    obtain ⟨k, rfl⟩ : ∃ m, k = m + 1 := ⟨k - 1, by simp at hk; omega⟩
    simp only [spec_CircleOk.l0]
    rw [if_pos (by simp; omega), if_pos (by omega), rd_mid, l01In_eq]
    simp only [Option.bind_some]
    by_cases hp : 0 ≤ p ∧ p ≤ 12
    · have hl2 : pre.length ≤ 1099511627776 := by simp at hl; omega
      rw [if_pos (by simpa using hp), wrap_id (x := s + p) (by omega), succ_wrap hl2]
      have := ih (pre ++ [p]) (s + p) k (by simp at hk; omega) (by simp at hl ⊢; omega) (by simp; omega)
      have e : pre ++ [p] ++ rest = pre ++ p :: rest := by simp
      have e2 : ((pre ++ [p]).length : Int) = ((pre.length + 1 : Nat) : Int) := by simp
      rw [e, e2] at this
      rw [this]
      have hi : inR p = true := decide_eq_true hp
      simp [hi, Int.add_assoc]
    · rw [if_neg (by simpa using hp)]
      have hi : inR p = false := decide_eq_false hp
      simp [hi]
theorem spec_circOk {k : Nat} {l : List Int} (hk : l.length < k) (hl : l.length ≤ 1099511627776) : spec_CircleOk.f k l = some (circOk l) := by
  have := spec_circOk_l0 l [] 0 k hk (by simpa using hl) (by simp)
  unfold spec_CircleOk.f circOk
  simpa using this

theorem circ_j1 {l c : List Int} (i h : Int) {k : Nat} (hc : c.length = 12) (hk : 100 ≤ k) : ∃ c' i' h', spec_l12Circle.j1 k l i h c = some (c', i', h') ∧ circOk c' = true := by
  obtain ⟨k', rfl⟩ : ∃ k', k = k' + 1 := ⟨k - 1, by omega⟩
  rw [spec_l12Circle.j1, spec_circOk (by omega) (by omega), Option.bind_some]
  by_cases g : circOk c = true
  · rw [if_pos g]; exact ⟨c, i, h, rfl, g⟩
  · rw [if_neg g, spec_EqualCircle.f, Option.bind_some]; exact ⟨_, i, h, rfl, by decide⟩
theorem tmod12 (x : Int) (hx : 0 ≤ x ∧ x ≤ 11) : 0 ≤ Int.tmod (wrap64 (x + 1)) 12 ∧ Int.tmod (wrap64 (x + 1)) 12 < 12 := by
  rw [wrap_id (by omega)]
  have h1 := Int.tmod_nonneg 12 (show 0 ≤ x + 1 by omega)
  have h2 := Int.tmod_lt_of_pos (x + 1) (show (0 : Int) < 12 by decide)
  exact ⟨h1, h2⟩
theorem circ_l0 {l : List Int} (hl : l.length ≤ 1048576) (p : Int) : ∀ (d : Nat) (c : List Int) (i h : Int) (k : Nat), c.length = 12 → (0 ≤ i ∧ i ≤ (l.length : Int)) → d ≤ 100 → 200 + d ≤ k → ∃ c' i' h', spec_l12Circle.l0 k p (d : Int) l i h c = some (c', i', h') ∧ circOk c' = true := by
  intro d
  induction d with
  | zero =>
    intro c i h k hc hi hd hk
    obtain ⟨k', rfl⟩ : ∃ k', k = k' + 1 := ⟨k - 1, by omega⟩
    rw [spec_l12Circle.l0, if_neg (by omega)]
    obtain ⟨b, i1, h1, e1, hi1⟩ := once_ok h 4 hi hl
    rw [e1, Option.bind_some]
    dsimp only
    by_cases g : b = true
    · rw [if_pos g]
      obtain ⟨x, i2, h2, e2, x0, x1, _, hi2⟩ := below_ok h1 12 hi1 hl
      rw [e2, Option.bind_some]
      dsimp only
      obtain ⟨y, i3, h3, e3, y0, y1, _, hi3⟩ := below_ok h2 12 hi2 hl
      rw [e3, Option.bind_some]
      dsimp only
      have x2 := x1 (by decide)
      have y2 := y1 (by decide)
      rw [if_pos x0, if_pos (by omega)]
      split
      · first
          | rw [if_pos (show y < (c.length : Int) by omega)]
          | rw [if_pos y0, if_pos (show y < (c.length : Int) by omega)]
        split
        · rw [Option.bind_some]; exact circ_j1 _ _ (by simp; exact hc) (by omega)
        · exact circ_j1 _ _ hc (by omega)
      · exact circ_j1 _ _ hc (by omega)
    · rw [if_neg g]; exact circ_j1 _ _ hc (by omega)
  | succ d ih =>
    intro c i h k hc hi hd hk
    obtain ⟨k', rfl⟩ : ∃ k', k = k' + 1 := ⟨k - 1, by omega⟩
    rw [spec_l12Circle.l0, if_pos (by omega)]
    obtain ⟨x, i1, h1, e1, x0, x1, _, hi1⟩ := below_ok h 12 hi hl
    rw [e1, Option.bind_some]
    dsimp only
    have x2 := x1 (by decide)
    have ht := tmod12 x (by omega)
    rw [if_pos x0, if_pos (by omega), wrap_id (x := ((d + 1 : Nat) : Int) - 1) (by omega), show ((d + 1 : Nat) : Int) - 1 = (d : Int) by omega]
    split
    · rw [if_pos ht.1, if_pos (by omega)]
      exact ih _ i1 h1 k' (by simp; exact hc) hi1 (by omega) (by omega)
    · exact ih _ i1 h1 k' (by simp; exact hc) hi1 (by omega) (by omega)
theorem circle_ok {l : List Int} {i : Int} (h : Int) (hi : 0 ≤ i ∧ i ≤ (l.length : Int)) (hl : l.length ≤ 1048576) {k : Nat} (hk : 1000 ≤ k) : ∃ c i' h', spec_l12Circle.f k l i h = some (c, i', h') ∧ circOk c = true := by
  unfold spec_l12Circle.f
  rw [if_pos (by decide)]
  obtain ⟨p, i1, h1, e1, hp, hi1⟩ := pick_ok h (c := [1, 2, 3, 4]) (by decide) hi hl
  rw [e1, Option.bind_some]
  dsimp only
  simp only [List.mem_cons, List.not_mem_nil, or_false] at hp
  rcases hp with rfl | rfl | rfl | rfl
  · rw [if_neg (by decide), show wrap64 ((12 : Int) / 1) = ((12 : Nat) : Int) by rw [wrap_id (by decide)]; rfl]; exact circ_l0 hl _ 12 (List.replicate 12 0) i1 h1 k (by simp) hi1 (by omega) (by omega)
  · rw [if_neg (by decide), show wrap64 ((12 : Int) / 2) = ((6 : Nat) : Int) by rw [wrap_id (by decide)]; rfl]; exact circ_l0 hl _ 6 (List.replicate 12 0) i1 h1 k (by simp) hi1 (by omega) (by omega)
  · rw [if_neg (by decide), show wrap64 ((12 : Int) / 3) = ((4 : Nat) : Int) by rw [wrap_id (by decide)]; rfl]; exact circ_l0 hl _ 4 (List.replicate 12 0) i1 h1 k (by simp) hi1 (by omega) (by omega)
  · rw [if_neg (by decide), show wrap64 ((12 : Int) / 4) = ((3 : Nat) : Int) by rw [wrap_id (by decide)]; rfl]; exact circ_l0 hl _ 3 (List.replicate 12 0) i1 h1 k (by simp) hi1 (by omega) (by omega)
theorem drawCircle_ok {l : List Int} {k : Nat} (hl : l.length ≤ 1048576) (hk : 1048577 ≤ k) : ∃ c, spec_DrawCircle.f k l = some c ∧ circOk c = true := by
  unfold spec_DrawCircle.f
  obtain ⟨h, e⟩ := new_ok hl hk
  rw [e, Option.bind_some]
  dsimp only
  obtain ⟨c, i', h', e2, hc⟩ := circle_ok h (i := 0) (by omega) hl (k := k) (by omega)
  rw [e2, Option.bind_some]
  exact ⟨c, rfl, hc⟩

theorem u8_range {x : Int} (h : (Lit.int .u8 x).wf = true) : 0 ≤ x ∧ x ≤ 255 := bounds_u8 h
theorem big_eq (l : List Int) : laws_big.f l = some (decide (1048576 < l.length)) := by
  unfold laws_big.f
  congr 1
  rw [decide_eq_decide]; omega

def psum (l : List Int) (i : Int) : Nat → Int
  | 0 => 0
  | n + 1 => psum l i n + l.getD ((i.toNat + n) % 12) 0
theorem getD_range {l : List Int} (h : circOk l = true) (j : Nat) : 0 ≤ l.getD j 0 ∧ l.getD j 0 ≤ 12 := by
  rcases Nat.lt_or_ge j l.length with hj | hj
  · rw [List.getD_eq_getElem?_getD, List.getElem?_eq_getElem hj]
    exact circOk_mem h _ (List.getElem_mem hj)
  · rw [List.getD_eq_getElem?_getD, List.getElem?_eq_none hj]; simp
theorem psum_range {l : List Int} (h : circOk l = true) (i : Int) (n : Nat) : 0 ≤ psum l i n ∧ psum l i n ≤ 12 * n := by
  induction n with
  | zero => simp [psum]
  | succ n ih => have := getD_range h ((i.toNat + n) % 12); simp only [psum]; omega
theorem idx_eq {i : Int} {n : Nat} (hi : 0 ≤ i ∧ i ≤ 11) (hn : n ≤ 100) : Int.tmod (wrap64 (i + (n : Int))) 12 = (((i.toNat + n) % 12 : Nat) : Int) := by
  rw [wrap_id (by omega), Int.tmod_eq_emod_of_nonneg (by omega)]; omega

def isKey (l : List Int) (i : Int) : Bool := circOk l && decide (0 ≤ i ∧ i ≤ 11)
theorem impl_isKey_eq {k : Nat} {l : List Int} (i : Int) (hk : l.length < k) (hl : l.length ≤ 1099511627776) : impl_isKey.f k l i = some (isKey l i) := by
  unfold impl_isKey.f isKey
  rw [impl_circOk hk hl]
  simp only [Option.bind_some, within_eq]
  cases circOk l <;> simp
theorem isKey_parts {l : List Int} {i : Int} (h : isKey l i = true) : circOk l = true ∧ (0 ≤ i ∧ i ≤ 11) := by
  unfold isKey at h
  simp only [Bool.and_eq_true] at h
  exact ⟨h.1, of_decide_eq_true h.2⟩

theorem impl_parts_l0 {l : List Int} (h : circOk l = true) {i : Int} (hi : 0 ≤ i ∧ i ≤ 11) (n : Nat) (hn : n ≤ 100) : ∀ (d m k : Nat), m + d = n → d < k → impl_partsFrom.l0 k i (n : Int) (psum l i m) (m : Int) l = some (psum l i n) := by
  intro d
  induction d with
  | zero =>
    intro m k hm hk
    obtain ⟨k, rfl⟩ : ∃ q, k = q + 1 := ⟨k - 1, by omega⟩
    simp only [impl_partsFrom.l0]
    rw [if_neg (by omega)]
    congr 2
  | succ d ih =>
    intro m k hm hk
    obtain ⟨k, rfl⟩ : ∃ q, k = q + 1 := ⟨k - 1, by omega⟩
    have hl := circOk_len h
    have hg := getD_range h ((i.toNat + m) % 12)
    have hp := psum_range h i m
    have hmod : (i.toNat + m) % 12 < 12 := Nat.mod_lt _ (by omega)
    simp only [impl_partsFrom.l0]
    rw [if_pos (by omega), idx_eq hi (by omega), if_pos (by omega), if_pos (by omega), rd_getD, wrap_id (by omega), succ_wrap (by omega)]
    exact ih (m + 1) k (by omega) (by omega)
def parts (l : List Int) (i : Int) (n : Nat) : Int := if isKey l i = true then psum l i n else 0
theorem impl_partsFrom_eq {k n : Nat} {l : List Int} (i : Int) (hk : l.length < k) (hl : l.length ≤ 1099511627776) (hn : n ≤ 100) (hkn : n < k) : impl_partsFrom.f k l i (n : Int) = some (parts l i n) := by
  unfold impl_partsFrom.f parts
  rw [impl_isKey_eq i hk hl]
  simp only [Option.bind_some]
  by_cases h : isKey l i = true
  · rw [if_pos h, if_pos h]
    obtain ⟨h1, h2⟩ := isKey_parts h
    exact impl_parts_l0 h1 h2 n hn n 0 k (by omega) hkn
  · rw [if_neg h, if_neg h]

theorem impl_thirdParts {k : Nat} {l : List Int} (i : Int) (hk : l.length < k) (hk2 : 5 < k) (hl : l.length ≤ 1099511627776) : impl_ThirdParts.f k l i = some (parts l i 4) := by
  unfold impl_ThirdParts.f
  have := impl_partsFrom_eq (k := k) (n := 4) i hk hl (by omega) (by omega)
  rw [show ((4 : Nat) : Int) = 4 from rfl] at this
  rw [this]; rfl

def btab (l : List Int) : Nat → List Int
  | 0 => []
  | n + 1 => btab l n ++ [parts l (n : Int) 4]
theorem btab_length (l : List Int) : ∀ n, (btab l n).length = n
  | 0 => rfl
  | n + 1 => by rw [btab, List.length_append, btab_length l n]; rfl
theorem btab_rd (l : List Int) : ∀ (n : Nat) (x : Int), 0 ≤ x → x < (n : Int) → rd (btab l n) x = parts l x 4 := by
  intro n
  induction n with
  | zero => intro x h0 h1; omega
  | succ n ih =>
    intro x h0 h1
    have hl := btab_length l n
    by_cases h : x < (n : Int)
    · have e := ih x h0 h
      rw [btab]
      unfold rd at e ⊢
      rw [← e, List.getD_eq_getElem?_getD, List.getD_eq_getElem?_getD, List.getElem?_append_left (by omega)]
    · obtain rfl : x = (n : Int) := by omega
      rw [btab]
      unfold rd
      rw [Int.toNat_natCast, List.getD_eq_getElem?_getD, List.getElem?_append_right (by omega), hl, Nat.sub_self]
      rfl
theorem best_tp_eq {k : Nat} {l : List Int} (hk : l.length + 10 < k) (hl : l.length ≤ 1099511627776) : ∀ n, best_tp k l n = some (btab l n)
  | 0 => rfl
  | n + 1 => by rw [best_tp, best_tp_eq hk hl n, Option.bind_some, impl_thirdParts (n : Int) (by omega) (by omega) hl, Option.bind_some, btab]
def bestK (l : List Int) : List Int := if circOk l = true then (best_rsrt (btab l 12) 12).reverse else []
theorem impl_bestKeys {k : Nat} {l : List Int} (hk : l.length + 10 < k) (hl : l.length ≤ 1099511627776) : impl_BestKeys.f k l = some (bestK l) := by
  unfold impl_BestKeys.f bestK
  rw [impl_circOk (by omega) hl, Option.bind_some]
  by_cases h : circOk l = true
  · rw [if_pos h, if_pos h, best_tp_eq hk hl, Option.bind_some]
  · rw [if_neg h, if_neg h]
theorem bestK_length {l : List Int} : (bestK l).length ≤ 12 := by
  unfold bestK
  split
  · rw [List.length_reverse, best_rsrt_length]; omega
  · exact Nat.zero_le _
theorem bestK_length12 {l : List Int} (h : circOk l = true) : (bestK l).length = 12 := by
  unfold bestK
  rw [if_pos h, List.length_reverse, best_rsrt_length]

def BK (T : List Int) (p q : Int) : Prop := rd T p < rd T q ∨ (rd T p = rd T q ∧ q < p)
def Srt (T : List Int) : List Int → Prop
  | [] => True
  | p :: r => (∀ q s, r = q :: s → BK T p q) ∧ Srt T r
theorem rins_srt (T : List Int) (x : Int) : ∀ l : List Int, (∀ y ∈ l, y < x) → Srt T l → Srt T (best_rins T x l) := by
  intro l
  induction l with
  | nil =>
    intro _ _
    show Srt T [x]
    refine And.intro (fun q s h => ?_) trivial
    cases h
  | cons y ys ih =>
    intro hx hs
    rw [best_rins]
    by_cases g : rd T y < rd T x
    · rw [if_pos g]
      refine ⟨fun q s h => ?_, ih (fun z hz => hx z (by simp [hz])) hs.2⟩
      cases ys with
      | nil =>
        rw [best_rins] at h
        injection h with h1 _
        subst h1
        exact .inl g
      | cons y2 ys2 =>
        rw [best_rins] at h
        by_cases g2 : rd T y2 < rd T x
        · rw [if_pos g2] at h
          injection h with h1 _
          subst h1
          exact hs.1 _ _ rfl
        · rw [if_neg g2] at h
          injection h with h1 _
          subst h1
          exact .inl g
    · rw [if_neg g]
      refine ⟨fun q s h => ?_, hs⟩
      injection h with h1 _
      subst h1
      have := hx y (by simp)
      by_cases e : rd T x = rd T y
      · exact .inr ⟨e, this⟩
      · exact .inl (by omega)
theorem rsrt_srt (T : List Int) : ∀ n, Srt T (best_rsrt T n)
  | 0 => trivial
  | n + 1 => by
    rw [best_rsrt]
    exact rins_srt T n _ (fun y hy => (best_rsrt_mem T n y hy).2) (rsrt_srt T n)
theorem srt_at (T : List Int) : ∀ (l : List Int) (i : Nat), Srt T l → i + 1 < l.length → BK T (l.getD i 0) (l.getD (i + 1) 0) := by
  intro l
  induction l with
  | nil => intro i _ h; simp at h
  | cons p r ih =>
    intro i hs hi
    cases i with
    | zero =>
      cases r with
      | nil => simp at hi
      | cons q s => exact hs.1 q s rfl
    | succ i => exact ih i hs.2 (by simp at hi; omega)
theorem getD_rev (l : List Int) (i : Nat) (h : i < l.length) : l.reverse.getD i 0 = l.getD (l.length - 1 - i) 0 := by
  rw [List.getD_eq_getElem?_getD, List.getD_eq_getElem?_getD, List.getElem?_reverse h]
theorem bestK_mem {l : List Int} {i : Nat} (h : circOk l = true) (hi : i < 12) : 0 ≤ (bestK l).getD i 0 ∧ (bestK l).getD i 0 < 12 := by
  have hl := bestK_length12 h
  have hm : (bestK l).getD i 0 ∈ bestK l := by
    rw [List.getD_eq_getElem?_getD, List.getElem?_eq_getElem (by omega)]
    exact List.getElem_mem _
  generalize (bestK l).getD i 0 = x at hm ⊢
  unfold bestK at hm
  rw [if_pos h, List.mem_reverse] at hm
  exact best_rsrt_mem _ 12 x hm
theorem rsrt_at (T : List Int) (n i : Nat) (h : i + 1 < n) : BK T ((best_rsrt T n).getD i 0) ((best_rsrt T n).getD (i + 1) 0) :=
  srt_at T (best_rsrt T n) i (rsrt_srt T n) (by rw [best_rsrt_length]; exact h)
theorem rsrt_rev (T : List Int) (n i : Nat) (h : i + 1 < n) : BK T ((best_rsrt T n).reverse.getD (i + 1) 0) ((best_rsrt T n).reverse.getD i 0) := by
  have hl := best_rsrt_length T n
  have e := rsrt_at T n (n - 2 - i) (by omega)
  rw [getD_rev _ _ (by omega), getD_rev _ _ (by omega), hl]
  rw [show n - 1 - (i + 1) = n - 2 - i by omega, show n - 1 - i = n - 2 - i + 1 by omega]
  exact e
theorem bestK_step {l : List Int} (h : circOk l = true) (i : Nat) (hi : i + 1 < 12) : BK (btab l 12) ((bestK l).getD (i + 1) 0) ((bestK l).getD i 0) := by
  unfold bestK
  rw [if_pos h]
  exact rsrt_rev (btab l 12) 12 i hi
theorem best_l0 {l : List Int} (h : circOk l = true) : ∀ (d n k : Nat), n + d = 11 → 200 + d < k → laws_FnBestKeys.l0 k (bestK l) ((n + 1 : Nat) : Int) l = some true := by
  have hl := bestK_length12 h
  have h12 := circOk_len h
  intro d
  induction d with
  | zero =>
    intro n k hn hk
    obtain ⟨k, rfl⟩ : ∃ m, k = m + 1 := ⟨k - 1, by omega⟩
    rw [laws_FnBestKeys.l0, if_neg (by omega)]
  | succ d ih =>
    intro n k hn hk
    obtain ⟨k, rfl⟩ : ∃ m, k = m + 1 := ⟨k - 1, by omega⟩
    have hs := bestK_step h n (by omega)
    have m1 := bestK_mem h (i := n) (by omega)
    have m2 := bestK_mem h (i := n + 1) (by omega)
    have w1 : wrap64 (((n + 1 : Nat) : Int) - 1) = (n : Int) := by rw [wrap_id (by omega)]; omega
    rw [laws_FnBestKeys.l0, w1, rd_getD, rd_getD]
    generalize (bestK l).getD n 0 = a at hs m1 ⊢
    generalize (bestK l).getD (n + 1) 0 = b at hs m2 ⊢
    have hi := ih (n + 1) k (by omega) (by omega)
    rw [impl_thirdParts a (by omega) (by omega) (by omega), Option.bind_some, impl_thirdParts b (by omega) (by omega) (by omega), Option.bind_some]
    unfold BK at hs
    rw [btab_rd l 12 a m1.1 (by omega), btab_rd l 12 b m2.1 (by omega)] at hs
    rw [if_pos (by omega), if_pos (by omega), if_pos (by omega), if_pos (by omega), if_pos (by omega), if_neg (by omega)]
    by_cases e : parts l a 4 = parts l b 4
    · rw [if_pos e, if_neg (by omega), succ_wrap (by omega)]
      exact hi
    · rw [if_neg e, succ_wrap (by omega)]
      exact hi
theorem FnBestKeys : laws_FnBestKeys.Pure := by
  intro l hm hl hw
  obtain ⟨K, hK⟩ : ∃ K : Nat, K = 1100001 := ⟨_, rfl⟩
  refine ⟨K, ?_⟩
  unfold laws_FnBestKeys.f
  rw [big_eq, Option.bind_some]
  by_cases hb : 1048576 < l.length
  · rw [if_pos (decide_eq_true hb)]
  rw [if_neg (by simpa using hb)]
  obtain ⟨c, ec, hc⟩ := drawCircle_ok (l := l) (k := K) (by omega) (by omega)
  have h12 := circOk_len hc
  have hl2 := bestK_length12 hc
  have r := best_l0 hc 11 0 K (by omega) (by omega)
  rw [show ((0 + 1 : Nat) : Int) = 1 from rfl] at r
  rw [ec, Option.bind_some, impl_bestKeys (by omega) (by omega), Option.bind_some, if_pos (by omega), r]

end Go.Proofs.Ytoljbcjpilcfiaa.Pure
