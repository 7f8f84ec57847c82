/- The law FnWishes over numbers and lists alone: wishes that are in conflict are met by no circle, and a first circle is there just if there are some. Conditions: none. -/
import Derived.Test.YtdcpbnddnbeofaaQFnWishesx4
import Derived.Test.YtdcpbnddnbeofaaVFnWishesa
import Derived.OpenShut
namespace Go.Proofs.Ytdcpbnddnbeofaa.Pure
open Go.RowKit Go.Proofs.Ytdcpbnddnbeofaa.PFnWishes Go.Proofs.YtdcpbnddnbeofaaW.PrintWords Go.Proofs.YtdcpbnddnbeofaaW.PrintLast Go.Proofs.YtdcpbnddnbeofaaW.PrintMore
set_option linter.unusedVariables false
set_option linter.unusedSimpArgs false

theorem wrap_id {x : Int} (h : -4611686018427387904 ≤ x ∧ x ≤ 4611686018427387904) : wrap64 x = x := by
  unfold wrap64; omega

theorem rd_mid (pre rest : List Int) (p : Int) : rd (pre ++ p :: rest) ((pre.length : Nat) : Int) = p := by
  unfold rd
  simp [List.getD]
theorem rd_getD (l : List Int) (i : Nat) : rd l (i : Int) = l.getD i 0 := by unfold rd; simp
theorem succ_wrap {n : Nat} (h : n ≤ 1099511627776) : wrap64 ((n : Int) + 1) = ((n + 1 : Nat) : Int) := by
  rw [wrap_id (by omega)]; omega
theorem split_at {α : Type} (l : List α) (i : Nat) (h : i ≤ l.length) : ∃ pre rest, l = pre ++ rest ∧ pre.length = i := ⟨l.take i, l.drop i, (List.take_append_drop i l).symm, by simp; omega⟩

theorem u8_range {x : Int} (h : (Lit.int .u8 x).wf = true) : 0 ≤ x ∧ x ≤ 255 := bounds_u8 h
theorem at_eq {l : List Int} {i : Int} (hi : 0 ≤ i ∧ i ≤ 100) (hl : l.length ≤ 1048576) (hw : ∀ x ∈ l, (Lit.int .u8 x).wf = true) : ∃ x, laws_at.f l i = some x ∧ 0 ≤ x ∧ x ≤ 255 := by
  unfold laws_at.f
  by_cases h : (l.length : Int) = 0
  · exact ⟨0, by rw [if_pos h], by omega, by omega⟩
  · rw [if_neg h, wrap_id (x := i * 5) (by omega), wrap_id (x := i * 5 + 1) (by omega), Int.tmod_eq_emod_of_nonneg (by omega)]
    have h1 := Int.emod_nonneg (i * 5 + 1) h
    have h2 := Int.emod_lt_of_pos (i * 5 + 1) (show (0 : Int) < (l.length : Int) by omega)
    rw [if_pos h1, if_pos h2]
    have hr : 0 ≤ rd l ((i * 5 + 1) % (l.length : Int)) ∧ rd l ((i * 5 + 1) % (l.length : Int)) ≤ 255 := by
      unfold rd
      rw [List.getD_eq_getElem?_getD, List.getElem?_eq_getElem (by omega)]
      exact u8_range (hw _ (List.getElem_mem _))
    exact ⟨_, by rw [wrap_id (by omega)], hr⟩
theorem big_eq (l : List Int) : laws_big.f l = some (decide (1048576 < l.length)) := by
  unfold laws_big.f
  congr 1
  rw [decide_eq_decide]; omega

theorem wraps_i64_8 (n : Int) (h0 : 0 ≤ n) (h1 : n < 2 ^ 8) : IntKind.i64.wrap n = n := by
  rw [show (2 : Int) ^ 8 = 256 from rfl] at h1
  rw [IntKind.wrap_i64]; omega
theorem and_byte (x : Int) : 0 ≤ Go.bits .and .i64 x 255 ∧ Go.bits .and .i64 x 255 ≤ 255 := by
  have h : Go.bits .and .i64 x 255 = IntKind.i64.wrap (((BitVec.ofInt 64 x &&& BitVec.ofInt 64 255).toNat : Nat) : Int) := rfl
  rw [h, BitVec.toNat_and]
  have h2 : (BitVec.ofInt 64 x).toNat &&& (BitVec.ofInt 64 255).toNat ≤ 255 := Nat.le_trans Nat.and_le_right (by decide)
  generalize (BitVec.ofInt 64 x).toNat &&& (BitVec.ofInt 64 255).toNat = n at *
  rw [IntKind.wrap_i64]; omega
def Bytes (l : List Int) : Prop := ∀ x ∈ l, 0 ≤ x ∧ x ≤ 255
theorem byte_ok {l : List Int} {i : Int} (h : Int) (hi : 0 ≤ i ∧ i ≤ (l.length : Int)) (hl : l.length ≤ 1048576) : ∃ x i' h', spec_l01Byte.f l i h = some (x, i', h') ∧ (0 ≤ x ∧ x ≤ 255) ∧ (0 ≤ i' ∧ i' ≤ (l.length : Int)) := by
  unfold spec_l01Byte.f
  by_cases hc : i < (l.length : Int)
  · rw [if_pos hc, if_pos hi.1]
    exact ⟨_, _, _, rfl, and_byte _, by rw [wrap_id (by omega)]; omega⟩
  · rw [if_neg hc]
    exact ⟨_, _, _, rfl, and_byte _, hi⟩
theorem below_ok {l : List Int} {i : Int} (h n : Int) (hi : 0 ≤ i ∧ i ≤ (l.length : Int)) (hl : l.length ≤ 1048576) : ∃ x i' h', spec_l01Below.f l i h n = some (x, i', h') ∧ (0 ≤ x) ∧ (0 < n → x < n) ∧ (n ≤ 0 → x = 0) ∧ (0 ≤ i' ∧ i' ≤ (l.length : Int)) := by
  unfold spec_l01Below.f
  by_cases h0 : n ≤ 0
  · rw [if_pos h0]; exact ⟨0, i, h, rfl, by omega, by omega, fun _ => rfl, hi⟩
  rw [if_neg h0]
  by_cases h1 : n ≤ 256
  · rw [if_pos h1]
    obtain ⟨x, i', h', e, hx, hi'⟩ := byte_ok h hi hl
    rw [e, Option.bind_some, if_neg (by omega)]
    refine ⟨_, _, _, rfl, ?_, fun _ => ?_, fun hn => by omega, hi'⟩
    · rw [Int.tmod_eq_emod_of_nonneg hx.1]; exact Int.emod_nonneg _ (by omega)
    · rw [Int.tmod_eq_emod_of_nonneg hx.1]; exact Int.emod_lt_of_pos _ (by omega)
  · rw [if_neg h1]
    obtain ⟨x1, i1, h1', e1, hx1, hi1⟩ := byte_ok h hi hl
    obtain ⟨x2, i2, h2', e2, hx2, hi2⟩ := byte_ok h1' hi1 hl
    obtain ⟨x3, i3, h3', e3, hx3, hi3⟩ := byte_ok h2' hi2 hl
    obtain ⟨x4, i4, h4', e4, hx4, hi4⟩ := byte_ok h3' hi3 hl
    rw [e1, Option.bind_some, e2, Option.bind_some, e3, Option.bind_some, e4, Option.bind_some, if_neg (by omega)]
    refine ⟨_, _, _, rfl, ?_, fun _ => ?_, fun hn => by omega, hi4⟩
    all_goals simp only [wrap_id (x := x1 * 16777216) (by omega), wrap_id (x := x2 * 65536) (by omega), wrap_id (x := x3 * 256) (by omega), wrap_id (x := x1 * 16777216 + x2 * 65536) (by omega), wrap_id (x := x1 * 16777216 + x2 * 65536 + x3 * 256) (by omega), wrap_id (x := x1 * 16777216 + x2 * 65536 + x3 * 256 + x4) (by omega)]
    · rw [Int.tmod_eq_emod_of_nonneg (by omega)]; exact Int.emod_nonneg _ (by omega)
    · rw [Int.tmod_eq_emod_of_nonneg (by omega)]; exact Int.emod_lt_of_pos _ (by omega)
theorem pick_ok {l : List Int} {i : Int} (h : Int) {c : List Int} (hc : 0 < c.length) (hi : 0 ≤ i ∧ i ≤ (l.length : Int)) (hl : l.length ≤ 1048576) : ∃ x i' h', spec_l01PickInt.f l i h c = some (x, i', h') ∧ x ∈ c ∧ (0 ≤ i' ∧ i' ≤ (l.length : Int)) := by
  unfold spec_l01PickInt.f
  obtain ⟨x, i', h', e, x0, x1, _, hi'⟩ := below_ok h (c.length : Int) hi hl
  have x2 := x1 (by omega)
  rw [e, Option.bind_some, if_pos x0, if_pos x2]
  refine ⟨_, _, _, rfl, ?_, hi'⟩
  unfold rd
  rw [List.getD_eq_getElem?_getD, List.getElem?_eq_getElem (by omega)]
  exact List.getElem_mem _
theorem new_l0 {l : List Int} (hl : l.length ≤ 1048576) : ∀ (d i k : Nat) (h : Int), i + d = l.length → d < k → ∃ h', spec_l01New.l0 k l h (i : Int) = some (l, 0, h') := by
  intro d
  induction d with
  | zero =>
    intro i k h hi hk
    obtain ⟨k, rfl⟩ : ∃ q, k = q + 1 := ⟨k - 1, by omega⟩
    simp only [spec_l01New.l0]
    rw [if_neg (by omega)]
    exact ⟨_, rfl⟩
  | succ d ih =>
    intro i k h hi hk
    obtain ⟨k, rfl⟩ : ∃ q, k = q + 1 := ⟨k - 1, by omega⟩
    simp only [spec_l01New.l0]
    rw [if_pos (by omega)]
    by_cases h4 : (i : Int) < 4000
    · rw [if_pos h4, if_pos (by omega), succ_wrap (by omega)]
      exact ih (i + 1) k _ (by omega) (by omega)
    · rw [if_neg h4]; exact ⟨_, rfl⟩
theorem new_ok {l : List Int} {k : Nat} (hl : l.length ≤ 1048576) (hk : 1048577 ≤ k) : ∃ h, spec_l01New.f k l = some (l, 0, h) := by
  unfold spec_l01New.f
  exact new_l0 hl l.length 0 k _ (by omega) (by omega)

def spr : Nat → List Int → Nat → Int → List (List Int)
  | 0, l, n, _ => if n = 0 then [l] else []
  | d + 1, l, n, p => spr d (l ++ [0]) n p ++ (if 0 < n then spr d (l ++ [p]) (n - 1) p else [])
def mkC (l : List Int) : S29 := ⟨l⟩
theorem spr_nil : ∀ (d : Nat) (l : List Int) (n : Nat) (p : Int), d < n → spr d l n p = [] := by
  intro d
  induction d with
  | zero => intro l n p h; rw [spr, if_neg (by omega)]
  | succ d ih => intro l n p h; rw [spr, ih _ _ _ (by omega), if_pos (by omega), ih _ _ _ (by omega)]; rfl
theorem spr_len : ∀ (d : Nat) (l : List Int) (n : Nat) (p : Int), (spr d l n p).length ≤ 2 ^ d := by
  intro d
  induction d with
  | zero => intro l n p; rw [spr]; split <;> simp
  | succ d ih =>
    intro l n p
    rw [spr, List.length_append, Nat.pow_succ]
    have h1 := ih (l ++ [0]) n p
    split
    · have h2 := ih (l ++ [p]) (n - 1) p
      omega
    · simp; omega
theorem impl_spread_eq : ∀ (d k : Nat) (l : List Int) (n : Nat) (p : Int) (xs : List S29), l.length + d = 12 → n ≤ 12 → d < k → xs.length + 2 ^ d ≤ 1000000 → impl_spread.f k l (n : Int) p xs = some (xs ++ (spr d l n p).map mkC) := by
  intro d
  induction d with
  | zero =>
    intro k l n p xs hl hn hk hx
    obtain ⟨k, rfl⟩ : ∃ m, k = m + 1 := ⟨k - 1, by omega⟩
    rw [impl_spread.f, if_pos (by omega), spr]
    by_cases h : n = 0
    · rw [if_pos (by omega), if_pos (by simp at hx; omega), if_pos h]; rfl
    · rw [if_neg (by omega), if_neg h]; simp
  | succ d ih =>
    intro k l n p xs hl hn hk hx
    obtain ⟨k, rfl⟩ : ∃ m, k = m + 1 := ⟨k - 1, by omega⟩
    rw [impl_spread.f, if_neg (by omega)]
    rw [Nat.pow_succ] at hx
    by_cases h : d + 1 < n
    · rw [if_pos (by omega), spr_nil _ _ _ _ h]; simp
    · have h1 := spr_len d (l ++ [0]) n p
      rw [if_neg (by omega), ih k (l ++ [0]) n p xs (by simp; omega) hn (by omega) (by omega), Option.bind_some, spr]
      by_cases h2 : 0 < n
      · rw [if_pos (by omega), if_pos h2, show (n : Int) - 1 = ((n - 1 : Nat) : Int) by omega, ih k (l ++ [p]) (n - 1) p _ (by simp; omega) (by omega) (by omega) (by rw [List.length_append, List.length_map]; omega)]
        rw [List.map_append, List.append_assoc]
      · rw [if_neg (by omega), if_neg h2, List.append_nil]
def fam (p : Int) : List (List Int) := if p = 2 then spr 12 [] 6 2 else if p = 3 then spr 12 [] 4 3 else if p = 4 then spr 12 [] 3 4 else if p = 6 then spr 12 [] 2 6 else if p = 12 then spr 12 [] 1 12 else []
theorem pow12 : 2 ^ 12 ≤ 4096 := by decide
theorem fam_len (p : Int) : (fam p).length ≤ 4096 := by
  have H : ∀ (n : Nat) (q : Int), (spr 12 [] n q).length ≤ 4096 := fun n q => Nat.le_trans (spr_len 12 [] n q) pow12
  unfold fam
  by_cases h2 : p = 2
  · rw [if_pos h2]; exact H 6 2
  rw [if_neg h2]
  by_cases h3 : p = 3
  · rw [if_pos h3]; exact H 4 3
  rw [if_neg h3]
  by_cases h4 : p = 4
  · rw [if_pos h4]; exact H 3 4
  rw [if_neg h4]
  by_cases h6 : p = 6
  · rw [if_pos h6]; exact H 2 6
  rw [if_neg h6]
  by_cases h12 : p = 12
  · rw [if_pos h12]; exact H 1 12
  rw [if_neg h12]; exact Nat.zero_le _
theorem impl_familyOf {k : Nat} (p : Int) (hk : 12 < k) : impl_FamilyOf.f k p = some ((fam p).map mkC) := by
  unfold impl_FamilyOf.f fam
  have H : ∀ (n : Nat) (q : Int), n ≤ 12 → impl_spread.f k [] (n : Int) q [] = some ((spr 12 [] n q).map mkC) := by
    intro n q hn
    rw [impl_spread_eq 12 k [] n q [] (by simp) hn hk (by simp)]; rfl
  by_cases h2 : p = 2
  · subst h2; exact H 6 2 (by omega)
  by_cases h3 : p = 3
  · subst h3; exact H 4 3 (by omega)
  by_cases h4 : p = 4
  · subst h4; exact H 3 4 (by omega)
  by_cases h6 : p = 6
  · subst h6; exact H 2 6 (by omega)
  by_cases h12 : p = 12
  · subst h12; exact H 1 12 (by omega)
  rw [if_neg (by omega), if_neg h2, if_neg h3, if_neg h4, if_neg h6, if_neg h12]; rfl

theorem rdW_mid (pre rest : List S74) (p : S74) : rd_T74 (pre ++ p :: rest) ((pre.length : Nat) : Int) = p := by
  unfold rd_T74
  rw [Int.toNat_natCast, List.getD_eq_getElem?_getD, List.getElem?_append_right (Nat.le_refl _)]
  simp
theorem within_eq (a b c : Int) : impl_within.f a b c = some (decide (b ≤ a ∧ a ≤ c)) := by
  unfold impl_within.f
  by_cases h : b ≤ a <;> simp [h]

def inR (p : Int) : Bool := decide (0 ≤ p ∧ p ≤ 12)
def circOk (l : List Int) : Bool := l.all inR && (decide (l.length = 12) && (l.sum == 12))
theorem impl_circOk_l0 : ∀ (rest pre : List Int) (s : Int) (k : Nat), rest.length < k → (pre ++ rest).length ≤ 1099511627776 → 0 ≤ s ∧ s ≤ 12 * (pre.length : Int) →
    impl_CircleOk.l0 k s (pre ++ rest) ((pre ++ rest).length : Int) (pre.length : Int) (pre ++ rest) = some (rest.all inR && (decide ((pre ++ rest).length = 12) && (s + rest.sum == 12))) := by
  intro rest
  induction rest with
  | nil =>
    intro pre s k hk hl hs
    obtain ⟨k, rfl⟩ : ∃ m, k = m + 1 := ⟨k - 1, by simp at hk; omega⟩
    simp only [impl_CircleOk.l0]
    rw [if_neg (by simp)]
    by_cases h : (pre ++ ([] : List Int)).length = 12
    · rw [if_pos (by omega)]; simp at h; simp [h]
    · rw [if_neg (by omega)]; simp at h; simp [h]
  | cons p rest ih =>
    intro pre s k hk hl hs
    obtain ⟨k, rfl⟩ : ∃ m, k = m + 1 := ⟨k - 1, by simp at hk; omega⟩
    simp only [impl_CircleOk.l0]
    rw [if_pos (by simp; omega), if_pos (by omega), if_pos (by simp; omega), rd_mid, within_eq]
    simp only [Option.bind_some]
    by_cases hp : 0 ≤ p ∧ p ≤ 12
    · have hl2 : pre.length ≤ 1099511627776 := by simp at hl; omega
      rw [if_pos (by simpa using hp), wrap_id (x := s + p) (by omega), succ_wrap hl2]
      have := ih (pre ++ [p]) (s + p) k (by simp at hk; omega) (by simp at hl ⊢; omega) (by simp; omega)
      have e : pre ++ [p] ++ rest = pre ++ p :: rest := by simp
      have e2 : ((pre ++ [p]).length : Int) = ((pre.length + 1 : Nat) : Int) := by simp
      rw [e, e2] at this
      rw [this]
      have hi : inR p = true := decide_eq_true hp
      simp [hi, Int.add_assoc]
    · rw [if_neg (by simpa using hp)]
      have hi : inR p = false := decide_eq_false hp
      simp [hi]
theorem impl_circOk {k : Nat} {l : List Int} (hk : l.length < k) (hl : l.length ≤ 1099511627776) : impl_CircleOk.f k l = some (circOk l) := by
  have := impl_circOk_l0 l [] 0 k hk (by simpa using hl) (by simp)
  unfold impl_CircleOk.f circOk
  simpa using this
theorem circOk_len {l : List Int} (h : circOk l = true) : l.length = 12 := by
  unfold circOk at h; simp at h; exact h.2.1
theorem circOk_sum {l : List Int} (h : circOk l = true) : l.sum = 12 := by
  unfold circOk at h; simp at h; exact h.2.2
theorem circOk_mem {l : List Int} (h : circOk l = true) : ∀ p ∈ l, 0 ≤ p ∧ p ≤ 12 := by
  unfold circOk at h; simp at h
  intro p hp
  have := h.1 p hp
  exact of_decide_eq_true this

def psum (l : List Int) (i : Int) : Nat → Int
  | 0 => 0
  | n + 1 => psum l i n + l.getD ((i.toNat + n) % 12) 0
theorem getD_range {l : List Int} (h : circOk l = true) (j : Nat) : 0 ≤ l.getD j 0 ∧ l.getD j 0 ≤ 12 := by
  rcases Nat.lt_or_ge j l.length with hj | hj
  · rw [List.getD_eq_getElem?_getD, List.getElem?_eq_getElem hj]
    exact circOk_mem h _ (List.getElem_mem hj)
  · rw [List.getD_eq_getElem?_getD, List.getElem?_eq_none hj]; simp
theorem psum_range {l : List Int} (h : circOk l = true) (i : Int) (n : Nat) : 0 ≤ psum l i n ∧ psum l i n ≤ 12 * n := by
  induction n with
  | zero => simp [psum]
  | succ n ih => have := getD_range h ((i.toNat + n) % 12); simp only [psum]; omega
theorem idx_eq {i : Int} {n : Nat} (hi : 0 ≤ i ∧ i ≤ 11) (hn : n ≤ 100) : Int.tmod (wrap64 (i + (n : Int))) 12 = (((i.toNat + n) % 12 : Nat) : Int) := by
  rw [wrap_id (by omega), Int.tmod_eq_emod_of_nonneg (by omega)]; omega

def isKey (l : List Int) (i : Int) : Bool := circOk l && decide (0 ≤ i ∧ i ≤ 11)
theorem impl_isKey_eq {k : Nat} {l : List Int} (i : Int) (hk : l.length < k) (hl : l.length ≤ 1099511627776) : impl_isKey.f k l i = some (isKey l i) := by
  unfold impl_isKey.f isKey
  rw [impl_circOk hk hl]
  simp only [Option.bind_some, within_eq]
  cases circOk l <;> simp
theorem isKey_parts {l : List Int} {i : Int} (h : isKey l i = true) : circOk l = true ∧ (0 ≤ i ∧ i ≤ 11) := by
  unfold isKey at h
  simp only [Bool.and_eq_true] at h
  exact ⟨h.1, of_decide_eq_true h.2⟩

theorem impl_parts_l0 {l : List Int} (h : circOk l = true) {i : Int} (hi : 0 ≤ i ∧ i ≤ 11) (n : Nat) (hn : n ≤ 100) : ∀ (d m k : Nat), m + d = n → d < k → impl_partsFrom.l0 k i (n : Int) (psum l i m) (m : Int) l = some (psum l i n) := by
  intro d
  induction d with
  | zero =>
    intro m k hm hk
    obtain ⟨k, rfl⟩ : ∃ q, k = q + 1 := ⟨k - 1, by omega⟩
    simp only [impl_partsFrom.l0]
    rw [if_neg (by omega)]
    congr 2
  | succ d ih =>
    intro m k hm hk
    obtain ⟨k, rfl⟩ : ∃ q, k = q + 1 := ⟨k - 1, by omega⟩
    have hl := circOk_len h
    have hg := getD_range h ((i.toNat + m) % 12)
    have hp := psum_range h i m
    have hmod : (i.toNat + m) % 12 < 12 := Nat.mod_lt _ (by omega)
    simp only [impl_partsFrom.l0]
    rw [if_pos (by omega), idx_eq hi (by omega), if_pos (by omega), if_pos (by omega), rd_getD, wrap_id (by omega), succ_wrap (by omega)]
    exact ih (m + 1) k (by omega) (by omega)
def parts (l : List Int) (i : Int) (n : Nat) : Int := if isKey l i = true then psum l i n else 0
theorem impl_partsFrom_eq {k n : Nat} {l : List Int} (i : Int) (hk : l.length < k) (hl : l.length ≤ 1099511627776) (hn : n ≤ 100) (hkn : n < k) : impl_partsFrom.f k l i (n : Int) = some (parts l i n) := by
  unfold impl_partsFrom.f parts
  rw [impl_isKey_eq i hk hl]
  simp only [Option.bind_some]
  by_cases h : isKey l i = true
  · rw [if_pos h, if_pos h]
    obtain ⟨h1, h2⟩ := isKey_parts h
    exact impl_parts_l0 h1 h2 n hn n 0 k (by omega) hkn
  · rw [if_neg h, if_neg h]

theorem impl_thirdParts {k : Nat} {l : List Int} (i : Int) (hk : l.length < k) (hk2 : 5 < k) (hl : l.length ≤ 1099511627776) : impl_ThirdParts.f k l i = some (parts l i 4) := by
  unfold impl_ThirdParts.f
  have := impl_partsFrom_eq (k := k) (n := 4) i hk hl (by omega) (by omega)
  rw [show ((4 : Nat) : Int) = 4 from rfl] at this
  rw [this]; rfl

def inW (w : S74) : Bool := decide (0 ≤ w.f0 ∧ w.f0 ≤ 11)
def okW (l : List Int) (w : S74) : Bool := inW w && decide (¬ psum l w.f0 4 < w.f1)
def meets (l : List Int) (ws : List S74) : Bool := circOk l && (decide (ws.length ≤ 12) && ws.all (okW l))
theorem impl_meets_l1 {l : List Int} (h : circOk l = true) : ∀ (rest pre : List S74) (k : Nat), rest.length + 30 < k → (pre ++ rest).length ≤ 1000 → (∀ w ∈ rest, inW w = true) →
    impl_Meets.l1 k (pre ++ rest) ((pre ++ rest).length : Int) ((pre.length : Nat) : Int) l = some (rest.all (okW l)) := by
  intro rest
  induction rest with
  | nil =>
    intro pre k hk hl hi
    obtain ⟨k, rfl⟩ : ∃ m, k = m + 1 := ⟨k - 1, by omega⟩
    rw [impl_Meets.l1, if_neg (by simp)]; rfl
  | cons w rest ih =>
    intro pre k hk hl hi
    obtain ⟨k, rfl⟩ : ∃ m, k = m + 1 := ⟨k - 1, by omega⟩
    have hl2 : pre.length + rest.length + 1 ≤ 1000 := by simp at hl; omega
    have hk2 : rest.length + 30 < k := by simp at hk; omega
    have hlen : ((pre ++ w :: rest).length : Int) = (pre.length : Int) + (rest.length : Int) + 1 := by simp; omega
    have e := ih (pre ++ [w]) k hk2 (by simp; omega) (fun x hx => hi x (by simp [hx]))
    rw [List.append_assoc, List.singleton_append] at e
    have e2 : (((pre ++ [w]).length : Nat) : Int) = ((pre.length + 1 : Nat) : Int) := by simp
    rw [e2] at e
    have hw := hi w (by simp)
    have hw2 := hw
    unfold inW at hw2
    have hw3 := of_decide_eq_true hw2
    have h12 := circOk_len h
    have hkey : isKey l w.f0 = true := by unfold isKey; rw [h, Bool.true_and]; exact hw2
    have ep : parts l w.f0 4 = psum l w.f0 4 := by unfold parts; rw [if_pos hkey]
    rw [impl_Meets.l1, if_pos (by rw [hlen]; omega), if_pos (by omega), if_pos (by rw [hlen]; omega), rdW_mid, impl_thirdParts _ (by omega) (by omega) (by omega), Option.bind_some, ep, List.all_cons]
    by_cases g : psum l w.f0 4 < w.f1
    · rw [if_pos g]
      have : okW l w = false := by unfold okW; rw [hw, decide_eq_false (by simpa using g)]; rfl
      rw [this, Bool.false_and]
    · rw [if_neg g, succ_wrap (by omega), e]
      have : okW l w = true := by unfold okW; rw [hw, decide_eq_true g]; rfl
      rw [this, Bool.true_and]
theorem impl_meets_l0 {l : List Int} (h : circOk l = true) : ∀ (rest pre : List S74) (k : Nat), rest.length + (pre ++ rest).length + 40 < k → (pre ++ rest).length ≤ 1000 → (∀ w ∈ pre, inW w = true) →
    impl_Meets.l0 k (pre ++ rest) (pre ++ rest) ((pre ++ rest).length : Int) ((pre.length : Nat) : Int) l = some ((pre ++ rest).all (okW l)) := by
  intro rest
  induction rest with
  | nil =>
    intro pre k hk hl hi
    obtain ⟨k, rfl⟩ : ∃ m, k = m + 1 := ⟨k - 1, by omega⟩
    have e := impl_meets_l1 h pre [] k (by simp at hk; omega) (by simpa using hl) hi
    rw [show ((([] : List S74).length : Nat) : Int) = 0 from rfl, List.nil_append] at e
    rw [impl_Meets.l0, if_neg (by simp), List.append_nil, e]
  | cons w rest ih =>
    intro pre k hk hl hi
    obtain ⟨k, rfl⟩ : ∃ m, k = m + 1 := ⟨k - 1, by omega⟩
    have hl2 : pre.length + rest.length + 1 ≤ 1000 := by simp at hl; omega
    have hlen : ((pre ++ w :: rest).length : Int) = (pre.length : Int) + (rest.length : Int) + 1 := by simp; omega
    rw [impl_Meets.l0, if_pos (by rw [hlen]; omega), if_pos (by omega), if_pos (by rw [hlen]; omega), rdW_mid, within_eq, Option.bind_some]
    by_cases g : inW w = true
    · have e := ih (pre ++ [w]) k (by simp at hk ⊢; omega) (by simp; omega) (fun x hx => by
        rcases List.mem_append.1 hx with hx | hx
        · exact hi x hx
        · rw [List.mem_singleton.1 hx]; exact g)
      rw [List.append_assoc, List.singleton_append] at e
      have e2 : (((pre ++ [w]).length : Nat) : Int) = ((pre.length + 1 : Nat) : Int) := by simp
      rw [e2] at e
      unfold inW at g
      rw [if_pos g, succ_wrap (by omega), e]
    · have hf : (pre ++ w :: rest).all (okW l) = false := by
        rw [List.all_append, List.all_cons]
        have : okW l w = false := by unfold okW; rw [Bool.eq_false_iff.2 g]; rfl
        rw [this, Bool.false_and, Bool.and_false]
      unfold inW at g
      rw [if_neg g, hf]
theorem impl_meets {k : Nat} {l : List Int} (ws : List S74) (hk : 2000 < k) (hk2 : l.length < k) (hl : l.length ≤ 1099511627776) : impl_Meets.f k l ws = some (meets l ws) := by
  obtain ⟨k, rfl⟩ : ∃ m, k = m + 1 := ⟨k - 1, by omega⟩
  unfold impl_Meets.f meets
  rw [impl_circOk (by omega) hl, Option.bind_some]
  by_cases h : circOk l = true
  · rw [if_pos h, h, Bool.true_and]
    by_cases g : ws.length ≤ 12
    · have e := impl_meets_l0 h ws [] k (by simp; omega) (by simp; omega) (fun w hw => by cases hw)
      rw [show ((([] : List S74).length : Nat) : Int) = 0 from rfl, List.nil_append] at e
      rw [decide_eq_false (by omega), impl_Meets.j0, if_neg (by decide), e, decide_eq_true g, Bool.true_and]
    · rw [decide_eq_true (by omega), impl_Meets.j0, if_pos rfl, decide_eq_false g, Bool.false_and]
  · rw [if_neg h, impl_Meets.j0, if_pos rfl, Bool.eq_false_iff.2 h, Bool.false_and]

theorem rdC_mid (pre rest : List S29) (p : S29) : rd_T29 (pre ++ p :: rest) ((pre.length : Nat) : Int) = p := by
  unfold rd_T29
  rw [Int.toNat_natCast, List.getD_eq_getElem?_getD, List.getElem?_append_right (Nat.le_refl _)]
  simp
def cnt (ws : List S74) : List S29 → Int → Int
  | [], n => n
  | c :: l, n => cnt ws l (if meets c.f0 ws = true then n + 1 else n)
theorem impl_cnt_l0 (ws : List S74) : ∀ (rest pre : List S29) (n : Int) (k : Nat), rest.length + 2100 < k → (pre ++ rest).length ≤ 10000 → (∀ c ∈ rest, c.f0.length ≤ 1000) → 0 ≤ n ∧ n ≤ (pre.length : Int) →
    impl_CountMeeting.l0 k ws n (pre ++ rest) ((pre ++ rest).length : Int) ((pre.length : Nat) : Int) = some (cnt ws rest n) := by
  intro rest
  induction rest with
  | nil =>
    intro pre n k hk hl hc hn
    obtain ⟨k, rfl⟩ : ∃ m, k = m + 1 := ⟨k - 1, by omega⟩
    rw [impl_CountMeeting.l0, if_neg (by simp)]; rfl
  | cons c rest ih =>
    intro pre n k hk hl hc hn
    obtain ⟨k, rfl⟩ : ∃ m, k = m + 1 := ⟨k - 1, by omega⟩
    have hl2 : pre.length + rest.length + 1 ≤ 10000 := by simp at hl; omega
    have hk2 : rest.length + 2100 < k := by simp at hk; omega
    have hlen : ((pre ++ c :: rest).length : Int) = (pre.length : Int) + (rest.length : Int) + 1 := by simp; omega
    have hc1 := hc c (by simp)
    have e := fun m hm => ih (pre ++ [c]) m k hk2 (by simp; omega) (fun x hx => hc x (by simp [hx])) hm
    have e2 : (((pre ++ [c]).length : Nat) : Int) = ((pre.length + 1 : Nat) : Int) := by simp
    simp only [List.append_assoc, List.singleton_append, e2] at e
    rw [impl_CountMeeting.l0, if_pos (by rw [hlen]; omega), if_pos (by omega), if_pos (by rw [hlen]; omega), rdC_mid, impl_meets _ (by omega) (by omega) (by omega), Option.bind_some, succ_wrap (by omega), cnt]
    by_cases g : meets c.f0 ws = true
    · rw [if_pos g, if_pos g, wrap_id (by omega), e _ (by omega)]
    · rw [if_neg g, if_neg g, e _ (by omega)]
theorem spr_mem : ∀ (d : Nat) (l : List Int) (n : Nat) (p : Int), ∀ x ∈ spr d l n p, x.length = l.length + d := by
  intro d
  induction d with
  | zero => intro l n p x hx; rw [spr] at hx; split at hx; rw [List.mem_singleton.1 hx]; rfl; cases hx
  | succ d ih =>
    intro l n p x hx
    rw [spr] at hx
    rcases List.mem_append.1 hx with hx | hx
    · have := ih _ _ _ x hx; rw [List.length_append, List.length_singleton] at this; omega
    · split at hx
      · have := ih _ _ _ x hx; rw [List.length_append, List.length_singleton] at this; omega
      · cases hx
theorem fam_mem {p : Int} : ∀ x ∈ fam p, x.length = 12 := by
  intro x hx
  have H : ∀ (n : Nat) (q : Int), x ∈ spr 12 [] n q → x.length = 12 := fun n q h => by have := spr_mem 12 [] n q x h; simpa using this
  unfold fam at hx
  by_cases h2 : p = 2
  · rw [if_pos h2] at hx; exact H _ _ hx
  rw [if_neg h2] at hx
  by_cases h3 : p = 3
  · rw [if_pos h3] at hx; exact H _ _ hx
  rw [if_neg h3] at hx
  by_cases h4 : p = 4
  · rw [if_pos h4] at hx; exact H _ _ hx
  rw [if_neg h4] at hx
  by_cases h6 : p = 6
  · rw [if_pos h6] at hx; exact H _ _ hx
  rw [if_neg h6] at hx
  by_cases h12 : p = 12
  · rw [if_pos h12] at hx; exact H _ _ hx
  rw [if_neg h12] at hx; cases hx
theorem famC_mem {p : Int} : ∀ c ∈ (fam p).map mkC, c.f0.length ≤ 1000 := by
  intro c hc
  obtain ⟨x, hx, rfl⟩ := List.mem_map.1 hc
  have := fam_mem x hx
  show x.length ≤ 1000
  omega
theorem impl_count {k : Nat} (p : Int) (ws : List S74) (hk : 10000 < k) : impl_CountMeeting.f k p ws = some (cnt ws ((fam p).map mkC) 0) := by
  unfold impl_CountMeeting.f
  have hl := fam_len p
  have e := impl_cnt_l0 ws ((fam p).map mkC) [] 0 k (by rw [List.length_map]; omega) (by rw [List.nil_append, List.length_map]; omega) famC_mem (by simp)
  rw [show ((([] : List S29).length : Nat) : Int) = 0 from rfl, List.nil_append] at e
  rw [impl_familyOf _ (by omega), Option.bind_some, e]





def fst1 (ws : List S74) : List S29 → List Int × Bool
  | [] => ([], false)
  | c :: l => if meets c.f0 ws = true then (c.f0, true) else fst1 ws l
theorem fst1_len (ws : List S74) : ∀ (l : List S29), (∀ c ∈ l, c.f0.length ≤ 1000) → (fst1 ws l).1.length ≤ 1000 := by
  intro l
  induction l with
  | nil => intro _; simp [fst1]
  | cons c l ih =>
    intro h
    rw [fst1]
    split
    · exact h c (by simp)
    · exact ih (fun x hx => h x (by simp [hx]))
theorem impl_first_l0 (ws : List S74) : ∀ (rest pre : List S29) (k : Nat), rest.length + 2100 < k → (pre ++ rest).length ≤ 10000 → (∀ c ∈ rest, c.f0.length ≤ 1000) →
    impl_FirstMeeting.l0 k ws (pre ++ rest) ((pre ++ rest).length : Int) ((pre.length : Nat) : Int) = some (fst1 ws rest) := by
  intro rest
  induction rest with
  | nil =>
    intro pre k hk hl hc
    obtain ⟨k, rfl⟩ : ∃ m, k = m + 1 := ⟨k - 1, by omega⟩
    rw [impl_FirstMeeting.l0, if_neg (by simp)]; rfl
  | cons c rest ih =>
    intro pre k hk hl hc
    obtain ⟨k, rfl⟩ : ∃ m, k = m + 1 := ⟨k - 1, by omega⟩
    have hl2 : pre.length + rest.length + 1 ≤ 10000 := by simp at hl; omega
    have hk2 : rest.length + 2100 < k := by simp at hk; omega
    have hlen : ((pre ++ c :: rest).length : Int) = (pre.length : Int) + (rest.length : Int) + 1 := by simp; omega
    have hc1 := hc c (by simp)
    have e := ih (pre ++ [c]) k hk2 (by simp; omega) (fun x hx => hc x (by simp [hx]))
    have e2 : (((pre ++ [c]).length : Nat) : Int) = ((pre.length + 1 : Nat) : Int) := by simp
    rw [List.append_assoc, List.singleton_append, e2] at e
    rw [impl_FirstMeeting.l0, if_pos (by rw [hlen]; omega), if_pos (by omega), if_pos (by rw [hlen]; omega), rdC_mid, impl_meets _ (by omega) (by omega) (by omega), Option.bind_some, succ_wrap (by omega), fst1]
    by_cases g : meets c.f0 ws = true
    · rw [if_pos g, if_pos g]
    · rw [if_neg g, if_neg g, e]
def firstM (p : Int) (ws : List S74) : List Int × Bool := fst1 ws ((fam p).map mkC)
theorem firstM_len (p : Int) (ws : List S74) : (firstM p ws).1.length ≤ 1000 := fst1_len ws _ famC_mem
theorem impl_first {k : Nat} (p : Int) (ws : List S74) (hk : 10000 < k) : impl_FirstMeeting.f k p ws = some (firstM p ws) := by
  unfold impl_FirstMeeting.f firstM
  have hl := fam_len p
  have e := impl_first_l0 ws ((fam p).map mkC) [] k (by rw [List.length_map]; omega) (by rw [List.nil_append, List.length_map]; omega) famC_mem
  rw [show ((([] : List S29).length : Nat) : Int) = 0 from rfl, List.nil_append] at e
  rw [impl_familyOf _ (by omega), Option.bind_some, e]

theorem keyLit (x : Int) : WideAt.IsKeyLit (lk x) := by first | trivial | exact ⟨_, _, rfl⟩ | simp [lk, WideAt.IsKeyLit]
def InvD (D : DataW Unit) (l : List S74) : Prop := Go.Maps.IsMap D ∧ ∀ x, Go.Maps.has D (lk x) = true → ∃ w ∈ l, w.f0 = x ∧ clampW w.f1 = valD D x
theorem invD_step {D : DataW Unit} {l : List S74} (x : S74) (h : InvD D l) : InvD (stepD D x) (l ++ [x]) := by
  obtain ⟨hm, h⟩ := h
  unfold stepD
  split
  · exact ⟨hm, fun y hy => by obtain ⟨w, hw, e⟩ := h y hy; exact ⟨w, by simp [hw], e⟩⟩
  · refine ⟨hm.put _ _, fun y hy => ?_⟩
    by_cases g : y = x.f0
    · subst g
      refine ⟨x, by simp, rfl, ?_⟩
      unfold valD
      rw [Go.Maps.atKey_put_same hm (keyLit _)]; rfl
    · have hne : lk y ≠ lk x.f0 := by unfold lk; intro e; injection e with _ e2; exact g e2
      rw [Go.Maps.has_put_other hne] at hy
      obtain ⟨w, hw, e1, e2⟩ := h y hy
      refine ⟨w, by simp [hw], e1, ?_⟩
      rw [e2]
      unfold valD
      rw [Go.Maps.atKey_put_other hne]
theorem invD_fold : ∀ (rest pre : List S74) (D : DataW Unit), InvD D pre → InvD (rest.foldl stepD D) (pre ++ rest) := by
  intro rest
  induction rest with
  | nil => intro pre D h; simpa using h
  | cons x rest ih =>
    intro pre D h
    have := ih (pre ++ [x]) (stepD D x) (invD_step x h)
    simpa using this
theorem invD_most (l : List S74) : InvD (mostD l) l := by
  have := invD_fold l [] (.map []) ⟨Go.Maps.isMap_empty, fun x hx => by simp [Go.Maps.has] at hx⟩
  rw [List.nil_append] at this
  exact this
theorem thirds12 {l : List Int} (h : l.length = 12) {k : Int} (hk : k = 0 ∨ k = 1 ∨ k = 2 ∨ k = 3) : psum l k 4 + psum l (k + 4) 4 + psum l (k + 8) 4 = l.sum := by
  match l, h with
  | [a, b, c, d, e, f, g, i, j, m, n, o], _ =>
    rcases hk with rfl | rfl | rfl | rfl
    · show 0 + a + b + c + d + (0 + e + f + g + i) + (0 + j + m + n + o) = [a, b, c, d, e, f, g, i, j, m, n, o].sum
      simp only [List.sum_cons, List.sum_nil]; omega
    · show 0 + b + c + d + e + (0 + f + g + i + j) + (0 + m + n + o + a) = [a, b, c, d, e, f, g, i, j, m, n, o].sum
      simp only [List.sum_cons, List.sum_nil]; omega
    · show 0 + c + d + e + f + (0 + g + i + j + m) + (0 + n + o + a + b) = [a, b, c, d, e, f, g, i, j, m, n, o].sum
      simp only [List.sum_cons, List.sum_nil]; omega
    · show 0 + d + e + f + g + (0 + i + j + m + n) + (0 + o + a + b + c) = [a, b, c, d, e, f, g, i, j, m, n, o].sum
      simp only [List.sum_cons, List.sum_nil]; omega
def okD (w : S74) : Prop := (0 ≤ w.f0 ∧ w.f0 ≤ 11) ∧ (0 ≤ w.f1 ∧ w.f1 ≤ 8)
theorem atD_no {l : List Int} {ws : List S74} (hw : ∀ w ∈ ws, okD w) (h : meets l ws = true) {k : Int} (hk : k = 0 ∨ k = 1 ∨ k = 2 ∨ k = 3) : atD (mostD ws) k = false := by
  rcases Bool.eq_false_or_eq_true (atD (mostD ws) k) with g | g
  case inr => exact g
  unfold atD at g
  simp only [Bool.and_eq_true, decide_eq_true_eq] at g
  obtain ⟨⟨⟨g1, g2⟩, g3⟩, g4⟩ := g
  obtain ⟨_, hi⟩ := invD_most ws
  obtain ⟨a, ha, ea, va⟩ := hi _ g1
  obtain ⟨b, hb, eb, vb⟩ := hi _ g2
  obtain ⟨c, hc, ec, vc⟩ := hi _ g3
  have qa := (hw a ha).2
  have qb := (hw b hb).2
  have qc := (hw c hc).2
  have cl : ∀ n : Int, 0 ≤ n ∧ n ≤ 8 → clampW n = n := fun n hn => by unfold clampW; rw [if_neg (by omega), if_neg (by omega)]
  rw [cl _ qa] at va
  rw [cl _ qb] at vb
  rw [cl _ qc] at vc
  rw [← va, ← vb, ← vc, wrap_id (x := a.f1 + b.f1) (by omega), wrap_id (by omega)] at g4
  unfold meets at h
  simp only [Bool.and_eq_true, decide_eq_true_eq, List.all_eq_true] at h
  obtain ⟨h1, _, h2⟩ := h
  have H : ∀ w ∈ ws, ¬ psum l w.f0 4 < w.f1 := fun w q => by
    have := h2 w q
    unfold okW at this
    rw [Bool.and_eq_true] at this
    exact of_decide_eq_true this.2
  have pa := H a ha
  have pb := H b hb
  have pc := H c hc
  rw [ea] at pa
  rw [eb] at pb
  rw [ec] at pc
  have := thirds12 (circOk_len h1) hk
  rw [circOk_sum h1] at this
  omega
def confl (ws : List S74) : Bool := atD (mostD ws) 0 || atD (mostD ws) 1 || atD (mostD ws) 2 || atD (mostD ws) 3
theorem confl_no {l : List Int} {ws : List S74} (hw : ∀ w ∈ ws, okD w) (h : meets l ws = true) : confl ws = false := by
  unfold confl
  rw [atD_no hw h (k := 0) (by omega), atD_no hw h (k := 1) (by omega), atD_no hw h (k := 2) (by omega), atD_no hw h (k := 3) (by omega)]; rfl
theorem conflict_eq {ws : List S74} (hw : ∀ w ∈ ws, okD w) (hl : ws.length ≤ 1000) : impl_ConflictOf.f ws = some (confl ws) := by
  unfold impl_ConflictOf.f
  rw [if_pos (by rw [wishesOk_iff]; exact ⟨by omega, fun w q => WalkArith.wf_i64 (by have := hw w q; unfold okD at this; omega)⟩)]; rfl
theorem fst1_meets (ws : List S74) : ∀ l : List S29, (fst1 ws l).2 = true → meets (fst1 ws l).1 ws = true := by
  intro l
  induction l with
  | nil => intro h; simp [fst1] at h
  | cons c l ih =>
    rw [fst1]
    by_cases g : meets c.f0 ws = true
    · rw [if_pos g]; exact fun _ => g
    · rw [if_neg g]; exact ih
theorem cnt_ge (ws : List S74) : ∀ (l : List S29) (n : Int), n ≤ cnt ws l n := by
  intro l
  induction l with
  | nil => intro n; exact Int.le_refl _
  | cons c l ih => intro n; rw [cnt]; split; have := ih (n + 1); omega; exact ih n
theorem cnt_fst (ws : List S74) : ∀ (l : List S29) (n : Int), ((fst1 ws l).2 = true → n < cnt ws l n) ∧ ((fst1 ws l).2 = false → cnt ws l n = n) := by
  intro l
  induction l with
  | nil => intro n; exact ⟨fun h => by simp [fst1] at h, fun _ => rfl⟩
  | cons c l ih =>
    intro n
    rw [fst1, cnt]
    by_cases g : meets c.f0 ws = true
    · rw [if_pos g, if_pos g]
      exact ⟨fun _ => by have := cnt_ge ws l (n + 1); omega, fun h => by cases h⟩
    · rw [if_neg g, if_neg g]; exact ih n
theorem wish_l0 {l : List Int} (hl : l.length ≤ 1048576) : ∀ (d : Nat) (x3 : List S74) (i j h : Int) (m : Int) (k : Nat), (0 ≤ i ∧ i ≤ (l.length : Int)) → (0 ≤ j ∧ m ≤ j + (d : Int) ∧ m ≤ 5) → (j ≤ m) → (x3.length : Int) ≤ j → (∀ w ∈ x3, okD w) → d < k →
    ∃ y i' h', spec_l14Wishes.l0 k x3 m j l i h = some (y, i', h') ∧ (∀ w ∈ y, okD w) ∧ y.length ≤ 5 := by
  intro d
  induction d with
  | zero =>
    intro x3 i j h m k hi hj hjm hx hw hk
    obtain ⟨k, rfl⟩ : ∃ q, k = q + 1 := ⟨k - 1, by omega⟩
    rw [spec_l14Wishes.l0, if_neg (by omega)]
    exact ⟨x3, i, h, rfl, hw, by omega⟩
  | succ d ih =>
    intro x3 i j h m k hi hj hjm hx hw hk
    obtain ⟨k, rfl⟩ : ∃ q, k = q + 1 := ⟨k - 1, by omega⟩
    rw [spec_l14Wishes.l0]
    by_cases g : j < m
    · obtain ⟨a, i1, h1, e1, a0, a1, _, hi1⟩ := below_ok (l := l) h 12 hi hl
      have a2 := a1 (by decide)
      obtain ⟨b, i2, h2, e2, hb, hi2⟩ := pick_ok (l := l) h1 (c := [0, 4, 8, a]) (by simp) hi1 hl
      obtain ⟨c, i3, h3, e3, c0, c1, _, hi3⟩ := below_ok (l := l) h2 9 hi2 hl
      have c2 := c1 (by decide)
      rw [if_pos g, e1, Option.bind_some]
      dsimp only
      rw [e2, Option.bind_some]
      dsimp only
      rw [e3, Option.bind_some]
      dsimp only
      rw [if_pos (by omega), wrap_id (x := j + 1) (by omega)]
      have hb2 : 0 ≤ b ∧ b ≤ 11 := by simp only [List.mem_cons, List.not_mem_nil, or_false] at hb; omega
      refine ih _ i3 (j + 1) h3 m k hi3 (by omega) (by omega) (by simp; omega) (fun w hq => ?_) (by omega)
      rcases List.mem_append.1 hq with hq | hq
      · exact hw w hq
      · rw [List.mem_singleton.1 hq]; exact ⟨hb2, by show 0 ≤ c ∧ c ≤ 8; omega⟩
    · rw [if_neg g]
      exact ⟨x3, i, h, rfl, hw, by omega⟩
theorem drawWishes_ok {l : List Int} {k : Nat} (hl : l.length ≤ 1048576) (hk : 1048577 ≤ k) : ∃ ws, spec_DrawWishes.f k l = some ws ∧ (∀ w ∈ ws, okD w) ∧ ws.length ≤ 5 := by
  unfold spec_DrawWishes.f spec_l14Wishes.f
  obtain ⟨h, e⟩ := new_ok hl hk
  rw [e, Option.bind_some]
  dsimp only
  obtain ⟨m, i1, h1, e1, m0, m1, _, hi1⟩ := below_ok (l := l) (i := 0) h 5 (by omega) hl
  have m2 := m1 (by decide)
  rw [e1, Option.bind_some]
  dsimp only
  obtain ⟨y, i2, h2, e2, hy, hy2⟩ := wish_l0 hl 5 [] i1 0 h1 m k hi1 (by omega) (by omega) (by simp) (fun w hw => by cases hw) (by omega)
  rw [e2, Option.bind_some]
  exact ⟨y, rfl, hy, hy2⟩
theorem tmod5 {x : Int} (h : 0 ≤ x) : 0 ≤ Int.tmod x 5 ∧ Int.tmod x 5 < 5 := ⟨Int.tmod_nonneg 5 h, Int.tmod_lt_of_pos x (by decide)⟩
theorem FnWishes : laws_FnWishes.Pure := by
  intro l hm hl hw
  refine ⟨1048600, ?_⟩
  unfold laws_FnWishes.f
  rw [big_eq, Option.bind_some]
  by_cases hb : 1048576 < l.length
  · rw [if_pos (decide_eq_true hb)]
  rw [if_neg (by simpa using hb)]
  obtain ⟨ws, e1, okws, lenws⟩ := drawWishes_ok (l := l) (k := 1048600) (by omega) (by omega)
  obtain ⟨a, ea, a0, _⟩ := at_eq (l := l) (i := 0) (by omega) (by omega) hw
  have ht := tmod5 a0
  rw [e1, Option.bind_some, Option.bind_some, ea, Option.bind_some, if_pos ht.1, if_pos (by simpa using ht.2)]
  generalize hp : rd [3, 4, 6, 12, 2] (Int.tmod a 5) = p
  have E : impl_EqualCircle.f = some ([1, 1, 1, 1, 1, 1, 1, 1, 1, 1, 1, 1] : List Int) := rfl
  have M1 : meets [1, 1, 1, 1, 1, 1, 1, 1, 1, 1, 1, 1] [] = true := by decide
  have hc := cnt_fst ws ((fam p).map mkC) 0
  have hm2 := fst1_meets ws ((fam p).map mkC)
  have hlen : (fst1 ws ((fam p).map mkC)).1.length ≤ 1000 := firstM_len p ws
  rw [impl_count p ws (by omega), Option.bind_some, impl_first p ws (by omega), Option.bind_some]
  unfold firstM
  generalize fst1 ws ((fam p).map mkC) = F at hc hm2 hlen
  generalize cnt ws ((fam p).map mkC) 0 = n at hc
  obtain ⟨c, ok⟩ := F
  dsimp only at hc hm2 hlen ⊢
  rw [conflict_eq okws (by omega)]
  simp only [Option.bind_some, E, impl_meets ws (k := 1048600) (l := c) (by omega) (by omega) (by omega), impl_meets ws (k := 1048600) (l := [1, 1, 1, 1, 1, 1, 1, 1, 1, 1, 1, 1]) (by omega) (by decide) (by decide), impl_meets [] (k := 1048600) (l := [1, 1, 1, 1, 1, 1, 1, 1, 1, 1, 1, 1]) (by omega) (by decide) (by decide), M1]
  cases ok with
  | true =>
    have h1 := hc.1 rfl
    have h2 := hm2 rfl
    rw [if_pos (by rw [decide_eq_true h1]; rfl), if_pos rfl, if_pos h2, confl_no okws h2]; rfl
  | false =>
    have h1 := hc.2 rfl
    rw [if_pos (by rw [decide_eq_false (by omega)]; rfl), if_neg (by decide)]
    cases hq : confl ws with
    | false => rfl
    | true =>
      rw [if_pos rfl, if_pos h1, if_neg (fun q => by rw [confl_no okws q] at hq; cases hq)]

end Go.Proofs.Ytdcpbnddnbeofaa.Pure
