/- The law FnExactCirclesHeard over numbers and lists alone: the program's CirclesHeard and the reference's give one list of circles, new each time, each circle in a row of its own, and the thirds stay as they were. Conditions: none. -/
import Derived.Test.YtdcpbnddnbeofaaQFnExactCirclesHeardx5
import Derived.Test.YtdcpbnddnbeofaaVFnExactCirclesHearda
namespace Go.Proofs.Ytdcpbnddnbeofaa.Pure
open Go.RowKit Go.Proofs.Ytdcpbnddnbeofaa.PFnExactCirclesHeard Go.Proofs.YtdcpbnddnbeofaaW.PrintWords Go.Proofs.YtdcpbnddnbeofaaW.PrintLast Go.Proofs.YtdcpbnddnbeofaaW.PrintMore
set_option linter.unusedVariables false
set_option linter.unusedSimpArgs false

theorem wrap_id {x : Int} (h : -4611686018427387904 ≤ x ∧ x ≤ 4611686018427387904) : wrap64 x = x := by
  unfold wrap64; omega

theorem rd_mid (pre rest : List Int) (p : Int) : rd (pre ++ p :: rest) ((pre.length : Nat) : Int) = p := by
  unfold rd
  simp [List.getD]
theorem rd_getD (l : List Int) (i : Nat) : rd l (i : Int) = l.getD i 0 := by unfold rd; simp
theorem succ_wrap {n : Nat} (h : n ≤ 1099511627776) : wrap64 ((n : Int) + 1) = ((n + 1 : Nat) : Int) := by
  rw [wrap_id (by omega)]; omega
theorem split_at {α : Type} (l : List α) (i : Nat) (h : i ≤ l.length) : ∃ pre rest, l = pre ++ rest ∧ pre.length = i := ⟨l.take i, l.drop i, (List.take_append_drop i l).symm, by simp; omega⟩

def spr : Nat → List Int → Nat → Int → List (List Int)
  | 0, l, n, _ => if n = 0 then [l] else []
  | d + 1, l, n, p => spr d (l ++ [0]) n p ++ (if 0 < n then spr d (l ++ [p]) (n - 1) p else [])
def mkC (l : List Int) : S29 := ⟨l⟩
theorem spr_nil : ∀ (d : Nat) (l : List Int) (n : Nat) (p : Int), d < n → spr d l n p = [] := by
  intro d
  induction d with
  | zero => intro l n p h; rw [spr, if_neg (by omega)]
  | succ d ih => intro l n p h; rw [spr, ih _ _ _ (by omega), if_pos (by omega), ih _ _ _ (by omega)]; rfl
theorem spr_len : ∀ (d : Nat) (l : List Int) (n : Nat) (p : Int), (spr d l n p).length ≤ 2 ^ d := by
  intro d
  induction d with
  | zero => intro l n p; rw [spr]; split <;> simp
  | succ d ih =>
    intro l n p
    rw [spr, List.length_append, Nat.pow_succ]
    have h1 := ih (l ++ [0]) n p
    split
    · have h2 := ih (l ++ [p]) (n - 1) p
      omega
    · simp; omega
theorem impl_spread_eq : ∀ (d k : Nat) (l : List Int) (n : Nat) (p : Int) (xs : List S29), l.length + d = 12 → n ≤ 12 → d < k → xs.length + 2 ^ d ≤ 1000000 → impl_spread.f k l (n : Int) p xs = some (xs ++ (spr d l n p).map mkC) := by
  intro d
  induction d with
  | zero =>
    intro k l n p xs hl hn hk hx
    obtain ⟨k, rfl⟩ : ∃ m, k = m + 1 := ⟨k - 1, by omega⟩
    rw [impl_spread.f, if_pos (by omega), spr]
    by_cases h : n = 0
    · rw [if_pos (by omega), if_pos (by simp at hx; omega), if_pos h]; rfl
    · rw [if_neg (by omega), if_neg h]; simp
  | succ d ih =>
    intro k l n p xs hl hn hk hx
    obtain ⟨k, rfl⟩ : ∃ m, k = m + 1 := ⟨k - 1, by omega⟩
    rw [impl_spread.f, if_neg (by omega)]
    rw [Nat.pow_succ] at hx
    by_cases h : d + 1 < n
    · rw [if_pos (by omega), spr_nil _ _ _ _ h]; simp
    · have h1 := spr_len d (l ++ [0]) n p
      rw [if_neg (by omega), ih k (l ++ [0]) n p xs (by simp; omega) hn (by omega) (by omega), Option.bind_some, spr]
      by_cases h2 : 0 < n
      · rw [if_pos (by omega), if_pos h2, show (n : Int) - 1 = ((n - 1 : Nat) : Int) by omega, ih k (l ++ [p]) (n - 1) p _ (by simp; omega) (by omega) (by omega) (by rw [List.length_append, List.length_map]; omega)]
        rw [List.map_append, List.append_assoc]
      · rw [if_neg (by omega), if_neg h2, List.append_nil]
def fam (p : Int) : List (List Int) := if p = 2 then spr 12 [] 6 2 else if p = 3 then spr 12 [] 4 3 else if p = 4 then spr 12 [] 3 4 else if p = 6 then spr 12 [] 2 6 else if p = 12 then spr 12 [] 1 12 else []
theorem pow12 : 2 ^ 12 ≤ 4096 := by decide
theorem fam_len (p : Int) : (fam p).length ≤ 4096 := by
  have H : ∀ (n : Nat) (q : Int), (spr 12 [] n q).length ≤ 4096 := fun n q => Nat.le_trans (spr_len 12 [] n q) pow12
  unfold fam
  by_cases h2 : p = 2
  · rw [if_pos h2]; exact H 6 2
  rw [if_neg h2]
  by_cases h3 : p = 3
  · rw [if_pos h3]; exact H 4 3
  rw [if_neg h3]
  by_cases h4 : p = 4
  · rw [if_pos h4]; exact H 3 4
  rw [if_neg h4]
  by_cases h6 : p = 6
  · rw [if_pos h6]; exact H 2 6
  rw [if_neg h6]
  by_cases h12 : p = 12
  · rw [if_pos h12]; exact H 1 12
  rw [if_neg h12]; exact Nat.zero_le _
theorem impl_familyOf {k : Nat} (p : Int) (hk : 12 < k) : impl_FamilyOf.f k p = some ((fam p).map mkC) := by
  unfold impl_FamilyOf.f fam
  have H : ∀ (n : Nat) (q : Int), n ≤ 12 → impl_spread.f k [] (n : Int) q [] = some ((spr 12 [] n q).map mkC) := by
    intro n q hn
    rw [impl_spread_eq 12 k [] n q [] (by simp) hn hk (by simp)]; rfl
  by_cases h2 : p = 2
  · subst h2; exact H 6 2 (by omega)
  by_cases h3 : p = 3
  · subst h3; exact H 4 3 (by omega)
  by_cases h4 : p = 4
  · subst h4; exact H 3 4 (by omega)
  by_cases h6 : p = 6
  · subst h6; exact H 2 6 (by omega)
  by_cases h12 : p = 12
  · subst h12; exact H 1 12 (by omega)
  rw [if_neg (by omega), if_neg h2, if_neg h3, if_neg h4, if_neg h6, if_neg h12]; rfl

theorem l01In_eq (a b c : Int) : spec_l01In.f a b c = some (decide (b ≤ a ∧ a ≤ c)) := by
  unfold spec_l01In.f
  by_cases h : b ≤ a <;> simp [h]
theorem within_eq (a b c : Int) : impl_within.f a b c = some (decide (b ≤ a ∧ a ≤ c)) := by
  unfold impl_within.f
  by_cases h : b ≤ a <;> simp [h]

theorem spec_copy {l : List Int} (h : l.length ≤ 1000) : spec_l02Copy.f l = some l := by
  unfold spec_l02Copy.f
  rw [Option.bind_some, if_pos (by simp; omega)]; rfl
theorem spec_family_eq {p : Int} (hp : 1 ≤ p ∧ p ≤ 12) : ∀ (d k : Nat) (l : List Int) (n : Nat), l.length + d = 12 → n ≤ 12 → d < k → spec_l14Family.f k p l ((n : Int) * p) = some ((spr d l n p).map mkC) := by
  intro d
  induction d with
  | zero =>
    intro k l n hl hn hk
    obtain ⟨k, rfl⟩ : ∃ m, k = m + 1 := ⟨k - 1, by omega⟩
    rw [spec_l14Family.f, if_pos (by omega), spr]
    by_cases h : n = 0
    · subst h
      rw [if_neg (by simp), spec_copy (by omega), Option.bind_some, if_pos rfl]; rfl
    · have : 0 < (n : Int) * p := Int.mul_pos (by omega) (by omega)
      rw [if_pos (by omega), if_neg h]; rfl
  | succ d ih =>
    intro k l n hl hn hk
    obtain ⟨k, rfl⟩ : ∃ m, k = m + 1 := ⟨k - 1, by omega⟩
    have q1 := spr_len d (l ++ [0]) n p
    have q2 := spr_len d (l ++ [p]) (n - 1) p
    have q3 : 2 ^ d ≤ 2 ^ 12 := Nat.pow_le_pow_right (by decide) (by omega)
    have q4 : 2 ^ 12 = 4096 := by decide
    rw [spec_l14Family.f, if_neg (by omega), spec_copy (by omega), Option.bind_some, if_pos (by omega), ih k (l ++ [0]) n (by simp; omega) hn (by omega), Option.bind_some, spr]
    by_cases h2 : 0 < n
    · have e : (n : Int) * p - p = ((n - 1 : Nat) : Int) * p := by
        rw [show ((n - 1 : Nat) : Int) = (n : Int) - 1 by omega, Int.sub_mul, Int.one_mul]
      have m1 : 0 ≤ ((n - 1 : Nat) : Int) * p := Int.mul_nonneg (by omega) (by omega)
      have m2 : ((n - 1 : Nat) : Int) * p ≤ 12 * 12 := Int.mul_le_mul (by omega) (by omega) (by omega) (by omega)
      rw [if_pos (by omega), Option.bind_some, if_pos (by omega), wrap_id (by omega), e, ih k (l ++ [p]) (n - 1) (by simp; omega) (by omega) (by omega), Option.bind_some, if_pos (by rw [List.length_map, List.length_map]; omega), if_pos h2, List.map_append]
    · have h0 : n = 0 := by omega
      subst h0
      rw [if_neg (by simp; omega), if_neg (by omega), List.append_nil]
theorem spec_familyOf {k : Nat} (p : Int) (hk : 12 < k) : spec_FamilyOf.f k p = some ((fam p).map mkC) := by
  unfold spec_FamilyOf.f fam
  rw [l01In_eq, Option.bind_some]
  have H : ∀ (n : Nat) (q : Int), n ≤ 12 → (1 ≤ q ∧ q ≤ 12) → (n : Int) * q = 12 → ((spec_l14Family.f k q (([] : List Int)) 12).bind fun t => some t) = some ((spr 12 [] n q).map mkC) := by
    intro n q hn hq e
    rw [← e, spec_family_eq hq 12 k [] n (by simp) hn hk]; rfl
  by_cases h : 2 ≤ p ∧ p ≤ 12
  · rw [if_pos (decide_eq_true h), if_neg (by omega)]
    have hp : p = 2 ∨ p = 3 ∨ p = 4 ∨ p = 5 ∨ p = 6 ∨ p = 7 ∨ p = 8 ∨ p = 9 ∨ p = 10 ∨ p = 11 ∨ p = 12 := by omega
    rcases hp with rfl | rfl | rfl | rfl | rfl | rfl | rfl | rfl | rfl | rfl | rfl
    · rw [if_pos (by decide), H 6 2 (by omega) (by omega) (by decide)]; rfl
    · rw [if_pos (by decide), H 4 3 (by omega) (by omega) (by decide)]; rfl
    · rw [if_pos (by decide), H 3 4 (by omega) (by omega) (by decide)]; rfl
    · rw [if_neg (by decide)]; rfl
    · rw [if_pos (by decide), H 2 6 (by omega) (by omega) (by decide)]; rfl
    · rw [if_neg (by decide)]; rfl
    · rw [if_neg (by decide)]; rfl
    · rw [if_neg (by decide)]; rfl
    · rw [if_neg (by decide)]; rfl
    · rw [if_neg (by decide)]; rfl
    · rw [if_pos (by decide), H 1 12 (by omega) (by omega) (by decide)]; rfl
  · rw [if_neg (by simpa using h), if_neg (by omega), if_neg (by omega), if_neg (by omega), if_neg (by omega), if_neg (by omega)]; rfl

def inR (p : Int) : Bool := decide (0 ≤ p ∧ p ≤ 12)
def circOk (l : List Int) : Bool := l.all inR && (decide (l.length = 12) && (l.sum == 12))
theorem impl_circOk_l0 : ∀ (rest pre : List Int) (s : Int) (k : Nat), rest.length < k → (pre ++ rest).length ≤ 1099511627776 → 0 ≤ s ∧ s ≤ 12 * (pre.length : Int) →
    impl_CircleOk.l0 k s (pre ++ rest) ((pre ++ rest).length : Int) (pre.length : Int) (pre ++ rest) = some (rest.all inR && (decide ((pre ++ rest).length = 12) && (s + rest.sum == 12))) := by
  intro rest
  induction rest with
  | nil =>
    intro pre s k hk hl hs
    obtain ⟨k, rfl⟩ : ∃ m, k = m + 1 := ⟨k - 1, by simp at hk; omega⟩
    simp only [impl_CircleOk.l0]
    rw [if_neg (by simp)]
    by_cases h : (pre ++ ([] : List Int)).length = 12
    · rw [if_pos (by omega)]; simp at h; simp [h]
    · rw [if_neg (by omega)]; simp at h; simp [h]
  | cons p rest ih =>
    intro pre s k hk hl hs
    obtain ⟨k, rfl⟩ : ∃ m, k = m + 1 := ⟨k - 1, by simp at hk; omega⟩
    simp only [impl_CircleOk.l0]
    rw [if_pos (by simp; omega), if_pos (by omega), if_pos (by simp; omega), rd_mid, within_eq]
    simp only [Option.bind_some]
    by_cases hp : 0 ≤ p ∧ p ≤ 12
    · have hl2 : pre.length ≤ 1099511627776 := by simp at hl; omega
      rw [if_pos (by simpa using hp), wrap_id (x := s + p) (by omega), succ_wrap hl2]
      have := ih (pre ++ [p]) (s + p) k (by simp at hk; omega) (by simp at hl ⊢; omega) (by simp; omega)
      have e : pre ++ [p] ++ rest = pre ++ p :: rest := by simp
      have e2 : ((pre ++ [p]).length : Int) = ((pre.length + 1 : Nat) : Int) := by simp
      rw [e, e2] at this
      rw [this]
      have hi : inR p = true := decide_eq_true hp
      simp [hi, Int.add_assoc]
    · rw [if_neg (by simpa using hp)]
      have hi : inR p = false := decide_eq_false hp
      simp [hi]
theorem impl_circOk {k : Nat} {l : List Int} (hk : l.length < k) (hl : l.length ≤ 1099511627776) : impl_CircleOk.f k l = some (circOk l) := by
  have := impl_circOk_l0 l [] 0 k hk (by simpa using hl) (by simp)
  unfold impl_CircleOk.f circOk
  simpa using this
theorem circOk_len {l : List Int} (h : circOk l = true) : l.length = 12 := by
  unfold circOk at h; simp at h; exact h.2.1
theorem circOk_sum {l : List Int} (h : circOk l = true) : l.sum = 12 := by
  unfold circOk at h; simp at h; exact h.2.2
theorem circOk_mem {l : List Int} (h : circOk l = true) : ∀ p ∈ l, 0 ≤ p ∧ p ≤ 12 := by
  unfold circOk at h; simp at h
  intro p hp
  have := h.1 p hp
  exact of_decide_eq_true this

def psum (l : List Int) (i : Int) : Nat → Int
  | 0 => 0
  | n + 1 => psum l i n + l.getD ((i.toNat + n) % 12) 0
theorem getD_range {l : List Int} (h : circOk l = true) (j : Nat) : 0 ≤ l.getD j 0 ∧ l.getD j 0 ≤ 12 := by
  rcases Nat.lt_or_ge j l.length with hj | hj
  · rw [List.getD_eq_getElem?_getD, List.getElem?_eq_getElem hj]
    exact circOk_mem h _ (List.getElem_mem hj)
  · rw [List.getD_eq_getElem?_getD, List.getElem?_eq_none hj]; simp
theorem psum_range {l : List Int} (h : circOk l = true) (i : Int) (n : Nat) : 0 ≤ psum l i n ∧ psum l i n ≤ 12 * n := by
  induction n with
  | zero => simp [psum]
  | succ n ih => have := getD_range h ((i.toNat + n) % 12); simp only [psum]; omega
theorem idx_eq {i : Int} {n : Nat} (hi : 0 ≤ i ∧ i ≤ 11) (hn : n ≤ 100) : Int.tmod (wrap64 (i + (n : Int))) 12 = (((i.toNat + n) % 12 : Nat) : Int) := by
  rw [wrap_id (by omega), Int.tmod_eq_emod_of_nonneg (by omega)]; omega

def isKey (l : List Int) (i : Int) : Bool := circOk l && decide (0 ≤ i ∧ i ≤ 11)
theorem impl_isKey_eq {k : Nat} {l : List Int} (i : Int) (hk : l.length < k) (hl : l.length ≤ 1099511627776) : impl_isKey.f k l i = some (isKey l i) := by
  unfold impl_isKey.f isKey
  rw [impl_circOk hk hl]
  simp only [Option.bind_some, within_eq]
  cases circOk l <;> simp
theorem isKey_parts {l : List Int} {i : Int} (h : isKey l i = true) : circOk l = true ∧ (0 ≤ i ∧ i ≤ 11) := by
  unfold isKey at h
  simp only [Bool.and_eq_true] at h
  exact ⟨h.1, of_decide_eq_true h.2⟩

theorem impl_parts_l0 {l : List Int} (h : circOk l = true) {i : Int} (hi : 0 ≤ i ∧ i ≤ 11) (n : Nat) (hn : n ≤ 100) : ∀ (d m k : Nat), m + d = n → d < k → impl_partsFrom.l0 k i (n : Int) (psum l i m) (m : Int) l = some (psum l i n) := by
  intro d
  induction d with
  | zero =>
    intro m k hm hk
    obtain ⟨k, rfl⟩ : ∃ q, k = q + 1 := ⟨k - 1, by omega⟩
    simp only [impl_partsFrom.l0]
    rw [if_neg (by omega)]
    congr 2
  | succ d ih =>
    intro m k hm hk
    obtain ⟨k, rfl⟩ : ∃ q, k = q + 1 := ⟨k - 1, by omega⟩
    have hl := circOk_len h
    have hg := getD_range h ((i.toNat + m) % 12)
    have hp := psum_range h i m
    have hmod : (i.toNat + m) % 12 < 12 := Nat.mod_lt _ (by omega)
    simp only [impl_partsFrom.l0]
    rw [if_pos (by omega), idx_eq hi (by omega), if_pos (by omega), if_pos (by omega), rd_getD, wrap_id (by omega), succ_wrap (by omega)]
    exact ih (m + 1) k (by omega) (by omega)
def parts (l : List Int) (i : Int) (n : Nat) : Int := if isKey l i = true then psum l i n else 0
theorem impl_partsFrom_eq {k n : Nat} {l : List Int} (i : Int) (hk : l.length < k) (hl : l.length ≤ 1099511627776) (hn : n ≤ 100) (hkn : n < k) : impl_partsFrom.f k l i (n : Int) = some (parts l i n) := by
  unfold impl_partsFrom.f parts
  rw [impl_isKey_eq i hk hl]
  simp only [Option.bind_some]
  by_cases h : isKey l i = true
  · rw [if_pos h, if_pos h]
    obtain ⟨h1, h2⟩ := isKey_parts h
    exact impl_parts_l0 h1 h2 n hn n 0 k (by omega) hkn
  · rw [if_neg h, if_neg h]

theorem impl_thirdParts {k : Nat} {l : List Int} (i : Int) (hk : l.length < k) (hk2 : 5 < k) (hl : l.length ≤ 1099511627776) : impl_ThirdParts.f k l i = some (parts l i 4) := by
  unfold impl_ThirdParts.f
  have := impl_partsFrom_eq (k := k) (n := 4) i hk hl (by omega) (by omega)
  rw [show ((4 : Nat) : Int) = 4 from rfl] at this
  rw [this]; rfl

def tl (l : List Int) (j : Nat) : List Int := (List.range j).map fun (q : Nat) => psum l (q : Int) 4
theorem tl_succ (l : List Int) (j : Nat) : tl l (j + 1) = tl l j ++ [psum l (j : Int) 4] := by
  unfold tl; rw [List.range_succ]; simp
theorem tl_length (l : List Int) (j : Nat) : (tl l j).length = j := by simp [tl]
def thirds (l : List Int) : List Int := if circOk l = true then tl l 12 else []
theorem thirds_length (l : List Int) : (thirds l).length ≤ 12 := by
  unfold thirds; split
  · rw [tl_length]; omega
  · simp
theorem thirds_range (l : List Int) : ∀ x ∈ thirds l, 0 ≤ x ∧ x ≤ 48 := by
  intro x hx
  unfold thirds at hx
  split at hx
  · rename_i h
    simp only [tl, List.mem_map] at hx
    obtain ⟨q, _, rfl⟩ := hx
    have := psum_range h (q : Int) 4
    omega
  · simp at hx
theorem impl_thirds_l0 {l : List Int} (h : circOk l = true) : ∀ (d j k : Nat), j + d = 12 → d + 12 < k → impl_ThirdsOf.l0 k (tl l j) (j : Int) l = some (tl l 12) := by
  have hl := circOk_len h
  intro d
  induction d with
  | zero =>
    intro j k hj hk
    obtain ⟨k, rfl⟩ : ∃ q, k = q + 1 := ⟨k - 1, by omega⟩
    have : j = 12 := by omega
    subst this
    simp only [impl_ThirdsOf.l0]
    rw [if_neg (by omega)]
  | succ d ih =>
    intro j k hj hk
    obtain ⟨k, rfl⟩ : ∃ q, k = q + 1 := ⟨k - 1, by omega⟩
    have hkey : isKey l (j : Int) = true := by unfold isKey; rw [h, Bool.true_and]; exact decide_eq_true (by omega)
    simp only [impl_ThirdsOf.l0]
    rw [if_pos (by omega), impl_thirdParts _ (by omega) (by omega) (by omega), Option.bind_some, if_pos (by rw [tl_length]; omega), succ_wrap (by omega)]
    have er : parts l (j : Int) 4 = psum l (j : Int) 4 := by unfold parts; rw [if_pos hkey]
    rw [er, ← tl_succ]
    exact ih (j + 1) k (by omega) (by omega)
theorem impl_thirds {k : Nat} {l : List Int} (hk : l.length + 30 < k) (hl : l.length ≤ 1099511627776) : impl_ThirdsOf.f k l = some (thirds l) := by
  unfold impl_ThirdsOf.f thirds
  rw [impl_circOk (by omega) hl]
  simp only [Option.bind_some]
  by_cases h : circOk l = true
  · rw [if_pos h, if_pos h]
    exact impl_thirds_l0 h 12 0 k (by omega) (by omega)
  · rw [if_neg h, if_neg h]

def dist : List Int → List Int → Int
  | a :: r, b :: s => mx (a - b) (b - a) + dist r s
  | _, _ => 0
def Small (l : List Int) : Prop := ∀ x ∈ l, -100000 ≤ x ∧ x ≤ 100000
theorem dist_nn : ∀ (a b : List Int), 0 ≤ dist a b
  | [], _ => by simp [dist]
  | _ :: _, [] => by simp [dist]
  | a :: r, b :: s => by
    have := dist_nn r s
    simp only [dist, mx]; split <;> omega

theorem thirds_small (l : List Int) : Small (thirds l) := fun x hx => by have := thirds_range l x hx; omega
theorem thirds_len12 {l : List Int} (h : circOk l = true) : (thirds l).length = 12 := by unfold thirds; rw [if_pos h, tl_length]
def differ (a b : List Int) : Int := if circOk a = true ∧ circOk b = true then dist (thirds a) (thirds b) else -1

theorem spec_circOk_l0 : ∀ (rest pre : List Int) (s : Int) (k : Nat), rest.length < k → (pre ++ rest).length ≤ 1099511627776 → 0 ≤ s ∧ s ≤ 12 * (pre.length : Int) →
    spec_CircleOk.l0 k s (pre.length : Int) (pre ++ rest) = some (rest.all inR && (decide ((pre ++ rest).length = 12) && (s + rest.sum == 12))) := by
  intro rest
  induction rest with
  | nil =>
    intro pre s k hk hl hs
    obtain ⟨k, rfl⟩ : ∃ m, k = m + 1 := ⟨k - 1, by simp at hk; omega⟩
    simp only [spec_CircleOk.l0]
    rw [if_neg (by simp)]
    by_cases h : (pre ++ ([] : List Int)).length = 12
    · rw [if_pos (by omega)]; simp at h; simp [h]
    · rw [if_neg (by omega)]; simp at h; simp [h]
  | cons p rest ih =>
    intro pre s k hk hl hs
    obtain ⟨k, rfl⟩ : ∃ m, k = m + 1 := ⟨k - 1, by simp at hk; omega⟩
    simp only [spec_CircleOk.l0]
    rw [if_pos (by simp; omega), if_pos (by omega), rd_mid, l01In_eq]
    simp only [Option.bind_some]
    by_cases hp : 0 ≤ p ∧ p ≤ 12
    · have hl2 : pre.length ≤ 1099511627776 := by simp at hl; omega
      rw [if_pos (by simpa using hp), wrap_id (x := s + p) (by omega), succ_wrap hl2]
      have := ih (pre ++ [p]) (s + p) k (by simp at hk; omega) (by simp at hl ⊢; omega) (by simp; omega)
      have e : pre ++ [p] ++ rest = pre ++ p :: rest := by simp
      have e2 : ((pre ++ [p]).length : Int) = ((pre.length + 1 : Nat) : Int) := by simp
      rw [e, e2] at this
      rw [this]
      have hi : inR p = true := decide_eq_true hp
      simp [hi, Int.add_assoc]
    · rw [if_neg (by simpa using hp)]
      have hi : inR p = false := decide_eq_false hp
      simp [hi]
theorem spec_circOk {k : Nat} {l : List Int} (hk : l.length < k) (hl : l.length ≤ 1099511627776) : spec_CircleOk.f k l = some (circOk l) := by
  have := spec_circOk_l0 l [] 0 k hk (by simpa using hl) (by simp)
  unfold spec_CircleOk.f circOk
  simpa using this

theorem spec_l13_l0 {l : List Int} (h : circOk l = true) {i : Int} (hi : 0 ≤ i ∧ i ≤ 11) (n : Nat) (hn : n ≤ 100) : ∀ (d m k : Nat), m + d = n → d < k → spec_l13Sum.l0 k i (n : Int) (psum l i m) (m : Int) l = some (psum l i n) := by
  intro d
  induction d with
  | zero =>
    intro m k hm hk
    obtain ⟨k, rfl⟩ : ∃ q, k = q + 1 := ⟨k - 1, by omega⟩
    simp only [spec_l13Sum.l0]
    rw [if_neg (by omega)]
    congr 2
  | succ d ih =>
    intro m k hm hk
    obtain ⟨k, rfl⟩ : ∃ q, k = q + 1 := ⟨k - 1, by omega⟩
    have hl := circOk_len h
    have hg := getD_range h ((i.toNat + m) % 12)
    have hp := psum_range h i m
    have hmod : (i.toNat + m) % 12 < 12 := Nat.mod_lt _ (by omega)
    simp only [spec_l13Sum.l0]
    rw [if_pos (by omega), idx_eq hi (by omega), if_pos (by omega), if_pos (by omega), rd_getD, wrap_id (by omega), succ_wrap (by omega)]
    exact ih (m + 1) k (by omega) (by omega)
theorem spec_l13Sum_eq {l : List Int} (h : circOk l = true) {i : Int} (hi : 0 ≤ i ∧ i ≤ 11) {k n : Nat} (hn : n ≤ 100) (hk : n < k) : spec_l13Sum.f k l i (n : Int) = some (psum l i n) := by
  unfold spec_l13Sum.f
  exact spec_l13_l0 h hi n hn n 0 k (by omega) hk

theorem spec_thirds_l0 {l : List Int} (h : circOk l = true) : ∀ (d j k : Nat), j + d = 12 → d + 12 < k → spec_ThirdsOf.l0 k (tl l j) (j : Int) l = some (tl l 12) := by
  have hl := circOk_len h
  intro d
  induction d with
  | zero =>
    intro j k hj hk
    obtain ⟨k, rfl⟩ : ∃ q, k = q + 1 := ⟨k - 1, by omega⟩
    have : j = 12 := by omega
    subst this
    simp only [spec_ThirdsOf.l0]
    rw [if_neg (by omega)]
  | succ d ih =>
    intro j k hj hk
    obtain ⟨k, rfl⟩ : ∃ q, k = q + 1 := ⟨k - 1, by omega⟩
    have hs := spec_l13Sum_eq h (i := (j : Int)) (by omega) (k := k) (n := 4) (by omega) (by omega)
    rw [show ((4 : Nat) : Int) = 4 from rfl] at hs
    simp only [spec_ThirdsOf.l0]
    rw [if_pos (by omega), spec_circOk (by omega) (by omega), Option.bind_some, if_pos h, hs, Option.bind_some, if_pos (by rw [tl_length]; omega), succ_wrap (by omega), ← tl_succ]
    exact ih (j + 1) k (by omega) (by omega)
theorem spec_thirds {k : Nat} {l : List Int} (hk : l.length + 30 < k) (hl : l.length ≤ 1099511627776) : spec_ThirdsOf.f k l = some (thirds l) := by
  unfold spec_ThirdsOf.f thirds
  by_cases h : circOk l = true
  · rw [if_pos h]
    exact spec_thirds_l0 h 12 0 k (by omega) (by omega)
  · obtain ⟨k, rfl⟩ : ∃ q, k = q + 1 := ⟨k - 1, by omega⟩
    simp only [spec_ThirdsOf.l0]
    rw [if_pos (by omega), spec_circOk (by omega) hl, Option.bind_some, if_neg h, if_neg h]


theorem rdC_mid (pre rest : List S29) (p : S29) : rd_T29 (pre ++ p :: rest) ((pre.length : Nat) : Int) = p := by
  unfold rd_T29
  rw [Int.toNat_natCast, List.getD_eq_getElem?_getD, List.getElem?_append_right (Nat.le_refl _)]
  simp
theorem spr_mem : ∀ (d : Nat) (l : List Int) (n : Nat) (p : Int), ∀ x ∈ spr d l n p, x.length = l.length + d := by
  intro d
  induction d with
  | zero => intro l n p x hx; rw [spr] at hx; split at hx; rw [List.mem_singleton.1 hx]; rfl; cases hx
  | succ d ih =>
    intro l n p x hx
    rw [spr] at hx
    rcases List.mem_append.1 hx with hx | hx
    · have := ih _ _ _ x hx; rw [List.length_append, List.length_singleton] at this; omega
    · split at hx
      · have := ih _ _ _ x hx; rw [List.length_append, List.length_singleton] at this; omega
      · cases hx
theorem fam_mem {p : Int} : ∀ x ∈ fam p, x.length = 12 := by
  intro x hx
  have H : ∀ (n : Nat) (q : Int), x ∈ spr 12 [] n q → x.length = 12 := fun n q h => by have := spr_mem 12 [] n q x h; simpa using this
  unfold fam at hx
  by_cases h2 : p = 2
  · rw [if_pos h2] at hx; exact H _ _ hx
  rw [if_neg h2] at hx
  by_cases h3 : p = 3
  · rw [if_pos h3] at hx; exact H _ _ hx
  rw [if_neg h3] at hx
  by_cases h4 : p = 4
  · rw [if_pos h4] at hx; exact H _ _ hx
  rw [if_neg h4] at hx
  by_cases h6 : p = 6
  · rw [if_pos h6] at hx; exact H _ _ hx
  rw [if_neg h6] at hx
  by_cases h12 : p = 12
  · rw [if_pos h12] at hx; exact H _ _ hx
  rw [if_neg h12] at hx; cases hx
theorem famC_mem {p : Int} : ∀ c ∈ (fam p).map mkC, c.f0.length ≤ 1000 := by
  intro c hc
  obtain ⟨x, hx, rfl⟩ := List.mem_map.1 hc
  have := fam_mem x hx
  show x.length ≤ 1000
  omega

theorem spr_ok : ∀ (d : Nat) (l : List Int) (n : Nat) (p : Int), ∀ x ∈ spr d l n p, x.sum = l.sum + (n : Int) * p ∧ ∀ e ∈ x, e ∈ l ∨ e = 0 ∨ e = p := by
  intro d
  induction d with
  | zero =>
    intro l n p x hx
    rw [spr] at hx
    split at hx
    · rename_i h0
      subst h0
      rw [List.mem_singleton.1 hx]
      exact ⟨by simp, fun e he => .inl he⟩
    · cases hx
  | succ d ih =>
    intro l n p x hx
    rw [spr] at hx
    rcases List.mem_append.1 hx with hx | hx
    · obtain ⟨h1, h2⟩ := ih _ _ _ x hx
      refine ⟨by rw [h1]; simp, fun e he => ?_⟩
      rcases h2 e he with h | h | h
      · rcases List.mem_append.1 h with h | h
        · exact .inl h
        · exact .inr (.inl (List.mem_singleton.1 h))
      · exact .inr (.inl h)
      · exact .inr (.inr h)
    · split at hx
      · rename_i hn
        obtain ⟨h1, h2⟩ := ih _ _ _ x hx
        refine ⟨?_, fun e he => ?_⟩
        · rw [h1]
          obtain ⟨m, rfl⟩ : ∃ m, n = m + 1 := ⟨n - 1, by omega⟩
          have e1 : ((m + 1 : Nat) : Int) * p = (m : Int) * p + p := by rw [Int.natCast_add, Int.add_mul]; simp
          have e2 : (l ++ [p]).sum = l.sum + p := by simp
          rw [e1, e2, Nat.add_sub_cancel]; omega
        · rcases h2 e he with h | h | h
          · rcases List.mem_append.1 h with h | h
            · exact .inl h
            · exact .inr (.inr (List.mem_singleton.1 h))
          · exact .inr (.inl h)
          · exact .inr (.inr h)
      · cases hx
theorem fam_circ {p : Int} : ∀ x ∈ fam p, circOk x = true := by
  intro x hx
  have hl := fam_mem x hx
  have H : ∀ (n : Nat) (q : Int), (n : Int) * q = 12 → (0 ≤ q ∧ q ≤ 12) → x ∈ spr 12 [] n q → circOk x = true := by
    intro n q hq hq2 h
    obtain ⟨h1, h2⟩ := spr_ok 12 [] n q x h
    unfold circOk
    rw [Bool.and_eq_true, Bool.and_eq_true, List.all_eq_true, decide_eq_true_eq, beq_iff_eq]
    refine ⟨fun e he => ?_, hl, by rw [h1, hq]; rfl⟩
    rcases h2 e he with h | h | h
    · cases h
    · rw [h]; exact decide_eq_true (by omega)
    · rw [h]; exact decide_eq_true hq2
  unfold fam at hx
  by_cases h2 : p = 2
  · rw [if_pos h2] at hx; exact H _ _ (by decide) (by decide) hx
  rw [if_neg h2] at hx
  by_cases h3 : p = 3
  · rw [if_pos h3] at hx; exact H _ _ (by decide) (by decide) hx
  rw [if_neg h3] at hx
  by_cases h4 : p = 4
  · rw [if_pos h4] at hx; exact H _ _ (by decide) (by decide) hx
  rw [if_neg h4] at hx
  by_cases h6 : p = 6
  · rw [if_pos h6] at hx; exact H _ _ (by decide) (by decide) hx
  rw [if_neg h6] at hx
  by_cases h12 : p = 12
  · rw [if_pos h12] at hx; exact H _ _ (by decide) (by decide) hx
  rw [if_neg h12] at hx; cases hx
theorem famC_circ {p : Int} : ∀ c ∈ (fam p).map mkC, circOk c.f0 = true := by
  intro c hc
  obtain ⟨x, hx, rfl⟩ := List.mem_map.1 hc
  exact fam_circ x hx
def inN (n : Int) : Bool := decide (-200 ≤ n ∧ n ≤ 200)
theorem inN_small {l : List Int} (h : l.all inN = true) : Small l := by
  intro x hx
  have := of_decide_eq_true (List.all_eq_true.1 h x hx)
  omega
def dd (t c : List Int) : Int := dist (thirds c) t
def nearC (t : List Int) : List S29 → List Int → List Int
  | [], b => b
  | c :: cs, b => if dd t c.f0 < dd t b then nearC t cs c.f0 else nearC t cs b
theorem nearC_ok (t : List Int) : ∀ (cs : List S29) (b : List Int), (∀ c ∈ cs, circOk c.f0 = true) → circOk b = true → circOk (nearC t cs b) = true := by
  intro cs
  induction cs with
  | nil => intro b _ hb; exact hb
  | cons c cs ih =>
    intro b h hb
    rw [nearC]
    split
    · exact ih _ (fun x hx => h x (by simp [hx])) (h c (by simp))
    · exact ih _ (fun x hx => h x (by simp [hx])) hb
def nearR (t b : List Int) : List Int × Int × Bool := (b, dd t b, true)
def nearM (p : Int) (t : List Int) : List Int × Int × Bool :=
  match (fam p).map mkC with
  | [] => ([], 0, false)
  | c :: cs => if t.length = 12 ∧ t.all inN = true then nearR t (nearC t cs c.f0) else ([], 0, false)
theorem nearM_len (p : Int) (t : List Int) : (nearM p t).1.length ≤ 12 := by
  unfold nearM
  have H := famC_circ (p := p)
  split
  · simp
  · rename_i c cs e
    rw [e] at H
    split
    · have := circOk_len (nearC_ok t cs c.f0 (fun x hx => H x (by simp [hx])) (H c (by simp)))
      show (nearC t cs c.f0).length ≤ 12
      omega
    · simp

theorem same_iff {a b : List Int} (h : a.length = b.length) : heard_same a b a.length = true ↔ a = b := by
  unfold heard_same
  rw [List.all_eq_true]
  constructor
  · intro q
    refine List.ext_getElem h (fun i h1 h2 => ?_)
    have := q i (List.mem_range.2 h1)
    rw [beq_iff_eq, rd_getD, rd_getD, List.getD_eq_getElem?_getD, List.getD_eq_getElem?_getD, List.getElem?_eq_getElem h1, List.getElem?_eq_getElem h2] at this
    exact this
  · intro e i _
    rw [e, beq_self_eq_true]
def heardC (t : List Int) (L : List S29) : List S29 := L.filter (fun c => decide (thirds c.f0 = t))
theorem heard_l_eq {k : Nat} {t : List Int} (hk : 100 < k) (ht : t.length = 12) : ∀ (cs out : List S29), (∀ c ∈ cs, circOk c.f0 = true) → (cs.length : Nat) + out.length ≤ 100000 → heard_l k t cs out = some (out ++ heardC t cs) := by
  intro cs
  induction cs with
  | nil => intro out _ _; rw [heard_l]; simp [heardC]
  | cons c cs ih =>
    intro out h hl
    have hc := h c (by simp)
    have h12 := circOk_len hc
    have h2 := thirds_len12 hc
    have hl2 : cs.length + out.length + 1 ≤ 100000 := by simp at hl; omega
    rw [heard_l, impl_thirds (by omega) (by omega), Option.bind_some, if_neg (by omega)]
    by_cases g : thirds c.f0 = t
    · rw [if_pos ((same_iff (by omega)).2 g), if_pos (by omega), ih _ (fun x hx => h x (by simp [hx])) (by simp; omega)]
      simp [heardC, g]
    · rw [if_neg (fun q => g ((same_iff (by omega)).1 q)), ih _ (fun x hx => h x (by simp [hx])) (by omega)]
      simp [heardC, g]
def heardM (p : Int) (t : List Int) : List S29 := if t.length = 12 then heardC t ((fam p).map mkC) else []
theorem impl_heard {k : Nat} (p : Int) (t : List Int) (hk : 100 < k) : impl_CirclesHeard.f k p t = some (heardM p t) := by
  unfold impl_CirclesHeard.f heardM
  have hl := fam_len p
  by_cases h : t.length = 12
  · rw [if_neg (by omega), impl_familyOf p (by omega), Option.bind_some, if_neg (by rw [List.length_map]; omega), heard_l_eq hk h _ _ famC_circ (by rw [List.length_map]; simp; omega), if_pos h, List.nil_append]
  · rw [if_pos h, if_neg h]
theorem nearC_le (t : List Int) : ∀ (cs : List S29) (b : List Int), dd t (nearC t cs b) ≤ dd t b ∧ ∀ c ∈ cs, dd t (nearC t cs b) ≤ dd t c.f0 := by
  intro cs
  induction cs with
  | nil => intro b; exact ⟨Int.le_refl _, fun c hc => by cases hc⟩
  | cons c cs ih =>
    intro b
    rw [nearC]
    by_cases g : dd t c.f0 < dd t b
    · rw [if_pos g]
      obtain ⟨h1, h2⟩ := ih c.f0
      refine ⟨by omega, fun x hx => ?_⟩
      rcases List.mem_cons.1 hx with rfl | hx
      · exact h1
      · exact h2 x hx
    · rw [if_neg g]
      obtain ⟨h1, h2⟩ := ih b
      refine ⟨h1, fun x hx => ?_⟩
      rcases List.mem_cons.1 hx with rfl | hx
      · omega
      · exact h2 x hx
theorem nearC_mem (t : List Int) : ∀ (cs : List S29) (b : List Int), nearC t cs b = b ∨ ∃ c ∈ cs, nearC t cs b = c.f0 := by
  intro cs
  induction cs with
  | nil => intro b; exact .inl rfl
  | cons c cs ih =>
    intro b
    rw [nearC]
    by_cases g : dd t c.f0 < dd t b
    · rw [if_pos g]
      rcases ih c.f0 with h | ⟨x, hx, h⟩
      · exact .inr ⟨c, by simp, h⟩
      · exact .inr ⟨x, by simp [hx], h⟩
    · rw [if_neg g]
      rcases ih b with h | ⟨x, hx, h⟩
      · exact .inl h
      · exact .inr ⟨x, by simp [hx], h⟩
theorem dist_zero : ∀ (a b : List Int), a.length = b.length → (dist a b = 0 ↔ a = b) := by
  intro a
  induction a with
  | nil => intro b h; cases b with
    | nil => simp [dist]
    | cons y b => simp at h
  | cons x a ih =>
    intro b h
    cases b with
    | nil => simp at h
    | cons y b =>
      have h2 := ih b (by simpa using h)
      have h3 := dist_nn a b
      rw [dist, List.cons.injEq, ← h2]
      have hm : 0 ≤ mx (x - y) (y - x) := by unfold mx; split <;> omega
      have h4 : mx (x - y) (y - x) = 0 → x = y := by unfold mx; split <;> omega
      have h5 : x = y → mx (x - y) (y - x) = 0 := by unfold mx; split <;> omega
      exact ⟨fun q => ⟨h4 (by omega), by omega⟩, fun q => by have := h5 q.1; omega⟩
theorem wrap_small {x : Int} (h : -1000000 ≤ x ∧ x ≤ 1000000) : wrap64 x = x := wrap_id (by omega)
theorem tl12 (l : List Int) : tl l 12 = [psum l 0 4, psum l 1 4, psum l 2 4, psum l 3 4, psum l 4 4, psum l 5 4, psum l 6 4, psum l 7 4, psum l 8 4, psum l 9 4, psum l 10 4, psum l 11 4] := rfl
theorem parts_differ {c e : List Int} (hc : c.length = 12) (he : e.length = 12) (h : tl c 12 = tl e 12) (i : Nat) (hi : i < 12) : c.getD i 0 - e.getD i 0 = c.getD ((i + 4) % 12) 0 - e.getD ((i + 4) % 12) 0 := by
  match c, hc with
  | [c0, c1, c2, c3, c4, c5, c6, c7, c8, c9, c10, c11], _ =>
    match e, he with
    | [e0, e1, e2, e3, e4, e5, e6, e7, e8, e9, e10, e11], _ =>
      simp only [tl12, List.cons.injEq] at h
      obtain ⟨h0, h1, h2, h3, h4, h5, h6, h7, h8, h9, h10, h11, _⟩ := h
      change 0 + c0 + c1 + c2 + c3 = 0 + e0 + e1 + e2 + e3 at h0
      change 0 + c1 + c2 + c3 + c4 = 0 + e1 + e2 + e3 + e4 at h1
      change 0 + c2 + c3 + c4 + c5 = 0 + e2 + e3 + e4 + e5 at h2
      change 0 + c3 + c4 + c5 + c6 = 0 + e3 + e4 + e5 + e6 at h3
      change 0 + c4 + c5 + c6 + c7 = 0 + e4 + e5 + e6 + e7 at h4
      change 0 + c5 + c6 + c7 + c8 = 0 + e5 + e6 + e7 + e8 at h5
      change 0 + c6 + c7 + c8 + c9 = 0 + e6 + e7 + e8 + e9 at h6
      change 0 + c7 + c8 + c9 + c10 = 0 + e7 + e8 + e9 + e10 at h7
      change 0 + c8 + c9 + c10 + c11 = 0 + e8 + e9 + e10 + e11 at h8
      change 0 + c9 + c10 + c11 + c0 = 0 + e9 + e10 + e11 + e0 at h9
      change 0 + c10 + c11 + c0 + c1 = 0 + e10 + e11 + e0 + e1 at h10
      change 0 + c11 + c0 + c1 + c2 = 0 + e11 + e0 + e1 + e2 at h11
      have hh : i = 0 ∨ i = 1 ∨ i = 2 ∨ i = 3 ∨ i = 4 ∨ i = 5 ∨ i = 6 ∨ i = 7 ∨ i = 8 ∨ i = 9 ∨ i = 10 ∨ i = 11 := by omega
      rcases hh with rfl | rfl | rfl | rfl | rfl | rfl | rfl | rfl | rfl | rfl | rfl | rfl
      · show c0 - e0 = c4 - e4; omega
      · show c1 - e1 = c5 - e5; omega
      · show c2 - e2 = c6 - e6; omega
      · show c3 - e3 = c7 - e7; omega
      · show c4 - e4 = c8 - e8; omega
      · show c5 - e5 = c9 - e9; omega
      · show c6 - e6 = c10 - e10; omega
      · show c7 - e7 = c11 - e11; omega
      · show c8 - e8 = c0 - e0; omega
      · show c9 - e9 = c1 - e1; omega
      · show c10 - e10 = c2 - e2; omega
      · show c11 - e11 = c3 - e3; omega

theorem spec_same_l0 : ∀ (ra rb pa pb : List Int) (k : Nat), pa.length = pb.length → ra.length = rb.length → ra.length < k → pa.length + ra.length ≤ 1000 → spec_l15Same.l0 k (pa ++ ra) (pb ++ rb) ((pa.length : Nat) : Int) = some (decide (ra = rb)) := by
  intro ra
  induction ra with
  | nil =>
    intro rb pa pb k hp hl hk _
    obtain ⟨k, rfl⟩ : ∃ m, k = m + 1 := ⟨k - 1, by omega⟩
    cases rb with
    | nil => rw [spec_l15Same.l0, if_neg (by simp)]; rfl
    | cons y rb => simp at hl
  | cons x ra ih =>
    intro rb pa pb k hp hl hk hb
    obtain ⟨k, rfl⟩ : ∃ m, k = m + 1 := ⟨k - 1, by omega⟩
    cases rb with
    | nil => simp at hl
    | cons y rb =>
      rw [List.length_cons] at hk hb
      have hl2 : ra.length = rb.length := by simpa using hl
      have h1 : ((pa ++ x :: ra).length : Int) = (pa.length : Int) + (ra.length : Int) + 1 := by simp; omega
      have h2 : ((pb ++ y :: rb).length : Int) = (pa.length : Int) + (ra.length : Int) + 1 := by simp; omega
      have r2 : rd (pb ++ y :: rb) ((pa.length : Nat) : Int) = y := by rw [hp]; exact rd_mid _ _ _
      rw [spec_l15Same.l0, if_pos (by rw [h1]; omega), if_pos (by omega), if_pos (by rw [h2]; omega), rd_mid, r2]
      by_cases g : x = y
      · subst g
        have e := ih rb (pa ++ [x]) (pb ++ [x]) k (by simp; omega) hl2 (by omega) (by simp; omega)
        have e2 : (((pa ++ [x]).length : Nat) : Int) = ((pa.length + 1 : Nat) : Int) := by simp
        rw [List.append_assoc, List.append_assoc, List.singleton_append, List.singleton_append, e2] at e
        rw [if_pos rfl, succ_wrap (by omega), e]
        congr 1; simp
      · rw [if_neg g, decide_eq_false (by intro q; injection q with q1 _; exact g q1)]
theorem spec_same {a b : List Int} {k : Nat} (hl : a.length = b.length) (hk : a.length < k) (hb : a.length ≤ 1000) : spec_l15Same.f k a b = some (decide (a = b)) := by
  unfold spec_l15Same.f
  rw [if_pos (by omega)]
  have e := spec_same_l0 a b [] [] k rfl hl hk (by simp; omega)
  rwa [List.nil_append, List.nil_append] at e
theorem spec_heard_l0 {t : List Int} (ht : t.length = 12) : ∀ (rest pre out : List S29) (k : Nat), 2 * rest.length + 200 < k → pre.length + rest.length ≤ 10000 → out.length + rest.length ≤ 10000 → (∀ c ∈ rest, circOk c.f0 = true) →
    spec_CirclesHeard.l0 k t out (pre ++ rest) ((pre.length : Nat) : Int) = some (out ++ heardC t rest) := by
  have h12 : (((t.length : Nat) : Int) == 12) = true := by rw [ht]; rfl
  intro rest
  induction rest with
  | nil =>
    intro pre out k hk _ _ _
    obtain ⟨k, rfl⟩ : ∃ m, k = m + 2 := ⟨k - 2, by omega⟩
    rw [spec_CirclesHeard.l0, if_neg (by simp), spec_CirclesHeard.j1, if_neg (by decide)]
    simp [heardC]
  | cons c rest ih =>
    intro pre out k hk hl ho hc
    obtain ⟨k, rfl⟩ : ∃ m, k = m + 2 := ⟨k - 2, by omega⟩
    rw [List.length_cons] at hk hl ho
    have oc := hc c (by simp)
    have c12 := circOk_len oc
    have t12 := thirds_len12 oc
    have hlen : ((pre ++ c :: rest).length : Int) = (pre.length : Int) + (rest.length : Int) + 1 := by simp; omega
    have e2 : (((pre ++ [c]).length : Nat) : Int) = ((pre.length + 1 : Nat) : Int) := by simp
    rw [spec_CirclesHeard.l0, if_pos (by rw [hlen]; omega), h12, spec_CirclesHeard.j1, if_pos rfl, if_pos (by omega), if_pos (by rw [hlen]; omega), rdC_mid, spec_thirds (by omega) (by omega), Option.bind_some, spec_same (by omega) (by omega) (by omega), Option.bind_some]
    by_cases g : thirds c.f0 = t
    · rw [if_pos (decide_eq_true g), if_pos (by omega), succ_wrap (by omega)]
      have e := ih (pre ++ [c]) (out ++ [c]) k (by omega) (by simp; omega) (by simp; omega) (fun x hx => hc x (by simp [hx]))
      rw [List.append_assoc, List.singleton_append, e2] at e
      rw [show (out ++ [(⟨c.f0⟩ : S29)]) = out ++ [c] from rfl, e]
      simp [heardC, g]
    · rw [if_neg (by simp [g]), succ_wrap (by omega)]
      have e := ih (pre ++ [c]) out k (by omega) (by simp; omega) (by omega) (fun x hx => hc x (by simp [hx]))
      rw [List.append_assoc, List.singleton_append, e2] at e
      rw [e]
      simp [heardC, g]
theorem spec_heard {k : Nat} (p : Int) (t : List Int) (hk : 20000 < k) : spec_CirclesHeard.f k p t = some (heardM p t) := by
  unfold spec_CirclesHeard.f heardM
  have hl := fam_len p
  have H := famC_circ (p := p)
  have hL : ((fam p).map mkC).length ≤ 4096 := by rw [List.length_map]; exact hl
  rw [spec_familyOf p (by omega), Option.bind_some]
  generalize (fam p).map mkC = L at H hL
  by_cases h : t.length = 12
  · rw [if_pos h]
    have e := spec_heard_l0 h L [] [] k (by omega) (by simp; omega) (by simp; omega) H
    rwa [List.nil_append, List.nil_append] at e
  · rw [if_neg h]
    have h12 : (((t.length : Nat) : Int) == 12) = false := by simp; omega
    obtain ⟨k, rfl⟩ : ∃ m, k = m + 2 := ⟨k - 2, by omega⟩
    rw [spec_CirclesHeard.l0, h12, ite_self, spec_CirclesHeard.j1, if_neg (by decide)]
theorem heardM_len (p : Int) (t : List Int) : (heardM p t).length ≤ 4096 := by
  unfold heardM
  split
  · exact Nat.le_trans (List.length_filter_le _ _) (by rw [List.length_map]; exact fam_len p)
  · exact Nat.zero_le _

def mk : Int → Nat → List Int
  | _, 0 => []
  | m, n + 1 => m :: mk (m + 1) n
theorem mk_length (m : Int) (n : Nat) : (mk m n).length = n := by
  induction n generalizing m with
  | zero => rfl
  | succ n ih => simp [mk, ih]
theorem markIntS_l0 : ∀ (rest pre : List Int) (m : Int) (k : Nat), rest.length < k → (pre ++ rest).length ≤ 1099511627776 → 0 ≤ m → m + rest.length ≤ 1099511627776 →
    laws_markIntS.l0 k (pre ++ rest) m (pre.length : Int) = some (m + rest.length, pre ++ mk m rest.length) := by
  intro rest
  induction rest with
  | nil =>
    intro pre m k hk _ _ _
    obtain ⟨k, rfl⟩ : ∃ m, k = m + 1 := ⟨k - 1, by simp at hk; omega⟩
    simp only [laws_markIntS.l0]
    rw [if_neg (by simp)]
    simp [mk]
  | cons p rest ih =>
    intro pre m k hk hl hm hm2
    obtain ⟨k, rfl⟩ : ∃ m, k = m + 1 := ⟨k - 1, by simp at hk; omega⟩
    simp only [List.length_cons] at hm2
    simp only [laws_markIntS.l0]
    rw [if_pos (by simp; omega), if_pos (by omega), wrap_id (x := m + 1) (by omega), succ_wrap (by simp at hl; omega)]
    have e : (pre ++ p :: rest).set ((pre.length : Int)).toNat m = (pre ++ [m]) ++ rest := by simp
    rw [e]
    have := ih (pre ++ [m]) (m + 1) k (by simp at hk; omega) (by simp at hl ⊢; omega) (by omega) (by omega)
    have e2 : ((pre ++ [m]).length : Int) = ((pre.length + 1 : Nat) : Int) := by simp
    rw [e2] at this
    rw [this]
    simp [mk]; omega
theorem markIntS_eq {k : Nat} {l : List Int} {m : Int} (hk : l.length < k) (hm : 0 ≤ m) (hl : m + l.length ≤ 1099511627776) : laws_markIntS.f k l m = some (m + l.length, mk m l.length) := by
  unfold laws_markIntS.f
  have := markIntS_l0 l [] m k hk (by simp; omega) hm hl
  simpa using this
theorem heldIntS_l0 : ∀ (n : Nat) (pre : List Int) (m : Int) (k : Nat), n < k → pre.length + n ≤ 1099511627776 → 0 ≤ m → m + n ≤ 1099511627776 →
    laws_heldIntS.l0 k (pre ++ mk m n) m (pre.length : Int) = some (m + n) := by
  intro n
  induction n with
  | zero =>
    intro pre m k hk _ _ _
    obtain ⟨k, rfl⟩ : ∃ m, k = m + 1 := ⟨k - 1, by omega⟩
    rw [show mk m 0 = [] from rfl]
    simp only [laws_heldIntS.l0]
    rw [if_neg (by simp)]
    simp
  | succ n ih =>
    intro pre m k hk hl hm hm2
    obtain ⟨k, rfl⟩ : ∃ m, k = m + 1 := ⟨k - 1, by omega⟩
    rw [show mk m (n + 1) = m :: mk (m + 1) n from rfl]
    simp only [laws_heldIntS.l0]
    rw [if_pos (by simp; omega), if_pos (by omega), rd_mid, if_pos rfl, wrap_id (x := m + 1) (by omega), succ_wrap (by omega)]
    have := ih (pre ++ [m]) (m + 1) k (by omega) (by simp; omega) (by omega) (by omega)
    have e2 : ((pre ++ [m]).length : Int) = ((pre.length + 1 : Nat) : Int) := by simp
    have e3 : pre ++ [m] ++ mk (m + 1) n = pre ++ m :: mk (m + 1) n := by simp
    rw [e2, e3] at this
    rw [this]
    congr 1; omega
theorem heldIntS_eq {k n : Nat} {m : Int} (hk : n < k) (hm : 0 ≤ m) (hl : m + n ≤ 1099511627776) : laws_heldIntS.f k (mk m n) m = some (m + n) := by
  unfold laws_heldIntS.f
  have := heldIntS_l0 n [] m k hk (by simp; omega) hm hl
  simpa using this

theorem eqIntS_l0 : ∀ (rest pre : List Int) (k : Nat), rest.length < k → (pre ++ rest).length ≤ 1099511627776 → laws_eqIntS.l0 k (pre ++ rest) (pre ++ rest) (pre.length : Int) = some true := by
  intro rest
  induction rest with
  | nil =>
    intro pre k hk _
    obtain ⟨k, rfl⟩ : ∃ m, k = m + 1 := ⟨k - 1, by simp at hk; omega⟩
    simp only [laws_eqIntS.l0]
    rw [if_neg (by simp)]
  | cons p rest ih =>
    intro pre k hk hl
    obtain ⟨k, rfl⟩ : ∃ m, k = m + 1 := ⟨k - 1, by simp at hk; omega⟩
    simp only [laws_eqIntS.l0]
    rw [if_pos (by simp; omega), if_pos (by omega), if_pos (by simp; omega), if_pos trivial, succ_wrap (by simp at hl; omega)]
    have := ih (pre ++ [p]) k (by simp at hk; omega) (by simp at hl ⊢; omega)
    simpa using this
theorem eqIntS_refl {k : Nat} {l : List Int} (hk : l.length < k) (hl : l.length ≤ 1099511627776) : laws_eqIntS.f k l l = some true := by
  unfold laws_eqIntS.f
  rw [if_pos rfl]
  have := eqIntS_l0 l [] k hk (by simpa using hl)
  simpa using this

theorem eqCircle_refl {k : Nat} {l : List Int} (hk : l.length < k) (hl : l.length ≤ 1099511627776) : laws_eqCircle.f k l l = some true := by
  unfold laws_eqCircle.f
  rw [eqIntS_refl hk hl]; rfl

theorem spr_row : ∀ (d : Nat) (l : List Int) (n : Nat) (p : Int), ∀ x ∈ spr d l n p, x.length = l.length + d := by
  intro d
  induction d with
  | zero =>
    intro l n p x hx
    rw [spr] at hx
    split at hx
    · rw [List.mem_singleton.1 hx]; rfl
    · cases hx
  | succ d ih =>
    intro l n p x hx
    rw [spr] at hx
    rcases List.mem_append.1 hx with hx | hx
    · have := ih _ _ _ x hx; simp at this; omega
    · split at hx
      · have := ih _ _ _ x hx; simp at this; omega
      · cases hx
theorem fam_row {p : Int} : ∀ x ∈ fam p, x.length = 12 := by
  have H : ∀ (n : Nat) (q : Int), ∀ x ∈ spr 12 [] n q, x.length = 12 := fun n q x hx => by have := spr_row 12 [] n q x hx; simpa using this
  unfold fam
  by_cases h2 : p = 2
  · rw [if_pos h2]; exact H 6 2
  rw [if_neg h2]
  by_cases h3 : p = 3
  · rw [if_pos h3]; exact H 4 3
  rw [if_neg h3]
  by_cases h4 : p = 4
  · rw [if_pos h4]; exact H 3 4
  rw [if_neg h4]
  by_cases h6 : p = 6
  · rw [if_pos h6]; exact H 2 6
  rw [if_neg h6]
  by_cases h12 : p = 12
  · rw [if_pos h12]; exact H 1 12
  rw [if_neg h12]
  intro x hx; cases hx
theorem famC_row {p : Int} : ∀ c ∈ (fam p).map mkC, c.f0.length = 12 := by
  intro c hc
  obtain ⟨x, hx, rfl⟩ := List.mem_map.1 hc
  exact fam_row x hx
def mkS : Int → List S29 → List S29
  | _, [] => []
  | m, c :: cs => ⟨mk m 12⟩ :: mkS (m + 12) cs
theorem mkS_length : ∀ (m : Int) (cs : List S29), (mkS m cs).length = cs.length
  | _, [] => rfl
  | m, c :: cs => by rw [mkS, List.length_cons, List.length_cons, mkS_length]
theorem rdS_mid (pre rest : List S29) (p : S29) : rd_T29 (pre ++ p :: rest) ((pre.length : Nat) : Int) = p := by
  unfold rd_T29
  simp [List.getD]
theorem marks_eq {k : Nat} (hk : 12 < k) : ∀ (cs done : List S29) (m : Int), (∀ c ∈ cs, c.f0.length = 12) → 0 ≤ m → m + 12 * (cs.length : Int) ≤ 1000000 → marks_l k done cs m = some (m + 12 * (cs.length : Int), done ++ mkS m cs) := by
  intro cs
  induction cs with
  | nil => intro done m _ _ _; rw [marks_l, mkS, List.append_nil]; simp
  | cons c cs ih =>
    intro done m hc h0 h1
    have hl := hc c (by simp)
    rw [List.length_cons] at h1 ⊢
    rw [marks_l, markIntS_eq (by omega) h0 (by rw [hl]; omega), Option.bind_some]
    dsimp only
    rw [hl]
    have e := ih (done ++ [⟨mk m 12⟩]) (m + 12) (fun x hx => hc x (by simp [hx])) (by omega) (by omega)
    rw [show m + ((12 : Nat) : Int) = m + 12 from rfl, e, mkS, List.append_assoc, List.singleton_append]
    congr 2; omega
theorem markCircleS_eq {k : Nat} (hk : 12 < k) {cs : List S29} (hc : ∀ c ∈ cs, c.f0.length = 12) (hl : cs.length ≤ 10000) : laws_markCircleS.f k cs 1 = some (1 + 12 * (cs.length : Int), mkS 1 cs) := by
  unfold laws_markCircleS.f
  rw [if_neg (by omega), marks_eq hk cs [] 1 hc (by omega) (by omega), List.nil_append]
theorem heldS_l0 : ∀ (cs pre : List S29) (m : Int) (k : Nat), cs.length + 20 < k → pre.length + cs.length ≤ 10000 → 0 ≤ m → m + 12 * (cs.length : Int) ≤ 1000000 → laws_heldCircleS.l0 k (pre ++ mkS m cs) m ((pre.length : Nat) : Int) = some (m + 12 * (cs.length : Int)) := by
  intro cs
  induction cs with
  | nil =>
    intro pre m k hk _ _ _
    obtain ⟨k, rfl⟩ : ∃ q, k = q + 1 := ⟨k - 1, by omega⟩
    rw [mkS, laws_heldCircleS.l0, if_neg (by simp)]
    simp
  | cons c cs ih =>
    intro pre m k hk hl h0 h1
    obtain ⟨k, rfl⟩ : ∃ q, k = q + 1 := ⟨k - 1, by omega⟩
    rw [List.length_cons] at hk hl h1 ⊢
    have e := ih (pre ++ [⟨mk m 12⟩]) (m + 12) k (by omega) (by simp; omega) (by omega) (by omega)
    have e2 : (((pre ++ [(⟨mk m 12⟩ : S29)]).length : Nat) : Int) = ((pre.length + 1 : Nat) : Int) := by simp
    rw [List.append_assoc, List.singleton_append, e2] at e
    have hh := heldIntS_eq (k := k) (n := 12) (m := m) (by omega) h0 (by omega)
    have hlen : ((pre ++ mkS m (c :: cs)).length : Int) = (pre.length : Int) + (cs.length : Int) + 1 := by rw [List.length_append, mkS_length, List.length_cons]; omega
    rw [laws_heldCircleS.l0, if_pos (by rw [hlen]; omega), if_pos (by omega), mkS, rdS_mid, hh, Option.bind_some, if_neg (by omega), succ_wrap (by omega), show m + ((12 : Nat) : Int) = m + 12 from rfl, e]
    congr 1; omega
theorem heldCircleS_eq {k : Nat} {cs : List S29} (hk : cs.length + 20 < k) (hl : cs.length ≤ 10000) : laws_heldCircleS.f k (mkS 1 cs) 1 = some (1 + 12 * (cs.length : Int)) := by
  unfold laws_heldCircleS.f
  have e := heldS_l0 cs [] 1 k hk (by simp; omega) (by omega) (by omega)
  rwa [List.nil_append] at e
theorem eqS_l0 : ∀ (rest pre : List S29) (k : Nat), rest.length + 20 < k → pre.length + rest.length ≤ 10000 → (∀ c ∈ rest, c.f0.length = 12) → laws_eqCircleS.l0 k (pre ++ rest) (pre ++ rest) ((pre.length : Nat) : Int) = some true := by
  intro rest
  induction rest with
  | nil =>
    intro pre k hk _ _
    obtain ⟨k, rfl⟩ : ∃ q, k = q + 1 := ⟨k - 1, by omega⟩
    rw [laws_eqCircleS.l0, if_neg (by simp)]
  | cons c rest ih =>
    intro pre k hk hl hc
    obtain ⟨k, rfl⟩ : ∃ q, k = q + 1 := ⟨k - 1, by omega⟩
    rw [List.length_cons] at hk hl
    have h12 := hc c (by simp)
    have e := ih (pre ++ [c]) k (by omega) (by simp; omega) (fun x hx => hc x (by simp [hx]))
    have e2 : (((pre ++ [c]).length : Nat) : Int) = ((pre.length + 1 : Nat) : Int) := by simp
    rw [List.append_assoc, List.singleton_append, e2] at e
    have hlen : ((pre ++ c :: rest).length : Int) = (pre.length : Int) + (rest.length : Int) + 1 := by simp; omega
    rw [laws_eqCircleS.l0, if_pos (by rw [hlen]; omega), if_pos (by omega), if_pos (by rw [hlen]; omega), rdS_mid, eqCircle_refl (by omega) (by omega), Option.bind_some, if_pos rfl, succ_wrap (by omega), e]
theorem eqCircleS_refl {k : Nat} {cs : List S29} (hk : cs.length + 20 < k) (hl : cs.length ≤ 10000) (hc : ∀ c ∈ cs, c.f0.length = 12) : laws_eqCircleS.f k cs cs = some true := by
  unfold laws_eqCircleS.f
  rw [if_pos rfl]
  have e := eqS_l0 cs [] k hk (by simp; omega) hc
  rwa [List.nil_append] at e

theorem toIntS_l0 : ∀ (rest pre : List Int) (k : Nat), rest.length < k → (pre ++ rest).length ≤ 1099511627776 → laws_toIntS.l0 k (pre ++ rest) (pre ++ List.replicate rest.length 0) (pre.length : Int) = some (pre ++ rest) := by
  intro rest
  induction rest with
  | nil =>
    intro pre k hk _
    obtain ⟨k, rfl⟩ : ∃ m, k = m + 1 := ⟨k - 1, by simp at hk; omega⟩
    simp only [laws_toIntS.l0]
    rw [if_neg (by simp)]
    simp
  | cons p rest ih =>
    intro pre k hk hl
    obtain ⟨k, rfl⟩ : ∃ m, k = m + 1 := ⟨k - 1, by simp at hk; omega⟩
    simp only [laws_toIntS.l0]
    rw [if_pos (by simp; omega), if_pos (by omega), if_pos (by simp; omega), rd_mid, succ_wrap (by simp at hl; omega)]
    have e : (pre ++ List.replicate (p :: rest).length 0).set ((pre.length : Int)).toNat p = (pre ++ [p]) ++ List.replicate rest.length 0 := by
      simp [List.replicate_succ]
    rw [e]
    have := ih (pre ++ [p]) k (by simp at hk; omega) (by simp at hl ⊢; omega)
    simpa using this
theorem toIntS_eq {k : Nat} {l : List Int} (hk : l.length < k) (hl : l.length ≤ 1099511627776) : laws_toIntS.f k l = some l := by
  unfold laws_toIntS.f
  rw [if_pos (by omega), if_pos (by omega)]
  have := toIntS_l0 l [] k hk (by simp; omega)
  simpa using this

theorem heardM_row (p : Int) (t : List Int) : ∀ c ∈ heardM p t, c.f0.length = 12 := by
  intro c hc
  unfold heardM at hc
  by_cases h : t.length = 12
  · rw [if_pos h] at hc
    exact famC_row c (List.mem_filter.1 hc).1
  · rw [if_neg h] at hc; cases hc
theorem FnExactCirclesHeard : laws_FnExactCirclesHeard.Pure := by
  intro p l _ _ _ _
  obtain ⟨K, hK⟩ : ∃ K : Nat, K = 1200000 := ⟨_, rfl⟩
  refine ⟨K, ?_⟩
  unfold laws_FnExactCirclesHeard.f
  by_cases hb : (l.length : Int) > 1048576
  · rw [if_pos hb]
  have hL := heardM_len p l
  have hR := heardM_row p l
  rw [if_neg hb, toIntS_eq (by omega) (by omega), Option.bind_some, spec_heard p l (by omega), Option.bind_some, impl_heard p l (by omega), Option.bind_some]
  generalize heardM p l = L at hL hR
  rw [eqCircleS_refl (by omega) (by omega) hR, Option.bind_some, if_pos rfl, eqIntS_refl (by omega) (by omega), Option.bind_some, if_pos rfl, markIntS_eq (by omega) (by omega) (by omega), Option.bind_some]
  dsimp only
  rw [if_neg (by omega), markCircleS_eq (by omega) hR (by omega), Option.bind_some]
  dsimp only
  rw [heldCircleS_eq (by omega) (by omega), Option.bind_some, if_neg (by omega), if_pos rfl]

end Go.Proofs.Ytdcpbnddnbeofaa.Pure
