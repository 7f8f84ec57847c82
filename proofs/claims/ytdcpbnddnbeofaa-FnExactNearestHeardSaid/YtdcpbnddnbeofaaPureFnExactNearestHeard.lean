/- The law FnExactNearestHeard over numbers and lists alone: the program's NearestHeard and the reference's give one answer of its own memory, and the thirds stay as they were. Conditions: none. -/
import Derived.Test.YtdcpbnddnbeofaaQFnExactNearestHeardx6
import Derived.Test.YtdcpbnddnbeofaaVFnExactNearestHearda
namespace Go.Proofs.Ytdcpbnddnbeofaa.Pure
open Go.RowKit Go.Proofs.Ytdcpbnddnbeofaa.PFnExactNearestHeard Go.Proofs.YtdcpbnddnbeofaaW.PrintWords Go.Proofs.YtdcpbnddnbeofaaW.PrintLast Go.Proofs.YtdcpbnddnbeofaaW.PrintMore
set_option linter.unusedVariables false
set_option linter.unusedSimpArgs false

theorem wrap_id {x : Int} (h : -4611686018427387904 ≤ x ∧ x ≤ 4611686018427387904) : wrap64 x = x := by
  unfold wrap64; omega

theorem rd_mid (pre rest : List Int) (p : Int) : rd (pre ++ p :: rest) ((pre.length : Nat) : Int) = p := by
  unfold rd
  simp [List.getD]
theorem rd_getD (l : List Int) (i : Nat) : rd l (i : Int) = l.getD i 0 := by unfold rd; simp
theorem succ_wrap {n : Nat} (h : n ≤ 1099511627776) : wrap64 ((n : Int) + 1) = ((n + 1 : Nat) : Int) := by
  rw [wrap_id (by omega)]; omega
theorem split_at {α : Type} (l : List α) (i : Nat) (h : i ≤ l.length) : ∃ pre rest, l = pre ++ rest ∧ pre.length = i := ⟨l.take i, l.drop i, (List.take_append_drop i l).symm, by simp; omega⟩

def spr : Nat → List Int → Nat → Int → List (List Int)
  | 0, l, n, _ => if n = 0 then [l] else []
  | d + 1, l, n, p => spr d (l ++ [0]) n p ++ (if 0 < n then spr d (l ++ [p]) (n - 1) p else [])
def mkC (l : List Int) : S29 := ⟨l⟩
theorem spr_nil : ∀ (d : Nat) (l : List Int) (n : Nat) (p : Int), d < n → spr d l n p = [] := by
  intro d
  induction d with
  | zero => intro l n p h; rw [spr, if_neg (by omega)]
  | succ d ih => intro l n p h; rw [spr, ih _ _ _ (by omega), if_pos (by omega), ih _ _ _ (by omega)]; rfl
theorem spr_len : ∀ (d : Nat) (l : List Int) (n : Nat) (p : Int), (spr d l n p).length ≤ 2 ^ d := by
  intro d
  induction d with
  | zero => intro l n p; rw [spr]; split <;> simp
  | succ d ih =>
    intro l n p
    rw [spr, List.length_append, Nat.pow_succ]
    have h1 := ih (l ++ [0]) n p
    split
    · have h2 := ih (l ++ [p]) (n - 1) p
      omega
    · simp; omega
theorem impl_spread_eq : ∀ (d k : Nat) (l : List Int) (n : Nat) (p : Int) (xs : List S29), l.length + d = 12 → n ≤ 12 → d < k → xs.length + 2 ^ d ≤ 1000000 → impl_spread.f k l (n : Int) p xs = some (xs ++ (spr d l n p).map mkC) := by
  intro d
  induction d with
  | zero =>
    intro k l n p xs hl hn hk hx
    obtain ⟨k, rfl⟩ : ∃ m, k = m + 1 := ⟨k - 1, by omega⟩
    rw [impl_spread.f, if_pos (by omega), spr]
    by_cases h : n = 0
    · rw [if_pos (by omega), if_pos (by simp at hx; omega), if_pos h]; rfl
    · rw [if_neg (by omega), if_neg h]; simp
  | succ d ih =>
    intro k l n p xs hl hn hk hx
    obtain ⟨k, rfl⟩ : ∃ m, k = m + 1 := ⟨k - 1, by omega⟩
    rw [impl_spread.f, if_neg (by omega)]
    rw [Nat.pow_succ] at hx
    by_cases h : d + 1 < n
    · rw [if_pos (by omega), spr_nil _ _ _ _ h]; simp
    · have h1 := spr_len d (l ++ [0]) n p
      rw [if_neg (by omega), ih k (l ++ [0]) n p xs (by simp; omega) hn (by omega) (by omega), Option.bind_some, spr]
      by_cases h2 : 0 < n
      · rw [if_pos (by omega), if_pos h2, show (n : Int) - 1 = ((n - 1 : Nat) : Int) by omega, ih k (l ++ [p]) (n - 1) p _ (by simp; omega) (by omega) (by omega) (by rw [List.length_append, List.length_map]; omega)]
        rw [List.map_append, List.append_assoc]
      · rw [if_neg (by omega), if_neg h2, List.append_nil]
def fam (p : Int) : List (List Int) := if p = 2 then spr 12 [] 6 2 else if p = 3 then spr 12 [] 4 3 else if p = 4 then spr 12 [] 3 4 else if p = 6 then spr 12 [] 2 6 else if p = 12 then spr 12 [] 1 12 else []
theorem pow12 : 2 ^ 12 ≤ 4096 := by decide
theorem fam_len (p : Int) : (fam p).length ≤ 4096 := by
  have H : ∀ (n : Nat) (q : Int), (spr 12 [] n q).length ≤ 4096 := fun n q => Nat.le_trans (spr_len 12 [] n q) pow12
  unfold fam
  by_cases h2 : p = 2
  · rw [if_pos h2]; exact H 6 2
  rw [if_neg h2]
  by_cases h3 : p = 3
  · rw [if_pos h3]; exact H 4 3
  rw [if_neg h3]
  by_cases h4 : p = 4
  · rw [if_pos h4]; exact H 3 4
  rw [if_neg h4]
  by_cases h6 : p = 6
  · rw [if_pos h6]; exact H 2 6
  rw [if_neg h6]
  by_cases h12 : p = 12
  · rw [if_pos h12]; exact H 1 12
  rw [if_neg h12]; exact Nat.zero_le _
theorem impl_familyOf {k : Nat} (p : Int) (hk : 12 < k) : impl_FamilyOf.f k p = some ((fam p).map mkC) := by
  unfold impl_FamilyOf.f fam
  have H : ∀ (n : Nat) (q : Int), n ≤ 12 → impl_spread.f k [] (n : Int) q [] = some ((spr 12 [] n q).map mkC) := by
    intro n q hn
    rw [impl_spread_eq 12 k [] n q [] (by simp) hn hk (by simp)]; rfl
  by_cases h2 : p = 2
  · subst h2; exact H 6 2 (by omega)
  by_cases h3 : p = 3
  · subst h3; exact H 4 3 (by omega)
  by_cases h4 : p = 4
  · subst h4; exact H 3 4 (by omega)
  by_cases h6 : p = 6
  · subst h6; exact H 2 6 (by omega)
  by_cases h12 : p = 12
  · subst h12; exact H 1 12 (by omega)
  rw [if_neg (by omega), if_neg h2, if_neg h3, if_neg h4, if_neg h6, if_neg h12]; rfl

theorem l01In_eq (a b c : Int) : spec_l01In.f a b c = some (decide (b ≤ a ∧ a ≤ c)) := by
  unfold spec_l01In.f
  by_cases h : b ≤ a <;> simp [h]
theorem within_eq (a b c : Int) : impl_within.f a b c = some (decide (b ≤ a ∧ a ≤ c)) := by
  unfold impl_within.f
  by_cases h : b ≤ a <;> simp [h]

theorem spec_copy {l : List Int} (h : l.length ≤ 1000) : spec_l02Copy.f l = some l := by
  unfold spec_l02Copy.f
  rw [Option.bind_some, if_pos (by simp; omega)]; rfl
theorem spec_family_eq {p : Int} (hp : 1 ≤ p ∧ p ≤ 12) : ∀ (d k : Nat) (l : List Int) (n : Nat), l.length + d = 12 → n ≤ 12 → d < k → spec_l14Family.f k p l ((n : Int) * p) = some ((spr d l n p).map mkC) := by
  intro d
  induction d with
  | zero =>
    intro k l n hl hn hk
    obtain ⟨k, rfl⟩ : ∃ m, k = m + 1 := ⟨k - 1, by omega⟩
    rw [spec_l14Family.f, if_pos (by omega), spr]
    by_cases h : n = 0
    · subst h
      rw [if_neg (by simp), spec_copy (by omega), Option.bind_some, if_pos rfl]; rfl
    · have : 0 < (n : Int) * p := Int.mul_pos (by omega) (by omega)
      rw [if_pos (by omega), if_neg h]; rfl
  | succ d ih =>
    intro k l n hl hn hk
    obtain ⟨k, rfl⟩ : ∃ m, k = m + 1 := ⟨k - 1, by omega⟩
    have q1 := spr_len d (l ++ [0]) n p
    have q2 := spr_len d (l ++ [p]) (n - 1) p
    have q3 : 2 ^ d ≤ 2 ^ 12 := Nat.pow_le_pow_right (by decide) (by omega)
    have q4 : 2 ^ 12 = 4096 := by decide
    rw [spec_l14Family.f, if_neg (by omega), spec_copy (by omega), Option.bind_some, if_pos (by omega), ih k (l ++ [0]) n (by simp; omega) hn (by omega), Option.bind_some, spr]
    by_cases h2 : 0 < n
    · have e : (n : Int) * p - p = ((n - 1 : Nat) : Int) * p := by
        rw [show ((n - 1 : Nat) : Int) = (n : Int) - 1 by omega, Int.sub_mul, Int.one_mul]
      have m1 : 0 ≤ ((n - 1 : Nat) : Int) * p := Int.mul_nonneg (by omega) (by omega)
      have m2 : ((n - 1 : Nat) : Int) * p ≤ 12 * 12 := Int.mul_le_mul (by omega) (by omega) (by omega) (by omega)
      rw [if_pos (by omega), Option.bind_some, if_pos (by omega), wrap_id (by omega), e, ih k (l ++ [p]) (n - 1) (by simp; omega) (by omega) (by omega), Option.bind_some, if_pos (by rw [List.length_map, List.length_map]; omega), if_pos h2, List.map_append]
    · have h0 : n = 0 := by omega
      subst h0
      rw [if_neg (by simp; omega), if_neg (by omega), List.append_nil]
theorem spec_familyOf {k : Nat} (p : Int) (hk : 12 < k) : spec_FamilyOf.f k p = some ((fam p).map mkC) := by
  unfold spec_FamilyOf.f fam
  rw [l01In_eq, Option.bind_some]
  have H : ∀ (n : Nat) (q : Int), n ≤ 12 → (1 ≤ q ∧ q ≤ 12) → (n : Int) * q = 12 → ((spec_l14Family.f k q (([] : List Int)) 12).bind fun t => some t) = some ((spr 12 [] n q).map mkC) := by
    intro n q hn hq e
    rw [← e, spec_family_eq hq 12 k [] n (by simp) hn hk]; rfl
  by_cases h : 2 ≤ p ∧ p ≤ 12
  · rw [if_pos (decide_eq_true h), if_neg (by omega)]
    have hp : p = 2 ∨ p = 3 ∨ p = 4 ∨ p = 5 ∨ p = 6 ∨ p = 7 ∨ p = 8 ∨ p = 9 ∨ p = 10 ∨ p = 11 ∨ p = 12 := by omega
    rcases hp with rfl | rfl | rfl | rfl | rfl | rfl | rfl | rfl | rfl | rfl | rfl
    · rw [if_pos (by decide), H 6 2 (by omega) (by omega) (by decide)]; rfl
    · rw [if_pos (by decide), H 4 3 (by omega) (by omega) (by decide)]; rfl
    · rw [if_pos (by decide), H 3 4 (by omega) (by omega) (by decide)]; rfl
    · rw [if_neg (by decide)]; rfl
    · rw [if_pos (by decide), H 2 6 (by omega) (by omega) (by decide)]; rfl
    · rw [if_neg (by decide)]; rfl
    · rw [if_neg (by decide)]; rfl
    · rw [if_neg (by decide)]; rfl
    · rw [if_neg (by decide)]; rfl
    · rw [if_neg (by decide)]; rfl
    · rw [if_pos (by decide), H 1 12 (by omega) (by omega) (by decide)]; rfl
  · rw [if_neg (by simpa using h), if_neg (by omega), if_neg (by omega), if_neg (by omega), if_neg (by omega), if_neg (by omega)]; rfl

def inR (p : Int) : Bool := decide (0 ≤ p ∧ p ≤ 12)
def circOk (l : List Int) : Bool := l.all inR && (decide (l.length = 12) && (l.sum == 12))
theorem impl_circOk_l0 : ∀ (rest pre : List Int) (s : Int) (k : Nat), rest.length < k → (pre ++ rest).length ≤ 1099511627776 → 0 ≤ s ∧ s ≤ 12 * (pre.length : Int) →
    impl_CircleOk.l0 k s (pre ++ rest) ((pre ++ rest).length : Int) (pre.length : Int) (pre ++ rest) = some (rest.all inR && (decide ((pre ++ rest).length = 12) && (s + rest.sum == 12))) := by
  intro rest
  induction rest with
  | nil =>
    intro pre s k hk hl hs
    obtain ⟨k, rfl⟩ : ∃ m, k = m + 1 := ⟨k - 1, by simp at hk; omega⟩
    simp only [impl_CircleOk.l0]
    rw [if_neg (by simp)]
    by_cases h : (pre ++ ([] : List Int)).length = 12
    · rw [if_pos (by omega)]; simp at h; simp [h]
    · rw [if_neg (by omega)]; simp at h; simp [h]
  | cons p rest ih =>
    intro pre s k hk hl hs
    obtain ⟨k, rfl⟩ : ∃ m, k = m + 1 := ⟨k - 1, by simp at hk; omega⟩
    simp only [impl_CircleOk.l0]
    rw [if_pos (by simp; omega), if_pos (by omega), if_pos (by simp; omega), rd_mid, within_eq]
    simp only [Option.bind_some]
    by_cases hp : 0 ≤ p ∧ p ≤ 12
    · have hl2 : pre.length ≤ 1099511627776 := by simp at hl; omega
      rw [if_pos (by simpa using hp), wrap_id (x := s + p) (by omega), succ_wrap hl2]
      have := ih (pre ++ [p]) (s + p) k (by simp at hk; omega) (by simp at hl ⊢; omega) (by simp; omega)
      have e : pre ++ [p] ++ rest = pre ++ p :: rest := by simp
      have e2 : ((pre ++ [p]).length : Int) = ((pre.length + 1 : Nat) : Int) := by simp
      rw [e, e2] at this
      rw [this]
      have hi : inR p = true := decide_eq_true hp
      simp [hi, Int.add_assoc]
    · rw [if_neg (by simpa using hp)]
      have hi : inR p = false := decide_eq_false hp
      simp [hi]
theorem impl_circOk {k : Nat} {l : List Int} (hk : l.length < k) (hl : l.length ≤ 1099511627776) : impl_CircleOk.f k l = some (circOk l) := by
  have := impl_circOk_l0 l [] 0 k hk (by simpa using hl) (by simp)
  unfold impl_CircleOk.f circOk
  simpa using this
theorem circOk_len {l : List Int} (h : circOk l = true) : l.length = 12 := by
  unfold circOk at h; simp at h; exact h.2.1
theorem circOk_sum {l : List Int} (h : circOk l = true) : l.sum = 12 := by
  unfold circOk at h; simp at h; exact h.2.2
theorem circOk_mem {l : List Int} (h : circOk l = true) : ∀ p ∈ l, 0 ≤ p ∧ p ≤ 12 := by
  unfold circOk at h; simp at h
  intro p hp
  have := h.1 p hp
  exact of_decide_eq_true this

def psum (l : List Int) (i : Int) : Nat → Int
  | 0 => 0
  | n + 1 => psum l i n + l.getD ((i.toNat + n) % 12) 0
theorem getD_range {l : List Int} (h : circOk l = true) (j : Nat) : 0 ≤ l.getD j 0 ∧ l.getD j 0 ≤ 12 := by
  rcases Nat.lt_or_ge j l.length with hj | hj
  · rw [List.getD_eq_getElem?_getD, List.getElem?_eq_getElem hj]
    exact circOk_mem h _ (List.getElem_mem hj)
  · rw [List.getD_eq_getElem?_getD, List.getElem?_eq_none hj]; simp
theorem psum_range {l : List Int} (h : circOk l = true) (i : Int) (n : Nat) : 0 ≤ psum l i n ∧ psum l i n ≤ 12 * n := by
  induction n with
  | zero => simp [psum]
  | succ n ih => have := getD_range h ((i.toNat + n) % 12); simp only [psum]; omega
theorem idx_eq {i : Int} {n : Nat} (hi : 0 ≤ i ∧ i ≤ 11) (hn : n ≤ 100) : Int.tmod (wrap64 (i + (n : Int))) 12 = (((i.toNat + n) % 12 : Nat) : Int) := by
  rw [wrap_id (by omega), Int.tmod_eq_emod_of_nonneg (by omega)]; omega

def isKey (l : List Int) (i : Int) : Bool := circOk l && decide (0 ≤ i ∧ i ≤ 11)
theorem impl_isKey_eq {k : Nat} {l : List Int} (i : Int) (hk : l.length < k) (hl : l.length ≤ 1099511627776) : impl_isKey.f k l i = some (isKey l i) := by
  unfold impl_isKey.f isKey
  rw [impl_circOk hk hl]
  simp only [Option.bind_some, within_eq]
  cases circOk l <;> simp
theorem isKey_parts {l : List Int} {i : Int} (h : isKey l i = true) : circOk l = true ∧ (0 ≤ i ∧ i ≤ 11) := by
  unfold isKey at h
  simp only [Bool.and_eq_true] at h
  exact ⟨h.1, of_decide_eq_true h.2⟩

theorem impl_parts_l0 {l : List Int} (h : circOk l = true) {i : Int} (hi : 0 ≤ i ∧ i ≤ 11) (n : Nat) (hn : n ≤ 100) : ∀ (d m k : Nat), m + d = n → d < k → impl_partsFrom.l0 k i (n : Int) (psum l i m) (m : Int) l = some (psum l i n) := by
  intro d
  induction d with
  | zero =>
    intro m k hm hk
    obtain ⟨k, rfl⟩ : ∃ q, k = q + 1 := ⟨k - 1, by omega⟩
    simp only [impl_partsFrom.l0]
    rw [if_neg (by omega)]
    congr 2
  | succ d ih =>
    intro m k hm hk
    obtain ⟨k, rfl⟩ : ∃ q, k = q + 1 := ⟨k - 1, by omega⟩
    have hl := circOk_len h
    have hg := getD_range h ((i.toNat + m) % 12)
    have hp := psum_range h i m
    have hmod : (i.toNat + m) % 12 < 12 := Nat.mod_lt _ (by omega)
    simp only [impl_partsFrom.l0]
    rw [if_pos (by omega), idx_eq hi (by omega), if_pos (by omega), if_pos (by omega), rd_getD, wrap_id (by omega), succ_wrap (by omega)]
    exact ih (m + 1) k (by omega) (by omega)
def parts (l : List Int) (i : Int) (n : Nat) : Int := if isKey l i = true then psum l i n else 0
theorem impl_partsFrom_eq {k n : Nat} {l : List Int} (i : Int) (hk : l.length < k) (hl : l.length ≤ 1099511627776) (hn : n ≤ 100) (hkn : n < k) : impl_partsFrom.f k l i (n : Int) = some (parts l i n) := by
  unfold impl_partsFrom.f parts
  rw [impl_isKey_eq i hk hl]
  simp only [Option.bind_some]
  by_cases h : isKey l i = true
  · rw [if_pos h, if_pos h]
    obtain ⟨h1, h2⟩ := isKey_parts h
    exact impl_parts_l0 h1 h2 n hn n 0 k (by omega) hkn
  · rw [if_neg h, if_neg h]

theorem impl_thirdParts {k : Nat} {l : List Int} (i : Int) (hk : l.length < k) (hk2 : 5 < k) (hl : l.length ≤ 1099511627776) : impl_ThirdParts.f k l i = some (parts l i 4) := by
  unfold impl_ThirdParts.f
  have := impl_partsFrom_eq (k := k) (n := 4) i hk hl (by omega) (by omega)
  rw [show ((4 : Nat) : Int) = 4 from rfl] at this
  rw [this]; rfl

def tl (l : List Int) (j : Nat) : List Int := (List.range j).map fun (q : Nat) => psum l (q : Int) 4
theorem tl_succ (l : List Int) (j : Nat) : tl l (j + 1) = tl l j ++ [psum l (j : Int) 4] := by
  unfold tl; rw [List.range_succ]; simp
theorem tl_length (l : List Int) (j : Nat) : (tl l j).length = j := by simp [tl]
def thirds (l : List Int) : List Int := if circOk l = true then tl l 12 else []
theorem thirds_length (l : List Int) : (thirds l).length ≤ 12 := by
  unfold thirds; split
  · rw [tl_length]; omega
  · simp
theorem thirds_range (l : List Int) : ∀ x ∈ thirds l, 0 ≤ x ∧ x ≤ 48 := by
  intro x hx
  unfold thirds at hx
  split at hx
  · rename_i h
    simp only [tl, List.mem_map] at hx
    obtain ⟨q, _, rfl⟩ := hx
    have := psum_range h (q : Int) 4
    omega
  · simp at hx
theorem impl_thirds_l0 {l : List Int} (h : circOk l = true) : ∀ (d j k : Nat), j + d = 12 → d + 12 < k → impl_ThirdsOf.l0 k (tl l j) (j : Int) l = some (tl l 12) := by
  have hl := circOk_len h
  intro d
  induction d with
  | zero =>
    intro j k hj hk
    obtain ⟨k, rfl⟩ : ∃ q, k = q + 1 := ⟨k - 1, by omega⟩
    have : j = 12 := by omega
    subst this
    simp only [impl_ThirdsOf.l0]
    rw [if_neg (by omega)]
  | succ d ih =>
    intro j k hj hk
    obtain ⟨k, rfl⟩ : ∃ q, k = q + 1 := ⟨k - 1, by omega⟩
    have hkey : isKey l (j : Int) = true := by unfold isKey; rw [h, Bool.true_and]; exact decide_eq_true (by omega)
    simp only [impl_ThirdsOf.l0]
    rw [if_pos (by omega), impl_thirdParts _ (by omega) (by omega) (by omega), Option.bind_some, if_pos (by rw [tl_length]; omega), succ_wrap (by omega)]
    have er : parts l (j : Int) 4 = psum l (j : Int) 4 := by unfold parts; rw [if_pos hkey]
    rw [er, ← tl_succ]
    exact ih (j + 1) k (by omega) (by omega)
theorem impl_thirds {k : Nat} {l : List Int} (hk : l.length + 30 < k) (hl : l.length ≤ 1099511627776) : impl_ThirdsOf.f k l = some (thirds l) := by
  unfold impl_ThirdsOf.f thirds
  rw [impl_circOk (by omega) hl]
  simp only [Option.bind_some]
  by_cases h : circOk l = true
  · rw [if_pos h, if_pos h]
    exact impl_thirds_l0 h 12 0 k (by omega) (by omega)
  · rw [if_neg h, if_neg h]

def dist : List Int → List Int → Int
  | a :: r, b :: s => mx (a - b) (b - a) + dist r s
  | _, _ => 0
def Small (l : List Int) : Prop := ∀ x ∈ l, -100000 ≤ x ∧ x ≤ 100000
theorem dist_nn : ∀ (a b : List Int), 0 ≤ dist a b
  | [], _ => by simp [dist]
  | _ :: _, [] => by simp [dist]
  | a :: r, b :: s => by
    have := dist_nn r s
    simp only [dist, mx]; split <;> omega
theorem impl_dist_l0 : ∀ (ra rb pa pb : List Int) (s : Int) (k : Nat), ra.length = rb.length → pa.length = pb.length → ra.length < k → (pa ++ ra).length ≤ 1000000 → Small ra → Small rb → 0 ≤ s ∧ s ≤ 200000 * (pa.length : Int) →
    impl_distance.l0 k (pa ++ ra) (pb ++ rb) s ((pa ++ ra).length : Int) (pa.length : Int) = some (s + dist ra rb) := by
  intro ra
  induction ra with
  | nil =>
    intro rb pa pb s k hab hp hk hl _ _ hs
    obtain ⟨k, rfl⟩ : ∃ q, k = q + 1 := ⟨k - 1, by simp at hk; omega⟩
    simp only [impl_distance.l0]
    rw [if_neg (by simp)]
    simp [dist]
  | cons a ra ih =>
    intro rb pa pb s k hab hp hk hl ha hb hs
    obtain ⟨k, rfl⟩ : ∃ q, k = q + 1 := ⟨k - 1, by simp at hk; omega⟩
    cases rb with
    | nil => simp at hab
    | cons b rb =>
      have h1 := ha a List.mem_cons_self
      have h2 := hb b List.mem_cons_self
      have hl2 : pa.length < 1000000 := by simp at hl; omega
      simp only [List.length_cons] at hab hk
      have e2 : rd (pb ++ b :: rb) (pa.length : Int) = b := by rw [hp]; exact rd_mid pb rb b
      have hm : 0 ≤ mx (a - b) (b - a) ∧ mx (a - b) (b - a) ≤ 200000 := by unfold mx; split <;> omega
      simp only [impl_distance.l0]
      rw [if_pos (by simp; omega), if_pos (by omega), if_pos (by simp; omega), if_pos (by simp; omega), rd_mid, e2, wrap_id (x := a - b) (by omega), wrap_id (x := b - a) (by omega), wrap_id (by omega), succ_wrap (by omega)]
      have := ih rb (pa ++ [a]) (pb ++ [b]) (s + mx (a - b) (b - a)) k (by omega) (by simp; omega) (by omega) (by simp at hl ⊢; omega) (fun x hx => ha x (List.mem_cons_of_mem _ hx)) (fun x hx => hb x (List.mem_cons_of_mem _ hx)) (by simp; omega)
      have e3 : pa ++ [a] ++ ra = pa ++ a :: ra := by simp
      have e4 : pb ++ [b] ++ rb = pb ++ b :: rb := by simp
      have e5 : ((pa ++ [a]).length : Int) = ((pa.length + 1 : Nat) : Int) := by simp
      rw [e3, e4, e5] at this
      rw [this]
      simp only [dist, Int.add_assoc]
theorem impl_dist {k : Nat} {a b : List Int} (hab : a.length = b.length) (hk : a.length < k) (hl : a.length ≤ 1000000) (ha : Small a) (hb : Small b) : impl_distance.f k a b = some (dist a b) := by
  unfold impl_distance.f
  have := impl_dist_l0 a b [] [] 0 k hab rfl hk (by simpa using hl) ha hb (by simp)
  simpa using this

theorem thirds_small (l : List Int) : Small (thirds l) := fun x hx => by have := thirds_range l x hx; omega
theorem thirds_len12 {l : List Int} (h : circOk l = true) : (thirds l).length = 12 := by unfold thirds; rw [if_pos h, tl_length]
def differ (a b : List Int) : Int := if circOk a = true ∧ circOk b = true then dist (thirds a) (thirds b) else -1

theorem spec_circOk_l0 : ∀ (rest pre : List Int) (s : Int) (k : Nat), rest.length < k → (pre ++ rest).length ≤ 1099511627776 → 0 ≤ s ∧ s ≤ 12 * (pre.length : Int) →
    spec_CircleOk.l0 k s (pre.length : Int) (pre ++ rest) = some (rest.all inR && (decide ((pre ++ rest).length = 12) && (s + rest.sum == 12))) := by
  intro rest
  induction rest with
  | nil =>
    intro pre s k hk hl hs
    obtain ⟨k, rfl⟩ : ∃ m, k = m + 1 := ⟨k - 1, by simp at hk; omega⟩
    simp only [spec_CircleOk.l0]
    rw [if_neg (by simp)]
    by_cases h : (pre ++ ([] : List Int)).length = 12
    · rw [if_pos (by omega)]; simp at h; simp [h]
    · rw [if_neg (by omega)]; simp at h; simp [h]
  | cons p rest ih =>
    intro pre s k hk hl hs
    obtain ⟨k, rfl⟩ : ∃ m, k = m + 1 := ⟨k - 1, by simp at hk; omega⟩
    simp only [spec_CircleOk.l0]
    rw [if_pos (by simp; omega), if_pos (by omega), rd_mid, l01In_eq]
    simp only [Option.bind_some]
    by_cases hp : 0 ≤ p ∧ p ≤ 12
    · have hl2 : pre.length ≤ 1099511627776 := by simp at hl; omega
      rw [if_pos (by simpa using hp), wrap_id (x := s + p) (by omega), succ_wrap hl2]
      have := ih (pre ++ [p]) (s + p) k (by simp at hk; omega) (by simp at hl ⊢; omega) (by simp; omega)
      have e : pre ++ [p] ++ rest = pre ++ p :: rest := by simp
      have e2 : ((pre ++ [p]).length : Int) = ((pre.length + 1 : Nat) : Int) := by simp
      rw [e, e2] at this
      rw [this]
      have hi : inR p = true := decide_eq_true hp
      simp [hi, Int.add_assoc]
    · rw [if_neg (by simpa using hp)]
      have hi : inR p = false := decide_eq_false hp
      simp [hi]
theorem spec_circOk {k : Nat} {l : List Int} (hk : l.length < k) (hl : l.length ≤ 1099511627776) : spec_CircleOk.f k l = some (circOk l) := by
  have := spec_circOk_l0 l [] 0 k hk (by simpa using hl) (by simp)
  unfold spec_CircleOk.f circOk
  simpa using this

theorem spec_l13_l0 {l : List Int} (h : circOk l = true) {i : Int} (hi : 0 ≤ i ∧ i ≤ 11) (n : Nat) (hn : n ≤ 100) : ∀ (d m k : Nat), m + d = n → d < k → spec_l13Sum.l0 k i (n : Int) (psum l i m) (m : Int) l = some (psum l i n) := by
  intro d
  induction d with
  | zero =>
    intro m k hm hk
    obtain ⟨k, rfl⟩ : ∃ q, k = q + 1 := ⟨k - 1, by omega⟩
    simp only [spec_l13Sum.l0]
    rw [if_neg (by omega)]
    congr 2
  | succ d ih =>
    intro m k hm hk
    obtain ⟨k, rfl⟩ : ∃ q, k = q + 1 := ⟨k - 1, by omega⟩
    have hl := circOk_len h
    have hg := getD_range h ((i.toNat + m) % 12)
    have hp := psum_range h i m
    have hmod : (i.toNat + m) % 12 < 12 := Nat.mod_lt _ (by omega)
    simp only [spec_l13Sum.l0]
    rw [if_pos (by omega), idx_eq hi (by omega), if_pos (by omega), if_pos (by omega), rd_getD, wrap_id (by omega), succ_wrap (by omega)]
    exact ih (m + 1) k (by omega) (by omega)
theorem spec_l13Sum_eq {l : List Int} (h : circOk l = true) {i : Int} (hi : 0 ≤ i ∧ i ≤ 11) {k n : Nat} (hn : n ≤ 100) (hk : n < k) : spec_l13Sum.f k l i (n : Int) = some (psum l i n) := by
  unfold spec_l13Sum.f
  exact spec_l13_l0 h hi n hn n 0 k (by omega) hk

theorem spec_thirds_l0 {l : List Int} (h : circOk l = true) : ∀ (d j k : Nat), j + d = 12 → d + 12 < k → spec_ThirdsOf.l0 k (tl l j) (j : Int) l = some (tl l 12) := by
  have hl := circOk_len h
  intro d
  induction d with
  | zero =>
    intro j k hj hk
    obtain ⟨k, rfl⟩ : ∃ q, k = q + 1 := ⟨k - 1, by omega⟩
    have : j = 12 := by omega
    subst this
    simp only [spec_ThirdsOf.l0]
    rw [if_neg (by omega)]
  | succ d ih =>
    intro j k hj hk
    obtain ⟨k, rfl⟩ : ∃ q, k = q + 1 := ⟨k - 1, by omega⟩
    have hs := spec_l13Sum_eq h (i := (j : Int)) (by omega) (k := k) (n := 4) (by omega) (by omega)
    rw [show ((4 : Nat) : Int) = 4 from rfl] at hs
    simp only [spec_ThirdsOf.l0]
    rw [if_pos (by omega), spec_circOk (by omega) (by omega), Option.bind_some, if_pos h, hs, Option.bind_some, if_pos (by rw [tl_length]; omega), succ_wrap (by omega), ← tl_succ]
    exact ih (j + 1) k (by omega) (by omega)
theorem spec_thirds {k : Nat} {l : List Int} (hk : l.length + 30 < k) (hl : l.length ≤ 1099511627776) : spec_ThirdsOf.f k l = some (thirds l) := by
  unfold spec_ThirdsOf.f thirds
  by_cases h : circOk l = true
  · rw [if_pos h]
    exact spec_thirds_l0 h 12 0 k (by omega) (by omega)
  · obtain ⟨k, rfl⟩ : ∃ q, k = q + 1 := ⟨k - 1, by omega⟩
    simp only [spec_ThirdsOf.l0]
    rw [if_pos (by omega), spec_circOk (by omega) hl, Option.bind_some, if_neg h, if_neg h]

theorem spec_dist_l0 : ∀ (ra rb pa pb : List Int) (s : Int) (k : Nat), ra.length = rb.length → pa.length = pb.length → ra.length < k → (pa ++ ra).length ≤ 1000000 → Small ra → Small rb → 0 ≤ s ∧ s ≤ 200000 * (pa.length : Int) →
    spec_l15Distance.l0 k (pa ++ ra) (pb ++ rb) s (pa.length : Int) = some (s + dist ra rb) := by
  intro ra
  induction ra with
  | nil =>
    intro rb pa pb s k hab hp hk hl _ _ hs
    obtain ⟨k, rfl⟩ : ∃ q, k = q + 1 := ⟨k - 1, by simp at hk; omega⟩
    simp only [spec_l15Distance.l0]
    rw [if_neg (by simp)]
    simp [dist]
  | cons a ra ih =>
    intro rb pa pb s k hab hp hk hl ha hb hs
    obtain ⟨k, rfl⟩ : ∃ q, k = q + 1 := ⟨k - 1, by simp at hk; omega⟩
    cases rb with
    | nil => simp at hab
    | cons b rb =>
      have h1 := ha a List.mem_cons_self
      have h2 := hb b List.mem_cons_self
      have hl2 : pa.length < 1000000 := by simp at hl; omega
      simp only [List.length_cons] at hab hk
      have e2 : rd (pb ++ b :: rb) (pa.length : Int) = b := by rw [hp]; exact rd_mid pb rb b
      have hm : 0 ≤ mx (a - b) (b - a) ∧ mx (a - b) (b - a) ≤ 200000 := by unfold mx; split <;> omega
      simp only [spec_l15Distance.l0]
      rw [if_pos (by simp; omega), if_pos (by omega), if_pos (by simp; omega), rd_mid, e2, wrap_id (x := a - b) (by omega), wrap_id (x := b - a) (by omega), wrap_id (by omega), succ_wrap (by omega)]
      have := ih rb (pa ++ [a]) (pb ++ [b]) (s + mx (a - b) (b - a)) k (by omega) (by simp; omega) (by omega) (by simp at hl ⊢; omega) (fun x hx => ha x (List.mem_cons_of_mem _ hx)) (fun x hx => hb x (List.mem_cons_of_mem _ hx)) (by simp; omega)
      have e3 : pa ++ [a] ++ ra = pa ++ a :: ra := by simp
      have e4 : pb ++ [b] ++ rb = pb ++ b :: rb := by simp
      have e5 : ((pa ++ [a]).length : Int) = ((pa.length + 1 : Nat) : Int) := by simp
      rw [e3, e4, e5] at this
      rw [this]
      simp only [dist, Int.add_assoc]
theorem spec_dist {k : Nat} {a b : List Int} (hab : a.length = b.length) (hk : a.length < k) (hl : a.length ≤ 1000000) (ha : Small a) (hb : Small b) : spec_l15Distance.f k a b = some (dist a b) := by
  unfold spec_l15Distance.f
  have := spec_dist_l0 a b [] [] 0 k hab rfl hk (by simpa using hl) ha hb (by simp)
  simpa using this

theorem rdC_mid (pre rest : List S29) (p : S29) : rd_T29 (pre ++ p :: rest) ((pre.length : Nat) : Int) = p := by
  unfold rd_T29
  rw [Int.toNat_natCast, List.getD_eq_getElem?_getD, List.getElem?_append_right (Nat.le_refl _)]
  simp
theorem spr_mem : ∀ (d : Nat) (l : List Int) (n : Nat) (p : Int), ∀ x ∈ spr d l n p, x.length = l.length + d := by
  intro d
  induction d with
  | zero => intro l n p x hx; rw [spr] at hx; split at hx; rw [List.mem_singleton.1 hx]; rfl; cases hx
  | succ d ih =>
    intro l n p x hx
    rw [spr] at hx
    rcases List.mem_append.1 hx with hx | hx
    · have := ih _ _ _ x hx; rw [List.length_append, List.length_singleton] at this; omega
    · split at hx
      · have := ih _ _ _ x hx; rw [List.length_append, List.length_singleton] at this; omega
      · cases hx
theorem fam_mem {p : Int} : ∀ x ∈ fam p, x.length = 12 := by
  intro x hx
  have H : ∀ (n : Nat) (q : Int), x ∈ spr 12 [] n q → x.length = 12 := fun n q h => by have := spr_mem 12 [] n q x h; simpa using this
  unfold fam at hx
  by_cases h2 : p = 2
  · rw [if_pos h2] at hx; exact H _ _ hx
  rw [if_neg h2] at hx
  by_cases h3 : p = 3
  · rw [if_pos h3] at hx; exact H _ _ hx
  rw [if_neg h3] at hx
  by_cases h4 : p = 4
  · rw [if_pos h4] at hx; exact H _ _ hx
  rw [if_neg h4] at hx
  by_cases h6 : p = 6
  · rw [if_pos h6] at hx; exact H _ _ hx
  rw [if_neg h6] at hx
  by_cases h12 : p = 12
  · rw [if_pos h12] at hx; exact H _ _ hx
  rw [if_neg h12] at hx; cases hx
theorem famC_mem {p : Int} : ∀ c ∈ (fam p).map mkC, c.f0.length ≤ 1000 := by
  intro c hc
  obtain ⟨x, hx, rfl⟩ := List.mem_map.1 hc
  have := fam_mem x hx
  show x.length ≤ 1000
  omega

theorem spr_ok : ∀ (d : Nat) (l : List Int) (n : Nat) (p : Int), ∀ x ∈ spr d l n p, x.sum = l.sum + (n : Int) * p ∧ ∀ e ∈ x, e ∈ l ∨ e = 0 ∨ e = p := by
  intro d
  induction d with
  | zero =>
    intro l n p x hx
    rw [spr] at hx
    split at hx
    · rename_i h0
      subst h0
      rw [List.mem_singleton.1 hx]
      exact ⟨by simp, fun e he => .inl he⟩
    · cases hx
  | succ d ih =>
    intro l n p x hx
    rw [spr] at hx
    rcases List.mem_append.1 hx with hx | hx
    · obtain ⟨h1, h2⟩ := ih _ _ _ x hx
      refine ⟨by rw [h1]; simp, fun e he => ?_⟩
      rcases h2 e he with h | h | h
      · rcases List.mem_append.1 h with h | h
        · exact .inl h
        · exact .inr (.inl (List.mem_singleton.1 h))
      · exact .inr (.inl h)
      · exact .inr (.inr h)
    · split at hx
      · rename_i hn
        obtain ⟨h1, h2⟩ := ih _ _ _ x hx
        refine ⟨?_, fun e he => ?_⟩
        · rw [h1]
          obtain ⟨m, rfl⟩ : ∃ m, n = m + 1 := ⟨n - 1, by omega⟩
          have e1 : ((m + 1 : Nat) : Int) * p = (m : Int) * p + p := by rw [Int.natCast_add, Int.add_mul]; simp
          have e2 : (l ++ [p]).sum = l.sum + p := by simp
          rw [e1, e2, Nat.add_sub_cancel]; omega
        · rcases h2 e he with h | h | h
          · rcases List.mem_append.1 h with h | h
            · exact .inl h
            · exact .inr (.inr (List.mem_singleton.1 h))
          · exact .inr (.inl h)
          · exact .inr (.inr h)
      · cases hx
theorem fam_circ {p : Int} : ∀ x ∈ fam p, circOk x = true := by
  intro x hx
  have hl := fam_mem x hx
  have H : ∀ (n : Nat) (q : Int), (n : Int) * q = 12 → (0 ≤ q ∧ q ≤ 12) → x ∈ spr 12 [] n q → circOk x = true := by
    intro n q hq hq2 h
    obtain ⟨h1, h2⟩ := spr_ok 12 [] n q x h
    unfold circOk
    rw [Bool.and_eq_true, Bool.and_eq_true, List.all_eq_true, decide_eq_true_eq, beq_iff_eq]
    refine ⟨fun e he => ?_, hl, by rw [h1, hq]; rfl⟩
    rcases h2 e he with h | h | h
    · cases h
    · rw [h]; exact decide_eq_true (by omega)
    · rw [h]; exact decide_eq_true hq2
  unfold fam at hx
  by_cases h2 : p = 2
  · rw [if_pos h2] at hx; exact H _ _ (by decide) (by decide) hx
  rw [if_neg h2] at hx
  by_cases h3 : p = 3
  · rw [if_pos h3] at hx; exact H _ _ (by decide) (by decide) hx
  rw [if_neg h3] at hx
  by_cases h4 : p = 4
  · rw [if_pos h4] at hx; exact H _ _ (by decide) (by decide) hx
  rw [if_neg h4] at hx
  by_cases h6 : p = 6
  · rw [if_pos h6] at hx; exact H _ _ (by decide) (by decide) hx
  rw [if_neg h6] at hx
  by_cases h12 : p = 12
  · rw [if_pos h12] at hx; exact H _ _ (by decide) (by decide) hx
  rw [if_neg h12] at hx; cases hx
theorem famC_circ {p : Int} : ∀ c ∈ (fam p).map mkC, circOk c.f0 = true := by
  intro c hc
  obtain ⟨x, hx, rfl⟩ := List.mem_map.1 hc
  exact fam_circ x hx
def inN (n : Int) : Bool := decide (-200 ≤ n ∧ n ≤ 200)
theorem inN_small {l : List Int} (h : l.all inN = true) : Small l := by
  intro x hx
  have := of_decide_eq_true (List.all_eq_true.1 h x hx)
  omega
def dd (t c : List Int) : Int := dist (thirds c) t
def nearC (t : List Int) : List S29 → List Int → List Int
  | [], b => b
  | c :: cs, b => if dd t c.f0 < dd t b then nearC t cs c.f0 else nearC t cs b
theorem nearC_ok (t : List Int) : ∀ (cs : List S29) (b : List Int), (∀ c ∈ cs, circOk c.f0 = true) → circOk b = true → circOk (nearC t cs b) = true := by
  intro cs
  induction cs with
  | nil => intro b _ hb; exact hb
  | cons c cs ih =>
    intro b h hb
    rw [nearC]
    split
    · exact ih _ (fun x hx => h x (by simp [hx])) (h c (by simp))
    · exact ih _ (fun x hx => h x (by simp [hx])) hb
def nearR (t b : List Int) : List Int × Int × Bool := (b, dd t b, true)
def nearM (p : Int) (t : List Int) : List Int × Int × Bool :=
  match (fam p).map mkC with
  | [] => ([], 0, false)
  | c :: cs => if t.length = 12 ∧ t.all inN = true then nearR t (nearC t cs c.f0) else ([], 0, false)
theorem nearM_len (p : Int) (t : List Int) : (nearM p t).1.length ≤ 12 := by
  unfold nearM
  have H := famC_circ (p := p)
  split
  · simp
  · rename_i c cs e
    rw [e] at H
    split
    · have := circOk_len (nearC_ok t cs c.f0 (fun x hx => H x (by simp [hx])) (H c (by simp)))
      show (nearC t cs c.f0).length ≤ 12
      omega
    · simp
theorem near_dst_eq {k : Nat} {t c : List Int} (hk : 100 < k) (hc : circOk c = true) (ht : t.length = 12) (hs : Small t) : near_dst k t c = some (dd t c) := by
  unfold near_dst
  have h12 := circOk_len hc
  have h2 := thirds_len12 hc
  rw [impl_thirds (by omega) (by omega), Option.bind_some, impl_dist (by omega) (by omega) (by omega) (thirds_small c) hs]; rfl
theorem near_l_eq {k : Nat} {t : List Int} (hk : 100 < k) (ht : t.length = 12) (hs : Small t) : ∀ (cs : List S29) (b : List Int), (∀ c ∈ cs, circOk c.f0 = true) → near_l k t cs b (dd t b) = some (nearR t (nearC t cs b)) := by
  intro cs
  induction cs with
  | nil => intro b _; rfl
  | cons c cs ih =>
    intro b h
    rw [near_l, near_dst_eq hk (h c (by simp)) ht hs, Option.bind_some, nearC]
    split
    · exact ih _ (fun x hx => h x (by simp [hx]))
    · exact ih _ (fun x hx => h x (by simp [hx]))
theorem inN_near : near_in = inN := rfl
theorem impl_near_k {k : Nat} (p : Int) (t : List Int) (hk : 100 < k) : near_f k p t = some (nearM p t) := by
  unfold near_f nearM
  have hl := fam_len p
  rw [impl_familyOf p (by omega), Option.bind_some, if_neg (by rw [List.length_map]; omega)]
  have H := famC_circ (p := p)
  generalize (fam p).map mkC = L at H
  cases L with
  | nil => rfl
  | cons c cs =>
    by_cases h12 : t.length = 12
    · rw [if_neg (by simp [h12])]
      by_cases hi : t.all inN = true
      · have e : rd_T29 (c :: cs) 0 = c := by unfold rd_T29; rfl
        have hc := H c (by simp)
        rw [inN_near, if_pos hi, e, near_dst_eq hk hc h12 (inN_small hi), Option.bind_some, near_l_eq hk h12 (inN_small hi) _ _ H, nearC, if_neg (Int.lt_irrefl _)]
        dsimp only
        rw [if_pos ⟨h12, hi⟩]
      · rw [inN_near, if_neg hi]
        dsimp only
        rw [if_neg (fun q => hi q.2)]
    · rw [if_pos (.inr h12)]
      dsimp only
      rw [if_neg (fun q => h12 q.1)]
theorem impl_near (p : Int) (t : List Int) : impl_NearestHeard.f p t = some (nearM p t) := by
  unfold impl_NearestHeard.f
  exact impl_near_k p t (by decide)
theorem spec_dd {k : Nat} {t c : List Int} (hk : 100 < k) (hc : circOk c = true) (ht : t.length = 12) (hs : Small t) : spec_ThirdsOf.f k c = some (thirds c) ∧ spec_l15Distance.f k (thirds c) t = some (dd t c) := by
  have h12 := circOk_len hc
  have h2 := thirds_len12 hc
  exact ⟨spec_thirds (by omega) (by omega), spec_dist (by omega) (by omega) (by omega) (thirds_small c) hs⟩
theorem spec_near_l1 {t : List Int} (ht : t.length = 12) (hs : Small t) : ∀ (rest pre : List S29) (a k : Nat), rest.length + 110 < k → (pre ++ rest).length ≤ 10000 → a < pre.length → (∀ c ∈ pre ++ rest, circOk c.f0 = true) →
    spec_NearestHeard.l1 k t (pre ++ rest) (a : Int) ((pre.length : Nat) : Int) = some (nearR t (nearC t rest (rd_T29 (pre ++ rest) (a : Int)).f0)) := by
  intro rest
  induction rest with
  | nil =>
    intro pre a k hk hl ha hc
    obtain ⟨k, rfl⟩ : ∃ m, k = m + 1 := ⟨k - 1, by omega⟩
    have hb : circOk (rd_T29 (pre ++ []) (a : Int)).f0 = true := by
      refine hc _ ?_
      unfold rd_T29
      rw [Int.toNat_natCast, List.getD_eq_getElem?_getD, List.getElem?_eq_getElem (by simp; omega)]
      exact List.getElem_mem _
    obtain ⟨e1, e2⟩ := spec_dd (k := k) (by omega) hb ht hs
    rw [spec_NearestHeard.l1, if_neg (by simp), if_pos (by omega), if_pos (by simp; omega), e1, Option.bind_some, e2, Option.bind_some]; rfl
  | cons c rest ih =>
    intro pre a k hk hl ha hc
    obtain ⟨k, rfl⟩ : ∃ m, k = m + 1 := ⟨k - 1, by omega⟩
    have hb : circOk (rd_T29 (pre ++ c :: rest) (a : Int)).f0 = true := by
      refine hc _ ?_
      unfold rd_T29
      rw [Int.toNat_natCast, List.getD_eq_getElem?_getD, List.getElem?_eq_getElem (by simp; omega)]
      exact List.getElem_mem _
    have hl2 : pre.length + rest.length + 1 ≤ 10000 := by simp at hl; omega
    have hk2 : rest.length + 110 < k := by simp at hk; omega
    have hlen : ((pre ++ c :: rest).length : Int) = (pre.length : Int) + (rest.length : Int) + 1 := by simp; omega
    obtain ⟨e1, e2⟩ := spec_dd (k := k) (by omega) hb ht hs
    obtain ⟨f1, f2⟩ := spec_dd (k := k) (c := c.f0) (by omega) (hc c (by simp)) ht hs
    have e3 := fun a' ha' => ih (pre ++ [c]) a' k hk2 (by simp; omega) ha' (by intro x hx; exact hc x (by simpa using hx))
    have e4 : (((pre ++ [c]).length : Nat) : Int) = ((pre.length + 1 : Nat) : Int) := by simp
    simp only [List.append_assoc, List.singleton_append, e4] at e3
    rw [spec_NearestHeard.l1, if_pos (by rw [hlen]; omega), if_pos (by omega), rdC_mid, f1, Option.bind_some, f2, Option.bind_some, if_pos (by omega), if_pos (by rw [hlen]; omega), e1, Option.bind_some, e2, Option.bind_some, succ_wrap (by omega), nearC]
    by_cases g : dd t c.f0 < dd t (rd_T29 (pre ++ c :: rest) (a : Int)).f0
    · rw [if_pos g, if_pos g, e3 pre.length (by simp), rdC_mid]
    · rw [if_neg g, if_neg g, e3 a (by simp; omega)]
theorem spec_near_l0 {L : List S29} : ∀ (rest pre : List Int) (k : Nat), rest.length + 15000 < k → (pre ++ rest).length = 12 → (∀ x ∈ pre, inN x = true) →
    spec_NearestHeard.l0 k (pre ++ rest) L ((pre.length : Nat) : Int) = if rest.all inN = true then spec_NearestHeard.l1 (k - rest.length - 1) (pre ++ rest) L 0 1 else some ([], 0, false) := by
  intro rest
  induction rest with
  | nil =>
    intro pre k hk hl hp
    obtain ⟨k, rfl⟩ : ∃ m, k = m + 1 := ⟨k - 1, by omega⟩
    simp at hl
    rw [spec_NearestHeard.l0, if_neg (by omega)]; rfl
  | cons x rest ih =>
    intro pre k hk hl hp
    obtain ⟨k, rfl⟩ : ∃ m, k = m + 1 := ⟨k - 1, by omega⟩
    have hl2 : pre.length + rest.length + 1 = 12 := by simp at hl; omega
    have hk2 : rest.length + 15000 < k := by simp at hk; omega
    have hlen : ((pre ++ x :: rest).length : Int) = 12 := by rw [hl]; rfl
    rw [spec_NearestHeard.l0, if_pos (by omega), if_pos (by omega), if_pos (by rw [hlen]; omega), rd_mid, l01In_eq, Option.bind_some]
    by_cases g : inN x = true
    · have e := ih (pre ++ [x]) k hk2 (by simp; omega) (fun y hy => by
        rcases List.mem_append.1 hy with hy | hy
        · exact hp y hy
        · rw [List.mem_singleton.1 hy]; exact g)
      have e4 : (((pre ++ [x]).length : Nat) : Int) = ((pre.length + 1 : Nat) : Int) := by simp
      rw [List.append_assoc, List.singleton_append, e4] at e
      have g2 : decide (-200 ≤ x ∧ x ≤ 200) = true := g
      rw [if_pos g2, succ_wrap (by omega), e, List.all_cons, g, Bool.true_and, List.length_cons, show k + 1 - (rest.length + 1) - 1 = k - rest.length - 1 by omega]
    · have g2 : ¬ decide (-200 ≤ x ∧ x ≤ 200) = true := g
      rw [if_neg g2, if_neg (by rw [List.all_cons, Bool.and_eq_true]; exact fun q => g q.1)]
theorem spec_near {k : Nat} (p : Int) (t : List Int) (hk : 20000 < k) : spec_NearestHeard.f k p t = some (nearM p t) := by
  unfold spec_NearestHeard.f nearM
  have hl := fam_len p
  rw [spec_familyOf p (by omega), Option.bind_some]
  have H := famC_circ (p := p)
  have hL : ((fam p).map mkC).length ≤ 4096 := by rw [List.length_map]; omega
  obtain ⟨k, rfl⟩ : ∃ m, k = m + 1 := ⟨k - 1, by omega⟩
  generalize (fam p).map mkC = L at H hL
  cases L with
  | nil => rw [if_pos (show ((([] : List S29).length : Nat) : Int) = 0 from rfl), spec_NearestHeard.j0, if_pos rfl]
  | cons c cs =>
    have hL2 : cs.length ≤ 4095 := by simp at hL; omega
    rw [if_neg (by simp; omega)]
    dsimp only
    by_cases h12 : t.length = 12
    · have e := spec_near_l0 (L := c :: cs) t [] k (by omega) (by simpa using h12) (fun x hx => by cases hx)
      rw [show ((([] : List Int).length : Nat) : Int) = 0 from rfl, List.nil_append] at e
      have hb : ((t.length : Int) != 12) = false := by simp; omega
      rw [hb, spec_NearestHeard.j0, if_neg (by decide), e]
      by_cases hi : t.all inN = true
      · have e2 := spec_near_l1 h12 (inN_small hi) cs [c] 0 (k - t.length - 1) (by omega) (by simp; omega) (by simp) H
        rw [if_pos hi, if_pos ⟨h12, hi⟩]
        exact e2
      · rw [if_neg hi, if_neg (fun q => hi q.2)]
    · have hb : ((t.length : Int) != 12) = true := by simp; omega
      rw [hb, spec_NearestHeard.j0, if_pos rfl, if_neg (fun q => h12 q.1)]

theorem toIntS_l0 : ∀ (rest pre : List Int) (k : Nat), rest.length < k → (pre ++ rest).length ≤ 1099511627776 → laws_toIntS.l0 k (pre ++ rest) (pre ++ List.replicate rest.length 0) (pre.length : Int) = some (pre ++ rest) := by
  intro rest
  induction rest with
  | nil =>
    intro pre k hk _
    obtain ⟨k, rfl⟩ : ∃ m, k = m + 1 := ⟨k - 1, by simp at hk; omega⟩
    simp only [laws_toIntS.l0]
    rw [if_neg (by simp)]
    simp
  | cons p rest ih =>
    intro pre k hk hl
    obtain ⟨k, rfl⟩ : ∃ m, k = m + 1 := ⟨k - 1, by simp at hk; omega⟩
    simp only [laws_toIntS.l0]
    rw [if_pos (by simp; omega), if_pos (by omega), if_pos (by simp; omega), rd_mid, succ_wrap (by simp at hl; omega)]
    have e : (pre ++ List.replicate (p :: rest).length 0).set ((pre.length : Int)).toNat p = (pre ++ [p]) ++ List.replicate rest.length 0 := by
      simp [List.replicate_succ]
    rw [e]
    have := ih (pre ++ [p]) k (by simp at hk; omega) (by simp at hl ⊢; omega)
    simpa using this
theorem toIntS_eq {k : Nat} {l : List Int} (hk : l.length < k) (hl : l.length ≤ 1099511627776) : laws_toIntS.f k l = some l := by
  unfold laws_toIntS.f
  rw [if_pos (by omega), if_pos (by omega)]
  have := toIntS_l0 l [] k hk (by simp; omega)
  simpa using this

theorem eqIntS_l0 : ∀ (rest pre : List Int) (k : Nat), rest.length < k → (pre ++ rest).length ≤ 1099511627776 → laws_eqIntS.l0 k (pre ++ rest) (pre ++ rest) (pre.length : Int) = some true := by
  intro rest
  induction rest with
  | nil =>
    intro pre k hk _
    obtain ⟨k, rfl⟩ : ∃ m, k = m + 1 := ⟨k - 1, by simp at hk; omega⟩
    simp only [laws_eqIntS.l0]
    rw [if_neg (by simp)]
  | cons p rest ih =>
    intro pre k hk hl
    obtain ⟨k, rfl⟩ : ∃ m, k = m + 1 := ⟨k - 1, by simp at hk; omega⟩
    simp only [laws_eqIntS.l0]
    rw [if_pos (by simp; omega), if_pos (by omega), if_pos (by simp; omega), if_pos trivial, succ_wrap (by simp at hl; omega)]
    have := ih (pre ++ [p]) k (by simp at hk; omega) (by simp at hl ⊢; omega)
    simpa using this
theorem eqIntS_refl {k : Nat} {l : List Int} (hk : l.length < k) (hl : l.length ≤ 1099511627776) : laws_eqIntS.f k l l = some true := by
  unfold laws_eqIntS.f
  rw [if_pos rfl]
  have := eqIntS_l0 l [] k hk (by simpa using hl)
  simpa using this

theorem eqCircle_refl {k : Nat} {l : List Int} (hk : l.length < k) (hl : l.length ≤ 1099511627776) : laws_eqCircle.f k l l = some true := by
  unfold laws_eqCircle.f
  rw [eqIntS_refl hk hl]; rfl

def mk : Int → Nat → List Int
  | _, 0 => []
  | m, n + 1 => m :: mk (m + 1) n
theorem mk_length (m : Int) (n : Nat) : (mk m n).length = n := by
  induction n generalizing m with
  | zero => rfl
  | succ n ih => simp [mk, ih]
theorem markIntS_l0 : ∀ (rest pre : List Int) (m : Int) (k : Nat), rest.length < k → (pre ++ rest).length ≤ 1099511627776 → 0 ≤ m → m + rest.length ≤ 1099511627776 →
    laws_markIntS.l0 k (pre ++ rest) m (pre.length : Int) = some (m + rest.length, pre ++ mk m rest.length) := by
  intro rest
  induction rest with
  | nil =>
    intro pre m k hk _ _ _
    obtain ⟨k, rfl⟩ : ∃ m, k = m + 1 := ⟨k - 1, by simp at hk; omega⟩
    simp only [laws_markIntS.l0]
    rw [if_neg (by simp)]
    simp [mk]
  | cons p rest ih =>
    intro pre m k hk hl hm hm2
    obtain ⟨k, rfl⟩ : ∃ m, k = m + 1 := ⟨k - 1, by simp at hk; omega⟩
    simp only [List.length_cons] at hm2
    simp only [laws_markIntS.l0]
    rw [if_pos (by simp; omega), if_pos (by omega), wrap_id (x := m + 1) (by omega), succ_wrap (by simp at hl; omega)]
    have e : (pre ++ p :: rest).set ((pre.length : Int)).toNat m = (pre ++ [m]) ++ rest := by simp
    rw [e]
    have := ih (pre ++ [m]) (m + 1) k (by simp at hk; omega) (by simp at hl ⊢; omega) (by omega) (by omega)
    have e2 : ((pre ++ [m]).length : Int) = ((pre.length + 1 : Nat) : Int) := by simp
    rw [e2] at this
    rw [this]
    simp [mk]; omega
theorem markIntS_eq {k : Nat} {l : List Int} {m : Int} (hk : l.length < k) (hm : 0 ≤ m) (hl : m + l.length ≤ 1099511627776) : laws_markIntS.f k l m = some (m + l.length, mk m l.length) := by
  unfold laws_markIntS.f
  have := markIntS_l0 l [] m k hk (by simp; omega) hm hl
  simpa using this
theorem heldIntS_l0 : ∀ (n : Nat) (pre : List Int) (m : Int) (k : Nat), n < k → pre.length + n ≤ 1099511627776 → 0 ≤ m → m + n ≤ 1099511627776 →
    laws_heldIntS.l0 k (pre ++ mk m n) m (pre.length : Int) = some (m + n) := by
  intro n
  induction n with
  | zero =>
    intro pre m k hk _ _ _
    obtain ⟨k, rfl⟩ : ∃ m, k = m + 1 := ⟨k - 1, by omega⟩
    rw [show mk m 0 = [] from rfl]
    simp only [laws_heldIntS.l0]
    rw [if_neg (by simp)]
    simp
  | succ n ih =>
    intro pre m k hk hl hm hm2
    obtain ⟨k, rfl⟩ : ∃ m, k = m + 1 := ⟨k - 1, by omega⟩
    rw [show mk m (n + 1) = m :: mk (m + 1) n from rfl]
    simp only [laws_heldIntS.l0]
    rw [if_pos (by simp; omega), if_pos (by omega), rd_mid, if_pos rfl, wrap_id (x := m + 1) (by omega), succ_wrap (by omega)]
    have := ih (pre ++ [m]) (m + 1) k (by omega) (by simp; omega) (by omega) (by omega)
    have e2 : ((pre ++ [m]).length : Int) = ((pre.length + 1 : Nat) : Int) := by simp
    have e3 : pre ++ [m] ++ mk (m + 1) n = pre ++ m :: mk (m + 1) n := by simp
    rw [e2, e3] at this
    rw [this]
    congr 1; omega
theorem heldIntS_eq {k n : Nat} {m : Int} (hk : n < k) (hm : 0 ≤ m) (hl : m + n ≤ 1099511627776) : laws_heldIntS.f k (mk m n) m = some (m + n) := by
  unfold laws_heldIntS.f
  have := heldIntS_l0 n [] m k hk (by simp; omega) hm hl
  simpa using this

theorem markCircle_eq {k : Nat} {l : List Int} {m : Int} (hk : l.length < k) (hm : 0 ≤ m) (hl : m + l.length ≤ 1099511627776) : laws_markCircle.f k l m = some (m + l.length, mk m l.length) := by
  unfold laws_markCircle.f
  rw [markIntS_eq hk hm hl]; rfl
theorem heldCircle_eq {k n : Nat} {m : Int} (hk : n < k) (hm : 0 ≤ m) (hl : m + n ≤ 1099511627776) : laws_heldCircle.f k (mk m n) m = some (m + n) := by
  unfold laws_heldCircle.f
  rw [heldIntS_eq hk hm hl]
  simp only [Option.bind_some]
  rw [if_neg (by omega)]

theorem FnExactNearestHeard : laws_FnExactNearestHeard.Pure := by
  intro p t _ _ _ _
  by_cases hb : (t.length : Int) > 1048576
  · refine ⟨1, ?_⟩
    unfold laws_FnExactNearestHeard.f
    rw [if_pos hb]
  have hM := nearM_len p t
  have J2 : ∀ k : Nat, 1100000 < k → laws_FnExactNearestHeard.j2 (k + 1) (1 + ((nearM p t).1.length : Int)) false (mk 1 (nearM p t).1.length) = some true := by
    intro k hk
    rw [laws_FnExactNearestHeard.j2, if_neg (by decide), heldCircle_eq (by omega) (by omega) (by omega), Option.bind_some, if_neg (by omega), if_pos rfl]
  have J1 : ∀ k : Nat, 1100001 < k → laws_FnExactNearestHeard.j1 (k + 1) p t (nearM p t).2.1 (nearM p t).2.2 false (nearM p t).1 (nearM p t).1 = some true := by
    intro k hk
    obtain ⟨k, rfl⟩ : ∃ m, k = m + 1 := ⟨k - 1, by omega⟩
    rw [laws_FnExactNearestHeard.j1, if_neg (by decide), markCircle_eq (by omega) (by omega) (by omega), Option.bind_some]
    dsimp only
    rw [heldCircle_eq (by omega) (by omega) (by omega), Option.bind_some, if_neg (by omega), if_pos rfl, toIntS_eq (by omega) (by omega), Option.bind_some, impl_near, Option.bind_some, eqCircle_refl (by omega) (by omega), Option.bind_some, if_pos rfl, if_pos rfl, bne_self_eq_false, J2 k (by omega)]
  have J0 : ∀ k : Nat, 1100002 < k → laws_FnExactNearestHeard.j0 (k + 1) p t (nearM p t).2.1 (nearM p t).2.2 t (nearM p t).2.1 (nearM p t).2.2 false (nearM p t).1 (nearM p t).1 = some true := by
    intro k hk
    obtain ⟨k, rfl⟩ : ∃ m, k = m + 1 := ⟨k - 1, by omega⟩
    rw [laws_FnExactNearestHeard.j0, if_neg (by decide), toIntS_eq (by omega) (by omega), Option.bind_some, eqIntS_refl (by omega) (by omega), Option.bind_some, if_pos rfl, markIntS_eq (by omega) (by omega) (by omega), Option.bind_some]
    dsimp only
    rw [if_neg (by omega), eqCircle_refl (by omega) (by omega), Option.bind_some, if_pos rfl, if_pos rfl, bne_self_eq_false, J1 k (by omega)]
  refine ⟨1200000 + 1, ?_⟩
  unfold laws_FnExactNearestHeard.f
  rw [if_neg hb, toIntS_eq (by omega) (by omega), Option.bind_some, spec_near p t (by omega), Option.bind_some, Option.bind_some, impl_near, Option.bind_some, eqCircle_refl (by omega) (by omega), Option.bind_some, if_pos rfl, if_pos rfl, bne_self_eq_false]
  exact J0 1200000 (by omega)

end Go.Proofs.Ytdcpbnddnbeofaa.Pure
