/- The law FnExactFirstMeeting over numbers and lists alone: the program's FirstMeeting and the reference's give one answer of its own memory, and the wishes stay as they were. Conditions: none. -/
import Derived.Test.YtdcpbnddnbeofaaQFnExactFirstMeetingx7
import Derived.Test.YtdcpbnddnbeofaaVFnExactFirstMeetinga
namespace Go.Proofs.Ytdcpbnddnbeofaa.Pure
open Go.RowKit Go.Proofs.Ytdcpbnddnbeofaa.PFnExactFirstMeeting Go.Proofs.YtdcpbnddnbeofaaW.PrintWords Go.Proofs.YtdcpbnddnbeofaaW.PrintLast Go.Proofs.YtdcpbnddnbeofaaW.PrintMore
set_option linter.unusedVariables false
set_option linter.unusedSimpArgs false

theorem wrap_id {x : Int} (h : -4611686018427387904 ≤ x ∧ x ≤ 4611686018427387904) : wrap64 x = x := by
  unfold wrap64; omega

theorem rd_mid (pre rest : List Int) (p : Int) : rd (pre ++ p :: rest) ((pre.length : Nat) : Int) = p := by
  unfold rd
  simp [List.getD]
theorem rd_getD (l : List Int) (i : Nat) : rd l (i : Int) = l.getD i 0 := by unfold rd; simp
theorem succ_wrap {n : Nat} (h : n ≤ 1099511627776) : wrap64 ((n : Int) + 1) = ((n + 1 : Nat) : Int) := by
  rw [wrap_id (by omega)]; omega
theorem split_at {α : Type} (l : List α) (i : Nat) (h : i ≤ l.length) : ∃ pre rest, l = pre ++ rest ∧ pre.length = i := ⟨l.take i, l.drop i, (List.take_append_drop i l).symm, by simp; omega⟩

def spr : Nat → List Int → Nat → Int → List (List Int)
  | 0, l, n, _ => if n = 0 then [l] else []
  | d + 1, l, n, p => spr d (l ++ [0]) n p ++ (if 0 < n then spr d (l ++ [p]) (n - 1) p else [])
def mkC (l : List Int) : S29 := ⟨l⟩
theorem spr_nil : ∀ (d : Nat) (l : List Int) (n : Nat) (p : Int), d < n → spr d l n p = [] := by
  intro d
  induction d with
  | zero => intro l n p h; rw [spr, if_neg (by omega)]
  | succ d ih => intro l n p h; rw [spr, ih _ _ _ (by omega), if_pos (by omega), ih _ _ _ (by omega)]; rfl
theorem spr_len : ∀ (d : Nat) (l : List Int) (n : Nat) (p : Int), (spr d l n p).length ≤ 2 ^ d := by
  intro d
  induction d with
  | zero => intro l n p; rw [spr]; split <;> simp
  | succ d ih =>
    intro l n p
    rw [spr, List.length_append, Nat.pow_succ]
    have h1 := ih (l ++ [0]) n p
    split
    · have h2 := ih (l ++ [p]) (n - 1) p
      omega
    · simp; omega
theorem impl_spread_eq : ∀ (d k : Nat) (l : List Int) (n : Nat) (p : Int) (xs : List S29), l.length + d = 12 → n ≤ 12 → d < k → xs.length + 2 ^ d ≤ 1000000 → impl_spread.f k l (n : Int) p xs = some (xs ++ (spr d l n p).map mkC) := by
  intro d
  induction d with
  | zero =>
    intro k l n p xs hl hn hk hx
    obtain ⟨k, rfl⟩ : ∃ m, k = m + 1 := ⟨k - 1, by omega⟩
    rw [impl_spread.f, if_pos (by omega), spr]
    by_cases h : n = 0
    · rw [if_pos (by omega), if_pos (by simp at hx; omega), if_pos h]; rfl
    · rw [if_neg (by omega), if_neg h]; simp
  | succ d ih =>
    intro k l n p xs hl hn hk hx
    obtain ⟨k, rfl⟩ : ∃ m, k = m + 1 := ⟨k - 1, by omega⟩
    rw [impl_spread.f, if_neg (by omega)]
    rw [Nat.pow_succ] at hx
    by_cases h : d + 1 < n
    · rw [if_pos (by omega), spr_nil _ _ _ _ h]; simp
    · have h1 := spr_len d (l ++ [0]) n p
      rw [if_neg (by omega), ih k (l ++ [0]) n p xs (by simp; omega) hn (by omega) (by omega), Option.bind_some, spr]
      by_cases h2 : 0 < n
      · rw [if_pos (by omega), if_pos h2, show (n : Int) - 1 = ((n - 1 : Nat) : Int) by omega, ih k (l ++ [p]) (n - 1) p _ (by simp; omega) (by omega) (by omega) (by rw [List.length_append, List.length_map]; omega)]
        rw [List.map_append, List.append_assoc]
      · rw [if_neg (by omega), if_neg h2, List.append_nil]
def fam (p : Int) : List (List Int) := if p = 2 then spr 12 [] 6 2 else if p = 3 then spr 12 [] 4 3 else if p = 4 then spr 12 [] 3 4 else if p = 6 then spr 12 [] 2 6 else if p = 12 then spr 12 [] 1 12 else []
theorem pow12 : 2 ^ 12 ≤ 4096 := by decide
theorem fam_len (p : Int) : (fam p).length ≤ 4096 := by
  have H : ∀ (n : Nat) (q : Int), (spr 12 [] n q).length ≤ 4096 := fun n q => Nat.le_trans (spr_len 12 [] n q) pow12
  unfold fam
  by_cases h2 : p = 2
  · rw [if_pos h2]; exact H 6 2
  rw [if_neg h2]
  by_cases h3 : p = 3
  · rw [if_pos h3]; exact H 4 3
  rw [if_neg h3]
  by_cases h4 : p = 4
  · rw [if_pos h4]; exact H 3 4
  rw [if_neg h4]
  by_cases h6 : p = 6
  · rw [if_pos h6]; exact H 2 6
  rw [if_neg h6]
  by_cases h12 : p = 12
  · rw [if_pos h12]; exact H 1 12
  rw [if_neg h12]; exact Nat.zero_le _
theorem impl_familyOf {k : Nat} (p : Int) (hk : 12 < k) : impl_FamilyOf.f k p = some ((fam p).map mkC) := by
  unfold impl_FamilyOf.f fam
  have H : ∀ (n : Nat) (q : Int), n ≤ 12 → impl_spread.f k [] (n : Int) q [] = some ((spr 12 [] n q).map mkC) := by
    intro n q hn
    rw [impl_spread_eq 12 k [] n q [] (by simp) hn hk (by simp)]; rfl
  by_cases h2 : p = 2
  · subst h2; exact H 6 2 (by omega)
  by_cases h3 : p = 3
  · subst h3; exact H 4 3 (by omega)
  by_cases h4 : p = 4
  · subst h4; exact H 3 4 (by omega)
  by_cases h6 : p = 6
  · subst h6; exact H 2 6 (by omega)
  by_cases h12 : p = 12
  · subst h12; exact H 1 12 (by omega)
  rw [if_neg (by omega), if_neg h2, if_neg h3, if_neg h4, if_neg h6, if_neg h12]; rfl

theorem rdL_mid (pre rest : List S77) (p : S77) : rd_T77 (pre ++ p :: rest) ((pre.length : Nat) : Int) = p := by
  unfold rd_T77
  rw [Int.toNat_natCast, List.getD_eq_getElem?_getD, List.getElem?_append_right (Nat.le_refl _)]
  simp
theorem rdW_mid (pre rest : List S74) (p : S74) : rd_T74 (pre ++ p :: rest) ((pre.length : Nat) : Int) = p := by
  unfold rd_T74
  rw [Int.toNat_natCast, List.getD_eq_getElem?_getD, List.getElem?_append_right (Nat.le_refl _)]
  simp
def toW (x : S77) : S74 := ⟨x.f0, x.f1⟩
theorem toWishS_l0 : ∀ (rest pre : List S77) (k : Nat), rest.length < k → (pre ++ rest).length ≤ 1099511627776 → laws_toWishS.l0 k (pre ++ rest) (pre.map toW ++ List.replicate rest.length z74) ((pre.length : Nat) : Int) = some ((pre ++ rest).map toW) := by
  intro rest
  induction rest with
  | nil =>
    intro pre k hk hl
    obtain ⟨k, rfl⟩ : ∃ m, k = m + 1 := ⟨k - 1, by omega⟩
    rw [laws_toWishS.l0, if_neg (by simp)]; simp
  | cons p rest ih =>
    intro pre k hk hl
    obtain ⟨k, rfl⟩ : ∃ m, k = m + 1 := ⟨k - 1, by omega⟩
    have hl2 : pre.length + rest.length + 1 ≤ 1099511627776 := by simp at hl; omega
    have hk2 : rest.length < k := by simp at hk; omega
    have hlen : ((pre ++ p :: rest).length : Int) = (pre.length : Int) + (rest.length : Int) + 1 := by simp; omega
    have hlr : ((pre.map toW ++ List.replicate (p :: rest).length z74).length : Int) = (pre.length : Int) + (rest.length : Int) + 1 := by simp; omega
    have e := ih (pre ++ [p]) k hk2 (by simp; omega)
    rw [List.append_assoc, List.singleton_append, List.length_append, List.length_singleton, List.map_append, List.map_cons, List.map_nil, List.append_assoc, List.singleton_append] at e
    have hset : (pre.map toW ++ List.replicate (p :: rest).length z74).set (((pre.length : Nat) : Int)).toNat (toW p) = pre.map toW ++ toW p :: List.replicate rest.length z74 := by
      rw [Int.toNat_natCast, List.length_cons, List.replicate_succ, List.set_append_right _ _ (by simp)]
      simp
    rw [laws_toWishS.l0, if_pos (by rw [hlen]; omega), if_pos (by omega), rdL_mid]
    unfold laws_toWish.f
    rw [Option.bind_some, if_pos (by rw [hlr]; omega)]
    change laws_toWishS.l0 k (pre ++ p :: rest) ((pre.map toW ++ List.replicate (p :: rest).length z74).set (((pre.length : Nat) : Int)).toNat (toW p)) (wrap64 (((pre.length : Nat) : Int) + 1)) = _
    rw [hset, succ_wrap (by omega), e]
theorem toWishS_eq {k : Nat} {l : List S77} (hk : l.length < k) (hl : l.length ≤ 1048576) : laws_toWishS.f k l = some (l.map toW) := by
  have e := toWishS_l0 l [] k hk (by simp; omega)
  rw [show ((([] : List S77).length : Nat) : Int) = 0 from rfl, List.nil_append, List.map_nil, List.nil_append] at e
  unfold laws_toWishS.f
  rw [if_pos (by omega), if_pos (by omega), Int.toNat_natCast, e]
theorem eqWishS_l0 : ∀ (rest pre : List S74) (k : Nat), rest.length < k → (pre ++ rest).length ≤ 1099511627776 → laws_eqWishS.l0 k (pre ++ rest) (pre ++ rest) ((pre.length : Nat) : Int) = some true := by
  intro rest
  induction rest with
  | nil =>
    intro pre k hk hl
    obtain ⟨k, rfl⟩ : ∃ m, k = m + 1 := ⟨k - 1, by omega⟩
    rw [laws_eqWishS.l0, if_neg (by simp)]
  | cons p rest ih =>
    intro pre k hk hl
    obtain ⟨k, rfl⟩ : ∃ m, k = m + 1 := ⟨k - 1, by omega⟩
    have hl2 : pre.length + rest.length + 1 ≤ 1099511627776 := by simp at hl; omega
    have hk2 : rest.length < k := by simp at hk; omega
    have hlen : ((pre ++ p :: rest).length : Int) = (pre.length : Int) + (rest.length : Int) + 1 := by simp; omega
    have e := ih (pre ++ [p]) k hk2 (by simp; omega)
    rw [List.append_assoc, List.singleton_append, List.length_append, List.length_singleton] at e
    rw [laws_eqWishS.l0, if_pos (by rw [hlen]; omega), if_pos (by omega), if_pos (by rw [hlen]; omega), rdW_mid]
    unfold laws_eqWish.f
    rw [if_pos rfl, if_pos rfl, Option.bind_some, if_pos rfl, succ_wrap (by omega), e]
theorem eqWishS_refl {k : Nat} {l : List S74} (hk : l.length < k) (hl : l.length ≤ 1048576) : laws_eqWishS.f k l l = some true := by
  have e := eqWishS_l0 l [] k hk (by simp; omega)
  rw [show ((([] : List S74).length : Nat) : Int) = 0 from rfl, List.nil_append] at e
  unfold laws_eqWishS.f
  rw [if_pos rfl, e]
theorem szWishS_big {l : List S77} {n : Int} (hn : 0 ≤ n ∧ n ≤ 1048576) (h : l.length ≤ maxLen) (hb : n < (l.length : Int)) : laws_szWishS.f l n = some (-1) := by
  unfold laws_szWishS.f
  have e : wrap64 (n - (l.length : Int)) = n - (l.length : Int) := by unfold maxLen at h; unfold wrap64; omega
  rw [e, if_pos (by omega)]
theorem szWishS_small {l : List S77} {n : Int} (hn : 0 ≤ n ∧ n ≤ 1048576) (hb : (l.length : Int) ≤ n) : laws_szWishS.f l n = some (n - (l.length : Int)) := by
  unfold laws_szWishS.f
  rw [wrap_id (by omega), if_neg (by omega)]

theorem l01In_eq (a b c : Int) : spec_l01In.f a b c = some (decide (b ≤ a ∧ a ≤ c)) := by
  unfold spec_l01In.f
  by_cases h : b ≤ a <;> simp [h]
theorem within_eq (a b c : Int) : impl_within.f a b c = some (decide (b ≤ a ∧ a ≤ c)) := by
  unfold impl_within.f
  by_cases h : b ≤ a <;> simp [h]

def inR (p : Int) : Bool := decide (0 ≤ p ∧ p ≤ 12)
def circOk (l : List Int) : Bool := l.all inR && (decide (l.length = 12) && (l.sum == 12))
theorem impl_circOk_l0 : ∀ (rest pre : List Int) (s : Int) (k : Nat), rest.length < k → (pre ++ rest).length ≤ 1099511627776 → 0 ≤ s ∧ s ≤ 12 * (pre.length : Int) →
    impl_CircleOk.l0 k s (pre ++ rest) ((pre ++ rest).length : Int) (pre.length : Int) (pre ++ rest) = some (rest.all inR && (decide ((pre ++ rest).length = 12) && (s + rest.sum == 12))) := by
  intro rest
  induction rest with
  | nil =>
    intro pre s k hk hl hs
    obtain ⟨k, rfl⟩ : ∃ m, k = m + 1 := ⟨k - 1, by simp at hk; omega⟩
    simp only [impl_CircleOk.l0]
    rw [if_neg (by simp)]
    by_cases h : (pre ++ ([] : List Int)).length = 12
    · rw [if_pos (by omega)]; simp at h; simp [h]
    · rw [if_neg (by omega)]; simp at h; simp [h]
  | cons p rest ih =>
    intro pre s k hk hl hs
    obtain ⟨k, rfl⟩ : ∃ m, k = m + 1 := ⟨k - 1, by simp at hk; omega⟩
    simp only [impl_CircleOk.l0]
    rw [if_pos (by simp; omega), if_pos (by omega), if_pos (by simp; omega), rd_mid, within_eq]
    simp only [Option.bind_some]
    by_cases hp : 0 ≤ p ∧ p ≤ 12
    · have hl2 : pre.length ≤ 1099511627776 := by simp at hl; omega
      rw [if_pos (by simpa using hp), wrap_id (x := s + p) (by omega), succ_wrap hl2]
      have := ih (pre ++ [p]) (s + p) k (by simp at hk; omega) (by simp at hl ⊢; omega) (by simp; omega)
      have e : pre ++ [p] ++ rest = pre ++ p :: rest := by simp
      have e2 : ((pre ++ [p]).length : Int) = ((pre.length + 1 : Nat) : Int) := by simp
      rw [e, e2] at this
      rw [this]
      have hi : inR p = true := decide_eq_true hp
      simp [hi, Int.add_assoc]
    · rw [if_neg (by simpa using hp)]
      have hi : inR p = false := decide_eq_false hp
      simp [hi]
theorem impl_circOk {k : Nat} {l : List Int} (hk : l.length < k) (hl : l.length ≤ 1099511627776) : impl_CircleOk.f k l = some (circOk l) := by
  have := impl_circOk_l0 l [] 0 k hk (by simpa using hl) (by simp)
  unfold impl_CircleOk.f circOk
  simpa using this
theorem circOk_len {l : List Int} (h : circOk l = true) : l.length = 12 := by
  unfold circOk at h; simp at h; exact h.2.1
theorem circOk_sum {l : List Int} (h : circOk l = true) : l.sum = 12 := by
  unfold circOk at h; simp at h; exact h.2.2
theorem circOk_mem {l : List Int} (h : circOk l = true) : ∀ p ∈ l, 0 ≤ p ∧ p ≤ 12 := by
  unfold circOk at h; simp at h
  intro p hp
  have := h.1 p hp
  exact of_decide_eq_true this

def psum (l : List Int) (i : Int) : Nat → Int
  | 0 => 0
  | n + 1 => psum l i n + l.getD ((i.toNat + n) % 12) 0
theorem getD_range {l : List Int} (h : circOk l = true) (j : Nat) : 0 ≤ l.getD j 0 ∧ l.getD j 0 ≤ 12 := by
  rcases Nat.lt_or_ge j l.length with hj | hj
  · rw [List.getD_eq_getElem?_getD, List.getElem?_eq_getElem hj]
    exact circOk_mem h _ (List.getElem_mem hj)
  · rw [List.getD_eq_getElem?_getD, List.getElem?_eq_none hj]; simp
theorem psum_range {l : List Int} (h : circOk l = true) (i : Int) (n : Nat) : 0 ≤ psum l i n ∧ psum l i n ≤ 12 * n := by
  induction n with
  | zero => simp [psum]
  | succ n ih => have := getD_range h ((i.toNat + n) % 12); simp only [psum]; omega
theorem idx_eq {i : Int} {n : Nat} (hi : 0 ≤ i ∧ i ≤ 11) (hn : n ≤ 100) : Int.tmod (wrap64 (i + (n : Int))) 12 = (((i.toNat + n) % 12 : Nat) : Int) := by
  rw [wrap_id (by omega), Int.tmod_eq_emod_of_nonneg (by omega)]; omega

def isKey (l : List Int) (i : Int) : Bool := circOk l && decide (0 ≤ i ∧ i ≤ 11)
theorem impl_isKey_eq {k : Nat} {l : List Int} (i : Int) (hk : l.length < k) (hl : l.length ≤ 1099511627776) : impl_isKey.f k l i = some (isKey l i) := by
  unfold impl_isKey.f isKey
  rw [impl_circOk hk hl]
  simp only [Option.bind_some, within_eq]
  cases circOk l <;> simp
theorem isKey_parts {l : List Int} {i : Int} (h : isKey l i = true) : circOk l = true ∧ (0 ≤ i ∧ i ≤ 11) := by
  unfold isKey at h
  simp only [Bool.and_eq_true] at h
  exact ⟨h.1, of_decide_eq_true h.2⟩

theorem impl_parts_l0 {l : List Int} (h : circOk l = true) {i : Int} (hi : 0 ≤ i ∧ i ≤ 11) (n : Nat) (hn : n ≤ 100) : ∀ (d m k : Nat), m + d = n → d < k → impl_partsFrom.l0 k i (n : Int) (psum l i m) (m : Int) l = some (psum l i n) := by
  intro d
  induction d with
  | zero =>
    intro m k hm hk
    obtain ⟨k, rfl⟩ : ∃ q, k = q + 1 := ⟨k - 1, by omega⟩
    simp only [impl_partsFrom.l0]
    rw [if_neg (by omega)]
    congr 2
  | succ d ih =>
    intro m k hm hk
    obtain ⟨k, rfl⟩ : ∃ q, k = q + 1 := ⟨k - 1, by omega⟩
    have hl := circOk_len h
    have hg := getD_range h ((i.toNat + m) % 12)
    have hp := psum_range h i m
    have hmod : (i.toNat + m) % 12 < 12 := Nat.mod_lt _ (by omega)
    simp only [impl_partsFrom.l0]
    rw [if_pos (by omega), idx_eq hi (by omega), if_pos (by omega), if_pos (by omega), rd_getD, wrap_id (by omega), succ_wrap (by omega)]
    exact ih (m + 1) k (by omega) (by omega)
def parts (l : List Int) (i : Int) (n : Nat) : Int := if isKey l i = true then psum l i n else 0
theorem impl_partsFrom_eq {k n : Nat} {l : List Int} (i : Int) (hk : l.length < k) (hl : l.length ≤ 1099511627776) (hn : n ≤ 100) (hkn : n < k) : impl_partsFrom.f k l i (n : Int) = some (parts l i n) := by
  unfold impl_partsFrom.f parts
  rw [impl_isKey_eq i hk hl]
  simp only [Option.bind_some]
  by_cases h : isKey l i = true
  · rw [if_pos h, if_pos h]
    obtain ⟨h1, h2⟩ := isKey_parts h
    exact impl_parts_l0 h1 h2 n hn n 0 k (by omega) hkn
  · rw [if_neg h, if_neg h]

theorem impl_thirdParts {k : Nat} {l : List Int} (i : Int) (hk : l.length < k) (hk2 : 5 < k) (hl : l.length ≤ 1099511627776) : impl_ThirdParts.f k l i = some (parts l i 4) := by
  unfold impl_ThirdParts.f
  have := impl_partsFrom_eq (k := k) (n := 4) i hk hl (by omega) (by omega)
  rw [show ((4 : Nat) : Int) = 4 from rfl] at this
  rw [this]; rfl

def inW (w : S74) : Bool := decide (0 ≤ w.f0 ∧ w.f0 ≤ 11)
def okW (l : List Int) (w : S74) : Bool := inW w && decide (¬ psum l w.f0 4 < w.f1)
def meets (l : List Int) (ws : List S74) : Bool := circOk l && (decide (ws.length ≤ 12) && ws.all (okW l))
theorem impl_meets_l1 {l : List Int} (h : circOk l = true) : ∀ (rest pre : List S74) (k : Nat), rest.length + 30 < k → (pre ++ rest).length ≤ 1000 → (∀ w ∈ rest, inW w = true) →
    impl_Meets.l1 k (pre ++ rest) ((pre ++ rest).length : Int) ((pre.length : Nat) : Int) l = some (rest.all (okW l)) := by
  intro rest
  induction rest with
  | nil =>
    intro pre k hk hl hi
    obtain ⟨k, rfl⟩ : ∃ m, k = m + 1 := ⟨k - 1, by omega⟩
    rw [impl_Meets.l1, if_neg (by simp)]; rfl
  | cons w rest ih =>
    intro pre k hk hl hi
    obtain ⟨k, rfl⟩ : ∃ m, k = m + 1 := ⟨k - 1, by omega⟩
    have hl2 : pre.length + rest.length + 1 ≤ 1000 := by simp at hl; omega
    have hk2 : rest.length + 30 < k := by simp at hk; omega
    have hlen : ((pre ++ w :: rest).length : Int) = (pre.length : Int) + (rest.length : Int) + 1 := by simp; omega
    have e := ih (pre ++ [w]) k hk2 (by simp; omega) (fun x hx => hi x (by simp [hx]))
    rw [List.append_assoc, List.singleton_append] at e
    have e2 : (((pre ++ [w]).length : Nat) : Int) = ((pre.length + 1 : Nat) : Int) := by simp
    rw [e2] at e
    have hw := hi w (by simp)
    have hw2 := hw
    unfold inW at hw2
    have hw3 := of_decide_eq_true hw2
    have h12 := circOk_len h
    have hkey : isKey l w.f0 = true := by unfold isKey; rw [h, Bool.true_and]; exact hw2
    have ep : parts l w.f0 4 = psum l w.f0 4 := by unfold parts; rw [if_pos hkey]
    rw [impl_Meets.l1, if_pos (by rw [hlen]; omega), if_pos (by omega), if_pos (by rw [hlen]; omega), rdW_mid, impl_thirdParts _ (by omega) (by omega) (by omega), Option.bind_some, ep, List.all_cons]
    by_cases g : psum l w.f0 4 < w.f1
    · rw [if_pos g]
      have : okW l w = false := by unfold okW; rw [hw, decide_eq_false (by simpa using g)]; rfl
      rw [this, Bool.false_and]
    · rw [if_neg g, succ_wrap (by omega), e]
      have : okW l w = true := by unfold okW; rw [hw, decide_eq_true g]; rfl
      rw [this, Bool.true_and]
theorem impl_meets_l0 {l : List Int} (h : circOk l = true) : ∀ (rest pre : List S74) (k : Nat), rest.length + (pre ++ rest).length + 40 < k → (pre ++ rest).length ≤ 1000 → (∀ w ∈ pre, inW w = true) →
    impl_Meets.l0 k (pre ++ rest) (pre ++ rest) ((pre ++ rest).length : Int) ((pre.length : Nat) : Int) l = some ((pre ++ rest).all (okW l)) := by
  intro rest
  induction rest with
  | nil =>
    intro pre k hk hl hi
    obtain ⟨k, rfl⟩ : ∃ m, k = m + 1 := ⟨k - 1, by omega⟩
    have e := impl_meets_l1 h pre [] k (by simp at hk; omega) (by simpa using hl) hi
    rw [show ((([] : List S74).length : Nat) : Int) = 0 from rfl, List.nil_append] at e
    rw [impl_Meets.l0, if_neg (by simp), List.append_nil, e]
  | cons w rest ih =>
    intro pre k hk hl hi
    obtain ⟨k, rfl⟩ : ∃ m, k = m + 1 := ⟨k - 1, by omega⟩
    have hl2 : pre.length + rest.length + 1 ≤ 1000 := by simp at hl; omega
    have hlen : ((pre ++ w :: rest).length : Int) = (pre.length : Int) + (rest.length : Int) + 1 := by simp; omega
    rw [impl_Meets.l0, if_pos (by rw [hlen]; omega), if_pos (by omega), if_pos (by rw [hlen]; omega), rdW_mid, within_eq, Option.bind_some]
    by_cases g : inW w = true
    · have e := ih (pre ++ [w]) k (by simp at hk ⊢; omega) (by simp; omega) (fun x hx => by
        rcases List.mem_append.1 hx with hx | hx
        · exact hi x hx
        · rw [List.mem_singleton.1 hx]; exact g)
      rw [List.append_assoc, List.singleton_append] at e
      have e2 : (((pre ++ [w]).length : Nat) : Int) = ((pre.length + 1 : Nat) : Int) := by simp
      rw [e2] at e
      unfold inW at g
      rw [if_pos g, succ_wrap (by omega), e]
    · have hf : (pre ++ w :: rest).all (okW l) = false := by
        rw [List.all_append, List.all_cons]
        have : okW l w = false := by unfold okW; rw [Bool.eq_false_iff.2 g]; rfl
        rw [this, Bool.false_and, Bool.and_false]
      unfold inW at g
      rw [if_neg g, hf]
theorem impl_meets {k : Nat} {l : List Int} (ws : List S74) (hk : 2000 < k) (hk2 : l.length < k) (hl : l.length ≤ 1099511627776) : impl_Meets.f k l ws = some (meets l ws) := by
  obtain ⟨k, rfl⟩ : ∃ m, k = m + 1 := ⟨k - 1, by omega⟩
  unfold impl_Meets.f meets
  rw [impl_circOk (by omega) hl, Option.bind_some]
  by_cases h : circOk l = true
  · rw [if_pos h, h, Bool.true_and]
    by_cases g : ws.length ≤ 12
    · have e := impl_meets_l0 h ws [] k (by simp; omega) (by simp; omega) (fun w hw => by cases hw)
      rw [show ((([] : List S74).length : Nat) : Int) = 0 from rfl, List.nil_append] at e
      rw [decide_eq_false (by omega), impl_Meets.j0, if_neg (by decide), e, decide_eq_true g, Bool.true_and]
    · rw [decide_eq_true (by omega), impl_Meets.j0, if_pos rfl, decide_eq_false g, Bool.false_and]
  · rw [if_neg h, impl_Meets.j0, if_pos rfl, Bool.eq_false_iff.2 h, Bool.false_and]

theorem rdC_mid (pre rest : List S29) (p : S29) : rd_T29 (pre ++ p :: rest) ((pre.length : Nat) : Int) = p := by
  unfold rd_T29
  rw [Int.toNat_natCast, List.getD_eq_getElem?_getD, List.getElem?_append_right (Nat.le_refl _)]
  simp
def cnt (ws : List S74) : List S29 → Int → Int
  | [], n => n
  | c :: l, n => cnt ws l (if meets c.f0 ws = true then n + 1 else n)
theorem spr_mem : ∀ (d : Nat) (l : List Int) (n : Nat) (p : Int), ∀ x ∈ spr d l n p, x.length = l.length + d := by
  intro d
  induction d with
  | zero => intro l n p x hx; rw [spr] at hx; split at hx; rw [List.mem_singleton.1 hx]; rfl; cases hx
  | succ d ih =>
    intro l n p x hx
    rw [spr] at hx
    rcases List.mem_append.1 hx with hx | hx
    · have := ih _ _ _ x hx; rw [List.length_append, List.length_singleton] at this; omega
    · split at hx
      · have := ih _ _ _ x hx; rw [List.length_append, List.length_singleton] at this; omega
      · cases hx
theorem fam_mem {p : Int} : ∀ x ∈ fam p, x.length = 12 := by
  intro x hx
  have H : ∀ (n : Nat) (q : Int), x ∈ spr 12 [] n q → x.length = 12 := fun n q h => by have := spr_mem 12 [] n q x h; simpa using this
  unfold fam at hx
  by_cases h2 : p = 2
  · rw [if_pos h2] at hx; exact H _ _ hx
  rw [if_neg h2] at hx
  by_cases h3 : p = 3
  · rw [if_pos h3] at hx; exact H _ _ hx
  rw [if_neg h3] at hx
  by_cases h4 : p = 4
  · rw [if_pos h4] at hx; exact H _ _ hx
  rw [if_neg h4] at hx
  by_cases h6 : p = 6
  · rw [if_pos h6] at hx; exact H _ _ hx
  rw [if_neg h6] at hx
  by_cases h12 : p = 12
  · rw [if_pos h12] at hx; exact H _ _ hx
  rw [if_neg h12] at hx; cases hx
theorem famC_mem {p : Int} : ∀ c ∈ (fam p).map mkC, c.f0.length ≤ 1000 := by
  intro c hc
  obtain ⟨x, hx, rfl⟩ := List.mem_map.1 hc
  have := fam_mem x hx
  show x.length ≤ 1000
  omega

theorem spec_circOk_l0 : ∀ (rest pre : List Int) (s : Int) (k : Nat), rest.length < k → (pre ++ rest).length ≤ 1099511627776 → 0 ≤ s ∧ s ≤ 12 * (pre.length : Int) →
    spec_CircleOk.l0 k s (pre.length : Int) (pre ++ rest) = some (rest.all inR && (decide ((pre ++ rest).length = 12) && (s + rest.sum == 12))) := by
  intro rest
  induction rest with
  | nil =>
    intro pre s k hk hl hs
    obtain ⟨k, rfl⟩ : ∃ m, k = m + 1 := ⟨k - 1, by simp at hk; omega⟩
    simp only [spec_CircleOk.l0]
    rw [if_neg (by simp)]
    by_cases h : (pre ++ ([] : List Int)).length = 12
    · rw [if_pos (by omega)]; simp at h; simp [h]
    · rw [if_neg (by omega)]; simp at h; simp [h]
  | cons p rest ih =>
    intro pre s k hk hl hs
    obtain ⟨k, rfl⟩ : ∃ m, k = m + 1 := ⟨k - 1, by simp at hk; omega⟩
    simp only [spec_CircleOk.l0]
    rw [if_pos (by simp; omega), if_pos (by omega), rd_mid, l01In_eq]
    simp only [Option.bind_some]
    by_cases hp : 0 ≤ p ∧ p ≤ 12
    · have hl2 : pre.length ≤ 1099511627776 := by simp at hl; omega
      rw [if_pos (by simpa using hp), wrap_id (x := s + p) (by omega), succ_wrap hl2]
      have := ih (pre ++ [p]) (s + p) k (by simp at hk; omega) (by simp at hl ⊢; omega) (by simp; omega)
      have e : pre ++ [p] ++ rest = pre ++ p :: rest := by simp
      have e2 : ((pre ++ [p]).length : Int) = ((pre.length + 1 : Nat) : Int) := by simp
      rw [e, e2] at this
      rw [this]
      have hi : inR p = true := decide_eq_true hp
      simp [hi, Int.add_assoc]
    · rw [if_neg (by simpa using hp)]
      have hi : inR p = false := decide_eq_false hp
      simp [hi]
theorem spec_circOk {k : Nat} {l : List Int} (hk : l.length < k) (hl : l.length ≤ 1099511627776) : spec_CircleOk.f k l = some (circOk l) := by
  have := spec_circOk_l0 l [] 0 k hk (by simpa using hl) (by simp)
  unfold spec_CircleOk.f circOk
  simpa using this

theorem spec_l13_l0 {l : List Int} (h : circOk l = true) {i : Int} (hi : 0 ≤ i ∧ i ≤ 11) (n : Nat) (hn : n ≤ 100) : ∀ (d m k : Nat), m + d = n → d < k → spec_l13Sum.l0 k i (n : Int) (psum l i m) (m : Int) l = some (psum l i n) := by
  intro d
  induction d with
  | zero =>
    intro m k hm hk
    obtain ⟨k, rfl⟩ : ∃ q, k = q + 1 := ⟨k - 1, by omega⟩
    simp only [spec_l13Sum.l0]
    rw [if_neg (by omega)]
    congr 2
  | succ d ih =>
    intro m k hm hk
    obtain ⟨k, rfl⟩ : ∃ q, k = q + 1 := ⟨k - 1, by omega⟩
    have hl := circOk_len h
    have hg := getD_range h ((i.toNat + m) % 12)
    have hp := psum_range h i m
    have hmod : (i.toNat + m) % 12 < 12 := Nat.mod_lt _ (by omega)
    simp only [spec_l13Sum.l0]
    rw [if_pos (by omega), idx_eq hi (by omega), if_pos (by omega), if_pos (by omega), rd_getD, wrap_id (by omega), succ_wrap (by omega)]
    exact ih (m + 1) k (by omega) (by omega)
theorem spec_l13Sum_eq {l : List Int} (h : circOk l = true) {i : Int} (hi : 0 ≤ i ∧ i ≤ 11) {k n : Nat} (hn : n ≤ 100) (hk : n < k) : spec_l13Sum.f k l i (n : Int) = some (psum l i n) := by
  unfold spec_l13Sum.f
  exact spec_l13_l0 h hi n hn n 0 k (by omega) hk

theorem spec_meets_l0 {l : List Int} (h : circOk l = true) : ∀ (rest pre : List S74) (k : Nat), rest.length + 40 < k → (pre ++ rest).length ≤ 1000 →
    spec_Meets.l0 k (pre ++ rest) ((pre.length : Nat) : Int) l = some (rest.all (okW l)) := by
  intro rest
  induction rest with
  | nil =>
    intro pre k hk hl
    obtain ⟨k, rfl⟩ : ∃ m, k = m + 1 := ⟨k - 1, by omega⟩
    rw [spec_Meets.l0, if_neg (by simp)]; rfl
  | cons w rest ih =>
    intro pre k hk hl
    obtain ⟨k, rfl⟩ : ∃ m, k = m + 1 := ⟨k - 1, by omega⟩
    have hl2 : pre.length + rest.length + 1 ≤ 1000 := by simp at hl; omega
    have hk2 : rest.length + 40 < k := by simp at hk; omega
    have hlen : ((pre ++ w :: rest).length : Int) = (pre.length : Int) + (rest.length : Int) + 1 := by simp; omega
    have e := ih (pre ++ [w]) k hk2 (by simp; omega)
    rw [List.append_assoc, List.singleton_append] at e
    have e2 : (((pre ++ [w]).length : Nat) : Int) = ((pre.length + 1 : Nat) : Int) := by simp
    rw [e2] at e
    rw [spec_Meets.l0, if_pos (by rw [hlen]; omega), if_pos (by omega), rdW_mid, l01In_eq, Option.bind_some, List.all_cons]
    by_cases hw : inW w = true
    · have hw2 := hw
      unfold inW at hw2
      have hw3 := of_decide_eq_true hw2
      rw [if_pos hw2, show (4 : Int) = ((4 : Nat) : Int) from rfl, spec_l13Sum_eq h hw3 (by omega) (by omega), Option.bind_some]
      by_cases g : psum l w.f0 4 < w.f1
      · rw [if_pos g]
        have : okW l w = false := by unfold okW; rw [hw, decide_eq_false (by simpa using g)]; rfl
        rw [this, Bool.false_and]
      · rw [if_neg g, succ_wrap (by omega), e]
        have : okW l w = true := by unfold okW; rw [hw, decide_eq_true g]; rfl
        rw [this, Bool.true_and]
    · have : okW l w = false := by unfold okW; rw [Bool.eq_false_iff.2 hw]; rfl
      unfold inW at hw
      rw [if_neg hw, this, Bool.false_and]
theorem spec_meets {k : Nat} {l : List Int} (ws : List S74) (hk : 2000 < k) (hk2 : l.length < k) (hl : l.length ≤ 1099511627776) : spec_Meets.f k l ws = some (meets l ws) := by
  obtain ⟨k, rfl⟩ : ∃ m, k = m + 1 := ⟨k - 1, by omega⟩
  unfold spec_Meets.f meets
  rw [spec_circOk (by omega) hl, Option.bind_some]
  by_cases h : circOk l = true
  · rw [if_pos h, h, Bool.true_and]
    by_cases g : ws.length ≤ 12
    · have e := spec_meets_l0 h ws [] k (by omega) (by simp; omega)
      rw [show ((([] : List S74).length : Nat) : Int) = 0 from rfl, List.nil_append] at e
      rw [decide_eq_false (by omega), spec_Meets.j0, if_neg (by decide), e, decide_eq_true g, Bool.true_and]
    · rw [decide_eq_true (by omega), spec_Meets.j0, if_pos rfl, decide_eq_false g, Bool.false_and]
  · rw [if_neg h, spec_Meets.j0, if_pos rfl, Bool.eq_false_iff.2 h, Bool.false_and]

theorem spec_copy {l : List Int} (h : l.length ≤ 1000) : spec_l02Copy.f l = some l := by
  unfold spec_l02Copy.f
  rw [Option.bind_some, if_pos (by simp; omega)]; rfl
theorem spec_family_eq {p : Int} (hp : 1 ≤ p ∧ p ≤ 12) : ∀ (d k : Nat) (l : List Int) (n : Nat), l.length + d = 12 → n ≤ 12 → d < k → spec_l14Family.f k p l ((n : Int) * p) = some ((spr d l n p).map mkC) := by
  intro d
  induction d with
  | zero =>
    intro k l n hl hn hk
    obtain ⟨k, rfl⟩ : ∃ m, k = m + 1 := ⟨k - 1, by omega⟩
    rw [spec_l14Family.f, if_pos (by omega), spr]
    by_cases h : n = 0
    · subst h
      rw [if_neg (by simp), spec_copy (by omega), Option.bind_some, if_pos rfl]; rfl
    · have : 0 < (n : Int) * p := Int.mul_pos (by omega) (by omega)
      rw [if_pos (by omega), if_neg h]; rfl
  | succ d ih =>
    intro k l n hl hn hk
    obtain ⟨k, rfl⟩ : ∃ m, k = m + 1 := ⟨k - 1, by omega⟩
    have q1 := spr_len d (l ++ [0]) n p
    have q2 := spr_len d (l ++ [p]) (n - 1) p
    have q3 : 2 ^ d ≤ 2 ^ 12 := Nat.pow_le_pow_right (by decide) (by omega)
    have q4 : 2 ^ 12 = 4096 := by decide
    rw [spec_l14Family.f, if_neg (by omega), spec_copy (by omega), Option.bind_some, if_pos (by omega), ih k (l ++ [0]) n (by simp; omega) hn (by omega), Option.bind_some, spr]
    by_cases h2 : 0 < n
    · have e : (n : Int) * p - p = ((n - 1 : Nat) : Int) * p := by
        rw [show ((n - 1 : Nat) : Int) = (n : Int) - 1 by omega, Int.sub_mul, Int.one_mul]
      have m1 : 0 ≤ ((n - 1 : Nat) : Int) * p := Int.mul_nonneg (by omega) (by omega)
      have m2 : ((n - 1 : Nat) : Int) * p ≤ 12 * 12 := Int.mul_le_mul (by omega) (by omega) (by omega) (by omega)
      rw [if_pos (by omega), Option.bind_some, if_pos (by omega), wrap_id (by omega), e, ih k (l ++ [p]) (n - 1) (by simp; omega) (by omega) (by omega), Option.bind_some, if_pos (by rw [List.length_map, List.length_map]; omega), if_pos h2, List.map_append]
    · have h0 : n = 0 := by omega
      subst h0
      rw [if_neg (by simp; omega), if_neg (by omega), List.append_nil]
theorem spec_familyOf {k : Nat} (p : Int) (hk : 12 < k) : spec_FamilyOf.f k p = some ((fam p).map mkC) := by
  unfold spec_FamilyOf.f fam
  rw [l01In_eq, Option.bind_some]
  have H : ∀ (n : Nat) (q : Int), n ≤ 12 → (1 ≤ q ∧ q ≤ 12) → (n : Int) * q = 12 → ((spec_l14Family.f k q (([] : List Int)) 12).bind fun t => some t) = some ((spr 12 [] n q).map mkC) := by
    intro n q hn hq e
    rw [← e, spec_family_eq hq 12 k [] n (by simp) hn hk]; rfl
  by_cases h : 2 ≤ p ∧ p ≤ 12
  · rw [if_pos (decide_eq_true h), if_neg (by omega)]
    have hp : p = 2 ∨ p = 3 ∨ p = 4 ∨ p = 5 ∨ p = 6 ∨ p = 7 ∨ p = 8 ∨ p = 9 ∨ p = 10 ∨ p = 11 ∨ p = 12 := by omega
    rcases hp with rfl | rfl | rfl | rfl | rfl | rfl | rfl | rfl | rfl | rfl | rfl
    · rw [if_pos (by decide), H 6 2 (by omega) (by omega) (by decide)]; rfl
    · rw [if_pos (by decide), H 4 3 (by omega) (by omega) (by decide)]; rfl
    · rw [if_pos (by decide), H 3 4 (by omega) (by omega) (by decide)]; rfl
    · rw [if_neg (by decide)]; rfl
    · rw [if_pos (by decide), H 2 6 (by omega) (by omega) (by decide)]; rfl
    · rw [if_neg (by decide)]; rfl
    · rw [if_neg (by decide)]; rfl
    · rw [if_neg (by decide)]; rfl
    · rw [if_neg (by decide)]; rfl
    · rw [if_neg (by decide)]; rfl
    · rw [if_pos (by decide), H 1 12 (by omega) (by omega) (by decide)]; rfl
  · rw [if_neg (by simpa using h), if_neg (by omega), if_neg (by omega), if_neg (by omega), if_neg (by omega), if_neg (by omega)]; rfl

def fst1 (ws : List S74) : List S29 → List Int × Bool
  | [] => ([], false)
  | c :: l => if meets c.f0 ws = true then (c.f0, true) else fst1 ws l
theorem fst1_len (ws : List S74) : ∀ (l : List S29), (∀ c ∈ l, c.f0.length ≤ 1000) → (fst1 ws l).1.length ≤ 1000 := by
  intro l
  induction l with
  | nil => intro _; simp [fst1]
  | cons c l ih =>
    intro h
    rw [fst1]
    split
    · exact h c (by simp)
    · exact ih (fun x hx => h x (by simp [hx]))
theorem impl_first_l0 (ws : List S74) : ∀ (rest pre : List S29) (k : Nat), rest.length + 2100 < k → (pre ++ rest).length ≤ 10000 → (∀ c ∈ rest, c.f0.length ≤ 1000) →
    impl_FirstMeeting.l0 k ws (pre ++ rest) ((pre ++ rest).length : Int) ((pre.length : Nat) : Int) = some (fst1 ws rest) := by
  intro rest
  induction rest with
  | nil =>
    intro pre k hk hl hc
    obtain ⟨k, rfl⟩ : ∃ m, k = m + 1 := ⟨k - 1, by omega⟩
    rw [impl_FirstMeeting.l0, if_neg (by simp)]; rfl
  | cons c rest ih =>
    intro pre k hk hl hc
    obtain ⟨k, rfl⟩ : ∃ m, k = m + 1 := ⟨k - 1, by omega⟩
    have hl2 : pre.length + rest.length + 1 ≤ 10000 := by simp at hl; omega
    have hk2 : rest.length + 2100 < k := by simp at hk; omega
    have hlen : ((pre ++ c :: rest).length : Int) = (pre.length : Int) + (rest.length : Int) + 1 := by simp; omega
    have hc1 := hc c (by simp)
    have e := ih (pre ++ [c]) k hk2 (by simp; omega) (fun x hx => hc x (by simp [hx]))
    have e2 : (((pre ++ [c]).length : Nat) : Int) = ((pre.length + 1 : Nat) : Int) := by simp
    rw [List.append_assoc, List.singleton_append, e2] at e
    rw [impl_FirstMeeting.l0, if_pos (by rw [hlen]; omega), if_pos (by omega), if_pos (by rw [hlen]; omega), rdC_mid, impl_meets _ (by omega) (by omega) (by omega), Option.bind_some, succ_wrap (by omega), fst1]
    by_cases g : meets c.f0 ws = true
    · rw [if_pos g, if_pos g]
    · rw [if_neg g, if_neg g, e]
theorem spec_first_l0 (ws : List S74) : ∀ (rest pre : List S29) (k : Nat), rest.length + 2100 < k → (pre ++ rest).length ≤ 10000 → (∀ c ∈ rest, c.f0.length ≤ 1000) →
    spec_FirstMeeting.l0 k ws (pre ++ rest) ((pre.length : Nat) : Int) = some (fst1 ws rest) := by
  intro rest
  induction rest with
  | nil =>
    intro pre k hk hl hc
    obtain ⟨k, rfl⟩ : ∃ m, k = m + 1 := ⟨k - 1, by omega⟩
    rw [spec_FirstMeeting.l0, if_neg (by simp)]; rfl
  | cons c rest ih =>
    intro pre k hk hl hc
    obtain ⟨k, rfl⟩ : ∃ m, k = m + 1 := ⟨k - 1, by omega⟩
    have hl2 : pre.length + rest.length + 1 ≤ 10000 := by simp at hl; omega
    have hk2 : rest.length + 2100 < k := by simp at hk; omega
    have hlen : ((pre ++ c :: rest).length : Int) = (pre.length : Int) + (rest.length : Int) + 1 := by simp; omega
    have hc1 := hc c (by simp)
    have e := ih (pre ++ [c]) k hk2 (by simp; omega) (fun x hx => hc x (by simp [hx]))
    have e2 : (((pre ++ [c]).length : Nat) : Int) = ((pre.length + 1 : Nat) : Int) := by simp
    rw [List.append_assoc, List.singleton_append, e2] at e
    rw [spec_FirstMeeting.l0, if_pos (by rw [hlen]; omega), if_pos (by omega), rdC_mid, spec_meets _ (by omega) (by omega) (by omega), Option.bind_some, succ_wrap (by omega), fst1]
    by_cases g : meets c.f0 ws = true
    · rw [if_pos g, if_pos g]
    · rw [if_neg g, if_neg g, e]
def firstM (p : Int) (ws : List S74) : List Int × Bool := fst1 ws ((fam p).map mkC)
theorem firstM_len (p : Int) (ws : List S74) : (firstM p ws).1.length ≤ 1000 := fst1_len ws _ famC_mem
theorem impl_first {k : Nat} (p : Int) (ws : List S74) (hk : 10000 < k) : impl_FirstMeeting.f k p ws = some (firstM p ws) := by
  unfold impl_FirstMeeting.f firstM
  have hl := fam_len p
  have e := impl_first_l0 ws ((fam p).map mkC) [] k (by rw [List.length_map]; omega) (by rw [List.nil_append, List.length_map]; omega) famC_mem
  rw [show ((([] : List S29).length : Nat) : Int) = 0 from rfl, List.nil_append] at e
  rw [impl_familyOf _ (by omega), Option.bind_some, e]
theorem spec_first {k : Nat} (p : Int) (ws : List S74) (hk : 10000 < k) : spec_FirstMeeting.f k p ws = some (firstM p ws) := by
  unfold spec_FirstMeeting.f firstM
  have hl := fam_len p
  have e := spec_first_l0 ws ((fam p).map mkC) [] k (by rw [List.length_map]; omega) (by rw [List.nil_append, List.length_map]; omega) famC_mem
  rw [show ((([] : List S29).length : Nat) : Int) = 0 from rfl, List.nil_append] at e
  rw [spec_familyOf _ (by omega), Option.bind_some, e]
theorem markWishS_l0 : ∀ (d i : Nat) (x0 : List S74) (m : Int) (k : Nat), i + d = x0.length → d < k → x0.length ≤ 1099511627776 → 0 ≤ m → m + 2 * d ≤ 4398046511104 → ∃ y, laws_markWishS.l0 k x0 m (i : Int) = some (m + 2 * d, y) := by
  intro d
  induction d with
  | zero =>
    intro i x0 m k hi hk hl hm hb
    obtain ⟨k, rfl⟩ : ∃ q, k = q + 1 := ⟨k - 1, by omega⟩
    refine ⟨x0, ?_⟩
    rw [laws_markWishS.l0, if_neg (by omega)]; simp
  | succ d ih =>
    intro i x0 m k hi hk hl hm hb
    obtain ⟨k, rfl⟩ : ∃ q, k = q + 1 := ⟨k - 1, by omega⟩
    rw [laws_markWishS.l0, if_pos (by omega), if_pos (by omega), Option.bind_some, wrap_id (x := m + 1) (by omega), wrap_id (x := m + 1 + 1) (by omega), succ_wrap (by omega)]
    obtain ⟨y, e⟩ := ih (i + 1) ((x0.set (i : Int).toNat (⟨m, (rd_T74 x0 i).f1⟩ : S74)).set (i : Int).toNat (⟨(rd_T74 (x0.set (i : Int).toNat (⟨m, (rd_T74 x0 i).f1⟩ : S74)) i).f0, m + 1⟩ : S74)) (m + 1 + 1) k (by rw [List.length_set, List.length_set]; omega) (by omega) (by rw [List.length_set, List.length_set]; omega) (by omega) (by omega)
    exact ⟨y, by rw [e]; congr 2; omega⟩
theorem markWishS_eq {k : Nat} {l : List S74} (hk : l.length < k) (hl : l.length ≤ 1048576) : ∃ y, laws_markWishS.f k l 1 = some (1 + 2 * (l.length : Int), y) := by
  unfold laws_markWishS.f
  exact markWishS_l0 l.length 0 l 1 k (by omega) hk (by omega) (by omega) (by omega)

def mk : Int → Nat → List Int
  | _, 0 => []
  | m, n + 1 => m :: mk (m + 1) n
theorem mk_length (m : Int) (n : Nat) : (mk m n).length = n := by
  induction n generalizing m with
  | zero => rfl
  | succ n ih => simp [mk, ih]
theorem markIntS_l0 : ∀ (rest pre : List Int) (m : Int) (k : Nat), rest.length < k → (pre ++ rest).length ≤ 1099511627776 → 0 ≤ m → m + rest.length ≤ 1099511627776 →
    laws_markIntS.l0 k (pre ++ rest) m (pre.length : Int) = some (m + rest.length, pre ++ mk m rest.length) := by
  intro rest
  induction rest with
  | nil =>
    intro pre m k hk _ _ _
    obtain ⟨k, rfl⟩ : ∃ m, k = m + 1 := ⟨k - 1, by simp at hk; omega⟩
    simp only [laws_markIntS.l0]
    rw [if_neg (by simp)]
    simp [mk]
  | cons p rest ih =>
    intro pre m k hk hl hm hm2
    obtain ⟨k, rfl⟩ : ∃ m, k = m + 1 := ⟨k - 1, by simp at hk; omega⟩
    simp only [List.length_cons] at hm2
    simp only [laws_markIntS.l0]
    rw [if_pos (by simp; omega), if_pos (by omega), wrap_id (x := m + 1) (by omega), succ_wrap (by simp at hl; omega)]
    have e : (pre ++ p :: rest).set ((pre.length : Int)).toNat m = (pre ++ [m]) ++ rest := by simp
    rw [e]
    have := ih (pre ++ [m]) (m + 1) k (by simp at hk; omega) (by simp at hl ⊢; omega) (by omega) (by omega)
    have e2 : ((pre ++ [m]).length : Int) = ((pre.length + 1 : Nat) : Int) := by simp
    rw [e2] at this
    rw [this]
    simp [mk]; omega
theorem markIntS_eq {k : Nat} {l : List Int} {m : Int} (hk : l.length < k) (hm : 0 ≤ m) (hl : m + l.length ≤ 1099511627776) : laws_markIntS.f k l m = some (m + l.length, mk m l.length) := by
  unfold laws_markIntS.f
  have := markIntS_l0 l [] m k hk (by simp; omega) hm hl
  simpa using this
theorem heldIntS_l0 : ∀ (n : Nat) (pre : List Int) (m : Int) (k : Nat), n < k → pre.length + n ≤ 1099511627776 → 0 ≤ m → m + n ≤ 1099511627776 →
    laws_heldIntS.l0 k (pre ++ mk m n) m (pre.length : Int) = some (m + n) := by
  intro n
  induction n with
  | zero =>
    intro pre m k hk _ _ _
    obtain ⟨k, rfl⟩ : ∃ m, k = m + 1 := ⟨k - 1, by omega⟩
    rw [show mk m 0 = [] from rfl]
    simp only [laws_heldIntS.l0]
    rw [if_neg (by simp)]
    simp
  | succ n ih =>
    intro pre m k hk hl hm hm2
    obtain ⟨k, rfl⟩ : ∃ m, k = m + 1 := ⟨k - 1, by omega⟩
    rw [show mk m (n + 1) = m :: mk (m + 1) n from rfl]
    simp only [laws_heldIntS.l0]
    rw [if_pos (by simp; omega), if_pos (by omega), rd_mid, if_pos rfl, wrap_id (x := m + 1) (by omega), succ_wrap (by omega)]
    have := ih (pre ++ [m]) (m + 1) k (by omega) (by simp; omega) (by omega) (by omega)
    have e2 : ((pre ++ [m]).length : Int) = ((pre.length + 1 : Nat) : Int) := by simp
    have e3 : pre ++ [m] ++ mk (m + 1) n = pre ++ m :: mk (m + 1) n := by simp
    rw [e2, e3] at this
    rw [this]
    congr 1; omega
theorem heldIntS_eq {k n : Nat} {m : Int} (hk : n < k) (hm : 0 ≤ m) (hl : m + n ≤ 1099511627776) : laws_heldIntS.f k (mk m n) m = some (m + n) := by
  unfold laws_heldIntS.f
  have := heldIntS_l0 n [] m k hk (by simp; omega) hm hl
  simpa using this

theorem markCircle_eq {k : Nat} {l : List Int} {m : Int} (hk : l.length < k) (hm : 0 ≤ m) (hl : m + l.length ≤ 1099511627776) : laws_markCircle.f k l m = some (m + l.length, mk m l.length) := by
  unfold laws_markCircle.f
  rw [markIntS_eq hk hm hl]; rfl
theorem heldCircle_eq {k n : Nat} {m : Int} (hk : n < k) (hm : 0 ≤ m) (hl : m + n ≤ 1099511627776) : laws_heldCircle.f k (mk m n) m = some (m + n) := by
  unfold laws_heldCircle.f
  rw [heldIntS_eq hk hm hl]
  simp only [Option.bind_some]
  rw [if_neg (by omega)]

theorem eqIntS_l0 : ∀ (rest pre : List Int) (k : Nat), rest.length < k → (pre ++ rest).length ≤ 1099511627776 → laws_eqIntS.l0 k (pre ++ rest) (pre ++ rest) (pre.length : Int) = some true := by
  intro rest
  induction rest with
  | nil =>
    intro pre k hk _
    obtain ⟨k, rfl⟩ : ∃ m, k = m + 1 := ⟨k - 1, by simp at hk; omega⟩
    simp only [laws_eqIntS.l0]
    rw [if_neg (by simp)]
  | cons p rest ih =>
    intro pre k hk hl
    obtain ⟨k, rfl⟩ : ∃ m, k = m + 1 := ⟨k - 1, by simp at hk; omega⟩
    simp only [laws_eqIntS.l0]
    rw [if_pos (by simp; omega), if_pos (by omega), if_pos (by simp; omega), if_pos trivial, succ_wrap (by simp at hl; omega)]
    have := ih (pre ++ [p]) k (by simp at hk; omega) (by simp at hl ⊢; omega)
    simpa using this
theorem eqIntS_refl {k : Nat} {l : List Int} (hk : l.length < k) (hl : l.length ≤ 1099511627776) : laws_eqIntS.f k l l = some true := by
  unfold laws_eqIntS.f
  rw [if_pos rfl]
  have := eqIntS_l0 l [] k hk (by simpa using hl)
  simpa using this

theorem eqCircle_refl {k : Nat} {l : List Int} (hk : l.length < k) (hl : l.length ≤ 1099511627776) : laws_eqCircle.f k l l = some true := by
  unfold laws_eqCircle.f
  rw [eqIntS_refl hk hl]; rfl

theorem FnExactFirstMeeting (p : Int) (ws : List S77) (_ : (Lit.int .i64 p).wf = true) (hm : ws.length ≤ maxLen) : ∃ k, laws_FnExactFirstMeeting.f k p ws = some true := by
  by_cases hb : 1048576 < (ws.length : Int)
  · refine ⟨1, ?_⟩
    unfold laws_FnExactFirstMeeting.f
    rw [szWishS_big (by omega) hm hb]; rfl
  refine ⟨1048600, ?_⟩
  have h2 : ws.length < 1048577 := by omega
  have hc := firstM_len p (ws.map toW)
  have hw : (ws.map toW).length = ws.length := List.length_map _
  obtain ⟨y, hy⟩ := markWishS_eq (l := ws.map toW) (k := 1048599) (by omega) (by omega)
  unfold laws_FnExactFirstMeeting.f
  rw [szWishS_small (by omega) (by omega), Option.bind_some, if_neg (by omega), toWishS_eq (by omega) (by omega), Option.bind_some, spec_first _ _ (by omega), Option.bind_some, Option.bind_some, impl_first _ _ (by omega), Option.bind_some, eqCircle_refl (by omega) (by omega), Option.bind_some, if_pos rfl]
  have hI := impl_first p (ws.map toW) (k := 1048598) (by omega)
  generalize firstM p (ws.map toW) = r at *
  obtain ⟨c, b⟩ := r
  dsimp only at hc ⊢
  rw [show (1048600 : Nat) = 1048599 + 1 from rfl, laws_FnExactFirstMeeting.j0, if_neg (by cases b <;> decide), toWishS_eq (by omega) (by omega), Option.bind_some, eqWishS_refl (by omega) (by omega), Option.bind_some, if_pos rfl, hy, Option.bind_some, if_neg (by dsimp only; omega), eqCircle_refl (by omega) (by omega), Option.bind_some, if_pos rfl]
  rw [show (1048599 : Nat) = 1048598 + 1 from rfl, laws_FnExactFirstMeeting.j1, if_neg (by cases b <;> decide), markCircle_eq (by omega) (by omega) (by omega), Option.bind_some]
  dsimp only
  rw [heldCircle_eq (by omega) (by omega) (by omega), Option.bind_some, if_neg (by omega), if_pos rfl, toWishS_eq (by omega) (by omega), Option.bind_some, hI, Option.bind_some]
  dsimp only
  rw [eqCircle_refl (by omega) (by omega), Option.bind_some, if_pos rfl]
  rw [show (1048598 : Nat) = 1048597 + 1 from rfl, laws_FnExactFirstMeeting.j2, if_neg (by cases b <;> decide), heldCircle_eq (by omega) (by omega) (by omega), Option.bind_some, if_neg (by omega), if_pos rfl]

end Go.Proofs.Ytdcpbnddnbeofaa.Pure
