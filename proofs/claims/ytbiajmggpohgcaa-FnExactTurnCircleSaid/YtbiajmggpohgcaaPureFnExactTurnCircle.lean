/- The law FnExactTurnCircle over numbers and lists alone: the program's TurnCircle and the reference's give one answer, new each time, and the circle stays as it was. Conditions: none. -/
import Derived.Test.YtbiajmggpohgcaaQFnExactTurnCirclex4
import Derived.Test.YtbiajmggpohgcaaWMore
namespace Go.Proofs.Ytbiajmggpohgcaa.Pure
open Go.RowKit Go.Proofs.Ytbiajmggpohgcaa.PFnExactTurnCircle Go.Proofs.YtbiajmggpohgcaaW.PrintWords Go.Proofs.YtbiajmggpohgcaaW.PrintLast Go.Proofs.YtbiajmggpohgcaaW.PrintMore
set_option linter.unusedVariables false
set_option linter.unusedSimpArgs false

theorem wrap_id {x : Int} (h : -4611686018427387904 ≤ x ∧ x ≤ 4611686018427387904) : wrap64 x = x := by
  unfold wrap64; omega

theorem rd_mid (pre rest : List Int) (p : Int) : rd (pre ++ p :: rest) ((pre.length : Nat) : Int) = p := by
  unfold rd
  simp [List.getD]
theorem rd_getD (l : List Int) (i : Nat) : rd l (i : Int) = l.getD i 0 := by unfold rd; simp
theorem succ_wrap {n : Nat} (h : n ≤ 1099511627776) : wrap64 ((n : Int) + 1) = ((n + 1 : Nat) : Int) := by
  rw [wrap_id (by omega)]; omega
theorem split_at {α : Type} (l : List α) (i : Nat) (h : i ≤ l.length) : ∃ pre rest, l = pre ++ rest ∧ pre.length = i := ⟨l.take i, l.drop i, (List.take_append_drop i l).symm, by simp; omega⟩

theorem l01In_eq (a b c : Int) : spec_l01In.f a b c = some (decide (b ≤ a ∧ a ≤ c)) := by
  unfold spec_l01In.f
  by_cases h : b ≤ a <;> simp [h]
theorem within_eq (a b c : Int) : impl_within.f a b c = some (decide (b ≤ a ∧ a ≤ c)) := by
  unfold impl_within.f
  by_cases h : b ≤ a <;> simp [h]

def inR (p : Int) : Bool := decide (0 ≤ p ∧ p ≤ 12)
def circOk (l : List Int) : Bool := l.all inR && (decide (l.length = 12) && (l.sum == 12))
theorem impl_circOk_l0 : ∀ (rest pre : List Int) (s : Int) (k : Nat), rest.length < k → (pre ++ rest).length ≤ 1099511627776 → 0 ≤ s ∧ s ≤ 12 * (pre.length : Int) →
    impl_CircleOk.l0 k s (pre ++ rest) ((pre ++ rest).length : Int) (pre.length : Int) (pre ++ rest) = some (rest.all inR && (decide ((pre ++ rest).length = 12) && (s + rest.sum == 12))) := by
  intro rest
  induction rest with
  | nil =>
    intro pre s k hk hl hs
    obtain ⟨k, rfl⟩ : ∃ m, k = m + 1 := ⟨k - 1, by simp at hk; omega⟩
    simp only [impl_CircleOk.l0]
    rw [if_neg (by simp)]
    by_cases h : (pre ++ ([] : List Int)).length = 12
    · rw [if_pos (by omega)]; simp at h; simp [h]
    · rw [if_neg (by omega)]; simp at h; simp [h]
  | cons p rest ih =>
    intro pre s k hk hl hs
    obtain ⟨k, rfl⟩ : ∃ m, k = m + 1 := ⟨k - 1, by simp at hk; omega⟩
    simp only [impl_CircleOk.l0]
    rw [if_pos (by simp; omega), if_pos (by omega), if_pos (by simp; omega), rd_mid, within_eq]
    simp only [Option.bind_some]
    by_cases hp : 0 ≤ p ∧ p ≤ 12
    · have hl2 : pre.length ≤ 1099511627776 := by simp at hl; omega
      rw [if_pos (by simpa using hp), wrap_id (x := s + p) (by omega), succ_wrap hl2]
      have := ih (pre ++ [p]) (s + p) k (by simp at hk; omega) (by simp at hl ⊢; omega) (by simp; omega)
      have e : pre ++ [p] ++ rest = pre ++ p :: rest := by simp
      have e2 : ((pre ++ [p]).length : Int) = ((pre.length + 1 : Nat) : Int) := by simp
      rw [e, e2] at this
      rw [this]
      have hi : inR p = true := decide_eq_true hp
      simp [hi, Int.add_assoc]
    · rw [if_neg (by simpa using hp)]
      have hi : inR p = false := decide_eq_false hp
      simp [hi]
theorem impl_circOk {k : Nat} {l : List Int} (hk : l.length < k) (hl : l.length ≤ 1099511627776) : impl_CircleOk.f k l = some (circOk l) := by
  have := impl_circOk_l0 l [] 0 k hk (by simpa using hl) (by simp)
  unfold impl_CircleOk.f circOk
  simpa using this
theorem circOk_len {l : List Int} (h : circOk l = true) : l.length = 12 := by
  unfold circOk at h; simp at h; exact h.2.1
theorem circOk_sum {l : List Int} (h : circOk l = true) : l.sum = 12 := by
  unfold circOk at h; simp at h; exact h.2.2
theorem circOk_mem {l : List Int} (h : circOk l = true) : ∀ p ∈ l, 0 ≤ p ∧ p ≤ 12 := by
  unfold circOk at h; simp at h
  intro p hp
  have := h.1 p hp
  exact of_decide_eq_true this

def isKey (l : List Int) (i : Int) : Bool := circOk l && decide (0 ≤ i ∧ i ≤ 11)
theorem impl_isKey_eq {k : Nat} {l : List Int} (i : Int) (hk : l.length < k) (hl : l.length ≤ 1099511627776) : impl_isKey.f k l i = some (isKey l i) := by
  unfold impl_isKey.f isKey
  rw [impl_circOk hk hl]
  simp only [Option.bind_some, within_eq]
  cases circOk l <;> simp
theorem isKey_parts {l : List Int} {i : Int} (h : isKey l i = true) : circOk l = true ∧ (0 ≤ i ∧ i ≤ 11) := by
  unfold isKey at h
  simp only [Bool.and_eq_true] at h
  exact ⟨h.1, of_decide_eq_true h.2⟩

theorem spec_circOk_l0 : ∀ (rest pre : List Int) (s : Int) (k : Nat), rest.length < k → (pre ++ rest).length ≤ 1099511627776 → 0 ≤ s ∧ s ≤ 12 * (pre.length : Int) →
    spec_CircleOk.l0 k s (pre.length : Int) (pre ++ rest) = some (rest.all inR && (decide ((pre ++ rest).length = 12) && (s + rest.sum == 12))) := by
  intro rest
  induction rest with
  | nil =>
    intro pre s k hk hl hs
    obtain ⟨k, rfl⟩ : ∃ m, k = m + 1 := ⟨k - 1, by simp at hk; omega⟩
    simp only [spec_CircleOk.l0]
    rw [if_neg (by simp)]
    by_cases h : (pre ++ ([] : List Int)).length = 12
    · rw [if_pos (by omega)]; simp at h; simp [h]
    · rw [if_neg (by omega)]; simp at h; simp [h]
  | cons p rest ih =>
    intro pre s k hk hl hs
    obtain ⟨k, rfl⟩ : ∃ m, k = m + 1 := ⟨k - 1, by simp at hk; omega⟩
    simp only [spec_CircleOk.l0]
    rw [if_pos (by simp; omega), if_pos (by omega), rd_mid, l01In_eq]
    simp only [Option.bind_some]
    by_cases hp : 0 ≤ p ∧ p ≤ 12
    · have hl2 : pre.length ≤ 1099511627776 := by simp at hl; omega
      rw [if_pos (by simpa using hp), wrap_id (x := s + p) (by omega), succ_wrap hl2]
      have := ih (pre ++ [p]) (s + p) k (by simp at hk; omega) (by simp at hl ⊢; omega) (by simp; omega)
      have e : pre ++ [p] ++ rest = pre ++ p :: rest := by simp
      have e2 : ((pre ++ [p]).length : Int) = ((pre.length + 1 : Nat) : Int) := by simp
      rw [e, e2] at this
      rw [this]
      have hi : inR p = true := decide_eq_true hp
      simp [hi, Int.add_assoc]
    · rw [if_neg (by simpa using hp)]
      have hi : inR p = false := decide_eq_false hp
      simp [hi]
theorem spec_circOk {k : Nat} {l : List Int} (hk : l.length < k) (hl : l.length ≤ 1099511627776) : spec_CircleOk.f k l = some (circOk l) := by
  have := spec_circOk_l0 l [] 0 k hk (by simpa using hl) (by simp)
  unfold spec_CircleOk.f circOk
  simpa using this

theorem spec_has {k : Nat} {l : List Int} (i : Int) (hk : l.length < k) (hl : l.length ≤ 1099511627776) : spec_l12Has.f k l i = some (isKey l i) := by
  unfold spec_l12Has.f isKey
  rw [spec_circOk hk hl]
  simp only [Option.bind_some, l01In_eq]
  cases circOk l <;> simp

def turned (l : List Int) (n : Int) : List Int := if isKey l n = true then l.drop n.toNat ++ l.take n.toNat else []
theorem impl_turn {k : Nat} {l : List Int} (n : Int) (hk : l.length < k) (hl : l.length ≤ 1099511627776) : impl_TurnCircle.f k l n = some (turned l n) := by
  unfold impl_TurnCircle.f turned
  rw [impl_isKey_eq n hk hl]
  simp only [Option.bind_some]
  by_cases h : isKey l n = true
  · rw [if_pos h, if_pos h]
    obtain ⟨h1, h2⟩ := isKey_parts h
    have h3 := circOk_len h1
    rw [if_pos h2.1, if_pos (by omega), if_pos (by simp; omega), if_pos (by simp; omega)]
    simp
  · rw [if_neg h, if_neg h]

def psum (l : List Int) (i : Int) : Nat → Int
  | 0 => 0
  | n + 1 => psum l i n + l.getD ((i.toNat + n) % 12) 0
theorem getD_range {l : List Int} (h : circOk l = true) (j : Nat) : 0 ≤ l.getD j 0 ∧ l.getD j 0 ≤ 12 := by
  rcases Nat.lt_or_ge j l.length with hj | hj
  · rw [List.getD_eq_getElem?_getD, List.getElem?_eq_getElem hj]
    exact circOk_mem h _ (List.getElem_mem hj)
  · rw [List.getD_eq_getElem?_getD, List.getElem?_eq_none hj]; simp
theorem psum_range {l : List Int} (h : circOk l = true) (i : Int) (n : Nat) : 0 ≤ psum l i n ∧ psum l i n ≤ 12 * n := by
  induction n with
  | zero => simp [psum]
  | succ n ih => have := getD_range h ((i.toNat + n) % 12); simp only [psum]; omega
theorem idx_eq {i : Int} {n : Nat} (hi : 0 ≤ i ∧ i ≤ 11) (hn : n ≤ 100) : Int.tmod (wrap64 (i + (n : Int))) 12 = (((i.toNat + n) % 12 : Nat) : Int) := by
  rw [wrap_id (by omega), Int.tmod_eq_emod_of_nonneg (by omega)]; omega

def tacc (l : List Int) (n : Int) (j : Nat) : List Int := (List.range j).map fun q => l.getD ((n.toNat + q) % 12) 0
theorem tacc_succ (l : List Int) (n : Int) (j : Nat) : tacc l n (j + 1) = tacc l n j ++ [l.getD ((n.toNat + j) % 12) 0] := by
  unfold tacc; rw [List.range_succ]; simp
theorem tacc_length (l : List Int) (n : Int) (j : Nat) : (tacc l n j).length = j := by simp [tacc]
theorem spec_turn_l0 {l : List Int} {n : Int} (h : isKey l n = true) : ∀ (d j k : Nat), j + d = 12 → d + 12 < k → spec_TurnCircle.l0 k n (j : Int) l (tacc l n j) = some (tacc l n 12) := by
  obtain ⟨h1, h2⟩ := isKey_parts h
  have hl := circOk_len h1
  intro d
  induction d with
  | zero =>
    intro j k hj hk
    obtain ⟨k, rfl⟩ : ∃ q, k = q + 1 := ⟨k - 1, by omega⟩
    have : j = 12 := by omega
    subst this
    simp only [spec_TurnCircle.l0]
    rw [if_neg (by omega)]
  | succ d ih =>
    intro j k hj hk
    obtain ⟨k, rfl⟩ : ∃ q, k = q + 1 := ⟨k - 1, by omega⟩
    have hmod : (n.toNat + j) % 12 < 12 := Nat.mod_lt _ (by omega)
    have ei : Int.tmod (wrap64 ((j : Int) + n)) 12 = (((n.toNat + j) % 12 : Nat) : Int) := by rw [Int.add_comm]; exact idx_eq h2 (by omega)
    simp only [spec_TurnCircle.l0]
    rw [if_pos (by omega), spec_has n (by omega) (by omega), Option.bind_some, if_pos h, ei, if_pos (by omega), if_pos (by omega), if_pos (by rw [tacc_length]; omega), rd_getD, succ_wrap (by omega), ← tacc_succ]
    exact ih (j + 1) k (by omega) (by omega)
theorem tacc_turned {l : List Int} {n : Int} (h : isKey l n = true) : tacc l n 12 = turned l n := by
  obtain ⟨h1, h2⟩ := isKey_parts h
  have hl := circOk_len h1
  unfold turned
  rw [if_pos h]
  apply List.ext_getElem
  · simp [tacc]; omega
  · intro j g1 g2
    have hj : j < 12 := by rw [tacc_length] at g1; exact g1
    have e1 : (tacc l n 12)[j] = l.getD ((n.toNat + j) % 12) 0 := by simp [tacc]
    refine e1.trans ?_
    rw [List.getD_eq_getElem?_getD]
    by_cases hc : n.toNat + j < 12
    · rw [List.getElem_append_left (by simp; omega), List.getElem_drop, Nat.mod_eq_of_lt hc, List.getElem?_eq_getElem (by omega)]
      rfl
    · have em : (n.toNat + j) % 12 = n.toNat + j - 12 := by omega
      rw [List.getElem_append_right (by simp; omega), List.getElem_take, em, List.getElem?_eq_getElem (by omega)]
      simp only [Option.getD_some]
      congr 1
      simp; omega
theorem spec_turn {k : Nat} {l : List Int} (n : Int) (hk : l.length + 30 < k) (hl : l.length ≤ 1099511627776) : spec_TurnCircle.f k l n = some (turned l n) := by
  unfold spec_TurnCircle.f
  by_cases h : isKey l n = true
  · have := spec_turn_l0 h 12 0 k (by omega) (by omega)
    rw [tacc_turned h] at this
    exact this
  · obtain ⟨k, rfl⟩ : ∃ q, k = q + 1 := ⟨k - 1, by omega⟩
    simp only [spec_TurnCircle.l0]
    rw [if_pos (by omega), spec_has n (by omega) hl, Option.bind_some, if_neg h]
    unfold turned; rw [if_neg h]

theorem toIntS_l0 : ∀ (rest pre : List Int) (k : Nat), rest.length < k → (pre ++ rest).length ≤ 1099511627776 → laws_toIntS.l0 k (pre ++ rest) (pre ++ List.replicate rest.length 0) (pre.length : Int) = some (pre ++ rest) := by
  intro rest
  induction rest with
  | nil =>
    intro pre k hk _
    obtain ⟨k, rfl⟩ : ∃ m, k = m + 1 := ⟨k - 1, by simp at hk; omega⟩
    simp only [laws_toIntS.l0]
    rw [if_neg (by simp)]
    simp
  | cons p rest ih =>
    intro pre k hk hl
    obtain ⟨k, rfl⟩ : ∃ m, k = m + 1 := ⟨k - 1, by simp at hk; omega⟩
    simp only [laws_toIntS.l0]
    rw [if_pos (by simp; omega), if_pos (by omega), if_pos (by simp; omega), rd_mid, succ_wrap (by simp at hl; omega)]
    have e : (pre ++ List.replicate (p :: rest).length 0).set ((pre.length : Int)).toNat p = (pre ++ [p]) ++ List.replicate rest.length 0 := by
      simp [List.replicate_succ]
    rw [e]
    have := ih (pre ++ [p]) k (by simp at hk; omega) (by simp at hl ⊢; omega)
    simpa using this
theorem toIntS_eq {k : Nat} {l : List Int} (hk : l.length < k) (hl : l.length ≤ 1099511627776) : laws_toIntS.f k l = some l := by
  unfold laws_toIntS.f
  rw [if_pos (by omega), if_pos (by omega)]
  have := toIntS_l0 l [] k hk (by simp; omega)
  simpa using this

theorem toCircle_eq {k : Nat} {l : List Int} (hk : l.length < k) (hl : l.length ≤ 1099511627776) : laws_toCircle.f k l = some l := by
  unfold laws_toCircle.f
  rw [toIntS_eq hk hl]; rfl

theorem eqIntS_l0 : ∀ (rest pre : List Int) (k : Nat), rest.length < k → (pre ++ rest).length ≤ 1099511627776 → laws_eqIntS.l0 k (pre ++ rest) (pre ++ rest) (pre.length : Int) = some true := by
  intro rest
  induction rest with
  | nil =>
    intro pre k hk _
    obtain ⟨k, rfl⟩ : ∃ m, k = m + 1 := ⟨k - 1, by simp at hk; omega⟩
    simp only [laws_eqIntS.l0]
    rw [if_neg (by simp)]
  | cons p rest ih =>
    intro pre k hk hl
    obtain ⟨k, rfl⟩ : ∃ m, k = m + 1 := ⟨k - 1, by simp at hk; omega⟩
    simp only [laws_eqIntS.l0]
    rw [if_pos (by simp; omega), if_pos (by omega), if_pos (by simp; omega), if_pos trivial, succ_wrap (by simp at hl; omega)]
    have := ih (pre ++ [p]) k (by simp at hk; omega) (by simp at hl ⊢; omega)
    simpa using this
theorem eqIntS_refl {k : Nat} {l : List Int} (hk : l.length < k) (hl : l.length ≤ 1099511627776) : laws_eqIntS.f k l l = some true := by
  unfold laws_eqIntS.f
  rw [if_pos rfl]
  have := eqIntS_l0 l [] k hk (by simpa using hl)
  simpa using this

theorem eqCircle_refl {k : Nat} {l : List Int} (hk : l.length < k) (hl : l.length ≤ 1099511627776) : laws_eqCircle.f k l l = some true := by
  unfold laws_eqCircle.f
  rw [eqIntS_refl hk hl]; rfl

theorem szCircle_big {l : List Int} (h : l.length ≤ maxLen) (hb : 1048576 < l.length) : laws_szCircle.f l 1048576 = some (-1) := by
  unfold maxLen at h
  unfold laws_szCircle.f laws_szIntS.f
  have e : wrap64 (1048576 - (l.length : Int)) = 1048576 - (l.length : Int) := by unfold wrap64; omega
  rw [e, if_pos (by omega)]
  rfl
theorem szCircle_small {l : List Int} {n : Int} (hn : n ≤ 1048576) (hb : (l.length : Int) ≤ n) : laws_szCircle.f l n = some (n - (l.length : Int)) := by
  unfold laws_szCircle.f laws_szIntS.f
  have e : wrap64 (n - (l.length : Int)) = n - (l.length : Int) := by unfold wrap64; omega
  rw [e, if_neg (by omega)]
  simp only [Option.bind_some]
  rw [if_neg (by omega)]

def mk : Int → Nat → List Int
  | _, 0 => []
  | m, n + 1 => m :: mk (m + 1) n
theorem mk_length (m : Int) (n : Nat) : (mk m n).length = n := by
  induction n generalizing m with
  | zero => rfl
  | succ n ih => simp [mk, ih]
theorem markIntS_l0 : ∀ (rest pre : List Int) (m : Int) (k : Nat), rest.length < k → (pre ++ rest).length ≤ 1099511627776 → 0 ≤ m → m + rest.length ≤ 1099511627776 →
    laws_markIntS.l0 k (pre ++ rest) m (pre.length : Int) = some (m + rest.length, pre ++ mk m rest.length) := by
  intro rest
  induction rest with
  | nil =>
    intro pre m k hk _ _ _
    obtain ⟨k, rfl⟩ : ∃ m, k = m + 1 := ⟨k - 1, by simp at hk; omega⟩
    simp only [laws_markIntS.l0]
    rw [if_neg (by simp)]
    simp [mk]
  | cons p rest ih =>
    intro pre m k hk hl hm hm2
    obtain ⟨k, rfl⟩ : ∃ m, k = m + 1 := ⟨k - 1, by simp at hk; omega⟩
    simp only [List.length_cons] at hm2
    simp only [laws_markIntS.l0]
    rw [if_pos (by simp; omega), if_pos (by omega), wrap_id (x := m + 1) (by omega), succ_wrap (by simp at hl; omega)]
    have e : (pre ++ p :: rest).set ((pre.length : Int)).toNat m = (pre ++ [m]) ++ rest := by simp
    rw [e]
    have := ih (pre ++ [m]) (m + 1) k (by simp at hk; omega) (by simp at hl ⊢; omega) (by omega) (by omega)
    have e2 : ((pre ++ [m]).length : Int) = ((pre.length + 1 : Nat) : Int) := by simp
    rw [e2] at this
    rw [this]
    simp [mk]; omega
theorem markIntS_eq {k : Nat} {l : List Int} {m : Int} (hk : l.length < k) (hm : 0 ≤ m) (hl : m + l.length ≤ 1099511627776) : laws_markIntS.f k l m = some (m + l.length, mk m l.length) := by
  unfold laws_markIntS.f
  have := markIntS_l0 l [] m k hk (by simp; omega) hm hl
  simpa using this
theorem heldIntS_l0 : ∀ (n : Nat) (pre : List Int) (m : Int) (k : Nat), n < k → pre.length + n ≤ 1099511627776 → 0 ≤ m → m + n ≤ 1099511627776 →
    laws_heldIntS.l0 k (pre ++ mk m n) m (pre.length : Int) = some (m + n) := by
  intro n
  induction n with
  | zero =>
    intro pre m k hk _ _ _
    obtain ⟨k, rfl⟩ : ∃ m, k = m + 1 := ⟨k - 1, by omega⟩
    rw [show mk m 0 = [] from rfl]
    simp only [laws_heldIntS.l0]
    rw [if_neg (by simp)]
    simp
  | succ n ih =>
    intro pre m k hk hl hm hm2
    obtain ⟨k, rfl⟩ : ∃ m, k = m + 1 := ⟨k - 1, by omega⟩
    rw [show mk m (n + 1) = m :: mk (m + 1) n from rfl]
    simp only [laws_heldIntS.l0]
    rw [if_pos (by simp; omega), if_pos (by omega), rd_mid, if_pos rfl, wrap_id (x := m + 1) (by omega), succ_wrap (by omega)]
    have := ih (pre ++ [m]) (m + 1) k (by omega) (by simp; omega) (by omega) (by omega)
    have e2 : ((pre ++ [m]).length : Int) = ((pre.length + 1 : Nat) : Int) := by simp
    have e3 : pre ++ [m] ++ mk (m + 1) n = pre ++ m :: mk (m + 1) n := by simp
    rw [e2, e3] at this
    rw [this]
    congr 1; omega
theorem heldIntS_eq {k n : Nat} {m : Int} (hk : n < k) (hm : 0 ≤ m) (hl : m + n ≤ 1099511627776) : laws_heldIntS.f k (mk m n) m = some (m + n) := by
  unfold laws_heldIntS.f
  have := heldIntS_l0 n [] m k hk (by simp; omega) hm hl
  simpa using this

theorem markCircle_eq {k : Nat} {l : List Int} {m : Int} (hk : l.length < k) (hm : 0 ≤ m) (hl : m + l.length ≤ 1099511627776) : laws_markCircle.f k l m = some (m + l.length, mk m l.length) := by
  unfold laws_markCircle.f
  rw [markIntS_eq hk hm hl]; rfl
theorem heldCircle_eq {k n : Nat} {m : Int} (hk : n < k) (hm : 0 ≤ m) (hl : m + n ≤ 1099511627776) : laws_heldCircle.f k (mk m n) m = some (m + n) := by
  unfold laws_heldCircle.f
  rw [heldIntS_eq hk hm hl]
  simp only [Option.bind_some]
  rw [if_neg (by omega)]

theorem turned_length (l : List Int) (n : Int) : (turned l n).length ≤ 12 := by
  unfold turned
  by_cases h : isKey l n = true
  · rw [if_pos h]
    have hl := circOk_len (isKey_parts h).1
    simp; omega
  · rw [if_neg h]; simp
theorem FnExactTurnCircle (l : List Int) (i : Int) (hm : l.length ≤ maxLen) (hw : ∀ x ∈ l, (Lit.int .i64 x).wf = true) (_ : (Lit.int .i64 i).wf = true) : ∃ k, laws_FnExactTurnCircle.f k l i = some true := by
  by_cases hb : 1048576 < l.length
  · refine ⟨1, ?_⟩
    unfold laws_FnExactTurnCircle.f
    rw [szCircle_big hm hb]; rfl
  · refine ⟨2000000, ?_⟩
    have h1 : l.length < 1999999 := by omega
    have h2 : l.length < 2000000 := by omega
    have ht := turned_length l i
    unfold laws_FnExactTurnCircle.f
    rw [szCircle_small (by omega) (by omega)]
    simp only [Option.bind_some]
    rw [if_neg (by omega)]
    have hj : laws_FnExactTurnCircle.j0 2000000 i false l (turned l i) (turned l i) = some true := by
      show laws_FnExactTurnCircle.j0 (1999999 + 1) i false l (turned l i) (turned l i) = some true
      simp only [laws_FnExactTurnCircle.j0]
      rw [markCircle_eq (by omega) (by omega) (by omega)]
      simp only [Option.bind_some]
      rw [heldCircle_eq (by omega) (by omega) (by omega)]
      simp only [Option.bind_some]
      have hn : ¬ ((1 : Int) + ((turned l i).length : Int) < 0) := by omega
      simp [toCircle_eq h1 (by omega), impl_turn i h1 (by omega), eqCircle_refl (show (turned l i).length < 1999999 by omega) (by omega), hn]
    rw [toCircle_eq h2 (by omega)]
    simp only [Option.bind_some]
    rw [spec_turn i (by omega) (by omega), impl_turn i h2 (by omega)]
    simp only [Option.bind_some]
    rw [eqCircle_refl (show (turned l i).length < 2000000 by omega) (by omega), eqCircle_refl h2 (by omega)]
    simp only [Option.bind_some, if_true]
    rw [markCircle_eq h2 (by omega) (by omega)]
    simp only [Option.bind_some]
    rw [if_neg (by omega)]
    exact hj

end Go.Proofs.Ytbiajmggpohgcaa.Pure
