/- The law FnExactBestKeys over numbers and lists alone: the program's BestKeys and the reference's give one answer, new each time, and the circle stays as it was. Conditions: none. -/
import Derived.Test.YtoljbcjpilcfiaaQFnExactBestKeysx5
import Derived.Test.YtoljbcjpilcfiaaVFnExactBestKeysa
namespace Go.Proofs.Ytoljbcjpilcfiaa.Pure
open Go.RowKit Go.Proofs.Ytoljbcjpilcfiaa.PFnExactBestKeys Go.Proofs.YtoljbcjpilcfiaaW.PrintWords Go.Proofs.YtoljbcjpilcfiaaW.PrintLast Go.Proofs.YtoljbcjpilcfiaaW.PrintMore
set_option linter.unusedVariables false
set_option linter.unusedSimpArgs false

theorem wrap_id {x : Int} (h : -4611686018427387904 ≤ x ∧ x ≤ 4611686018427387904) : wrap64 x = x := by
  unfold wrap64; omega

theorem rd_mid (pre rest : List Int) (p : Int) : rd (pre ++ p :: rest) ((pre.length : Nat) : Int) = p := by
  unfold rd
  simp [List.getD]
theorem rd_getD (l : List Int) (i : Nat) : rd l (i : Int) = l.getD i 0 := by unfold rd; simp
theorem succ_wrap {n : Nat} (h : n ≤ 1099511627776) : wrap64 ((n : Int) + 1) = ((n + 1 : Nat) : Int) := by
  rw [wrap_id (by omega)]; omega
theorem split_at {α : Type} (l : List α) (i : Nat) (h : i ≤ l.length) : ∃ pre rest, l = pre ++ rest ∧ pre.length = i := ⟨l.take i, l.drop i, (List.take_append_drop i l).symm, by simp; omega⟩

theorem l01In_eq (a b c : Int) : spec_l01In.f a b c = some (decide (b ≤ a ∧ a ≤ c)) := by
  unfold spec_l01In.f
  by_cases h : b ≤ a <;> simp [h]
theorem within_eq (a b c : Int) : impl_within.f a b c = some (decide (b ≤ a ∧ a ≤ c)) := by
  unfold impl_within.f
  by_cases h : b ≤ a <;> simp [h]

def inR (p : Int) : Bool := decide (0 ≤ p ∧ p ≤ 12)
def circOk (l : List Int) : Bool := l.all inR && (decide (l.length = 12) && (l.sum == 12))
theorem impl_circOk_l0 : ∀ (rest pre : List Int) (s : Int) (k : Nat), rest.length < k → (pre ++ rest).length ≤ 1099511627776 → 0 ≤ s ∧ s ≤ 12 * (pre.length : Int) →
    impl_CircleOk.l0 k s (pre ++ rest) ((pre ++ rest).length : Int) (pre.length : Int) (pre ++ rest) = some (rest.all inR && (decide ((pre ++ rest).length = 12) && (s + rest.sum == 12))) := by
  intro rest
  induction rest with
  | nil =>
    intro pre s k hk hl hs
    obtain ⟨k, rfl⟩ : ∃ m, k = m + 1 := ⟨k - 1, by simp at hk; omega⟩
    simp only [impl_CircleOk.l0]
    rw [if_neg (by simp)]
    by_cases h : (pre ++ ([] : List Int)).length = 12
    · rw [if_pos (by omega)]; simp at h; simp [h]
    · rw [if_neg (by omega)]; simp at h; simp [h]
  | cons p rest ih =>
    intro pre s k hk hl hs
    obtain ⟨k, rfl⟩ : ∃ m, k = m + 1 := ⟨k - 1, by simp at hk; omega⟩
    simp only [impl_CircleOk.l0]
    rw [if_pos (by simp; omega), if_pos (by omega), if_pos (by simp; omega), rd_mid, within_eq]
    simp only [Option.bind_some]
    by_cases hp : 0 ≤ p ∧ p ≤ 12
    · have hl2 : pre.length ≤ 1099511627776 := by simp at hl; omega
      rw [if_pos (by simpa using hp), wrap_id (x := s + p) (by omega), succ_wrap hl2]
      have := ih (pre ++ [p]) (s + p) k (by simp at hk; omega) (by simp at hl ⊢; omega) (by simp; omega)
      have e : pre ++ [p] ++ rest = pre ++ p :: rest := by simp
      have e2 : ((pre ++ [p]).length : Int) = ((pre.length + 1 : Nat) : Int) := by simp
      rw [e, e2] at this
      rw [this]
      have hi : inR p = true := decide_eq_true hp
      simp [hi, Int.add_assoc]
    · rw [if_neg (by simpa using hp)]
      have hi : inR p = false := decide_eq_false hp
      simp [hi]
theorem impl_circOk {k : Nat} {l : List Int} (hk : l.length < k) (hl : l.length ≤ 1099511627776) : impl_CircleOk.f k l = some (circOk l) := by
  have := impl_circOk_l0 l [] 0 k hk (by simpa using hl) (by simp)
  unfold impl_CircleOk.f circOk
  simpa using this
theorem circOk_len {l : List Int} (h : circOk l = true) : l.length = 12 := by
  unfold circOk at h; simp at h; exact h.2.1
theorem circOk_sum {l : List Int} (h : circOk l = true) : l.sum = 12 := by
  unfold circOk at h; simp at h; exact h.2.2
theorem circOk_mem {l : List Int} (h : circOk l = true) : ∀ p ∈ l, 0 ≤ p ∧ p ≤ 12 := by
  unfold circOk at h; simp at h
  intro p hp
  have := h.1 p hp
  exact of_decide_eq_true this

def psum (l : List Int) (i : Int) : Nat → Int
  | 0 => 0
  | n + 1 => psum l i n + l.getD ((i.toNat + n) % 12) 0
theorem getD_range {l : List Int} (h : circOk l = true) (j : Nat) : 0 ≤ l.getD j 0 ∧ l.getD j 0 ≤ 12 := by
  rcases Nat.lt_or_ge j l.length with hj | hj
  · rw [List.getD_eq_getElem?_getD, List.getElem?_eq_getElem hj]
    exact circOk_mem h _ (List.getElem_mem hj)
  · rw [List.getD_eq_getElem?_getD, List.getElem?_eq_none hj]; simp
theorem psum_range {l : List Int} (h : circOk l = true) (i : Int) (n : Nat) : 0 ≤ psum l i n ∧ psum l i n ≤ 12 * n := by
  induction n with
  | zero => simp [psum]
  | succ n ih => have := getD_range h ((i.toNat + n) % 12); simp only [psum]; omega
theorem idx_eq {i : Int} {n : Nat} (hi : 0 ≤ i ∧ i ≤ 11) (hn : n ≤ 100) : Int.tmod (wrap64 (i + (n : Int))) 12 = (((i.toNat + n) % 12 : Nat) : Int) := by
  rw [wrap_id (by omega), Int.tmod_eq_emod_of_nonneg (by omega)]; omega

def isKey (l : List Int) (i : Int) : Bool := circOk l && decide (0 ≤ i ∧ i ≤ 11)
theorem impl_isKey_eq {k : Nat} {l : List Int} (i : Int) (hk : l.length < k) (hl : l.length ≤ 1099511627776) : impl_isKey.f k l i = some (isKey l i) := by
  unfold impl_isKey.f isKey
  rw [impl_circOk hk hl]
  simp only [Option.bind_some, within_eq]
  cases circOk l <;> simp
theorem isKey_parts {l : List Int} {i : Int} (h : isKey l i = true) : circOk l = true ∧ (0 ≤ i ∧ i ≤ 11) := by
  unfold isKey at h
  simp only [Bool.and_eq_true] at h
  exact ⟨h.1, of_decide_eq_true h.2⟩

theorem impl_parts_l0 {l : List Int} (h : circOk l = true) {i : Int} (hi : 0 ≤ i ∧ i ≤ 11) (n : Nat) (hn : n ≤ 100) : ∀ (d m k : Nat), m + d = n → d < k → impl_partsFrom.l0 k i (n : Int) (psum l i m) (m : Int) l = some (psum l i n) := by
  intro d
  induction d with
  | zero =>
    intro m k hm hk
    obtain ⟨k, rfl⟩ : ∃ q, k = q + 1 := ⟨k - 1, by omega⟩
    simp only [impl_partsFrom.l0]
    rw [if_neg (by omega)]
    congr 2
  | succ d ih =>
    intro m k hm hk
    obtain ⟨k, rfl⟩ : ∃ q, k = q + 1 := ⟨k - 1, by omega⟩
    have hl := circOk_len h
    have hg := getD_range h ((i.toNat + m) % 12)
    have hp := psum_range h i m
    have hmod : (i.toNat + m) % 12 < 12 := Nat.mod_lt _ (by omega)
    simp only [impl_partsFrom.l0]
    rw [if_pos (by omega), idx_eq hi (by omega), if_pos (by omega), if_pos (by omega), rd_getD, wrap_id (by omega), succ_wrap (by omega)]
    exact ih (m + 1) k (by omega) (by omega)
def parts (l : List Int) (i : Int) (n : Nat) : Int := if isKey l i = true then psum l i n else 0
theorem impl_partsFrom_eq {k n : Nat} {l : List Int} (i : Int) (hk : l.length < k) (hl : l.length ≤ 1099511627776) (hn : n ≤ 100) (hkn : n < k) : impl_partsFrom.f k l i (n : Int) = some (parts l i n) := by
  unfold impl_partsFrom.f parts
  rw [impl_isKey_eq i hk hl]
  simp only [Option.bind_some]
  by_cases h : isKey l i = true
  · rw [if_pos h, if_pos h]
    obtain ⟨h1, h2⟩ := isKey_parts h
    exact impl_parts_l0 h1 h2 n hn n 0 k (by omega) hkn
  · rw [if_neg h, if_neg h]

theorem impl_thirdParts {k : Nat} {l : List Int} (i : Int) (hk : l.length < k) (hk2 : 5 < k) (hl : l.length ≤ 1099511627776) : impl_ThirdParts.f k l i = some (parts l i 4) := by
  unfold impl_ThirdParts.f
  have := impl_partsFrom_eq (k := k) (n := 4) i hk hl (by omega) (by omega)
  rw [show ((4 : Nat) : Int) = 4 from rfl] at this
  rw [this]; rfl

def btab (l : List Int) : Nat → List Int
  | 0 => []
  | n + 1 => btab l n ++ [parts l (n : Int) 4]
theorem btab_length (l : List Int) : ∀ n, (btab l n).length = n
  | 0 => rfl
  | n + 1 => by rw [btab, List.length_append, btab_length l n]; rfl
theorem btab_rd (l : List Int) : ∀ (n : Nat) (x : Int), 0 ≤ x → x < (n : Int) → rd (btab l n) x = parts l x 4 := by
  intro n
  induction n with
  | zero => intro x h0 h1; omega
  | succ n ih =>
    intro x h0 h1
    have hl := btab_length l n
    by_cases h : x < (n : Int)
    · have e := ih x h0 h
      rw [btab]
      unfold rd at e ⊢
      rw [← e, List.getD_eq_getElem?_getD, List.getD_eq_getElem?_getD, List.getElem?_append_left (by omega)]
    · obtain rfl : x = (n : Int) := by omega
      rw [btab]
      unfold rd
      rw [Int.toNat_natCast, List.getD_eq_getElem?_getD, List.getElem?_append_right (by omega), hl, Nat.sub_self]
      rfl
theorem best_tp_eq {k : Nat} {l : List Int} (hk : l.length + 10 < k) (hl : l.length ≤ 1099511627776) : ∀ n, best_tp k l n = some (btab l n)
  | 0 => rfl
  | n + 1 => by rw [best_tp, best_tp_eq hk hl n, Option.bind_some, impl_thirdParts (n : Int) (by omega) (by omega) hl, Option.bind_some, btab]
def bestK (l : List Int) : List Int := if circOk l = true then (best_rsrt (btab l 12) 12).reverse else []
theorem impl_bestKeys {k : Nat} {l : List Int} (hk : l.length + 10 < k) (hl : l.length ≤ 1099511627776) : impl_BestKeys.f k l = some (bestK l) := by
  unfold impl_BestKeys.f bestK
  rw [impl_circOk (by omega) hl, Option.bind_some]
  by_cases h : circOk l = true
  · rw [if_pos h, if_pos h, best_tp_eq hk hl, Option.bind_some]
  · rw [if_neg h, if_neg h]
theorem bestK_length {l : List Int} : (bestK l).length ≤ 12 := by
  unfold bestK
  split
  · rw [List.length_reverse, best_rsrt_length]; omega
  · exact Nat.zero_le _
theorem bestK_length12 {l : List Int} (h : circOk l = true) : (bestK l).length = 12 := by
  unfold bestK
  rw [if_pos h, List.length_reverse, best_rsrt_length]

theorem spec_l13_l0 {l : List Int} (h : circOk l = true) {i : Int} (hi : 0 ≤ i ∧ i ≤ 11) (n : Nat) (hn : n ≤ 100) : ∀ (d m k : Nat), m + d = n → d < k → spec_l13Sum.l0 k i (n : Int) (psum l i m) (m : Int) l = some (psum l i n) := by
  intro d
  induction d with
  | zero =>
    intro m k hm hk
    obtain ⟨k, rfl⟩ : ∃ q, k = q + 1 := ⟨k - 1, by omega⟩
    simp only [spec_l13Sum.l0]
    rw [if_neg (by omega)]
    congr 2
  | succ d ih =>
    intro m k hm hk
    obtain ⟨k, rfl⟩ : ∃ q, k = q + 1 := ⟨k - 1, by omega⟩
    have hl := circOk_len h
    have hg := getD_range h ((i.toNat + m) % 12)
    have hp := psum_range h i m
    have hmod : (i.toNat + m) % 12 < 12 := Nat.mod_lt _ (by omega)
    simp only [spec_l13Sum.l0]
    rw [if_pos (by omega), idx_eq hi (by omega), if_pos (by omega), if_pos (by omega), rd_getD, wrap_id (by omega), succ_wrap (by omega)]
    exact ih (m + 1) k (by omega) (by omega)
theorem spec_l13Sum_eq {l : List Int} (h : circOk l = true) {i : Int} (hi : 0 ≤ i ∧ i ≤ 11) {k n : Nat} (hn : n ≤ 100) (hk : n < k) : spec_l13Sum.f k l i (n : Int) = some (psum l i n) := by
  unfold spec_l13Sum.f
  exact spec_l13_l0 h hi n hn n 0 k (by omega) hk

theorem spec_circOk_l0 : ∀ (rest pre : List Int) (s : Int) (k : Nat), rest.length < k → (pre ++ rest).length ≤ 1099511627776 → 0 ≤ s ∧ s ≤ 12 * (pre.length : Int) →
    spec_CircleOk.l0 k s (pre.length : Int) (pre ++ rest) = some (rest.all inR && (decide ((pre ++ rest).length = 12) && (s + rest.sum == 12))) := by
  intro rest
  induction rest with
  | nil =>
    intro pre s k hk hl hs
    obtain ⟨k, rfl⟩ : ∃ m, k = m + 1 := ⟨k - 1, by simp at hk; omega⟩
    simp only [spec_CircleOk.l0]
    rw [if_neg (by simp)]
    by_cases h : (pre ++ ([] : List Int)).length = 12
    · rw [if_pos (by omega)]; simp at h; simp [h]
    · rw [if_neg (by omega)]; simp at h; simp [h]
  | cons p rest ih =>
    intro pre s k hk hl hs
    obtain ⟨k, rfl⟩ : ∃ m, k = m + 1 := ⟨k - 1, by simp at hk; omega⟩
    simp only [spec_CircleOk.l0]
    rw [if_pos (by simp; omega), if_pos (by omega), rd_mid, l01In_eq]
    simp only [Option.bind_some]
    by_cases hp : 0 ≤ p ∧ p ≤ 12
    · have hl2 : pre.length ≤ 1099511627776 := by simp at hl; omega
      rw [if_pos (by simpa using hp), wrap_id (x := s + p) (by omega), succ_wrap hl2]
      have := ih (pre ++ [p]) (s + p) k (by simp at hk; omega) (by simp at hl ⊢; omega) (by simp; omega)
      have e : pre ++ [p] ++ rest = pre ++ p :: rest := by simp
      have e2 : ((pre ++ [p]).length : Int) = ((pre.length + 1 : Nat) : Int) := by simp
      rw [e, e2] at this
      rw [this]
      have hi : inR p = true := decide_eq_true hp
      simp [hi, Int.add_assoc]
    · rw [if_neg (by simpa using hp)]
      have hi : inR p = false := decide_eq_false hp
      simp [hi]
theorem spec_circOk {k : Nat} {l : List Int} (hk : l.length < k) (hl : l.length ≤ 1099511627776) : spec_CircleOk.f k l = some (circOk l) := by
  have := spec_circOk_l0 l [] 0 k hk (by simpa using hl) (by simp)
  unfold spec_CircleOk.f circOk
  simpa using this

theorem bparts_psum {l : List Int} (h : circOk l = true) {x : Int} (hx : 0 ≤ x ∧ x < 12) : psum l x 4 = rd (btab l 12) x := by
  rw [btab_rd l 12 x hx.1 (by omega)]
  unfold parts isKey
  rw [h, if_pos]
  simp; omega
theorem best_set_mid (A B : List Int) (z y : Int) : (A ++ z :: B).set A.length y = A ++ y :: B := by
  rw [List.set_append_right _ _ (Nat.le_refl _), Nat.sub_self]; rfl
theorem spec_best_l1 {l : List Int} (h : circOk l = true) (n : Nat) (hn : n < 12) {r : List Int} {K : Nat} (hK : 200 ≤ K) : ∀ (Ar B : List Int) (z : Int) (k : Nat), (∀ y ∈ Ar, 0 ≤ y ∧ y < 12) → Ar.length + B.length ≤ 100 → K + Ar.length < k →
    (∀ k, K ≤ k → spec_BestKeys.l0 k ((best_rins (btab l 12) (n : Int) Ar).reverse ++ B) (wrap64 ((n : Int) + 1)) l = some r) →
    spec_BestKeys.l1 k (Ar.reverse ++ z :: B) (n : Int) ((Ar.length : Nat) : Int) l = some r := by
  intro Ar
  induction Ar with
  | nil =>
    intro B z k _ hl hk H
    obtain ⟨k, rfl⟩ : ∃ m, k = m + 1 := ⟨k - 1, by omega⟩
    simp only [List.length_nil, Nat.add_zero] at hk
    rw [spec_BestKeys.l1]
    simp only [List.length_nil]
    rw [if_neg (by omega), if_pos (by omega), if_pos (by simp), show ((((0 : Nat) : Int)).toNat) = 0 from rfl]
    have e : ((([] : List Int).reverse ++ z :: B).set 0 (n : Int)) = (best_rins (btab l 12) (n : Int) []).reverse ++ B := rfl
    rw [e]
    exact H k (by omega)
  | cons y ys ih =>
    intro B z k hm hl hk H
    obtain ⟨k, rfl⟩ : ∃ m, k = m + 1 := ⟨k - 1, by omega⟩
    simp only [List.length_cons] at hl hk
    have hy := hm y (by simp)
    have e0 : (y :: ys).reverse ++ z :: B = (ys.reverse ++ [y]) ++ z :: B := by simp
    have e1 : (y :: ys).reverse ++ z :: B = ys.reverse ++ y :: (z :: B) := by simp
    have l0 : (ys.reverse ++ [y]).length = ys.length + 1 := by simp
    have lr : ys.reverse.length = ys.length := List.length_reverse
    have hlen : (((y :: ys).reverse ++ z :: B).length : Int) = (ys.length : Int) + (B.length : Int) + 2 := by simp; omega
    have hrd : rd ((y :: ys).reverse ++ z :: B) ((ys.length : Nat) : Int) = y := by rw [e1, ← lr]; exact rd_mid _ _ _
    have s1 := spec_l13Sum_eq h (i := y) (by omega) (k := k) (n := 4) (by omega) (by omega)
    have s2 := spec_l13Sum_eq h (i := (n : Int)) (by omega) (k := k) (n := 4) (by omega) (by omega)
    rw [show ((4 : Nat) : Int) = 4 from rfl] at s1 s2
    rw [bparts_psum h (by omega)] at s1 s2
    have hw : wrap64 (((y :: ys).length : Nat) - 1 : Int) = ((ys.length : Nat) : Int) := by rw [List.length_cons, wrap_id (by omega)]; omega
    rw [spec_BestKeys.l1, hw, hrd, s1, s2, Option.bind_some, Option.bind_some, if_pos (by rw [List.length_cons]; omega), if_pos (by omega), if_pos (by rw [hlen]; omega)]
    rw [best_rins] at H
    by_cases g : rd (btab l 12) y < rd (btab l 12) (n : Int)
    · rw [if_pos g] at H
      rw [if_pos g, if_pos (by omega), if_pos (by rw [hlen, List.length_cons]; omega), Int.toNat_natCast, List.length_cons, e0, ← l0, best_set_mid, List.append_assoc, List.singleton_append]
      refine ih (y :: B) y k (fun x hx => hm x (by simp [hx])) (by rw [List.length_cons]; omega) (by omega) (fun k' hk' => ?_)
      have q := H k' hk'
      rw [List.reverse_cons, List.append_assoc, List.singleton_append] at q
      exact q
    · rw [if_neg g] at H
      rw [if_neg g, if_pos (by omega), if_pos (by rw [hlen, List.length_cons]; omega), Int.toNat_natCast, List.length_cons, e0, ← l0, best_set_mid]
      have q := H k (by omega)
      rw [show ((n : Int) :: y :: ys).reverse ++ B = (ys.reverse ++ [y]) ++ (n : Int) :: B by simp] at q
      exact q
theorem spec_best_l0 {l : List Int} (h : circOk l = true) : ∀ (d n k : Nat), n + d = 12 → 300 + 100 * d < k → spec_BestKeys.l0 k (best_rsrt (btab l 12) n).reverse (n : Int) l = some (best_rsrt (btab l 12) 12).reverse := by
  intro d
  induction d with
  | zero =>
    intro n k hn hk
    obtain ⟨k, rfl⟩ : ∃ m, k = m + 2 := ⟨k - 2, by omega⟩
    obtain rfl : n = 12 := by omega
    rw [spec_BestKeys.l0, if_neg (by omega), spec_BestKeys.j1, if_neg (by decide)]
  | succ d ih =>
    intro n k hn hk
    obtain ⟨k, rfl⟩ : ∃ m, k = m + 2 := ⟨k - 2, by omega⟩
    have h12 := circOk_len h
    have hl := best_rsrt_length (btab l 12) n
    have hr : (best_rsrt (btab l 12) n).reverse.length = n := by rw [List.length_reverse, hl]
    rw [spec_BestKeys.l0, if_pos (by omega), spec_circOk (by omega) (by omega), Option.bind_some, h, spec_BestKeys.j1, if_pos rfl, if_pos (by rw [hr]; omega)]
    rw [List.length_reverse]
    refine spec_best_l1 h n (by omega) (K := 300 + 100 * d + 1) (by omega) (best_rsrt (btab l 12) n) [] (n : Int) k (fun y hy => by have := best_rsrt_mem (btab l 12) n y hy; omega) (by rw [hl]; simp; omega) (by rw [hl]; omega) (fun k' hk' => ?_)
    have e := ih (n + 1) k' (by omega) (by omega)
    rw [best_rsrt] at e
    rw [List.append_nil, succ_wrap (by omega)]
    exact e
theorem spec_bestKeys {k : Nat} {l : List Int} (hk : 2000 < k) (hk2 : l.length + 10 < k) (hl : l.length ≤ 1099511627776) : spec_BestKeys.f k l = some (bestK l) := by
  unfold spec_BestKeys.f bestK
  by_cases h : circOk l = true
  · rw [if_pos h]
    exact spec_best_l0 h 12 0 k (by omega) (by omega)
  · rw [if_neg h]
    obtain ⟨k, rfl⟩ : ∃ m, k = m + 2 := ⟨k - 2, by omega⟩
    rw [spec_BestKeys.l0, if_pos (by omega), spec_circOk (by omega) hl, Option.bind_some, spec_BestKeys.j1, if_neg h]

theorem toIntS_l0 : ∀ (rest pre : List Int) (k : Nat), rest.length < k → (pre ++ rest).length ≤ 1099511627776 → laws_toIntS.l0 k (pre ++ rest) (pre ++ List.replicate rest.length 0) (pre.length : Int) = some (pre ++ rest) := by
  intro rest
  induction rest with
  | nil =>
    intro pre k hk _
    obtain ⟨k, rfl⟩ : ∃ m, k = m + 1 := ⟨k - 1, by simp at hk; omega⟩
    simp only [laws_toIntS.l0]
    rw [if_neg (by simp)]
    simp
  | cons p rest ih =>
    intro pre k hk hl
    obtain ⟨k, rfl⟩ : ∃ m, k = m + 1 := ⟨k - 1, by simp at hk; omega⟩
    simp only [laws_toIntS.l0]
    rw [if_pos (by simp; omega), if_pos (by omega), if_pos (by simp; omega), rd_mid, succ_wrap (by simp at hl; omega)]
    have e : (pre ++ List.replicate (p :: rest).length 0).set ((pre.length : Int)).toNat p = (pre ++ [p]) ++ List.replicate rest.length 0 := by
      simp [List.replicate_succ]
    rw [e]
    have := ih (pre ++ [p]) k (by simp at hk; omega) (by simp at hl ⊢; omega)
    simpa using this
theorem toIntS_eq {k : Nat} {l : List Int} (hk : l.length < k) (hl : l.length ≤ 1099511627776) : laws_toIntS.f k l = some l := by
  unfold laws_toIntS.f
  rw [if_pos (by omega), if_pos (by omega)]
  have := toIntS_l0 l [] k hk (by simp; omega)
  simpa using this

theorem toCircle_eq {k : Nat} {l : List Int} (hk : l.length < k) (hl : l.length ≤ 1099511627776) : laws_toCircle.f k l = some l := by
  unfold laws_toCircle.f
  rw [toIntS_eq hk hl]; rfl

theorem eqIntS_l0 : ∀ (rest pre : List Int) (k : Nat), rest.length < k → (pre ++ rest).length ≤ 1099511627776 → laws_eqIntS.l0 k (pre ++ rest) (pre ++ rest) (pre.length : Int) = some true := by
  intro rest
  induction rest with
  | nil =>
    intro pre k hk _
    obtain ⟨k, rfl⟩ : ∃ m, k = m + 1 := ⟨k - 1, by simp at hk; omega⟩
    simp only [laws_eqIntS.l0]
    rw [if_neg (by simp)]
  | cons p rest ih =>
    intro pre k hk hl
    obtain ⟨k, rfl⟩ : ∃ m, k = m + 1 := ⟨k - 1, by simp at hk; omega⟩
    simp only [laws_eqIntS.l0]
    rw [if_pos (by simp; omega), if_pos (by omega), if_pos (by simp; omega), if_pos trivial, succ_wrap (by simp at hl; omega)]
    have := ih (pre ++ [p]) k (by simp at hk; omega) (by simp at hl ⊢; omega)
    simpa using this
theorem eqIntS_refl {k : Nat} {l : List Int} (hk : l.length < k) (hl : l.length ≤ 1099511627776) : laws_eqIntS.f k l l = some true := by
  unfold laws_eqIntS.f
  rw [if_pos rfl]
  have := eqIntS_l0 l [] k hk (by simpa using hl)
  simpa using this

theorem eqCircle_refl {k : Nat} {l : List Int} (hk : l.length < k) (hl : l.length ≤ 1099511627776) : laws_eqCircle.f k l l = some true := by
  unfold laws_eqCircle.f
  rw [eqIntS_refl hk hl]; rfl

theorem szCircle_big {l : List Int} (h : l.length ≤ maxLen) (hb : 1048576 < l.length) : laws_szCircle.f l 1048576 = some (-1) := by
  unfold maxLen at h
  unfold laws_szCircle.f laws_szIntS.f
  have e : wrap64 (1048576 - (l.length : Int)) = 1048576 - (l.length : Int) := by unfold wrap64; omega
  rw [e, if_pos (by omega)]
  rfl
theorem szCircle_small {l : List Int} {n : Int} (hn : n ≤ 1048576) (hb : (l.length : Int) ≤ n) : laws_szCircle.f l n = some (n - (l.length : Int)) := by
  unfold laws_szCircle.f laws_szIntS.f
  have e : wrap64 (n - (l.length : Int)) = n - (l.length : Int) := by unfold wrap64; omega
  rw [e, if_neg (by omega)]
  simp only [Option.bind_some]
  rw [if_neg (by omega)]

def mk : Int → Nat → List Int
  | _, 0 => []
  | m, n + 1 => m :: mk (m + 1) n
theorem mk_length (m : Int) (n : Nat) : (mk m n).length = n := by
  induction n generalizing m with
  | zero => rfl
  | succ n ih => simp [mk, ih]
theorem markIntS_l0 : ∀ (rest pre : List Int) (m : Int) (k : Nat), rest.length < k → (pre ++ rest).length ≤ 1099511627776 → 0 ≤ m → m + rest.length ≤ 1099511627776 →
    laws_markIntS.l0 k (pre ++ rest) m (pre.length : Int) = some (m + rest.length, pre ++ mk m rest.length) := by
  intro rest
  induction rest with
  | nil =>
    intro pre m k hk _ _ _
    obtain ⟨k, rfl⟩ : ∃ m, k = m + 1 := ⟨k - 1, by simp at hk; omega⟩
    simp only [laws_markIntS.l0]
    rw [if_neg (by simp)]
    simp [mk]
  | cons p rest ih =>
    intro pre m k hk hl hm hm2
    obtain ⟨k, rfl⟩ : ∃ m, k = m + 1 := ⟨k - 1, by simp at hk; omega⟩
    simp only [List.length_cons] at hm2
    simp only [laws_markIntS.l0]
    rw [if_pos (by simp; omega), if_pos (by omega), wrap_id (x := m + 1) (by omega), succ_wrap (by simp at hl; omega)]
    have e : (pre ++ p :: rest).set ((pre.length : Int)).toNat m = (pre ++ [m]) ++ rest := by simp
    rw [e]
    have := ih (pre ++ [m]) (m + 1) k (by simp at hk; omega) (by simp at hl ⊢; omega) (by omega) (by omega)
    have e2 : ((pre ++ [m]).length : Int) = ((pre.length + 1 : Nat) : Int) := by simp
    rw [e2] at this
    rw [this]
    simp [mk]; omega
theorem markIntS_eq {k : Nat} {l : List Int} {m : Int} (hk : l.length < k) (hm : 0 ≤ m) (hl : m + l.length ≤ 1099511627776) : laws_markIntS.f k l m = some (m + l.length, mk m l.length) := by
  unfold laws_markIntS.f
  have := markIntS_l0 l [] m k hk (by simp; omega) hm hl
  simpa using this
theorem heldIntS_l0 : ∀ (n : Nat) (pre : List Int) (m : Int) (k : Nat), n < k → pre.length + n ≤ 1099511627776 → 0 ≤ m → m + n ≤ 1099511627776 →
    laws_heldIntS.l0 k (pre ++ mk m n) m (pre.length : Int) = some (m + n) := by
  intro n
  induction n with
  | zero =>
    intro pre m k hk _ _ _
    obtain ⟨k, rfl⟩ : ∃ m, k = m + 1 := ⟨k - 1, by omega⟩
    rw [show mk m 0 = [] from rfl]
    simp only [laws_heldIntS.l0]
    rw [if_neg (by simp)]
    simp
  | succ n ih =>
    intro pre m k hk hl hm hm2
    obtain ⟨k, rfl⟩ : ∃ m, k = m + 1 := ⟨k - 1, by omega⟩
    rw [show mk m (n + 1) = m :: mk (m + 1) n from rfl]
    simp only [laws_heldIntS.l0]
    rw [if_pos (by simp; omega), if_pos (by omega), rd_mid, if_pos rfl, wrap_id (x := m + 1) (by omega), succ_wrap (by omega)]
    have := ih (pre ++ [m]) (m + 1) k (by omega) (by simp; omega) (by omega) (by omega)
    have e2 : ((pre ++ [m]).length : Int) = ((pre.length + 1 : Nat) : Int) := by simp
    have e3 : pre ++ [m] ++ mk (m + 1) n = pre ++ m :: mk (m + 1) n := by simp
    rw [e2, e3] at this
    rw [this]
    congr 1; omega
theorem heldIntS_eq {k n : Nat} {m : Int} (hk : n < k) (hm : 0 ≤ m) (hl : m + n ≤ 1099511627776) : laws_heldIntS.f k (mk m n) m = some (m + n) := by
  unfold laws_heldIntS.f
  have := heldIntS_l0 n [] m k hk (by simp; omega) hm hl
  simpa using this

theorem markCircle_eq {k : Nat} {l : List Int} {m : Int} (hk : l.length < k) (hm : 0 ≤ m) (hl : m + l.length ≤ 1099511627776) : laws_markCircle.f k l m = some (m + l.length, mk m l.length) := by
  unfold laws_markCircle.f
  rw [markIntS_eq hk hm hl]; rfl

theorem FnExactBestKeys (l : List Int) (hm : l.length ≤ maxLen) (hw : ∀ x ∈ l, (Lit.int .i64 x).wf = true) : ∃ k, laws_FnExactBestKeys.f k l = some true := by
  by_cases hb : 1048576 < l.length
  · refine ⟨1, ?_⟩
    unfold laws_FnExactBestKeys.f
    rw [szCircle_big hm hb]; rfl
  · refine ⟨2000000, ?_⟩
    have h1 : l.length < 1999999 := by omega
    have h2 : l.length < 2000000 := by omega
    have ht := bestK_length (l := l)
    unfold laws_FnExactBestKeys.f
    rw [szCircle_small (by omega) (by omega)]
    simp only [Option.bind_some]
    rw [if_neg (by omega)]
    have hj : laws_FnExactBestKeys.j0 2000000 (bestK l) (bestK l) false l = some true := by
      show laws_FnExactBestKeys.j0 (1999999 + 1) (bestK l) (bestK l) false l = some true
      simp only [laws_FnExactBestKeys.j0]
      rw [markIntS_eq (by omega) (by omega) (by omega)]
      simp only [Option.bind_some]
      rw [heldIntS_eq (by omega) (by omega) (by omega)]
      simp only [Option.bind_some]
      have hn : ¬ ((1 : Int) + ((bestK l).length : Int) < 0) := by omega
      simp [toCircle_eq h1 (by omega), impl_bestKeys (show l.length + 10 < 1999999 by omega) (by omega), eqIntS_refl (show (bestK l).length < 1999999 by omega) (by omega), hn]
    rw [toCircle_eq h2 (by omega)]
    simp only [Option.bind_some]
    rw [spec_bestKeys (by omega) (by omega) (by omega), impl_bestKeys (by omega) (by omega)]
    simp only [Option.bind_some]
    rw [eqIntS_refl (show (bestK l).length < 2000000 by omega) (by omega), eqCircle_refl h2 (by omega)]
    simp only [Option.bind_some, if_true]
    rw [markCircle_eq h2 (by omega) (by omega)]
    simp only [Option.bind_some]
    rw [if_neg (by omega)]
    exact hj

end Go.Proofs.Ytoljbcjpilcfiaa.Pure
