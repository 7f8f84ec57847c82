/- The law FnExactMeets over numbers and lists alone: the program's Meets and the reference's give one answer, and the arguments stay as they were. Conditions: none. -/
import Derived.Test.YtdcpbnddnbeofaaQFnExactMeetsx6
import Derived.Test.YtdcpbnddnbeofaaVFnExactMeetsa
namespace Go.Proofs.Ytdcpbnddnbeofaa.Pure
open Go.RowKit Go.Proofs.Ytdcpbnddnbeofaa.PFnExactMeets Go.Proofs.YtdcpbnddnbeofaaW.PrintWords Go.Proofs.YtdcpbnddnbeofaaW.PrintLast Go.Proofs.YtdcpbnddnbeofaaW.PrintMore
set_option linter.unusedVariables false
set_option linter.unusedSimpArgs false

theorem wrap_id {x : Int} (h : -4611686018427387904 ≤ x ∧ x ≤ 4611686018427387904) : wrap64 x = x := by
  unfold wrap64; omega

theorem rd_mid (pre rest : List Int) (p : Int) : rd (pre ++ p :: rest) ((pre.length : Nat) : Int) = p := by
  unfold rd
  simp [List.getD]
theorem rd_getD (l : List Int) (i : Nat) : rd l (i : Int) = l.getD i 0 := by unfold rd; simp
theorem succ_wrap {n : Nat} (h : n ≤ 1099511627776) : wrap64 ((n : Int) + 1) = ((n + 1 : Nat) : Int) := by
  rw [wrap_id (by omega)]; omega
theorem split_at {α : Type} (l : List α) (i : Nat) (h : i ≤ l.length) : ∃ pre rest, l = pre ++ rest ∧ pre.length = i := ⟨l.take i, l.drop i, (List.take_append_drop i l).symm, by simp; omega⟩

theorem rdL_mid (pre rest : List S77) (p : S77) : rd_T77 (pre ++ p :: rest) ((pre.length : Nat) : Int) = p := by
  unfold rd_T77
  rw [Int.toNat_natCast, List.getD_eq_getElem?_getD, List.getElem?_append_right (Nat.le_refl _)]
  simp
theorem rdW_mid (pre rest : List S74) (p : S74) : rd_T74 (pre ++ p :: rest) ((pre.length : Nat) : Int) = p := by
  unfold rd_T74
  rw [Int.toNat_natCast, List.getD_eq_getElem?_getD, List.getElem?_append_right (Nat.le_refl _)]
  simp
def toW (x : S77) : S74 := ⟨x.f0, x.f1⟩
theorem toWishS_l0 : ∀ (rest pre : List S77) (k : Nat), rest.length < k → (pre ++ rest).length ≤ 1099511627776 → laws_toWishS.l0 k (pre ++ rest) (pre.map toW ++ List.replicate rest.length z74) ((pre.length : Nat) : Int) = some ((pre ++ rest).map toW) := by
  intro rest
  induction rest with
  | nil =>
    intro pre k hk hl
    obtain ⟨k, rfl⟩ : ∃ m, k = m + 1 := ⟨k - 1, by omega⟩
    rw [laws_toWishS.l0, if_neg (by simp)]; simp
  | cons p rest ih =>
    intro pre k hk hl
    obtain ⟨k, rfl⟩ : ∃ m, k = m + 1 := ⟨k - 1, by omega⟩
    have hl2 : pre.length + rest.length + 1 ≤ 1099511627776 := by simp at hl; omega
    have hk2 : rest.length < k := by simp at hk; omega
    have hlen : ((pre ++ p :: rest).length : Int) = (pre.length : Int) + (rest.length : Int) + 1 := by simp; omega
    have hlr : ((pre.map toW ++ List.replicate (p :: rest).length z74).length : Int) = (pre.length : Int) + (rest.length : Int) + 1 := by simp; omega
    have e := ih (pre ++ [p]) k hk2 (by simp; omega)
    rw [List.append_assoc, List.singleton_append, List.length_append, List.length_singleton, List.map_append, List.map_cons, List.map_nil, List.append_assoc, List.singleton_append] at e
    have hset : (pre.map toW ++ List.replicate (p :: rest).length z74).set (((pre.length : Nat) : Int)).toNat (toW p) = pre.map toW ++ toW p :: List.replicate rest.length z74 := by
      rw [Int.toNat_natCast, List.length_cons, List.replicate_succ, List.set_append_right _ _ (by simp)]
      simp
    rw [laws_toWishS.l0, if_pos (by rw [hlen]; omega), if_pos (by omega), rdL_mid]
    unfold laws_toWish.f
    rw [Option.bind_some, if_pos (by rw [hlr]; omega)]
    change laws_toWishS.l0 k (pre ++ p :: rest) ((pre.map toW ++ List.replicate (p :: rest).length z74).set (((pre.length : Nat) : Int)).toNat (toW p)) (wrap64 (((pre.length : Nat) : Int) + 1)) = _
    rw [hset, succ_wrap (by omega), e]
theorem toWishS_eq {k : Nat} {l : List S77} (hk : l.length < k) (hl : l.length ≤ 1048576) : laws_toWishS.f k l = some (l.map toW) := by
  have e := toWishS_l0 l [] k hk (by simp; omega)
  rw [show ((([] : List S77).length : Nat) : Int) = 0 from rfl, List.nil_append, List.map_nil, List.nil_append] at e
  unfold laws_toWishS.f
  rw [if_pos (by omega), if_pos (by omega), Int.toNat_natCast, e]
theorem eqWishS_l0 : ∀ (rest pre : List S74) (k : Nat), rest.length < k → (pre ++ rest).length ≤ 1099511627776 → laws_eqWishS.l0 k (pre ++ rest) (pre ++ rest) ((pre.length : Nat) : Int) = some true := by
  intro rest
  induction rest with
  | nil =>
    intro pre k hk hl
    obtain ⟨k, rfl⟩ : ∃ m, k = m + 1 := ⟨k - 1, by omega⟩
    rw [laws_eqWishS.l0, if_neg (by simp)]
  | cons p rest ih =>
    intro pre k hk hl
    obtain ⟨k, rfl⟩ : ∃ m, k = m + 1 := ⟨k - 1, by omega⟩
    have hl2 : pre.length + rest.length + 1 ≤ 1099511627776 := by simp at hl; omega
    have hk2 : rest.length < k := by simp at hk; omega
    have hlen : ((pre ++ p :: rest).length : Int) = (pre.length : Int) + (rest.length : Int) + 1 := by simp; omega
    have e := ih (pre ++ [p]) k hk2 (by simp; omega)
    rw [List.append_assoc, List.singleton_append, List.length_append, List.length_singleton] at e
    rw [laws_eqWishS.l0, if_pos (by rw [hlen]; omega), if_pos (by omega), if_pos (by rw [hlen]; omega), rdW_mid]
    unfold laws_eqWish.f
    rw [if_pos rfl, if_pos rfl, Option.bind_some, if_pos rfl, succ_wrap (by omega), e]
theorem eqWishS_refl {k : Nat} {l : List S74} (hk : l.length < k) (hl : l.length ≤ 1048576) : laws_eqWishS.f k l l = some true := by
  have e := eqWishS_l0 l [] k hk (by simp; omega)
  rw [show ((([] : List S74).length : Nat) : Int) = 0 from rfl, List.nil_append] at e
  unfold laws_eqWishS.f
  rw [if_pos rfl, e]
theorem szWishS_big {l : List S77} {n : Int} (hn : 0 ≤ n ∧ n ≤ 1048576) (h : l.length ≤ maxLen) (hb : n < (l.length : Int)) : laws_szWishS.f l n = some (-1) := by
  unfold laws_szWishS.f
  have e : wrap64 (n - (l.length : Int)) = n - (l.length : Int) := by unfold maxLen at h; unfold wrap64; omega
  rw [e, if_pos (by omega)]
theorem szWishS_small {l : List S77} {n : Int} (hn : 0 ≤ n ∧ n ≤ 1048576) (hb : (l.length : Int) ≤ n) : laws_szWishS.f l n = some (n - (l.length : Int)) := by
  unfold laws_szWishS.f
  rw [wrap_id (by omega), if_neg (by omega)]

theorem l01In_eq (a b c : Int) : spec_l01In.f a b c = some (decide (b ≤ a ∧ a ≤ c)) := by
  unfold spec_l01In.f
  by_cases h : b ≤ a <;> simp [h]
theorem within_eq (a b c : Int) : impl_within.f a b c = some (decide (b ≤ a ∧ a ≤ c)) := by
  unfold impl_within.f
  by_cases h : b ≤ a <;> simp [h]

def inR (p : Int) : Bool := decide (0 ≤ p ∧ p ≤ 12)
def circOk (l : List Int) : Bool := l.all inR && (decide (l.length = 12) && (l.sum == 12))
theorem impl_circOk_l0 : ∀ (rest pre : List Int) (s : Int) (k : Nat), rest.length < k → (pre ++ rest).length ≤ 1099511627776 → 0 ≤ s ∧ s ≤ 12 * (pre.length : Int) →
    impl_CircleOk.l0 k s (pre ++ rest) ((pre ++ rest).length : Int) (pre.length : Int) (pre ++ rest) = some (rest.all inR && (decide ((pre ++ rest).length = 12) && (s + rest.sum == 12))) := by
  intro rest
  induction rest with
  | nil =>
    intro pre s k hk hl hs
    obtain ⟨k, rfl⟩ : ∃ m, k = m + 1 := ⟨k - 1, by simp at hk; omega⟩
    simp only [impl_CircleOk.l0]
    rw [if_neg (by simp)]
    by_cases h : (pre ++ ([] : List Int)).length = 12
    · rw [if_pos (by omega)]; simp at h; simp [h]
    · rw [if_neg (by omega)]; simp at h; simp [h]
  | cons p rest ih =>
    intro pre s k hk hl hs
    obtain ⟨k, rfl⟩ : ∃ m, k = m + 1 := ⟨k - 1, by simp at hk; omega⟩
    simp only [impl_CircleOk.l0]
    rw [if_pos (by simp; omega), if_pos (by omega), if_pos (by simp; omega), rd_mid, within_eq]
    simp only [Option.bind_some]
    by_cases hp : 0 ≤ p ∧ p ≤ 12
    · have hl2 : pre.length ≤ 1099511627776 := by simp at hl; omega
      rw [if_pos (by simpa using hp), wrap_id (x := s + p) (by omega), succ_wrap hl2]
      have := ih (pre ++ [p]) (s + p) k (by simp at hk; omega) (by simp at hl ⊢; omega) (by simp; omega)
      have e : pre ++ [p] ++ rest = pre ++ p :: rest := by simp
      have e2 : ((pre ++ [p]).length : Int) = ((pre.length + 1 : Nat) : Int) := by simp
      rw [e, e2] at this
      rw [this]
      have hi : inR p = true := decide_eq_true hp
      simp [hi, Int.add_assoc]
    · rw [if_neg (by simpa using hp)]
      have hi : inR p = false := decide_eq_false hp
      simp [hi]
theorem impl_circOk {k : Nat} {l : List Int} (hk : l.length < k) (hl : l.length ≤ 1099511627776) : impl_CircleOk.f k l = some (circOk l) := by
  have := impl_circOk_l0 l [] 0 k hk (by simpa using hl) (by simp)
  unfold impl_CircleOk.f circOk
  simpa using this
theorem circOk_len {l : List Int} (h : circOk l = true) : l.length = 12 := by
  unfold circOk at h; simp at h; exact h.2.1
theorem circOk_sum {l : List Int} (h : circOk l = true) : l.sum = 12 := by
  unfold circOk at h; simp at h; exact h.2.2
theorem circOk_mem {l : List Int} (h : circOk l = true) : ∀ p ∈ l, 0 ≤ p ∧ p ≤ 12 := by
  unfold circOk at h; simp at h
  intro p hp
  have := h.1 p hp
  exact of_decide_eq_true this

def psum (l : List Int) (i : Int) : Nat → Int
  | 0 => 0
  | n + 1 => psum l i n + l.getD ((i.toNat + n) % 12) 0
theorem getD_range {l : List Int} (h : circOk l = true) (j : Nat) : 0 ≤ l.getD j 0 ∧ l.getD j 0 ≤ 12 := by
  rcases Nat.lt_or_ge j l.length with hj | hj
  · rw [List.getD_eq_getElem?_getD, List.getElem?_eq_getElem hj]
    exact circOk_mem h _ (List.getElem_mem hj)
  · rw [List.getD_eq_getElem?_getD, List.getElem?_eq_none hj]; simp
theorem psum_range {l : List Int} (h : circOk l = true) (i : Int) (n : Nat) : 0 ≤ psum l i n ∧ psum l i n ≤ 12 * n := by
  induction n with
  | zero => simp [psum]
  | succ n ih => have := getD_range h ((i.toNat + n) % 12); simp only [psum]; omega
theorem idx_eq {i : Int} {n : Nat} (hi : 0 ≤ i ∧ i ≤ 11) (hn : n ≤ 100) : Int.tmod (wrap64 (i + (n : Int))) 12 = (((i.toNat + n) % 12 : Nat) : Int) := by
  rw [wrap_id (by omega), Int.tmod_eq_emod_of_nonneg (by omega)]; omega

def isKey (l : List Int) (i : Int) : Bool := circOk l && decide (0 ≤ i ∧ i ≤ 11)
theorem impl_isKey_eq {k : Nat} {l : List Int} (i : Int) (hk : l.length < k) (hl : l.length ≤ 1099511627776) : impl_isKey.f k l i = some (isKey l i) := by
  unfold impl_isKey.f isKey
  rw [impl_circOk hk hl]
  simp only [Option.bind_some, within_eq]
  cases circOk l <;> simp
theorem isKey_parts {l : List Int} {i : Int} (h : isKey l i = true) : circOk l = true ∧ (0 ≤ i ∧ i ≤ 11) := by
  unfold isKey at h
  simp only [Bool.and_eq_true] at h
  exact ⟨h.1, of_decide_eq_true h.2⟩

theorem impl_parts_l0 {l : List Int} (h : circOk l = true) {i : Int} (hi : 0 ≤ i ∧ i ≤ 11) (n : Nat) (hn : n ≤ 100) : ∀ (d m k : Nat), m + d = n → d < k → impl_partsFrom.l0 k i (n : Int) (psum l i m) (m : Int) l = some (psum l i n) := by
  intro d
  induction d with
  | zero =>
    intro m k hm hk
    obtain ⟨k, rfl⟩ : ∃ q, k = q + 1 := ⟨k - 1, by omega⟩
    simp only [impl_partsFrom.l0]
    rw [if_neg (by omega)]
    congr 2
  | succ d ih =>
    intro m k hm hk
    obtain ⟨k, rfl⟩ : ∃ q, k = q + 1 := ⟨k - 1, by omega⟩
    have hl := circOk_len h
    have hg := getD_range h ((i.toNat + m) % 12)
    have hp := psum_range h i m
    have hmod : (i.toNat + m) % 12 < 12 := Nat.mod_lt _ (by omega)
    simp only [impl_partsFrom.l0]
    rw [if_pos (by omega), idx_eq hi (by omega), if_pos (by omega), if_pos (by omega), rd_getD, wrap_id (by omega), succ_wrap (by omega)]
    exact ih (m + 1) k (by omega) (by omega)
def parts (l : List Int) (i : Int) (n : Nat) : Int := if isKey l i = true then psum l i n else 0
theorem impl_partsFrom_eq {k n : Nat} {l : List Int} (i : Int) (hk : l.length < k) (hl : l.length ≤ 1099511627776) (hn : n ≤ 100) (hkn : n < k) : impl_partsFrom.f k l i (n : Int) = some (parts l i n) := by
  unfold impl_partsFrom.f parts
  rw [impl_isKey_eq i hk hl]
  simp only [Option.bind_some]
  by_cases h : isKey l i = true
  · rw [if_pos h, if_pos h]
    obtain ⟨h1, h2⟩ := isKey_parts h
    exact impl_parts_l0 h1 h2 n hn n 0 k (by omega) hkn
  · rw [if_neg h, if_neg h]

theorem impl_thirdParts {k : Nat} {l : List Int} (i : Int) (hk : l.length < k) (hk2 : 5 < k) (hl : l.length ≤ 1099511627776) : impl_ThirdParts.f k l i = some (parts l i 4) := by
  unfold impl_ThirdParts.f
  have := impl_partsFrom_eq (k := k) (n := 4) i hk hl (by omega) (by omega)
  rw [show ((4 : Nat) : Int) = 4 from rfl] at this
  rw [this]; rfl

def inW (w : S74) : Bool := decide (0 ≤ w.f0 ∧ w.f0 ≤ 11)
def okW (l : List Int) (w : S74) : Bool := inW w && decide (¬ psum l w.f0 4 < w.f1)
def meets (l : List Int) (ws : List S74) : Bool := circOk l && (decide (ws.length ≤ 12) && ws.all (okW l))
theorem impl_meets_l1 {l : List Int} (h : circOk l = true) : ∀ (rest pre : List S74) (k : Nat), rest.length + 30 < k → (pre ++ rest).length ≤ 1000 → (∀ w ∈ rest, inW w = true) →
    impl_Meets.l1 k (pre ++ rest) ((pre ++ rest).length : Int) ((pre.length : Nat) : Int) l = some (rest.all (okW l)) := by
  intro rest
  induction rest with
  | nil =>
    intro pre k hk hl hi
    obtain ⟨k, rfl⟩ : ∃ m, k = m + 1 := ⟨k - 1, by omega⟩
    rw [impl_Meets.l1, if_neg (by simp)]; rfl
  | cons w rest ih =>
    intro pre k hk hl hi
    obtain ⟨k, rfl⟩ : ∃ m, k = m + 1 := ⟨k - 1, by omega⟩
    have hl2 : pre.length + rest.length + 1 ≤ 1000 := by simp at hl; omega
    have hk2 : rest.length + 30 < k := by simp at hk; omega
    have hlen : ((pre ++ w :: rest).length : Int) = (pre.length : Int) + (rest.length : Int) + 1 := by simp; omega
    have e := ih (pre ++ [w]) k hk2 (by simp; omega) (fun x hx => hi x (by simp [hx]))
    rw [List.append_assoc, List.singleton_append] at e
    have e2 : (((pre ++ [w]).length : Nat) : Int) = ((pre.length + 1 : Nat) : Int) := by simp
    rw [e2] at e
    have hw := hi w (by simp)
    have hw2 := hw
    unfold inW at hw2
    have hw3 := of_decide_eq_true hw2
    have h12 := circOk_len h
    have hkey : isKey l w.f0 = true := by unfold isKey; rw [h, Bool.true_and]; exact hw2
    have ep : parts l w.f0 4 = psum l w.f0 4 := by unfold parts; rw [if_pos hkey]
    rw [impl_Meets.l1, if_pos (by rw [hlen]; omega), if_pos (by omega), if_pos (by rw [hlen]; omega), rdW_mid, impl_thirdParts _ (by omega) (by omega) (by omega), Option.bind_some, ep, List.all_cons]
    by_cases g : psum l w.f0 4 < w.f1
    · rw [if_pos g]
      have : okW l w = false := by unfold okW; rw [hw, decide_eq_false (by simpa using g)]; rfl
      rw [this, Bool.false_and]
    · rw [if_neg g, succ_wrap (by omega), e]
      have : okW l w = true := by unfold okW; rw [hw, decide_eq_true g]; rfl
      rw [this, Bool.true_and]
theorem impl_meets_l0 {l : List Int} (h : circOk l = true) : ∀ (rest pre : List S74) (k : Nat), rest.length + (pre ++ rest).length + 40 < k → (pre ++ rest).length ≤ 1000 → (∀ w ∈ pre, inW w = true) →
    impl_Meets.l0 k (pre ++ rest) (pre ++ rest) ((pre ++ rest).length : Int) ((pre.length : Nat) : Int) l = some ((pre ++ rest).all (okW l)) := by
  intro rest
  induction rest with
  | nil =>
    intro pre k hk hl hi
    obtain ⟨k, rfl⟩ : ∃ m, k = m + 1 := ⟨k - 1, by omega⟩
    have e := impl_meets_l1 h pre [] k (by simp at hk; omega) (by simpa using hl) hi
    rw [show ((([] : List S74).length : Nat) : Int) = 0 from rfl, List.nil_append] at e
    rw [impl_Meets.l0, if_neg (by simp), List.append_nil, e]
  | cons w rest ih =>
    intro pre k hk hl hi
    obtain ⟨k, rfl⟩ : ∃ m, k = m + 1 := ⟨k - 1, by omega⟩
    have hl2 : pre.length + rest.length + 1 ≤ 1000 := by simp at hl; omega
    have hlen : ((pre ++ w :: rest).length : Int) = (pre.length : Int) + (rest.length : Int) + 1 := by simp; omega
    rw [impl_Meets.l0, if_pos (by rw [hlen]; omega), if_pos (by omega), if_pos (by rw [hlen]; omega), rdW_mid, within_eq, Option.bind_some]
    by_cases g : inW w = true
    · have e := ih (pre ++ [w]) k (by simp at hk ⊢; omega) (by simp; omega) (fun x hx => by
        rcases List.mem_append.1 hx with hx | hx
        · exact hi x hx
        · rw [List.mem_singleton.1 hx]; exact g)
      rw [List.append_assoc, List.singleton_append] at e
      have e2 : (((pre ++ [w]).length : Nat) : Int) = ((pre.length + 1 : Nat) : Int) := by simp
      rw [e2] at e
      unfold inW at g
      rw [if_pos g, succ_wrap (by omega), e]
    · have hf : (pre ++ w :: rest).all (okW l) = false := by
        rw [List.all_append, List.all_cons]
        have : okW l w = false := by unfold okW; rw [Bool.eq_false_iff.2 g]; rfl
        rw [this, Bool.false_and, Bool.and_false]
      unfold inW at g
      rw [if_neg g, hf]
theorem impl_meets {k : Nat} {l : List Int} (ws : List S74) (hk : 2000 < k) (hk2 : l.length < k) (hl : l.length ≤ 1099511627776) : impl_Meets.f k l ws = some (meets l ws) := by
  obtain ⟨k, rfl⟩ : ∃ m, k = m + 1 := ⟨k - 1, by omega⟩
  unfold impl_Meets.f meets
  rw [impl_circOk (by omega) hl, Option.bind_some]
  by_cases h : circOk l = true
  · rw [if_pos h, h, Bool.true_and]
    by_cases g : ws.length ≤ 12
    · have e := impl_meets_l0 h ws [] k (by simp; omega) (by simp; omega) (fun w hw => by cases hw)
      rw [show ((([] : List S74).length : Nat) : Int) = 0 from rfl, List.nil_append] at e
      rw [decide_eq_false (by omega), impl_Meets.j0, if_neg (by decide), e, decide_eq_true g, Bool.true_and]
    · rw [decide_eq_true (by omega), impl_Meets.j0, if_pos rfl, decide_eq_false g, Bool.false_and]
  · rw [if_neg h, impl_Meets.j0, if_pos rfl, Bool.eq_false_iff.2 h, Bool.false_and]

theorem spec_circOk_l0 : ∀ (rest pre : List Int) (s : Int) (k : Nat), rest.length < k → (pre ++ rest).length ≤ 1099511627776 → 0 ≤ s ∧ s ≤ 12 * (pre.length : Int) →
    spec_CircleOk.l0 k s (pre.length : Int) (pre ++ rest) = some (rest.all inR && (decide ((pre ++ rest).length = 12) && (s + rest.sum == 12))) := by
  intro rest
  induction rest with
  | nil =>
    intro pre s k hk hl hs
    obtain ⟨k, rfl⟩ : ∃ m, k = m + 1 := ⟨k - 1, by simp at hk; omega⟩
    simp only [spec_CircleOk.l0]
    rw [if_neg (by simp)]
    by_cases h : (pre ++ ([] : List Int)).length = 12
    · rw [if_pos (by omega)]; simp at h; simp [h]
    · rw [if_neg (by omega)]; simp at h; simp [h]
  | cons p rest ih =>
    intro pre s k hk hl hs
    obtain ⟨k, rfl⟩ : ∃ m, k = m + 1 := ⟨k - 1, by simp at hk; omega⟩
    simp only [spec_CircleOk.l0]
    rw [if_pos (by simp; omega), if_pos (by omega), rd_mid, l01In_eq]
    simp only [Option.bind_some]
    by_cases hp : 0 ≤ p ∧ p ≤ 12
    · have hl2 : pre.length ≤ 1099511627776 := by simp at hl; omega
      rw [if_pos (by simpa using hp), wrap_id (x := s + p) (by omega), succ_wrap hl2]
      have := ih (pre ++ [p]) (s + p) k (by simp at hk; omega) (by simp at hl ⊢; omega) (by simp; omega)
      have e : pre ++ [p] ++ rest = pre ++ p :: rest := by simp
      have e2 : ((pre ++ [p]).length : Int) = ((pre.length + 1 : Nat) : Int) := by simp
      rw [e, e2] at this
      rw [this]
      have hi : inR p = true := decide_eq_true hp
      simp [hi, Int.add_assoc]
    · rw [if_neg (by simpa using hp)]
      have hi : inR p = false := decide_eq_false hp
      simp [hi]
theorem spec_circOk {k : Nat} {l : List Int} (hk : l.length < k) (hl : l.length ≤ 1099511627776) : spec_CircleOk.f k l = some (circOk l) := by
  have := spec_circOk_l0 l [] 0 k hk (by simpa using hl) (by simp)
  unfold spec_CircleOk.f circOk
  simpa using this

theorem spec_l13_l0 {l : List Int} (h : circOk l = true) {i : Int} (hi : 0 ≤ i ∧ i ≤ 11) (n : Nat) (hn : n ≤ 100) : ∀ (d m k : Nat), m + d = n → d < k → spec_l13Sum.l0 k i (n : Int) (psum l i m) (m : Int) l = some (psum l i n) := by
  intro d
  induction d with
  | zero =>
    intro m k hm hk
    obtain ⟨k, rfl⟩ : ∃ q, k = q + 1 := ⟨k - 1, by omega⟩
    simp only [spec_l13Sum.l0]
    rw [if_neg (by omega)]
    congr 2
  | succ d ih =>
    intro m k hm hk
    obtain ⟨k, rfl⟩ : ∃ q, k = q + 1 := ⟨k - 1, by omega⟩
    have hl := circOk_len h
    have hg := getD_range h ((i.toNat + m) % 12)
    have hp := psum_range h i m
    have hmod : (i.toNat + m) % 12 < 12 := Nat.mod_lt _ (by omega)
    simp only [spec_l13Sum.l0]
    rw [if_pos (by omega), idx_eq hi (by omega), if_pos (by omega), if_pos (by omega), rd_getD, wrap_id (by omega), succ_wrap (by omega)]
    exact ih (m + 1) k (by omega) (by omega)
theorem spec_l13Sum_eq {l : List Int} (h : circOk l = true) {i : Int} (hi : 0 ≤ i ∧ i ≤ 11) {k n : Nat} (hn : n ≤ 100) (hk : n < k) : spec_l13Sum.f k l i (n : Int) = some (psum l i n) := by
  unfold spec_l13Sum.f
  exact spec_l13_l0 h hi n hn n 0 k (by omega) hk

theorem spec_meets_l0 {l : List Int} (h : circOk l = true) : ∀ (rest pre : List S74) (k : Nat), rest.length + 40 < k → (pre ++ rest).length ≤ 1000 →
    spec_Meets.l0 k (pre ++ rest) ((pre.length : Nat) : Int) l = some (rest.all (okW l)) := by
  intro rest
  induction rest with
  | nil =>
    intro pre k hk hl
    obtain ⟨k, rfl⟩ : ∃ m, k = m + 1 := ⟨k - 1, by omega⟩
    rw [spec_Meets.l0, if_neg (by simp)]; rfl
  | cons w rest ih =>
    intro pre k hk hl
    obtain ⟨k, rfl⟩ : ∃ m, k = m + 1 := ⟨k - 1, by omega⟩
    have hl2 : pre.length + rest.length + 1 ≤ 1000 := by simp at hl; omega
    have hk2 : rest.length + 40 < k := by simp at hk; omega
    have hlen : ((pre ++ w :: rest).length : Int) = (pre.length : Int) + (rest.length : Int) + 1 := by simp; omega
    have e := ih (pre ++ [w]) k hk2 (by simp; omega)
    rw [List.append_assoc, List.singleton_append] at e
    have e2 : (((pre ++ [w]).length : Nat) : Int) = ((pre.length + 1 : Nat) : Int) := by simp
    rw [e2] at e
    rw [spec_Meets.l0, if_pos (by rw [hlen]; omega), if_pos (by omega), rdW_mid, l01In_eq, Option.bind_some, List.all_cons]
    by_cases hw : inW w = true
    · have hw2 := hw
      unfold inW at hw2
      have hw3 := of_decide_eq_true hw2
      rw [if_pos hw2, show (4 : Int) = ((4 : Nat) : Int) from rfl, spec_l13Sum_eq h hw3 (by omega) (by omega), Option.bind_some]
      by_cases g : psum l w.f0 4 < w.f1
      · rw [if_pos g]
        have : okW l w = false := by unfold okW; rw [hw, decide_eq_false (by simpa using g)]; rfl
        rw [this, Bool.false_and]
      · rw [if_neg g, succ_wrap (by omega), e]
        have : okW l w = true := by unfold okW; rw [hw, decide_eq_true g]; rfl
        rw [this, Bool.true_and]
    · have : okW l w = false := by unfold okW; rw [Bool.eq_false_iff.2 hw]; rfl
      unfold inW at hw
      rw [if_neg hw, this, Bool.false_and]
theorem spec_meets {k : Nat} {l : List Int} (ws : List S74) (hk : 2000 < k) (hk2 : l.length < k) (hl : l.length ≤ 1099511627776) : spec_Meets.f k l ws = some (meets l ws) := by
  obtain ⟨k, rfl⟩ : ∃ m, k = m + 1 := ⟨k - 1, by omega⟩
  unfold spec_Meets.f meets
  rw [spec_circOk (by omega) hl, Option.bind_some]
  by_cases h : circOk l = true
  · rw [if_pos h, h, Bool.true_and]
    by_cases g : ws.length ≤ 12
    · have e := spec_meets_l0 h ws [] k (by omega) (by simp; omega)
      rw [show ((([] : List S74).length : Nat) : Int) = 0 from rfl, List.nil_append] at e
      rw [decide_eq_false (by omega), spec_Meets.j0, if_neg (by decide), e, decide_eq_true g, Bool.true_and]
    · rw [decide_eq_true (by omega), spec_Meets.j0, if_pos rfl, decide_eq_false g, Bool.false_and]
  · rw [if_neg h, spec_Meets.j0, if_pos rfl, Bool.eq_false_iff.2 h, Bool.false_and]

theorem toIntS_l0 : ∀ (rest pre : List Int) (k : Nat), rest.length < k → (pre ++ rest).length ≤ 1099511627776 → laws_toIntS.l0 k (pre ++ rest) (pre ++ List.replicate rest.length 0) (pre.length : Int) = some (pre ++ rest) := by
  intro rest
  induction rest with
  | nil =>
    intro pre k hk _
    obtain ⟨k, rfl⟩ : ∃ m, k = m + 1 := ⟨k - 1, by simp at hk; omega⟩
    simp only [laws_toIntS.l0]
    rw [if_neg (by simp)]
    simp
  | cons p rest ih =>
    intro pre k hk hl
    obtain ⟨k, rfl⟩ : ∃ m, k = m + 1 := ⟨k - 1, by simp at hk; omega⟩
    simp only [laws_toIntS.l0]
    rw [if_pos (by simp; omega), if_pos (by omega), if_pos (by simp; omega), rd_mid, succ_wrap (by simp at hl; omega)]
    have e : (pre ++ List.replicate (p :: rest).length 0).set ((pre.length : Int)).toNat p = (pre ++ [p]) ++ List.replicate rest.length 0 := by
      simp [List.replicate_succ]
    rw [e]
    have := ih (pre ++ [p]) k (by simp at hk; omega) (by simp at hl ⊢; omega)
    simpa using this
theorem toIntS_eq {k : Nat} {l : List Int} (hk : l.length < k) (hl : l.length ≤ 1099511627776) : laws_toIntS.f k l = some l := by
  unfold laws_toIntS.f
  rw [if_pos (by omega), if_pos (by omega)]
  have := toIntS_l0 l [] k hk (by simp; omega)
  simpa using this

theorem toCircle_eq {k : Nat} {l : List Int} (hk : l.length < k) (hl : l.length ≤ 1099511627776) : laws_toCircle.f k l = some l := by
  unfold laws_toCircle.f
  rw [toIntS_eq hk hl]; rfl

theorem eqIntS_l0 : ∀ (rest pre : List Int) (k : Nat), rest.length < k → (pre ++ rest).length ≤ 1099511627776 → laws_eqIntS.l0 k (pre ++ rest) (pre ++ rest) (pre.length : Int) = some true := by
  intro rest
  induction rest with
  | nil =>
    intro pre k hk _
    obtain ⟨k, rfl⟩ : ∃ m, k = m + 1 := ⟨k - 1, by simp at hk; omega⟩
    simp only [laws_eqIntS.l0]
    rw [if_neg (by simp)]
  | cons p rest ih =>
    intro pre k hk hl
    obtain ⟨k, rfl⟩ : ∃ m, k = m + 1 := ⟨k - 1, by simp at hk; omega⟩
    simp only [laws_eqIntS.l0]
    rw [if_pos (by simp; omega), if_pos (by omega), if_pos (by simp; omega), if_pos trivial, succ_wrap (by simp at hl; omega)]
    have := ih (pre ++ [p]) k (by simp at hk; omega) (by simp at hl ⊢; omega)
    simpa using this
theorem eqIntS_refl {k : Nat} {l : List Int} (hk : l.length < k) (hl : l.length ≤ 1099511627776) : laws_eqIntS.f k l l = some true := by
  unfold laws_eqIntS.f
  rw [if_pos rfl]
  have := eqIntS_l0 l [] k hk (by simpa using hl)
  simpa using this

theorem eqCircle_refl {k : Nat} {l : List Int} (hk : l.length < k) (hl : l.length ≤ 1099511627776) : laws_eqCircle.f k l l = some true := by
  unfold laws_eqCircle.f
  rw [eqIntS_refl hk hl]; rfl

theorem szCircle_big {l : List Int} (h : l.length ≤ maxLen) (hb : 1048576 < l.length) : laws_szCircle.f l 1048576 = some (-1) := by
  unfold maxLen at h
  unfold laws_szCircle.f laws_szIntS.f
  have e : wrap64 (1048576 - (l.length : Int)) = 1048576 - (l.length : Int) := by unfold wrap64; omega
  rw [e, if_pos (by omega)]
  rfl
theorem szCircle_small {l : List Int} {n : Int} (hn : n ≤ 1048576) (hb : (l.length : Int) ≤ n) : laws_szCircle.f l n = some (n - (l.length : Int)) := by
  unfold laws_szCircle.f laws_szIntS.f
  have e : wrap64 (n - (l.length : Int)) = n - (l.length : Int) := by unfold wrap64; omega
  rw [e, if_neg (by omega)]
  simp only [Option.bind_some]
  rw [if_neg (by omega)]

theorem FnExactMeets (l : List Int) (ws : List S77) (hm : l.length ≤ maxLen) (hw : ∀ x ∈ l, (Lit.int .i64 x).wf = true) (hm2 : ws.length ≤ maxLen) : ∃ k, laws_FnExactMeets.f k l ws = some true := by
  by_cases hb : 1048576 < l.length
  · refine ⟨1, ?_⟩
    unfold laws_FnExactMeets.f
    rw [szCircle_big hm hb]; rfl
  by_cases hb2 : 1048576 - (l.length : Int) < (ws.length : Int)
  · refine ⟨1, ?_⟩
    unfold laws_FnExactMeets.f
    rw [szCircle_small (by omega) (by omega), Option.bind_some, if_neg (by omega), szWishS_big (by omega) hm2 (by omega)]; rfl
  refine ⟨1048577, ?_⟩
  have h1 : l.length < 1048577 := by omega
  have h2 : ws.length < 1048577 := by omega
  unfold laws_FnExactMeets.f
  rw [szCircle_small (by omega) (by omega), Option.bind_some, if_neg (by omega), szWishS_small (by omega) (by omega), Option.bind_some, if_neg (by omega)]
  simp [toCircle_eq h1 (by omega), toWishS_eq h2 (by omega), spec_meets (ws.map toW) (k := 1048577) (by omega) h1 (by omega), impl_meets (ws.map toW) (k := 1048577) (by omega) h1 (by omega), eqCircle_refl h1 (by omega), eqWishS_refl (l := ws.map toW) (k := 1048577) (by simp; omega) (by simp; omega)]

end Go.Proofs.Ytdcpbnddnbeofaa.Pure
