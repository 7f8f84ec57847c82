/- The law FnExactDifferenceOf over numbers and lists alone: the program's DifferenceOf and the reference's give one answer, and the circles stay as they were. Conditions: none. -/
import Derived.Test.YtbiajmggpohgcaaQFnExactDifferenceOfx4
import Derived.Test.YtbiajmggpohgcaaWMore
namespace Go.Proofs.Ytbiajmggpohgcaa.Pure
open Go.RowKit Go.Proofs.Ytbiajmggpohgcaa.PFnExactDifferenceOf Go.Proofs.YtbiajmggpohgcaaW.PrintWords Go.Proofs.YtbiajmggpohgcaaW.PrintLast Go.Proofs.YtbiajmggpohgcaaW.PrintMore
set_option linter.unusedVariables false
set_option linter.unusedSimpArgs false

theorem wrap_id {x : Int} (h : -4611686018427387904 ≤ x ∧ x ≤ 4611686018427387904) : wrap64 x = x := by
  unfold wrap64; omega

theorem rd_mid (pre rest : List Int) (p : Int) : rd (pre ++ p :: rest) ((pre.length : Nat) : Int) = p := by
  unfold rd
  simp [List.getD]
theorem rd_getD (l : List Int) (i : Nat) : rd l (i : Int) = l.getD i 0 := by unfold rd; simp
theorem succ_wrap {n : Nat} (h : n ≤ 1099511627776) : wrap64 ((n : Int) + 1) = ((n + 1 : Nat) : Int) := by
  rw [wrap_id (by omega)]; omega
theorem split_at {α : Type} (l : List α) (i : Nat) (h : i ≤ l.length) : ∃ pre rest, l = pre ++ rest ∧ pre.length = i := ⟨l.take i, l.drop i, (List.take_append_drop i l).symm, by simp; omega⟩

theorem l01In_eq (a b c : Int) : spec_l01In.f a b c = some (decide (b ≤ a ∧ a ≤ c)) := by
  unfold spec_l01In.f
  by_cases h : b ≤ a <;> simp [h]
theorem within_eq (a b c : Int) : impl_within.f a b c = some (decide (b ≤ a ∧ a ≤ c)) := by
  unfold impl_within.f
  by_cases h : b ≤ a <;> simp [h]

def inR (p : Int) : Bool := decide (0 ≤ p ∧ p ≤ 12)
def circOk (l : List Int) : Bool := l.all inR && (decide (l.length = 12) && (l.sum == 12))
theorem impl_circOk_l0 : ∀ (rest pre : List Int) (s : Int) (k : Nat), rest.length < k → (pre ++ rest).length ≤ 1099511627776 → 0 ≤ s ∧ s ≤ 12 * (pre.length : Int) →
    impl_CircleOk.l0 k s (pre ++ rest) ((pre ++ rest).length : Int) (pre.length : Int) (pre ++ rest) = some (rest.all inR && (decide ((pre ++ rest).length = 12) && (s + rest.sum == 12))) := by
  intro rest
  induction rest with
  | nil =>
    intro pre s k hk hl hs
    obtain ⟨k, rfl⟩ : ∃ m, k = m + 1 := ⟨k - 1, by simp at hk; omega⟩
    simp only [impl_CircleOk.l0]
    rw [if_neg (by simp)]
    by_cases h : (pre ++ ([] : List Int)).length = 12
    · rw [if_pos (by omega)]; simp at h; simp [h]
    · rw [if_neg (by omega)]; simp at h; simp [h]
  | cons p rest ih =>
    intro pre s k hk hl hs
    obtain ⟨k, rfl⟩ : ∃ m, k = m + 1 := ⟨k - 1, by simp at hk; omega⟩
    simp only [impl_CircleOk.l0]
    rw [if_pos (by simp; omega), if_pos (by omega), if_pos (by simp; omega), rd_mid, within_eq]
    simp only [Option.bind_some]
    by_cases hp : 0 ≤ p ∧ p ≤ 12
    · have hl2 : pre.length ≤ 1099511627776 := by simp at hl; omega
      rw [if_pos (by simpa using hp), wrap_id (x := s + p) (by omega), succ_wrap hl2]
      have := ih (pre ++ [p]) (s + p) k (by simp at hk; omega) (by simp at hl ⊢; omega) (by simp; omega)
      have e : pre ++ [p] ++ rest = pre ++ p :: rest := by simp
      have e2 : ((pre ++ [p]).length : Int) = ((pre.length + 1 : Nat) : Int) := by simp
      rw [e, e2] at this
      rw [this]
      have hi : inR p = true := decide_eq_true hp
      simp [hi, Int.add_assoc]
    · rw [if_neg (by simpa using hp)]
      have hi : inR p = false := decide_eq_false hp
      simp [hi]
theorem impl_circOk {k : Nat} {l : List Int} (hk : l.length < k) (hl : l.length ≤ 1099511627776) : impl_CircleOk.f k l = some (circOk l) := by
  have := impl_circOk_l0 l [] 0 k hk (by simpa using hl) (by simp)
  unfold impl_CircleOk.f circOk
  simpa using this
theorem circOk_len {l : List Int} (h : circOk l = true) : l.length = 12 := by
  unfold circOk at h; simp at h; exact h.2.1
theorem circOk_sum {l : List Int} (h : circOk l = true) : l.sum = 12 := by
  unfold circOk at h; simp at h; exact h.2.2
theorem circOk_mem {l : List Int} (h : circOk l = true) : ∀ p ∈ l, 0 ≤ p ∧ p ≤ 12 := by
  unfold circOk at h; simp at h
  intro p hp
  have := h.1 p hp
  exact of_decide_eq_true this

def psum (l : List Int) (i : Int) : Nat → Int
  | 0 => 0
  | n + 1 => psum l i n + l.getD ((i.toNat + n) % 12) 0
theorem getD_range {l : List Int} (h : circOk l = true) (j : Nat) : 0 ≤ l.getD j 0 ∧ l.getD j 0 ≤ 12 := by
  rcases Nat.lt_or_ge j l.length with hj | hj
  · rw [List.getD_eq_getElem?_getD, List.getElem?_eq_getElem hj]
    exact circOk_mem h _ (List.getElem_mem hj)
  · rw [List.getD_eq_getElem?_getD, List.getElem?_eq_none hj]; simp
theorem psum_range {l : List Int} (h : circOk l = true) (i : Int) (n : Nat) : 0 ≤ psum l i n ∧ psum l i n ≤ 12 * n := by
  induction n with
  | zero => simp [psum]
  | succ n ih => have := getD_range h ((i.toNat + n) % 12); simp only [psum]; omega
theorem idx_eq {i : Int} {n : Nat} (hi : 0 ≤ i ∧ i ≤ 11) (hn : n ≤ 100) : Int.tmod (wrap64 (i + (n : Int))) 12 = (((i.toNat + n) % 12 : Nat) : Int) := by
  rw [wrap_id (by omega), Int.tmod_eq_emod_of_nonneg (by omega)]; omega

def isKey (l : List Int) (i : Int) : Bool := circOk l && decide (0 ≤ i ∧ i ≤ 11)
theorem impl_isKey_eq {k : Nat} {l : List Int} (i : Int) (hk : l.length < k) (hl : l.length ≤ 1099511627776) : impl_isKey.f k l i = some (isKey l i) := by
  unfold impl_isKey.f isKey
  rw [impl_circOk hk hl]
  simp only [Option.bind_some, within_eq]
  cases circOk l <;> simp
theorem isKey_parts {l : List Int} {i : Int} (h : isKey l i = true) : circOk l = true ∧ (0 ≤ i ∧ i ≤ 11) := by
  unfold isKey at h
  simp only [Bool.and_eq_true] at h
  exact ⟨h.1, of_decide_eq_true h.2⟩

theorem impl_parts_l0 {l : List Int} (h : circOk l = true) {i : Int} (hi : 0 ≤ i ∧ i ≤ 11) (n : Nat) (hn : n ≤ 100) : ∀ (d m k : Nat), m + d = n → d < k → impl_partsFrom.l0 k i (n : Int) (psum l i m) (m : Int) l = some (psum l i n) := by
  intro d
  induction d with
  | zero =>
    intro m k hm hk
    obtain ⟨k, rfl⟩ : ∃ q, k = q + 1 := ⟨k - 1, by omega⟩
    simp only [impl_partsFrom.l0]
    rw [if_neg (by omega)]
    congr 2
  | succ d ih =>
    intro m k hm hk
    obtain ⟨k, rfl⟩ : ∃ q, k = q + 1 := ⟨k - 1, by omega⟩
    have hl := circOk_len h
    have hg := getD_range h ((i.toNat + m) % 12)
    have hp := psum_range h i m
    have hmod : (i.toNat + m) % 12 < 12 := Nat.mod_lt _ (by omega)
    simp only [impl_partsFrom.l0]
    rw [if_pos (by omega), idx_eq hi (by omega), if_pos (by omega), if_pos (by omega), rd_getD, wrap_id (by omega), succ_wrap (by omega)]
    exact ih (m + 1) k (by omega) (by omega)
def parts (l : List Int) (i : Int) (n : Nat) : Int := if isKey l i = true then psum l i n else 0
theorem impl_partsFrom_eq {k n : Nat} {l : List Int} (i : Int) (hk : l.length < k) (hl : l.length ≤ 1099511627776) (hn : n ≤ 100) (hkn : n < k) : impl_partsFrom.f k l i (n : Int) = some (parts l i n) := by
  unfold impl_partsFrom.f parts
  rw [impl_isKey_eq i hk hl]
  simp only [Option.bind_some]
  by_cases h : isKey l i = true
  · rw [if_pos h, if_pos h]
    obtain ⟨h1, h2⟩ := isKey_parts h
    exact impl_parts_l0 h1 h2 n hn n 0 k (by omega) hkn
  · rw [if_neg h, if_neg h]

theorem impl_thirdParts {k : Nat} {l : List Int} (i : Int) (hk : l.length < k) (hk2 : 5 < k) (hl : l.length ≤ 1099511627776) : impl_ThirdParts.f k l i = some (parts l i 4) := by
  unfold impl_ThirdParts.f
  have := impl_partsFrom_eq (k := k) (n := 4) i hk hl (by omega) (by omega)
  rw [show ((4 : Nat) : Int) = 4 from rfl] at this
  rw [this]; rfl

def tl (l : List Int) (j : Nat) : List Int := (List.range j).map fun (q : Nat) => psum l (q : Int) 4
theorem tl_succ (l : List Int) (j : Nat) : tl l (j + 1) = tl l j ++ [psum l (j : Int) 4] := by
  unfold tl; rw [List.range_succ]; simp
theorem tl_length (l : List Int) (j : Nat) : (tl l j).length = j := by simp [tl]
def thirds (l : List Int) : List Int := if circOk l = true then tl l 12 else []
theorem thirds_length (l : List Int) : (thirds l).length ≤ 12 := by
  unfold thirds; split
  · rw [tl_length]; omega
  · simp
theorem thirds_range (l : List Int) : ∀ x ∈ thirds l, 0 ≤ x ∧ x ≤ 48 := by
  intro x hx
  unfold thirds at hx
  split at hx
  · rename_i h
    simp only [tl, List.mem_map] at hx
    obtain ⟨q, _, rfl⟩ := hx
    have := psum_range h (q : Int) 4
    omega
  · simp at hx
theorem impl_thirds_l0 {l : List Int} (h : circOk l = true) : ∀ (d j k : Nat), j + d = 12 → d + 12 < k → impl_ThirdsOf.l0 k (tl l j) (j : Int) l = some (tl l 12) := by
  have hl := circOk_len h
  intro d
  induction d with
  | zero =>
    intro j k hj hk
    obtain ⟨k, rfl⟩ : ∃ q, k = q + 1 := ⟨k - 1, by omega⟩
    have : j = 12 := by omega
    subst this
    simp only [impl_ThirdsOf.l0]
    rw [if_neg (by omega)]
  | succ d ih =>
    intro j k hj hk
    obtain ⟨k, rfl⟩ : ∃ q, k = q + 1 := ⟨k - 1, by omega⟩
    have hkey : isKey l (j : Int) = true := by unfold isKey; rw [h, Bool.true_and]; exact decide_eq_true (by omega)
    simp only [impl_ThirdsOf.l0]
    rw [if_pos (by omega), impl_thirdParts _ (by omega) (by omega) (by omega), Option.bind_some, if_pos (by rw [tl_length]; omega), succ_wrap (by omega)]
    have er : parts l (j : Int) 4 = psum l (j : Int) 4 := by unfold parts; rw [if_pos hkey]
    rw [er, ← tl_succ]
    exact ih (j + 1) k (by omega) (by omega)
theorem impl_thirds {k : Nat} {l : List Int} (hk : l.length + 30 < k) (hl : l.length ≤ 1099511627776) : impl_ThirdsOf.f k l = some (thirds l) := by
  unfold impl_ThirdsOf.f thirds
  rw [impl_circOk (by omega) hl]
  simp only [Option.bind_some]
  by_cases h : circOk l = true
  · rw [if_pos h, if_pos h]
    exact impl_thirds_l0 h 12 0 k (by omega) (by omega)
  · rw [if_neg h, if_neg h]

def dist : List Int → List Int → Int
  | a :: r, b :: s => mx (a - b) (b - a) + dist r s
  | _, _ => 0
def Small (l : List Int) : Prop := ∀ x ∈ l, -100000 ≤ x ∧ x ≤ 100000
theorem dist_nn : ∀ (a b : List Int), 0 ≤ dist a b
  | [], _ => by simp [dist]
  | _ :: _, [] => by simp [dist]
  | a :: r, b :: s => by
    have := dist_nn r s
    simp only [dist, mx]; split <;> omega
theorem impl_dist_l0 : ∀ (ra rb pa pb : List Int) (s : Int) (k : Nat), ra.length = rb.length → pa.length = pb.length → ra.length < k → (pa ++ ra).length ≤ 1000000 → Small ra → Small rb → 0 ≤ s ∧ s ≤ 200000 * (pa.length : Int) →
    impl_distance.l0 k (pa ++ ra) (pb ++ rb) s ((pa ++ ra).length : Int) (pa.length : Int) = some (s + dist ra rb) := by
  intro ra
  induction ra with
  | nil =>
    intro rb pa pb s k hab hp hk hl _ _ hs
    obtain ⟨k, rfl⟩ : ∃ q, k = q + 1 := ⟨k - 1, by simp at hk; omega⟩
    simp only [impl_distance.l0]
    rw [if_neg (by simp)]
    simp [dist]
  | cons a ra ih =>
    intro rb pa pb s k hab hp hk hl ha hb hs
    obtain ⟨k, rfl⟩ : ∃ q, k = q + 1 := ⟨k - 1, by simp at hk; omega⟩
    cases rb with
    | nil => simp at hab
    | cons b rb =>
      have h1 := ha a List.mem_cons_self
      have h2 := hb b List.mem_cons_self
      have hl2 : pa.length < 1000000 := by simp at hl; omega
      simp only [List.length_cons] at hab hk
      have e2 : rd (pb ++ b :: rb) (pa.length : Int) = b := by rw [hp]; exact rd_mid pb rb b
      have hm : 0 ≤ mx (a - b) (b - a) ∧ mx (a - b) (b - a) ≤ 200000 := by unfold mx; split <;> omega
      simp only [impl_distance.l0]
      rw [if_pos (by simp; omega), if_pos (by omega), if_pos (by simp; omega), if_pos (by simp; omega), rd_mid, e2, wrap_id (x := a - b) (by omega), wrap_id (x := b - a) (by omega), wrap_id (by omega), succ_wrap (by omega)]
      have := ih rb (pa ++ [a]) (pb ++ [b]) (s + mx (a - b) (b - a)) k (by omega) (by simp; omega) (by omega) (by simp at hl ⊢; omega) (fun x hx => ha x (List.mem_cons_of_mem _ hx)) (fun x hx => hb x (List.mem_cons_of_mem _ hx)) (by simp; omega)
      have e3 : pa ++ [a] ++ ra = pa ++ a :: ra := by simp
      have e4 : pb ++ [b] ++ rb = pb ++ b :: rb := by simp
      have e5 : ((pa ++ [a]).length : Int) = ((pa.length + 1 : Nat) : Int) := by simp
      rw [e3, e4, e5] at this
      rw [this]
      simp only [dist, Int.add_assoc]
theorem impl_dist {k : Nat} {a b : List Int} (hab : a.length = b.length) (hk : a.length < k) (hl : a.length ≤ 1000000) (ha : Small a) (hb : Small b) : impl_distance.f k a b = some (dist a b) := by
  unfold impl_distance.f
  have := impl_dist_l0 a b [] [] 0 k hab rfl hk (by simpa using hl) ha hb (by simp)
  simpa using this

theorem thirds_small (l : List Int) : Small (thirds l) := fun x hx => by have := thirds_range l x hx; omega
theorem thirds_len12 {l : List Int} (h : circOk l = true) : (thirds l).length = 12 := by unfold thirds; rw [if_pos h, tl_length]
def differ (a b : List Int) : Int := if circOk a = true ∧ circOk b = true then dist (thirds a) (thirds b) else -1
theorem impl_differ {k : Nat} {a b : List Int} (hka : a.length + 40 < k) (hkb : b.length + 40 < k) (hla : a.length ≤ 1099511627776) (hlb : b.length ≤ 1099511627776) : impl_DifferenceOf.f k a b = some (differ a b) := by
  obtain ⟨k, rfl⟩ : ∃ q, k = q + 1 := ⟨k - 1, by omega⟩
  unfold impl_DifferenceOf.f differ
  rw [impl_circOk (by omega) hla]
  simp only [Option.bind_some]
  by_cases ha : circOk a = true
  · rw [if_pos ha, impl_circOk (by omega) hlb]
    simp only [Option.bind_some]
    by_cases hb : circOk b = true
    · rw [if_pos ⟨ha, hb⟩, hb]
      simp only [impl_DifferenceOf.j0, Bool.not_true]
      rw [if_neg (by simp), impl_thirds (by omega) hla, Option.bind_some, impl_thirds (by omega) hlb, Option.bind_some, impl_dist (by rw [thirds_len12 ha, thirds_len12 hb]) (by rw [thirds_len12 ha]; omega) (by rw [thirds_len12 ha]; omega) (thirds_small a) (thirds_small b)]
      rfl
    · rw [if_neg (fun h => hb h.2)]
      rw [Bool.eq_false_iff.2 hb]
      simp [impl_DifferenceOf.j0]
  · rw [if_neg ha, if_neg (fun h => ha h.1)]
    simp [impl_DifferenceOf.j0]

theorem spec_circOk_l0 : ∀ (rest pre : List Int) (s : Int) (k : Nat), rest.length < k → (pre ++ rest).length ≤ 1099511627776 → 0 ≤ s ∧ s ≤ 12 * (pre.length : Int) →
    spec_CircleOk.l0 k s (pre.length : Int) (pre ++ rest) = some (rest.all inR && (decide ((pre ++ rest).length = 12) && (s + rest.sum == 12))) := by
  intro rest
  induction rest with
  | nil =>
    intro pre s k hk hl hs
    obtain ⟨k, rfl⟩ : ∃ m, k = m + 1 := ⟨k - 1, by simp at hk; omega⟩
    simp only [spec_CircleOk.l0]
    rw [if_neg (by simp)]
    by_cases h : (pre ++ ([] : List Int)).length = 12
    · rw [if_pos (by omega)]; simp at h; simp [h]
    · rw [if_neg (by omega)]; simp at h; simp [h]
  | cons p rest ih =>
    intro pre s k hk hl hs
    obtain ⟨k, rfl⟩ : ∃ m, k = m + 1 := ⟨k - 1, by simp at hk; omega⟩
    simp only [spec_CircleOk.l0]
    rw [if_pos (by simp; omega), if_pos (by omega), rd_mid, l01In_eq]
    simp only [Option.bind_some]
    by_cases hp : 0 ≤ p ∧ p ≤ 12
    · have hl2 : pre.length ≤ 1099511627776 := by simp at hl; omega
      rw [if_pos (by simpa using hp), wrap_id (x := s + p) (by omega), succ_wrap hl2]
      have := ih (pre ++ [p]) (s + p) k (by simp at hk; omega) (by simp at hl ⊢; omega) (by simp; omega)
      have e : pre ++ [p] ++ rest = pre ++ p :: rest := by simp
      have e2 : ((pre ++ [p]).length : Int) = ((pre.length + 1 : Nat) : Int) := by simp
      rw [e, e2] at this
      rw [this]
      have hi : inR p = true := decide_eq_true hp
      simp [hi, Int.add_assoc]
    · rw [if_neg (by simpa using hp)]
      have hi : inR p = false := decide_eq_false hp
      simp [hi]
theorem spec_circOk {k : Nat} {l : List Int} (hk : l.length < k) (hl : l.length ≤ 1099511627776) : spec_CircleOk.f k l = some (circOk l) := by
  have := spec_circOk_l0 l [] 0 k hk (by simpa using hl) (by simp)
  unfold spec_CircleOk.f circOk
  simpa using this

theorem spec_l13_l0 {l : List Int} (h : circOk l = true) {i : Int} (hi : 0 ≤ i ∧ i ≤ 11) (n : Nat) (hn : n ≤ 100) : ∀ (d m k : Nat), m + d = n → d < k → spec_l13Sum.l0 k i (n : Int) (psum l i m) (m : Int) l = some (psum l i n) := by
  intro d
  induction d with
  | zero =>
    intro m k hm hk
    obtain ⟨k, rfl⟩ : ∃ q, k = q + 1 := ⟨k - 1, by omega⟩
    simp only [spec_l13Sum.l0]
    rw [if_neg (by omega)]
    congr 2
  | succ d ih =>
    intro m k hm hk
    obtain ⟨k, rfl⟩ : ∃ q, k = q + 1 := ⟨k - 1, by omega⟩
    have hl := circOk_len h
    have hg := getD_range h ((i.toNat + m) % 12)
    have hp := psum_range h i m
    have hmod : (i.toNat + m) % 12 < 12 := Nat.mod_lt _ (by omega)
    simp only [spec_l13Sum.l0]
    rw [if_pos (by omega), idx_eq hi (by omega), if_pos (by omega), if_pos (by omega), rd_getD, wrap_id (by omega), succ_wrap (by omega)]
    exact ih (m + 1) k (by omega) (by omega)
theorem spec_l13Sum_eq {l : List Int} (h : circOk l = true) {i : Int} (hi : 0 ≤ i ∧ i ≤ 11) {k n : Nat} (hn : n ≤ 100) (hk : n < k) : spec_l13Sum.f k l i (n : Int) = some (psum l i n) := by
  unfold spec_l13Sum.f
  exact spec_l13_l0 h hi n hn n 0 k (by omega) hk

theorem spec_thirds_l0 {l : List Int} (h : circOk l = true) : ∀ (d j k : Nat), j + d = 12 → d + 12 < k → spec_ThirdsOf.l0 k (tl l j) (j : Int) l = some (tl l 12) := by
  have hl := circOk_len h
  intro d
  induction d with
  | zero =>
    intro j k hj hk
    obtain ⟨k, rfl⟩ : ∃ q, k = q + 1 := ⟨k - 1, by omega⟩
    have : j = 12 := by omega
    subst this
    simp only [spec_ThirdsOf.l0]
    rw [if_neg (by omega)]
  | succ d ih =>
    intro j k hj hk
    obtain ⟨k, rfl⟩ : ∃ q, k = q + 1 := ⟨k - 1, by omega⟩
    have hs := spec_l13Sum_eq h (i := (j : Int)) (by omega) (k := k) (n := 4) (by omega) (by omega)
    rw [show ((4 : Nat) : Int) = 4 from rfl] at hs
    simp only [spec_ThirdsOf.l0]
    rw [if_pos (by omega), spec_circOk (by omega) (by omega), Option.bind_some, if_pos h, hs, Option.bind_some, if_pos (by rw [tl_length]; omega), succ_wrap (by omega), ← tl_succ]
    exact ih (j + 1) k (by omega) (by omega)
theorem spec_thirds {k : Nat} {l : List Int} (hk : l.length + 30 < k) (hl : l.length ≤ 1099511627776) : spec_ThirdsOf.f k l = some (thirds l) := by
  unfold spec_ThirdsOf.f thirds
  by_cases h : circOk l = true
  · rw [if_pos h]
    exact spec_thirds_l0 h 12 0 k (by omega) (by omega)
  · obtain ⟨k, rfl⟩ : ∃ q, k = q + 1 := ⟨k - 1, by omega⟩
    simp only [spec_ThirdsOf.l0]
    rw [if_pos (by omega), spec_circOk (by omega) hl, Option.bind_some, if_neg h, if_neg h]

theorem spec_dist_l0 : ∀ (ra rb pa pb : List Int) (s : Int) (k : Nat), ra.length = rb.length → pa.length = pb.length → ra.length < k → (pa ++ ra).length ≤ 1000000 → Small ra → Small rb → 0 ≤ s ∧ s ≤ 200000 * (pa.length : Int) →
    spec_l15Distance.l0 k (pa ++ ra) (pb ++ rb) s (pa.length : Int) = some (s + dist ra rb) := by
  intro ra
  induction ra with
  | nil =>
    intro rb pa pb s k hab hp hk hl _ _ hs
    obtain ⟨k, rfl⟩ : ∃ q, k = q + 1 := ⟨k - 1, by simp at hk; omega⟩
    simp only [spec_l15Distance.l0]
    rw [if_neg (by simp)]
    simp [dist]
  | cons a ra ih =>
    intro rb pa pb s k hab hp hk hl ha hb hs
    obtain ⟨k, rfl⟩ : ∃ q, k = q + 1 := ⟨k - 1, by simp at hk; omega⟩
    cases rb with
    | nil => simp at hab
    | cons b rb =>
      have h1 := ha a List.mem_cons_self
      have h2 := hb b List.mem_cons_self
      have hl2 : pa.length < 1000000 := by simp at hl; omega
      simp only [List.length_cons] at hab hk
      have e2 : rd (pb ++ b :: rb) (pa.length : Int) = b := by rw [hp]; exact rd_mid pb rb b
      have hm : 0 ≤ mx (a - b) (b - a) ∧ mx (a - b) (b - a) ≤ 200000 := by unfold mx; split <;> omega
      simp only [spec_l15Distance.l0]
      rw [if_pos (by simp; omega), if_pos (by omega), if_pos (by simp; omega), rd_mid, e2, wrap_id (x := a - b) (by omega), wrap_id (x := b - a) (by omega), wrap_id (by omega), succ_wrap (by omega)]
      have := ih rb (pa ++ [a]) (pb ++ [b]) (s + mx (a - b) (b - a)) k (by omega) (by simp; omega) (by omega) (by simp at hl ⊢; omega) (fun x hx => ha x (List.mem_cons_of_mem _ hx)) (fun x hx => hb x (List.mem_cons_of_mem _ hx)) (by simp; omega)
      have e3 : pa ++ [a] ++ ra = pa ++ a :: ra := by simp
      have e4 : pb ++ [b] ++ rb = pb ++ b :: rb := by simp
      have e5 : ((pa ++ [a]).length : Int) = ((pa.length + 1 : Nat) : Int) := by simp
      rw [e3, e4, e5] at this
      rw [this]
      simp only [dist, Int.add_assoc]
theorem spec_dist {k : Nat} {a b : List Int} (hab : a.length = b.length) (hk : a.length < k) (hl : a.length ≤ 1000000) (ha : Small a) (hb : Small b) : spec_l15Distance.f k a b = some (dist a b) := by
  unfold spec_l15Distance.f
  have := spec_dist_l0 a b [] [] 0 k hab rfl hk (by simpa using hl) ha hb (by simp)
  simpa using this

theorem spec_differ {k : Nat} {a b : List Int} (hka : a.length + 40 < k) (hkb : b.length + 40 < k) (hla : a.length ≤ 1099511627776) (hlb : b.length ≤ 1099511627776) : spec_DifferenceOf.f k a b = some (differ a b) := by
  obtain ⟨k, rfl⟩ : ∃ q, k = q + 1 := ⟨k - 1, by omega⟩
  unfold spec_DifferenceOf.f differ
  rw [spec_circOk (by omega) hla]
  simp only [Option.bind_some]
  by_cases ha : circOk a = true
  · rw [if_pos ha, spec_circOk (by omega) hlb]
    simp only [Option.bind_some]
    by_cases hb : circOk b = true
    · rw [if_pos ⟨ha, hb⟩, hb]
      simp only [spec_DifferenceOf.j0, Bool.not_true]
      rw [if_neg (by simp), spec_thirds (by omega) hla, Option.bind_some, spec_thirds (by omega) hlb, Option.bind_some, spec_dist (by rw [thirds_len12 ha, thirds_len12 hb]) (by rw [thirds_len12 ha]; omega) (by rw [thirds_len12 ha]; omega) (thirds_small a) (thirds_small b)]
      rfl
    · rw [if_neg (fun h => hb h.2)]
      rw [Bool.eq_false_iff.2 hb]
      simp [spec_DifferenceOf.j0]
  · rw [if_neg ha, if_neg (fun h => ha h.1)]
    simp [spec_DifferenceOf.j0]

theorem toIntS_l0 : ∀ (rest pre : List Int) (k : Nat), rest.length < k → (pre ++ rest).length ≤ 1099511627776 → laws_toIntS.l0 k (pre ++ rest) (pre ++ List.replicate rest.length 0) (pre.length : Int) = some (pre ++ rest) := by
  intro rest
  induction rest with
  | nil =>
    intro pre k hk _
    obtain ⟨k, rfl⟩ : ∃ m, k = m + 1 := ⟨k - 1, by simp at hk; omega⟩
    simp only [laws_toIntS.l0]
    rw [if_neg (by simp)]
    simp
  | cons p rest ih =>
    intro pre k hk hl
    obtain ⟨k, rfl⟩ : ∃ m, k = m + 1 := ⟨k - 1, by simp at hk; omega⟩
    simp only [laws_toIntS.l0]
    rw [if_pos (by simp; omega), if_pos (by omega), if_pos (by simp; omega), rd_mid, succ_wrap (by simp at hl; omega)]
    have e : (pre ++ List.replicate (p :: rest).length 0).set ((pre.length : Int)).toNat p = (pre ++ [p]) ++ List.replicate rest.length 0 := by
      simp [List.replicate_succ]
    rw [e]
    have := ih (pre ++ [p]) k (by simp at hk; omega) (by simp at hl ⊢; omega)
    simpa using this
theorem toIntS_eq {k : Nat} {l : List Int} (hk : l.length < k) (hl : l.length ≤ 1099511627776) : laws_toIntS.f k l = some l := by
  unfold laws_toIntS.f
  rw [if_pos (by omega), if_pos (by omega)]
  have := toIntS_l0 l [] k hk (by simp; omega)
  simpa using this

theorem toCircle_eq {k : Nat} {l : List Int} (hk : l.length < k) (hl : l.length ≤ 1099511627776) : laws_toCircle.f k l = some l := by
  unfold laws_toCircle.f
  rw [toIntS_eq hk hl]; rfl

theorem eqIntS_l0 : ∀ (rest pre : List Int) (k : Nat), rest.length < k → (pre ++ rest).length ≤ 1099511627776 → laws_eqIntS.l0 k (pre ++ rest) (pre ++ rest) (pre.length : Int) = some true := by
  intro rest
  induction rest with
  | nil =>
    intro pre k hk _
    obtain ⟨k, rfl⟩ : ∃ m, k = m + 1 := ⟨k - 1, by simp at hk; omega⟩
    simp only [laws_eqIntS.l0]
    rw [if_neg (by simp)]
  | cons p rest ih =>
    intro pre k hk hl
    obtain ⟨k, rfl⟩ : ∃ m, k = m + 1 := ⟨k - 1, by simp at hk; omega⟩
    simp only [laws_eqIntS.l0]
    rw [if_pos (by simp; omega), if_pos (by omega), if_pos (by simp; omega), if_pos trivial, succ_wrap (by simp at hl; omega)]
    have := ih (pre ++ [p]) k (by simp at hk; omega) (by simp at hl ⊢; omega)
    simpa using this
theorem eqIntS_refl {k : Nat} {l : List Int} (hk : l.length < k) (hl : l.length ≤ 1099511627776) : laws_eqIntS.f k l l = some true := by
  unfold laws_eqIntS.f
  rw [if_pos rfl]
  have := eqIntS_l0 l [] k hk (by simpa using hl)
  simpa using this

theorem eqCircle_refl {k : Nat} {l : List Int} (hk : l.length < k) (hl : l.length ≤ 1099511627776) : laws_eqCircle.f k l l = some true := by
  unfold laws_eqCircle.f
  rw [eqIntS_refl hk hl]; rfl

theorem szCircle_big {l : List Int} (h : l.length ≤ maxLen) (hb : 1048576 < l.length) : laws_szCircle.f l 1048576 = some (-1) := by
  unfold maxLen at h
  unfold laws_szCircle.f laws_szIntS.f
  have e : wrap64 (1048576 - (l.length : Int)) = 1048576 - (l.length : Int) := by unfold wrap64; omega
  rw [e, if_pos (by omega)]
  rfl
theorem szCircle_small {l : List Int} {n : Int} (hn : n ≤ 1048576) (hb : (l.length : Int) ≤ n) : laws_szCircle.f l n = some (n - (l.length : Int)) := by
  unfold laws_szCircle.f laws_szIntS.f
  have e : wrap64 (n - (l.length : Int)) = n - (l.length : Int) := by unfold wrap64; omega
  rw [e, if_neg (by omega)]
  simp only [Option.bind_some]
  rw [if_neg (by omega)]

theorem szCircle_left {l : List Int} {n : Int} (h : l.length ≤ maxLen) (hn : 0 ≤ n ∧ n ≤ 1048576) (hb : n < (l.length : Int)) : laws_szCircle.f l n = some (-1) := by
  unfold maxLen at h
  unfold laws_szCircle.f laws_szIntS.f
  have e : wrap64 (n - (l.length : Int)) = n - (l.length : Int) := by unfold wrap64; omega
  rw [e, if_pos (by omega)]
  rfl
theorem FnExactDifferenceOf (a b : List Int) (hma : a.length ≤ maxLen) (_ : ∀ x ∈ a, (Lit.int .i64 x).wf = true) (hmb : b.length ≤ maxLen) (_ : ∀ x ∈ b, (Lit.int .i64 x).wf = true) : ∃ k, laws_FnExactDifferenceOf.f k a b = some true := by
  by_cases hba : 1048576 < a.length
  · refine ⟨1, ?_⟩
    unfold laws_FnExactDifferenceOf.f
    rw [szCircle_big hma hba]; rfl
  by_cases hbb : (1048576 : Int) - a.length < b.length
  · refine ⟨1, ?_⟩
    unfold laws_FnExactDifferenceOf.f
    rw [szCircle_small (by omega) (by omega), Option.bind_some, if_neg (by omega), szCircle_left hmb (by omega) hbb]; rfl
  refine ⟨2000000, ?_⟩
  have h1 : a.length < 2000000 := by omega
  have h2 : b.length < 2000000 := by omega
  unfold laws_FnExactDifferenceOf.f
  rw [szCircle_small (by omega) (by omega), Option.bind_some, if_neg (by omega), szCircle_small (by omega) (by omega), Option.bind_some, if_neg (by omega)]
  simp [toCircle_eq h1 (by omega), toCircle_eq h2 (by omega), spec_differ (show a.length + 40 < 2000000 by omega) (show b.length + 40 < 2000000 by omega) (by omega) (by omega), impl_differ (show a.length + 40 < 2000000 by omega) (show b.length + 40 < 2000000 by omega) (by omega) (by omega), eqCircle_refl h1 (by omega), eqCircle_refl h2 (by omega)]

end Go.Proofs.Ytbiajmggpohgcaa.Pure
