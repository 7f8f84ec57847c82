/- The law FnFamilies over numbers and lists alone: a family has each distribution once, in order. Conditions: none. -/
import Derived.Test.YtdcpbnddnbeofaaQFnFamiliesx2
import Derived.Test.YtdcpbnddnbeofaaVFnFamiliesa
import Derived.OpenShut
namespace Go.Proofs.Ytdcpbnddnbeofaa.Pure
open Go.RowKit Go.Proofs.Ytdcpbnddnbeofaa.PFnFamilies Go.Proofs.YtdcpbnddnbeofaaW.PrintWords Go.Proofs.YtdcpbnddnbeofaaW.PrintLast Go.Proofs.YtdcpbnddnbeofaaW.PrintMore
set_option linter.unusedVariables false
set_option linter.unusedSimpArgs false

theorem wrap_id {x : Int} (h : -4611686018427387904 ≤ x ∧ x ≤ 4611686018427387904) : wrap64 x = x := by
  unfold wrap64; omega

theorem rd_mid (pre rest : List Int) (p : Int) : rd (pre ++ p :: rest) ((pre.length : Nat) : Int) = p := by
  unfold rd
  simp [List.getD]
theorem rd_getD (l : List Int) (i : Nat) : rd l (i : Int) = l.getD i 0 := by unfold rd; simp
theorem succ_wrap {n : Nat} (h : n ≤ 1099511627776) : wrap64 ((n : Int) + 1) = ((n + 1 : Nat) : Int) := by
  rw [wrap_id (by omega)]; omega
theorem split_at {α : Type} (l : List α) (i : Nat) (h : i ≤ l.length) : ∃ pre rest, l = pre ++ rest ∧ pre.length = i := ⟨l.take i, l.drop i, (List.take_append_drop i l).symm, by simp; omega⟩

theorem u8_range {x : Int} (h : (Lit.int .u8 x).wf = true) : 0 ≤ x ∧ x ≤ 255 := bounds_u8 h
theorem at_eq {l : List Int} {i : Int} (hi : 0 ≤ i ∧ i ≤ 100) (hl : l.length ≤ 1048576) (hw : ∀ x ∈ l, (Lit.int .u8 x).wf = true) : ∃ x, laws_at.f l i = some x ∧ 0 ≤ x ∧ x ≤ 255 := by
  unfold laws_at.f
  by_cases h : (l.length : Int) = 0
  · exact ⟨0, by rw [if_pos h], by omega, by omega⟩
  · rw [if_neg h, wrap_id (x := i * 5) (by omega), wrap_id (x := i * 5 + 1) (by omega), Int.tmod_eq_emod_of_nonneg (by omega)]
    have h1 := Int.emod_nonneg (i * 5 + 1) h
    have h2 := Int.emod_lt_of_pos (i * 5 + 1) (show (0 : Int) < (l.length : Int) by omega)
    rw [if_pos h1, if_pos h2]
    have hr : 0 ≤ rd l ((i * 5 + 1) % (l.length : Int)) ∧ rd l ((i * 5 + 1) % (l.length : Int)) ≤ 255 := by
      unfold rd
      rw [List.getD_eq_getElem?_getD, List.getElem?_eq_getElem (by omega)]
      exact u8_range (hw _ (List.getElem_mem _))
    exact ⟨_, by rw [wrap_id (by omega)], hr⟩
theorem big_eq (l : List Int) : laws_big.f l = some (decide (1048576 < l.length)) := by
  unfold laws_big.f
  congr 1
  rw [decide_eq_decide]; omega

def spr : Nat → List Int → Nat → Int → List (List Int)
  | 0, l, n, _ => if n = 0 then [l] else []
  | d + 1, l, n, p => spr d (l ++ [0]) n p ++ (if 0 < n then spr d (l ++ [p]) (n - 1) p else [])
def mkC (l : List Int) : S29 := ⟨l⟩
theorem spr_nil : ∀ (d : Nat) (l : List Int) (n : Nat) (p : Int), d < n → spr d l n p = [] := by
  intro d
  induction d with
  | zero => intro l n p h; rw [spr, if_neg (by omega)]
  | succ d ih => intro l n p h; rw [spr, ih _ _ _ (by omega), if_pos (by omega), ih _ _ _ (by omega)]; rfl
theorem spr_len : ∀ (d : Nat) (l : List Int) (n : Nat) (p : Int), (spr d l n p).length ≤ 2 ^ d := by
  intro d
  induction d with
  | zero => intro l n p; rw [spr]; split <;> simp
  | succ d ih =>
    intro l n p
    rw [spr, List.length_append, Nat.pow_succ]
    have h1 := ih (l ++ [0]) n p
    split
    · have h2 := ih (l ++ [p]) (n - 1) p
      omega
    · simp; omega
theorem impl_spread_eq : ∀ (d k : Nat) (l : List Int) (n : Nat) (p : Int) (xs : List S29), l.length + d = 12 → n ≤ 12 → d < k → xs.length + 2 ^ d ≤ 1000000 → impl_spread.f k l (n : Int) p xs = some (xs ++ (spr d l n p).map mkC) := by
  intro d
  induction d with
  | zero =>
    intro k l n p xs hl hn hk hx
    obtain ⟨k, rfl⟩ : ∃ m, k = m + 1 := ⟨k - 1, by omega⟩
    rw [impl_spread.f, if_pos (by omega), spr]
    by_cases h : n = 0
    · rw [if_pos (by omega), if_pos (by simp at hx; omega), if_pos h]; rfl
    · rw [if_neg (by omega), if_neg h]; simp
  | succ d ih =>
    intro k l n p xs hl hn hk hx
    obtain ⟨k, rfl⟩ : ∃ m, k = m + 1 := ⟨k - 1, by omega⟩
    rw [impl_spread.f, if_neg (by omega)]
    rw [Nat.pow_succ] at hx
    by_cases h : d + 1 < n
    · rw [if_pos (by omega), spr_nil _ _ _ _ h]; simp
    · have h1 := spr_len d (l ++ [0]) n p
      rw [if_neg (by omega), ih k (l ++ [0]) n p xs (by simp; omega) hn (by omega) (by omega), Option.bind_some, spr]
      by_cases h2 : 0 < n
      · rw [if_pos (by omega), if_pos h2, show (n : Int) - 1 = ((n - 1 : Nat) : Int) by omega, ih k (l ++ [p]) (n - 1) p _ (by simp; omega) (by omega) (by omega) (by rw [List.length_append, List.length_map]; omega)]
        rw [List.map_append, List.append_assoc]
      · rw [if_neg (by omega), if_neg h2, List.append_nil]
def fam (p : Int) : List (List Int) := if p = 2 then spr 12 [] 6 2 else if p = 3 then spr 12 [] 4 3 else if p = 4 then spr 12 [] 3 4 else if p = 6 then spr 12 [] 2 6 else if p = 12 then spr 12 [] 1 12 else []
theorem pow12 : 2 ^ 12 ≤ 4096 := by decide
theorem fam_len (p : Int) : (fam p).length ≤ 4096 := by
  have H : ∀ (n : Nat) (q : Int), (spr 12 [] n q).length ≤ 4096 := fun n q => Nat.le_trans (spr_len 12 [] n q) pow12
  unfold fam
  by_cases h2 : p = 2
  · rw [if_pos h2]; exact H 6 2
  rw [if_neg h2]
  by_cases h3 : p = 3
  · rw [if_pos h3]; exact H 4 3
  rw [if_neg h3]
  by_cases h4 : p = 4
  · rw [if_pos h4]; exact H 3 4
  rw [if_neg h4]
  by_cases h6 : p = 6
  · rw [if_pos h6]; exact H 2 6
  rw [if_neg h6]
  by_cases h12 : p = 12
  · rw [if_pos h12]; exact H 1 12
  rw [if_neg h12]; exact Nat.zero_le _
theorem impl_familyOf {k : Nat} (p : Int) (hk : 12 < k) : impl_FamilyOf.f k p = some ((fam p).map mkC) := by
  unfold impl_FamilyOf.f fam
  have H : ∀ (n : Nat) (q : Int), n ≤ 12 → impl_spread.f k [] (n : Int) q [] = some ((spr 12 [] n q).map mkC) := by
    intro n q hn
    rw [impl_spread_eq 12 k [] n q [] (by simp) hn hk (by simp)]; rfl
  by_cases h2 : p = 2
  · subst h2; exact H 6 2 (by omega)
  by_cases h3 : p = 3
  · subst h3; exact H 4 3 (by omega)
  by_cases h4 : p = 4
  · subst h4; exact H 3 4 (by omega)
  by_cases h6 : p = 6
  · subst h6; exact H 2 6 (by omega)
  by_cases h12 : p = 12
  · subst h12; exact H 1 12 (by omega)
  rw [if_neg (by omega), if_neg h2, if_neg h3, if_neg h4, if_neg h6, if_neg h12]; rfl

theorem l01In_eq (a b c : Int) : spec_l01In.f a b c = some (decide (b ≤ a ∧ a ≤ c)) := by
  unfold spec_l01In.f
  by_cases h : b ≤ a <;> simp [h]
theorem within_eq (a b c : Int) : impl_within.f a b c = some (decide (b ≤ a ∧ a ≤ c)) := by
  unfold impl_within.f
  by_cases h : b ≤ a <;> simp [h]

def inR (p : Int) : Bool := decide (0 ≤ p ∧ p ≤ 12)
def circOk (l : List Int) : Bool := l.all inR && (decide (l.length = 12) && (l.sum == 12))
theorem impl_circOk_l0 : ∀ (rest pre : List Int) (s : Int) (k : Nat), rest.length < k → (pre ++ rest).length ≤ 1099511627776 → 0 ≤ s ∧ s ≤ 12 * (pre.length : Int) →
    impl_CircleOk.l0 k s (pre ++ rest) ((pre ++ rest).length : Int) (pre.length : Int) (pre ++ rest) = some (rest.all inR && (decide ((pre ++ rest).length = 12) && (s + rest.sum == 12))) := by
  intro rest
  induction rest with
  | nil =>
    intro pre s k hk hl hs
    obtain ⟨k, rfl⟩ : ∃ m, k = m + 1 := ⟨k - 1, by simp at hk; omega⟩
    simp only [impl_CircleOk.l0]
    rw [if_neg (by simp)]
    by_cases h : (pre ++ ([] : List Int)).length = 12
    · rw [if_pos (by omega)]; simp at h; simp [h]
    · rw [if_neg (by omega)]; simp at h; simp [h]
  | cons p rest ih =>
    intro pre s k hk hl hs
    obtain ⟨k, rfl⟩ : ∃ m, k = m + 1 := ⟨k - 1, by simp at hk; omega⟩
    simp only [impl_CircleOk.l0]
    rw [if_pos (by simp; omega), if_pos (by omega), if_pos (by simp; omega), rd_mid, within_eq]
    simp only [Option.bind_some]
    by_cases hp : 0 ≤ p ∧ p ≤ 12
    · have hl2 : pre.length ≤ 1099511627776 := by simp at hl; omega
      rw [if_pos (by simpa using hp), wrap_id (x := s + p) (by omega), succ_wrap hl2]
      have := ih (pre ++ [p]) (s + p) k (by simp at hk; omega) (by simp at hl ⊢; omega) (by simp; omega)
      have e : pre ++ [p] ++ rest = pre ++ p :: rest := by simp
      have e2 : ((pre ++ [p]).length : Int) = ((pre.length + 1 : Nat) : Int) := by simp
      rw [e, e2] at this
      rw [this]
      have hi : inR p = true := decide_eq_true hp
      simp [hi, Int.add_assoc]
    · rw [if_neg (by simpa using hp)]
      have hi : inR p = false := decide_eq_false hp
      simp [hi]
theorem impl_circOk {k : Nat} {l : List Int} (hk : l.length < k) (hl : l.length ≤ 1099511627776) : impl_CircleOk.f k l = some (circOk l) := by
  have := impl_circOk_l0 l [] 0 k hk (by simpa using hl) (by simp)
  unfold impl_CircleOk.f circOk
  simpa using this
theorem circOk_len {l : List Int} (h : circOk l = true) : l.length = 12 := by
  unfold circOk at h; simp at h; exact h.2.1
theorem circOk_sum {l : List Int} (h : circOk l = true) : l.sum = 12 := by
  unfold circOk at h; simp at h; exact h.2.2
theorem circOk_mem {l : List Int} (h : circOk l = true) : ∀ p ∈ l, 0 ≤ p ∧ p ≤ 12 := by
  unfold circOk at h; simp at h
  intro p hp
  have := h.1 p hp
  exact of_decide_eq_true this

def lat : List Int → List Int → Bool
  | a :: s, b :: t => if a = b then lat s t else decide (a < b)
  | _, _ => false
theorem later_l0 : ∀ (ra rb pre preb : List Int) (k : Nat), preb.length = pre.length → 2 * ra.length + 2 < k → (pre ++ ra).length ≤ 1000000 → laws_later.l0 k (pre ++ ra) (preb ++ rb) ((pre.length : Nat) : Int) = some (lat ra rb) := by
  intro ra
  induction ra with
  | nil =>
    intro rb pre preb k hp hk hl
    obtain ⟨k, rfl⟩ : ∃ m, k = m + 2 := ⟨k - 2, by simp at hk; omega⟩
    rw [laws_later.l0, if_neg (by simp), laws_later.j1, if_neg (by simp)]
    cases rb <;> rfl
  | cons a ra ih =>
    intro rb pre preb k hp hk hl
    obtain ⟨k, rfl⟩ : ∃ m, k = m + 2 := ⟨k - 2, by simp at hk; omega⟩
    have hlen : ((pre ++ a :: ra).length : Int) = (pre.length : Int) + (ra.length : Int) + 1 := by simp; omega
    have hl2 : pre.length + ra.length + 1 ≤ 1000000 := by simp at hl; omega
    have hk2 : 2 * ra.length + 2 < k := by simp at hk; omega
    rw [laws_later.l0, if_pos (by rw [hlen]; omega), laws_later.j1]
    cases rb with
    | nil => rw [if_neg (by simp; omega)]; rfl
    | cons b rb =>
      have hlb : ((preb ++ b :: rb).length : Int) = (preb.length : Int) + (rb.length : Int) + 1 := by simp; omega
      have eb : rd (preb ++ b :: rb) ((pre.length : Nat) : Int) = b := by rw [← hp]; exact rd_mid _ _ _
      rw [if_pos (decide_eq_true (by rw [hlb]; omega)), if_pos (by omega), if_pos (by rw [hlen]; omega), if_pos (by rw [hlb]; omega), rd_mid, eb, lat]
      by_cases h : a = b
      · have e := ih rb (pre ++ [a]) (preb ++ [b]) k (by simp; omega) hk2 (by simp; omega)
        rw [List.append_assoc, List.append_assoc, List.singleton_append, List.singleton_append, List.length_append, List.length_singleton] at e
        rw [if_pos h, if_pos h, succ_wrap (by omega), e]
      · rw [if_neg h, if_neg h]
theorem later_eq {k : Nat} {a b : List Int} (hk : 2 * a.length + 2 < k) (hl : a.length ≤ 1000000) : laws_later.f k a b = some (lat a b) := by
  have e := later_l0 a b [] [] k rfl hk (by simpa using hl)
  rw [show ((([] : List Int).length : Nat) : Int) = 0 from rfl, List.nil_append, List.nil_append] at e
  unfold laws_later.f
  rw [e]
def chainL : List Int → List (List Int) → Bool
  | _, [] => true
  | q, l :: ls => lat q l && chainL l ls
def chainO : Option (List Int) → List (List Int) → Bool
  | none, [] => true
  | none, l :: ls => chainL l ls
  | some q, ls => chainL q ls
def okL (p : Int) (l : List Int) : Bool := circOk l && l.all (fun x => x == 0 || x == p)
def famOk (p : Int) : Bool := (fam p).all (okL p) && chainO none (fam p)
theorem fam_fin : famOk 3 = true ∧ famOk 4 = true ∧ famOk 6 = true ∧ famOk 12 = true ∧ (fam 3).length = 495 ∧ (fam 4).length = 220 ∧ (fam 6).length = 66 ∧ (fam 12).length = 12 := by decide +kernel
theorem fam_l1 {p n i : Int} {L : List S29} {l : List Int} (hl : l.length = 12) (hi : 0 ≤ i) (hi2 : i < (L.length : Int)) (he : (rd_T29 L i).f0 = l) (hx : ∀ x ∈ l, x = 0 ∨ x = p) : ∀ (d j k : Nat), j + d = 12 → laws_FnFamilies.l1 (k + d + 1) p n L i (j : Int) = laws_FnFamilies.l0 k p n L (wrap64 (i + 1)) := by
  intro d
  induction d with
  | zero =>
    intro j k hj
    rw [show k + 0 + 1 = k + 1 from rfl, laws_FnFamilies.l1, if_neg (by omega)]
  | succ d ih =>
    intro j k hj
    have hm : rd l (j : Int) = 0 ∨ rd l (j : Int) = p := by
      unfold rd
      rw [List.getD_eq_getElem?_getD, Int.toNat_natCast, List.getElem?_eq_getElem (by omega)]
      exact hx _ (List.getElem_mem _)
    have e := ih (j + 1) k (by omega)
    rw [show k + (d + 1) + 1 = (k + d + 1) + 1 by omega, laws_FnFamilies.l1, if_pos (by omega), if_pos hi, if_pos hi2, if_pos (by omega), he, if_pos (by omega), succ_wrap (by omega), e]
    rcases hm with h | h
    · rw [if_pos h]
    · by_cases h0 : rd l (j : Int) = 0
      · rw [if_pos h0]
      · rw [if_neg h0, if_pos h]
theorem fam_l0 {p n : Int} : ∀ (rest pre : List (List Int)) (k : Nat), rest.length * 15 + 100 < k → (pre ++ rest).length ≤ 5000 → (∀ l ∈ rest, okL p l = true) → chainO pre.getLast? rest = true → (∀ l ∈ pre, l.length = 12) →
    laws_FnFamilies.l0 k p n ((pre ++ rest).map mkC) ((pre.length : Nat) : Int) = some (((pre ++ rest).length : Int) == n) := by
  intro rest
  induction rest with
  | nil =>
    intro pre k hk hl hc hs hp
    obtain ⟨k, rfl⟩ : ∃ m, k = m + 1 := ⟨k - 1, by omega⟩
    rw [laws_FnFamilies.l0, if_neg (by simp), List.length_map]
  | cons l rest ih =>
    intro pre k hk hl hc hs hp
    have hk2 : rest.length * 15 + 15 + 100 < k := by simp at hk; omega
    obtain ⟨k, rfl⟩ : ∃ m, k = m + 15 := ⟨k - 15, by omega⟩
    have hl2 : pre.length + rest.length + 1 ≤ 5000 := by simp at hl; omega
    have ho := hc l (by simp)
    unfold okL at ho
    simp only [Bool.and_eq_true, List.all_eq_true, Bool.or_eq_true, beq_iff_eq] at ho
    have h12 := circOk_len ho.1
    have hs2 : chainL l rest = true := by
      cases hg : pre.getLast? with
      | none => rw [hg] at hs; exact hs
      | some q => rw [hg] at hs; simp only [chainO, chainL, Bool.and_eq_true] at hs; exact hs.2
    have hlen : (((pre ++ l :: rest).map mkC).length : Int) = (pre.length : Int) + (rest.length : Int) + 1 := by simp; omega
    have er : rd_T29 ((pre ++ l :: rest).map mkC) ((pre.length : Nat) : Int) = mkC l := by
      unfold rd_T29
      rw [List.map_append, List.map_cons, Int.toNat_natCast, List.getD_eq_getElem?_getD, List.getElem?_append_right (by simp)]
      simp
    have hn := ih (pre ++ [l]) k (by omega) (by simp; omega) (fun x hx => hc x (by simp [hx])) (by rw [List.getLast?_concat]; exact hs2) (fun x hx => by
      rcases List.mem_append.1 hx with h | h
      · exact hp x h
      · rw [List.mem_singleton.1 h]; exact h12)
    rw [List.append_assoc, List.singleton_append, List.length_append, List.length_singleton] at hn
    have h1 := fam_l1 (p := p) (n := n) (L := (pre ++ l :: rest).map mkC) h12 (i := ((pre.length : Nat) : Int)) (by omega) (by rw [hlen]; omega) (by rw [er]; rfl) ho.2 12 0 k (by omega)
    rw [succ_wrap (by omega), hn, show ((0 : Nat) : Int) = 0 from rfl] at h1
    have hj : laws_FnFamilies.j1 (k + 14) p n ((pre ++ l :: rest).map mkC) ((pre.length : Nat) : Int) false = some (((pre ++ l :: rest).length : Int) == n) := by
      rw [show k + 14 = (k + 12 + 1) + 1 from rfl, laws_FnFamilies.j1, if_neg (by decide), h1]
    rw [show k + 15 = (k + 14) + 1 from rfl, laws_FnFamilies.l0, if_pos (by rw [hlen]; omega), if_pos (by omega), er, show (mkC l).f0 = l from rfl, if_pos (by omega), impl_circOk (by omega) (by omega), Option.bind_some, if_pos ho.1]
    rcases List.eq_nil_or_concat pre with h0 | ⟨pre', q, h0⟩
    · rw [if_neg (by rw [h0]; simp), hj]
    · have hq : lat q l = true := by
        rw [h0, List.concat_eq_append, List.getLast?_concat] at hs
        simp only [chainO, chainL, Bool.and_eq_true] at hs
        exact hs.1
      have ecl : pre.length = pre'.length + 1 := by rw [h0]; simp
      have q12 : q.length = 12 := hp q (by rw [h0]; simp)
      have eq_ : rd_T29 ((pre ++ l :: rest).map mkC) ((pre'.length : Nat) : Int) = mkC q := by
        unfold rd_T29
        rw [h0, List.concat_eq_append, List.append_assoc, List.map_append, Int.toNat_natCast, List.getD_eq_getElem?_getD, List.getElem?_append_right (by simp)]
        simp
      have ew : wrap64 (((pre.length : Nat) : Int) - 1) = ((pre'.length : Nat) : Int) := by rw [wrap_id (by omega)]; omega
      rw [if_pos (by omega), ew, if_pos (by omega), if_pos (by rw [hlen]; omega), eq_, show (mkC q).f0 = q from rfl, later_eq (by omega) (by omega), Option.bind_some, hq, Bool.not_true, hj]
theorem fam_run {p n : Int} (h : famOk p = true) (hn : ((fam p).length : Int) = n) : laws_FnFamilies.l0 100000 p n ((fam p).map mkC) 0 = some true := by
  unfold famOk at h
  simp only [Bool.and_eq_true, List.all_eq_true] at h
  have hl := fam_len p
  have e := fam_l0 (p := p) (n := n) (fam p) [] 100000 (by omega) (by rw [List.nil_append]; omega) h.1 h.2 (fun x hx => by cases hx)
  rw [show ((([] : List (List Int)).length : Nat) : Int) = 0 from rfl, List.nil_append, hn] at e
  rw [e]
  simp
theorem tmod4 {x : Int} (hx : 0 ≤ x ∧ x ≤ 255) : Int.tmod x 4 = 0 ∨ Int.tmod x 4 = 1 ∨ Int.tmod x 4 = 2 ∨ Int.tmod x 4 = 3 := by
  rw [Int.tmod_eq_emod_of_nonneg hx.1]
  omega
theorem FnFamilies : laws_FnFamilies.Pure := by
  intro l hm hl hw
  refine ⟨100000, ?_⟩
  unfold laws_FnFamilies.f
  rw [big_eq, Option.bind_some]
  by_cases hb : 1048576 < l.length
  · rw [if_pos (decide_eq_true hb)]
  rw [if_neg (by simpa using hb)]
  obtain ⟨x, e1, x0, x1⟩ := at_eq (l := l) (i := 0) (by omega) (by omega) hw
  rw [e1]
  simp only [Option.bind_some]
  obtain ⟨f3, f4, f6, f12, n3, n4, n6, n12⟩ := fam_fin
  rcases tmod4 ⟨x0, x1⟩ with h | h | h | h <;> rw [h]
  · rw [if_pos (by decide), if_pos (by decide), if_pos (by decide), if_pos (by decide), show rd [3, 4, 6, 12] 0 = 3 by decide, show rd [495, 220, 66, 12] 0 = 495 by decide, impl_familyOf _ (by omega), Option.bind_some, fam_run f3 (by rw [n3]; rfl)]
  · rw [if_pos (by decide), if_pos (by decide), if_pos (by decide), if_pos (by decide), show rd [3, 4, 6, 12] 1 = 4 by decide, show rd [495, 220, 66, 12] 1 = 220 by decide, impl_familyOf _ (by omega), Option.bind_some, fam_run f4 (by rw [n4]; rfl)]
  · rw [if_pos (by decide), if_pos (by decide), if_pos (by decide), if_pos (by decide), show rd [3, 4, 6, 12] 2 = 6 by decide, show rd [495, 220, 66, 12] 2 = 66 by decide, impl_familyOf _ (by omega), Option.bind_some, fam_run f6 (by rw [n6]; rfl)]
  · rw [if_pos (by decide), if_pos (by decide), if_pos (by decide), if_pos (by decide), show rd [3, 4, 6, 12] 3 = 12 by decide, show rd [495, 220, 66, 12] 3 = 12 by decide, impl_familyOf _ (by omega), Option.bind_some, fam_run f12 (by rw [n12]; rfl)]

end Go.Proofs.Ytdcpbnddnbeofaa.Pure
