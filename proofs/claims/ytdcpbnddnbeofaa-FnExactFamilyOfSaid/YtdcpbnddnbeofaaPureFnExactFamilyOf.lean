/- The law FnExactFamilyOf over numbers and lists alone: the program's FamilyOf and the reference's give one list of circles, new each time, each circle in a row of its own. Conditions: none. -/
import Derived.Test.YtdcpbnddnbeofaaQFnExactFamilyOfx3
import Derived.Test.YtdcpbnddnbeofaaVFnExactFamilyOfa
namespace Go.Proofs.Ytdcpbnddnbeofaa.Pure
open Go.RowKit Go.Proofs.Ytdcpbnddnbeofaa.PFnExactFamilyOf Go.Proofs.YtdcpbnddnbeofaaW.PrintWords Go.Proofs.YtdcpbnddnbeofaaW.PrintLast Go.Proofs.YtdcpbnddnbeofaaW.PrintMore
set_option linter.unusedVariables false
set_option linter.unusedSimpArgs false

theorem wrap_id {x : Int} (h : -4611686018427387904 ≤ x ∧ x ≤ 4611686018427387904) : wrap64 x = x := by
  unfold wrap64; omega

theorem rd_mid (pre rest : List Int) (p : Int) : rd (pre ++ p :: rest) ((pre.length : Nat) : Int) = p := by
  unfold rd
  simp [List.getD]
theorem rd_getD (l : List Int) (i : Nat) : rd l (i : Int) = l.getD i 0 := by unfold rd; simp
theorem succ_wrap {n : Nat} (h : n ≤ 1099511627776) : wrap64 ((n : Int) + 1) = ((n + 1 : Nat) : Int) := by
  rw [wrap_id (by omega)]; omega
theorem split_at {α : Type} (l : List α) (i : Nat) (h : i ≤ l.length) : ∃ pre rest, l = pre ++ rest ∧ pre.length = i := ⟨l.take i, l.drop i, (List.take_append_drop i l).symm, by simp; omega⟩

def spr : Nat → List Int → Nat → Int → List (List Int)
  | 0, l, n, _ => if n = 0 then [l] else []
  | d + 1, l, n, p => spr d (l ++ [0]) n p ++ (if 0 < n then spr d (l ++ [p]) (n - 1) p else [])
def mkC (l : List Int) : S29 := ⟨l⟩
theorem spr_nil : ∀ (d : Nat) (l : List Int) (n : Nat) (p : Int), d < n → spr d l n p = [] := by
  intro d
  induction d with
  | zero => intro l n p h; rw [spr, if_neg (by omega)]
  | succ d ih => intro l n p h; rw [spr, ih _ _ _ (by omega), if_pos (by omega), ih _ _ _ (by omega)]; rfl
theorem spr_len : ∀ (d : Nat) (l : List Int) (n : Nat) (p : Int), (spr d l n p).length ≤ 2 ^ d := by
  intro d
  induction d with
  | zero => intro l n p; rw [spr]; split <;> simp
  | succ d ih =>
    intro l n p
    rw [spr, List.length_append, Nat.pow_succ]
    have h1 := ih (l ++ [0]) n p
    split
    · have h2 := ih (l ++ [p]) (n - 1) p
      omega
    · simp; omega
theorem impl_spread_eq : ∀ (d k : Nat) (l : List Int) (n : Nat) (p : Int) (xs : List S29), l.length + d = 12 → n ≤ 12 → d < k → xs.length + 2 ^ d ≤ 1000000 → impl_spread.f k l (n : Int) p xs = some (xs ++ (spr d l n p).map mkC) := by
  intro d
  induction d with
  | zero =>
    intro k l n p xs hl hn hk hx
    obtain ⟨k, rfl⟩ : ∃ m, k = m + 1 := ⟨k - 1, by omega⟩
    rw [impl_spread.f, if_pos (by omega), spr]
    by_cases h : n = 0
    · rw [if_pos (by omega), if_pos (by simp at hx; omega), if_pos h]; rfl
    · rw [if_neg (by omega), if_neg h]; simp
  | succ d ih =>
    intro k l n p xs hl hn hk hx
    obtain ⟨k, rfl⟩ : ∃ m, k = m + 1 := ⟨k - 1, by omega⟩
    rw [impl_spread.f, if_neg (by omega)]
    rw [Nat.pow_succ] at hx
    by_cases h : d + 1 < n
    · rw [if_pos (by omega), spr_nil _ _ _ _ h]; simp
    · have h1 := spr_len d (l ++ [0]) n p
      rw [if_neg (by omega), ih k (l ++ [0]) n p xs (by simp; omega) hn (by omega) (by omega), Option.bind_some, spr]
      by_cases h2 : 0 < n
      · rw [if_pos (by omega), if_pos h2, show (n : Int) - 1 = ((n - 1 : Nat) : Int) by omega, ih k (l ++ [p]) (n - 1) p _ (by simp; omega) (by omega) (by omega) (by rw [List.length_append, List.length_map]; omega)]
        rw [List.map_append, List.append_assoc]
      · rw [if_neg (by omega), if_neg h2, List.append_nil]
def fam (p : Int) : List (List Int) := if p = 2 then spr 12 [] 6 2 else if p = 3 then spr 12 [] 4 3 else if p = 4 then spr 12 [] 3 4 else if p = 6 then spr 12 [] 2 6 else if p = 12 then spr 12 [] 1 12 else []
theorem pow12 : 2 ^ 12 ≤ 4096 := by decide
theorem fam_len (p : Int) : (fam p).length ≤ 4096 := by
  have H : ∀ (n : Nat) (q : Int), (spr 12 [] n q).length ≤ 4096 := fun n q => Nat.le_trans (spr_len 12 [] n q) pow12
  unfold fam
  by_cases h2 : p = 2
  · rw [if_pos h2]; exact H 6 2
  rw [if_neg h2]
  by_cases h3 : p = 3
  · rw [if_pos h3]; exact H 4 3
  rw [if_neg h3]
  by_cases h4 : p = 4
  · rw [if_pos h4]; exact H 3 4
  rw [if_neg h4]
  by_cases h6 : p = 6
  · rw [if_pos h6]; exact H 2 6
  rw [if_neg h6]
  by_cases h12 : p = 12
  · rw [if_pos h12]; exact H 1 12
  rw [if_neg h12]; exact Nat.zero_le _
theorem impl_familyOf {k : Nat} (p : Int) (hk : 12 < k) : impl_FamilyOf.f k p = some ((fam p).map mkC) := by
  unfold impl_FamilyOf.f fam
  have H : ∀ (n : Nat) (q : Int), n ≤ 12 → impl_spread.f k [] (n : Int) q [] = some ((spr 12 [] n q).map mkC) := by
    intro n q hn
    rw [impl_spread_eq 12 k [] n q [] (by simp) hn hk (by simp)]; rfl
  by_cases h2 : p = 2
  · subst h2; exact H 6 2 (by omega)
  by_cases h3 : p = 3
  · subst h3; exact H 4 3 (by omega)
  by_cases h4 : p = 4
  · subst h4; exact H 3 4 (by omega)
  by_cases h6 : p = 6
  · subst h6; exact H 2 6 (by omega)
  by_cases h12 : p = 12
  · subst h12; exact H 1 12 (by omega)
  rw [if_neg (by omega), if_neg h2, if_neg h3, if_neg h4, if_neg h6, if_neg h12]; rfl

theorem l01In_eq (a b c : Int) : spec_l01In.f a b c = some (decide (b ≤ a ∧ a ≤ c)) := by
  unfold spec_l01In.f
  by_cases h : b ≤ a <;> simp [h]

theorem spec_copy {l : List Int} (h : l.length ≤ 1000) : spec_l02Copy.f l = some l := by
  unfold spec_l02Copy.f
  rw [Option.bind_some, if_pos (by simp; omega)]; rfl
theorem spec_family_eq {p : Int} (hp : 1 ≤ p ∧ p ≤ 12) : ∀ (d k : Nat) (l : List Int) (n : Nat), l.length + d = 12 → n ≤ 12 → d < k → spec_l14Family.f k p l ((n : Int) * p) = some ((spr d l n p).map mkC) := by
  intro d
  induction d with
  | zero =>
    intro k l n hl hn hk
    obtain ⟨k, rfl⟩ : ∃ m, k = m + 1 := ⟨k - 1, by omega⟩
    rw [spec_l14Family.f, if_pos (by omega), spr]
    by_cases h : n = 0
    · subst h
      rw [if_neg (by simp), spec_copy (by omega), Option.bind_some, if_pos rfl]; rfl
    · have : 0 < (n : Int) * p := Int.mul_pos (by omega) (by omega)
      rw [if_pos (by omega), if_neg h]; rfl
  | succ d ih =>
    intro k l n hl hn hk
    obtain ⟨k, rfl⟩ : ∃ m, k = m + 1 := ⟨k - 1, by omega⟩
    have q1 := spr_len d (l ++ [0]) n p
    have q2 := spr_len d (l ++ [p]) (n - 1) p
    have q3 : 2 ^ d ≤ 2 ^ 12 := Nat.pow_le_pow_right (by decide) (by omega)
    have q4 : 2 ^ 12 = 4096 := by decide
    rw [spec_l14Family.f, if_neg (by omega), spec_copy (by omega), Option.bind_some, if_pos (by omega), ih k (l ++ [0]) n (by simp; omega) hn (by omega), Option.bind_some, spr]
    by_cases h2 : 0 < n
    · have e : (n : Int) * p - p = ((n - 1 : Nat) : Int) * p := by
        rw [show ((n - 1 : Nat) : Int) = (n : Int) - 1 by omega, Int.sub_mul, Int.one_mul]
      have m1 : 0 ≤ ((n - 1 : Nat) : Int) * p := Int.mul_nonneg (by omega) (by omega)
      have m2 : ((n - 1 : Nat) : Int) * p ≤ 12 * 12 := Int.mul_le_mul (by omega) (by omega) (by omega) (by omega)
      rw [if_pos (by omega), Option.bind_some, if_pos (by omega), wrap_id (by omega), e, ih k (l ++ [p]) (n - 1) (by simp; omega) (by omega) (by omega), Option.bind_some, if_pos (by rw [List.length_map, List.length_map]; omega), if_pos h2, List.map_append]
    · have h0 : n = 0 := by omega
      subst h0
      rw [if_neg (by simp; omega), if_neg (by omega), List.append_nil]
theorem spec_familyOf {k : Nat} (p : Int) (hk : 12 < k) : spec_FamilyOf.f k p = some ((fam p).map mkC) := by
  unfold spec_FamilyOf.f fam
  rw [l01In_eq, Option.bind_some]
  have H : ∀ (n : Nat) (q : Int), n ≤ 12 → (1 ≤ q ∧ q ≤ 12) → (n : Int) * q = 12 → ((spec_l14Family.f k q (([] : List Int)) 12).bind fun t => some t) = some ((spr 12 [] n q).map mkC) := by
    intro n q hn hq e
    rw [← e, spec_family_eq hq 12 k [] n (by simp) hn hk]; rfl
  by_cases h : 2 ≤ p ∧ p ≤ 12
  · rw [if_pos (decide_eq_true h), if_neg (by omega)]
    have hp : p = 2 ∨ p = 3 ∨ p = 4 ∨ p = 5 ∨ p = 6 ∨ p = 7 ∨ p = 8 ∨ p = 9 ∨ p = 10 ∨ p = 11 ∨ p = 12 := by omega
    rcases hp with rfl | rfl | rfl | rfl | rfl | rfl | rfl | rfl | rfl | rfl | rfl
    · rw [if_pos (by decide), H 6 2 (by omega) (by omega) (by decide)]; rfl
    · rw [if_pos (by decide), H 4 3 (by omega) (by omega) (by decide)]; rfl
    · rw [if_pos (by decide), H 3 4 (by omega) (by omega) (by decide)]; rfl
    · rw [if_neg (by decide)]; rfl
    · rw [if_pos (by decide), H 2 6 (by omega) (by omega) (by decide)]; rfl
    · rw [if_neg (by decide)]; rfl
    · rw [if_neg (by decide)]; rfl
    · rw [if_neg (by decide)]; rfl
    · rw [if_neg (by decide)]; rfl
    · rw [if_neg (by decide)]; rfl
    · rw [if_pos (by decide), H 1 12 (by omega) (by omega) (by decide)]; rfl
  · rw [if_neg (by simpa using h), if_neg (by omega), if_neg (by omega), if_neg (by omega), if_neg (by omega), if_neg (by omega)]; rfl

def mk : Int → Nat → List Int
  | _, 0 => []
  | m, n + 1 => m :: mk (m + 1) n
theorem mk_length (m : Int) (n : Nat) : (mk m n).length = n := by
  induction n generalizing m with
  | zero => rfl
  | succ n ih => simp [mk, ih]
theorem markIntS_l0 : ∀ (rest pre : List Int) (m : Int) (k : Nat), rest.length < k → (pre ++ rest).length ≤ 1099511627776 → 0 ≤ m → m + rest.length ≤ 1099511627776 →
    laws_markIntS.l0 k (pre ++ rest) m (pre.length : Int) = some (m + rest.length, pre ++ mk m rest.length) := by
  intro rest
  induction rest with
  | nil =>
    intro pre m k hk _ _ _
    obtain ⟨k, rfl⟩ : ∃ m, k = m + 1 := ⟨k - 1, by simp at hk; omega⟩
    simp only [laws_markIntS.l0]
    rw [if_neg (by simp)]
    simp [mk]
  | cons p rest ih =>
    intro pre m k hk hl hm hm2
    obtain ⟨k, rfl⟩ : ∃ m, k = m + 1 := ⟨k - 1, by simp at hk; omega⟩
    simp only [List.length_cons] at hm2
    simp only [laws_markIntS.l0]
    rw [if_pos (by simp; omega), if_pos (by omega), wrap_id (x := m + 1) (by omega), succ_wrap (by simp at hl; omega)]
    have e : (pre ++ p :: rest).set ((pre.length : Int)).toNat m = (pre ++ [m]) ++ rest := by simp
    rw [e]
    have := ih (pre ++ [m]) (m + 1) k (by simp at hk; omega) (by simp at hl ⊢; omega) (by omega) (by omega)
    have e2 : ((pre ++ [m]).length : Int) = ((pre.length + 1 : Nat) : Int) := by simp
    rw [e2] at this
    rw [this]
    simp [mk]; omega
theorem markIntS_eq {k : Nat} {l : List Int} {m : Int} (hk : l.length < k) (hm : 0 ≤ m) (hl : m + l.length ≤ 1099511627776) : laws_markIntS.f k l m = some (m + l.length, mk m l.length) := by
  unfold laws_markIntS.f
  have := markIntS_l0 l [] m k hk (by simp; omega) hm hl
  simpa using this
theorem heldIntS_l0 : ∀ (n : Nat) (pre : List Int) (m : Int) (k : Nat), n < k → pre.length + n ≤ 1099511627776 → 0 ≤ m → m + n ≤ 1099511627776 →
    laws_heldIntS.l0 k (pre ++ mk m n) m (pre.length : Int) = some (m + n) := by
  intro n
  induction n with
  | zero =>
    intro pre m k hk _ _ _
    obtain ⟨k, rfl⟩ : ∃ m, k = m + 1 := ⟨k - 1, by omega⟩
    rw [show mk m 0 = [] from rfl]
    simp only [laws_heldIntS.l0]
    rw [if_neg (by simp)]
    simp
  | succ n ih =>
    intro pre m k hk hl hm hm2
    obtain ⟨k, rfl⟩ : ∃ m, k = m + 1 := ⟨k - 1, by omega⟩
    rw [show mk m (n + 1) = m :: mk (m + 1) n from rfl]
    simp only [laws_heldIntS.l0]
    rw [if_pos (by simp; omega), if_pos (by omega), rd_mid, if_pos rfl, wrap_id (x := m + 1) (by omega), succ_wrap (by omega)]
    have := ih (pre ++ [m]) (m + 1) k (by omega) (by simp; omega) (by omega) (by omega)
    have e2 : ((pre ++ [m]).length : Int) = ((pre.length + 1 : Nat) : Int) := by simp
    have e3 : pre ++ [m] ++ mk (m + 1) n = pre ++ m :: mk (m + 1) n := by simp
    rw [e2, e3] at this
    rw [this]
    congr 1; omega
theorem heldIntS_eq {k n : Nat} {m : Int} (hk : n < k) (hm : 0 ≤ m) (hl : m + n ≤ 1099511627776) : laws_heldIntS.f k (mk m n) m = some (m + n) := by
  unfold laws_heldIntS.f
  have := heldIntS_l0 n [] m k hk (by simp; omega) hm hl
  simpa using this

theorem eqIntS_l0 : ∀ (rest pre : List Int) (k : Nat), rest.length < k → (pre ++ rest).length ≤ 1099511627776 → laws_eqIntS.l0 k (pre ++ rest) (pre ++ rest) (pre.length : Int) = some true := by
  intro rest
  induction rest with
  | nil =>
    intro pre k hk _
    obtain ⟨k, rfl⟩ : ∃ m, k = m + 1 := ⟨k - 1, by simp at hk; omega⟩
    simp only [laws_eqIntS.l0]
    rw [if_neg (by simp)]
  | cons p rest ih =>
    intro pre k hk hl
    obtain ⟨k, rfl⟩ : ∃ m, k = m + 1 := ⟨k - 1, by simp at hk; omega⟩
    simp only [laws_eqIntS.l0]
    rw [if_pos (by simp; omega), if_pos (by omega), if_pos (by simp; omega), if_pos trivial, succ_wrap (by simp at hl; omega)]
    have := ih (pre ++ [p]) k (by simp at hk; omega) (by simp at hl ⊢; omega)
    simpa using this
theorem eqIntS_refl {k : Nat} {l : List Int} (hk : l.length < k) (hl : l.length ≤ 1099511627776) : laws_eqIntS.f k l l = some true := by
  unfold laws_eqIntS.f
  rw [if_pos rfl]
  have := eqIntS_l0 l [] k hk (by simpa using hl)
  simpa using this

theorem eqCircle_refl {k : Nat} {l : List Int} (hk : l.length < k) (hl : l.length ≤ 1099511627776) : laws_eqCircle.f k l l = some true := by
  unfold laws_eqCircle.f
  rw [eqIntS_refl hk hl]; rfl

theorem spr_row : ∀ (d : Nat) (l : List Int) (n : Nat) (p : Int), ∀ x ∈ spr d l n p, x.length = l.length + d := by
  intro d
  induction d with
  | zero =>
    intro l n p x hx
    rw [spr] at hx
    split at hx
    · rw [List.mem_singleton.1 hx]; rfl
    · cases hx
  | succ d ih =>
    intro l n p x hx
    rw [spr] at hx
    rcases List.mem_append.1 hx with hx | hx
    · have := ih _ _ _ x hx; simp at this; omega
    · split at hx
      · have := ih _ _ _ x hx; simp at this; omega
      · cases hx
theorem fam_row {p : Int} : ∀ x ∈ fam p, x.length = 12 := by
  have H : ∀ (n : Nat) (q : Int), ∀ x ∈ spr 12 [] n q, x.length = 12 := fun n q x hx => by have := spr_row 12 [] n q x hx; simpa using this
  unfold fam
  by_cases h2 : p = 2
  · rw [if_pos h2]; exact H 6 2
  rw [if_neg h2]
  by_cases h3 : p = 3
  · rw [if_pos h3]; exact H 4 3
  rw [if_neg h3]
  by_cases h4 : p = 4
  · rw [if_pos h4]; exact H 3 4
  rw [if_neg h4]
  by_cases h6 : p = 6
  · rw [if_pos h6]; exact H 2 6
  rw [if_neg h6]
  by_cases h12 : p = 12
  · rw [if_pos h12]; exact H 1 12
  rw [if_neg h12]
  intro x hx; cases hx
theorem famC_row {p : Int} : ∀ c ∈ (fam p).map mkC, c.f0.length = 12 := by
  intro c hc
  obtain ⟨x, hx, rfl⟩ := List.mem_map.1 hc
  exact fam_row x hx
def mkS : Int → List S29 → List S29
  | _, [] => []
  | m, c :: cs => ⟨mk m 12⟩ :: mkS (m + 12) cs
theorem mkS_length : ∀ (m : Int) (cs : List S29), (mkS m cs).length = cs.length
  | _, [] => rfl
  | m, c :: cs => by rw [mkS, List.length_cons, List.length_cons, mkS_length]
theorem rdS_mid (pre rest : List S29) (p : S29) : rd_T29 (pre ++ p :: rest) ((pre.length : Nat) : Int) = p := by
  unfold rd_T29
  simp [List.getD]
theorem marks_eq {k : Nat} (hk : 12 < k) : ∀ (cs done : List S29) (m : Int), (∀ c ∈ cs, c.f0.length = 12) → 0 ≤ m → m + 12 * (cs.length : Int) ≤ 1000000 → marks_l k done cs m = some (m + 12 * (cs.length : Int), done ++ mkS m cs) := by
  intro cs
  induction cs with
  | nil => intro done m _ _ _; rw [marks_l, mkS, List.append_nil]; simp
  | cons c cs ih =>
    intro done m hc h0 h1
    have hl := hc c (by simp)
    rw [List.length_cons] at h1 ⊢
    rw [marks_l, markIntS_eq (by omega) h0 (by rw [hl]; omega), Option.bind_some]
    dsimp only
    rw [hl]
    have e := ih (done ++ [⟨mk m 12⟩]) (m + 12) (fun x hx => hc x (by simp [hx])) (by omega) (by omega)
    rw [show m + ((12 : Nat) : Int) = m + 12 from rfl, e, mkS, List.append_assoc, List.singleton_append]
    congr 2; omega
theorem markCircleS_eq {k : Nat} (hk : 12 < k) {cs : List S29} (hc : ∀ c ∈ cs, c.f0.length = 12) (hl : cs.length ≤ 10000) : laws_markCircleS.f k cs 1 = some (1 + 12 * (cs.length : Int), mkS 1 cs) := by
  unfold laws_markCircleS.f
  rw [if_neg (by omega), marks_eq hk cs [] 1 hc (by omega) (by omega), List.nil_append]
theorem heldS_l0 : ∀ (cs pre : List S29) (m : Int) (k : Nat), cs.length + 20 < k → pre.length + cs.length ≤ 10000 → 0 ≤ m → m + 12 * (cs.length : Int) ≤ 1000000 → laws_heldCircleS.l0 k (pre ++ mkS m cs) m ((pre.length : Nat) : Int) = some (m + 12 * (cs.length : Int)) := by
  intro cs
  induction cs with
  | nil =>
    intro pre m k hk _ _ _
    obtain ⟨k, rfl⟩ : ∃ q, k = q + 1 := ⟨k - 1, by omega⟩
    rw [mkS, laws_heldCircleS.l0, if_neg (by simp)]
    simp
  | cons c cs ih =>
    intro pre m k hk hl h0 h1
    obtain ⟨k, rfl⟩ : ∃ q, k = q + 1 := ⟨k - 1, by omega⟩
    rw [List.length_cons] at hk hl h1 ⊢
    have e := ih (pre ++ [⟨mk m 12⟩]) (m + 12) k (by omega) (by simp; omega) (by omega) (by omega)
    have e2 : (((pre ++ [(⟨mk m 12⟩ : S29)]).length : Nat) : Int) = ((pre.length + 1 : Nat) : Int) := by simp
    rw [List.append_assoc, List.singleton_append, e2] at e
    have hh := heldIntS_eq (k := k) (n := 12) (m := m) (by omega) h0 (by omega)
    have hlen : ((pre ++ mkS m (c :: cs)).length : Int) = (pre.length : Int) + (cs.length : Int) + 1 := by rw [List.length_append, mkS_length, List.length_cons]; omega
    rw [laws_heldCircleS.l0, if_pos (by rw [hlen]; omega), if_pos (by omega), mkS, rdS_mid, hh, Option.bind_some, if_neg (by omega), succ_wrap (by omega), show m + ((12 : Nat) : Int) = m + 12 from rfl, e]
    congr 1; omega
theorem heldCircleS_eq {k : Nat} {cs : List S29} (hk : cs.length + 20 < k) (hl : cs.length ≤ 10000) : laws_heldCircleS.f k (mkS 1 cs) 1 = some (1 + 12 * (cs.length : Int)) := by
  unfold laws_heldCircleS.f
  have e := heldS_l0 cs [] 1 k hk (by simp; omega) (by omega) (by omega)
  rwa [List.nil_append] at e
theorem eqS_l0 : ∀ (rest pre : List S29) (k : Nat), rest.length + 20 < k → pre.length + rest.length ≤ 10000 → (∀ c ∈ rest, c.f0.length = 12) → laws_eqCircleS.l0 k (pre ++ rest) (pre ++ rest) ((pre.length : Nat) : Int) = some true := by
  intro rest
  induction rest with
  | nil =>
    intro pre k hk _ _
    obtain ⟨k, rfl⟩ : ∃ q, k = q + 1 := ⟨k - 1, by omega⟩
    rw [laws_eqCircleS.l0, if_neg (by simp)]
  | cons c rest ih =>
    intro pre k hk hl hc
    obtain ⟨k, rfl⟩ : ∃ q, k = q + 1 := ⟨k - 1, by omega⟩
    rw [List.length_cons] at hk hl
    have h12 := hc c (by simp)
    have e := ih (pre ++ [c]) k (by omega) (by simp; omega) (fun x hx => hc x (by simp [hx]))
    have e2 : (((pre ++ [c]).length : Nat) : Int) = ((pre.length + 1 : Nat) : Int) := by simp
    rw [List.append_assoc, List.singleton_append, e2] at e
    have hlen : ((pre ++ c :: rest).length : Int) = (pre.length : Int) + (rest.length : Int) + 1 := by simp; omega
    rw [laws_eqCircleS.l0, if_pos (by rw [hlen]; omega), if_pos (by omega), if_pos (by rw [hlen]; omega), rdS_mid, eqCircle_refl (by omega) (by omega), Option.bind_some, if_pos rfl, succ_wrap (by omega), e]
theorem eqCircleS_refl {k : Nat} {cs : List S29} (hk : cs.length + 20 < k) (hl : cs.length ≤ 10000) (hc : ∀ c ∈ cs, c.f0.length = 12) : laws_eqCircleS.f k cs cs = some true := by
  unfold laws_eqCircleS.f
  rw [if_pos rfl]
  have e := eqS_l0 cs [] k hk (by simp; omega) hc
  rwa [List.nil_append] at e

theorem FnExactFamilyOf : laws_FnExactFamilyOf.Pure := by
  intro p _
  obtain ⟨K, hK⟩ : ∃ K : Nat, K = 100000 := ⟨_, rfl⟩
  refine ⟨K, ?_⟩
  have hl : ((fam p).map mkC).length ≤ 10000 := by rw [List.length_map]; have := fam_len p; omega
  have hr := famC_row (p := p)
  unfold laws_FnExactFamilyOf.f
  rw [spec_familyOf p (by omega), Option.bind_some, impl_familyOf p (by omega), Option.bind_some]
  generalize (fam p).map mkC = L at hl hr
  rw [eqCircleS_refl (by omega) hl hr, Option.bind_some, if_pos rfl, markCircleS_eq (by omega) hr hl, Option.bind_some]
  dsimp only
  rw [heldCircleS_eq (by omega) hl, Option.bind_some, if_neg (by omega), if_pos rfl]

end Go.Proofs.Ytdcpbnddnbeofaa.Pure
