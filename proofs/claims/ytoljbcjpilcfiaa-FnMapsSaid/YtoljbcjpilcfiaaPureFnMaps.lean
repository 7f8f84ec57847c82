/- The law FnMaps over numbers and lists alone: steps of intervals and of divisions can be added. Conditions: none. -/
import Derived.Test.YtoljbcjpilcfiaaQFnMapsx4
import Derived.Test.YtoljbcjpilcfiaaVFnMapsa
import Derived.OpenShut
namespace Go.Proofs.Ytoljbcjpilcfiaa.Pure
open Go.RowKit Go.Proofs.Ytoljbcjpilcfiaa.PFnMaps Go.Proofs.YtoljbcjpilcfiaaW.PrintWords Go.Proofs.YtoljbcjpilcfiaaW.PrintLast Go.Proofs.YtoljbcjpilcfiaaW.PrintMore
set_option linter.unusedVariables false
set_option linter.unusedSimpArgs false

theorem wrap_id {x : Int} (h : -4611686018427387904 ≤ x ∧ x ≤ 4611686018427387904) : wrap64 x = x := by
  unfold wrap64; omega

theorem rd_mid (pre rest : List Int) (p : Int) : rd (pre ++ p :: rest) ((pre.length : Nat) : Int) = p := by
  unfold rd
  simp [List.getD]
theorem rd_getD (l : List Int) (i : Nat) : rd l (i : Int) = l.getD i 0 := by unfold rd; simp
theorem succ_wrap {n : Nat} (h : n ≤ 1099511627776) : wrap64 ((n : Int) + 1) = ((n + 1 : Nat) : Int) := by
  rw [wrap_id (by omega)]; omega
theorem split_at {α : Type} (l : List α) (i : Nat) (h : i ≤ l.length) : ∃ pre rest, l = pre ++ rest ∧ pre.length = i := ⟨l.take i, l.drop i, (List.take_append_drop i l).symm, by simp; omega⟩

theorem u8_range {x : Int} (h : (Lit.int .u8 x).wf = true) : 0 ≤ x ∧ x ≤ 255 := bounds_u8 h
theorem big_eq (l : List Int) : laws_big.f l = some (decide (1048576 < l.length)) := by
  unfold laws_big.f
  congr 1
  rw [decide_eq_decide]; omega

theorem wraps_i64_8 (n : Int) (h0 : 0 ≤ n) (h1 : n < 2 ^ 8) : IntKind.i64.wrap n = n := by
  rw [show (2 : Int) ^ 8 = 256 from rfl] at h1
  rw [IntKind.wrap_i64]; omega
theorem and_byte (x : Int) : 0 ≤ Go.bits .and .i64 x 255 ∧ Go.bits .and .i64 x 255 ≤ 255 := by
  have h : Go.bits .and .i64 x 255 = IntKind.i64.wrap (((BitVec.ofInt 64 x &&& BitVec.ofInt 64 255).toNat : Nat) : Int) := rfl
  rw [h, BitVec.toNat_and]
  have h2 : (BitVec.ofInt 64 x).toNat &&& (BitVec.ofInt 64 255).toNat ≤ 255 := Nat.le_trans Nat.and_le_right (by decide)
  generalize (BitVec.ofInt 64 x).toNat &&& (BitVec.ofInt 64 255).toNat = n at *
  rw [IntKind.wrap_i64]; omega
def Bytes (l : List Int) : Prop := ∀ x ∈ l, 0 ≤ x ∧ x ≤ 255
theorem byte_ok {l : List Int} {i : Int} (h : Int) (hi : 0 ≤ i ∧ i ≤ (l.length : Int)) (hl : l.length ≤ 1048576) : ∃ x i' h', spec_l01Byte.f l i h = some (x, i', h') ∧ (0 ≤ x ∧ x ≤ 255) ∧ (0 ≤ i' ∧ i' ≤ (l.length : Int)) := by
  unfold spec_l01Byte.f
  by_cases hc : i < (l.length : Int)
  · rw [if_pos hc, if_pos hi.1]
    exact ⟨_, _, _, rfl, and_byte _, by rw [wrap_id (by omega)]; omega⟩
  · rw [if_neg hc]
    exact ⟨_, _, _, rfl, and_byte _, hi⟩
theorem below_ok {l : List Int} {i : Int} (h n : Int) (hi : 0 ≤ i ∧ i ≤ (l.length : Int)) (hl : l.length ≤ 1048576) : ∃ x i' h', spec_l01Below.f l i h n = some (x, i', h') ∧ (0 ≤ x) ∧ (0 < n → x < n) ∧ (n ≤ 0 → x = 0) ∧ (0 ≤ i' ∧ i' ≤ (l.length : Int)) := by
  unfold spec_l01Below.f
  by_cases h0 : n ≤ 0
  · rw [if_pos h0]; exact ⟨0, i, h, rfl, by omega, by omega, fun _ => rfl, hi⟩
  rw [if_neg h0]
  by_cases h1 : n ≤ 256
  · rw [if_pos h1]
    obtain ⟨x, i', h', e, hx, hi'⟩ := byte_ok h hi hl
    rw [e, Option.bind_some, if_neg (by omega)]
    refine ⟨_, _, _, rfl, ?_, fun _ => ?_, fun hn => by omega, hi'⟩
    · rw [Int.tmod_eq_emod_of_nonneg hx.1]; exact Int.emod_nonneg _ (by omega)
    · rw [Int.tmod_eq_emod_of_nonneg hx.1]; exact Int.emod_lt_of_pos _ (by omega)
  · rw [if_neg h1]
    obtain ⟨x1, i1, h1', e1, hx1, hi1⟩ := byte_ok h hi hl
    obtain ⟨x2, i2, h2', e2, hx2, hi2⟩ := byte_ok h1' hi1 hl
    obtain ⟨x3, i3, h3', e3, hx3, hi3⟩ := byte_ok h2' hi2 hl
    obtain ⟨x4, i4, h4', e4, hx4, hi4⟩ := byte_ok h3' hi3 hl
    rw [e1, Option.bind_some, e2, Option.bind_some, e3, Option.bind_some, e4, Option.bind_some, if_neg (by omega)]
    refine ⟨_, _, _, rfl, ?_, fun _ => ?_, fun hn => by omega, hi4⟩
    all_goals simp only [wrap_id (x := x1 * 16777216) (by omega), wrap_id (x := x2 * 65536) (by omega), wrap_id (x := x3 * 256) (by omega), wrap_id (x := x1 * 16777216 + x2 * 65536) (by omega), wrap_id (x := x1 * 16777216 + x2 * 65536 + x3 * 256) (by omega), wrap_id (x := x1 * 16777216 + x2 * 65536 + x3 * 256 + x4) (by omega)]
    · rw [Int.tmod_eq_emod_of_nonneg (by omega)]; exact Int.emod_nonneg _ (by omega)
    · rw [Int.tmod_eq_emod_of_nonneg (by omega)]; exact Int.emod_lt_of_pos _ (by omega)
theorem pick_ok {l : List Int} {i : Int} (h : Int) {c : List Int} (hc : 0 < c.length) (hi : 0 ≤ i ∧ i ≤ (l.length : Int)) (hl : l.length ≤ 1048576) : ∃ x i' h', spec_l01PickInt.f l i h c = some (x, i', h') ∧ x ∈ c ∧ (0 ≤ i' ∧ i' ≤ (l.length : Int)) := by
  unfold spec_l01PickInt.f
  obtain ⟨x, i', h', e, x0, x1, _, hi'⟩ := below_ok h (c.length : Int) hi hl
  have x2 := x1 (by omega)
  rw [e, Option.bind_some, if_pos x0, if_pos x2]
  refine ⟨_, _, _, rfl, ?_, hi'⟩
  unfold rd
  rw [List.getD_eq_getElem?_getD, List.getElem?_eq_getElem (by omega)]
  exact List.getElem_mem _
theorem once_ok {l : List Int} {i : Int} (h n : Int) (hi : 0 ≤ i ∧ i ≤ (l.length : Int)) (hl : l.length ≤ 1048576) : ∃ b i' h', spec_l01Once.f l i h n = some (b, i', h') ∧ (0 ≤ i' ∧ i' ≤ (l.length : Int)) := by
  unfold spec_l01Once.f
  obtain ⟨x, i', h', e, _, _, _, hi'⟩ := below_ok h n hi hl
  rw [e, Option.bind_some]
  exact ⟨_, _, _, rfl, hi'⟩
theorem new_l0 {l : List Int} (hl : l.length ≤ 1048576) : ∀ (d i k : Nat) (h : Int), i + d = l.length → d < k → ∃ h', spec_l01New.l0 k l h (i : Int) = some (l, 0, h') := by
  intro d
  induction d with
  | zero =>
    intro i k h hi hk
    obtain ⟨k, rfl⟩ : ∃ q, k = q + 1 := ⟨k - 1, by omega⟩
    simp only [spec_l01New.l0]
    rw [if_neg (by omega)]
    exact ⟨_, rfl⟩
  | succ d ih =>
    intro i k h hi hk
    obtain ⟨k, rfl⟩ : ∃ q, k = q + 1 := ⟨k - 1, by omega⟩
    simp only [spec_l01New.l0]
    rw [if_pos (by omega)]
    by_cases h4 : (i : Int) < 4000
    · rw [if_pos h4, if_pos (by omega), succ_wrap (by omega)]
      exact ih (i + 1) k _ (by omega) (by omega)
    · rw [if_neg h4]; exact ⟨_, rfl⟩
theorem new_ok {l : List Int} {k : Nat} (hl : l.length ≤ 1048576) (hk : 1048577 ≤ k) : ∃ h, spec_l01New.f k l = some (l, 0, h) := by
  unfold spec_l01New.f
  exact new_l0 hl l.length 0 k _ (by omega) (by omega)

theorem l01In_eq (a b c : Int) : spec_l01In.f a b c = some (decide (b ≤ a ∧ a ≤ c)) := by
  unfold spec_l01In.f
  by_cases h : b ≤ a <;> simp [h]
theorem within_eq (a b c : Int) : impl_within.f a b c = some (decide (b ≤ a ∧ a ≤ c)) := by
  unfold impl_within.f
  by_cases h : b ≤ a <;> simp [h]

def val : List Int → Int
  | [] => 0
  | d :: ds => d + 10000 * val ds
def Dig (l : List Int) : Prop := ∀ d ∈ l, 0 ≤ d ∧ d < 10000
def Norm (l : List Int) : Prop := Dig l ∧ l.getLast? ≠ some 0
def cmpZ (m n : Int) : Int := if m < n then -1 else if n < m then 1 else 0
theorem val_append (a b : List Int) : val (a ++ b) = val a + 10000 ^ a.length * val b := by
  induction a with
  | nil => simp [val]
  | cons x a ih =>
    simp only [List.cons_append, val, ih, List.length_cons, Int.pow_succ]
    rw [Int.mul_add, ← Int.add_assoc, Int.mul_comm (10000 ^ a.length) 10000, Int.mul_assoc]
theorem val_snoc (a : List Int) (x : Int) : val (a ++ [x]) = val a + 10000 ^ a.length * x := by
  rw [val_append]; simp [val]
theorem Dig.append {a b : List Int} (ha : Dig a) (hb : Dig b) : Dig (a ++ b) := by
  intro d hd
  rcases List.mem_append.1 hd with h | h
  · exact ha d h
  · exact hb d h
theorem Dig.left {a b : List Int} (h : Dig (a ++ b)) : Dig a := fun d hd => h d (List.mem_append.2 (.inl hd))
theorem Dig.right {a b : List Int} (h : Dig (a ++ b)) : Dig b := fun d hd => h d (List.mem_append.2 (.inr hd))
theorem Dig.one {x : Int} (h : 0 ≤ x ∧ x < 10000) : Dig [x] := by
  intro d hd
  simp at hd; subst hd; exact h
theorem pow10_pos (n : Nat) : (0 : Int) < 10000 ^ n := Int.pow_pos (by decide)
theorem val_nn {a : List Int} (h : Dig a) : 0 ≤ val a := by
  induction a with
  | nil => simp [val]
  | cons x a ih =>
    have h1 := ih (fun d hd => h d (List.mem_cons_of_mem _ hd))
    have h2 := h x List.mem_cons_self
    simp only [val]; omega
theorem val_lt {a : List Int} (h : Dig a) : val a < 10000 ^ a.length := by
  induction a with
  | nil => simp [val]
  | cons x a ih =>
    have h1 := ih (fun d hd => h d (List.mem_cons_of_mem _ hd))
    have h2 := h x List.mem_cons_self
    simp only [val, List.length_cons, Int.pow_succ]
    omega
theorem val_ge {a : List Int} (h : Norm a) (hn : a ≠ []) : 10000 ^ (a.length - 1) ≤ val a := by
  obtain ⟨b, x, rfl⟩ := (List.eq_nil_or_concat a).resolve_left hn
  simp only [List.concat_eq_append] at h hn ⊢
  rw [val_snoc]
  have hx : x ≠ 0 := by have := h.2; simpa using this
  have hx2 := h.1 x (by simp)
  have h3 : (10000 : Int) ^ b.length * 1 ≤ 10000 ^ b.length * x := Int.mul_le_mul_of_nonneg_left (by omega) (Int.le_of_lt (pow10_pos _))
  have h4 := val_nn h.1.left
  have e : (b ++ [x]).length - 1 = b.length := by simp
  rw [e]; omega
theorem norm_of_val {a : List Int} (h : Dig a) (hv : a ≠ [] → 10000 ^ (a.length - 1) ≤ val a) : Norm a := by
  refine ⟨h, ?_⟩
  rcases List.eq_nil_or_concat a with rfl | ⟨b, x, rfl⟩
  · simp
  · simp only [List.concat_eq_append] at h hv ⊢
    have h1 := hv (by simp)
    have e : (b ++ [x]).length - 1 = b.length := by simp
    rw [e, val_snoc] at h1
    have h2 := val_lt h.left
    intro hx
    have : x = 0 := by simpa using hx
    subst this
    omega
theorem cmpZ_cases (m n : Int) : (cmpZ m n = -1 ∧ m < n) ∨ (cmpZ m n = 0 ∧ m = n) ∨ (cmpZ m n = 1 ∧ n < m) := by
  unfold cmpZ
  rcases Int.lt_trichotomy m n with h | h | h
  · left; rw [if_pos h]; exact ⟨rfl, h⟩
  · right; left; rw [if_neg (by omega), if_neg (by omega)]; exact ⟨rfl, h⟩
  · right; right; rw [if_neg (by omega), if_pos h]; exact ⟨rfl, h⟩
theorem cmpZ_lt {m n : Int} (h : m < n) : cmpZ m n = -1 := by unfold cmpZ; rw [if_pos h]
theorem cmpZ_gt {m n : Int} (h : n < m) : cmpZ m n = 1 := by unfold cmpZ; rw [if_neg (by omega), if_pos h]
theorem cmpZ_self (m : Int) : cmpZ m m = 0 := by unfold cmpZ; rw [if_neg (by omega), if_neg (by omega)]
theorem cmp_snoc {a b : List Int} {x y : Int} (ha : Dig a) (hb : Dig b) (hl : a.length = b.length) :
    cmpZ (val (a ++ [x])) (val (b ++ [y])) = if x < y then -1 else if x > y then 1 else cmpZ (val a) (val b) := by
  rw [val_snoc, val_snoc, hl]
  have h1 := val_lt ha
  have h2 := val_lt hb
  have h3 := val_nn ha
  have h4 := val_nn hb
  have hP := pow10_pos b.length
  rw [hl] at h1
  generalize (10000 : Int) ^ b.length = P at *
  rcases Int.lt_trichotomy x y with h | h | h
  · have h5 : P * (x + 1) ≤ P * y := Int.mul_le_mul_of_nonneg_left (by omega) (by omega)
    rw [Int.mul_add] at h5
    rw [if_pos h]; exact cmpZ_lt (by omega)
  · subst h
    rw [if_neg (by omega), if_neg (by omega)]
    rcases cmpZ_cases (val a) (val b) with ⟨g, g'⟩ | ⟨g, g'⟩ | ⟨g, g'⟩
    · rw [g]; exact cmpZ_lt (by omega)
    · rw [g, g']; exact cmpZ_self _
    · rw [g]; exact cmpZ_gt (by omega)
  · have h5 : P * (y + 1) ≤ P * x := Int.mul_le_mul_of_nonneg_left (by omega) (by omega)
    rw [Int.mul_add] at h5
    rw [if_neg (by omega), if_pos h]; exact cmpZ_gt (by omega)
theorem ipow_le {b m n : Nat} (hb : 0 < b) (h : m ≤ n) : (b : Int) ^ m ≤ (b : Int) ^ n := by
  rw [← Int.natCast_pow, ← Int.natCast_pow]; exact Int.ofNat_le.2 (Nat.pow_le_pow_right hb h)
theorem ipow_base {a b n : Nat} (h : a ≤ b) : (a : Int) ^ n ≤ (b : Int) ^ n := by
  rw [← Int.natCast_pow, ← Int.natCast_pow]; exact Int.ofNat_le.2 (Nat.pow_le_pow_left h n)
theorem ipow_inv {b m n : Nat} (hb : 1 < b) (h : (b : Int) ^ m ≤ (b : Int) ^ n) : m ≤ n := by
  rw [← Int.natCast_pow, ← Int.natCast_pow] at h; exact (Nat.pow_le_pow_iff_right hb).1 (Int.ofNat_le.1 h)
theorem cmp_len {a b : List Int} (ha : Norm a) (hb : Norm b) (hl : a.length < b.length) : val a < val b := by
  have h1 := val_lt ha.1
  have h2 := val_ge hb (by intro e; subst e; simp at hl)
  have h3 : (10000 : Int) ^ a.length ≤ 10000 ^ (b.length - 1) := ipow_le (b := 10000) (by decide) (by omega)
  omega
theorem len_le_of_val {a : List Int} {n : Nat} (h : Norm a) (hv : val a ≤ 2 ^ n) : a.length ≤ n + 1 := by
  rcases Nat.eq_zero_or_pos a.length with h0 | h0
  · omega
  have h2 := val_ge h (by intro e; subst e; simp at h0)
  have h3 : (2 : Int) ^ (a.length - 1) ≤ 10000 ^ (a.length - 1) := ipow_base (a := 2) (b := 10000) (by decide)
  have h4 : (2 : Int) ^ (a.length - 1) ≤ 2 ^ n := by omega
  have := ipow_inv (b := 2) (by decide) h4
  omega
def mulL : List Int → Int → Int → List Int × Int
  | [], _, c => ([], c)
  | d :: ds, b, c => (((d * b + c) % 10000) :: (mulL ds b ((d * b + c) / 10000)).1, (mulL ds b ((d * b + c) / 10000)).2)
theorem mulL_len (ds : List Int) (b c : Int) : (mulL ds b c).1.length = ds.length := by
  induction ds generalizing c with
  | nil => rfl
  | cons d ds ih => simp only [mulL, List.length_cons, ih]
theorem mulL_dig (ds : List Int) (b c : Int) : Dig (mulL ds b c).1 := by
  induction ds generalizing c with
  | nil => intro d hd; simp [mulL] at hd
  | cons d ds ih =>
    intro x hx
    simp only [mulL, List.mem_cons] at hx
    rcases hx with rfl | hx
    · omega
    · exact ih _ x hx
theorem mulL_val (ds : List Int) (b c : Int) : val (mulL ds b c).1 + 10000 ^ ds.length * (mulL ds b c).2 = val ds * b + c := by
  induction ds generalizing c with
  | nil => simp [mulL, val]
  | cons d ds ih =>
    simp only [mulL, val, List.length_cons]
    have h := ih ((d * b + c) / 10000)
    have e := Int.mul_ediv_add_emod (d * b + c) 10000
    rw [Int.pow_succ, Int.add_mul, Int.mul_assoc 10000]
    have e2 : (10000 : Int) ^ ds.length * 10000 * (mulL ds b ((d * b + c) / 10000)).2 = 10000 * (10000 ^ ds.length * (mulL ds b ((d * b + c) / 10000)).2) := by
      rw [Int.mul_comm ((10000 : Int) ^ ds.length) 10000, Int.mul_assoc]
    rw [e2]
    generalize val (mulL ds b ((d * b + c) / 10000)).1 = V at *
    generalize (10000 : Int) ^ ds.length * (mulL ds b ((d * b + c) / 10000)).2 = C at *
    generalize val ds * b = X at *
    generalize d * b = Y at *
    omega
theorem digit_step {d b c : Int} (hd : 0 ≤ d ∧ d < 10000) (hb : 1 ≤ b) (hc : 0 ≤ c ∧ c < b) : 0 ≤ d * b + c ∧ d * b + c < 10000 * b ∧ (0 ≤ (d * b + c) / 10000 ∧ (d * b + c) / 10000 < b) := by
  have h1 : 0 ≤ d * b := Int.mul_nonneg hd.1 (by omega)
  have h2 : d * b ≤ 9999 * b := Int.mul_le_mul_of_nonneg_right (by omega) (by omega)
  omega
theorem mulL_carry (ds : List Int) {b c : Int} (hd : Dig ds) (hb : 1 ≤ b) (hc : 0 ≤ c ∧ c < b) : 0 ≤ (mulL ds b c).2 ∧ (mulL ds b c).2 < b := by
  induction ds generalizing c with
  | nil => exact hc
  | cons d ds ih =>
    have h := digit_step (hd d List.mem_cons_self) hb hc
    exact ih (fun x hx => hd x (List.mem_cons_of_mem _ hx)) h.2.2

def pwZ (a b c : Int) : Int := 2 ^ a.toNat * 3 ^ b.toNat * 5 ^ c.toNat
def sgn3 (a b c : Int) : Int := cmpZ (pwZ a b c) (pwZ (-a) (-b) (-c))
theorem pwZ_pos (a b c : Int) : 0 < pwZ a b c := Int.mul_pos (Int.mul_pos (Int.pow_pos (by decide)) (Int.pow_pos (by decide))) (Int.pow_pos (by decide))
theorem cmpZ_swap (m n : Int) : cmpZ n m = - cmpZ m n := by
  rcases cmpZ_cases m n with ⟨h, h'⟩ | ⟨h, h'⟩ | ⟨h, h'⟩ <;> rcases cmpZ_cases n m with ⟨g, g'⟩ | ⟨g, g'⟩ | ⟨g, g'⟩ <;> rw [h, g] <;> first | rfl | omega
theorem sgn3_neg (a b c : Int) : sgn3 (-a) (-b) (-c) = - sgn3 a b c := by
  unfold sgn3; rw [Int.neg_neg, Int.neg_neg, Int.neg_neg]; exact cmpZ_swap _ _
theorem ipow_lt {m n : Int} (hm : 0 ≤ m) (h : m < n) : ∀ {g : Nat}, g ≠ 0 → m ^ g < n ^ g := by
  intro g hg
  obtain ⟨u, rfl⟩ := Int.eq_ofNat_of_zero_le hm
  obtain ⟨v, rfl⟩ := Int.eq_ofNat_of_zero_le (show 0 ≤ n by omega)
  have : u ^ g < v ^ g := Nat.pow_lt_pow_left (by omega) hg
  rw [← Int.natCast_pow, ← Int.natCast_pow]; exact Int.ofNat_lt.2 this
theorem cmpZ_pow {m n : Int} (hm : 0 ≤ m) (hn : 0 ≤ n) {g : Nat} (hg : g ≠ 0) : cmpZ (m ^ g) (n ^ g) = cmpZ m n := by
  rcases cmpZ_cases m n with ⟨h, h'⟩ | ⟨h, h'⟩ | ⟨h, h'⟩
  · rw [h]; exact cmpZ_lt (ipow_lt hm h' hg)
  · rw [h, h']; exact cmpZ_self _
  · rw [h]; exact cmpZ_gt (ipow_lt hn h' hg)
theorem ipow_mul (x : Int) (m n : Nat) : x ^ (m * n) = (x ^ m) ^ n := Int.pow_mul ..
theorem imul_pow (x y : Int) (n : Nat) : (x * y) ^ n = x ^ n * y ^ n := Int.mul_pow ..
theorem toNat_mul {g : Nat} (a : Int) : ((g : Int) * a).toNat = a.toNat * g := by
  rcases Int.le_total 0 a with h | h
  · obtain ⟨u, rfl⟩ := Int.eq_ofNat_of_zero_le h
    rw [← Int.natCast_mul, Int.toNat_natCast, Int.toNat_natCast, Nat.mul_comm]
  · have h1 : (g : Int) * a ≤ 0 := Int.mul_nonpos_of_nonneg_of_nonpos (by omega) h
    rw [Int.toNat_of_nonpos h1, Int.toNat_of_nonpos h, Nat.zero_mul]
theorem pwZ_scale (g : Nat) (a b c : Int) : pwZ (g * a) (g * b) (g * c) = pwZ a b c ^ g := by
  unfold pwZ
  rw [toNat_mul, toNat_mul, toNat_mul, ipow_mul, ipow_mul, ipow_mul, ← imul_pow, ← imul_pow]
theorem sgn3_scale {g : Nat} (hg : g ≠ 0) (a b c : Int) : sgn3 (g * a) (g * b) (g * c) = sgn3 a b c := by
  unfold sgn3
  rw [← Int.mul_neg, ← Int.mul_neg, ← Int.mul_neg, pwZ_scale, pwZ_scale]
  exact cmpZ_pow (Int.le_of_lt (pwZ_pos _ _ _)) (Int.le_of_lt (pwZ_pos _ _ _)) hg
theorem sgn3_div {a b c : Int} {g : Nat} (hg : g ≠ 0) (ha : (g : Int) ∣ a) (hb : (g : Int) ∣ b) (hc : (g : Int) ∣ c) : sgn3 (Int.tdiv a g) (Int.tdiv b g) (Int.tdiv c g) = sgn3 a b c := by
  obtain ⟨x, rfl⟩ := ha
  obtain ⟨y, rfl⟩ := hb
  obtain ⟨z, rfl⟩ := hc
  have hg' : (g : Int) ≠ 0 := by omega
  rw [Int.mul_tdiv_cancel_left _ hg', Int.mul_tdiv_cancel_left _ hg', Int.mul_tdiv_cancel_left _ hg', sgn3_scale hg]

def nrF (A : Nat) : Nat → Nat → Nat
  | 0, k => k
  | f + 1, k => if 2 ^ (2 * k + 1) > A then k else nrF A f (k + 1)
def rounds : Nat := 400
theorem rounds_eq : rounds = 400 := rfl
def nr (t f : Nat) : Nat := nrF (3 ^ t * 5 ^ f) rounds 0
theorem nrF_spec (A : Nat) : ∀ (f k : Nat), (∀ j, j < k → 2 ^ (2 * j + 1) ≤ A) → A < 2 ^ (2 * (k + f) + 1) → (∀ j, j < nrF A f k → 2 ^ (2 * j + 1) ≤ A) ∧ A < 2 ^ (2 * nrF A f k + 1) ∧ nrF A f k ≤ k + f := by
  intro f
  induction f with
  | zero => intro k h1 h2; exact ⟨h1, h2, Nat.le_refl _⟩
  | succ f ih =>
    intro k h1 h2
    simp only [nrF]
    by_cases h : 2 ^ (2 * k + 1) > A
    · rw [if_pos h]; exact ⟨h1, h, by omega⟩
    · rw [if_neg h]
      have := ih (k + 1) (fun j hj => by
        rcases Nat.lt_or_ge j k with g | g
        · exact h1 j g
        · have : j = k := by omega
          subst this; omega) (by rw [show k + 1 + f = k + (f + 1) by omega]; exact h2)
      exact ⟨this.1, this.2.1, by omega⟩
theorem odd_A (t f : Nat) : (3 ^ t * 5 ^ f) % 2 = 1 := by
  have h3 : 3 ^ t % 2 = 1 := by rw [Nat.pow_mod]; simp
  have h5 : 5 ^ f % 2 = 1 := by rw [Nat.pow_mod]; simp
  rw [Nat.mul_mod, h3, h5]
theorem A_lt {t f m : Nat} (h : 2 * t + 3 * f < m) : 3 ^ t * 5 ^ f < 2 ^ m := by
  have h3 : 3 ^ t ≤ 2 ^ (2 * t) := by rw [Nat.pow_mul]; exact Nat.pow_le_pow_left (by decide) _
  have h5 : 5 ^ f ≤ 2 ^ (3 * f) := by rw [Nat.pow_mul]; exact Nat.pow_le_pow_left (by decide) _
  have h1 : 3 ^ t * 5 ^ f ≤ 2 ^ (2 * t) * 2 ^ (3 * f) := Nat.mul_le_mul h3 h5
  rw [← Nat.pow_add] at h1
  exact Nat.lt_of_le_of_lt h1 (Nat.pow_lt_pow_right (by decide) h)
theorem nr_spec {t f : Nat} (h : 2 * t + 3 * f ≤ 800) : (∀ j, j < nr t f → 2 ^ (2 * j + 1) < 3 ^ t * 5 ^ f) ∧ 3 ^ t * 5 ^ f < 2 ^ (2 * nr t f + 1) ∧ nr t f ≤ 400 := by
  obtain ⟨h1, h2, h3⟩ := nrF_spec (3 ^ t * 5 ^ f) rounds 0 (fun j hj => absurd hj (Nat.not_lt_zero j)) (A_lt (m := 2 * (0 + rounds) + 1) (by have := rounds_eq; omega))
  refine ⟨fun j hj => ?_, h2, by have := rounds_eq; unfold nr; omega⟩
  have h4 := h1 j hj
  have h5 := odd_A t f
  have h6 : 2 ^ (2 * j + 1) % 2 = 0 := by rw [Nat.pow_succ]; omega
  omega
theorem sgn3_half (k t f : Nat) : sgn3 (-(2 * (k : Int) + 1)) (t : Int) (f : Int) = cmpZ ((3 ^ t * 5 ^ f : Nat) : Int) ((2 ^ (2 * k + 1) : Nat) : Int) := by
  unfold sgn3 pwZ
  have e1 : (-(2 * (k : Int) + 1)).toNat = 0 := by omega
  have e2 : (-(-(2 * (k : Int) + 1))).toNat = 2 * k + 1 := by omega
  have e3 : (-(t : Int)).toNat = 0 := by omega
  have e4 : (-(f : Int)).toNat = 0 := by omega
  rw [e1, e2, e3, e4, Int.toNat_natCast, Int.toNat_natCast]
  simp
theorem sgn3_below {k t f : Nat} (h : 2 ^ (2 * k + 1) < 3 ^ t * 5 ^ f) : sgn3 (-(2 * (k : Int) + 1)) (t : Int) (f : Int) = 1 := by
  rw [sgn3_half]; exact cmpZ_gt (Int.ofNat_lt.2 h)
theorem sgn3_above {k t f : Nat} (h : 3 ^ t * 5 ^ f < 2 ^ (2 * k + 1)) : sgn3 (-(2 * (k : Int) + 1)) (t : Int) (f : Int) = -1 := by
  rw [sgn3_half]; exact cmpZ_lt (Int.ofNat_lt.2 h)
theorem sgn3_one (t f : Nat) : sgn3 1 (t : Int) (f : Int) = 1 := by
  unfold sgn3 pwZ
  have e1 : (-(1 : Int)).toNat = 0 := by omega
  have e3 : (-(t : Int)).toNat = 0 := by omega
  have e4 : (-(f : Int)).toNat = 0 := by omega
  rw [e1, e3, e4, Int.toNat_natCast, Int.toNat_natCast]
  apply cmpZ_gt
  have h3 : (0 : Int) < 3 ^ t := Int.pow_pos (by decide)
  have h5 : (0 : Int) < 5 ^ f := Int.pow_pos (by decide)
  have h := Int.mul_pos h3 h5
  have e : (2 : Int) ^ (1 : Int).toNat * 3 ^ t * 5 ^ f = 2 * (3 ^ t * 5 ^ f) := by rw [show (1 : Int).toNat = 1 from rfl, Int.pow_one 2, Int.mul_assoc]
  rw [e]
  simp only [Int.pow_zero, Int.mul_one]
  omega

theorem mx_zero' (a : Int) : mx a 0 = ((a.toNat : Nat) : Int) := by unfold mx; split <;> omega

def bestMap (n : Int) : Int × Int × Int := if 1 ≤ n ∧ n ≤ 60 then (n, ((nr (2 * n.toNat) 0 : Nat) : Int), ((nr 0 (2 * n.toNat) : Nat) : Int)) else (0, 0, 0)

theorem spec_gcd_l0 : ∀ (k y x : Nat), y < k → spec_l03Gcd.l0 k (x : Int) (y : Int) = some ((Nat.gcd x y : Nat) : Int) := by
  intro k
  induction k with
  | zero => intro y x h; omega
  | succ k ih =>
    intro y x h
    simp only [spec_l03Gcd.l0]
    rcases Nat.eq_zero_or_pos y with h0 | h0
    · subst h0
      rw [if_neg (by omega)]
      simp
    · rw [if_pos (by omega), if_neg (by omega)]
      have e : Int.tmod (x : Int) (y : Int) = ((x % y : Nat) : Int) := by
        rw [Int.tmod_eq_emod_of_nonneg (by omega)]; rfl
      rw [e, ih (x % y) y (by have := Nat.mod_lt x h0; omega)]
      rw [Nat.gcd_comm x y, Nat.gcd_rec y x, Nat.gcd_comm]
theorem mx_neg {a : Int} (h : -4611686018427387904 ≤ a ∧ a ≤ 4611686018427387904) : mx a (wrap64 (-a)) = ((a.natAbs : Nat) : Int) := by
  rw [wrap_id (by omega)]
  unfold mx
  split <;> omega
theorem spec_gcd {k : Nat} {a b : Int} (ha : -4611686018427387904 ≤ a ∧ a ≤ 4611686018427387904) (hb : -4611686018427387904 ≤ b ∧ b ≤ 4611686018427387904) (hk : b.natAbs < k) :
    spec_l03Gcd.f k a b = some ((Int.gcd a b : Nat) : Int) := by
  unfold spec_l03Gcd.f
  rw [mx_neg ha, mx_neg hb, spec_gcd_l0 k _ _ hk]
  rfl

theorem times_l1_run (b e j : Int) (hb : 1 ≤ b ∧ b ≤ 5) : ∀ (rest done : List Int) (c : Int) (k : Nat), Dig rest → 0 ≤ c ∧ c < b → done.length + rest.length ≤ 1000000 →
    spec_l04Times.l1 (k + rest.length) (done ++ rest) b e j c (done.length : Int) = spec_l04Times.l1 k (done ++ (mulL rest b c).1) b e j (mulL rest b c).2 ((done.length + rest.length : Nat) : Int) := by
  intro rest
  induction rest with
  | nil => intro done c k _ _ _; simp [mulL]
  | cons d rest ih =>
    intro done c k hd hc hl
    have hs := digit_step (hd d List.mem_cons_self) hb.1 hc
    have e0 : k + (d :: rest).length = (k + rest.length) + 1 := by simp; omega
    rw [e0]
    simp only [spec_l04Times.l1]
    simp only [List.length_cons] at hl
    rw [if_pos (by simp; omega), if_pos (by omega), rd_mid, wrap_id (x := d * b) (by omega), wrap_id (x := d * b + c) (by omega), Int.tmod_eq_emod_of_nonneg hs.1, Int.tdiv_eq_ediv_of_nonneg hs.1, wrap_id (x := (d * b + c) / 10000) (by omega), succ_wrap (by omega)]
    have e1 : (done ++ d :: rest).set ((done.length : Int)).toNat ((d * b + c) % 10000) = (done ++ [(d * b + c) % 10000]) ++ rest := by simp
    rw [e1]
    have h := ih (done ++ [(d * b + c) % 10000]) ((d * b + c) / 10000) k (fun x hx => hd x (List.mem_cons_of_mem _ hx)) hs.2.2 (by simp; omega)
    have e2 : ((done ++ [(d * b + c) % 10000]).length : Int) = ((done.length + 1 : Nat) : Int) := by simp
    rw [e2] at h
    rw [h]
    have e3 : (done ++ [(d * b + c) % 10000]) ++ (mulL rest b ((d * b + c) / 10000)).1 = done ++ (mulL (d :: rest) b c).1 := by simp [mulL]
    have e4 : (done ++ [(d * b + c) % 10000]).length + rest.length = done.length + (d :: rest).length := by simp; omega
    rw [e3, e4]
    rfl
def once (x : List Int) (b : Int) : List Int := if (mulL x b 0).2 > 0 then (mulL x b 0).1 ++ [(mulL x b 0).2] else (mulL x b 0).1
theorem once_spec {x : List Int} {b : Int} (hb : 1 ≤ b ∧ b ≤ 5) (hx : Norm x) (hv : 1 ≤ val x) : Norm (once x b) ∧ val (once x b) = val x * b ∧ (once x b).length ≤ x.length + 1 ∧ 1 ≤ val (once x b) := by
  have h1 := mulL_val x b 0
  have h2 := mulL_carry x hx.1 hb.1 (c := 0) (by omega)
  have h3 := mulL_len x b 0
  have h4 := mulL_dig x b 0
  have hxn : x ≠ [] := by intro e; subst e; simp [val] at hv
  have hxl : 1 ≤ x.length := by cases x with | nil => exact absurd rfl hxn | cons => simp
  have hge := val_ge hx hxn
  have hvb : val x * 1 ≤ val x * b := Int.mul_le_mul_of_nonneg_left hb.1 (by omega)
  unfold once
  by_cases hc : (mulL x b 0).2 > 0
  · rw [if_pos hc]
    have hval : val ((mulL x b 0).1 ++ [(mulL x b 0).2]) = val x * b := by rw [val_snoc, h3, h1]; omega
    refine ⟨norm_of_val (h4.append (Dig.one (by omega))) (fun _ => ?_), hval, by simp; omega, by omega⟩
    have e : ((mulL x b 0).1 ++ [(mulL x b 0).2]).length - 1 = (mulL x b 0).1.length := by simp
    rw [e, val_snoc]
    have := val_nn h4
    have h5 : (10000 : Int) ^ (mulL x b 0).1.length * 1 ≤ 10000 ^ (mulL x b 0).1.length * (mulL x b 0).2 := Int.mul_le_mul_of_nonneg_left (by omega) (Int.le_of_lt (pow10_pos _))
    omega
  · rw [if_neg hc]
    have hc0 : (mulL x b 0).2 = 0 := by omega
    rw [hc0] at h1
    have hval : val (mulL x b 0).1 = val x * b := by rw [Int.mul_zero] at h1; omega
    refine ⟨norm_of_val h4 (fun _ => ?_), hval, by omega, by omega⟩
    rw [h3, hval]; omega
theorem times_l0_run {b e : Int} (M : Nat) (hM : 1000003 ≤ M) (hb : 1 ≤ b ∧ b ≤ 5) (he : e ≤ 1000000) : ∀ (d : Nat) (j : Int) (x : List Int) (k : Nat), j + d = e → 0 ≤ j → Norm x → 1 ≤ val x → x.length + d ≤ 1000000 → d * M < k →
    ∃ out, spec_l04Times.l0 k x b e j = some out ∧ Norm out ∧ val out = val x * b ^ d ∧ out.length ≤ x.length + d ∧ 1 ≤ val out := by
  intro d
  induction d with
  | zero =>
    intro j x k hj h0 hx hv hl hk
    obtain ⟨k, rfl⟩ : ∃ q, k = q + 1 := ⟨k - 1, by omega⟩
    refine ⟨x, ?_, hx, by simp, by omega, hv⟩
    simp only [spec_l04Times.l0]
    rw [if_neg (by omega)]
  | succ d ih =>
    intro j x k hj h0 hx hv hl hk
    rw [Nat.succ_mul] at hk
    obtain ⟨k, rfl⟩ : ∃ q, k = ((q + 1) + x.length) + 1 := ⟨k - x.length - 2, by omega⟩
    have ho := once_spec hb hx hv
    have hr := times_l1_run b e j hb x [] 0 (k + 1) hx.1 (by omega) (by simp; omega)
    obtain ⟨out, h1, h2, h3, h4, h5⟩ := ih (j + 1) (once x b) k (by omega) (by omega) ho.1 ho.2.2.2 (by omega) (by omega)
    refine ⟨out, ?_, h2, ?_, by omega, h5⟩
    · simp only [spec_l04Times.l0]
      rw [if_pos (by omega)]
      have hr' : spec_l04Times.l1 (k + 1 + x.length) x b e j 0 0 = spec_l04Times.l1 (k + 1) (mulL x b 0).1 b e j (mulL x b 0).2 (x.length : Int) := by simpa using hr
      rw [hr']
      simp only [spec_l04Times.l1]
      have hlen := mulL_len x b 0
      rw [if_neg (by omega), wrap_id (x := j + 1) (by omega)]
      unfold once at h1
      by_cases hc : (mulL x b 0).2 > 0
      · rw [if_pos hc, if_pos (by omega)]; rw [if_pos hc] at h1; exact h1
      · rw [if_neg hc]; rw [if_neg hc] at h1; exact h1
    · rw [h3, ho.2.1, Int.pow_succ, Int.mul_assoc, Int.mul_comm b]
theorem spec_times {b : Int} {e : Nat} {x : List Int} {k : Nat} (hb : 1 ≤ b ∧ b ≤ 5) (hx : Norm x) (hv : 1 ≤ val x) (hl : x.length + e ≤ 1000000) (hk : 1000010000000 ≤ k) :
    ∃ out, spec_l04Times.f k x b (e : Int) = some out ∧ Norm out ∧ val out = val x * b ^ e ∧ out.length ≤ x.length + e ∧ 1 ≤ val out := by
  unfold spec_l04Times.f
  have hf : e * 1000003 < k := by
    have : e * 1000003 ≤ 1000000 * 1000003 := Nat.mul_le_mul_right _ (by omega)
    omega
  exact times_l0_run 1000003 (Nat.le_refl _) hb (by omega) e 0 x k (by omega) (by omega) hx hv hl hf
theorem spec_cmp_l0 : ∀ (n : Nat) (a b s : List Int) (k : Nat), a.length = n → b.length = n → Dig a → Dig b → n + s.length ≤ 1000000 → n < k →
    spec_l04Compare.l0 k (a ++ s) (b ++ s) ((n : Int) - 1) = some (cmpZ (val a) (val b)) := by
  intro n
  induction n with
  | zero =>
    intro a b s k ha hb _ _ _ hk
    obtain ⟨k, rfl⟩ : ∃ q, k = q + 1 := ⟨k - 1, by omega⟩
    simp only [spec_l04Compare.l0]
    rw [if_neg (by omega)]
    rw [List.eq_nil_of_length_eq_zero ha, List.eq_nil_of_length_eq_zero hb, cmpZ_self]
  | succ n ih =>
    intro a b s k ha hb da db hl hk
    obtain ⟨k, rfl⟩ : ∃ q, k = q + 1 := ⟨k - 1, by omega⟩
    obtain ⟨a, x, rfl⟩ := (List.eq_nil_or_concat a).resolve_left (by intro e; subst e; simp at ha)
    obtain ⟨b, y, rfl⟩ := (List.eq_nil_or_concat b).resolve_left (by intro e; subst e; simp at hb)
    simp only [List.concat_eq_append] at *
    have ha' : a.length = n := by simpa using ha
    have hb' : b.length = n := by simpa using hb
    have ei : ((n + 1 : Nat) : Int) - 1 = (n : Int) := by omega
    rw [ei]
    simp only [spec_l04Compare.l0]
    have ra : rd (a ++ [x] ++ s) (n : Int) = x := by have := rd_mid a s x; rw [ha'] at this; simpa using this
    have rb : rd (b ++ [y] ++ s) (n : Int) = y := by have := rd_mid b s y; rw [hb'] at this; simpa using this
    rw [if_pos (by omega), if_pos (by omega), if_pos (by simp; omega), if_pos (by simp; omega), ra, rb, cmp_snoc da.left db.left (by omega)]
    by_cases h : x = y
    · subst h
      rw [if_pos rfl, if_neg (by omega), if_neg (by omega), wrap_id (by omega)]
      have := ih a b (x :: s) k ha' hb' da.left db.left (by simp; omega) (by omega)
      simpa using this
    · rw [if_neg h]
      by_cases h2 : x < y
      · rw [if_pos h2, if_pos h2]
      · rw [if_neg h2, if_neg h2, if_pos (by omega)]
theorem spec_cmp {a b : List Int} {k : Nat} (ha : Norm a) (hb : Norm b) (hl : a.length ≤ 1000000) (hk : 1000010000000 ≤ k) : spec_l04Compare.f k a b = some (cmpZ (val a) (val b)) := by
  unfold spec_l04Compare.f
  by_cases h : a.length = b.length
  · rw [if_pos (by omega), wrap_id (by omega)]
    have := spec_cmp_l0 a.length a b [] k rfl h.symm ha.1 hb.1 (by simp; omega) (by omega)
    simpa using this
  · rw [if_neg (by omega)]
    by_cases h2 : a.length < b.length
    · rw [if_pos (by omega), cmpZ_lt (cmp_len ha hb h2)]
    · rw [if_neg (by omega), cmpZ_gt (cmp_len hb ha (by omega))]
theorem norm_one : Norm [1] := ⟨by intro d hd; simp at hd; omega, by simp⟩
theorem mx_zero (a : Int) : mx a 0 = ((a.toNat : Nat) : Int) := by unfold mx; split <;> omega
theorem spec_prod {a b c : Int} {k : Nat} (ha : a ≤ 100000) (hb : b ≤ 100000) (hc : c ≤ 100000) (hk : 1000010000000 ≤ k) {α : Type} (f : List Int → Option α) :
    ∃ out, ((spec_l04Times.f k ([1] : List Int) 2 (mx a 0)).bind fun t => ((spec_l04Times.f k t 3 (mx b 0)).bind fun t => ((spec_l04Times.f k t 5 (mx c 0)).bind f))) = f out ∧ Norm out ∧ val out = pwZ a b c ∧ out.length ≤ 1000000 := by
  obtain ⟨o1, e1, n1, v1, l1, p1⟩ := spec_times (b := 2) (e := a.toNat) (x := [1]) (k := k) (by omega) norm_one (by simp [val]) (by simp; omega) hk
  simp only [List.length_cons, List.length_nil] at l1
  obtain ⟨o2, e2, n2, v2, l2, p2⟩ := spec_times (b := 3) (e := b.toNat) (x := o1) (k := k) (by omega) n1 p1 (by omega) hk
  obtain ⟨o3, e3, n3, v3, l3, p3⟩ := spec_times (b := 5) (e := c.toNat) (x := o2) (k := k) (by omega) n2 p2 (by omega) hk
  refine ⟨o3, ?_, n3, ?_, by omega⟩
  · rw [mx_zero, e1, mx_zero, Option.bind_some, e2, mx_zero, Option.bind_some, e3, Option.bind_some]
  · rw [v3, v2, v1]; simp [val, pwZ]
theorem spec_sign_j0 {a b c : Int} {k : Nat} (ha : -100000 ≤ a ∧ a ≤ 100000) (hb : -100000 ≤ b ∧ b ≤ 100000) (hc : -100000 ≤ c ∧ c ≤ 100000) (hk : 1000010000001 ≤ k) : spec_l04Sign.j0 k a b c = some (sgn3 a b c) := by
  obtain ⟨k, rfl⟩ : ∃ q, k = q + 1 := ⟨k - 1, by omega⟩
  simp only [spec_l04Sign.j0]
  obtain ⟨u, eu, nu, vu, lu⟩ := spec_prod (a := a) (b := b) (c := c) (k := k) (by omega) (by omega) (by omega) (by omega) (fun t125 => ((spec_l04Times.f k (([1] : List Int)) 2 (mx (wrap64 (-a)) 0)).bind fun t131 => ((spec_l04Times.f k t131 3 (mx (wrap64 (-b)) 0)).bind fun t134 => ((spec_l04Times.f k t134 5 (mx (wrap64 (-c)) 0)).bind fun t137 => ((spec_l04Compare.f k t125 t137).bind fun t140 => (some t140))))))
  rw [eu, wrap_id (x := -a) (by omega), wrap_id (x := -b) (by omega), wrap_id (x := -c) (by omega)]
  obtain ⟨v, ev, nv, vv, lv⟩ := spec_prod (a := -a) (b := -b) (c := -c) (k := k) (by omega) (by omega) (by omega) (by omega) (fun t137 => ((spec_l04Compare.f k u t137).bind fun t140 => (some t140)))
  rw [ev, spec_cmp nu nv lu (by omega), vu, vv]
  rfl
theorem tdiv_nn_bound {a g : Int} {B : Int} (hg : 1 ≤ g) (h : -B ≤ a ∧ a ≤ B) : -B ≤ Int.tdiv a g ∧ Int.tdiv a g ≤ B := by
  have h1 : (Int.tdiv a g).natAbs ≤ a.natAbs := by rw [Int.natAbs_tdiv]; exact Nat.div_le_self _ _
  omega
theorem gcd_le_bound' {a b : Int} {B : Nat} (ha : a.natAbs ≤ B) (hb : b.natAbs ≤ B) : Int.gcd a b ≤ B := by
  unfold Int.gcd
  rcases Nat.eq_zero_or_pos b.natAbs with h | h
  · rw [h, Nat.gcd_zero_right]; exact ha
  · exact Nat.le_trans (Nat.le_of_dvd h (Nat.gcd_dvd_right _ _)) hb
theorem spec_sign {a b c : Int} {k : Nat} (ha : -100000 ≤ a ∧ a ≤ 100000) (hb : -100000 ≤ b ∧ b ≤ 100000) (hc : -100000 ≤ c ∧ c ≤ 100000) (hk : 1000010000001 ≤ k) : spec_l04Sign.f k a b c = some (sgn3 a b c) := by
  unfold spec_l04Sign.f
  have h1 := gcd_le_bound' (a := a) (b := b) (B := 100000) (by omega) (by omega)
  rw [spec_gcd (by omega) (by omega) (by omega)]
  simp only [Option.bind_some]
  rw [spec_gcd (by omega) (by omega) (by omega)]
  simp only [Option.bind_some]
  generalize hg : Int.gcd ((Int.gcd a b : Nat) : Int) c = g
  by_cases h : ((g : Nat) : Int) > 1
  · have b1 := tdiv_nn_bound (g := (g : Int)) (by omega) ha
    have b2 := tdiv_nn_bound (g := (g : Int)) (by omega) hb
    have b3 := tdiv_nn_bound (g := (g : Int)) (by omega) hc
    rw [if_pos h, if_neg (by omega), wrap_id (by omega), wrap_id (by omega), wrap_id (by omega), spec_sign_j0 b1 b2 b3 hk]
    have d0 : (g : Int) ∣ ((Int.gcd a b : Nat) : Int) := by rw [← hg]; exact Int.gcd_dvd_left _ _
    rw [sgn3_div (by omega) (Int.dvd_trans d0 (Int.gcd_dvd_left _ _)) (Int.dvd_trans d0 (Int.gcd_dvd_right _ _)) (by rw [← hg]; exact Int.gcd_dvd_right _ _)]
  · rw [if_neg h, spec_sign_j0 ha hb hc hk]

theorem spec_nearest_l1 {n a b : Int} {t f : Nat} (ht : 2 * n * a = (t : Int)) (hf : 2 * n * b = (f : Int)) (hn : 1 ≤ n ∧ n ≤ 60) (h : 2 * t + 3 * f ≤ 800) (K : Nat) (hK : 1000010000001 < K) : spec_l09Nearest.l1 K n a b ((nr t f : Nat) : Int) = some ((nr t f : Nat) : Int) := by
  obtain ⟨h1, h2, h3⟩ := nr_spec h
  obtain ⟨K, rfl⟩ : ∃ q, K = q + 1 := ⟨K - 1, by omega⟩
  simp only [spec_l09Nearest.l1]
  rw [wrap_id (x := 2 * ((nr t f : Nat) : Int)) (by omega), wrap_id (x := 2 * ((nr t f : Nat) : Int) - 1) (by omega), wrap_id (x := -(2 * ((nr t f : Nat) : Int) - 1)) (by omega), wrap_id (x := 2 * n) (by omega), ht, hf, wrap_id (x := (t : Int)) (by omega), wrap_id (x := (f : Int)) (by omega), spec_sign (by omega) (by omega) (by omega) (by omega)]
  have hs : sgn3 (-(2 * ((nr t f : Nat) : Int) - 1)) (t : Int) (f : Int) = 1 := by
    rcases Nat.eq_zero_or_pos (nr t f) with h0 | h0
    · rw [h0]
      exact sgn3_one t f
    · have := sgn3_below (h1 (nr t f - 1) (by omega))
      rw [show -(2 * ((nr t f : Nat) : Int) - 1) = -(2 * ((nr t f - 1 : Nat) : Int) + 1) by omega]
      exact this
  rw [hs, Option.bind_some, if_neg (by omega)]
theorem spec_nearest_l0 {n a b : Int} {t f : Nat} (ht : 2 * n * a = (t : Int)) (hf : 2 * n * b = (f : Int)) (hn : 1 ≤ n ∧ n ≤ 60) (h : 2 * t + 3 * f ≤ 800) : ∀ (d k K : Nat), k + d = nr t f → 1000010000003 + d < K → spec_l09Nearest.l0 K n a b (k : Int) = some ((nr t f : Nat) : Int) := by
  obtain ⟨h1, h2, h3⟩ := nr_spec h
  intro d
  induction d with
  | zero =>
    intro k K hk hK
    obtain ⟨K, rfl⟩ : ∃ q, K = q + 1 := ⟨K - 1, by omega⟩
    simp only [spec_l09Nearest.l0]
    rw [wrap_id (x := 2 * (k : Int)) (by omega), wrap_id (x := 2 * (k : Int) + 1) (by omega), wrap_id (x := -(2 * (k : Int) + 1)) (by omega), wrap_id (x := 2 * n) (by omega), ht, hf, wrap_id (x := (t : Int)) (by omega), wrap_id (x := (f : Int)) (by omega), spec_sign (by omega) (by omega) (by omega) (by omega)]
    have hk' : k = nr t f := by omega
    subst hk'
    rw [sgn3_above h2, Option.bind_some, if_neg (by omega)]
    exact spec_nearest_l1 ht hf hn h K (by omega)
  | succ d ih =>
    intro k K hk hK
    obtain ⟨K, rfl⟩ : ∃ q, K = q + 1 := ⟨K - 1, by omega⟩
    simp only [spec_l09Nearest.l0]
    rw [wrap_id (x := 2 * (k : Int)) (by omega), wrap_id (x := 2 * (k : Int) + 1) (by omega), wrap_id (x := -(2 * (k : Int) + 1)) (by omega), wrap_id (x := 2 * n) (by omega), ht, hf, wrap_id (x := (t : Int)) (by omega), wrap_id (x := (f : Int)) (by omega), spec_sign (by omega) (by omega) (by omega) (by omega)]
    rw [sgn3_below (h1 k (by omega)), Option.bind_some, if_pos (by omega), wrap_id (by omega)]
    exact ih (k + 1) K (by omega) (by omega)
theorem spec_nearest_eq {n a b : Int} {t f K : Nat} (ht : 2 * n * a = (t : Int)) (hf : 2 * n * b = (f : Int)) (hn : 1 ≤ n ∧ n ≤ 60) (h : 2 * t + 3 * f ≤ 800) (hK : 1000010001000 ≤ K) : spec_l09Nearest.f K n a b = some ((nr t f : Nat) : Int) := by
  unfold spec_l09Nearest.f
  have := (nr_spec h).2.2
  exact spec_nearest_l0 ht hf hn h (nr t f) 0 K (by omega) (by omega)

theorem spec_bestMap {K : Nat} (n : Int) (hK : 1000010001000 ≤ K) : spec_BestMap.f K n = some (bestMap n) := by
  unfold spec_BestMap.f bestMap
  rw [l01In_eq]
  simp only [Option.bind_some]
  by_cases h : 1 ≤ n ∧ n ≤ 60
  · rw [if_pos (by simpa using h), if_pos h]
    have h1 := spec_nearest_eq (n := n) (a := 1) (b := 0) (t := 2 * n.toNat) (f := 0) (K := K) (by omega) (by omega) h (by omega) hK
    have h2 := spec_nearest_eq (n := n) (a := 0) (b := 1) (t := 0) (f := 2 * n.toNat) (K := K) (by omega) (by omega) h (by omega) hK
    rw [h1, Option.bind_some, h2, Option.bind_some]
  · rw [if_neg (by simpa using h), if_neg h]

def mapOk (a b c : Int) : Bool := decide ((1 ≤ a ∧ a ≤ 60) ∧ (0 ≤ b ∧ b ≤ 200) ∧ (0 ≤ c ∧ c ≤ 200))
theorem impl_mapOk (a b c : Int) : impl_MapOk.f a b c = some (mapOk a b c) := by
  unfold impl_MapOk.f mapOk
  simp only [within_eq, Option.bind_some]
  by_cases h1 : 1 ≤ a ∧ a ≤ 60 <;> by_cases h2 : 0 ≤ b ∧ b ≤ 200 <;> simp [h1, h2]
theorem mapOk_bounds {a b c : Int} (h : mapOk a b c = true) : (1 ≤ a ∧ a ≤ 60) ∧ (0 ≤ b ∧ b ≤ 200) ∧ (0 ≤ c ∧ c ≤ 200) := of_decide_eq_true h

theorem nr_small : ∀ n : Fin 61, nr (2 * n.val) 0 ≤ 150 ∧ nr 0 (2 * n.val) ≤ 150 := by decide +kernel
theorem map_ok {l : List Int} {i : Int} {k : Nat} (h : Int) (hi : 0 ≤ i ∧ i ≤ (l.length : Int)) (hl : l.length ≤ 1048576) (hk : 1000010001000 ≤ k) : ∃ a b c i' h', spec_l09Map.f k l i h = some (a, b, c, i', h') ∧ mapOk a b c = true ∧ (0 ≤ i' ∧ i' ≤ (l.length : Int)) := by
  unfold spec_l09Map.f
  obtain ⟨x, i1, h1, e1, x0, x1, _, hi1⟩ := below_ok h 24 hi hl
  have x2 := x1 (by omega)
  rw [e1, Option.bind_some, wrap_id (x := 1 + x) (by omega), spec_bestMap _ hk, Option.bind_some]
  obtain ⟨n, hn⟩ : ∃ n : Nat, 1 + x = (n : Int) := ⟨(1 + x).toNat, by omega⟩
  rw [hn]
  unfold bestMap
  rw [if_pos (by omega), Int.toNat_natCast]
  have hs := nr_small ⟨n, by omega⟩
  simp only at hs
  generalize nr (2 * n) 0 = u at *
  generalize nr 0 (2 * n) = v at *
  obtain ⟨b, i2, h2, e2, hi2⟩ := once_ok h1 3 hi1 hl
  rw [e2, Option.bind_some]
  dsimp only
  by_cases hb : b = true
  · rw [if_pos hb]
    obtain ⟨y, i3, h3, e3, y0, y1, _, hi3⟩ := below_ok h2 3 hi2 hl
    have y2 := y1 (by omega)
    rw [e3, Option.bind_some]
    dsimp only
    rw [wrap_id (by omega)]
    exact ⟨_, _, _, _, _, rfl, decide_eq_true (by omega), hi3⟩
  · rw [if_neg hb]
    exact ⟨_, _, _, _, _, rfl, decide_eq_true (by omega), hi2⟩
theorem drawMaps_ok {l : List Int} {k : Nat} (hl : l.length ≤ 1048576) (hk : 1000010001000 ≤ k) : ∃ a b c x y z, spec_DrawMaps.f k l = some (a, b, c, x, y, z) ∧ mapOk a b c = true ∧ mapOk x y z = true := by
  unfold spec_DrawMaps.f
  obtain ⟨h, e0⟩ := new_ok (l := l) (k := k) hl (by omega)
  rw [e0, Option.bind_some]
  obtain ⟨a, b, c, i1, h1, e1, m1, hi1⟩ := map_ok (l := l) (i := 0) (k := k) h (by omega) hl hk
  rw [e1, Option.bind_some]
  obtain ⟨x, y, z, i2, h2, e2, m2, hi2⟩ := map_ok (k := k) h1 hi1 hl hk
  rw [e2, Option.bind_some]
  exact ⟨a, b, c, x, y, z, rfl, m1, m2⟩

theorem interval_ok {l : List Int} {i : Int} (h : Int) (hi : 0 ≤ i ∧ i ≤ (l.length : Int)) (hl : l.length ≤ 1048576) : ∃ a b c d i' h', spec_l03Interval.f l i h = some (a, b, c, d, i', h') ∧ (-12 ≤ a ∧ a ≤ 12) ∧ (-6 ≤ b ∧ b ≤ 6) ∧ (-3 ≤ c ∧ c ≤ 3) ∧ (0 ≤ i' ∧ i' ≤ (l.length : Int)) := by
  unfold spec_l03Interval.f
  obtain ⟨x, i1, h1, e1, x0, x1, _, hi1⟩ := below_ok h 25 hi hl
  obtain ⟨y, i2, h2, e2, y0, y1, _, hi2⟩ := below_ok h1 13 hi1 hl
  obtain ⟨z, i3, h3, e3, z0, z1, _, hi3⟩ := below_ok h2 7 hi2 hl
  obtain ⟨d, i4, h4, e4, hd, hi4⟩ := pick_ok h3 (c := [1, 1, 1, 2, 4, 12]) (by simp) hi3 hl
  have x2 := x1 (by omega)
  have y2 := y1 (by omega)
  have z2 := z1 (by omega)
  rw [e1, Option.bind_some, e2, Option.bind_some, e3, Option.bind_some, e4, Option.bind_some, wrap_id (by omega), wrap_id (by omega), wrap_id (by omega)]
  exact ⟨_, _, _, _, _, _, rfl, by omega, by omega, by omega, hi4⟩
theorem drawIntervals_ok {l : List Int} {k : Nat} (hl : l.length ≤ 1048576) (hk : 1048577 ≤ k) : ∃ a b c d x y z r p q s t, spec_DrawIntervals.f k l = some (a, b, c, d, x, y, z, r, p, q, s, t) ∧ ((-12 ≤ a ∧ a ≤ 12) ∧ (-6 ≤ b ∧ b ≤ 6) ∧ (-3 ≤ c ∧ c ≤ 3)) ∧ ((-12 ≤ x ∧ x ≤ 12) ∧ (-6 ≤ y ∧ y ≤ 6) ∧ (-3 ≤ z ∧ z ≤ 3)) := by
  unfold spec_DrawIntervals.f
  obtain ⟨h, e0⟩ := new_ok (l := l) (k := k) hl hk
  rw [e0, Option.bind_some]
  obtain ⟨a, b, c, d, i1, h1, e1, a1, b1, c1, hi1⟩ := interval_ok (l := l) (i := 0) h (by omega) hl
  rw [e1, Option.bind_some]
  obtain ⟨x, y, z, r, i2, h2, e2, a2, b2, c2, hi2⟩ := interval_ok h1 hi1 hl
  rw [e2, Option.bind_some]
  obtain ⟨p, q, s, t, i3, h3, e3, a3, b3, c3, hi3⟩ := interval_ok h2 hi2 hl
  rw [e3, Option.bind_some]
  exact ⟨a, b, c, d, x, y, z, r, p, q, s, t, rfl, ⟨a1, b1, c1⟩, ⟨a2, b2, c2⟩⟩

def iok (a b c d : Int) : Bool := decide ((1 ≤ d ∧ d ≤ 12) ∧ (-400 ≤ a ∧ a ≤ 400) ∧ (-400 ≤ b ∧ b ≤ 400) ∧ (-400 ≤ c ∧ c ≤ 400))
theorem impl_iok (a b c d : Int) : impl_IntervalOk.f a b c d = some (iok a b c d) := by
  unfold impl_IntervalOk.f iok
  simp only [within_eq, Option.bind_some]
  by_cases h1 : 1 ≤ d ∧ d ≤ 12 <;> by_cases h2 : -400 ≤ a ∧ a ≤ 400 <;> by_cases h3 : -400 ≤ b ∧ b ≤ 400 <;> simp [h1, h2, h3]
theorem iok_bounds {a b c d : Int} (h : iok a b c d = true) : (1 ≤ d ∧ d ≤ 12) ∧ (-400 ≤ a ∧ a ≤ 400) ∧ (-400 ≤ b ∧ b ≤ 400) ∧ (-400 ≤ c ∧ c ≤ 400) := of_decide_eq_true h
theorem iok_mk {a b c d : Int} (h : (1 ≤ d ∧ d ≤ 12) ∧ (-400 ≤ a ∧ a ≤ 400) ∧ (-400 ≤ b ∧ b ≤ 400) ∧ (-400 ≤ c ∧ c ≤ 400)) : iok a b c d = true := decide_eq_true h

theorem impl_gcd_l0 : ∀ (k : Nat) (y x : Int), y.natAbs < k → (-4611686018427387904 ≤ x ∧ x ≤ 4611686018427387904) → (-4611686018427387904 ≤ y ∧ y ≤ 4611686018427387904) → impl_divisor.l0 k x y = some ((Int.gcd x y : Nat) : Int) := by
  intro k
  induction k with
  | zero => intro y x h; omega
  | succ k ih =>
    intro y x h hx hy
    simp only [impl_divisor.l0]
    by_cases h0 : y = 0
    · subst h0
      rw [if_pos rfl]
      by_cases hn : x < 0
      · rw [if_pos hn, wrap_id (by omega)]
        simp; omega
      · rw [if_neg hn]
        simp; omega
    · rw [if_neg h0]
      have e : (Int.tmod x y).natAbs = x.natAbs % y.natAbs := Int.natAbs_tmod x y
      have hl : x.natAbs % y.natAbs < y.natAbs := Nat.mod_lt _ (by omega)
      rw [ih (Int.tmod x y) y (by omega) hy (by omega)]
      congr 2
      unfold Int.gcd
      rw [e]
      exact ((Nat.gcd_comm _ _).trans (Nat.gcd_rec y.natAbs x.natAbs).symm).trans (Nat.gcd_comm _ _)
theorem impl_gcd {k : Nat} {a b : Int} (ha : -4611686018427387904 ≤ a ∧ a ≤ 4611686018427387904) (hb : -4611686018427387904 ≤ b ∧ b ≤ 4611686018427387904) (hk : b.natAbs < k) :
    impl_divisor.f k a b = some ((Int.gcd a b : Nat) : Int) := impl_gcd_l0 k b a hk ha hb

def g4 (a b c d : Int) : Int := ((Int.gcd ((Int.gcd a b : Nat) : Int) ((Int.gcd c d : Nat) : Int) : Nat) : Int)
def simp4 (a b c d : Int) : Int × Int × Int × Int := (Int.tdiv a (g4 a b c d), Int.tdiv b (g4 a b c d), Int.tdiv c (g4 a b c d), Int.tdiv d (g4 a b c d))
theorem gcd_le_right {c d : Int} (h : 1 ≤ d) : Int.gcd c d ≤ d.natAbs := Nat.le_of_dvd (by omega) (Nat.gcd_dvd_right _ _)
theorem gcd_le_bound {a b : Int} {B : Nat} (ha : a.natAbs ≤ B) (hb : b.natAbs ≤ B) : Int.gcd a b ≤ B := by
  unfold Int.gcd
  rcases Nat.eq_zero_or_pos b.natAbs with h | h
  · rw [h, Nat.gcd_zero_right]; exact ha
  · exact Nat.le_trans (Nat.le_of_dvd h (Nat.gcd_dvd_right _ _)) hb
theorem g4_pos {a b c d : Int} (h : 1 ≤ d) : 1 ≤ g4 a b c d := by
  unfold g4
  have h1 : 0 < Int.gcd c d := Int.gcd_pos_of_ne_zero_right _ (by omega)
  have : 0 < Int.gcd ((Int.gcd a b : Nat) : Int) ((Int.gcd c d : Nat) : Int) := Int.gcd_pos_of_ne_zero_right _ (by omega)
  omega
theorem tdiv_bound {a g : Int} {B : Int} (hg : 1 ≤ g) (h : -B ≤ a ∧ a ≤ B) : -B ≤ Int.tdiv a g ∧ Int.tdiv a g ≤ B := by
  have h1 : (Int.tdiv a g).natAbs ≤ a.natAbs := by rw [Int.natAbs_tdiv]; exact Nat.div_le_self _ _
  omega
theorem impl_simple {k : Nat} {a b c d : Int} (ha : -1000000 ≤ a ∧ a ≤ 1000000) (hb : -1000000 ≤ b ∧ b ≤ 1000000) (hc : -1000000 ≤ c ∧ c ≤ 1000000) (hd : 1 ≤ d ∧ d ≤ 1000000) (hk : 1000000 < k) :
    impl_simplest.f k a b c d = some (simp4 a b c d) := by
  unfold impl_simplest.f
  have e1 := gcd_le_bound (a := a) (b := b) (B := 1000000) (by omega) (by omega)
  have e2 := gcd_le_bound (a := c) (b := d) (B := 1000000) (by omega) (by omega)
  have hg := g4_pos (a := a) (b := b) (c := c) hd.1
  rw [impl_gcd (by omega) (by omega) (by omega)]
  simp only [Option.bind_some]
  rw [impl_gcd (by omega) (by omega) (by omega)]
  simp only [Option.bind_some]
  rw [impl_gcd (by omega) (by omega) (by omega)]
  simp only [Option.bind_some]
  show (if g4 a b c d = 0 then none else some (wrap64 (Int.tdiv a (g4 a b c d)), wrap64 (Int.tdiv b (g4 a b c d)), wrap64 (Int.tdiv c (g4 a b c d)), wrap64 (Int.tdiv d (g4 a b c d)))) = _
  have b1 := tdiv_bound hg ha
  have b2 := tdiv_bound hg hb
  have b3 := tdiv_bound hg hc
  have b4 := tdiv_bound (B := 1000000) hg (show -1000000 ≤ d ∧ d ≤ 1000000 by omega)
  rw [if_neg (by omega), wrap_id (by omega), wrap_id (by omega), wrap_id (by omega), wrap_id (by omega)]
  rfl

def chk (a b c d : Int) : Int × Int × Int × Int × Bool := if iok (simp4 a b c d).1 (simp4 a b c d).2.1 (simp4 a b c d).2.2.1 (simp4 a b c d).2.2.2 = true then ((simp4 a b c d).1, (simp4 a b c d).2.1, (simp4 a b c d).2.2.1, (simp4 a b c d).2.2.2, true) else (0, 0, 0, 0, false)
theorem impl_checked {k : Nat} {a b c d : Int} (ha : -1000000 ≤ a ∧ a ≤ 1000000) (hb : -1000000 ≤ b ∧ b ≤ 1000000) (hc : -1000000 ≤ c ∧ c ≤ 1000000) (hd : 1 ≤ d ∧ d ≤ 1000000) (hk : 1000000 < k) :
    impl_okInterval.f k a b c d = some (chk a b c d) := by
  unfold impl_okInterval.f chk
  rw [impl_simple ha hb hc hd hk]
  simp only [Option.bind_some, impl_iok]
  split <;> rfl

theorem mulb {a x A X : Int} (ha : -A ≤ a ∧ a ≤ A) (hx : -X ≤ x ∧ x ≤ X) : -(A * X) ≤ a * x ∧ a * x ≤ A * X := by
  have hA : 0 ≤ A := by omega
  have hX : 0 ≤ X := by omega
  have h : (a * x).natAbs ≤ (A * X).natAbs := by
    rw [Int.natAbs_mul, Int.natAbs_mul]
    exact Nat.mul_le_mul (by omega) (by omega)
  have h2 : 0 ≤ A * X := Int.mul_nonneg hA hX
  omega

def addI (a b c d x y z r : Int) : Int × Int × Int × Int × Bool := if iok a b c d = true ∧ iok x y z r = true then chk (a * r + x * d) (b * r + y * d) (c * r + z * d) (d * r) else (0, 0, 0, 0, false)
theorem add_wrap {a d x r : Int} (ha : -400 ≤ a ∧ a ≤ 400) (hx : -400 ≤ x ∧ x ≤ 400) (hd : 1 ≤ d ∧ d ≤ 12) (hr : 1 ≤ r ∧ r ≤ 12) : wrap64 ((wrap64 (a * r)) + (wrap64 (x * d))) = a * r + x * d ∧ (-1000000 ≤ a * r + x * d ∧ a * r + x * d ≤ 1000000) := by
  have m1 := mulb (A := 400) (X := 12) (a := a) (x := r) (by omega) (by omega)
  have m2 := mulb (A := 400) (X := 12) (a := x) (x := d) (by omega) (by omega)
  rw [wrap_id (x := a * r) (by omega), wrap_id (x := x * d) (by omega), wrap_id (by omega)]
  exact ⟨rfl, by omega⟩
theorem root_wrap {d r : Int} (hd : 1 ≤ d ∧ d ≤ 12) (hr : 1 ≤ r ∧ r ≤ 12) : wrap64 (d * r) = d * r ∧ 1 ≤ d * r ∧ d * r ≤ 1000000 := by
  have m1 := mulb (A := 12) (X := 12) (a := d) (x := r) (by omega) (by omega)
  have : 0 < d * r := Int.mul_pos (by omega) (by omega)
  exact ⟨wrap_id (by omega), by omega, by omega⟩
theorem impl_addI {k : Nat} (a b c d x y z r : Int) (hk : 1000000 < k) : impl_AddIntervals.f k a b c d x y z r = some (addI a b c d x y z r) := by
  unfold impl_AddIntervals.f addI
  rw [impl_iok, impl_iok]
  simp only [Option.bind_some]
  by_cases h1 : iok a b c d = true
  · by_cases h2 : iok x y z r = true
    · obtain ⟨i1, i2, i3, i4⟩ := iok_bounds h1
      obtain ⟨j1, j2, j3, j4⟩ := iok_bounds h2
      rw [if_pos h1, if_pos h2, if_pos ⟨h1, h2⟩]
      obtain ⟨e1, b1⟩ := add_wrap i2 j2 i1 j1
      obtain ⟨e2, b2⟩ := add_wrap i3 j3 i1 j1
      obtain ⟨e3, b3⟩ := add_wrap i4 j4 i1 j1
      obtain ⟨e4, b4⟩ := root_wrap i1 j1
      rw [e1, e2, e3, e4, impl_checked b1 b2 b3 b4 hk]
      rfl
    · rw [if_pos h1, if_neg h2, if_neg (fun h => h2 h.2)]
  · rw [if_neg h1, if_neg (fun h => h1 h.1)]

def stepsIn (a b c x y z r : Int) : Int × Bool := if mapOk a b c = true ∧ iok x y z r = true ∧ r = 1 then (a * x + b * y + c * z, true) else (0, false)
theorem mul_bound {a x A X : Int} (ha : 0 ≤ a ∧ a ≤ A) (hx : -X ≤ x ∧ x ≤ X) : -(A * X) ≤ a * x ∧ a * x ≤ A * X := by
  have hA : 0 ≤ A := by omega
  have hX : 0 ≤ X := by omega
  constructor
  · have h1 : a * (-X) ≤ a * x := Int.mul_le_mul_of_nonneg_left hx.1 ha.1
    have h2 : a * X ≤ A * X := Int.mul_le_mul_of_nonneg_right ha.2 hX
    have h3 : a * (-X) = -(a * X) := by rw [Int.mul_neg]
    omega
  · have h1 : a * x ≤ a * X := Int.mul_le_mul_of_nonneg_left hx.2 ha.1
    have h2 : a * X ≤ A * X := Int.mul_le_mul_of_nonneg_right ha.2 hX
    omega
theorem steps_wrap {a b c x y z r : Int} (hm : mapOk a b c = true) (hi : iok x y z r = true) : wrap64 ((wrap64 ((wrap64 (a * x)) + (wrap64 (b * y)))) + (wrap64 (c * z))) = a * x + b * y + c * z := by
  obtain ⟨m1, m2, m3⟩ := mapOk_bounds hm
  obtain ⟨i1, i2, i3, i4⟩ := iok_bounds hi
  have p1 := mul_bound (a := a) (x := x) (A := 60) (X := 400) (by omega) (by omega)
  have p2 := mul_bound (a := b) (x := y) (A := 200) (X := 400) (by omega) (by omega)
  have p3 := mul_bound (a := c) (x := z) (A := 200) (X := 400) (by omega) (by omega)
  rw [wrap_id (x := a * x) (by omega), wrap_id (x := b * y) (by omega), wrap_id (x := c * z) (by omega), wrap_id (x := a * x + b * y) (by omega), wrap_id (by omega)]
theorem impl_stepsIn (a b c x y z r : Int) : impl_StepsIn.f a b c x y z r = some (stepsIn a b c x y z r) := by
  unfold impl_StepsIn.f stepsIn
  simp only [impl_mapOk, impl_iok, Option.bind_some]
  by_cases h1 : mapOk a b c = true
  · by_cases h2 : iok x y z r = true
    · rw [if_pos h1, if_pos h2, steps_wrap h1 h2]
      by_cases h3 : r = 1
      · rw [if_pos h3, if_pos ⟨h1, h2, h3⟩]
      · rw [if_neg h3, if_neg (fun h => h3 h.2.2)]
    · rw [if_pos h1, if_neg h2, if_neg (fun h => h2 h.2.1)]
  · rw [if_neg h1, if_neg (fun h => h1 h.1)]

def addMaps (a b c x y z : Int) : Int × Int × Int × Bool := if mapOk a b c = true ∧ mapOk x y z = true ∧ mapOk (a + x) (b + y) (c + z) = true then (a + x, b + y, c + z, true) else (0, 0, 0, false)
theorem impl_addMaps (a b c x y z : Int) : impl_AddMaps.f a b c x y z = some (addMaps a b c x y z) := by
  unfold impl_AddMaps.f addMaps
  simp only [impl_mapOk, Option.bind_some]
  by_cases h1 : mapOk a b c = true
  · by_cases h2 : mapOk x y z = true
    · obtain ⟨m1, m2, m3⟩ := mapOk_bounds h1
      obtain ⟨n1, n2, n3⟩ := mapOk_bounds h2
      rw [if_pos h1, if_pos h2, wrap_id (x := a + x) (by omega), wrap_id (x := b + y) (by omega), wrap_id (x := c + z) (by omega)]
      by_cases h3 : mapOk (a + x) (b + y) (c + z) = true
      · rw [if_pos h3, if_pos ⟨h1, h2, h3⟩]
      · rw [if_neg h3, if_neg (fun h => h3 h.2.2)]
    · rw [if_pos h1, if_neg h2, if_neg (fun h => h2 h.2.1)]
  · rw [if_neg h1, if_neg (fun h => h1 h.1)]

theorem simp4_one (a b c : Int) : simp4 a b c 1 = (a, b, c, 1) := by
  have hg : g4 a b c 1 = 1 := by
    unfold g4
    have h1 : Int.gcd c 1 = 1 := by simp
    rw [h1]; simp
  unfold simp4
  rw [hg]
  simp
theorem add_one {a b c x y z : Int} (h1 : (-12 ≤ a ∧ a ≤ 12) ∧ (-6 ≤ b ∧ b ≤ 6) ∧ (-3 ≤ c ∧ c ≤ 3)) (h2 : (-12 ≤ x ∧ x ≤ 12) ∧ (-6 ≤ y ∧ y ≤ 6) ∧ (-3 ≤ z ∧ z ≤ 3)) : addI a b c 1 x y z 1 = (a + x, b + y, c + z, 1, true) := by
  unfold addI
  rw [if_pos ⟨iok_mk (by omega), iok_mk (by omega)⟩]
  simp only [Int.mul_one]
  unfold chk
  rw [simp4_one]
  simp only
  rw [if_pos (iok_mk (by omega))]
theorem FnMaps : laws_FnMaps.Pure := by
  intro l hm hl hw
  refine ⟨1000010001000, ?_⟩
  unfold laws_FnMaps.f
  rw [big_eq, Option.bind_some]
  by_cases hb : 1048576 < l.length
  · rw [if_pos (decide_eq_true hb)]
  rw [if_neg (by simpa using hb)]
  obtain ⟨a, b, c, x, y, z, e1, m1, m2⟩ := drawMaps_ok (l := l) (k := 1000010001000) (by omega) (Nat.le_refl _)
  obtain ⟨p, q, s, d, u, v, w, r, p2, q2, s2, d2, e2, r1, r2⟩ := drawIntervals_ok (l := l) (k := 1000010001000) (by omega) (by omega)
  have o1 : iok p q s 1 = true := iok_mk (by omega)
  have o2 : iok u v w 1 = true := iok_mk (by omega)
  have o3 : iok (p + u) (q + v) (s + w) 1 = true := iok_mk (by omega)
  rw [e1, Option.bind_some, e2, Option.bind_some, impl_addI _ _ _ _ _ _ _ _ (by omega), Option.bind_some, add_one r1 r2]
  simp only [impl_stepsIn, impl_addMaps, Option.bind_some]
  have st : ∀ {A B C X Y Z : Int}, mapOk A B C = true → iok X Y Z 1 = true → stepsIn A B C X Y Z 1 = (A * X + B * Y + C * Z, true) := by
    intro A B C X Y Z h1 h2; unfold stepsIn; rw [if_pos ⟨h1, h2, rfl⟩]
  rw [st m1 o1, st m1 o2, st m1 o3]
  have hz : a * (p + u) + b * (q + v) + c * (s + w) = (a * p + b * q + c * s) + (a * u + b * v + c * w) := by
    simp only [Int.mul_add]; omega
  have bd : ∀ {A B C X Y Z : Int}, mapOk A B C = true → iok X Y Z 1 = true → -1000000 ≤ A * X + B * Y + C * Z ∧ A * X + B * Y + C * Z ≤ 1000000 := by
    intro A B C X Y Z h1 h2
    obtain ⟨m1, m2, m3⟩ := mapOk_bounds h1
    obtain ⟨i1, i2, i3, i4⟩ := iok_bounds h2
    have p1 := mul_bound (a := A) (x := X) (A := 60) (X := 400) (by omega) (by omega)
    have p2 := mul_bound (a := B) (x := Y) (A := 200) (X := 400) (by omega) (by omega)
    have p3 := mul_bound (a := C) (x := Z) (A := 200) (X := 400) (by omega) (by omega)
    omega
  have b1 := bd m1 o1
  have b2 := bd m1 o2
  have b3 := bd m2 o1
  rw [wrap_id (x := a * p + b * q + c * s + (a * u + b * v + c * w)) (by omega), hz]
  simp only [if_true]
  by_cases h5 : mapOk (a + x) (b + y) (c + z) = true
  · have eA : addMaps a b c x y z = (a + x, b + y, c + z, true) := by unfold addMaps; rw [if_pos ⟨m1, m2, h5⟩]
    have hz2 : (a + x) * p + (b + y) * q + (c + z) * s = (a * p + b * q + c * s) + (x * p + y * q + z * s) := by
      simp only [Int.add_mul]; omega
    rw [eA, st m2 o1]
    dsimp only
    rw [st h5 o1]
    dsimp only
    rw [wrap_id (by omega), hz2]
    simp
  · have eA : addMaps a b c x y z = (0, 0, 0, false) := by unfold addMaps; rw [if_neg (fun h => h5 h.2.2)]
    rw [eA]
    simp

end Go.Proofs.Ytoljbcjpilcfiaa.Pure
