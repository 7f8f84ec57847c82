/- The law FnShared over numbers and lists alone: what two divisions hide is hidden by their sum too. Conditions: none. -/
import Derived.Test.YtoljbcjpilcfiaaQFnSharedx9
import Derived.Test.YtoljbcjpilcfiaaVFnShareda
import Derived.OpenShut
namespace Go.Proofs.Ytoljbcjpilcfiaa.Pure
open Go.RowKit Go.Proofs.Ytoljbcjpilcfiaa.PFnShared Go.Proofs.YtoljbcjpilcfiaaW.PrintWords Go.Proofs.YtoljbcjpilcfiaaW.PrintLast Go.Proofs.YtoljbcjpilcfiaaW.PrintMore
set_option linter.unusedVariables false
set_option linter.unusedSimpArgs false

theorem wrap_id {x : Int} (h : -4611686018427387904 ≤ x ∧ x ≤ 4611686018427387904) : wrap64 x = x := by
  unfold wrap64; omega

theorem rd_mid (pre rest : List Int) (p : Int) : rd (pre ++ p :: rest) ((pre.length : Nat) : Int) = p := by
  unfold rd
  simp [List.getD]
theorem rd_getD (l : List Int) (i : Nat) : rd l (i : Int) = l.getD i 0 := by unfold rd; simp
theorem succ_wrap {n : Nat} (h : n ≤ 1099511627776) : wrap64 ((n : Int) + 1) = ((n + 1 : Nat) : Int) := by
  rw [wrap_id (by omega)]; omega
theorem split_at {α : Type} (l : List α) (i : Nat) (h : i ≤ l.length) : ∃ pre rest, l = pre ++ rest ∧ pre.length = i := ⟨l.take i, l.drop i, (List.take_append_drop i l).symm, by simp; omega⟩

theorem u8_range {x : Int} (h : (Lit.int .u8 x).wf = true) : 0 ≤ x ∧ x ≤ 255 := bounds_u8 h
theorem big_eq (l : List Int) : laws_big.f l = some (decide (1048576 < l.length)) := by
  unfold laws_big.f
  congr 1
  rw [decide_eq_decide]; omega

theorem wraps_i64_8 (n : Int) (h0 : 0 ≤ n) (h1 : n < 2 ^ 8) : IntKind.i64.wrap n = n := by
  rw [show (2 : Int) ^ 8 = 256 from rfl] at h1
  rw [IntKind.wrap_i64]; omega
theorem and_byte (x : Int) : 0 ≤ Go.bits .and .i64 x 255 ∧ Go.bits .and .i64 x 255 ≤ 255 := by
  have h : Go.bits .and .i64 x 255 = IntKind.i64.wrap (((BitVec.ofInt 64 x &&& BitVec.ofInt 64 255).toNat : Nat) : Int) := rfl
  rw [h, BitVec.toNat_and]
  have h2 : (BitVec.ofInt 64 x).toNat &&& (BitVec.ofInt 64 255).toNat ≤ 255 := Nat.le_trans Nat.and_le_right (by decide)
  generalize (BitVec.ofInt 64 x).toNat &&& (BitVec.ofInt 64 255).toNat = n at *
  rw [IntKind.wrap_i64]; omega
def Bytes (l : List Int) : Prop := ∀ x ∈ l, 0 ≤ x ∧ x ≤ 255
theorem byte_ok {l : List Int} {i : Int} (h : Int) (hi : 0 ≤ i ∧ i ≤ (l.length : Int)) (hl : l.length ≤ 1048576) : ∃ x i' h', spec_l01Byte.f l i h = some (x, i', h') ∧ (0 ≤ x ∧ x ≤ 255) ∧ (0 ≤ i' ∧ i' ≤ (l.length : Int)) := by
  unfold spec_l01Byte.f
  by_cases hc : i < (l.length : Int)
  · rw [if_pos hc, if_pos hi.1]
    exact ⟨_, _, _, rfl, and_byte _, by rw [wrap_id (by omega)]; omega⟩
  · rw [if_neg hc]
    exact ⟨_, _, _, rfl, and_byte _, hi⟩
theorem below_ok {l : List Int} {i : Int} (h n : Int) (hi : 0 ≤ i ∧ i ≤ (l.length : Int)) (hl : l.length ≤ 1048576) : ∃ x i' h', spec_l01Below.f l i h n = some (x, i', h') ∧ (0 ≤ x) ∧ (0 < n → x < n) ∧ (n ≤ 0 → x = 0) ∧ (0 ≤ i' ∧ i' ≤ (l.length : Int)) := by
  unfold spec_l01Below.f
  by_cases h0 : n ≤ 0
  · rw [if_pos h0]; exact ⟨0, i, h, rfl, by omega, by omega, fun _ => rfl, hi⟩
  rw [if_neg h0]
  by_cases h1 : n ≤ 256
  · rw [if_pos h1]
    obtain ⟨x, i', h', e, hx, hi'⟩ := byte_ok h hi hl
    rw [e, Option.bind_some, if_neg (by omega)]
    refine ⟨_, _, _, rfl, ?_, fun _ => ?_, fun hn => by omega, hi'⟩
    · rw [Int.tmod_eq_emod_of_nonneg hx.1]; exact Int.emod_nonneg _ (by omega)
    · rw [Int.tmod_eq_emod_of_nonneg hx.1]; exact Int.emod_lt_of_pos _ (by omega)
  · rw [if_neg h1]
    obtain ⟨x1, i1, h1', e1, hx1, hi1⟩ := byte_ok h hi hl
    obtain ⟨x2, i2, h2', e2, hx2, hi2⟩ := byte_ok h1' hi1 hl
    obtain ⟨x3, i3, h3', e3, hx3, hi3⟩ := byte_ok h2' hi2 hl
    obtain ⟨x4, i4, h4', e4, hx4, hi4⟩ := byte_ok h3' hi3 hl
    rw [e1, Option.bind_some, e2, Option.bind_some, e3, Option.bind_some, e4, Option.bind_some, if_neg (by omega)]
    refine ⟨_, _, _, rfl, ?_, fun _ => ?_, fun hn => by omega, hi4⟩
    all_goals simp only [wrap_id (x := x1 * 16777216) (by omega), wrap_id (x := x2 * 65536) (by omega), wrap_id (x := x3 * 256) (by omega), wrap_id (x := x1 * 16777216 + x2 * 65536) (by omega), wrap_id (x := x1 * 16777216 + x2 * 65536 + x3 * 256) (by omega), wrap_id (x := x1 * 16777216 + x2 * 65536 + x3 * 256 + x4) (by omega)]
    · rw [Int.tmod_eq_emod_of_nonneg (by omega)]; exact Int.emod_nonneg _ (by omega)
    · rw [Int.tmod_eq_emod_of_nonneg (by omega)]; exact Int.emod_lt_of_pos _ (by omega)
theorem once_ok {l : List Int} {i : Int} (h n : Int) (hi : 0 ≤ i ∧ i ≤ (l.length : Int)) (hl : l.length ≤ 1048576) : ∃ b i' h', spec_l01Once.f l i h n = some (b, i', h') ∧ (0 ≤ i' ∧ i' ≤ (l.length : Int)) := by
  unfold spec_l01Once.f
  obtain ⟨x, i', h', e, _, _, _, hi'⟩ := below_ok h n hi hl
  rw [e, Option.bind_some]
  exact ⟨_, _, _, rfl, hi'⟩
theorem new_l0 {l : List Int} (hl : l.length ≤ 1048576) : ∀ (d i k : Nat) (h : Int), i + d = l.length → d < k → ∃ h', spec_l01New.l0 k l h (i : Int) = some (l, 0, h') := by
  intro d
  induction d with
  | zero =>
    intro i k h hi hk
    obtain ⟨k, rfl⟩ : ∃ q, k = q + 1 := ⟨k - 1, by omega⟩
    simp only [spec_l01New.l0]
    rw [if_neg (by omega)]
    exact ⟨_, rfl⟩
  | succ d ih =>
    intro i k h hi hk
    obtain ⟨k, rfl⟩ : ∃ q, k = q + 1 := ⟨k - 1, by omega⟩
    simp only [spec_l01New.l0]
    rw [if_pos (by omega)]
    by_cases h4 : (i : Int) < 4000
    · rw [if_pos h4, if_pos (by omega), succ_wrap (by omega)]
      exact ih (i + 1) k _ (by omega) (by omega)
    · rw [if_neg h4]; exact ⟨_, rfl⟩
theorem new_ok {l : List Int} {k : Nat} (hl : l.length ≤ 1048576) (hk : 1048577 ≤ k) : ∃ h, spec_l01New.f k l = some (l, 0, h) := by
  unfold spec_l01New.f
  exact new_l0 hl l.length 0 k _ (by omega) (by omega)

theorem l01In_eq (a b c : Int) : spec_l01In.f a b c = some (decide (b ≤ a ∧ a ≤ c)) := by
  unfold spec_l01In.f
  by_cases h : b ≤ a <;> simp [h]
theorem within_eq (a b c : Int) : impl_within.f a b c = some (decide (b ≤ a ∧ a ≤ c)) := by
  unfold impl_within.f
  by_cases h : b ≤ a <;> simp [h]

def val : List Int → Int
  | [] => 0
  | d :: ds => d + 10000 * val ds
def Dig (l : List Int) : Prop := ∀ d ∈ l, 0 ≤ d ∧ d < 10000
def Norm (l : List Int) : Prop := Dig l ∧ l.getLast? ≠ some 0
def cmpZ (m n : Int) : Int := if m < n then -1 else if n < m then 1 else 0
theorem val_append (a b : List Int) : val (a ++ b) = val a + 10000 ^ a.length * val b := by
  induction a with
  | nil => simp [val]
  | cons x a ih =>
    simp only [List.cons_append, val, ih, List.length_cons, Int.pow_succ]
    rw [Int.mul_add, ← Int.add_assoc, Int.mul_comm (10000 ^ a.length) 10000, Int.mul_assoc]
theorem val_snoc (a : List Int) (x : Int) : val (a ++ [x]) = val a + 10000 ^ a.length * x := by
  rw [val_append]; simp [val]
theorem Dig.append {a b : List Int} (ha : Dig a) (hb : Dig b) : Dig (a ++ b) := by
  intro d hd
  rcases List.mem_append.1 hd with h | h
  · exact ha d h
  · exact hb d h
theorem Dig.left {a b : List Int} (h : Dig (a ++ b)) : Dig a := fun d hd => h d (List.mem_append.2 (.inl hd))
theorem Dig.right {a b : List Int} (h : Dig (a ++ b)) : Dig b := fun d hd => h d (List.mem_append.2 (.inr hd))
theorem Dig.one {x : Int} (h : 0 ≤ x ∧ x < 10000) : Dig [x] := by
  intro d hd
  simp at hd; subst hd; exact h
theorem pow10_pos (n : Nat) : (0 : Int) < 10000 ^ n := Int.pow_pos (by decide)
theorem val_nn {a : List Int} (h : Dig a) : 0 ≤ val a := by
  induction a with
  | nil => simp [val]
  | cons x a ih =>
    have h1 := ih (fun d hd => h d (List.mem_cons_of_mem _ hd))
    have h2 := h x List.mem_cons_self
    simp only [val]; omega
theorem val_lt {a : List Int} (h : Dig a) : val a < 10000 ^ a.length := by
  induction a with
  | nil => simp [val]
  | cons x a ih =>
    have h1 := ih (fun d hd => h d (List.mem_cons_of_mem _ hd))
    have h2 := h x List.mem_cons_self
    simp only [val, List.length_cons, Int.pow_succ]
    omega
theorem val_ge {a : List Int} (h : Norm a) (hn : a ≠ []) : 10000 ^ (a.length - 1) ≤ val a := by
  obtain ⟨b, x, rfl⟩ := (List.eq_nil_or_concat a).resolve_left hn
  simp only [List.concat_eq_append] at h hn ⊢
  rw [val_snoc]
  have hx : x ≠ 0 := by have := h.2; simpa using this
  have hx2 := h.1 x (by simp)
  have h3 : (10000 : Int) ^ b.length * 1 ≤ 10000 ^ b.length * x := Int.mul_le_mul_of_nonneg_left (by omega) (Int.le_of_lt (pow10_pos _))
  have h4 := val_nn h.1.left
  have e : (b ++ [x]).length - 1 = b.length := by simp
  rw [e]; omega
theorem norm_of_val {a : List Int} (h : Dig a) (hv : a ≠ [] → 10000 ^ (a.length - 1) ≤ val a) : Norm a := by
  refine ⟨h, ?_⟩
  rcases List.eq_nil_or_concat a with rfl | ⟨b, x, rfl⟩
  · simp
  · simp only [List.concat_eq_append] at h hv ⊢
    have h1 := hv (by simp)
    have e : (b ++ [x]).length - 1 = b.length := by simp
    rw [e, val_snoc] at h1
    have h2 := val_lt h.left
    intro hx
    have : x = 0 := by simpa using hx
    subst this
    omega
theorem cmpZ_cases (m n : Int) : (cmpZ m n = -1 ∧ m < n) ∨ (cmpZ m n = 0 ∧ m = n) ∨ (cmpZ m n = 1 ∧ n < m) := by
  unfold cmpZ
  rcases Int.lt_trichotomy m n with h | h | h
  · left; rw [if_pos h]; exact ⟨rfl, h⟩
  · right; left; rw [if_neg (by omega), if_neg (by omega)]; exact ⟨rfl, h⟩
  · right; right; rw [if_neg (by omega), if_pos h]; exact ⟨rfl, h⟩
theorem cmpZ_lt {m n : Int} (h : m < n) : cmpZ m n = -1 := by unfold cmpZ; rw [if_pos h]
theorem cmpZ_gt {m n : Int} (h : n < m) : cmpZ m n = 1 := by unfold cmpZ; rw [if_neg (by omega), if_pos h]
theorem cmpZ_self (m : Int) : cmpZ m m = 0 := by unfold cmpZ; rw [if_neg (by omega), if_neg (by omega)]
theorem cmp_snoc {a b : List Int} {x y : Int} (ha : Dig a) (hb : Dig b) (hl : a.length = b.length) :
    cmpZ (val (a ++ [x])) (val (b ++ [y])) = if x < y then -1 else if x > y then 1 else cmpZ (val a) (val b) := by
  rw [val_snoc, val_snoc, hl]
  have h1 := val_lt ha
  have h2 := val_lt hb
  have h3 := val_nn ha
  have h4 := val_nn hb
  have hP := pow10_pos b.length
  rw [hl] at h1
  generalize (10000 : Int) ^ b.length = P at *
  rcases Int.lt_trichotomy x y with h | h | h
  · have h5 : P * (x + 1) ≤ P * y := Int.mul_le_mul_of_nonneg_left (by omega) (by omega)
    rw [Int.mul_add] at h5
    rw [if_pos h]; exact cmpZ_lt (by omega)
  · subst h
    rw [if_neg (by omega), if_neg (by omega)]
    rcases cmpZ_cases (val a) (val b) with ⟨g, g'⟩ | ⟨g, g'⟩ | ⟨g, g'⟩
    · rw [g]; exact cmpZ_lt (by omega)
    · rw [g, g']; exact cmpZ_self _
    · rw [g]; exact cmpZ_gt (by omega)
  · have h5 : P * (y + 1) ≤ P * x := Int.mul_le_mul_of_nonneg_left (by omega) (by omega)
    rw [Int.mul_add] at h5
    rw [if_neg (by omega), if_pos h]; exact cmpZ_gt (by omega)
theorem ipow_le {b m n : Nat} (hb : 0 < b) (h : m ≤ n) : (b : Int) ^ m ≤ (b : Int) ^ n := by
  rw [← Int.natCast_pow, ← Int.natCast_pow]; exact Int.ofNat_le.2 (Nat.pow_le_pow_right hb h)
theorem ipow_base {a b n : Nat} (h : a ≤ b) : (a : Int) ^ n ≤ (b : Int) ^ n := by
  rw [← Int.natCast_pow, ← Int.natCast_pow]; exact Int.ofNat_le.2 (Nat.pow_le_pow_left h n)
theorem ipow_inv {b m n : Nat} (hb : 1 < b) (h : (b : Int) ^ m ≤ (b : Int) ^ n) : m ≤ n := by
  rw [← Int.natCast_pow, ← Int.natCast_pow] at h; exact (Nat.pow_le_pow_iff_right hb).1 (Int.ofNat_le.1 h)
theorem cmp_len {a b : List Int} (ha : Norm a) (hb : Norm b) (hl : a.length < b.length) : val a < val b := by
  have h1 := val_lt ha.1
  have h2 := val_ge hb (by intro e; subst e; simp at hl)
  have h3 : (10000 : Int) ^ a.length ≤ 10000 ^ (b.length - 1) := ipow_le (b := 10000) (by decide) (by omega)
  omega
theorem len_le_of_val {a : List Int} {n : Nat} (h : Norm a) (hv : val a ≤ 2 ^ n) : a.length ≤ n + 1 := by
  rcases Nat.eq_zero_or_pos a.length with h0 | h0
  · omega
  have h2 := val_ge h (by intro e; subst e; simp at h0)
  have h3 : (2 : Int) ^ (a.length - 1) ≤ 10000 ^ (a.length - 1) := ipow_base (a := 2) (b := 10000) (by decide)
  have h4 : (2 : Int) ^ (a.length - 1) ≤ 2 ^ n := by omega
  have := ipow_inv (b := 2) (by decide) h4
  omega
def mulL : List Int → Int → Int → List Int × Int
  | [], _, c => ([], c)
  | d :: ds, b, c => (((d * b + c) % 10000) :: (mulL ds b ((d * b + c) / 10000)).1, (mulL ds b ((d * b + c) / 10000)).2)
theorem mulL_len (ds : List Int) (b c : Int) : (mulL ds b c).1.length = ds.length := by
  induction ds generalizing c with
  | nil => rfl
  | cons d ds ih => simp only [mulL, List.length_cons, ih]
theorem mulL_dig (ds : List Int) (b c : Int) : Dig (mulL ds b c).1 := by
  induction ds generalizing c with
  | nil => intro d hd; simp [mulL] at hd
  | cons d ds ih =>
    intro x hx
    simp only [mulL, List.mem_cons] at hx
    rcases hx with rfl | hx
    · omega
    · exact ih _ x hx
theorem mulL_val (ds : List Int) (b c : Int) : val (mulL ds b c).1 + 10000 ^ ds.length * (mulL ds b c).2 = val ds * b + c := by
  induction ds generalizing c with
  | nil => simp [mulL, val]
  | cons d ds ih =>
    simp only [mulL, val, List.length_cons]
    have h := ih ((d * b + c) / 10000)
    have e := Int.mul_ediv_add_emod (d * b + c) 10000
    rw [Int.pow_succ, Int.add_mul, Int.mul_assoc 10000]
    have e2 : (10000 : Int) ^ ds.length * 10000 * (mulL ds b ((d * b + c) / 10000)).2 = 10000 * (10000 ^ ds.length * (mulL ds b ((d * b + c) / 10000)).2) := by
      rw [Int.mul_comm ((10000 : Int) ^ ds.length) 10000, Int.mul_assoc]
    rw [e2]
    generalize val (mulL ds b ((d * b + c) / 10000)).1 = V at *
    generalize (10000 : Int) ^ ds.length * (mulL ds b ((d * b + c) / 10000)).2 = C at *
    generalize val ds * b = X at *
    generalize d * b = Y at *
    omega
theorem digit_step {d b c : Int} (hd : 0 ≤ d ∧ d < 10000) (hb : 1 ≤ b) (hc : 0 ≤ c ∧ c < b) : 0 ≤ d * b + c ∧ d * b + c < 10000 * b ∧ (0 ≤ (d * b + c) / 10000 ∧ (d * b + c) / 10000 < b) := by
  have h1 : 0 ≤ d * b := Int.mul_nonneg hd.1 (by omega)
  have h2 : d * b ≤ 9999 * b := Int.mul_le_mul_of_nonneg_right (by omega) (by omega)
  omega
theorem mulL_carry (ds : List Int) {b c : Int} (hd : Dig ds) (hb : 1 ≤ b) (hc : 0 ≤ c ∧ c < b) : 0 ≤ (mulL ds b c).2 ∧ (mulL ds b c).2 < b := by
  induction ds generalizing c with
  | nil => exact hc
  | cons d ds ih =>
    have h := digit_step (hd d List.mem_cons_self) hb hc
    exact ih (fun x hx => hd x (List.mem_cons_of_mem _ hx)) h.2.2

def pwZ (a b c : Int) : Int := 2 ^ a.toNat * 3 ^ b.toNat * 5 ^ c.toNat
def sgn3 (a b c : Int) : Int := cmpZ (pwZ a b c) (pwZ (-a) (-b) (-c))
theorem pwZ_pos (a b c : Int) : 0 < pwZ a b c := Int.mul_pos (Int.mul_pos (Int.pow_pos (by decide)) (Int.pow_pos (by decide))) (Int.pow_pos (by decide))
theorem cmpZ_swap (m n : Int) : cmpZ n m = - cmpZ m n := by
  rcases cmpZ_cases m n with ⟨h, h'⟩ | ⟨h, h'⟩ | ⟨h, h'⟩ <;> rcases cmpZ_cases n m with ⟨g, g'⟩ | ⟨g, g'⟩ | ⟨g, g'⟩ <;> rw [h, g] <;> first | rfl | omega
theorem sgn3_neg (a b c : Int) : sgn3 (-a) (-b) (-c) = - sgn3 a b c := by
  unfold sgn3; rw [Int.neg_neg, Int.neg_neg, Int.neg_neg]; exact cmpZ_swap _ _
theorem ipow_lt {m n : Int} (hm : 0 ≤ m) (h : m < n) : ∀ {g : Nat}, g ≠ 0 → m ^ g < n ^ g := by
  intro g hg
  obtain ⟨u, rfl⟩ := Int.eq_ofNat_of_zero_le hm
  obtain ⟨v, rfl⟩ := Int.eq_ofNat_of_zero_le (show 0 ≤ n by omega)
  have : u ^ g < v ^ g := Nat.pow_lt_pow_left (by omega) hg
  rw [← Int.natCast_pow, ← Int.natCast_pow]; exact Int.ofNat_lt.2 this
theorem cmpZ_pow {m n : Int} (hm : 0 ≤ m) (hn : 0 ≤ n) {g : Nat} (hg : g ≠ 0) : cmpZ (m ^ g) (n ^ g) = cmpZ m n := by
  rcases cmpZ_cases m n with ⟨h, h'⟩ | ⟨h, h'⟩ | ⟨h, h'⟩
  · rw [h]; exact cmpZ_lt (ipow_lt hm h' hg)
  · rw [h, h']; exact cmpZ_self _
  · rw [h]; exact cmpZ_gt (ipow_lt hn h' hg)
theorem ipow_mul (x : Int) (m n : Nat) : x ^ (m * n) = (x ^ m) ^ n := Int.pow_mul ..
theorem imul_pow (x y : Int) (n : Nat) : (x * y) ^ n = x ^ n * y ^ n := Int.mul_pow ..
theorem toNat_mul {g : Nat} (a : Int) : ((g : Int) * a).toNat = a.toNat * g := by
  rcases Int.le_total 0 a with h | h
  · obtain ⟨u, rfl⟩ := Int.eq_ofNat_of_zero_le h
    rw [← Int.natCast_mul, Int.toNat_natCast, Int.toNat_natCast, Nat.mul_comm]
  · have h1 : (g : Int) * a ≤ 0 := Int.mul_nonpos_of_nonneg_of_nonpos (by omega) h
    rw [Int.toNat_of_nonpos h1, Int.toNat_of_nonpos h, Nat.zero_mul]
theorem pwZ_scale (g : Nat) (a b c : Int) : pwZ (g * a) (g * b) (g * c) = pwZ a b c ^ g := by
  unfold pwZ
  rw [toNat_mul, toNat_mul, toNat_mul, ipow_mul, ipow_mul, ipow_mul, ← imul_pow, ← imul_pow]
theorem sgn3_scale {g : Nat} (hg : g ≠ 0) (a b c : Int) : sgn3 (g * a) (g * b) (g * c) = sgn3 a b c := by
  unfold sgn3
  rw [← Int.mul_neg, ← Int.mul_neg, ← Int.mul_neg, pwZ_scale, pwZ_scale]
  exact cmpZ_pow (Int.le_of_lt (pwZ_pos _ _ _)) (Int.le_of_lt (pwZ_pos _ _ _)) hg
theorem sgn3_div {a b c : Int} {g : Nat} (hg : g ≠ 0) (ha : (g : Int) ∣ a) (hb : (g : Int) ∣ b) (hc : (g : Int) ∣ c) : sgn3 (Int.tdiv a g) (Int.tdiv b g) (Int.tdiv c g) = sgn3 a b c := by
  obtain ⟨x, rfl⟩ := ha
  obtain ⟨y, rfl⟩ := hb
  obtain ⟨z, rfl⟩ := hc
  have hg' : (g : Int) ≠ 0 := by omega
  rw [Int.mul_tdiv_cancel_left _ hg', Int.mul_tdiv_cancel_left _ hg', Int.mul_tdiv_cancel_left _ hg', sgn3_scale hg]

def nrF (A : Nat) : Nat → Nat → Nat
  | 0, k => k
  | f + 1, k => if 2 ^ (2 * k + 1) > A then k else nrF A f (k + 1)
def rounds : Nat := 400
theorem rounds_eq : rounds = 400 := rfl
def nr (t f : Nat) : Nat := nrF (3 ^ t * 5 ^ f) rounds 0
theorem nrF_spec (A : Nat) : ∀ (f k : Nat), (∀ j, j < k → 2 ^ (2 * j + 1) ≤ A) → A < 2 ^ (2 * (k + f) + 1) → (∀ j, j < nrF A f k → 2 ^ (2 * j + 1) ≤ A) ∧ A < 2 ^ (2 * nrF A f k + 1) ∧ nrF A f k ≤ k + f := by
  intro f
  induction f with
  | zero => intro k h1 h2; exact ⟨h1, h2, Nat.le_refl _⟩
  | succ f ih =>
    intro k h1 h2
    simp only [nrF]
    by_cases h : 2 ^ (2 * k + 1) > A
    · rw [if_pos h]; exact ⟨h1, h, by omega⟩
    · rw [if_neg h]
      have := ih (k + 1) (fun j hj => by
        rcases Nat.lt_or_ge j k with g | g
        · exact h1 j g
        · have : j = k := by omega
          subst this; omega) (by rw [show k + 1 + f = k + (f + 1) by omega]; exact h2)
      exact ⟨this.1, this.2.1, by omega⟩
theorem odd_A (t f : Nat) : (3 ^ t * 5 ^ f) % 2 = 1 := by
  have h3 : 3 ^ t % 2 = 1 := by rw [Nat.pow_mod]; simp
  have h5 : 5 ^ f % 2 = 1 := by rw [Nat.pow_mod]; simp
  rw [Nat.mul_mod, h3, h5]
theorem A_lt {t f m : Nat} (h : 2 * t + 3 * f < m) : 3 ^ t * 5 ^ f < 2 ^ m := by
  have h3 : 3 ^ t ≤ 2 ^ (2 * t) := by rw [Nat.pow_mul]; exact Nat.pow_le_pow_left (by decide) _
  have h5 : 5 ^ f ≤ 2 ^ (3 * f) := by rw [Nat.pow_mul]; exact Nat.pow_le_pow_left (by decide) _
  have h1 : 3 ^ t * 5 ^ f ≤ 2 ^ (2 * t) * 2 ^ (3 * f) := Nat.mul_le_mul h3 h5
  rw [← Nat.pow_add] at h1
  exact Nat.lt_of_le_of_lt h1 (Nat.pow_lt_pow_right (by decide) h)
theorem nr_spec {t f : Nat} (h : 2 * t + 3 * f ≤ 800) : (∀ j, j < nr t f → 2 ^ (2 * j + 1) < 3 ^ t * 5 ^ f) ∧ 3 ^ t * 5 ^ f < 2 ^ (2 * nr t f + 1) ∧ nr t f ≤ 400 := by
  obtain ⟨h1, h2, h3⟩ := nrF_spec (3 ^ t * 5 ^ f) rounds 0 (fun j hj => absurd hj (Nat.not_lt_zero j)) (A_lt (m := 2 * (0 + rounds) + 1) (by have := rounds_eq; omega))
  refine ⟨fun j hj => ?_, h2, by have := rounds_eq; unfold nr; omega⟩
  have h4 := h1 j hj
  have h5 := odd_A t f
  have h6 : 2 ^ (2 * j + 1) % 2 = 0 := by rw [Nat.pow_succ]; omega
  omega
theorem sgn3_half (k t f : Nat) : sgn3 (-(2 * (k : Int) + 1)) (t : Int) (f : Int) = cmpZ ((3 ^ t * 5 ^ f : Nat) : Int) ((2 ^ (2 * k + 1) : Nat) : Int) := by
  unfold sgn3 pwZ
  have e1 : (-(2 * (k : Int) + 1)).toNat = 0 := by omega
  have e2 : (-(-(2 * (k : Int) + 1))).toNat = 2 * k + 1 := by omega
  have e3 : (-(t : Int)).toNat = 0 := by omega
  have e4 : (-(f : Int)).toNat = 0 := by omega
  rw [e1, e2, e3, e4, Int.toNat_natCast, Int.toNat_natCast]
  simp
theorem sgn3_below {k t f : Nat} (h : 2 ^ (2 * k + 1) < 3 ^ t * 5 ^ f) : sgn3 (-(2 * (k : Int) + 1)) (t : Int) (f : Int) = 1 := by
  rw [sgn3_half]; exact cmpZ_gt (Int.ofNat_lt.2 h)
theorem sgn3_above {k t f : Nat} (h : 3 ^ t * 5 ^ f < 2 ^ (2 * k + 1)) : sgn3 (-(2 * (k : Int) + 1)) (t : Int) (f : Int) = -1 := by
  rw [sgn3_half]; exact cmpZ_lt (Int.ofNat_lt.2 h)
theorem sgn3_one (t f : Nat) : sgn3 1 (t : Int) (f : Int) = 1 := by
  unfold sgn3 pwZ
  have e1 : (-(1 : Int)).toNat = 0 := by omega
  have e3 : (-(t : Int)).toNat = 0 := by omega
  have e4 : (-(f : Int)).toNat = 0 := by omega
  rw [e1, e3, e4, Int.toNat_natCast, Int.toNat_natCast]
  apply cmpZ_gt
  have h3 : (0 : Int) < 3 ^ t := Int.pow_pos (by decide)
  have h5 : (0 : Int) < 5 ^ f := Int.pow_pos (by decide)
  have h := Int.mul_pos h3 h5
  have e : (2 : Int) ^ (1 : Int).toNat * 3 ^ t * 5 ^ f = 2 * (3 ^ t * 5 ^ f) := by rw [show (1 : Int).toNat = 1 from rfl, Int.pow_one 2, Int.mul_assoc]
  rw [e]
  simp only [Int.pow_zero, Int.mul_one]
  omega

theorem itimes_run {n : Int} (hn : 1 ≤ n ∧ n ≤ 1000000000) : ∀ (rest done acc : List Int) (c : Int) (k : Nat), Dig rest → 0 ≤ c ∧ c < n → done.length + rest.length ≤ 1000000 → acc.length + rest.length ≤ 1000000 →
    impl_times.l0 (k + rest.length) n acc c (done ++ rest) ((done ++ rest).length : Int) (done.length : Int) = impl_times.l0 k n (acc ++ (mulL rest n c).1) (mulL rest n c).2 (done ++ rest) ((done ++ rest).length : Int) ((done.length + rest.length : Nat) : Int) := by
  intro rest
  induction rest with
  | nil => intro done acc c k _ _ _ _; simp [mulL]
  | cons d rest ih =>
    intro done acc c k hd hc hl ha
    have hs := digit_step (hd d List.mem_cons_self) hn.1 hc
    have e0 : k + (d :: rest).length = (k + rest.length) + 1 := by simp; omega
    rw [e0]
    simp only [impl_times.l0]
    simp only [List.length_cons] at hl ha
    have hdb : 0 ≤ d * n ∧ d * n ≤ 10000000000000 := by
      have h1 := hd d List.mem_cons_self
      have h2 : d * n ≤ 10000 * n := Int.mul_le_mul_of_nonneg_right (by omega) (by omega)
      have h3 := Int.mul_nonneg h1.1 (show 0 ≤ n by omega)
      omega
    rw [if_pos (by simp; omega), if_pos (by omega), if_pos (by simp; omega), if_pos (by omega), rd_mid, wrap_id (x := d * n) (by omega), wrap_id (x := d * n + c) (by omega), Int.tmod_eq_emod_of_nonneg hs.1, Int.tdiv_eq_ediv_of_nonneg hs.1, wrap_id (x := (d * n + c) / 10000) (by omega), succ_wrap (by omega)]
    have h := ih (done ++ [d]) (acc ++ [(d * n + c) % 10000]) ((d * n + c) / 10000) k (fun x hx => hd x (List.mem_cons_of_mem _ hx)) hs.2.2 (by simp; omega) (by simp; omega)
    have e2 : ((done ++ [d]).length : Int) = ((done.length + 1 : Nat) : Int) := by simp
    have e5 : done ++ [d] ++ rest = done ++ d :: rest := by simp
    rw [e2, e5] at h
    rw [h]
    have e3 : (acc ++ [(d * n + c) % 10000]) ++ (mulL rest n ((d * n + c) / 10000)).1 = acc ++ (mulL (d :: rest) n c).1 := by simp [mulL]
    have e4 : (done ++ [d]).length + rest.length = done.length + (d :: rest).length := by simp; omega
    rw [e3, e4]
    rfl
theorem itimes_l2 : ∀ (m : Nat) (x : List Int) (k : Nat), x.length = m → Dig x → m ≤ 2000000 → m < k → ∃ out, impl_times.l2 k x = some out ∧ Norm out ∧ val out = val x ∧ out.length ≤ x.length := by
  intro m
  induction m with
  | zero =>
    intro x k hx _ _ hk
    obtain ⟨k, rfl⟩ : ∃ q, k = q + 1 := ⟨k - 1, by omega⟩
    obtain rfl := List.eq_nil_of_length_eq_zero hx
    refine ⟨[], ?_, ⟨by intro d hd; simp at hd, by simp⟩, rfl, Nat.le_refl _⟩
    simp only [impl_times.l2]
    rw [if_neg (by simp)]
  | succ m ih =>
    intro x k hx hd hm hk
    obtain ⟨k, rfl⟩ : ∃ q, k = q + 1 := ⟨k - 1, by omega⟩
    obtain ⟨a, y, rfl⟩ := (List.eq_nil_or_concat x).resolve_left (by intro e; subst e; simp at hx)
    simp only [List.concat_eq_append] at *
    have ha : a.length = m := by simpa using hx
    have el : wrap64 (((a ++ [y]).length : Int) - 1) = ((m : Nat) : Int) := by rw [wrap_id (by omega)]; omega
    have er : rd (a ++ [y]) (m : Int) = y := by have := rd_mid a [] y; rwa [ha] at this
    simp only [impl_times.l2]
    rw [if_pos (by omega), el, if_pos (by omega), if_pos (by omega), er]
    by_cases hy : y = 0
    · rw [if_pos hy, if_pos (by omega)]
      have et : (a ++ [y]).take ((m : Int)).toNat = a := by rw [Int.toNat_natCast, ← ha, List.take_left]
      rw [et]
      obtain ⟨out, h1, h2, h3, h4⟩ := ih a k ha hd.left (by omega) (by omega)
      exact ⟨out, h1, h2, by rw [h3, val_snoc, hy]; omega, by omega⟩
    · rw [if_neg hy]
      exact ⟨_, rfl, ⟨hd, by simpa using hy⟩, rfl, Nat.le_refl _⟩
theorem itimes_l1 : ∀ (m : Nat) (x : List Int) (c : Int) (k : Nat), Dig x → 0 ≤ c ∧ c < 10000 ^ m → c ≤ 1000000000 → x.length + m ≤ 2000000 → x.length + 2 * m + 1 < k →
    ∃ out, impl_times.l1 k x c = some out ∧ Norm out ∧ val out = val x + 10000 ^ x.length * c ∧ out.length ≤ x.length + m := by
  intro m
  induction m with
  | zero =>
    intro x c k hd hc hb hl hk
    obtain ⟨k, rfl⟩ : ∃ q, k = q + 1 := ⟨k - 1, by omega⟩
    have hc0 : c = 0 := by simp at hc; omega
    subst hc0
    simp only [impl_times.l1]
    rw [if_neg (by omega)]
    obtain ⟨out, h1, h2, h3, h4⟩ := itimes_l2 x.length x k rfl hd (by omega) (by omega)
    exact ⟨out, h1, h2, by rw [h3, Int.mul_zero]; omega, by omega⟩
  | succ m ih =>
    intro x c k hd hc hb hl hk
    obtain ⟨k, rfl⟩ : ∃ q, k = q + 1 := ⟨k - 1, by omega⟩
    simp only [impl_times.l1]
    by_cases h0 : c > 0
    · rw [if_pos h0, if_pos (by omega), Int.tmod_eq_emod_of_nonneg hc.1, Int.tdiv_eq_ediv_of_nonneg hc.1, wrap_id (by omega)]
      have hdiv : c / 10000 < 10000 ^ m := by
        have := hc.2
        rw [Int.pow_succ] at this
        omega
      obtain ⟨out, h1, h2, h3, h4⟩ := ih (x ++ [c % 10000]) (c / 10000) k (hd.append (Dig.one (by omega))) ⟨by omega, hdiv⟩ (by omega) (by simp; omega) (by simp; omega)
      refine ⟨out, h1, h2, ?_, by simp at h4; omega⟩
      rw [h3, val_snoc]
      have el : (x ++ [c % 10000]).length = x.length + 1 := by simp
      have e := Int.mul_ediv_add_emod c 10000
      rw [el, Int.pow_succ, Int.mul_assoc, Int.add_assoc, ← Int.mul_add, Int.add_comm (c % 10000), e]
    · rw [if_neg h0]
      have hc0 : c = 0 := by omega
      obtain ⟨out, h1, h2, h3, h4⟩ := itimes_l2 x.length x k rfl hd (by omega) (by omega)
      exact ⟨out, h1, h2, by rw [h3, hc0, Int.mul_zero]; omega, by omega⟩
theorem impl_times_eq {x : List Int} {n : Int} {k : Nat} (hn : 1 ≤ n ∧ n ≤ 1000000000) (hx : Norm x) (hl : x.length ≤ 1000000) (hk : 4000000 ≤ k) :
    ∃ out, impl_times.f k x n = some out ∧ Norm out ∧ val out = val x * n ∧ out.length ≤ x.length + 3 := by
  unfold impl_times.f
  obtain ⟨k, rfl⟩ : ∃ q, k = (q + 1) + x.length := ⟨k - x.length - 1, by omega⟩
  have hr := itimes_run hn x [] [] 0 (k + 1) hx.1 (by omega) (by simp; omega) (by simp; omega)
  have hr' : impl_times.l0 (k + 1 + x.length) n [] 0 x (x.length : Int) 0 = impl_times.l0 (k + 1) n (mulL x n 0).1 (mulL x n 0).2 x (x.length : Int) (x.length : Int) := by simpa using hr
  rw [hr']
  simp only [impl_times.l0]
  rw [if_neg (by omega)]
  have hc := mulL_carry x (c := 0) hx.1 hn.1 (by omega)
  have hlen := mulL_len x n 0
  have hv := mulL_val x n 0
  have h103 : (10000 : Int) ^ 3 = 1000000000000 := by decide
  obtain ⟨out, h1, h2, h3, h4⟩ := itimes_l1 3 (mulL x n 0).1 (mulL x n 0).2 k (mulL_dig x n 0) ⟨hc.1, by rw [h103]; omega⟩ (by omega) (by omega) (by omega)
  exact ⟨out, h1, h2, by rw [h3, hlen, hv]; omega, by omega⟩
theorem prod_l2 {p e q left : Int} {x7 : List Int} {x21 : List (List Int)} {x22 x23 : Int} (n : Nat) (hn : n ≤ 29) (hp : 1 ≤ p ∧ p ≤ 5) (hpn : p ^ n ≤ 1000000000) : ∀ (d i k : Nat), i + d = n →
    impl_product.l2 (k + d + 1) x7 [p, e, q] left (n : Int) (p ^ i) (i : Int) x21 x22 x23 = (impl_times.f k x7 (p ^ n)).bind fun t => impl_product.l1 k t [p, e, q] (wrap64 (left - (n : Int))) x21 x22 x23 := by
  intro d
  induction d with
  | zero =>
    intro i k hi
    simp only [impl_product.l2]
    rw [if_neg (by omega)]
    have : i = n := by omega
    subst this; rfl
  | succ d ih =>
    intro i k hi
    have e0 : k + (d + 1) + 1 = (k + d + 1) + 1 := by omega
    rw [e0]
    obtain ⟨K, hK⟩ : ∃ K, K = k + d + 1 := ⟨_, rfl⟩
    rw [← hK]
    simp only [impl_product.l2]
    rw [hK]
    have er : rd [p, e, q] 0 = p := by rfl
    have hb : 0 ≤ p ^ i * p ∧ p ^ i * p ≤ 1000000000 := by
      have h1 : p ^ (i + 1) ≤ p ^ n := by
        obtain ⟨u, rfl⟩ := Int.eq_ofNat_of_zero_le (show 0 ≤ p by omega)
        exact ipow_le (b := u) (by omega) (by omega)
      rw [Int.pow_succ] at h1
      have h2 : 0 < p ^ i := Int.pow_pos (by omega)
      have h3 := Int.mul_pos h2 (show 0 < p by omega)
      omega
    rw [if_pos (by omega), if_pos (by simp), er, wrap_id (by omega), succ_wrap (by omega), ← Int.pow_succ]
    exact ih (i + 1) k (by omega)
theorem prod_l1 {p e : Int} {q : Nat} (hp : 1 ≤ p ∧ p ≤ 5) (hq : 1 ≤ q ∧ q ≤ 29) (hpq : p ^ q ≤ 1000000000) (x21 : List (List Int)) (x22 x23 : Int) : ∀ (m left : Nat) (x : List Int) (k : Nat), left ≤ m → Norm x → 1 ≤ val x → x.length + 3 * left ≤ 1000000 → 40 * left + 5000000 ≤ k →
    ∃ out k', impl_product.l1 k x [p, e, (q : Int)] (left : Int) x21 x22 x23 = impl_product.l0 k' out x21 x22 (wrap64 (x23 + 1)) ∧ Norm out ∧ 1 ≤ val out ∧ val out = val x * p ^ left ∧ out.length ≤ x.length + 3 * left ∧ k ≤ k' + 40 * left + 1 := by
  intro m
  induction m with
  | zero =>
    intro left x k hm hx hv hl hk
    obtain ⟨k, rfl⟩ : ∃ q, k = q + 1 := ⟨k - 1, by omega⟩
    have : left = 0 := by omega
    subst this
    refine ⟨x, k, ?_, hx, hv, by simp, by omega, by omega⟩
    simp only [impl_product.l1]
    rw [if_neg (by omega)]
  | succ m ih =>
    intro left x k hm hx hv hl hk
    rcases Nat.eq_zero_or_pos left with h0 | h0
    · exact ih left x k (by omega) hx hv hl hk
    · have hmn : ∃ n : Nat, mn (left : Int) (rd [p, e, (q : Int)] 2) = (n : Int) ∧ 1 ≤ n ∧ n ≤ left ∧ n ≤ q := by
        have er : rd [p, e, (q : Int)] 2 = (q : Int) := rfl
        rw [er]; unfold mn
        split
        · exact ⟨q, rfl, by omega, by omega, by omega⟩
        · exact ⟨left, rfl, by omega, by omega, by omega⟩
      obtain ⟨n, hn, n1, n2, n3⟩ := hmn
      obtain ⟨k, rfl⟩ : ∃ r, k = (r + n + 1) + 1 := ⟨k - n - 2, by omega⟩
      have hpn : p ^ n ≤ 1000000000 := by
        have h1 : p ^ n ≤ p ^ q := by
          obtain ⟨u, rfl⟩ := Int.eq_ofNat_of_zero_le (show 0 ≤ p by omega)
          exact ipow_le (b := u) (by omega) n3
        omega
      have hpn0 : 0 < p ^ n := Int.pow_pos (by omega)
      have hpn1 : 1 ≤ p ^ n := hpn0
      obtain ⟨t, t1, t2, t3, t4⟩ := impl_times_eq (x := x) (n := p ^ n) (k := k) ⟨hpn1, hpn⟩ hx (by omega) (by omega)
      have ht : 1 ≤ val t := by
        rw [t3]
        have : val x * 1 ≤ val x * p ^ n := Int.mul_le_mul_of_nonneg_left hpn1 (by omega)
        omega
      obtain ⟨out, k', g1, g2, g3, g4, g5, g6⟩ := ih (left - n) t k (by omega) t2 ht (by omega) (by omega)
      refine ⟨out, k', ?_, g2, g3, ?_, by omega, by omega⟩
      · simp only [impl_product.l1]
        rw [if_pos (by omega), if_pos (by simp), hn]
        have := prod_l2 (e := e) (q := (q : Int)) (left := (left : Int)) (x7 := x) (x21 := x21) (x22 := x22) (x23 := x23) n (by omega) hp hpn n 0 k (by omega)
        rw [show ((0 : Nat) : Int) = 0 from rfl, Int.pow_zero] at this
        rw [this, t1, Option.bind_some, wrap_id (by omega)]
        have e1 : (left : Int) - (n : Int) = ((left - n : Nat) : Int) := by omega
        rw [e1]; exact g1
      · rw [g4, t3, Int.mul_assoc, ← Int.pow_add]
        congr 2; omega
theorem impl_prod {a b c : Nat} {k : Nat} (ha : a ≤ 100000) (hb : b ≤ 100000) (hc : c ≤ 100000) (hk : 100000000 ≤ k) :
    ∃ out, impl_product.f k (a : Int) (b : Int) (c : Int) = some out ∧ Norm out ∧ val out = 2 ^ a * 3 ^ b * 5 ^ c ∧ out.length ≤ 1000000 := by
  unfold impl_product.f
  simp only [Option.bind_some]
  obtain ⟨k, rfl⟩ : ∃ r, k = r + 1 := ⟨k - 1, by omega⟩
  have n1 : Norm [1] := ⟨by intro d hd; simp at hd; omega, by simp⟩
  generalize hR : ([[2, (a : Int), 29], [3, (b : Int), 18], [5, (c : Int), 12]] : List (List Int)) = R
  have hRl : (R.length : Int) = 3 := by rw [← hR]; rfl
  have r0 : rd_L2 R 0 = [2, (a : Int), 29] := by rw [← hR]; rfl
  have r1 : rd_L2 R 1 = [3, (b : Int), 18] := by rw [← hR]; rfl
  have r2 : rd_L2 R 2 = [5, (c : Int), 12] := by rw [← hR]; rfl
  rw [hRl]
  obtain ⟨o1, k1, g1, N1, p1, v1, l1, f1⟩ := prod_l1 (p := 2) (e := (a : Int)) (q := 29) (by omega) (by omega) (by decide) R 3 0 a a [1] k (Nat.le_refl _) n1 (by simp [val]) (by simp; omega) (by omega)
  simp only [List.length_cons, List.length_nil] at l1
  obtain ⟨k1, rfl⟩ : ∃ r, k1 = r + 1 := ⟨k1 - 1, by omega⟩
  obtain ⟨o2, k2, g2, N2, p2, v2, l2, f2⟩ := prod_l1 (p := 3) (e := (b : Int)) (q := 18) (by omega) (by omega) (by decide) R 3 1 b b o1 k1 (Nat.le_refl _) N1 p1 (by omega) (by omega)
  obtain ⟨k2, rfl⟩ : ∃ r, k2 = r + 1 := ⟨k2 - 1, by omega⟩
  obtain ⟨o3, k3, g3, N3, p3, v3, l3, f3⟩ := prod_l1 (p := 5) (e := (c : Int)) (q := 12) (by omega) (by omega) (by decide) R 3 2 c c o2 k2 (Nat.le_refl _) N2 p2 (by omega) (by omega)
  obtain ⟨k3, rfl⟩ : ∃ r, k3 = r + 1 := ⟨k3 - 1, by omega⟩
  refine ⟨o3, ?_, N3, ?_, by omega⟩
  · simp only [impl_product.l0]
    rw [if_pos (by omega), if_pos (by omega), if_pos (by omega), r0, if_pos (by simp)]
    have e0 : rd [2, (a : Int), 29] 1 = (a : Int) := rfl
    rw [e0]
    rw [show ((29 : Nat) : Int) = 29 from rfl] at g1
    rw [g1, wrap_id (by omega)]
    simp only [impl_product.l0]
    rw [show (0 : Int) + 1 = 1 from rfl]
    rw [if_pos (by omega), if_pos (by omega), if_pos (by omega), r1, if_pos (by simp)]
    have e1 : rd [3, (b : Int), 18] 1 = (b : Int) := rfl
    rw [e1]
    rw [show ((18 : Nat) : Int) = 18 from rfl] at g2
    rw [g2, wrap_id (by omega)]
    simp only [impl_product.l0]
    rw [show (1 : Int) + 1 = 2 from rfl]
    rw [if_pos (by omega), if_pos (by omega), if_pos (by omega), r2, if_pos (by simp)]
    have e2 : rd [5, (c : Int), 12] 1 = (c : Int) := rfl
    rw [e2]
    rw [show ((12 : Nat) : Int) = 12 from rfl] at g3
    rw [g3, wrap_id (by omega)]
    simp only [impl_product.l0]
    rw [show (2 : Int) + 1 = 3 from rfl, if_neg (by omega)]
  · rw [v3, v2, v1]; simp [val]
theorem impl_cmp_l0 : ∀ (n : Nat) (a b s : List Int) (k : Nat), a.length = n → b.length = n → Dig a → Dig b → n + s.length ≤ 1000000 → n < k →
    impl_order.l0 k (a ++ s) (b ++ s) ((n : Int) - 1) = some (cmpZ (val a) (val b)) := by
  intro n
  induction n with
  | zero =>
    intro a b s k ha hb _ _ _ hk
    obtain ⟨k, rfl⟩ : ∃ q, k = q + 1 := ⟨k - 1, by omega⟩
    simp only [impl_order.l0]
    rw [if_neg (by omega)]
    rw [List.eq_nil_of_length_eq_zero ha, List.eq_nil_of_length_eq_zero hb, cmpZ_self]
  | succ n ih =>
    intro a b s k ha hb da db hl hk
    obtain ⟨k, rfl⟩ : ∃ q, k = q + 1 := ⟨k - 1, by omega⟩
    obtain ⟨a, x, rfl⟩ := (List.eq_nil_or_concat a).resolve_left (by intro e; subst e; simp at ha)
    obtain ⟨b, y, rfl⟩ := (List.eq_nil_or_concat b).resolve_left (by intro e; subst e; simp at hb)
    simp only [List.concat_eq_append] at *
    have ha' : a.length = n := by simpa using ha
    have hb' : b.length = n := by simpa using hb
    have ei : ((n + 1 : Nat) : Int) - 1 = (n : Int) := by omega
    rw [ei]
    simp only [impl_order.l0]
    have ra : rd (a ++ [x] ++ s) (n : Int) = x := by have := rd_mid a s x; rw [ha'] at this; simpa using this
    have rb : rd (b ++ [y] ++ s) (n : Int) = y := by have := rd_mid b s y; rw [hb'] at this; simpa using this
    rw [if_pos (by omega), if_pos (by omega), if_pos (by simp; omega), if_pos (by simp; omega), ra, rb, cmp_snoc da.left db.left (by omega)]
    by_cases h2 : x < y
    · rw [if_pos h2, if_pos h2]
    · rw [if_neg h2, if_neg h2]
      by_cases h3 : x > y
      · rw [if_pos h3, if_pos h3]
      · rw [if_neg h3, if_neg h3, wrap_id (by omega)]
        have e : x = y := by omega
        subst e
        have := ih a b (x :: s) k ha' hb' da.left db.left (by simp; omega) (by omega)
        simpa using this
theorem impl_cmp {a b : List Int} {k : Nat} (ha : Norm a) (hb : Norm b) (hl : a.length ≤ 1000000) (hk : 100000000 ≤ k) : impl_order.f k a b = some (cmpZ (val a) (val b)) := by
  unfold impl_order.f
  by_cases h : a.length = b.length
  · rw [if_pos (by omega), wrap_id (by omega)]
    have := impl_cmp_l0 a.length a b [] k rfl h.symm ha.1 hb.1 (by simp; omega) (by omega)
    simpa using this
  · rw [if_neg (by omega)]
    by_cases h2 : a.length < b.length
    · rw [if_pos (by omega), cmpZ_lt (cmp_len ha hb h2)]
    · rw [if_neg (by omega), cmpZ_gt (cmp_len hb ha (by omega))]
theorem mx_zero' (a : Int) : mx a 0 = ((a.toNat : Nat) : Int) := by unfold mx; split <;> omega
theorem impl_sign_eq {a b c : Int} {k : Nat} (ha : -100000 ≤ a ∧ a ≤ 100000) (hb : -100000 ≤ b ∧ b ≤ 100000) (hc : -100000 ≤ c ∧ c ≤ 100000) (hk : 100000000 ≤ k) : impl_sign.f k a b c = some (sgn3 a b c) := by
  unfold impl_sign.f
  rw [wrap_id (x := -a) (by omega), wrap_id (x := -b) (by omega), wrap_id (x := -c) (by omega), mx_zero', mx_zero', mx_zero', mx_zero', mx_zero', mx_zero']
  obtain ⟨u, eu, nu, vu, lu⟩ := impl_prod (a := a.toNat) (b := b.toNat) (c := c.toNat) (k := k) (by omega) (by omega) (by omega) hk
  obtain ⟨v, ev, nv, vv, lv⟩ := impl_prod (a := (-a).toNat) (b := (-b).toNat) (c := (-c).toNat) (k := k) (by omega) (by omega) (by omega) hk
  rw [eu, Option.bind_some, ev, Option.bind_some, impl_cmp nu nv lu hk, Option.bind_some, vu, vv]
  rfl

def bestMap (n : Int) : Int × Int × Int := if 1 ≤ n ∧ n ≤ 60 then (n, ((nr (2 * n.toNat) 0 : Nat) : Int), ((nr 0 (2 * n.toNat) : Nat) : Int)) else (0, 0, 0)

theorem spec_gcd_l0 : ∀ (k y x : Nat), y < k → spec_l03Gcd.l0 k (x : Int) (y : Int) = some ((Nat.gcd x y : Nat) : Int) := by
  intro k
  induction k with
  | zero => intro y x h; omega
  | succ k ih =>
    intro y x h
    simp only [spec_l03Gcd.l0]
    rcases Nat.eq_zero_or_pos y with h0 | h0
    · subst h0
      rw [if_neg (by omega)]
      simp
    · rw [if_pos (by omega), if_neg (by omega)]
      have e : Int.tmod (x : Int) (y : Int) = ((x % y : Nat) : Int) := by
        rw [Int.tmod_eq_emod_of_nonneg (by omega)]; rfl
      rw [e, ih (x % y) y (by have := Nat.mod_lt x h0; omega)]
      rw [Nat.gcd_comm x y, Nat.gcd_rec y x, Nat.gcd_comm]
theorem mx_neg {a : Int} (h : -4611686018427387904 ≤ a ∧ a ≤ 4611686018427387904) : mx a (wrap64 (-a)) = ((a.natAbs : Nat) : Int) := by
  rw [wrap_id (by omega)]
  unfold mx
  split <;> omega
theorem spec_gcd {k : Nat} {a b : Int} (ha : -4611686018427387904 ≤ a ∧ a ≤ 4611686018427387904) (hb : -4611686018427387904 ≤ b ∧ b ≤ 4611686018427387904) (hk : b.natAbs < k) :
    spec_l03Gcd.f k a b = some ((Int.gcd a b : Nat) : Int) := by
  unfold spec_l03Gcd.f
  rw [mx_neg ha, mx_neg hb, spec_gcd_l0 k _ _ hk]
  rfl

theorem times_l1_run (b e j : Int) (hb : 1 ≤ b ∧ b ≤ 5) : ∀ (rest done : List Int) (c : Int) (k : Nat), Dig rest → 0 ≤ c ∧ c < b → done.length + rest.length ≤ 1000000 →
    spec_l04Times.l1 (k + rest.length) (done ++ rest) b e j c (done.length : Int) = spec_l04Times.l1 k (done ++ (mulL rest b c).1) b e j (mulL rest b c).2 ((done.length + rest.length : Nat) : Int) := by
  intro rest
  induction rest with
  | nil => intro done c k _ _ _; simp [mulL]
  | cons d rest ih =>
    intro done c k hd hc hl
    have hs := digit_step (hd d List.mem_cons_self) hb.1 hc
    have e0 : k + (d :: rest).length = (k + rest.length) + 1 := by simp; omega
    rw [e0]
    simp only [spec_l04Times.l1]
    simp only [List.length_cons] at hl
    rw [if_pos (by simp; omega), if_pos (by omega), rd_mid, wrap_id (x := d * b) (by omega), wrap_id (x := d * b + c) (by omega), Int.tmod_eq_emod_of_nonneg hs.1, Int.tdiv_eq_ediv_of_nonneg hs.1, wrap_id (x := (d * b + c) / 10000) (by omega), succ_wrap (by omega)]
    have e1 : (done ++ d :: rest).set ((done.length : Int)).toNat ((d * b + c) % 10000) = (done ++ [(d * b + c) % 10000]) ++ rest := by simp
    rw [e1]
    have h := ih (done ++ [(d * b + c) % 10000]) ((d * b + c) / 10000) k (fun x hx => hd x (List.mem_cons_of_mem _ hx)) hs.2.2 (by simp; omega)
    have e2 : ((done ++ [(d * b + c) % 10000]).length : Int) = ((done.length + 1 : Nat) : Int) := by simp
    rw [e2] at h
    rw [h]
    have e3 : (done ++ [(d * b + c) % 10000]) ++ (mulL rest b ((d * b + c) / 10000)).1 = done ++ (mulL (d :: rest) b c).1 := by simp [mulL]
    have e4 : (done ++ [(d * b + c) % 10000]).length + rest.length = done.length + (d :: rest).length := by simp; omega
    rw [e3, e4]
    rfl
def once (x : List Int) (b : Int) : List Int := if (mulL x b 0).2 > 0 then (mulL x b 0).1 ++ [(mulL x b 0).2] else (mulL x b 0).1
theorem once_spec {x : List Int} {b : Int} (hb : 1 ≤ b ∧ b ≤ 5) (hx : Norm x) (hv : 1 ≤ val x) : Norm (once x b) ∧ val (once x b) = val x * b ∧ (once x b).length ≤ x.length + 1 ∧ 1 ≤ val (once x b) := by
  have h1 := mulL_val x b 0
  have h2 := mulL_carry x hx.1 hb.1 (c := 0) (by omega)
  have h3 := mulL_len x b 0
  have h4 := mulL_dig x b 0
  have hxn : x ≠ [] := by intro e; subst e; simp [val] at hv
  have hxl : 1 ≤ x.length := by cases x with | nil => exact absurd rfl hxn | cons => simp
  have hge := val_ge hx hxn
  have hvb : val x * 1 ≤ val x * b := Int.mul_le_mul_of_nonneg_left hb.1 (by omega)
  unfold once
  by_cases hc : (mulL x b 0).2 > 0
  · rw [if_pos hc]
    have hval : val ((mulL x b 0).1 ++ [(mulL x b 0).2]) = val x * b := by rw [val_snoc, h3, h1]; omega
    refine ⟨norm_of_val (h4.append (Dig.one (by omega))) (fun _ => ?_), hval, by simp; omega, by omega⟩
    have e : ((mulL x b 0).1 ++ [(mulL x b 0).2]).length - 1 = (mulL x b 0).1.length := by simp
    rw [e, val_snoc]
    have := val_nn h4
    have h5 : (10000 : Int) ^ (mulL x b 0).1.length * 1 ≤ 10000 ^ (mulL x b 0).1.length * (mulL x b 0).2 := Int.mul_le_mul_of_nonneg_left (by omega) (Int.le_of_lt (pow10_pos _))
    omega
  · rw [if_neg hc]
    have hc0 : (mulL x b 0).2 = 0 := by omega
    rw [hc0] at h1
    have hval : val (mulL x b 0).1 = val x * b := by rw [Int.mul_zero] at h1; omega
    refine ⟨norm_of_val h4 (fun _ => ?_), hval, by omega, by omega⟩
    rw [h3, hval]; omega
theorem times_l0_run {b e : Int} (M : Nat) (hM : 1000003 ≤ M) (hb : 1 ≤ b ∧ b ≤ 5) (he : e ≤ 1000000) : ∀ (d : Nat) (j : Int) (x : List Int) (k : Nat), j + d = e → 0 ≤ j → Norm x → 1 ≤ val x → x.length + d ≤ 1000000 → d * M < k →
    ∃ out, spec_l04Times.l0 k x b e j = some out ∧ Norm out ∧ val out = val x * b ^ d ∧ out.length ≤ x.length + d ∧ 1 ≤ val out := by
  intro d
  induction d with
  | zero =>
    intro j x k hj h0 hx hv hl hk
    obtain ⟨k, rfl⟩ : ∃ q, k = q + 1 := ⟨k - 1, by omega⟩
    refine ⟨x, ?_, hx, by simp, by omega, hv⟩
    simp only [spec_l04Times.l0]
    rw [if_neg (by omega)]
  | succ d ih =>
    intro j x k hj h0 hx hv hl hk
    rw [Nat.succ_mul] at hk
    obtain ⟨k, rfl⟩ : ∃ q, k = ((q + 1) + x.length) + 1 := ⟨k - x.length - 2, by omega⟩
    have ho := once_spec hb hx hv
    have hr := times_l1_run b e j hb x [] 0 (k + 1) hx.1 (by omega) (by simp; omega)
    obtain ⟨out, h1, h2, h3, h4, h5⟩ := ih (j + 1) (once x b) k (by omega) (by omega) ho.1 ho.2.2.2 (by omega) (by omega)
    refine ⟨out, ?_, h2, ?_, by omega, h5⟩
    · simp only [spec_l04Times.l0]
      rw [if_pos (by omega)]
      have hr' : spec_l04Times.l1 (k + 1 + x.length) x b e j 0 0 = spec_l04Times.l1 (k + 1) (mulL x b 0).1 b e j (mulL x b 0).2 (x.length : Int) := by simpa using hr
      rw [hr']
      simp only [spec_l04Times.l1]
      have hlen := mulL_len x b 0
      rw [if_neg (by omega), wrap_id (x := j + 1) (by omega)]
      unfold once at h1
      by_cases hc : (mulL x b 0).2 > 0
      · rw [if_pos hc, if_pos (by omega)]; rw [if_pos hc] at h1; exact h1
      · rw [if_neg hc]; rw [if_neg hc] at h1; exact h1
    · rw [h3, ho.2.1, Int.pow_succ, Int.mul_assoc, Int.mul_comm b]
theorem spec_times {b : Int} {e : Nat} {x : List Int} {k : Nat} (hb : 1 ≤ b ∧ b ≤ 5) (hx : Norm x) (hv : 1 ≤ val x) (hl : x.length + e ≤ 1000000) (hk : 1000010000000 ≤ k) :
    ∃ out, spec_l04Times.f k x b (e : Int) = some out ∧ Norm out ∧ val out = val x * b ^ e ∧ out.length ≤ x.length + e ∧ 1 ≤ val out := by
  unfold spec_l04Times.f
  have hf : e * 1000003 < k := by
    have : e * 1000003 ≤ 1000000 * 1000003 := Nat.mul_le_mul_right _ (by omega)
    omega
  exact times_l0_run 1000003 (Nat.le_refl _) hb (by omega) e 0 x k (by omega) (by omega) hx hv hl hf
theorem spec_cmp_l0 : ∀ (n : Nat) (a b s : List Int) (k : Nat), a.length = n → b.length = n → Dig a → Dig b → n + s.length ≤ 1000000 → n < k →
    spec_l04Compare.l0 k (a ++ s) (b ++ s) ((n : Int) - 1) = some (cmpZ (val a) (val b)) := by
  intro n
  induction n with
  | zero =>
    intro a b s k ha hb _ _ _ hk
    obtain ⟨k, rfl⟩ : ∃ q, k = q + 1 := ⟨k - 1, by omega⟩
    simp only [spec_l04Compare.l0]
    rw [if_neg (by omega)]
    rw [List.eq_nil_of_length_eq_zero ha, List.eq_nil_of_length_eq_zero hb, cmpZ_self]
  | succ n ih =>
    intro a b s k ha hb da db hl hk
    obtain ⟨k, rfl⟩ : ∃ q, k = q + 1 := ⟨k - 1, by omega⟩
    obtain ⟨a, x, rfl⟩ := (List.eq_nil_or_concat a).resolve_left (by intro e; subst e; simp at ha)
    obtain ⟨b, y, rfl⟩ := (List.eq_nil_or_concat b).resolve_left (by intro e; subst e; simp at hb)
    simp only [List.concat_eq_append] at *
    have ha' : a.length = n := by simpa using ha
    have hb' : b.length = n := by simpa using hb
    have ei : ((n + 1 : Nat) : Int) - 1 = (n : Int) := by omega
    rw [ei]
    simp only [spec_l04Compare.l0]
    have ra : rd (a ++ [x] ++ s) (n : Int) = x := by have := rd_mid a s x; rw [ha'] at this; simpa using this
    have rb : rd (b ++ [y] ++ s) (n : Int) = y := by have := rd_mid b s y; rw [hb'] at this; simpa using this
    rw [if_pos (by omega), if_pos (by omega), if_pos (by simp; omega), if_pos (by simp; omega), ra, rb, cmp_snoc da.left db.left (by omega)]
    by_cases h : x = y
    · subst h
      rw [if_pos rfl, if_neg (by omega), if_neg (by omega), wrap_id (by omega)]
      have := ih a b (x :: s) k ha' hb' da.left db.left (by simp; omega) (by omega)
      simpa using this
    · rw [if_neg h]
      by_cases h2 : x < y
      · rw [if_pos h2, if_pos h2]
      · rw [if_neg h2, if_neg h2, if_pos (by omega)]
theorem spec_cmp {a b : List Int} {k : Nat} (ha : Norm a) (hb : Norm b) (hl : a.length ≤ 1000000) (hk : 1000010000000 ≤ k) : spec_l04Compare.f k a b = some (cmpZ (val a) (val b)) := by
  unfold spec_l04Compare.f
  by_cases h : a.length = b.length
  · rw [if_pos (by omega), wrap_id (by omega)]
    have := spec_cmp_l0 a.length a b [] k rfl h.symm ha.1 hb.1 (by simp; omega) (by omega)
    simpa using this
  · rw [if_neg (by omega)]
    by_cases h2 : a.length < b.length
    · rw [if_pos (by omega), cmpZ_lt (cmp_len ha hb h2)]
    · rw [if_neg (by omega), cmpZ_gt (cmp_len hb ha (by omega))]
theorem norm_one : Norm [1] := ⟨by intro d hd; simp at hd; omega, by simp⟩
theorem mx_zero (a : Int) : mx a 0 = ((a.toNat : Nat) : Int) := by unfold mx; split <;> omega
theorem spec_prod {a b c : Int} {k : Nat} (ha : a ≤ 100000) (hb : b ≤ 100000) (hc : c ≤ 100000) (hk : 1000010000000 ≤ k) {α : Type} (f : List Int → Option α) :
    ∃ out, ((spec_l04Times.f k ([1] : List Int) 2 (mx a 0)).bind fun t => ((spec_l04Times.f k t 3 (mx b 0)).bind fun t => ((spec_l04Times.f k t 5 (mx c 0)).bind f))) = f out ∧ Norm out ∧ val out = pwZ a b c ∧ out.length ≤ 1000000 := by
  obtain ⟨o1, e1, n1, v1, l1, p1⟩ := spec_times (b := 2) (e := a.toNat) (x := [1]) (k := k) (by omega) norm_one (by simp [val]) (by simp; omega) hk
  simp only [List.length_cons, List.length_nil] at l1
  obtain ⟨o2, e2, n2, v2, l2, p2⟩ := spec_times (b := 3) (e := b.toNat) (x := o1) (k := k) (by omega) n1 p1 (by omega) hk
  obtain ⟨o3, e3, n3, v3, l3, p3⟩ := spec_times (b := 5) (e := c.toNat) (x := o2) (k := k) (by omega) n2 p2 (by omega) hk
  refine ⟨o3, ?_, n3, ?_, by omega⟩
  · rw [mx_zero, e1, mx_zero, Option.bind_some, e2, mx_zero, Option.bind_some, e3, Option.bind_some]
  · rw [v3, v2, v1]; simp [val, pwZ]
theorem spec_sign_j0 {a b c : Int} {k : Nat} (ha : -100000 ≤ a ∧ a ≤ 100000) (hb : -100000 ≤ b ∧ b ≤ 100000) (hc : -100000 ≤ c ∧ c ≤ 100000) (hk : 1000010000001 ≤ k) : spec_l04Sign.j0 k a b c = some (sgn3 a b c) := by
  obtain ⟨k, rfl⟩ : ∃ q, k = q + 1 := ⟨k - 1, by omega⟩
  simp only [spec_l04Sign.j0]
  obtain ⟨u, eu, nu, vu, lu⟩ := spec_prod (a := a) (b := b) (c := c) (k := k) (by omega) (by omega) (by omega) (by omega) (fun t125 => ((spec_l04Times.f k (([1] : List Int)) 2 (mx (wrap64 (-a)) 0)).bind fun t131 => ((spec_l04Times.f k t131 3 (mx (wrap64 (-b)) 0)).bind fun t134 => ((spec_l04Times.f k t134 5 (mx (wrap64 (-c)) 0)).bind fun t137 => ((spec_l04Compare.f k t125 t137).bind fun t140 => (some t140))))))
  rw [eu, wrap_id (x := -a) (by omega), wrap_id (x := -b) (by omega), wrap_id (x := -c) (by omega)]
  obtain ⟨v, ev, nv, vv, lv⟩ := spec_prod (a := -a) (b := -b) (c := -c) (k := k) (by omega) (by omega) (by omega) (by omega) (fun t137 => ((spec_l04Compare.f k u t137).bind fun t140 => (some t140)))
  rw [ev, spec_cmp nu nv lu (by omega), vu, vv]
  rfl
theorem tdiv_nn_bound {a g : Int} {B : Int} (hg : 1 ≤ g) (h : -B ≤ a ∧ a ≤ B) : -B ≤ Int.tdiv a g ∧ Int.tdiv a g ≤ B := by
  have h1 : (Int.tdiv a g).natAbs ≤ a.natAbs := by rw [Int.natAbs_tdiv]; exact Nat.div_le_self _ _
  omega
theorem gcd_le_bound' {a b : Int} {B : Nat} (ha : a.natAbs ≤ B) (hb : b.natAbs ≤ B) : Int.gcd a b ≤ B := by
  unfold Int.gcd
  rcases Nat.eq_zero_or_pos b.natAbs with h | h
  · rw [h, Nat.gcd_zero_right]; exact ha
  · exact Nat.le_trans (Nat.le_of_dvd h (Nat.gcd_dvd_right _ _)) hb
theorem spec_sign {a b c : Int} {k : Nat} (ha : -100000 ≤ a ∧ a ≤ 100000) (hb : -100000 ≤ b ∧ b ≤ 100000) (hc : -100000 ≤ c ∧ c ≤ 100000) (hk : 1000010000001 ≤ k) : spec_l04Sign.f k a b c = some (sgn3 a b c) := by
  unfold spec_l04Sign.f
  have h1 := gcd_le_bound' (a := a) (b := b) (B := 100000) (by omega) (by omega)
  rw [spec_gcd (by omega) (by omega) (by omega)]
  simp only [Option.bind_some]
  rw [spec_gcd (by omega) (by omega) (by omega)]
  simp only [Option.bind_some]
  generalize hg : Int.gcd ((Int.gcd a b : Nat) : Int) c = g
  by_cases h : ((g : Nat) : Int) > 1
  · have b1 := tdiv_nn_bound (g := (g : Int)) (by omega) ha
    have b2 := tdiv_nn_bound (g := (g : Int)) (by omega) hb
    have b3 := tdiv_nn_bound (g := (g : Int)) (by omega) hc
    rw [if_pos h, if_neg (by omega), wrap_id (by omega), wrap_id (by omega), wrap_id (by omega), spec_sign_j0 b1 b2 b3 hk]
    have d0 : (g : Int) ∣ ((Int.gcd a b : Nat) : Int) := by rw [← hg]; exact Int.gcd_dvd_left _ _
    rw [sgn3_div (by omega) (Int.dvd_trans d0 (Int.gcd_dvd_left _ _)) (Int.dvd_trans d0 (Int.gcd_dvd_right _ _)) (by rw [← hg]; exact Int.gcd_dvd_right _ _)]
  · rw [if_neg h, spec_sign_j0 ha hb hc hk]

theorem spec_nearest_l1 {n a b : Int} {t f : Nat} (ht : 2 * n * a = (t : Int)) (hf : 2 * n * b = (f : Int)) (hn : 1 ≤ n ∧ n ≤ 60) (h : 2 * t + 3 * f ≤ 800) (K : Nat) (hK : 1000010000001 < K) : spec_l09Nearest.l1 K n a b ((nr t f : Nat) : Int) = some ((nr t f : Nat) : Int) := by
  obtain ⟨h1, h2, h3⟩ := nr_spec h
  obtain ⟨K, rfl⟩ : ∃ q, K = q + 1 := ⟨K - 1, by omega⟩
  simp only [spec_l09Nearest.l1]
  rw [wrap_id (x := 2 * ((nr t f : Nat) : Int)) (by omega), wrap_id (x := 2 * ((nr t f : Nat) : Int) - 1) (by omega), wrap_id (x := -(2 * ((nr t f : Nat) : Int) - 1)) (by omega), wrap_id (x := 2 * n) (by omega), ht, hf, wrap_id (x := (t : Int)) (by omega), wrap_id (x := (f : Int)) (by omega), spec_sign (by omega) (by omega) (by omega) (by omega)]
  have hs : sgn3 (-(2 * ((nr t f : Nat) : Int) - 1)) (t : Int) (f : Int) = 1 := by
    rcases Nat.eq_zero_or_pos (nr t f) with h0 | h0
    · rw [h0]
      exact sgn3_one t f
    · have := sgn3_below (h1 (nr t f - 1) (by omega))
      rw [show -(2 * ((nr t f : Nat) : Int) - 1) = -(2 * ((nr t f - 1 : Nat) : Int) + 1) by omega]
      exact this
  rw [hs, Option.bind_some, if_neg (by omega)]
theorem spec_nearest_l0 {n a b : Int} {t f : Nat} (ht : 2 * n * a = (t : Int)) (hf : 2 * n * b = (f : Int)) (hn : 1 ≤ n ∧ n ≤ 60) (h : 2 * t + 3 * f ≤ 800) : ∀ (d k K : Nat), k + d = nr t f → 1000010000003 + d < K → spec_l09Nearest.l0 K n a b (k : Int) = some ((nr t f : Nat) : Int) := by
  obtain ⟨h1, h2, h3⟩ := nr_spec h
  intro d
  induction d with
  | zero =>
    intro k K hk hK
    obtain ⟨K, rfl⟩ : ∃ q, K = q + 1 := ⟨K - 1, by omega⟩
    simp only [spec_l09Nearest.l0]
    rw [wrap_id (x := 2 * (k : Int)) (by omega), wrap_id (x := 2 * (k : Int) + 1) (by omega), wrap_id (x := -(2 * (k : Int) + 1)) (by omega), wrap_id (x := 2 * n) (by omega), ht, hf, wrap_id (x := (t : Int)) (by omega), wrap_id (x := (f : Int)) (by omega), spec_sign (by omega) (by omega) (by omega) (by omega)]
    have hk' : k = nr t f := by omega
    subst hk'
    rw [sgn3_above h2, Option.bind_some, if_neg (by omega)]
    exact spec_nearest_l1 ht hf hn h K (by omega)
  | succ d ih =>
    intro k K hk hK
    obtain ⟨K, rfl⟩ : ∃ q, K = q + 1 := ⟨K - 1, by omega⟩
    simp only [spec_l09Nearest.l0]
    rw [wrap_id (x := 2 * (k : Int)) (by omega), wrap_id (x := 2 * (k : Int) + 1) (by omega), wrap_id (x := -(2 * (k : Int) + 1)) (by omega), wrap_id (x := 2 * n) (by omega), ht, hf, wrap_id (x := (t : Int)) (by omega), wrap_id (x := (f : Int)) (by omega), spec_sign (by omega) (by omega) (by omega) (by omega)]
    rw [sgn3_below (h1 k (by omega)), Option.bind_some, if_pos (by omega), wrap_id (by omega)]
    exact ih (k + 1) K (by omega) (by omega)
theorem spec_nearest_eq {n a b : Int} {t f K : Nat} (ht : 2 * n * a = (t : Int)) (hf : 2 * n * b = (f : Int)) (hn : 1 ≤ n ∧ n ≤ 60) (h : 2 * t + 3 * f ≤ 800) (hK : 1000010001000 ≤ K) : spec_l09Nearest.f K n a b = some ((nr t f : Nat) : Int) := by
  unfold spec_l09Nearest.f
  have := (nr_spec h).2.2
  exact spec_nearest_l0 ht hf hn h (nr t f) 0 K (by omega) (by omega)

theorem spec_bestMap {K : Nat} (n : Int) (hK : 1000010001000 ≤ K) : spec_BestMap.f K n = some (bestMap n) := by
  unfold spec_BestMap.f bestMap
  rw [l01In_eq]
  simp only [Option.bind_some]
  by_cases h : 1 ≤ n ∧ n ≤ 60
  · rw [if_pos (by simpa using h), if_pos h]
    have h1 := spec_nearest_eq (n := n) (a := 1) (b := 0) (t := 2 * n.toNat) (f := 0) (K := K) (by omega) (by omega) h (by omega) hK
    have h2 := spec_nearest_eq (n := n) (a := 0) (b := 1) (t := 0) (f := 2 * n.toNat) (K := K) (by omega) (by omega) h (by omega) hK
    rw [h1, Option.bind_some, h2, Option.bind_some]
  · rw [if_neg (by simpa using h), if_neg h]

def mapOk (a b c : Int) : Bool := decide ((1 ≤ a ∧ a ≤ 60) ∧ (0 ≤ b ∧ b ≤ 200) ∧ (0 ≤ c ∧ c ≤ 200))
theorem spec_mapOk (a b c : Int) : spec_MapOk.f a b c = some (mapOk a b c) := by
  unfold spec_MapOk.f mapOk
  simp only [l01In_eq, Option.bind_some]
  by_cases h1 : 1 ≤ a ∧ a ≤ 60 <;> by_cases h2 : 0 ≤ b ∧ b ≤ 200 <;> simp [h1, h2]
theorem impl_mapOk (a b c : Int) : impl_MapOk.f a b c = some (mapOk a b c) := by
  unfold impl_MapOk.f mapOk
  simp only [within_eq, Option.bind_some]
  by_cases h1 : 1 ≤ a ∧ a ≤ 60 <;> by_cases h2 : 0 ≤ b ∧ b ≤ 200 <;> simp [h1, h2]
theorem mapOk_bounds {a b c : Int} (h : mapOk a b c = true) : (1 ≤ a ∧ a ≤ 60) ∧ (0 ≤ b ∧ b ≤ 200) ∧ (0 ≤ c ∧ c ≤ 200) := of_decide_eq_true h

theorem nr_small : ∀ n : Fin 61, nr (2 * n.val) 0 ≤ 150 ∧ nr 0 (2 * n.val) ≤ 150 := by decide +kernel
theorem map_ok {l : List Int} {i : Int} {k : Nat} (h : Int) (hi : 0 ≤ i ∧ i ≤ (l.length : Int)) (hl : l.length ≤ 1048576) (hk : 1000010001000 ≤ k) : ∃ a b c i' h', spec_l09Map.f k l i h = some (a, b, c, i', h') ∧ mapOk a b c = true ∧ (0 ≤ i' ∧ i' ≤ (l.length : Int)) := by
  unfold spec_l09Map.f
  obtain ⟨x, i1, h1, e1, x0, x1, _, hi1⟩ := below_ok h 24 hi hl
  have x2 := x1 (by omega)
  rw [e1, Option.bind_some, wrap_id (x := 1 + x) (by omega), spec_bestMap _ hk, Option.bind_some]
  obtain ⟨n, hn⟩ : ∃ n : Nat, 1 + x = (n : Int) := ⟨(1 + x).toNat, by omega⟩
  rw [hn]
  unfold bestMap
  rw [if_pos (by omega), Int.toNat_natCast]
  have hs := nr_small ⟨n, by omega⟩
  simp only at hs
  generalize nr (2 * n) 0 = u at *
  generalize nr 0 (2 * n) = v at *
  obtain ⟨b, i2, h2, e2, hi2⟩ := once_ok h1 3 hi1 hl
  rw [e2, Option.bind_some]
  dsimp only
  by_cases hb : b = true
  · rw [if_pos hb]
    obtain ⟨y, i3, h3, e3, y0, y1, _, hi3⟩ := below_ok h2 3 hi2 hl
    have y2 := y1 (by omega)
    rw [e3, Option.bind_some]
    dsimp only
    rw [wrap_id (by omega)]
    exact ⟨_, _, _, _, _, rfl, decide_eq_true (by omega), hi3⟩
  · rw [if_neg hb]
    exact ⟨_, _, _, _, _, rfl, decide_eq_true (by omega), hi2⟩
theorem drawMaps_ok {l : List Int} {k : Nat} (hl : l.length ≤ 1048576) (hk : 1000010001000 ≤ k) : ∃ a b c x y z, spec_DrawMaps.f k l = some (a, b, c, x, y, z) ∧ mapOk a b c = true ∧ mapOk x y z = true := by
  unfold spec_DrawMaps.f
  obtain ⟨h, e0⟩ := new_ok (l := l) (k := k) hl (by omega)
  rw [e0, Option.bind_some]
  obtain ⟨a, b, c, i1, h1, e1, m1, hi1⟩ := map_ok (l := l) (i := 0) (k := k) h (by omega) hl hk
  rw [e1, Option.bind_some]
  obtain ⟨x, y, z, i2, h2, e2, m2, hi2⟩ := map_ok (k := k) h1 hi1 hl hk
  rw [e2, Option.bind_some]
  exact ⟨a, b, c, x, y, z, rfl, m1, m2⟩

def tb : List Int := [2, 3, 5, 6, 8, 10, 11, 13, 14, 16, 17, 19, 21, 22, 24, 25, 27, 29, 30, 32, 33, 35, 36, 38]
def tc : List Int := [2, 5, 7, 9, 12, 14, 16, 19, 21, 23, 26, 28, 30, 33, 35, 37, 39, 42, 44, 46, 49, 51, 53, 56]
theorem tab_eq : ∀ n : Fin 24, ((nr (2 * (n.val + 1)) 0 : Nat) : Int) = tb.getD n.val 0 ∧ ((nr 0 (2 * (n.val + 1)) : Nat) : Int) = tc.getD n.val 0 := by decide +kernel
theorem map_tab {l : List Int} {i : Int} {k : Nat} (h : Int) (hi : 0 ≤ i ∧ i ≤ (l.length : Int)) (hl : l.length ≤ 1048576) (hk : 1000010001000 ≤ k) : ∃ (n : Fin 24) (e : Fin 3) (i' h' : Int), spec_l09Map.f k l i h = some ((n.val : Int) + 1, tb.getD n.val 0, tc.getD n.val 0 + (e.val : Int), i', h') ∧ (0 ≤ i' ∧ i' ≤ (l.length : Int)) := by
  unfold spec_l09Map.f
  obtain ⟨x, i1, h1, e1, x0, x1, _, hi1⟩ := below_ok h 24 hi hl
  have x2 := x1 (by omega)
  rw [e1, Option.bind_some, wrap_id (x := 1 + x) (by omega), spec_bestMap _ hk, Option.bind_some]
  obtain ⟨n, hn⟩ : ∃ n : Nat, 1 + x = ((n + 1 : Nat) : Int) := ⟨x.toNat, by omega⟩
  rw [hn]
  unfold bestMap
  rw [if_pos (by omega), Int.toNat_natCast]
  have hs := tab_eq ⟨n, by omega⟩
  have hz := nr_small ⟨n + 1, by omega⟩
  simp only at hs hz
  rw [hs.1, hs.2]
  have z2 : 0 ≤ tc.getD n 0 ∧ tc.getD n 0 ≤ 150 := by rw [← hs.2]; omega
  obtain ⟨b, i2, h2, e2, hi2⟩ := once_ok h1 3 hi1 hl
  rw [e2, Option.bind_some]
  dsimp only
  by_cases hb : b = true
  · rw [if_pos hb]
    obtain ⟨y, i3, h3, e3, y0, y1, _, hi3⟩ := below_ok h2 3 hi2 hl
    have y2 := y1 (by omega)
    rw [e3, Option.bind_some]
    dsimp only
    rw [wrap_id (by omega)]
    refine ⟨⟨n, by omega⟩, ⟨y.toNat, by omega⟩, i3, h3, ?_, hi3⟩
    simp only
    rw [Int.toNat_of_nonneg y0]; rfl
  · rw [if_neg hb]
    refine ⟨⟨n, by omega⟩, ⟨0, by omega⟩, i2, h2, ?_, hi2⟩
    simp
theorem drawMaps_tab {l : List Int} {k : Nat} (hl : l.length ≤ 1048576) (hk : 1000010001000 ≤ k) : ∃ (n m : Fin 24) (e f : Fin 3), spec_DrawMaps.f k l = some ((n.val : Int) + 1, tb.getD n.val 0, tc.getD n.val 0 + (e.val : Int), (m.val : Int) + 1, tb.getD m.val 0, tc.getD m.val 0 + (f.val : Int)) := by
  unfold spec_DrawMaps.f
  obtain ⟨h, e0⟩ := new_ok (l := l) (k := k) hl (by omega)
  rw [e0, Option.bind_some]
  obtain ⟨n, e, i1, h1, e1, hi1⟩ := map_tab (l := l) (i := 0) (k := k) h (by omega) hl hk
  rw [e1, Option.bind_some]
  obtain ⟨m, f, i2, h2, e2, hi2⟩ := map_tab (k := k) h1 hi1 hl hk
  rw [e2, Option.bind_some]
  exact ⟨n, m, e, f, rfl⟩

def addMaps (a b c x y z : Int) : Int × Int × Int × Bool := if mapOk a b c = true ∧ mapOk x y z = true ∧ mapOk (a + x) (b + y) (c + z) = true then (a + x, b + y, c + z, true) else (0, 0, 0, false)
theorem impl_addMaps (a b c x y z : Int) : impl_AddMaps.f a b c x y z = some (addMaps a b c x y z) := by
  unfold impl_AddMaps.f addMaps
  simp only [impl_mapOk, Option.bind_some]
  by_cases h1 : mapOk a b c = true
  · by_cases h2 : mapOk x y z = true
    · obtain ⟨m1, m2, m3⟩ := mapOk_bounds h1
      obtain ⟨n1, n2, n3⟩ := mapOk_bounds h2
      rw [if_pos h1, if_pos h2, wrap_id (x := a + x) (by omega), wrap_id (x := b + y) (by omega), wrap_id (x := c + z) (by omega)]
      by_cases h3 : mapOk (a + x) (b + y) (c + z) = true
      · rw [if_pos h3, if_pos ⟨h1, h2, h3⟩]
      · rw [if_neg h3, if_neg (fun h => h3 h.2.2)]
    · rw [if_pos h1, if_neg h2, if_neg (fun h => h2 h.2.1)]
  · rw [if_neg h1, if_neg (fun h => h1 h.1)]

def iok (a b c d : Int) : Bool := decide ((1 ≤ d ∧ d ≤ 12) ∧ (-400 ≤ a ∧ a ≤ 400) ∧ (-400 ≤ b ∧ b ≤ 400) ∧ (-400 ≤ c ∧ c ≤ 400))
theorem spec_iok (a b c d : Int) : spec_IntervalOk.f a b c d = some (iok a b c d) := by
  unfold spec_IntervalOk.f iok
  simp only [l01In_eq, Option.bind_some]
  by_cases h1 : 1 ≤ d ∧ d ≤ 12 <;> by_cases h2 : -400 ≤ a ∧ a ≤ 400 <;> by_cases h3 : -400 ≤ b ∧ b ≤ 400 <;> simp [h1, h2, h3]
theorem impl_iok (a b c d : Int) : impl_IntervalOk.f a b c d = some (iok a b c d) := by
  unfold impl_IntervalOk.f iok
  simp only [within_eq, Option.bind_some]
  by_cases h1 : 1 ≤ d ∧ d ≤ 12 <;> by_cases h2 : -400 ≤ a ∧ a ≤ 400 <;> by_cases h3 : -400 ≤ b ∧ b ≤ 400 <;> simp [h1, h2, h3]
theorem iok_bounds {a b c d : Int} (h : iok a b c d = true) : (1 ≤ d ∧ d ≤ 12) ∧ (-400 ≤ a ∧ a ≤ 400) ∧ (-400 ≤ b ∧ b ≤ 400) ∧ (-400 ≤ c ∧ c ≤ 400) := of_decide_eq_true h
theorem iok_mk {a b c d : Int} (h : (1 ≤ d ∧ d ≤ 12) ∧ (-400 ≤ a ∧ a ≤ 400) ∧ (-400 ≤ b ∧ b ≤ 400) ∧ (-400 ≤ c ∧ c ≤ 400)) : iok a b c d = true := decide_eq_true h

def stepsIn (a b c x y z r : Int) : Int × Bool := if mapOk a b c = true ∧ iok x y z r = true ∧ r = 1 then (a * x + b * y + c * z, true) else (0, false)
theorem mul_bound {a x A X : Int} (ha : 0 ≤ a ∧ a ≤ A) (hx : -X ≤ x ∧ x ≤ X) : -(A * X) ≤ a * x ∧ a * x ≤ A * X := by
  have hA : 0 ≤ A := by omega
  have hX : 0 ≤ X := by omega
  constructor
  · have h1 : a * (-X) ≤ a * x := Int.mul_le_mul_of_nonneg_left hx.1 ha.1
    have h2 : a * X ≤ A * X := Int.mul_le_mul_of_nonneg_right ha.2 hX
    have h3 : a * (-X) = -(a * X) := by rw [Int.mul_neg]
    omega
  · have h1 : a * x ≤ a * X := Int.mul_le_mul_of_nonneg_left hx.2 ha.1
    have h2 : a * X ≤ A * X := Int.mul_le_mul_of_nonneg_right ha.2 hX
    omega
theorem steps_wrap {a b c x y z r : Int} (hm : mapOk a b c = true) (hi : iok x y z r = true) : wrap64 ((wrap64 ((wrap64 (a * x)) + (wrap64 (b * y)))) + (wrap64 (c * z))) = a * x + b * y + c * z := by
  obtain ⟨m1, m2, m3⟩ := mapOk_bounds hm
  obtain ⟨i1, i2, i3, i4⟩ := iok_bounds hi
  have p1 := mul_bound (a := a) (x := x) (A := 60) (X := 400) (by omega) (by omega)
  have p2 := mul_bound (a := b) (x := y) (A := 200) (X := 400) (by omega) (by omega)
  have p3 := mul_bound (a := c) (x := z) (A := 200) (X := 400) (by omega) (by omega)
  rw [wrap_id (x := a * x) (by omega), wrap_id (x := b * y) (by omega), wrap_id (x := c * z) (by omega), wrap_id (x := a * x + b * y) (by omega), wrap_id (by omega)]
theorem impl_stepsIn (a b c x y z r : Int) : impl_StepsIn.f a b c x y z r = some (stepsIn a b c x y z r) := by
  unfold impl_StepsIn.f stepsIn
  simp only [impl_mapOk, impl_iok, Option.bind_some]
  by_cases h1 : mapOk a b c = true
  · by_cases h2 : iok x y z r = true
    · rw [if_pos h1, if_pos h2, steps_wrap h1 h2]
      by_cases h3 : r = 1
      · rw [if_pos h3, if_pos ⟨h1, h2, h3⟩]
      · rw [if_neg h3, if_neg (fun h => h3 h.2.2)]
    · rw [if_pos h1, if_neg h2, if_neg (fun h => h2 h.2.1)]
  · rw [if_neg h1, if_neg (fun h => h1 h.1)]

def hides (a b c x y z r : Int) : Bool := (stepsIn a b c x y z r).2 && ((stepsIn a b c x y z r).1 == 0)
theorem impl_hides (a b c x y z r : Int) : impl_Hides.f a b c x y z r = some (hides a b c x y z r) := by
  unfold impl_Hides.f hides
  rw [impl_stepsIn]
  simp only [Option.bind_some]
  cases (stepsIn a b c x y z r).2 <;> simp

theorem impl_gcd_l0 : ∀ (k : Nat) (y x : Int), y.natAbs < k → (-4611686018427387904 ≤ x ∧ x ≤ 4611686018427387904) → (-4611686018427387904 ≤ y ∧ y ≤ 4611686018427387904) → impl_divisor.l0 k x y = some ((Int.gcd x y : Nat) : Int) := by
  intro k
  induction k with
  | zero => intro y x h; omega
  | succ k ih =>
    intro y x h hx hy
    simp only [impl_divisor.l0]
    by_cases h0 : y = 0
    · subst h0
      rw [if_pos rfl]
      by_cases hn : x < 0
      · rw [if_pos hn, wrap_id (by omega)]
        simp; omega
      · rw [if_neg hn]
        simp; omega
    · rw [if_neg h0]
      have e : (Int.tmod x y).natAbs = x.natAbs % y.natAbs := Int.natAbs_tmod x y
      have hl : x.natAbs % y.natAbs < y.natAbs := Nat.mod_lt _ (by omega)
      rw [ih (Int.tmod x y) y (by omega) hy (by omega)]
      congr 2
      unfold Int.gcd
      rw [e]
      exact ((Nat.gcd_comm _ _).trans (Nat.gcd_rec y.natAbs x.natAbs).symm).trans (Nat.gcd_comm _ _)
theorem impl_gcd {k : Nat} {a b : Int} (ha : -4611686018427387904 ≤ a ∧ a ≤ 4611686018427387904) (hb : -4611686018427387904 ≤ b ∧ b ≤ 4611686018427387904) (hk : b.natAbs < k) :
    impl_divisor.f k a b = some ((Int.gcd a b : Nat) : Int) := impl_gcd_l0 k b a hk ha hb

def g4 (a b c d : Int) : Int := ((Int.gcd ((Int.gcd a b : Nat) : Int) ((Int.gcd c d : Nat) : Int) : Nat) : Int)
def simp4 (a b c d : Int) : Int × Int × Int × Int := (Int.tdiv a (g4 a b c d), Int.tdiv b (g4 a b c d), Int.tdiv c (g4 a b c d), Int.tdiv d (g4 a b c d))
theorem gcd_le_right {c d : Int} (h : 1 ≤ d) : Int.gcd c d ≤ d.natAbs := Nat.le_of_dvd (by omega) (Nat.gcd_dvd_right _ _)
theorem gcd_le_bound {a b : Int} {B : Nat} (ha : a.natAbs ≤ B) (hb : b.natAbs ≤ B) : Int.gcd a b ≤ B := by
  unfold Int.gcd
  rcases Nat.eq_zero_or_pos b.natAbs with h | h
  · rw [h, Nat.gcd_zero_right]; exact ha
  · exact Nat.le_trans (Nat.le_of_dvd h (Nat.gcd_dvd_right _ _)) hb
theorem g4_pos {a b c d : Int} (h : 1 ≤ d) : 1 ≤ g4 a b c d := by
  unfold g4
  have h1 : 0 < Int.gcd c d := Int.gcd_pos_of_ne_zero_right _ (by omega)
  have : 0 < Int.gcd ((Int.gcd a b : Nat) : Int) ((Int.gcd c d : Nat) : Int) := Int.gcd_pos_of_ne_zero_right _ (by omega)
  omega
theorem tdiv_bound {a g : Int} {B : Int} (hg : 1 ≤ g) (h : -B ≤ a ∧ a ≤ B) : -B ≤ Int.tdiv a g ∧ Int.tdiv a g ≤ B := by
  have h1 : (Int.tdiv a g).natAbs ≤ a.natAbs := by rw [Int.natAbs_tdiv]; exact Nat.div_le_self _ _
  omega
theorem impl_simple {k : Nat} {a b c d : Int} (ha : -1000000 ≤ a ∧ a ≤ 1000000) (hb : -1000000 ≤ b ∧ b ≤ 1000000) (hc : -1000000 ≤ c ∧ c ≤ 1000000) (hd : 1 ≤ d ∧ d ≤ 1000000) (hk : 1000000 < k) :
    impl_simplest.f k a b c d = some (simp4 a b c d) := by
  unfold impl_simplest.f
  have e1 := gcd_le_bound (a := a) (b := b) (B := 1000000) (by omega) (by omega)
  have e2 := gcd_le_bound (a := c) (b := d) (B := 1000000) (by omega) (by omega)
  have hg := g4_pos (a := a) (b := b) (c := c) hd.1
  rw [impl_gcd (by omega) (by omega) (by omega)]
  simp only [Option.bind_some]
  rw [impl_gcd (by omega) (by omega) (by omega)]
  simp only [Option.bind_some]
  rw [impl_gcd (by omega) (by omega) (by omega)]
  simp only [Option.bind_some]
  show (if g4 a b c d = 0 then none else some (wrap64 (Int.tdiv a (g4 a b c d)), wrap64 (Int.tdiv b (g4 a b c d)), wrap64 (Int.tdiv c (g4 a b c d)), wrap64 (Int.tdiv d (g4 a b c d)))) = _
  have b1 := tdiv_bound hg ha
  have b2 := tdiv_bound hg hb
  have b3 := tdiv_bound hg hc
  have b4 := tdiv_bound (B := 1000000) hg (show -1000000 ≤ d ∧ d ≤ 1000000 by omega)
  rw [if_neg (by omega), wrap_id (by omega), wrap_id (by omega), wrap_id (by omega), wrap_id (by omega)]
  rfl

def chk (a b c d : Int) : Int × Int × Int × Int × Bool := if iok (simp4 a b c d).1 (simp4 a b c d).2.1 (simp4 a b c d).2.2.1 (simp4 a b c d).2.2.2 = true then ((simp4 a b c d).1, (simp4 a b c d).2.1, (simp4 a b c d).2.2.1, (simp4 a b c d).2.2.2, true) else (0, 0, 0, 0, false)
theorem impl_checked {k : Nat} {a b c d : Int} (ha : -1000000 ≤ a ∧ a ≤ 1000000) (hb : -1000000 ≤ b ∧ b ≤ 1000000) (hc : -1000000 ≤ c ∧ c ≤ 1000000) (hd : 1 ≤ d ∧ d ≤ 1000000) (hk : 1000000 < k) :
    impl_okInterval.f k a b c d = some (chk a b c d) := by
  unfold impl_okInterval.f chk
  rw [impl_simple ha hb hc hd hk]
  simp only [Option.bind_some, impl_iok]
  split <;> rfl

theorem mulb {a x A X : Int} (ha : -A ≤ a ∧ a ≤ A) (hx : -X ≤ x ∧ x ≤ X) : -(A * X) ≤ a * x ∧ a * x ≤ A * X := by
  have hA : 0 ≤ A := by omega
  have hX : 0 ≤ X := by omega
  have h : (a * x).natAbs ≤ (A * X).natAbs := by
    rw [Int.natAbs_mul, Int.natAbs_mul]
    exact Nat.mul_le_mul (by omega) (by omega)
  have h2 : 0 ≤ A * X := Int.mul_nonneg hA hX
  omega

def timesI (a b c d n : Int) : Int × Int × Int × Int × Bool := if iok a b c d = true ∧ (-400 ≤ n ∧ n ≤ 400) then chk (n * a) (n * b) (n * c) d else (0, 0, 0, 0, false)
theorem impl_timesI {k : Nat} (a b c d n : Int) (hk : 1000000 < k) : impl_TimesInterval.f k a b c d n = some (timesI a b c d n) := by
  unfold impl_TimesInterval.f timesI
  rw [impl_iok]
  simp only [Option.bind_some, within_eq]
  by_cases h1 : iok a b c d = true
  · by_cases h2 : -400 ≤ n ∧ n ≤ 400
    · obtain ⟨i1, i2, i3, i4⟩ := iok_bounds h1
      rw [if_pos h1, if_pos (by simpa using h2), if_pos ⟨h1, h2⟩]
      have m1 := mulb (A := 400) (X := 400) (a := n) (x := a) (by omega) (by omega)
      have m2 := mulb (A := 400) (X := 400) (a := n) (x := b) (by omega) (by omega)
      have m3 := mulb (A := 400) (X := 400) (a := n) (x := c) (by omega) (by omega)
      rw [Int.mul_comm a n, Int.mul_comm b n, Int.mul_comm c n, wrap_id (x := n * a) (by omega), wrap_id (x := n * b) (by omega), wrap_id (x := n * c) (by omega), impl_checked (by omega) (by omega) (by omega) (by omega) hk]
      rfl
    · rw [if_pos h1, if_neg (by simpa using h2), if_neg (fun h => h2 h.2)]
  · rw [if_neg h1, if_neg (fun h => h1 h.1)]
theorem chk_bounds (a b c d : Int) : (-400 ≤ (chk a b c d).1 ∧ (chk a b c d).1 ≤ 400) ∧ (-400 ≤ (chk a b c d).2.1 ∧ (chk a b c d).2.1 ≤ 400) ∧ (-400 ≤ (chk a b c d).2.2.1 ∧ (chk a b c d).2.2.1 ≤ 400) := by
  unfold chk
  split
  · rename_i h
    obtain ⟨i1, i2, i3, i4⟩ := iok_bounds h
    exact ⟨i2, i3, i4⟩
  · simp
theorem timesI_bounds (a b c d n : Int) : (-400 ≤ (timesI a b c d n).1 ∧ (timesI a b c d n).1 ≤ 400) ∧ (-400 ≤ (timesI a b c d n).2.1 ∧ (timesI a b c d n).2.1 ≤ 400) ∧ (-400 ≤ (timesI a b c d n).2.2.1 ∧ (timesI a b c d n).2.2.1 ≤ 400) := by
  unfold timesI; split
  · exact chk_bounds _ _ _ _
  · simp

def signOf (a b c d : Int) : Int := if iok a b c d = true then sgn3 a b c else 0
theorem impl_signOf {k : Nat} (a b c d : Int) (hk : 100000000 ≤ k) : impl_SignOf.f k a b c d = some (signOf a b c d) := by
  unfold impl_SignOf.f signOf
  rw [impl_iok, Option.bind_some]
  by_cases h : iok a b c d = true
  · obtain ⟨i1, i2, i3, i4⟩ := iok_bounds h
    rw [if_pos h, if_pos h, impl_sign_eq (by omega) (by omega) (by omega) hk]; rfl
  · rw [if_neg h, if_neg h]

theorem gcd_le_b {a b : Int} {B : Nat} (ha : a.natAbs ≤ B) (hb : b.natAbs ≤ B) : Int.gcd a b ≤ B := by
  unfold Int.gcd
  rcases Nat.eq_zero_or_pos b.natAbs with h | h
  · rw [h, Nat.gcd_zero_right]; exact ha
  · exact Nat.le_trans (Nat.le_of_dvd h (Nat.gcd_dvd_right _ _)) hb

def sx (a b c x y z : Int) : Int := b * z - c * y
def sy (a b c x y z : Int) : Int := c * x - a * z
def sz (a b c x y z : Int) : Int := a * y - b * x
def sg (a b c x y z : Int) : Int := ((Int.gcd ((Int.gcd (sx a b c x y z) (sy a b c x y z) : Nat) : Int) (sz a b c x y z) : Nat) : Int)
def sharedEnd (X Y Z : Int) : Int × Int × Int × Int × Bool := if iok X Y Z 1 = true then (if sgn3 X Y Z < 0 then (-X, -Y, -Z, 1, true) else (X, Y, Z, 1, true)) else (0, 0, 0, 0, false)
def sharedBy (a b c x y z : Int) : Int × Int × Int × Int × Bool :=
  if mapOk a b c = true ∧ mapOk x y z = true then (if sg a b c x y z = 0 then (0, 0, 0, 0, false) else sharedEnd (Int.tdiv (sx a b c x y z) (sg a b c x y z)) (Int.tdiv (sy a b c x y z) (sg a b c x y z)) (Int.tdiv (sz a b c x y z) (sg a b c x y z))) else (0, 0, 0, 0, false)
theorem s_wrap {a b x y A B : Int} (ha : 0 ≤ a ∧ a ≤ 200) (hb : 0 ≤ b ∧ b ≤ 200) (hx : 0 ≤ x ∧ x ≤ 200) (hy : 0 ≤ y ∧ y ≤ 200) : wrap64 ((wrap64 (a * y)) - (wrap64 (b * x))) = a * y - b * x ∧ (-40000 ≤ a * y - b * x ∧ a * y - b * x ≤ 40000) := by
  have m1 := mulb (A := 200) (X := 200) (a := a) (x := y) (by omega) (by omega)
  have m2 := mulb (A := 200) (X := 200) (a := b) (x := x) (by omega) (by omega)
  have n1 : 0 ≤ a * y := Int.mul_nonneg ha.1 hy.1
  have n2 : 0 ≤ b * x := Int.mul_nonneg hb.1 hx.1
  rw [wrap_id (x := a * y) (by omega), wrap_id (x := b * x) (by omega), wrap_id (by omega)]
  exact ⟨rfl, by omega⟩
theorem tdiv_le {a g : Int} {B : Int} (h : -B ≤ a ∧ a ≤ B) : -B ≤ Int.tdiv a g ∧ Int.tdiv a g ≤ B := by
  have h1 : (Int.tdiv a g).natAbs ≤ a.natAbs := by rw [Int.natAbs_tdiv]; exact Nat.div_le_self _ _
  omega
theorem iok_neg (X Y Z : Int) : iok (-X) (-Y) (-Z) 1 = iok X Y Z 1 := by
  unfold iok; rw [decide_eq_decide]; omega
theorem impl_shared_j0 {k : Nat} {a b c x y z : Int} (h1 : mapOk a b c = true) (h2 : mapOk x y z = true) (hk : 100000000 ≤ k) : impl_SharedBy.j0 (k + 1) false a b c x y z = some (sharedBy a b c x y z) := by
  obtain ⟨m1, m2, m3⟩ := mapOk_bounds h1
  obtain ⟨n1, n2, n3⟩ := mapOk_bounds h2
  obtain ⟨e1, b1⟩ := s_wrap (A := 0) (B := 0) (a := b) (y := z) (b := c) (x := y) (by omega) (by omega) (by omega) (by omega)
  obtain ⟨e2, b2⟩ := s_wrap (A := 0) (B := 0) (a := c) (y := x) (b := a) (x := z) (by omega) (by omega) (by omega) (by omega)
  obtain ⟨e3, b3⟩ := s_wrap (A := 0) (B := 0) (a := a) (y := y) (b := b) (x := x) (by omega) (by omega) (by omega) (by omega)
  simp only [impl_SharedBy.j0, Bool.false_eq_true, if_false]
  rw [e1, e2, e3]
  unfold sharedBy
  rw [if_pos ⟨h1, h2⟩]
  change -40000 ≤ sx a b c x y z ∧ sx a b c x y z ≤ 40000 at b1
  change -40000 ≤ sy a b c x y z ∧ sy a b c x y z ≤ 40000 at b2
  change -40000 ≤ sz a b c x y z ∧ sz a b c x y z ≤ 40000 at b3
  change ((impl_divisor.f k (sx a b c x y z) (sy a b c x y z)).bind _) = _
  have hg := gcd_le_b (a := sx a b c x y z) (b := sy a b c x y z) (B := 40000) (by omega) (by omega)
  rw [impl_gcd (by omega) (by omega) (by omega), Option.bind_some]
  change ((impl_divisor.f k _ (sz a b c x y z)).bind _) = _
  rw [impl_gcd (by omega) (by omega) (by omega), Option.bind_some]
  change (if sg a b c x y z = 0 then _ else _) = _
  by_cases hz : sg a b c x y z = 0
  · rw [if_pos hz, if_pos hz]
  rw [if_neg hz, if_neg hz]
  have t1 := tdiv_le (g := sg a b c x y z) b1
  have t2 := tdiv_le (g := sg a b c x y z) b2
  have t3 := tdiv_le (g := sg a b c x y z) b3
  change ((impl_sign.f k (wrap64 (Int.tdiv (sx a b c x y z) (sg a b c x y z))) (wrap64 (Int.tdiv (sy a b c x y z) (sg a b c x y z))) (wrap64 (Int.tdiv (sz a b c x y z) (sg a b c x y z)))).bind fun t230 => (if t230 < 0 then ((impl_negated.f (wrap64 (Int.tdiv (sx a b c x y z) (sg a b c x y z))) (wrap64 (Int.tdiv (sy a b c x y z) (sg a b c x y z))) (wrap64 (Int.tdiv (sz a b c x y z) (sg a b c x y z))) 1).bind _) else ((impl_IntervalOk.f (wrap64 (Int.tdiv (sx a b c x y z) (sg a b c x y z))) (wrap64 (Int.tdiv (sy a b c x y z) (sg a b c x y z))) (wrap64 (Int.tdiv (sz a b c x y z) (sg a b c x y z))) 1).bind fun t236 => (if t236 = true then (some (wrap64 (Int.tdiv (sx a b c x y z) (sg a b c x y z)), wrap64 (Int.tdiv (sy a b c x y z) (sg a b c x y z)), wrap64 (Int.tdiv (sz a b c x y z) (sg a b c x y z)), 1, true)) else (some (0, 0, 0, 0, false)))))) = _
  rw [wrap_id (x := Int.tdiv (sx a b c x y z) (sg a b c x y z)) (by omega), wrap_id (x := Int.tdiv (sy a b c x y z) (sg a b c x y z)) (by omega), wrap_id (x := Int.tdiv (sz a b c x y z) (sg a b c x y z)) (by omega)]
  generalize Int.tdiv (sx a b c x y z) (sg a b c x y z) = X at *
  generalize Int.tdiv (sy a b c x y z) (sg a b c x y z) = Y at *
  generalize Int.tdiv (sz a b c x y z) (sg a b c x y z) = Z at *
  rw [impl_sign_eq (by omega) (by omega) (by omega) hk, Option.bind_some]
  unfold sharedEnd impl_negated.f
  rw [wrap_id (x := -X) (by omega), wrap_id (x := -Y) (by omega), wrap_id (x := -Z) (by omega)]
  simp only [Option.bind_some, impl_iok, iok_neg]
  by_cases hs : sgn3 X Y Z < 0 <;> by_cases ho : iok X Y Z 1 = true <;> simp [hs, ho]
theorem impl_sharedBy {k : Nat} (a b c x y z : Int) (hk : 100000001 ≤ k) : impl_SharedBy.f k a b c x y z = some (sharedBy a b c x y z) := by
  obtain ⟨k, rfl⟩ : ∃ q, k = q + 1 := ⟨k - 1, by omega⟩
  unfold impl_SharedBy.f
  rw [impl_mapOk, Option.bind_some]
  by_cases h1 : mapOk a b c = true
  · rw [if_pos h1, impl_mapOk, Option.bind_some]
    by_cases h2 : mapOk x y z = true
    · rw [h2]; exact impl_shared_j0 h1 h2 (by omega)
    · rw [Bool.eq_false_iff.2 h2]
      unfold sharedBy; rw [if_neg (fun h => h2 h.2)]
      simp [impl_SharedBy.j0]
  · rw [if_neg h1]
    unfold sharedBy; rw [if_neg (fun h => h1 h.1)]
    simp [impl_SharedBy.j0]

theorem spec_signOf {k : Nat} (a b c d : Int) (hk : 1000010000001 ≤ k) : spec_SignOf.f k a b c d = some (signOf a b c d) := by
  unfold spec_SignOf.f signOf
  rw [spec_iok, Option.bind_some]
  by_cases h : iok a b c d = true
  · obtain ⟨i1, i2, i3, i4⟩ := iok_bounds h
    rw [if_pos h, if_pos h, spec_sign (by omega) (by omega) (by omega) hk]; rfl
  · rw [if_neg h, if_neg h]

theorem spec_shared_j0 {k : Nat} {a b c x y z : Int} (h1 : mapOk a b c = true) (h2 : mapOk x y z = true) (hk : 1000010000001 ≤ k) : spec_SharedBy.j0 (k + 1) false a b c x y z = some (sharedBy a b c x y z) := by
  obtain ⟨m1, m2, m3⟩ := mapOk_bounds h1
  obtain ⟨n1, n2, n3⟩ := mapOk_bounds h2
  obtain ⟨e1, b1⟩ := s_wrap (A := 0) (B := 0) (a := b) (y := z) (b := c) (x := y) (by omega) (by omega) (by omega) (by omega)
  obtain ⟨e2, b2⟩ := s_wrap (A := 0) (B := 0) (a := c) (y := x) (b := a) (x := z) (by omega) (by omega) (by omega) (by omega)
  obtain ⟨e3, b3⟩ := s_wrap (A := 0) (B := 0) (a := a) (y := y) (b := b) (x := x) (by omega) (by omega) (by omega) (by omega)
  simp only [spec_SharedBy.j0, Bool.false_eq_true, if_false]
  rw [e1, e2, e3]
  unfold sharedBy
  rw [if_pos ⟨h1, h2⟩]
  change -40000 ≤ sx a b c x y z ∧ sx a b c x y z ≤ 40000 at b1
  change -40000 ≤ sy a b c x y z ∧ sy a b c x y z ≤ 40000 at b2
  change -40000 ≤ sz a b c x y z ∧ sz a b c x y z ≤ 40000 at b3
  change ((spec_l03Gcd.f k (sx a b c x y z) (sy a b c x y z)).bind _) = _
  have hg := gcd_le_b (a := sx a b c x y z) (b := sy a b c x y z) (B := 40000) (by omega) (by omega)
  rw [spec_gcd (by omega) (by omega) (by omega), Option.bind_some]
  change ((spec_l03Gcd.f k _ (sz a b c x y z)).bind _) = _
  rw [spec_gcd (by omega) (by omega) (by omega), Option.bind_some]
  change (if sg a b c x y z = 0 then _ else _) = _
  by_cases hz : sg a b c x y z = 0
  · rw [if_pos hz, if_pos hz]
  rw [if_neg hz, if_neg hz]
  have t1 := tdiv_le (g := sg a b c x y z) b1
  have t2 := tdiv_le (g := sg a b c x y z) b2
  have t3 := tdiv_le (g := sg a b c x y z) b3
  have w1 : wrap64 (Int.tdiv (b * z - c * y) (sg a b c x y z)) = Int.tdiv (sx a b c x y z) (sg a b c x y z) := wrap_id (x := Int.tdiv (sx a b c x y z) (sg a b c x y z)) (by omega)
  have w2 : wrap64 (Int.tdiv (c * x - a * z) (sg a b c x y z)) = Int.tdiv (sy a b c x y z) (sg a b c x y z) := wrap_id (x := Int.tdiv (sy a b c x y z) (sg a b c x y z)) (by omega)
  have w3 : wrap64 (Int.tdiv (a * y - b * x) (sg a b c x y z)) = Int.tdiv (sz a b c x y z) (sg a b c x y z) := wrap_id (x := Int.tdiv (sz a b c x y z) (sg a b c x y z)) (by omega)
  change ((spec_IntervalOk.f (wrap64 (Int.tdiv (b * z - c * y) (sg a b c x y z))) (wrap64 (Int.tdiv (c * x - a * z) (sg a b c x y z))) (wrap64 (Int.tdiv (a * y - b * x) (sg a b c x y z))) 1).bind fun t159 => (if t159 = true then ((spec_SignOf.f k (wrap64 (Int.tdiv (b * z - c * y) (sg a b c x y z))) (wrap64 (Int.tdiv (c * x - a * z) (sg a b c x y z))) (wrap64 (Int.tdiv (a * y - b * x) (sg a b c x y z))) 1).bind fun t160 => (if t160 < 0 then (some (wrap64 (-(wrap64 (Int.tdiv (b * z - c * y) (sg a b c x y z)))), wrap64 (-(wrap64 (Int.tdiv (c * x - a * z) (sg a b c x y z)))), wrap64 (-(wrap64 (Int.tdiv (a * y - b * x) (sg a b c x y z)))), 1, true)) else (some (wrap64 (Int.tdiv (b * z - c * y) (sg a b c x y z)), wrap64 (Int.tdiv (c * x - a * z) (sg a b c x y z)), wrap64 (Int.tdiv (a * y - b * x) (sg a b c x y z)), 1, true)))) else (some (0, 0, 0, 0, false)))) = _
  rw [w1, w2, w3]
  generalize Int.tdiv (sx a b c x y z) (sg a b c x y z) = X at *
  generalize Int.tdiv (sy a b c x y z) (sg a b c x y z) = Y at *
  generalize Int.tdiv (sz a b c x y z) (sg a b c x y z) = Z at *
  rw [spec_iok, Option.bind_some, spec_signOf _ _ _ _ hk, Option.bind_some, wrap_id (x := -X) (by omega), wrap_id (x := -Y) (by omega), wrap_id (x := -Z) (by omega)]
  unfold sharedEnd signOf
  by_cases ho : iok X Y Z 1 = true
  · by_cases hs : sgn3 X Y Z < 0 <;> simp [hs, ho]
  · simp [ho]
theorem spec_sharedBy {k : Nat} (a b c x y z : Int) (hk : 1000010000002 ≤ k) : spec_SharedBy.f k a b c x y z = some (sharedBy a b c x y z) := by
  obtain ⟨k, rfl⟩ : ∃ q, k = q + 1 := ⟨k - 1, by omega⟩
  unfold spec_SharedBy.f
  rw [spec_mapOk, Option.bind_some]
  by_cases h1 : mapOk a b c = true
  · rw [if_pos h1, spec_mapOk, Option.bind_some]
    by_cases h2 : mapOk x y z = true
    · rw [h2]; exact spec_shared_j0 h1 h2 (by omega)
    · rw [Bool.eq_false_iff.2 h2]
      unfold sharedBy; rw [if_neg (fun h => h2 h.2)]
      simp [spec_SharedBy.j0]
  · rw [if_neg h1]
    unfold sharedBy; rw [if_neg (fun h => h1 h.1)]
    simp [spec_SharedBy.j0]

theorem simp4_one (a b c : Int) : simp4 a b c 1 = (a, b, c, 1) := by
  have hg : g4 a b c 1 = 1 := by
    unfold g4
    have h1 : Int.gcd c 1 = 1 := by simp
    rw [h1]; simp
  unfold simp4
  rw [hg]
  simp
def near200 (x : Int) : Bool := decide (-200 ≤ x ∧ x ≤ 200)
def crossOk (a b c x y z : Int) : Bool := mapOk a b c && (mapOk x y z && (near200 (sx a b c x y z) && (near200 (sy a b c x y z) && near200 (sz a b c x y z))))
theorem cross_fin : ∀ n m : Fin 24, ∀ e f : Fin 3, crossOk ((n.val : Int) + 1) (tb.getD n.val 0) (tc.getD n.val 0 + (e.val : Int)) ((m.val : Int) + 1) (tb.getD m.val 0) (tc.getD m.val 0 + (f.val : Int)) = true := by decide +kernel
def Sh (a b c x y z X Y Z : Int) : Prop := iok X Y Z 1 = true ∧ a * X + b * Y + c * Z = 0 ∧ x * X + y * Y + z * Z = 0 ∧ 0 ≤ sgn3 X Y Z ∧ (-200 ≤ X ∧ X ≤ 200) ∧ (-200 ≤ Y ∧ Y ≤ 200) ∧ (-200 ≤ Z ∧ Z ≤ 200)
theorem lin0 {a b c X Y Z g u v w : Int} (hg : g ≠ 0) (h1 : g * X = u) (h2 : g * Y = v) (h3 : g * Z = w) (h : a * u + b * v + c * w = 0) : a * X + b * Y + c * Z = 0 := by
  subst h1 h2 h3
  have e : g * (a * X + b * Y + c * Z) = a * (g * X) + b * (g * Y) + c * (g * Z) := by
    rw [Int.mul_add, Int.mul_add, Int.mul_left_comm g a, Int.mul_left_comm g b, Int.mul_left_comm g c]
  rw [h] at e
  rcases Int.mul_eq_zero.1 e with h0 | h0
  · exact absurd h0 hg
  · exact h0
theorem shared_ok {a b c x y z : Int} (h : crossOk a b c x y z = true) : (∃ X Y Z : Int, sharedBy a b c x y z = (X, Y, Z, 1, true) ∧ Sh a b c x y z X Y Z) ∨ sharedBy a b c x y z = (0, 0, 0, 0, false) := by
  unfold crossOk near200 at h
  simp only [Bool.and_eq_true, decide_eq_true_eq] at h
  obtain ⟨m1, m2, b1, b2, b3⟩ := h
  unfold sharedBy
  rw [if_pos ⟨m1, m2⟩]
  by_cases hg : sg a b c x y z = 0
  · rw [if_pos hg]; exact .inr rfl
  rw [if_neg hg]
  have d12 : ((Int.gcd (sx a b c x y z) (sy a b c x y z) : Nat) : Int) ∣ sx a b c x y z := Int.gcd_dvd_left ..
  have d12' : ((Int.gcd (sx a b c x y z) (sy a b c x y z) : Nat) : Int) ∣ sy a b c x y z := Int.gcd_dvd_right ..
  have d3 : sg a b c x y z ∣ ((Int.gcd (sx a b c x y z) (sy a b c x y z) : Nat) : Int) := Int.gcd_dvd_left ..
  have d3' : sg a b c x y z ∣ sz a b c x y z := Int.gcd_dvd_right ..
  have q1 := Int.mul_tdiv_cancel' (Int.dvd_trans d3 d12)
  have q2 := Int.mul_tdiv_cancel' (Int.dvd_trans d3 d12')
  have q3 := Int.mul_tdiv_cancel' d3'
  have t1 := tdiv_le (g := sg a b c x y z) b1
  have t2 := tdiv_le (g := sg a b c x y z) b2
  have t3 := tdiv_le (g := sg a b c x y z) b3
  have z1 : a * sx a b c x y z + b * sy a b c x y z + c * sz a b c x y z = 0 := by unfold sx sy sz; grind
  have z2 : x * sx a b c x y z + y * sy a b c x y z + z * sz a b c x y z = 0 := by unfold sx sy sz; grind
  have l1 := lin0 hg q1 q2 q3 z1
  have l2 := lin0 hg q1 q2 q3 z2
  generalize Int.tdiv (sx a b c x y z) (sg a b c x y z) = X at *
  generalize Int.tdiv (sy a b c x y z) (sg a b c x y z) = Y at *
  generalize Int.tdiv (sz a b c x y z) (sg a b c x y z) = Z at *
  unfold sharedEnd
  by_cases ho : iok X Y Z 1 = true
  · rw [if_pos ho]
    by_cases hs : sgn3 X Y Z < 0
    · rw [if_pos hs]
      refine .inl ⟨-X, -Y, -Z, rfl, by rw [iok_neg]; exact ho, ?_, ?_, by rw [sgn3_neg]; omega, by omega, by omega, by omega⟩
      · rw [Int.mul_neg, Int.mul_neg, Int.mul_neg]; omega
      · rw [Int.mul_neg, Int.mul_neg, Int.mul_neg]; omega
    · rw [if_neg hs]
      exact .inl ⟨X, Y, Z, rfl, ho, l1, l2, by omega, t1, t2, t3⟩
  · rw [if_neg ho]; exact .inr rfl
theorem hides_zero {a b c X Y Z : Int} (hm : mapOk a b c = true) (hi : iok X Y Z 1 = true) (h : a * X + b * Y + c * Z = 0) : hides a b c X Y Z 1 = true := by
  unfold hides stepsIn
  rw [if_pos ⟨hm, hi, rfl⟩, h]; rfl
theorem times_two {X Y Z : Int} (hi : iok X Y Z 1 = true) (h1 : -200 ≤ X ∧ X ≤ 200) (h2 : -200 ≤ Y ∧ Y ≤ 200) (h3 : -200 ≤ Z ∧ Z ≤ 200) : timesI X Y Z 1 2 = (2 * X, 2 * Y, 2 * Z, 1, true) := by
  unfold timesI
  rw [if_pos ⟨hi, by omega⟩]
  unfold chk
  rw [simp4_one]
  simp only
  rw [if_pos (iok_mk (by omega))]
theorem FnShared : laws_FnShared.Pure := by
  intro l hm hl hw
  refine ⟨1000010001000, ?_⟩
  unfold laws_FnShared.f
  rw [big_eq, Option.bind_some]
  by_cases hb : 1048576 < l.length
  · rw [if_pos (decide_eq_true hb)]
  rw [if_neg (by simpa using hb)]
  obtain ⟨n, m, e, f, e1⟩ := drawMaps_tab (l := l) (k := 1000010001000) (by omega) (Nat.le_refl _)
  have hc := cross_fin n m e f
  rw [e1, Option.bind_some]
  generalize (n.val : Int) + 1 = a at *
  generalize tb.getD n.val 0 = b at *
  generalize tc.getD n.val 0 + (e.val : Int) = c at *
  generalize (m.val : Int) + 1 = x at *
  generalize tb.getD m.val 0 = y at *
  generalize tc.getD m.val 0 + (f.val : Int) = z at *
  dsimp only
  rw [impl_sharedBy _ _ _ _ _ _ (by omega), Option.bind_some]
  have hs := shared_ok hc
  unfold crossOk at hc
  simp only [Bool.and_eq_true] at hc
  obtain ⟨m1, m2, _⟩ := hc
  rcases hs with ⟨X, Y, Z, hs, s1, s2, s3, s4, s5, s6, s7⟩ | hs
  · rw [hs]
    dsimp only
    rw [impl_addMaps, Option.bind_some, impl_timesI _ _ _ _ _ (by omega), Option.bind_some, times_two s1 s5 s6 s7]
    have i2 : iok (2 * X) (2 * Y) (2 * Z) 1 = true := iok_mk (by omega)
    have g1 : hides a b c (2 * X) (2 * Y) (2 * Z) 1 = true := hides_zero m1 i2 (by rw [Int.mul_left_comm a, Int.mul_left_comm b, Int.mul_left_comm c]; omega)
    have g2 : signOf X Y Z 1 = sgn3 X Y Z := by unfold signOf; rw [if_pos s1]
    simp only [impl_hides, Option.bind_some, hides_zero m1 s1 s2, hides_zero m2 s1 s3, impl_signOf (k := 1000010001000) X Y Z 1 (by omega), g1, g2]
    by_cases h5 : mapOk (a + x) (b + y) (c + z) = true
    · have eA : addMaps a b c x y z = (a + x, b + y, c + z, true) := by unfold addMaps; rw [if_pos ⟨m1, m2, h5⟩]
      have g3 : hides (a + x) (b + y) (c + z) X Y Z 1 = true := hides_zero h5 s1 (by rw [Int.add_mul, Int.add_mul, Int.add_mul]; omega)
      rw [eA]
      simp [g3, s4]
    · have eA : addMaps a b c x y z = (0, 0, 0, false) := by unfold addMaps; rw [if_neg (fun h => h5 h.2.2)]
      rw [eA]
      simp [s4]
  · rw [hs]
    simp [spec_sharedBy a b c x y z (k := 1000010001000) (by omega), hs]

end Go.Proofs.Ytoljbcjpilcfiaa.Pure
