/- The law FnExactMeanFifth over whole numbers alone: the program's MeanFifth and the reference's give one answer. Conditions: none. -/
import Derived.Test.YtpjilchaeecpcaaQFnExactMeanFifthx2
import Derived.Test.YtpjilchaeecpcaaWMore
namespace Go.Proofs.Ytpjilchaeecpcaa.Pure
open Go.RowKit Go.Proofs.Ytpjilchaeecpcaa.PFnExactMeanFifth Go.Proofs.YtpjilchaeecpcaaW.PrintWords Go.Proofs.YtpjilchaeecpcaaW.PrintLast Go.Proofs.YtpjilchaeecpcaaW.PrintMore
set_option linter.unusedVariables false
set_option linter.unusedSimpArgs false

theorem l01In_eq (a b c : Int) : spec_l01In.f a b c = some (decide (b ≤ a ∧ a ≤ c)) := by
  unfold spec_l01In.f
  by_cases h : b ≤ a <;> simp [h]
theorem within_eq (a b c : Int) : impl_within.f a b c = some (decide (b ≤ a ∧ a ≤ c)) := by
  unfold impl_within.f
  by_cases h : b ≤ a <;> simp [h]

theorem wrap_id {x : Int} (h : -4611686018427387904 ≤ x ∧ x ≤ 4611686018427387904) : wrap64 x = x := by
  unfold wrap64; omega

def iok (a b c d : Int) : Bool := decide ((1 ≤ d ∧ d ≤ 12) ∧ (-400 ≤ a ∧ a ≤ 400) ∧ (-400 ≤ b ∧ b ≤ 400) ∧ (-400 ≤ c ∧ c ≤ 400))
theorem spec_iok (a b c d : Int) : spec_IntervalOk.f a b c d = some (iok a b c d) := by
  unfold spec_IntervalOk.f iok
  simp only [l01In_eq, Option.bind_some]
  by_cases h1 : 1 ≤ d ∧ d ≤ 12 <;> by_cases h2 : -400 ≤ a ∧ a ≤ 400 <;> by_cases h3 : -400 ≤ b ∧ b ≤ 400 <;> simp [h1, h2, h3]
theorem impl_iok (a b c d : Int) : impl_IntervalOk.f a b c d = some (iok a b c d) := by
  unfold impl_IntervalOk.f iok
  simp only [within_eq, Option.bind_some]
  by_cases h1 : 1 ≤ d ∧ d ≤ 12 <;> by_cases h2 : -400 ≤ a ∧ a ≤ 400 <;> by_cases h3 : -400 ≤ b ∧ b ≤ 400 <;> simp [h1, h2, h3]
theorem iok_bounds {a b c d : Int} (h : iok a b c d = true) : (1 ≤ d ∧ d ≤ 12) ∧ (-400 ≤ a ∧ a ≤ 400) ∧ (-400 ≤ b ∧ b ≤ 400) ∧ (-400 ≤ c ∧ c ≤ 400) := of_decide_eq_true h
theorem iok_mk {a b c d : Int} (h : (1 ≤ d ∧ d ≤ 12) ∧ (-400 ≤ a ∧ a ≤ 400) ∧ (-400 ≤ b ∧ b ≤ 400) ∧ (-400 ≤ c ∧ c ≤ 400)) : iok a b c d = true := decide_eq_true h

theorem spec_gcd_l0 : ∀ (k y x : Nat), y < k → spec_l03Gcd.l0 k (x : Int) (y : Int) = some ((Nat.gcd x y : Nat) : Int) := by
  intro k
  induction k with
  | zero => intro y x h; omega
  | succ k ih =>
    intro y x h
    simp only [spec_l03Gcd.l0]
    rcases Nat.eq_zero_or_pos y with h0 | h0
    · subst h0
      rw [if_neg (by omega)]
      simp
    · rw [if_pos (by omega), if_neg (by omega)]
      have e : Int.tmod (x : Int) (y : Int) = ((x % y : Nat) : Int) := by
        rw [Int.tmod_eq_emod_of_nonneg (by omega)]; rfl
      rw [e, ih (x % y) y (by have := Nat.mod_lt x h0; omega)]
      rw [Nat.gcd_comm x y, Nat.gcd_rec y x, Nat.gcd_comm]
theorem mx_neg {a : Int} (h : -4611686018427387904 ≤ a ∧ a ≤ 4611686018427387904) : mx a (wrap64 (-a)) = ((a.natAbs : Nat) : Int) := by
  rw [wrap_id (by omega)]
  unfold mx
  split <;> omega
theorem spec_gcd {k : Nat} {a b : Int} (ha : -4611686018427387904 ≤ a ∧ a ≤ 4611686018427387904) (hb : -4611686018427387904 ≤ b ∧ b ≤ 4611686018427387904) (hk : b.natAbs < k) :
    spec_l03Gcd.f k a b = some ((Int.gcd a b : Nat) : Int) := by
  unfold spec_l03Gcd.f
  rw [mx_neg ha, mx_neg hb, spec_gcd_l0 k _ _ hk]
  rfl

theorem impl_gcd_l0 : ∀ (k : Nat) (y x : Int), y.natAbs < k → (-4611686018427387904 ≤ x ∧ x ≤ 4611686018427387904) → (-4611686018427387904 ≤ y ∧ y ≤ 4611686018427387904) → impl_divisor.l0 k x y = some ((Int.gcd x y : Nat) : Int) := by
  intro k
  induction k with
  | zero => intro y x h; omega
  | succ k ih =>
    intro y x h hx hy
    simp only [impl_divisor.l0]
    by_cases h0 : y = 0
    · subst h0
      rw [if_pos rfl]
      by_cases hn : x < 0
      · rw [if_pos hn, wrap_id (by omega)]
        simp; omega
      · rw [if_neg hn]
        simp; omega
    · rw [if_neg h0]
      have e : (Int.tmod x y).natAbs = x.natAbs % y.natAbs := Int.natAbs_tmod x y
      have hl : x.natAbs % y.natAbs < y.natAbs := Nat.mod_lt _ (by omega)
      rw [ih (Int.tmod x y) y (by omega) hy (by omega)]
      congr 2
      unfold Int.gcd
      rw [e]
      exact ((Nat.gcd_comm _ _).trans (Nat.gcd_rec y.natAbs x.natAbs).symm).trans (Nat.gcd_comm _ _)
theorem impl_gcd {k : Nat} {a b : Int} (ha : -4611686018427387904 ≤ a ∧ a ≤ 4611686018427387904) (hb : -4611686018427387904 ≤ b ∧ b ≤ 4611686018427387904) (hk : b.natAbs < k) :
    impl_divisor.f k a b = some ((Int.gcd a b : Nat) : Int) := impl_gcd_l0 k b a hk ha hb

def g4 (a b c d : Int) : Int := ((Int.gcd ((Int.gcd a b : Nat) : Int) ((Int.gcd c d : Nat) : Int) : Nat) : Int)
def simp4 (a b c d : Int) : Int × Int × Int × Int := (Int.tdiv a (g4 a b c d), Int.tdiv b (g4 a b c d), Int.tdiv c (g4 a b c d), Int.tdiv d (g4 a b c d))
theorem gcd_le_right {c d : Int} (h : 1 ≤ d) : Int.gcd c d ≤ d.natAbs := Nat.le_of_dvd (by omega) (Nat.gcd_dvd_right _ _)
theorem gcd_le_bound {a b : Int} {B : Nat} (ha : a.natAbs ≤ B) (hb : b.natAbs ≤ B) : Int.gcd a b ≤ B := by
  unfold Int.gcd
  rcases Nat.eq_zero_or_pos b.natAbs with h | h
  · rw [h, Nat.gcd_zero_right]; exact ha
  · exact Nat.le_trans (Nat.le_of_dvd h (Nat.gcd_dvd_right _ _)) hb
theorem g4_pos {a b c d : Int} (h : 1 ≤ d) : 1 ≤ g4 a b c d := by
  unfold g4
  have h1 : 0 < Int.gcd c d := Int.gcd_pos_of_ne_zero_right _ (by omega)
  have : 0 < Int.gcd ((Int.gcd a b : Nat) : Int) ((Int.gcd c d : Nat) : Int) := Int.gcd_pos_of_ne_zero_right _ (by omega)
  omega
theorem tdiv_bound {a g : Int} {B : Int} (hg : 1 ≤ g) (h : -B ≤ a ∧ a ≤ B) : -B ≤ Int.tdiv a g ∧ Int.tdiv a g ≤ B := by
  have h1 : (Int.tdiv a g).natAbs ≤ a.natAbs := by rw [Int.natAbs_tdiv]; exact Nat.div_le_self _ _
  omega
theorem spec_simple {k : Nat} {a b c d : Int} (ha : -1000000 ≤ a ∧ a ≤ 1000000) (hb : -1000000 ≤ b ∧ b ≤ 1000000) (hc : -1000000 ≤ c ∧ c ≤ 1000000) (hd : 1 ≤ d ∧ d ≤ 1000000) (hk : 1000000 < k) :
    spec_l03Simple.f k a b c d = some (simp4 a b c d) := by
  unfold spec_l03Simple.f
  have e1 := gcd_le_bound (a := a) (b := b) (B := 1000000) (by omega) (by omega)
  have e2 := gcd_le_bound (a := c) (b := d) (B := 1000000) (by omega) (by omega)
  have hg := g4_pos (a := a) (b := b) (c := c) hd.1
  rw [spec_gcd (by omega) (by omega) (by omega)]
  simp only [Option.bind_some]
  rw [spec_gcd (by omega) (by omega) (by omega)]
  simp only [Option.bind_some]
  rw [spec_gcd (by omega) (by omega) (by omega)]
  simp only [Option.bind_some]
  show (if g4 a b c d = 0 then none else some (wrap64 (Int.tdiv a (g4 a b c d)), wrap64 (Int.tdiv b (g4 a b c d)), wrap64 (Int.tdiv c (g4 a b c d)), wrap64 (Int.tdiv d (g4 a b c d)))) = _
  have b1 := tdiv_bound hg ha
  have b2 := tdiv_bound hg hb
  have b3 := tdiv_bound hg hc
  have b4 := tdiv_bound (B := 1000000) hg (show -1000000 ≤ d ∧ d ≤ 1000000 by omega)
  rw [if_neg (by omega), wrap_id (by omega), wrap_id (by omega), wrap_id (by omega), wrap_id (by omega)]
  rfl
theorem impl_simple {k : Nat} {a b c d : Int} (ha : -1000000 ≤ a ∧ a ≤ 1000000) (hb : -1000000 ≤ b ∧ b ≤ 1000000) (hc : -1000000 ≤ c ∧ c ≤ 1000000) (hd : 1 ≤ d ∧ d ≤ 1000000) (hk : 1000000 < k) :
    impl_simplest.f k a b c d = some (simp4 a b c d) := by
  unfold impl_simplest.f
  have e1 := gcd_le_bound (a := a) (b := b) (B := 1000000) (by omega) (by omega)
  have e2 := gcd_le_bound (a := c) (b := d) (B := 1000000) (by omega) (by omega)
  have hg := g4_pos (a := a) (b := b) (c := c) hd.1
  rw [impl_gcd (by omega) (by omega) (by omega)]
  simp only [Option.bind_some]
  rw [impl_gcd (by omega) (by omega) (by omega)]
  simp only [Option.bind_some]
  rw [impl_gcd (by omega) (by omega) (by omega)]
  simp only [Option.bind_some]
  show (if g4 a b c d = 0 then none else some (wrap64 (Int.tdiv a (g4 a b c d)), wrap64 (Int.tdiv b (g4 a b c d)), wrap64 (Int.tdiv c (g4 a b c d)), wrap64 (Int.tdiv d (g4 a b c d)))) = _
  have b1 := tdiv_bound hg ha
  have b2 := tdiv_bound hg hb
  have b3 := tdiv_bound hg hc
  have b4 := tdiv_bound (B := 1000000) hg (show -1000000 ≤ d ∧ d ≤ 1000000 by omega)
  rw [if_neg (by omega), wrap_id (by omega), wrap_id (by omega), wrap_id (by omega), wrap_id (by omega)]
  rfl

def chk (a b c d : Int) : Int × Int × Int × Int × Bool := if iok (simp4 a b c d).1 (simp4 a b c d).2.1 (simp4 a b c d).2.2.1 (simp4 a b c d).2.2.2 = true then ((simp4 a b c d).1, (simp4 a b c d).2.1, (simp4 a b c d).2.2.1, (simp4 a b c d).2.2.2, true) else (0, 0, 0, 0, false)
theorem spec_checked {k : Nat} {a b c d : Int} (ha : -1000000 ≤ a ∧ a ≤ 1000000) (hb : -1000000 ≤ b ∧ b ≤ 1000000) (hc : -1000000 ≤ c ∧ c ≤ 1000000) (hd : 1 ≤ d ∧ d ≤ 1000000) (hk : 1000000 < k) :
    spec_l03Checked.f k a b c d = some (chk a b c d) := by
  unfold spec_l03Checked.f chk
  rw [spec_simple ha hb hc hd hk]
  simp only [Option.bind_some, spec_iok]
  split <;> rfl
theorem impl_checked {k : Nat} {a b c d : Int} (ha : -1000000 ≤ a ∧ a ≤ 1000000) (hb : -1000000 ≤ b ∧ b ≤ 1000000) (hc : -1000000 ≤ c ∧ c ≤ 1000000) (hd : 1 ≤ d ∧ d ≤ 1000000) (hk : 1000000 < k) :
    impl_okInterval.f k a b c d = some (chk a b c d) := by
  unfold impl_okInterval.f chk
  rw [impl_simple ha hb hc hd hk]
  simp only [Option.bind_some, impl_iok]
  split <;> rfl

theorem eqInterval_refl (a b c d : Int) : laws_eqInterval.f a b c d a b c d = some true := by
  unfold laws_eqInterval.f; simp

def meanFifth (n d : Int) : Int × Int × Int × Int × Bool := if (1 ≤ d ∧ d ≤ 12) ∧ (0 ≤ n ∧ n ≤ d) then chk (-d + 4 * n) (d - 4 * n) n d else (0, 0, 0, 0, false)
theorem spec_meanFifth {k : Nat} (n d : Int) (hk : 1000000 < k) : spec_MeanFifth.f k n d = some (meanFifth n d) := by
  unfold spec_MeanFifth.f meanFifth
  simp only [l01In_eq, Option.bind_some]
  by_cases h1 : 1 ≤ d ∧ d ≤ 12
  · by_cases h2 : 0 ≤ n ∧ n ≤ d
    · rw [if_pos (by simpa using h1), if_pos (by simpa using h2), if_pos ⟨h1, h2⟩]
      rw [wrap_id (x := -d) (by omega), wrap_id (x := 4 * n) (by omega), wrap_id (by omega), wrap_id (by omega), spec_checked (by omega) (by omega) (by omega) (by omega) hk]
      rfl
    · rw [if_pos (by simpa using h1), if_neg (by simpa using h2), if_neg (fun h => h2 h.2)]
  · rw [if_neg (by simpa using h1), if_neg (fun h => h1 h.1)]
theorem impl_meanFifth {k : Nat} (n d : Int) (hk : 1000000 < k) : impl_MeanFifth.f k n d = some (meanFifth n d) := by
  unfold impl_MeanFifth.f meanFifth
  simp only [within_eq, Option.bind_some]
  by_cases h1 : 1 ≤ d ∧ d ≤ 12
  · by_cases h2 : 0 ≤ n ∧ n ≤ d
    · rw [if_pos (by simpa using h1), if_pos (by simpa using h2), if_pos ⟨h1, h2⟩]
      rw [wrap_id (x := -d) (by omega), wrap_id (x := 4 * n) (by omega), wrap_id (by omega), wrap_id (by omega), impl_checked (by omega) (by omega) (by omega) (by omega) hk]
      rfl
    · rw [if_pos (by simpa using h1), if_neg (by simpa using h2), if_neg (fun h => h2 h.2)]
  · rw [if_neg (by simpa using h1), if_neg (fun h => h1 h.1)]

theorem FnExactMeanFifth : laws_FnExactMeanFifth.Pure := by
  intro a0 a1 _ _
  refine ⟨1000001, ?_⟩
  unfold laws_FnExactMeanFifth.f
  rw [spec_meanFifth _ _ (by omega), impl_meanFifth _ _ (by omega)]
  simp [eqInterval_refl]

end Go.Proofs.Ytpjilchaeecpcaa.Pure
