/- The law FnExactWolfOf over whole numbers alone: the program's WolfOf and the reference's give one answer. Conditions: none. -/
import Derived.Test.YtbiajmggpohgcaaQFnExactWolfOfx5
import Derived.Test.YtbiajmggpohgcaaWMore
namespace Go.Proofs.Ytbiajmggpohgcaa.Pure
open Go.RowKit Go.Proofs.Ytbiajmggpohgcaa.PFnExactWolfOf Go.Proofs.YtbiajmggpohgcaaW.PrintWords Go.Proofs.YtbiajmggpohgcaaW.PrintLast Go.Proofs.YtbiajmggpohgcaaW.PrintMore
set_option linter.unusedVariables false
set_option linter.unusedSimpArgs false

theorem l01In_eq (a b c : Int) : spec_l01In.f a b c = some (decide (b ≤ a ∧ a ≤ c)) := by
  unfold spec_l01In.f
  by_cases h : b ≤ a <;> simp [h]
theorem within_eq (a b c : Int) : impl_within.f a b c = some (decide (b ≤ a ∧ a ≤ c)) := by
  unfold impl_within.f
  by_cases h : b ≤ a <;> simp [h]

def iok (a b c d : Int) : Bool := decide ((1 ≤ d ∧ d ≤ 12) ∧ (-400 ≤ a ∧ a ≤ 400) ∧ (-400 ≤ b ∧ b ≤ 400) ∧ (-400 ≤ c ∧ c ≤ 400))
theorem spec_iok (a b c d : Int) : spec_IntervalOk.f a b c d = some (iok a b c d) := by
  unfold spec_IntervalOk.f iok
  simp only [l01In_eq, Option.bind_some]
  by_cases h1 : 1 ≤ d ∧ d ≤ 12 <;> by_cases h2 : -400 ≤ a ∧ a ≤ 400 <;> by_cases h3 : -400 ≤ b ∧ b ≤ 400 <;> simp [h1, h2, h3]
theorem impl_iok (a b c d : Int) : impl_IntervalOk.f a b c d = some (iok a b c d) := by
  unfold impl_IntervalOk.f iok
  simp only [within_eq, Option.bind_some]
  by_cases h1 : 1 ≤ d ∧ d ≤ 12 <;> by_cases h2 : -400 ≤ a ∧ a ≤ 400 <;> by_cases h3 : -400 ≤ b ∧ b ≤ 400 <;> simp [h1, h2, h3]
theorem iok_bounds {a b c d : Int} (h : iok a b c d = true) : (1 ≤ d ∧ d ≤ 12) ∧ (-400 ≤ a ∧ a ≤ 400) ∧ (-400 ≤ b ∧ b ≤ 400) ∧ (-400 ≤ c ∧ c ≤ 400) := of_decide_eq_true h
theorem iok_mk {a b c d : Int} (h : (1 ≤ d ∧ d ≤ 12) ∧ (-400 ≤ a ∧ a ≤ 400) ∧ (-400 ≤ b ∧ b ≤ 400) ∧ (-400 ≤ c ∧ c ≤ 400)) : iok a b c d = true := decide_eq_true h

theorem wrap_id {x : Int} (h : -4611686018427387904 ≤ x ∧ x ≤ 4611686018427387904) : wrap64 x = x := by
  unfold wrap64; omega

theorem spec_gcd_l0 : ∀ (k y x : Nat), y < k → spec_l03Gcd.l0 k (x : Int) (y : Int) = some ((Nat.gcd x y : Nat) : Int) := by
  intro k
  induction k with
  | zero => intro y x h; omega
  | succ k ih =>
    intro y x h
    simp only [spec_l03Gcd.l0]
    rcases Nat.eq_zero_or_pos y with h0 | h0
    · subst h0
      rw [if_neg (by omega)]
      simp
    · rw [if_pos (by omega), if_neg (by omega)]
      have e : Int.tmod (x : Int) (y : Int) = ((x % y : Nat) : Int) := by
        rw [Int.tmod_eq_emod_of_nonneg (by omega)]; rfl
      rw [e, ih (x % y) y (by have := Nat.mod_lt x h0; omega)]
      rw [Nat.gcd_comm x y, Nat.gcd_rec y x, Nat.gcd_comm]
theorem mx_neg {a : Int} (h : -4611686018427387904 ≤ a ∧ a ≤ 4611686018427387904) : mx a (wrap64 (-a)) = ((a.natAbs : Nat) : Int) := by
  rw [wrap_id (by omega)]
  unfold mx
  split <;> omega
theorem spec_gcd {k : Nat} {a b : Int} (ha : -4611686018427387904 ≤ a ∧ a ≤ 4611686018427387904) (hb : -4611686018427387904 ≤ b ∧ b ≤ 4611686018427387904) (hk : b.natAbs < k) :
    spec_l03Gcd.f k a b = some ((Int.gcd a b : Nat) : Int) := by
  unfold spec_l03Gcd.f
  rw [mx_neg ha, mx_neg hb, spec_gcd_l0 k _ _ hk]
  rfl

theorem impl_gcd_l0 : ∀ (k : Nat) (y x : Int), y.natAbs < k → (-4611686018427387904 ≤ x ∧ x ≤ 4611686018427387904) → (-4611686018427387904 ≤ y ∧ y ≤ 4611686018427387904) → impl_divisor.l0 k x y = some ((Int.gcd x y : Nat) : Int) := by
  intro k
  induction k with
  | zero => intro y x h; omega
  | succ k ih =>
    intro y x h hx hy
    simp only [impl_divisor.l0]
    by_cases h0 : y = 0
    · subst h0
      rw [if_pos rfl]
      by_cases hn : x < 0
      · rw [if_pos hn, wrap_id (by omega)]
        simp; omega
      · rw [if_neg hn]
        simp; omega
    · rw [if_neg h0]
      have e : (Int.tmod x y).natAbs = x.natAbs % y.natAbs := Int.natAbs_tmod x y
      have hl : x.natAbs % y.natAbs < y.natAbs := Nat.mod_lt _ (by omega)
      rw [ih (Int.tmod x y) y (by omega) hy (by omega)]
      congr 2
      unfold Int.gcd
      rw [e]
      exact ((Nat.gcd_comm _ _).trans (Nat.gcd_rec y.natAbs x.natAbs).symm).trans (Nat.gcd_comm _ _)
theorem impl_gcd {k : Nat} {a b : Int} (ha : -4611686018427387904 ≤ a ∧ a ≤ 4611686018427387904) (hb : -4611686018427387904 ≤ b ∧ b ≤ 4611686018427387904) (hk : b.natAbs < k) :
    impl_divisor.f k a b = some ((Int.gcd a b : Nat) : Int) := impl_gcd_l0 k b a hk ha hb

def g4 (a b c d : Int) : Int := ((Int.gcd ((Int.gcd a b : Nat) : Int) ((Int.gcd c d : Nat) : Int) : Nat) : Int)
def simp4 (a b c d : Int) : Int × Int × Int × Int := (Int.tdiv a (g4 a b c d), Int.tdiv b (g4 a b c d), Int.tdiv c (g4 a b c d), Int.tdiv d (g4 a b c d))
theorem gcd_le_right {c d : Int} (h : 1 ≤ d) : Int.gcd c d ≤ d.natAbs := Nat.le_of_dvd (by omega) (Nat.gcd_dvd_right _ _)
theorem gcd_le_bound {a b : Int} {B : Nat} (ha : a.natAbs ≤ B) (hb : b.natAbs ≤ B) : Int.gcd a b ≤ B := by
  unfold Int.gcd
  rcases Nat.eq_zero_or_pos b.natAbs with h | h
  · rw [h, Nat.gcd_zero_right]; exact ha
  · exact Nat.le_trans (Nat.le_of_dvd h (Nat.gcd_dvd_right _ _)) hb
theorem g4_pos {a b c d : Int} (h : 1 ≤ d) : 1 ≤ g4 a b c d := by
  unfold g4
  have h1 : 0 < Int.gcd c d := Int.gcd_pos_of_ne_zero_right _ (by omega)
  have : 0 < Int.gcd ((Int.gcd a b : Nat) : Int) ((Int.gcd c d : Nat) : Int) := Int.gcd_pos_of_ne_zero_right _ (by omega)
  omega
theorem tdiv_bound {a g : Int} {B : Int} (hg : 1 ≤ g) (h : -B ≤ a ∧ a ≤ B) : -B ≤ Int.tdiv a g ∧ Int.tdiv a g ≤ B := by
  have h1 : (Int.tdiv a g).natAbs ≤ a.natAbs := by rw [Int.natAbs_tdiv]; exact Nat.div_le_self _ _
  omega
theorem spec_simple {k : Nat} {a b c d : Int} (ha : -1000000 ≤ a ∧ a ≤ 1000000) (hb : -1000000 ≤ b ∧ b ≤ 1000000) (hc : -1000000 ≤ c ∧ c ≤ 1000000) (hd : 1 ≤ d ∧ d ≤ 1000000) (hk : 1000000 < k) :
    spec_l03Simple.f k a b c d = some (simp4 a b c d) := by
  unfold spec_l03Simple.f
  have e1 := gcd_le_bound (a := a) (b := b) (B := 1000000) (by omega) (by omega)
  have e2 := gcd_le_bound (a := c) (b := d) (B := 1000000) (by omega) (by omega)
  have hg := g4_pos (a := a) (b := b) (c := c) hd.1
  rw [spec_gcd (by omega) (by omega) (by omega)]
  simp only [Option.bind_some]
  rw [spec_gcd (by omega) (by omega) (by omega)]
  simp only [Option.bind_some]
  rw [spec_gcd (by omega) (by omega) (by omega)]
  simp only [Option.bind_some]
  show (if g4 a b c d = 0 then none else some (wrap64 (Int.tdiv a (g4 a b c d)), wrap64 (Int.tdiv b (g4 a b c d)), wrap64 (Int.tdiv c (g4 a b c d)), wrap64 (Int.tdiv d (g4 a b c d)))) = _
  have b1 := tdiv_bound hg ha
  have b2 := tdiv_bound hg hb
  have b3 := tdiv_bound hg hc
  have b4 := tdiv_bound (B := 1000000) hg (show -1000000 ≤ d ∧ d ≤ 1000000 by omega)
  rw [if_neg (by omega), wrap_id (by omega), wrap_id (by omega), wrap_id (by omega), wrap_id (by omega)]
  rfl
theorem impl_simple {k : Nat} {a b c d : Int} (ha : -1000000 ≤ a ∧ a ≤ 1000000) (hb : -1000000 ≤ b ∧ b ≤ 1000000) (hc : -1000000 ≤ c ∧ c ≤ 1000000) (hd : 1 ≤ d ∧ d ≤ 1000000) (hk : 1000000 < k) :
    impl_simplest.f k a b c d = some (simp4 a b c d) := by
  unfold impl_simplest.f
  have e1 := gcd_le_bound (a := a) (b := b) (B := 1000000) (by omega) (by omega)
  have e2 := gcd_le_bound (a := c) (b := d) (B := 1000000) (by omega) (by omega)
  have hg := g4_pos (a := a) (b := b) (c := c) hd.1
  rw [impl_gcd (by omega) (by omega) (by omega)]
  simp only [Option.bind_some]
  rw [impl_gcd (by omega) (by omega) (by omega)]
  simp only [Option.bind_some]
  rw [impl_gcd (by omega) (by omega) (by omega)]
  simp only [Option.bind_some]
  show (if g4 a b c d = 0 then none else some (wrap64 (Int.tdiv a (g4 a b c d)), wrap64 (Int.tdiv b (g4 a b c d)), wrap64 (Int.tdiv c (g4 a b c d)), wrap64 (Int.tdiv d (g4 a b c d)))) = _
  have b1 := tdiv_bound hg ha
  have b2 := tdiv_bound hg hb
  have b3 := tdiv_bound hg hc
  have b4 := tdiv_bound (B := 1000000) hg (show -1000000 ≤ d ∧ d ≤ 1000000 by omega)
  rw [if_neg (by omega), wrap_id (by omega), wrap_id (by omega), wrap_id (by omega), wrap_id (by omega)]
  rfl

def chk (a b c d : Int) : Int × Int × Int × Int × Bool := if iok (simp4 a b c d).1 (simp4 a b c d).2.1 (simp4 a b c d).2.2.1 (simp4 a b c d).2.2.2 = true then ((simp4 a b c d).1, (simp4 a b c d).2.1, (simp4 a b c d).2.2.1, (simp4 a b c d).2.2.2, true) else (0, 0, 0, 0, false)
theorem spec_checked {k : Nat} {a b c d : Int} (ha : -1000000 ≤ a ∧ a ≤ 1000000) (hb : -1000000 ≤ b ∧ b ≤ 1000000) (hc : -1000000 ≤ c ∧ c ≤ 1000000) (hd : 1 ≤ d ∧ d ≤ 1000000) (hk : 1000000 < k) :
    spec_l03Checked.f k a b c d = some (chk a b c d) := by
  unfold spec_l03Checked.f chk
  rw [spec_simple ha hb hc hd hk]
  simp only [Option.bind_some, spec_iok]
  split <;> rfl
theorem impl_checked {k : Nat} {a b c d : Int} (ha : -1000000 ≤ a ∧ a ≤ 1000000) (hb : -1000000 ≤ b ∧ b ≤ 1000000) (hc : -1000000 ≤ c ∧ c ≤ 1000000) (hd : 1 ≤ d ∧ d ≤ 1000000) (hk : 1000000 < k) :
    impl_okInterval.f k a b c d = some (chk a b c d) := by
  unfold impl_okInterval.f chk
  rw [impl_simple ha hb hc hd hk]
  simp only [Option.bind_some, impl_iok]
  split <;> rfl

def meanFifth (n d : Int) : Int × Int × Int × Int × Bool := if (1 ≤ d ∧ d ≤ 12) ∧ (0 ≤ n ∧ n ≤ d) then chk (-d + 4 * n) (d - 4 * n) n d else (0, 0, 0, 0, false)
theorem spec_meanFifth {k : Nat} (n d : Int) (hk : 1000000 < k) : spec_MeanFifth.f k n d = some (meanFifth n d) := by
  unfold spec_MeanFifth.f meanFifth
  simp only [l01In_eq, Option.bind_some]
  by_cases h1 : 1 ≤ d ∧ d ≤ 12
  · by_cases h2 : 0 ≤ n ∧ n ≤ d
    · rw [if_pos (by simpa using h1), if_pos (by simpa using h2), if_pos ⟨h1, h2⟩]
      rw [wrap_id (x := -d) (by omega), wrap_id (x := 4 * n) (by omega), wrap_id (by omega), wrap_id (by omega), spec_checked (by omega) (by omega) (by omega) (by omega) hk]
      rfl
    · rw [if_pos (by simpa using h1), if_neg (by simpa using h2), if_neg (fun h => h2 h.2)]
  · rw [if_neg (by simpa using h1), if_neg (fun h => h1 h.1)]
theorem impl_meanFifth {k : Nat} (n d : Int) (hk : 1000000 < k) : impl_MeanFifth.f k n d = some (meanFifth n d) := by
  unfold impl_MeanFifth.f meanFifth
  simp only [within_eq, Option.bind_some]
  by_cases h1 : 1 ≤ d ∧ d ≤ 12
  · by_cases h2 : 0 ≤ n ∧ n ≤ d
    · rw [if_pos (by simpa using h1), if_pos (by simpa using h2), if_pos ⟨h1, h2⟩]
      rw [wrap_id (x := -d) (by omega), wrap_id (x := 4 * n) (by omega), wrap_id (by omega), wrap_id (by omega), impl_checked (by omega) (by omega) (by omega) (by omega) hk]
      rfl
    · rw [if_pos (by simpa using h1), if_neg (by simpa using h2), if_neg (fun h => h2 h.2)]
  · rw [if_neg (by simpa using h1), if_neg (fun h => h1 h.1)]

def pureOf (a b c : Int) : Int × Int × Int × Int := if iok a b c 1 = true then (a, b, c, 1) else (0, 0, 0, 0)
theorem impl_pureOf (a b c : Int) : impl_PureOf.f a b c = some (pureOf a b c) := by
  unfold impl_PureOf.f pureOf
  simp only [impl_iok, Option.bind_some]
  split <;> rfl

def neg5 (r : Int × Int × Int × Int × Bool) : Int × Int × Int × Int × Bool := (-r.1, -r.2.1, -r.2.2.1, r.2.2.2.1, r.2.2.2.2)
def timesI (a b c d n : Int) : Int × Int × Int × Int × Bool := if iok a b c d = true ∧ (-400 ≤ n ∧ n ≤ 400) then chk (n * a) (n * b) (n * c) d else (0, 0, 0, 0, false)
def addI (a b c d x y z r : Int) : Int × Int × Int × Int × Bool := if iok a b c d = true ∧ iok x y z r = true then chk (a * r + x * d) (b * r + y * d) (c * r + z * d) (d * r) else (0, 0, 0, 0, false)
theorem mulb {a x A X : Int} (ha : -A ≤ a ∧ a ≤ A) (hx : -X ≤ x ∧ x ≤ X) : -(A * X) ≤ a * x ∧ a * x ≤ A * X := by
  have hA : 0 ≤ A := by omega
  have hX : 0 ≤ X := by omega
  have h : (a * x).natAbs ≤ (A * X).natAbs := by
    rw [Int.natAbs_mul, Int.natAbs_mul]
    exact Nat.mul_le_mul (by omega) (by omega)
  have h2 : 0 ≤ A * X := Int.mul_nonneg hA hX
  omega
theorem impl_timesI {k : Nat} (a b c d n : Int) (hk : 1000000 < k) : impl_TimesInterval.f k a b c d n = some (timesI a b c d n) := by
  unfold impl_TimesInterval.f timesI
  rw [impl_iok]
  simp only [Option.bind_some, within_eq]
  by_cases h1 : iok a b c d = true
  · by_cases h2 : -400 ≤ n ∧ n ≤ 400
    · obtain ⟨i1, i2, i3, i4⟩ := iok_bounds h1
      rw [if_pos h1, if_pos (by simpa using h2), if_pos ⟨h1, h2⟩]
      have m1 := mulb (A := 400) (X := 400) (a := n) (x := a) (by omega) (by omega)
      have m2 := mulb (A := 400) (X := 400) (a := n) (x := b) (by omega) (by omega)
      have m3 := mulb (A := 400) (X := 400) (a := n) (x := c) (by omega) (by omega)
      rw [Int.mul_comm a n, Int.mul_comm b n, Int.mul_comm c n, wrap_id (x := n * a) (by omega), wrap_id (x := n * b) (by omega), wrap_id (x := n * c) (by omega), impl_checked (by omega) (by omega) (by omega) (by omega) hk]
      rfl
    · rw [if_pos h1, if_neg (by simpa using h2), if_neg (fun h => h2 h.2)]
  · rw [if_neg h1, if_neg (fun h => h1 h.1)]
theorem add_wrap {a d x r : Int} (ha : -400 ≤ a ∧ a ≤ 400) (hx : -400 ≤ x ∧ x ≤ 400) (hd : 1 ≤ d ∧ d ≤ 12) (hr : 1 ≤ r ∧ r ≤ 12) : wrap64 ((wrap64 (a * r)) + (wrap64 (x * d))) = a * r + x * d ∧ (-1000000 ≤ a * r + x * d ∧ a * r + x * d ≤ 1000000) := by
  have m1 := mulb (A := 400) (X := 12) (a := a) (x := r) (by omega) (by omega)
  have m2 := mulb (A := 400) (X := 12) (a := x) (x := d) (by omega) (by omega)
  rw [wrap_id (x := a * r) (by omega), wrap_id (x := x * d) (by omega), wrap_id (by omega)]
  exact ⟨rfl, by omega⟩
theorem root_wrap {d r : Int} (hd : 1 ≤ d ∧ d ≤ 12) (hr : 1 ≤ r ∧ r ≤ 12) : wrap64 (d * r) = d * r ∧ 1 ≤ d * r ∧ d * r ≤ 1000000 := by
  have m1 := mulb (A := 12) (X := 12) (a := d) (x := r) (by omega) (by omega)
  have : 0 < d * r := Int.mul_pos (by omega) (by omega)
  exact ⟨wrap_id (by omega), by omega, by omega⟩
theorem impl_addI {k : Nat} (a b c d x y z r : Int) (hk : 1000000 < k) : impl_AddIntervals.f k a b c d x y z r = some (addI a b c d x y z r) := by
  unfold impl_AddIntervals.f addI
  rw [impl_iok, impl_iok]
  simp only [Option.bind_some]
  by_cases h1 : iok a b c d = true
  · by_cases h2 : iok x y z r = true
    · obtain ⟨i1, i2, i3, i4⟩ := iok_bounds h1
      obtain ⟨j1, j2, j3, j4⟩ := iok_bounds h2
      rw [if_pos h1, if_pos h2, if_pos ⟨h1, h2⟩]
      obtain ⟨e1, b1⟩ := add_wrap i2 j2 i1 j1
      obtain ⟨e2, b2⟩ := add_wrap i3 j3 i1 j1
      obtain ⟨e3, b3⟩ := add_wrap i4 j4 i1 j1
      obtain ⟨e4, b4⟩ := root_wrap i1 j1
      rw [e1, e2, e3, e4, impl_checked b1 b2 b3 b4 hk]
      rfl
    · rw [if_pos h1, if_neg h2, if_neg (fun h => h2 h.2)]
  · rw [if_neg h1, if_neg (fun h => h1 h.1)]
def minusI (a b c d x y z r : Int) : Int × Int × Int × Int × Bool := addI a b c d (-x) (-y) (-z) r
theorem impl_minusI {k : Nat} {a b c d x y z r : Int} (hx : -4000000000 ≤ x ∧ x ≤ 4000000000) (hy : -4000000000 ≤ y ∧ y ≤ 4000000000) (hz : -4000000000 ≤ z ∧ z ≤ 4000000000) (hk : 1000000 < k) : impl_minus.f k a b c d x y z r = some (minusI a b c d x y z r) := by
  unfold impl_minus.f impl_negated.f
  simp only [Option.bind_some]
  rw [wrap_id (x := -x) (by omega), wrap_id (x := -y) (by omega), wrap_id (x := -z) (by omega), impl_addI _ _ _ _ _ _ _ _ hk]
  rfl
theorem chk_bounds (a b c d : Int) : (-400 ≤ (chk a b c d).1 ∧ (chk a b c d).1 ≤ 400) ∧ (-400 ≤ (chk a b c d).2.1 ∧ (chk a b c d).2.1 ≤ 400) ∧ (-400 ≤ (chk a b c d).2.2.1 ∧ (chk a b c d).2.2.1 ≤ 400) := by
  unfold chk
  split
  · rename_i h
    obtain ⟨i1, i2, i3, i4⟩ := iok_bounds h
    exact ⟨i2, i3, i4⟩
  · simp
theorem timesI_bounds (a b c d n : Int) : (-400 ≤ (timesI a b c d n).1 ∧ (timesI a b c d n).1 ≤ 400) ∧ (-400 ≤ (timesI a b c d n).2.1 ∧ (timesI a b c d n).2.1 ≤ 400) ∧ (-400 ≤ (timesI a b c d n).2.2.1 ∧ (timesI a b c d n).2.2.1 ≤ 400) := by
  unfold timesI; split
  · exact chk_bounds _ _ _ _
  · simp
def wolf (n d : Int) : Int × Int × Int × Int × Bool :=
  if (meanFifth n d).2.2.2.2 = true then
    (if (timesI (meanFifth n d).1 (meanFifth n d).2.1 (meanFifth n d).2.2.1 (meanFifth n d).2.2.2.1 11).2.2.2.2 = true then
      minusI 7 0 0 1 (timesI (meanFifth n d).1 (meanFifth n d).2.1 (meanFifth n d).2.2.1 (meanFifth n d).2.2.2.1 11).1 (timesI (meanFifth n d).1 (meanFifth n d).2.1 (meanFifth n d).2.2.1 (meanFifth n d).2.2.2.1 11).2.1 (timesI (meanFifth n d).1 (meanFifth n d).2.1 (meanFifth n d).2.2.1 (meanFifth n d).2.2.2.1 11).2.2.1 (timesI (meanFifth n d).1 (meanFifth n d).2.1 (meanFifth n d).2.2.1 (meanFifth n d).2.2.2.1 11).2.2.2.1
    else (0, 0, 0, 0, false))
  else (0, 0, 0, 0, false)
theorem pure7 : pureOf 7 0 0 = (7, 0, 0, 1) := by decide
theorem impl_wolf {k : Nat} (n d : Int) (hk : 1000000 < k) : impl_WolfOf.f k n d = some (wolf n d) := by
  unfold impl_WolfOf.f wolf
  rw [impl_meanFifth n d hk]
  simp only [Option.bind_some]
  generalize meanFifth n d = m
  by_cases h1 : m.2.2.2.2 = true
  · rw [if_pos h1, if_pos h1, impl_timesI _ _ _ _ _ hk]
    simp only [Option.bind_some]
    have hb := timesI_bounds m.1 m.2.1 m.2.2.1 m.2.2.2.1 11
    generalize timesI m.1 m.2.1 m.2.2.1 m.2.2.2.1 11 = t at *
    by_cases h2 : t.2.2.2.2 = true
    · rw [if_pos h2, if_pos h2, impl_pureOf, Option.bind_some, pure7, impl_minusI (by omega) (by omega) (by omega) hk]
      rfl
    · rw [if_neg h2, if_neg h2]
  · rw [if_neg h1, if_neg h1]

theorem spec_pureOf (a b c : Int) : spec_PureOf.f a b c = some (pureOf a b c) := by
  unfold spec_PureOf.f pureOf
  simp only [spec_iok, Option.bind_some]
  split <;> rfl

theorem spec_timesI {k : Nat} (a b c d n : Int) (hk : 1000000 < k) : spec_TimesInterval.f k a b c d n = some (timesI a b c d n) := by
  unfold spec_TimesInterval.f timesI
  rw [spec_iok]
  simp only [Option.bind_some, l01In_eq]
  by_cases h1 : iok a b c d = true
  · by_cases h2 : -400 ≤ n ∧ n ≤ 400
    · obtain ⟨i1, i2, i3, i4⟩ := iok_bounds h1
      rw [if_pos h1, if_pos (by simpa using h2), if_pos ⟨h1, h2⟩]
      have m1 := mulb (A := 400) (X := 400) (a := n) (x := a) (by omega) (by omega)
      have m2 := mulb (A := 400) (X := 400) (a := n) (x := b) (by omega) (by omega)
      have m3 := mulb (A := 400) (X := 400) (a := n) (x := c) (by omega) (by omega)
      rw [wrap_id (x := n * a) (by omega), wrap_id (x := n * b) (by omega), wrap_id (x := n * c) (by omega), spec_checked (by omega) (by omega) (by omega) (by omega) hk]
      rfl
    · rw [if_pos h1, if_neg (by simpa using h2), if_neg (fun h => h2 h.2)]
  · rw [if_neg h1, if_neg (fun h => h1 h.1)]
theorem spec_addI {k : Nat} (a b c d x y z r : Int) (hk : 1000000 < k) : spec_AddIntervals.f k a b c d x y z r = some (addI a b c d x y z r) := by
  unfold spec_AddIntervals.f addI
  rw [spec_iok, spec_iok]
  simp only [Option.bind_some]
  by_cases h1 : iok a b c d = true
  · by_cases h2 : iok x y z r = true
    · obtain ⟨i1, i2, i3, i4⟩ := iok_bounds h1
      obtain ⟨j1, j2, j3, j4⟩ := iok_bounds h2
      rw [if_pos h1, if_pos h2, if_pos ⟨h1, h2⟩]
      obtain ⟨e1, b1⟩ := add_wrap i2 j2 i1 j1
      obtain ⟨e2, b2⟩ := add_wrap i3 j3 i1 j1
      obtain ⟨e3, b3⟩ := add_wrap i4 j4 i1 j1
      obtain ⟨e4, b4⟩ := root_wrap i1 j1
      rw [e1, e2, e3, e4, spec_checked b1 b2 b3 b4 hk]
      rfl
    · rw [if_pos h1, if_neg h2, if_neg (fun h => h2 h.2)]
  · rw [if_neg h1, if_neg (fun h => h1 h.1)]
def specWolf (n d : Int) : Int × Int × Int × Int × Bool :=
  if (meanFifth n d).2.2.2.2 = true then
    (if (timesI (meanFifth n d).1 (meanFifth n d).2.1 (meanFifth n d).2.2.1 (meanFifth n d).2.2.2.1 (-11)).2.2.2.2 = true then
      addI (timesI (meanFifth n d).1 (meanFifth n d).2.1 (meanFifth n d).2.2.1 (meanFifth n d).2.2.2.1 (-11)).1 (timesI (meanFifth n d).1 (meanFifth n d).2.1 (meanFifth n d).2.2.1 (meanFifth n d).2.2.2.1 (-11)).2.1 (timesI (meanFifth n d).1 (meanFifth n d).2.1 (meanFifth n d).2.2.1 (meanFifth n d).2.2.2.1 (-11)).2.2.1 (timesI (meanFifth n d).1 (meanFifth n d).2.1 (meanFifth n d).2.2.1 (meanFifth n d).2.2.2.1 (-11)).2.2.2.1 7 0 0 1
    else (0, 0, 0, 0, false))
  else (0, 0, 0, 0, false)
theorem spec_wolf {k : Nat} (n d : Int) (hk : 1000000 < k) : spec_WolfOf.f k n d = some (specWolf n d) := by
  unfold spec_WolfOf.f specWolf
  rw [spec_meanFifth n d hk]
  simp only [Option.bind_some]
  generalize meanFifth n d = m
  by_cases h1 : m.2.2.2.2 = true
  · rw [if_pos h1, if_pos h1, spec_timesI _ _ _ _ _ hk]
    simp only [Option.bind_some]
    generalize timesI m.1 m.2.1 m.2.2.1 m.2.2.2.1 (-11) = t at *
    by_cases h2 : t.2.2.2.2 = true
    · rw [if_pos h2, if_pos h2, spec_pureOf, Option.bind_some, pure7, spec_addI _ _ _ _ _ _ _ _ hk]
      rfl
    · rw [if_neg h2, if_neg h2]
  · rw [if_neg h1, if_neg h1]
theorem wolf_fin : ∀ d : Fin 13, ∀ n : Fin 13, specWolf (n.val : Int) (d.val : Int) = wolf (n.val : Int) (d.val : Int) := by decide +kernel
theorem wolf_eq (n d : Int) : specWolf n d = wolf n d := by
  by_cases h : (1 ≤ d ∧ d ≤ 12) ∧ (0 ≤ n ∧ n ≤ d)
  · have := wolf_fin ⟨d.toNat, by omega⟩ ⟨n.toNat, by omega⟩
    have e1 : ((d.toNat : Nat) : Int) = d := by omega
    have e2 : ((n.toNat : Nat) : Int) = n := by omega
    simpa [e1, e2] using this
  · have hm : meanFifth n d = (0, 0, 0, 0, false) := by unfold meanFifth; rw [if_neg h]
    unfold specWolf wolf
    rw [hm]; rfl

theorem eqInterval_refl (a b c d : Int) : laws_eqInterval.f a b c d a b c d = some true := by
  unfold laws_eqInterval.f; simp

theorem FnExactWolfOf : laws_FnExactWolfOf.Pure := by
  intro a0 a1 _ _
  refine ⟨1000001, ?_⟩
  unfold laws_FnExactWolfOf.f
  rw [spec_wolf _ _ (by omega), impl_wolf _ _ (by omega), wolf_eq]
  simp [eqInterval_refl]

end Go.Proofs.Ytbiajmggpohgcaa.Pure
