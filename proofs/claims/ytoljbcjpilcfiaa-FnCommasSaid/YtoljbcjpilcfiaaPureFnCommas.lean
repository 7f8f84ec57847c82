/- The law FnCommas over numbers and lists alone: commas are sums of others: the schisma is what both great ones differ by. Conditions: none. -/
import Derived.Test.YtoljbcjpilcfiaaQFnCommasx9
import Derived.Test.YtoljbcjpilcfiaaVFnCommasa
import Derived.OpenShut
import Derived.Laws.Strings
namespace Go.Proofs.Ytoljbcjpilcfiaa.Pure
open Go.RowKit Go.Proofs.Ytoljbcjpilcfiaa.PFnCommas Go.Proofs.YtoljbcjpilcfiaaW.PrintWords Go.Proofs.YtoljbcjpilcfiaaW.PrintLast Go.Proofs.YtoljbcjpilcfiaaW.PrintMore
set_option linter.unusedVariables false
set_option linter.unusedSimpArgs false

theorem wrap_id {x : Int} (h : -4611686018427387904 ≤ x ∧ x ≤ 4611686018427387904) : wrap64 x = x := by
  unfold wrap64; omega

theorem rd_mid (pre rest : List Int) (p : Int) : rd (pre ++ p :: rest) ((pre.length : Nat) : Int) = p := by
  unfold rd
  simp [List.getD]
theorem rd_getD (l : List Int) (i : Nat) : rd l (i : Int) = l.getD i 0 := by unfold rd; simp
theorem succ_wrap {n : Nat} (h : n ≤ 1099511627776) : wrap64 ((n : Int) + 1) = ((n + 1 : Nat) : Int) := by
  rw [wrap_id (by omega)]; omega
theorem split_at {α : Type} (l : List α) (i : Nat) (h : i ≤ l.length) : ∃ pre rest, l = pre ++ rest ∧ pre.length = i := ⟨l.take i, l.drop i, (List.take_append_drop i l).symm, by simp; omega⟩

theorem u8_range {x : Int} (h : (Lit.int .u8 x).wf = true) : 0 ≤ x ∧ x ≤ 255 := bounds_u8 h
theorem at_eq {l : List Int} {i : Int} (hi : 0 ≤ i ∧ i ≤ 100) (hl : l.length ≤ 1048576) (hw : ∀ x ∈ l, (Lit.int .u8 x).wf = true) : ∃ x, laws_at.f l i = some x ∧ 0 ≤ x ∧ x ≤ 255 := by
  unfold laws_at.f
  by_cases h : (l.length : Int) = 0
  · exact ⟨0, by rw [if_pos h], by omega, by omega⟩
  · rw [if_neg h, wrap_id (x := i * 5) (by omega), wrap_id (x := i * 5 + 1) (by omega), Int.tmod_eq_emod_of_nonneg (by omega)]
    have h1 := Int.emod_nonneg (i * 5 + 1) h
    have h2 := Int.emod_lt_of_pos (i * 5 + 1) (show (0 : Int) < (l.length : Int) by omega)
    rw [if_pos h1, if_pos h2]
    have hr : 0 ≤ rd l ((i * 5 + 1) % (l.length : Int)) ∧ rd l ((i * 5 + 1) % (l.length : Int)) ≤ 255 := by
      unfold rd
      rw [List.getD_eq_getElem?_getD, List.getElem?_eq_getElem (by omega)]
      exact u8_range (hw _ (List.getElem_mem _))
    exact ⟨_, by rw [wrap_id (by omega)], hr⟩
theorem big_eq (l : List Int) : laws_big.f l = some (decide (1048576 < l.length)) := by
  unfold laws_big.f
  congr 1
  rw [decide_eq_decide]; omega

theorem within_eq (a b c : Int) : impl_within.f a b c = some (decide (b ≤ a ∧ a ≤ c)) := by
  unfold impl_within.f
  by_cases h : b ≤ a <;> simp [h]

def iok (a b c d : Int) : Bool := decide ((1 ≤ d ∧ d ≤ 12) ∧ (-400 ≤ a ∧ a ≤ 400) ∧ (-400 ≤ b ∧ b ≤ 400) ∧ (-400 ≤ c ∧ c ≤ 400))
theorem impl_iok (a b c d : Int) : impl_IntervalOk.f a b c d = some (iok a b c d) := by
  unfold impl_IntervalOk.f iok
  simp only [within_eq, Option.bind_some]
  by_cases h1 : 1 ≤ d ∧ d ≤ 12 <;> by_cases h2 : -400 ≤ a ∧ a ≤ 400 <;> by_cases h3 : -400 ≤ b ∧ b ≤ 400 <;> simp [h1, h2, h3]
theorem iok_bounds {a b c d : Int} (h : iok a b c d = true) : (1 ≤ d ∧ d ≤ 12) ∧ (-400 ≤ a ∧ a ≤ 400) ∧ (-400 ≤ b ∧ b ≤ 400) ∧ (-400 ≤ c ∧ c ≤ 400) := of_decide_eq_true h
theorem iok_mk {a b c d : Int} (h : (1 ≤ d ∧ d ≤ 12) ∧ (-400 ≤ a ∧ a ≤ 400) ∧ (-400 ≤ b ∧ b ≤ 400) ∧ (-400 ≤ c ∧ c ≤ 400)) : iok a b c d = true := decide_eq_true h

def pureOf (a b c : Int) : Int × Int × Int × Int := if iok a b c 1 = true then (a, b, c, 1) else (0, 0, 0, 0)
theorem impl_pureOf (a b c : Int) : impl_PureOf.f a b c = some (pureOf a b c) := by
  unfold impl_PureOf.f pureOf
  simp only [impl_iok, Option.bind_some]
  split <;> rfl

def commaOf (k : Int) : Int × Int × Int × Int := if k = 1 then (-19, 12, 0, 1) else if k = 2 then (-4, 4, -1, 1) else if k = 3 then (7, 0, -3, 1) else if k = 4 then (-15, 8, 1, 1) else if k = 5 then (11, -4, -2, 1) else if k = 6 then (3, 4, -4, 1) else (0, 0, 0, 0)
theorem impl_commaOf (k : Int) : impl_CommaOf.f k = some (commaOf k) := by
  unfold impl_CommaOf.f commaOf
  simp only [impl_pureOf, Option.bind_some]
  repeat' split
  all_goals rfl

theorem mx_neg {a : Int} (h : -4611686018427387904 ≤ a ∧ a ≤ 4611686018427387904) : mx a (wrap64 (-a)) = ((a.natAbs : Nat) : Int) := by
  rw [wrap_id (by omega)]
  unfold mx
  split <;> omega

theorem impl_gcd_l0 : ∀ (k : Nat) (y x : Int), y.natAbs < k → (-4611686018427387904 ≤ x ∧ x ≤ 4611686018427387904) → (-4611686018427387904 ≤ y ∧ y ≤ 4611686018427387904) → impl_divisor.l0 k x y = some ((Int.gcd x y : Nat) : Int) := by
  intro k
  induction k with
  | zero => intro y x h; omega
  | succ k ih =>
    intro y x h hx hy
    simp only [impl_divisor.l0]
    by_cases h0 : y = 0
    · subst h0
      rw [if_pos rfl]
      by_cases hn : x < 0
      · rw [if_pos hn, wrap_id (by omega)]
        simp; omega
      · rw [if_neg hn]
        simp; omega
    · rw [if_neg h0]
      have e : (Int.tmod x y).natAbs = x.natAbs % y.natAbs := Int.natAbs_tmod x y
      have hl : x.natAbs % y.natAbs < y.natAbs := Nat.mod_lt _ (by omega)
      rw [ih (Int.tmod x y) y (by omega) hy (by omega)]
      congr 2
      unfold Int.gcd
      rw [e]
      exact ((Nat.gcd_comm _ _).trans (Nat.gcd_rec y.natAbs x.natAbs).symm).trans (Nat.gcd_comm _ _)
theorem impl_gcd {k : Nat} {a b : Int} (ha : -4611686018427387904 ≤ a ∧ a ≤ 4611686018427387904) (hb : -4611686018427387904 ≤ b ∧ b ≤ 4611686018427387904) (hk : b.natAbs < k) :
    impl_divisor.f k a b = some ((Int.gcd a b : Nat) : Int) := impl_gcd_l0 k b a hk ha hb

def g4 (a b c d : Int) : Int := ((Int.gcd ((Int.gcd a b : Nat) : Int) ((Int.gcd c d : Nat) : Int) : Nat) : Int)
def simp4 (a b c d : Int) : Int × Int × Int × Int := (Int.tdiv a (g4 a b c d), Int.tdiv b (g4 a b c d), Int.tdiv c (g4 a b c d), Int.tdiv d (g4 a b c d))
theorem gcd_le_right {c d : Int} (h : 1 ≤ d) : Int.gcd c d ≤ d.natAbs := Nat.le_of_dvd (by omega) (Nat.gcd_dvd_right _ _)
theorem gcd_le_bound {a b : Int} {B : Nat} (ha : a.natAbs ≤ B) (hb : b.natAbs ≤ B) : Int.gcd a b ≤ B := by
  unfold Int.gcd
  rcases Nat.eq_zero_or_pos b.natAbs with h | h
  · rw [h, Nat.gcd_zero_right]; exact ha
  · exact Nat.le_trans (Nat.le_of_dvd h (Nat.gcd_dvd_right _ _)) hb
theorem g4_pos {a b c d : Int} (h : 1 ≤ d) : 1 ≤ g4 a b c d := by
  unfold g4
  have h1 : 0 < Int.gcd c d := Int.gcd_pos_of_ne_zero_right _ (by omega)
  have : 0 < Int.gcd ((Int.gcd a b : Nat) : Int) ((Int.gcd c d : Nat) : Int) := Int.gcd_pos_of_ne_zero_right _ (by omega)
  omega
theorem tdiv_bound {a g : Int} {B : Int} (hg : 1 ≤ g) (h : -B ≤ a ∧ a ≤ B) : -B ≤ Int.tdiv a g ∧ Int.tdiv a g ≤ B := by
  have h1 : (Int.tdiv a g).natAbs ≤ a.natAbs := by rw [Int.natAbs_tdiv]; exact Nat.div_le_self _ _
  omega
theorem impl_simple {k : Nat} {a b c d : Int} (ha : -1000000 ≤ a ∧ a ≤ 1000000) (hb : -1000000 ≤ b ∧ b ≤ 1000000) (hc : -1000000 ≤ c ∧ c ≤ 1000000) (hd : 1 ≤ d ∧ d ≤ 1000000) (hk : 1000000 < k) :
    impl_simplest.f k a b c d = some (simp4 a b c d) := by
  unfold impl_simplest.f
  have e1 := gcd_le_bound (a := a) (b := b) (B := 1000000) (by omega) (by omega)
  have e2 := gcd_le_bound (a := c) (b := d) (B := 1000000) (by omega) (by omega)
  have hg := g4_pos (a := a) (b := b) (c := c) hd.1
  rw [impl_gcd (by omega) (by omega) (by omega)]
  simp only [Option.bind_some]
  rw [impl_gcd (by omega) (by omega) (by omega)]
  simp only [Option.bind_some]
  rw [impl_gcd (by omega) (by omega) (by omega)]
  simp only [Option.bind_some]
  show (if g4 a b c d = 0 then none else some (wrap64 (Int.tdiv a (g4 a b c d)), wrap64 (Int.tdiv b (g4 a b c d)), wrap64 (Int.tdiv c (g4 a b c d)), wrap64 (Int.tdiv d (g4 a b c d)))) = _
  have b1 := tdiv_bound hg ha
  have b2 := tdiv_bound hg hb
  have b3 := tdiv_bound hg hc
  have b4 := tdiv_bound (B := 1000000) hg (show -1000000 ≤ d ∧ d ≤ 1000000 by omega)
  rw [if_neg (by omega), wrap_id (by omega), wrap_id (by omega), wrap_id (by omega), wrap_id (by omega)]
  rfl

def chk (a b c d : Int) : Int × Int × Int × Int × Bool := if iok (simp4 a b c d).1 (simp4 a b c d).2.1 (simp4 a b c d).2.2.1 (simp4 a b c d).2.2.2 = true then ((simp4 a b c d).1, (simp4 a b c d).2.1, (simp4 a b c d).2.2.1, (simp4 a b c d).2.2.2, true) else (0, 0, 0, 0, false)
theorem impl_checked {k : Nat} {a b c d : Int} (ha : -1000000 ≤ a ∧ a ≤ 1000000) (hb : -1000000 ≤ b ∧ b ≤ 1000000) (hc : -1000000 ≤ c ∧ c ≤ 1000000) (hd : 1 ≤ d ∧ d ≤ 1000000) (hk : 1000000 < k) :
    impl_okInterval.f k a b c d = some (chk a b c d) := by
  unfold impl_okInterval.f chk
  rw [impl_simple ha hb hc hd hk]
  simp only [Option.bind_some, impl_iok]
  split <;> rfl

theorem mulb {a x A X : Int} (ha : -A ≤ a ∧ a ≤ A) (hx : -X ≤ x ∧ x ≤ X) : -(A * X) ≤ a * x ∧ a * x ≤ A * X := by
  have hA : 0 ≤ A := by omega
  have hX : 0 ≤ X := by omega
  have h : (a * x).natAbs ≤ (A * X).natAbs := by
    rw [Int.natAbs_mul, Int.natAbs_mul]
    exact Nat.mul_le_mul (by omega) (by omega)
  have h2 : 0 ≤ A * X := Int.mul_nonneg hA hX
  omega

def timesI (a b c d n : Int) : Int × Int × Int × Int × Bool := if iok a b c d = true ∧ (-400 ≤ n ∧ n ≤ 400) then chk (n * a) (n * b) (n * c) d else (0, 0, 0, 0, false)
theorem impl_timesI {k : Nat} (a b c d n : Int) (hk : 1000000 < k) : impl_TimesInterval.f k a b c d n = some (timesI a b c d n) := by
  unfold impl_TimesInterval.f timesI
  rw [impl_iok]
  simp only [Option.bind_some, within_eq]
  by_cases h1 : iok a b c d = true
  · by_cases h2 : -400 ≤ n ∧ n ≤ 400
    · obtain ⟨i1, i2, i3, i4⟩ := iok_bounds h1
      rw [if_pos h1, if_pos (by simpa using h2), if_pos ⟨h1, h2⟩]
      have m1 := mulb (A := 400) (X := 400) (a := n) (x := a) (by omega) (by omega)
      have m2 := mulb (A := 400) (X := 400) (a := n) (x := b) (by omega) (by omega)
      have m3 := mulb (A := 400) (X := 400) (a := n) (x := c) (by omega) (by omega)
      rw [Int.mul_comm a n, Int.mul_comm b n, Int.mul_comm c n, wrap_id (x := n * a) (by omega), wrap_id (x := n * b) (by omega), wrap_id (x := n * c) (by omega), impl_checked (by omega) (by omega) (by omega) (by omega) hk]
      rfl
    · rw [if_pos h1, if_neg (by simpa using h2), if_neg (fun h => h2 h.2)]
  · rw [if_neg h1, if_neg (fun h => h1 h.1)]
theorem chk_bounds (a b c d : Int) : (-400 ≤ (chk a b c d).1 ∧ (chk a b c d).1 ≤ 400) ∧ (-400 ≤ (chk a b c d).2.1 ∧ (chk a b c d).2.1 ≤ 400) ∧ (-400 ≤ (chk a b c d).2.2.1 ∧ (chk a b c d).2.2.1 ≤ 400) := by
  unfold chk
  split
  · rename_i h
    obtain ⟨i1, i2, i3, i4⟩ := iok_bounds h
    exact ⟨i2, i3, i4⟩
  · simp
theorem timesI_bounds (a b c d n : Int) : (-400 ≤ (timesI a b c d n).1 ∧ (timesI a b c d n).1 ≤ 400) ∧ (-400 ≤ (timesI a b c d n).2.1 ∧ (timesI a b c d n).2.1 ≤ 400) ∧ (-400 ≤ (timesI a b c d n).2.2.1 ∧ (timesI a b c d n).2.2.1 ≤ 400) := by
  unfold timesI; split
  · exact chk_bounds _ _ _ _
  · simp

def addI (a b c d x y z r : Int) : Int × Int × Int × Int × Bool := if iok a b c d = true ∧ iok x y z r = true then chk (a * r + x * d) (b * r + y * d) (c * r + z * d) (d * r) else (0, 0, 0, 0, false)
theorem add_wrap {a d x r : Int} (ha : -400 ≤ a ∧ a ≤ 400) (hx : -400 ≤ x ∧ x ≤ 400) (hd : 1 ≤ d ∧ d ≤ 12) (hr : 1 ≤ r ∧ r ≤ 12) : wrap64 ((wrap64 (a * r)) + (wrap64 (x * d))) = a * r + x * d ∧ (-1000000 ≤ a * r + x * d ∧ a * r + x * d ≤ 1000000) := by
  have m1 := mulb (A := 400) (X := 12) (a := a) (x := r) (by omega) (by omega)
  have m2 := mulb (A := 400) (X := 12) (a := x) (x := d) (by omega) (by omega)
  rw [wrap_id (x := a * r) (by omega), wrap_id (x := x * d) (by omega), wrap_id (by omega)]
  exact ⟨rfl, by omega⟩
theorem root_wrap {d r : Int} (hd : 1 ≤ d ∧ d ≤ 12) (hr : 1 ≤ r ∧ r ≤ 12) : wrap64 (d * r) = d * r ∧ 1 ≤ d * r ∧ d * r ≤ 1000000 := by
  have m1 := mulb (A := 12) (X := 12) (a := d) (x := r) (by omega) (by omega)
  have : 0 < d * r := Int.mul_pos (by omega) (by omega)
  exact ⟨wrap_id (by omega), by omega, by omega⟩
theorem impl_addI {k : Nat} (a b c d x y z r : Int) (hk : 1000000 < k) : impl_AddIntervals.f k a b c d x y z r = some (addI a b c d x y z r) := by
  unfold impl_AddIntervals.f addI
  rw [impl_iok, impl_iok]
  simp only [Option.bind_some]
  by_cases h1 : iok a b c d = true
  · by_cases h2 : iok x y z r = true
    · obtain ⟨i1, i2, i3, i4⟩ := iok_bounds h1
      obtain ⟨j1, j2, j3, j4⟩ := iok_bounds h2
      rw [if_pos h1, if_pos h2, if_pos ⟨h1, h2⟩]
      obtain ⟨e1, b1⟩ := add_wrap i2 j2 i1 j1
      obtain ⟨e2, b2⟩ := add_wrap i3 j3 i1 j1
      obtain ⟨e3, b3⟩ := add_wrap i4 j4 i1 j1
      obtain ⟨e4, b4⟩ := root_wrap i1 j1
      rw [e1, e2, e3, e4, impl_checked b1 b2 b3 b4 hk]
      rfl
    · rw [if_pos h1, if_neg h2, if_neg (fun h => h2 h.2)]
  · rw [if_neg h1, if_neg (fun h => h1 h.1)]

def splitTail (x y z : Int) : Int × Int × Bool :=
  if (Int.tmod (wrap64 (y - (wrap64 (4 * (wrap64 (-z)))))) 12) = 0 then
    (if x = (wrap64 ((wrap64 ((-19) * (wrap64 (Int.tdiv (wrap64 (y - (wrap64 (4 * (wrap64 (-z)))))) 12)))) - (wrap64 (4 * (wrap64 (-z)))))) ∧ (-50 ≤ (wrap64 (Int.tdiv (wrap64 (y - (wrap64 (4 * (wrap64 (-z)))))) 12)) ∧ (wrap64 (Int.tdiv (wrap64 (y - (wrap64 (4 * (wrap64 (-z)))))) 12)) ≤ 50) ∧ (-50 ≤ wrap64 (-z) ∧ wrap64 (-z) ≤ 50)
      then (wrap64 (Int.tdiv (wrap64 (y - (wrap64 (4 * (wrap64 (-z)))))) 12), wrap64 (-z), true) else (0, 0, false)) else (0, 0, false)
def splitComma (x y z r : Int) : Int × Int × Bool := if iok x y z r = true ∧ r = 1 then splitTail x y z else (0, 0, false)
theorem impl_splitTail (k : Nat) (x y z r : Int) : impl_SplitComma.j0 (k + 1) false x y z r = some (splitTail x y z) := by
  simp only [impl_SplitComma.j0, within_eq, Option.bind_some, splitTail]
  generalize wrap64 (Int.tdiv (wrap64 (y - (wrap64 (4 * (wrap64 (-z)))))) 12) = A
  generalize wrap64 ((wrap64 ((-19) * A)) - (wrap64 (4 * (wrap64 (-z))))) = C
  generalize wrap64 (-z) = B
  by_cases h1 : Int.tmod (wrap64 (y - (wrap64 (4 * B)))) 12 = 0 <;> by_cases h2 : x = C <;> by_cases h3 : -50 ≤ A ∧ A ≤ 50 <;> by_cases h4 : -50 ≤ B ∧ B ≤ 50 <;> simp [h1, h2, h3, h4, eq_comm]
theorem impl_splitComma {k : Nat} (x y z r : Int) (hk : 0 < k) : impl_SplitComma.f k x y z r = some (splitComma x y z r) := by
  obtain ⟨k, rfl⟩ : ∃ m, k = m + 1 := ⟨k - 1, by omega⟩
  unfold impl_SplitComma.f splitComma
  simp only [impl_iok, Option.bind_some]
  by_cases h1 : iok x y z r = true
  · by_cases h2 : r = 1
    · subst h2
      rw [if_pos h1, if_pos ⟨h1, rfl⟩]
      exact impl_splitTail k x y z 1
    · rw [if_pos h1, if_neg (fun h => h2 h.2)]
      have e : (r != 1) = true := by simpa using h2
      rw [e]
      simp [impl_SplitComma.j0]
  · rw [if_neg h1, if_neg (fun h => h1 h.1)]
    simp [impl_SplitComma.j0]

def val : List Int → Int
  | [] => 0
  | d :: ds => d + 10000 * val ds
def Dig (l : List Int) : Prop := ∀ d ∈ l, 0 ≤ d ∧ d < 10000
def Norm (l : List Int) : Prop := Dig l ∧ l.getLast? ≠ some 0
def cmpZ (m n : Int) : Int := if m < n then -1 else if n < m then 1 else 0
theorem val_append (a b : List Int) : val (a ++ b) = val a + 10000 ^ a.length * val b := by
  induction a with
  | nil => simp [val]
  | cons x a ih =>
    simp only [List.cons_append, val, ih, List.length_cons, Int.pow_succ]
    rw [Int.mul_add, ← Int.add_assoc, Int.mul_comm (10000 ^ a.length) 10000, Int.mul_assoc]
theorem val_snoc (a : List Int) (x : Int) : val (a ++ [x]) = val a + 10000 ^ a.length * x := by
  rw [val_append]; simp [val]
theorem Dig.append {a b : List Int} (ha : Dig a) (hb : Dig b) : Dig (a ++ b) := by
  intro d hd
  rcases List.mem_append.1 hd with h | h
  · exact ha d h
  · exact hb d h
theorem Dig.left {a b : List Int} (h : Dig (a ++ b)) : Dig a := fun d hd => h d (List.mem_append.2 (.inl hd))
theorem Dig.right {a b : List Int} (h : Dig (a ++ b)) : Dig b := fun d hd => h d (List.mem_append.2 (.inr hd))
theorem Dig.one {x : Int} (h : 0 ≤ x ∧ x < 10000) : Dig [x] := by
  intro d hd
  simp at hd; subst hd; exact h
theorem pow10_pos (n : Nat) : (0 : Int) < 10000 ^ n := Int.pow_pos (by decide)
theorem val_nn {a : List Int} (h : Dig a) : 0 ≤ val a := by
  induction a with
  | nil => simp [val]
  | cons x a ih =>
    have h1 := ih (fun d hd => h d (List.mem_cons_of_mem _ hd))
    have h2 := h x List.mem_cons_self
    simp only [val]; omega
theorem val_lt {a : List Int} (h : Dig a) : val a < 10000 ^ a.length := by
  induction a with
  | nil => simp [val]
  | cons x a ih =>
    have h1 := ih (fun d hd => h d (List.mem_cons_of_mem _ hd))
    have h2 := h x List.mem_cons_self
    simp only [val, List.length_cons, Int.pow_succ]
    omega
theorem val_ge {a : List Int} (h : Norm a) (hn : a ≠ []) : 10000 ^ (a.length - 1) ≤ val a := by
  obtain ⟨b, x, rfl⟩ := (List.eq_nil_or_concat a).resolve_left hn
  simp only [List.concat_eq_append] at h hn ⊢
  rw [val_snoc]
  have hx : x ≠ 0 := by have := h.2; simpa using this
  have hx2 := h.1 x (by simp)
  have h3 : (10000 : Int) ^ b.length * 1 ≤ 10000 ^ b.length * x := Int.mul_le_mul_of_nonneg_left (by omega) (Int.le_of_lt (pow10_pos _))
  have h4 := val_nn h.1.left
  have e : (b ++ [x]).length - 1 = b.length := by simp
  rw [e]; omega
theorem norm_of_val {a : List Int} (h : Dig a) (hv : a ≠ [] → 10000 ^ (a.length - 1) ≤ val a) : Norm a := by
  refine ⟨h, ?_⟩
  rcases List.eq_nil_or_concat a with rfl | ⟨b, x, rfl⟩
  · simp
  · simp only [List.concat_eq_append] at h hv ⊢
    have h1 := hv (by simp)
    have e : (b ++ [x]).length - 1 = b.length := by simp
    rw [e, val_snoc] at h1
    have h2 := val_lt h.left
    intro hx
    have : x = 0 := by simpa using hx
    subst this
    omega
theorem cmpZ_cases (m n : Int) : (cmpZ m n = -1 ∧ m < n) ∨ (cmpZ m n = 0 ∧ m = n) ∨ (cmpZ m n = 1 ∧ n < m) := by
  unfold cmpZ
  rcases Int.lt_trichotomy m n with h | h | h
  · left; rw [if_pos h]; exact ⟨rfl, h⟩
  · right; left; rw [if_neg (by omega), if_neg (by omega)]; exact ⟨rfl, h⟩
  · right; right; rw [if_neg (by omega), if_pos h]; exact ⟨rfl, h⟩
theorem cmpZ_lt {m n : Int} (h : m < n) : cmpZ m n = -1 := by unfold cmpZ; rw [if_pos h]
theorem cmpZ_gt {m n : Int} (h : n < m) : cmpZ m n = 1 := by unfold cmpZ; rw [if_neg (by omega), if_pos h]
theorem cmpZ_self (m : Int) : cmpZ m m = 0 := by unfold cmpZ; rw [if_neg (by omega), if_neg (by omega)]
theorem cmp_snoc {a b : List Int} {x y : Int} (ha : Dig a) (hb : Dig b) (hl : a.length = b.length) :
    cmpZ (val (a ++ [x])) (val (b ++ [y])) = if x < y then -1 else if x > y then 1 else cmpZ (val a) (val b) := by
  rw [val_snoc, val_snoc, hl]
  have h1 := val_lt ha
  have h2 := val_lt hb
  have h3 := val_nn ha
  have h4 := val_nn hb
  have hP := pow10_pos b.length
  rw [hl] at h1
  generalize (10000 : Int) ^ b.length = P at *
  rcases Int.lt_trichotomy x y with h | h | h
  · have h5 : P * (x + 1) ≤ P * y := Int.mul_le_mul_of_nonneg_left (by omega) (by omega)
    rw [Int.mul_add] at h5
    rw [if_pos h]; exact cmpZ_lt (by omega)
  · subst h
    rw [if_neg (by omega), if_neg (by omega)]
    rcases cmpZ_cases (val a) (val b) with ⟨g, g'⟩ | ⟨g, g'⟩ | ⟨g, g'⟩
    · rw [g]; exact cmpZ_lt (by omega)
    · rw [g, g']; exact cmpZ_self _
    · rw [g]; exact cmpZ_gt (by omega)
  · have h5 : P * (y + 1) ≤ P * x := Int.mul_le_mul_of_nonneg_left (by omega) (by omega)
    rw [Int.mul_add] at h5
    rw [if_neg (by omega), if_pos h]; exact cmpZ_gt (by omega)
theorem ipow_le {b m n : Nat} (hb : 0 < b) (h : m ≤ n) : (b : Int) ^ m ≤ (b : Int) ^ n := by
  rw [← Int.natCast_pow, ← Int.natCast_pow]; exact Int.ofNat_le.2 (Nat.pow_le_pow_right hb h)
theorem ipow_base {a b n : Nat} (h : a ≤ b) : (a : Int) ^ n ≤ (b : Int) ^ n := by
  rw [← Int.natCast_pow, ← Int.natCast_pow]; exact Int.ofNat_le.2 (Nat.pow_le_pow_left h n)
theorem ipow_inv {b m n : Nat} (hb : 1 < b) (h : (b : Int) ^ m ≤ (b : Int) ^ n) : m ≤ n := by
  rw [← Int.natCast_pow, ← Int.natCast_pow] at h; exact (Nat.pow_le_pow_iff_right hb).1 (Int.ofNat_le.1 h)
theorem cmp_len {a b : List Int} (ha : Norm a) (hb : Norm b) (hl : a.length < b.length) : val a < val b := by
  have h1 := val_lt ha.1
  have h2 := val_ge hb (by intro e; subst e; simp at hl)
  have h3 : (10000 : Int) ^ a.length ≤ 10000 ^ (b.length - 1) := ipow_le (b := 10000) (by decide) (by omega)
  omega
theorem len_le_of_val {a : List Int} {n : Nat} (h : Norm a) (hv : val a ≤ 2 ^ n) : a.length ≤ n + 1 := by
  rcases Nat.eq_zero_or_pos a.length with h0 | h0
  · omega
  have h2 := val_ge h (by intro e; subst e; simp at h0)
  have h3 : (2 : Int) ^ (a.length - 1) ≤ 10000 ^ (a.length - 1) := ipow_base (a := 2) (b := 10000) (by decide)
  have h4 : (2 : Int) ^ (a.length - 1) ≤ 2 ^ n := by omega
  have := ipow_inv (b := 2) (by decide) h4
  omega
def mulL : List Int → Int → Int → List Int × Int
  | [], _, c => ([], c)
  | d :: ds, b, c => (((d * b + c) % 10000) :: (mulL ds b ((d * b + c) / 10000)).1, (mulL ds b ((d * b + c) / 10000)).2)
theorem mulL_len (ds : List Int) (b c : Int) : (mulL ds b c).1.length = ds.length := by
  induction ds generalizing c with
  | nil => rfl
  | cons d ds ih => simp only [mulL, List.length_cons, ih]
theorem mulL_dig (ds : List Int) (b c : Int) : Dig (mulL ds b c).1 := by
  induction ds generalizing c with
  | nil => intro d hd; simp [mulL] at hd
  | cons d ds ih =>
    intro x hx
    simp only [mulL, List.mem_cons] at hx
    rcases hx with rfl | hx
    · omega
    · exact ih _ x hx
theorem mulL_val (ds : List Int) (b c : Int) : val (mulL ds b c).1 + 10000 ^ ds.length * (mulL ds b c).2 = val ds * b + c := by
  induction ds generalizing c with
  | nil => simp [mulL, val]
  | cons d ds ih =>
    simp only [mulL, val, List.length_cons]
    have h := ih ((d * b + c) / 10000)
    have e := Int.mul_ediv_add_emod (d * b + c) 10000
    rw [Int.pow_succ, Int.add_mul, Int.mul_assoc 10000]
    have e2 : (10000 : Int) ^ ds.length * 10000 * (mulL ds b ((d * b + c) / 10000)).2 = 10000 * (10000 ^ ds.length * (mulL ds b ((d * b + c) / 10000)).2) := by
      rw [Int.mul_comm ((10000 : Int) ^ ds.length) 10000, Int.mul_assoc]
    rw [e2]
    generalize val (mulL ds b ((d * b + c) / 10000)).1 = V at *
    generalize (10000 : Int) ^ ds.length * (mulL ds b ((d * b + c) / 10000)).2 = C at *
    generalize val ds * b = X at *
    generalize d * b = Y at *
    omega
theorem digit_step {d b c : Int} (hd : 0 ≤ d ∧ d < 10000) (hb : 1 ≤ b) (hc : 0 ≤ c ∧ c < b) : 0 ≤ d * b + c ∧ d * b + c < 10000 * b ∧ (0 ≤ (d * b + c) / 10000 ∧ (d * b + c) / 10000 < b) := by
  have h1 : 0 ≤ d * b := Int.mul_nonneg hd.1 (by omega)
  have h2 : d * b ≤ 9999 * b := Int.mul_le_mul_of_nonneg_right (by omega) (by omega)
  omega
theorem mulL_carry (ds : List Int) {b c : Int} (hd : Dig ds) (hb : 1 ≤ b) (hc : 0 ≤ c ∧ c < b) : 0 ≤ (mulL ds b c).2 ∧ (mulL ds b c).2 < b := by
  induction ds generalizing c with
  | nil => exact hc
  | cons d ds ih =>
    have h := digit_step (hd d List.mem_cons_self) hb hc
    exact ih (fun x hx => hd x (List.mem_cons_of_mem _ hx)) h.2.2

def pwZ (a b c : Int) : Int := 2 ^ a.toNat * 3 ^ b.toNat * 5 ^ c.toNat
def sgn3 (a b c : Int) : Int := cmpZ (pwZ a b c) (pwZ (-a) (-b) (-c))
theorem pwZ_pos (a b c : Int) : 0 < pwZ a b c := Int.mul_pos (Int.mul_pos (Int.pow_pos (by decide)) (Int.pow_pos (by decide))) (Int.pow_pos (by decide))
theorem cmpZ_swap (m n : Int) : cmpZ n m = - cmpZ m n := by
  rcases cmpZ_cases m n with ⟨h, h'⟩ | ⟨h, h'⟩ | ⟨h, h'⟩ <;> rcases cmpZ_cases n m with ⟨g, g'⟩ | ⟨g, g'⟩ | ⟨g, g'⟩ <;> rw [h, g] <;> first | rfl | omega
theorem sgn3_neg (a b c : Int) : sgn3 (-a) (-b) (-c) = - sgn3 a b c := by
  unfold sgn3; rw [Int.neg_neg, Int.neg_neg, Int.neg_neg]; exact cmpZ_swap _ _
theorem ipow_lt {m n : Int} (hm : 0 ≤ m) (h : m < n) : ∀ {g : Nat}, g ≠ 0 → m ^ g < n ^ g := by
  intro g hg
  obtain ⟨u, rfl⟩ := Int.eq_ofNat_of_zero_le hm
  obtain ⟨v, rfl⟩ := Int.eq_ofNat_of_zero_le (show 0 ≤ n by omega)
  have : u ^ g < v ^ g := Nat.pow_lt_pow_left (by omega) hg
  rw [← Int.natCast_pow, ← Int.natCast_pow]; exact Int.ofNat_lt.2 this
theorem cmpZ_pow {m n : Int} (hm : 0 ≤ m) (hn : 0 ≤ n) {g : Nat} (hg : g ≠ 0) : cmpZ (m ^ g) (n ^ g) = cmpZ m n := by
  rcases cmpZ_cases m n with ⟨h, h'⟩ | ⟨h, h'⟩ | ⟨h, h'⟩
  · rw [h]; exact cmpZ_lt (ipow_lt hm h' hg)
  · rw [h, h']; exact cmpZ_self _
  · rw [h]; exact cmpZ_gt (ipow_lt hn h' hg)
theorem ipow_mul (x : Int) (m n : Nat) : x ^ (m * n) = (x ^ m) ^ n := Int.pow_mul ..
theorem imul_pow (x y : Int) (n : Nat) : (x * y) ^ n = x ^ n * y ^ n := Int.mul_pow ..
theorem toNat_mul {g : Nat} (a : Int) : ((g : Int) * a).toNat = a.toNat * g := by
  rcases Int.le_total 0 a with h | h
  · obtain ⟨u, rfl⟩ := Int.eq_ofNat_of_zero_le h
    rw [← Int.natCast_mul, Int.toNat_natCast, Int.toNat_natCast, Nat.mul_comm]
  · have h1 : (g : Int) * a ≤ 0 := Int.mul_nonpos_of_nonneg_of_nonpos (by omega) h
    rw [Int.toNat_of_nonpos h1, Int.toNat_of_nonpos h, Nat.zero_mul]
theorem pwZ_scale (g : Nat) (a b c : Int) : pwZ (g * a) (g * b) (g * c) = pwZ a b c ^ g := by
  unfold pwZ
  rw [toNat_mul, toNat_mul, toNat_mul, ipow_mul, ipow_mul, ipow_mul, ← imul_pow, ← imul_pow]
theorem sgn3_scale {g : Nat} (hg : g ≠ 0) (a b c : Int) : sgn3 (g * a) (g * b) (g * c) = sgn3 a b c := by
  unfold sgn3
  rw [← Int.mul_neg, ← Int.mul_neg, ← Int.mul_neg, pwZ_scale, pwZ_scale]
  exact cmpZ_pow (Int.le_of_lt (pwZ_pos _ _ _)) (Int.le_of_lt (pwZ_pos _ _ _)) hg
theorem sgn3_div {a b c : Int} {g : Nat} (hg : g ≠ 0) (ha : (g : Int) ∣ a) (hb : (g : Int) ∣ b) (hc : (g : Int) ∣ c) : sgn3 (Int.tdiv a g) (Int.tdiv b g) (Int.tdiv c g) = sgn3 a b c := by
  obtain ⟨x, rfl⟩ := ha
  obtain ⟨y, rfl⟩ := hb
  obtain ⟨z, rfl⟩ := hc
  have hg' : (g : Int) ≠ 0 := by omega
  rw [Int.mul_tdiv_cancel_left _ hg', Int.mul_tdiv_cancel_left _ hg', Int.mul_tdiv_cancel_left _ hg', sgn3_scale hg]

theorem itimes_run {n : Int} (hn : 1 ≤ n ∧ n ≤ 1000000000) : ∀ (rest done acc : List Int) (c : Int) (k : Nat), Dig rest → 0 ≤ c ∧ c < n → done.length + rest.length ≤ 1000000 → acc.length + rest.length ≤ 1000000 →
    impl_times.l0 (k + rest.length) n acc c (done ++ rest) ((done ++ rest).length : Int) (done.length : Int) = impl_times.l0 k n (acc ++ (mulL rest n c).1) (mulL rest n c).2 (done ++ rest) ((done ++ rest).length : Int) ((done.length + rest.length : Nat) : Int) := by
  intro rest
  induction rest with
  | nil => intro done acc c k _ _ _ _; simp [mulL]
  | cons d rest ih =>
    intro done acc c k hd hc hl ha
    have hs := digit_step (hd d List.mem_cons_self) hn.1 hc
    have e0 : k + (d :: rest).length = (k + rest.length) + 1 := by simp; omega
    rw [e0]
    simp only [impl_times.l0]
    simp only [List.length_cons] at hl ha
    have hdb : 0 ≤ d * n ∧ d * n ≤ 10000000000000 := by
      have h1 := hd d List.mem_cons_self
      have h2 : d * n ≤ 10000 * n := Int.mul_le_mul_of_nonneg_right (by omega) (by omega)
      have h3 := Int.mul_nonneg h1.1 (show 0 ≤ n by omega)
      omega
    rw [if_pos (by simp; omega), if_pos (by omega), if_pos (by simp; omega), if_pos (by omega), rd_mid, wrap_id (x := d * n) (by omega), wrap_id (x := d * n + c) (by omega), Int.tmod_eq_emod_of_nonneg hs.1, Int.tdiv_eq_ediv_of_nonneg hs.1, wrap_id (x := (d * n + c) / 10000) (by omega), succ_wrap (by omega)]
    have h := ih (done ++ [d]) (acc ++ [(d * n + c) % 10000]) ((d * n + c) / 10000) k (fun x hx => hd x (List.mem_cons_of_mem _ hx)) hs.2.2 (by simp; omega) (by simp; omega)
    have e2 : ((done ++ [d]).length : Int) = ((done.length + 1 : Nat) : Int) := by simp
    have e5 : done ++ [d] ++ rest = done ++ d :: rest := by simp
    rw [e2, e5] at h
    rw [h]
    have e3 : (acc ++ [(d * n + c) % 10000]) ++ (mulL rest n ((d * n + c) / 10000)).1 = acc ++ (mulL (d :: rest) n c).1 := by simp [mulL]
    have e4 : (done ++ [d]).length + rest.length = done.length + (d :: rest).length := by simp; omega
    rw [e3, e4]
    rfl
theorem itimes_l2 : ∀ (m : Nat) (x : List Int) (k : Nat), x.length = m → Dig x → m ≤ 2000000 → m < k → ∃ out, impl_times.l2 k x = some out ∧ Norm out ∧ val out = val x ∧ out.length ≤ x.length := by
  intro m
  induction m with
  | zero =>
    intro x k hx _ _ hk
    obtain ⟨k, rfl⟩ : ∃ q, k = q + 1 := ⟨k - 1, by omega⟩
    obtain rfl := List.eq_nil_of_length_eq_zero hx
    refine ⟨[], ?_, ⟨by intro d hd; simp at hd, by simp⟩, rfl, Nat.le_refl _⟩
    simp only [impl_times.l2]
    rw [if_neg (by simp)]
  | succ m ih =>
    intro x k hx hd hm hk
    obtain ⟨k, rfl⟩ : ∃ q, k = q + 1 := ⟨k - 1, by omega⟩
    obtain ⟨a, y, rfl⟩ := (List.eq_nil_or_concat x).resolve_left (by intro e; subst e; simp at hx)
    simp only [List.concat_eq_append] at *
    have ha : a.length = m := by simpa using hx
    have el : wrap64 (((a ++ [y]).length : Int) - 1) = ((m : Nat) : Int) := by rw [wrap_id (by omega)]; omega
    have er : rd (a ++ [y]) (m : Int) = y := by have := rd_mid a [] y; rwa [ha] at this
    simp only [impl_times.l2]
    rw [if_pos (by omega), el, if_pos (by omega), if_pos (by omega), er]
    by_cases hy : y = 0
    · rw [if_pos hy, if_pos (by omega)]
      have et : (a ++ [y]).take ((m : Int)).toNat = a := by rw [Int.toNat_natCast, ← ha, List.take_left]
      rw [et]
      obtain ⟨out, h1, h2, h3, h4⟩ := ih a k ha hd.left (by omega) (by omega)
      exact ⟨out, h1, h2, by rw [h3, val_snoc, hy]; omega, by omega⟩
    · rw [if_neg hy]
      exact ⟨_, rfl, ⟨hd, by simpa using hy⟩, rfl, Nat.le_refl _⟩
theorem itimes_l1 : ∀ (m : Nat) (x : List Int) (c : Int) (k : Nat), Dig x → 0 ≤ c ∧ c < 10000 ^ m → c ≤ 1000000000 → x.length + m ≤ 2000000 → x.length + 2 * m + 1 < k →
    ∃ out, impl_times.l1 k x c = some out ∧ Norm out ∧ val out = val x + 10000 ^ x.length * c ∧ out.length ≤ x.length + m := by
  intro m
  induction m with
  | zero =>
    intro x c k hd hc hb hl hk
    obtain ⟨k, rfl⟩ : ∃ q, k = q + 1 := ⟨k - 1, by omega⟩
    have hc0 : c = 0 := by simp at hc; omega
    subst hc0
    simp only [impl_times.l1]
    rw [if_neg (by omega)]
    obtain ⟨out, h1, h2, h3, h4⟩ := itimes_l2 x.length x k rfl hd (by omega) (by omega)
    exact ⟨out, h1, h2, by rw [h3, Int.mul_zero]; omega, by omega⟩
  | succ m ih =>
    intro x c k hd hc hb hl hk
    obtain ⟨k, rfl⟩ : ∃ q, k = q + 1 := ⟨k - 1, by omega⟩
    simp only [impl_times.l1]
    by_cases h0 : c > 0
    · rw [if_pos h0, if_pos (by omega), Int.tmod_eq_emod_of_nonneg hc.1, Int.tdiv_eq_ediv_of_nonneg hc.1, wrap_id (by omega)]
      have hdiv : c / 10000 < 10000 ^ m := by
        have := hc.2
        rw [Int.pow_succ] at this
        omega
      obtain ⟨out, h1, h2, h3, h4⟩ := ih (x ++ [c % 10000]) (c / 10000) k (hd.append (Dig.one (by omega))) ⟨by omega, hdiv⟩ (by omega) (by simp; omega) (by simp; omega)
      refine ⟨out, h1, h2, ?_, by simp at h4; omega⟩
      rw [h3, val_snoc]
      have el : (x ++ [c % 10000]).length = x.length + 1 := by simp
      have e := Int.mul_ediv_add_emod c 10000
      rw [el, Int.pow_succ, Int.mul_assoc, Int.add_assoc, ← Int.mul_add, Int.add_comm (c % 10000), e]
    · rw [if_neg h0]
      have hc0 : c = 0 := by omega
      obtain ⟨out, h1, h2, h3, h4⟩ := itimes_l2 x.length x k rfl hd (by omega) (by omega)
      exact ⟨out, h1, h2, by rw [h3, hc0, Int.mul_zero]; omega, by omega⟩
theorem impl_times_eq {x : List Int} {n : Int} {k : Nat} (hn : 1 ≤ n ∧ n ≤ 1000000000) (hx : Norm x) (hl : x.length ≤ 1000000) (hk : 4000000 ≤ k) :
    ∃ out, impl_times.f k x n = some out ∧ Norm out ∧ val out = val x * n ∧ out.length ≤ x.length + 3 := by
  unfold impl_times.f
  obtain ⟨k, rfl⟩ : ∃ q, k = (q + 1) + x.length := ⟨k - x.length - 1, by omega⟩
  have hr := itimes_run hn x [] [] 0 (k + 1) hx.1 (by omega) (by simp; omega) (by simp; omega)
  have hr' : impl_times.l0 (k + 1 + x.length) n [] 0 x (x.length : Int) 0 = impl_times.l0 (k + 1) n (mulL x n 0).1 (mulL x n 0).2 x (x.length : Int) (x.length : Int) := by simpa using hr
  rw [hr']
  simp only [impl_times.l0]
  rw [if_neg (by omega)]
  have hc := mulL_carry x (c := 0) hx.1 hn.1 (by omega)
  have hlen := mulL_len x n 0
  have hv := mulL_val x n 0
  have h103 : (10000 : Int) ^ 3 = 1000000000000 := by decide
  obtain ⟨out, h1, h2, h3, h4⟩ := itimes_l1 3 (mulL x n 0).1 (mulL x n 0).2 k (mulL_dig x n 0) ⟨hc.1, by rw [h103]; omega⟩ (by omega) (by omega) (by omega)
  exact ⟨out, h1, h2, by rw [h3, hlen, hv]; omega, by omega⟩
theorem prod_l2 {p e q left : Int} {x7 : List Int} {x21 : List (List Int)} {x22 x23 : Int} (n : Nat) (hn : n ≤ 29) (hp : 1 ≤ p ∧ p ≤ 5) (hpn : p ^ n ≤ 1000000000) : ∀ (d i k : Nat), i + d = n →
    impl_product.l2 (k + d + 1) x7 [p, e, q] left (n : Int) (p ^ i) (i : Int) x21 x22 x23 = (impl_times.f k x7 (p ^ n)).bind fun t => impl_product.l1 k t [p, e, q] (wrap64 (left - (n : Int))) x21 x22 x23 := by
  intro d
  induction d with
  | zero =>
    intro i k hi
    simp only [impl_product.l2]
    rw [if_neg (by omega)]
    have : i = n := by omega
    subst this; rfl
  | succ d ih =>
    intro i k hi
    have e0 : k + (d + 1) + 1 = (k + d + 1) + 1 := by omega
    rw [e0]
    obtain ⟨K, hK⟩ : ∃ K, K = k + d + 1 := ⟨_, rfl⟩
    rw [← hK]
    simp only [impl_product.l2]
    rw [hK]
    have er : rd [p, e, q] 0 = p := by rfl
    have hb : 0 ≤ p ^ i * p ∧ p ^ i * p ≤ 1000000000 := by
      have h1 : p ^ (i + 1) ≤ p ^ n := by
        obtain ⟨u, rfl⟩ := Int.eq_ofNat_of_zero_le (show 0 ≤ p by omega)
        exact ipow_le (b := u) (by omega) (by omega)
      rw [Int.pow_succ] at h1
      have h2 : 0 < p ^ i := Int.pow_pos (by omega)
      have h3 := Int.mul_pos h2 (show 0 < p by omega)
      omega
    rw [if_pos (by omega), if_pos (by simp), er, wrap_id (by omega), succ_wrap (by omega), ← Int.pow_succ]
    exact ih (i + 1) k (by omega)
theorem prod_l1 {p e : Int} {q : Nat} (hp : 1 ≤ p ∧ p ≤ 5) (hq : 1 ≤ q ∧ q ≤ 29) (hpq : p ^ q ≤ 1000000000) (x21 : List (List Int)) (x22 x23 : Int) : ∀ (m left : Nat) (x : List Int) (k : Nat), left ≤ m → Norm x → 1 ≤ val x → x.length + 3 * left ≤ 1000000 → 40 * left + 5000000 ≤ k →
    ∃ out k', impl_product.l1 k x [p, e, (q : Int)] (left : Int) x21 x22 x23 = impl_product.l0 k' out x21 x22 (wrap64 (x23 + 1)) ∧ Norm out ∧ 1 ≤ val out ∧ val out = val x * p ^ left ∧ out.length ≤ x.length + 3 * left ∧ k ≤ k' + 40 * left + 1 := by
  intro m
  induction m with
  | zero =>
    intro left x k hm hx hv hl hk
    obtain ⟨k, rfl⟩ : ∃ q, k = q + 1 := ⟨k - 1, by omega⟩
    have : left = 0 := by omega
    subst this
    refine ⟨x, k, ?_, hx, hv, by simp, by omega, by omega⟩
    simp only [impl_product.l1]
    rw [if_neg (by omega)]
  | succ m ih =>
    intro left x k hm hx hv hl hk
    rcases Nat.eq_zero_or_pos left with h0 | h0
    · exact ih left x k (by omega) hx hv hl hk
    · have hmn : ∃ n : Nat, mn (left : Int) (rd [p, e, (q : Int)] 2) = (n : Int) ∧ 1 ≤ n ∧ n ≤ left ∧ n ≤ q := by
        have er : rd [p, e, (q : Int)] 2 = (q : Int) := rfl
        rw [er]; unfold mn
        split
        · exact ⟨q, rfl, by omega, by omega, by omega⟩
        · exact ⟨left, rfl, by omega, by omega, by omega⟩
      obtain ⟨n, hn, n1, n2, n3⟩ := hmn
      obtain ⟨k, rfl⟩ : ∃ r, k = (r + n + 1) + 1 := ⟨k - n - 2, by omega⟩
      have hpn : p ^ n ≤ 1000000000 := by
        have h1 : p ^ n ≤ p ^ q := by
          obtain ⟨u, rfl⟩ := Int.eq_ofNat_of_zero_le (show 0 ≤ p by omega)
          exact ipow_le (b := u) (by omega) n3
        omega
      have hpn0 : 0 < p ^ n := Int.pow_pos (by omega)
      have hpn1 : 1 ≤ p ^ n := hpn0
      obtain ⟨t, t1, t2, t3, t4⟩ := impl_times_eq (x := x) (n := p ^ n) (k := k) ⟨hpn1, hpn⟩ hx (by omega) (by omega)
      have ht : 1 ≤ val t := by
        rw [t3]
        have : val x * 1 ≤ val x * p ^ n := Int.mul_le_mul_of_nonneg_left hpn1 (by omega)
        omega
      obtain ⟨out, k', g1, g2, g3, g4, g5, g6⟩ := ih (left - n) t k (by omega) t2 ht (by omega) (by omega)
      refine ⟨out, k', ?_, g2, g3, ?_, by omega, by omega⟩
      · simp only [impl_product.l1]
        rw [if_pos (by omega), if_pos (by simp), hn]
        have := prod_l2 (e := e) (q := (q : Int)) (left := (left : Int)) (x7 := x) (x21 := x21) (x22 := x22) (x23 := x23) n (by omega) hp hpn n 0 k (by omega)
        rw [show ((0 : Nat) : Int) = 0 from rfl, Int.pow_zero] at this
        rw [this, t1, Option.bind_some, wrap_id (by omega)]
        have e1 : (left : Int) - (n : Int) = ((left - n : Nat) : Int) := by omega
        rw [e1]; exact g1
      · rw [g4, t3, Int.mul_assoc, ← Int.pow_add]
        congr 2; omega
theorem impl_prod {a b c : Nat} {k : Nat} (ha : a ≤ 100000) (hb : b ≤ 100000) (hc : c ≤ 100000) (hk : 100000000 ≤ k) :
    ∃ out, impl_product.f k (a : Int) (b : Int) (c : Int) = some out ∧ Norm out ∧ val out = 2 ^ a * 3 ^ b * 5 ^ c ∧ out.length ≤ 1000000 := by
  unfold impl_product.f
  simp only [Option.bind_some]
  obtain ⟨k, rfl⟩ : ∃ r, k = r + 1 := ⟨k - 1, by omega⟩
  have n1 : Norm [1] := ⟨by intro d hd; simp at hd; omega, by simp⟩
  generalize hR : ([[2, (a : Int), 29], [3, (b : Int), 18], [5, (c : Int), 12]] : List (List Int)) = R
  have hRl : (R.length : Int) = 3 := by rw [← hR]; rfl
  have r0 : rd_L2 R 0 = [2, (a : Int), 29] := by rw [← hR]; rfl
  have r1 : rd_L2 R 1 = [3, (b : Int), 18] := by rw [← hR]; rfl
  have r2 : rd_L2 R 2 = [5, (c : Int), 12] := by rw [← hR]; rfl
  rw [hRl]
  obtain ⟨o1, k1, g1, N1, p1, v1, l1, f1⟩ := prod_l1 (p := 2) (e := (a : Int)) (q := 29) (by omega) (by omega) (by decide) R 3 0 a a [1] k (Nat.le_refl _) n1 (by simp [val]) (by simp; omega) (by omega)
  simp only [List.length_cons, List.length_nil] at l1
  obtain ⟨k1, rfl⟩ : ∃ r, k1 = r + 1 := ⟨k1 - 1, by omega⟩
  obtain ⟨o2, k2, g2, N2, p2, v2, l2, f2⟩ := prod_l1 (p := 3) (e := (b : Int)) (q := 18) (by omega) (by omega) (by decide) R 3 1 b b o1 k1 (Nat.le_refl _) N1 p1 (by omega) (by omega)
  obtain ⟨k2, rfl⟩ : ∃ r, k2 = r + 1 := ⟨k2 - 1, by omega⟩
  obtain ⟨o3, k3, g3, N3, p3, v3, l3, f3⟩ := prod_l1 (p := 5) (e := (c : Int)) (q := 12) (by omega) (by omega) (by decide) R 3 2 c c o2 k2 (Nat.le_refl _) N2 p2 (by omega) (by omega)
  obtain ⟨k3, rfl⟩ : ∃ r, k3 = r + 1 := ⟨k3 - 1, by omega⟩
  refine ⟨o3, ?_, N3, ?_, by omega⟩
  · simp only [impl_product.l0]
    rw [if_pos (by omega), if_pos (by omega), if_pos (by omega), r0, if_pos (by simp)]
    have e0 : rd [2, (a : Int), 29] 1 = (a : Int) := rfl
    rw [e0]
    rw [show ((29 : Nat) : Int) = 29 from rfl] at g1
    rw [g1, wrap_id (by omega)]
    simp only [impl_product.l0]
    rw [show (0 : Int) + 1 = 1 from rfl]
    rw [if_pos (by omega), if_pos (by omega), if_pos (by omega), r1, if_pos (by simp)]
    have e1 : rd [3, (b : Int), 18] 1 = (b : Int) := rfl
    rw [e1]
    rw [show ((18 : Nat) : Int) = 18 from rfl] at g2
    rw [g2, wrap_id (by omega)]
    simp only [impl_product.l0]
    rw [show (1 : Int) + 1 = 2 from rfl]
    rw [if_pos (by omega), if_pos (by omega), if_pos (by omega), r2, if_pos (by simp)]
    have e2 : rd [5, (c : Int), 12] 1 = (c : Int) := rfl
    rw [e2]
    rw [show ((12 : Nat) : Int) = 12 from rfl] at g3
    rw [g3, wrap_id (by omega)]
    simp only [impl_product.l0]
    rw [show (2 : Int) + 1 = 3 from rfl, if_neg (by omega)]
  · rw [v3, v2, v1]; simp [val]
theorem impl_cmp_l0 : ∀ (n : Nat) (a b s : List Int) (k : Nat), a.length = n → b.length = n → Dig a → Dig b → n + s.length ≤ 1000000 → n < k →
    impl_order.l0 k (a ++ s) (b ++ s) ((n : Int) - 1) = some (cmpZ (val a) (val b)) := by
  intro n
  induction n with
  | zero =>
    intro a b s k ha hb _ _ _ hk
    obtain ⟨k, rfl⟩ : ∃ q, k = q + 1 := ⟨k - 1, by omega⟩
    simp only [impl_order.l0]
    rw [if_neg (by omega)]
    rw [List.eq_nil_of_length_eq_zero ha, List.eq_nil_of_length_eq_zero hb, cmpZ_self]
  | succ n ih =>
    intro a b s k ha hb da db hl hk
    obtain ⟨k, rfl⟩ : ∃ q, k = q + 1 := ⟨k - 1, by omega⟩
    obtain ⟨a, x, rfl⟩ := (List.eq_nil_or_concat a).resolve_left (by intro e; subst e; simp at ha)
    obtain ⟨b, y, rfl⟩ := (List.eq_nil_or_concat b).resolve_left (by intro e; subst e; simp at hb)
    simp only [List.concat_eq_append] at *
    have ha' : a.length = n := by simpa using ha
    have hb' : b.length = n := by simpa using hb
    have ei : ((n + 1 : Nat) : Int) - 1 = (n : Int) := by omega
    rw [ei]
    simp only [impl_order.l0]
    have ra : rd (a ++ [x] ++ s) (n : Int) = x := by have := rd_mid a s x; rw [ha'] at this; simpa using this
    have rb : rd (b ++ [y] ++ s) (n : Int) = y := by have := rd_mid b s y; rw [hb'] at this; simpa using this
    rw [if_pos (by omega), if_pos (by omega), if_pos (by simp; omega), if_pos (by simp; omega), ra, rb, cmp_snoc da.left db.left (by omega)]
    by_cases h2 : x < y
    · rw [if_pos h2, if_pos h2]
    · rw [if_neg h2, if_neg h2]
      by_cases h3 : x > y
      · rw [if_pos h3, if_pos h3]
      · rw [if_neg h3, if_neg h3, wrap_id (by omega)]
        have e : x = y := by omega
        subst e
        have := ih a b (x :: s) k ha' hb' da.left db.left (by simp; omega) (by omega)
        simpa using this
theorem impl_cmp {a b : List Int} {k : Nat} (ha : Norm a) (hb : Norm b) (hl : a.length ≤ 1000000) (hk : 100000000 ≤ k) : impl_order.f k a b = some (cmpZ (val a) (val b)) := by
  unfold impl_order.f
  by_cases h : a.length = b.length
  · rw [if_pos (by omega), wrap_id (by omega)]
    have := impl_cmp_l0 a.length a b [] k rfl h.symm ha.1 hb.1 (by simp; omega) (by omega)
    simpa using this
  · rw [if_neg (by omega)]
    by_cases h2 : a.length < b.length
    · rw [if_pos (by omega), cmpZ_lt (cmp_len ha hb h2)]
    · rw [if_neg (by omega), cmpZ_gt (cmp_len hb ha (by omega))]
theorem mx_zero' (a : Int) : mx a 0 = ((a.toNat : Nat) : Int) := by unfold mx; split <;> omega
theorem impl_sign_eq {a b c : Int} {k : Nat} (ha : -100000 ≤ a ∧ a ≤ 100000) (hb : -100000 ≤ b ∧ b ≤ 100000) (hc : -100000 ≤ c ∧ c ≤ 100000) (hk : 100000000 ≤ k) : impl_sign.f k a b c = some (sgn3 a b c) := by
  unfold impl_sign.f
  rw [wrap_id (x := -a) (by omega), wrap_id (x := -b) (by omega), wrap_id (x := -c) (by omega), mx_zero', mx_zero', mx_zero', mx_zero', mx_zero', mx_zero']
  obtain ⟨u, eu, nu, vu, lu⟩ := impl_prod (a := a.toNat) (b := b.toNat) (c := c.toNat) (k := k) (by omega) (by omega) (by omega) hk
  obtain ⟨v, ev, nv, vv, lv⟩ := impl_prod (a := (-a).toNat) (b := (-b).toNat) (c := (-c).toNat) (k := k) (by omega) (by omega) (by omega) hk
  rw [eu, Option.bind_some, ev, Option.bind_some, impl_cmp nu nv lu hk, Option.bind_some, vu, vv]
  rfl

theorem pow2_le {m n : Nat} (h : m ≤ n) : (2 : Int) ^ m ≤ 2 ^ n := ipow_le (b := 2) (by decide) h
theorem pow2_lt {m n : Nat} (h : m < n) : (2 : Int) ^ m < 2 ^ n := by
  have h1 : (2 : Int) ^ (m + 1) ≤ 2 ^ n := pow2_le h
  have h2 : (0 : Int) < 2 ^ m := Int.pow_pos (by decide)
  rw [Int.pow_succ] at h1
  omega
theorem pw35_pos (b c : Int) : (0 : Int) < 3 ^ b.toNat * 5 ^ c.toNat := Int.mul_pos (Int.pow_pos (by decide)) (Int.pow_pos (by decide))
theorem pwZ_eq (a b c : Int) : pwZ a b c = 2 ^ a.toNat * (3 ^ b.toNat * 5 ^ c.toNat) := by unfold pwZ; rw [Int.mul_assoc]
theorem pwZ_mono {a a' : Int} (b c : Int) (h : a ≤ a') : pwZ a b c ≤ pwZ a' b c := by
  rw [pwZ_eq, pwZ_eq]
  exact Int.mul_le_mul_of_nonneg_right (pow2_le (by omega)) (Int.le_of_lt (pw35_pos b c))
theorem sgn3_nn {a b c : Int} : 0 ≤ sgn3 a b c ↔ pwZ (-a) (-b) (-c) ≤ pwZ a b c := by
  unfold sgn3
  rcases cmpZ_cases (pwZ a b c) (pwZ (-a) (-b) (-c)) with ⟨h, h'⟩ | ⟨h, h'⟩ | ⟨h, h'⟩ <;> rw [h] <;> constructor <;> intro g <;> omega
theorem sgn3_mono {a a' b c : Int} (h : a ≤ a') (hs : 0 ≤ sgn3 a b c) : 0 ≤ sgn3 a' b c := by
  rw [sgn3_nn] at *
  have h1 := pwZ_mono b c h
  have h2 := pwZ_mono (-b) (-c) (show -a' ≤ -a by omega)
  omega
theorem pw35_le (b c : Int) : (3 : Int) ^ b.toNat * 5 ^ c.toNat ≤ 2 ^ (2 * b.toNat + 3 * c.toNat) := by
  have h3 : (3 : Int) ^ b.toNat ≤ 2 ^ (2 * b.toNat) := by rw [Int.pow_mul]; exact ipow_base (a := 3) (b := 4) (by decide)
  have h5 : (5 : Int) ^ c.toNat ≤ 2 ^ (3 * c.toNat) := by rw [Int.pow_mul]; exact ipow_base (a := 5) (b := 8) (by decide)
  rw [Int.pow_add]
  exact Int.mul_le_mul h3 h5 (Int.le_of_lt (Int.pow_pos (by decide))) (Int.le_of_lt (Int.pow_pos (by decide)))
theorem pwZ_ge (a b c : Int) : 2 ^ a.toNat ≤ pwZ a b c := by
  rw [pwZ_eq]
  have h1 := pw35_pos b c
  have h2 : (2 : Int) ^ a.toNat * 1 ≤ 2 ^ a.toNat * (3 ^ b.toNat * 5 ^ c.toNat) := Int.mul_le_mul_of_nonneg_left (by omega) (Int.le_of_lt (Int.pow_pos (by decide)))
  omega
theorem pwZ_low {a : Int} (b c : Int) (h : a ≤ 0) : pwZ a b c ≤ 2 ^ (2 * b.toNat + 3 * c.toNat) := by
  rw [pwZ_eq, show a.toNat = 0 by omega, Int.pow_zero, Int.one_mul]
  exact pw35_le b c
theorem sgn3_high {a b c : Int} (hb : -400 ≤ b ∧ b ≤ 400) (hc : -400 ≤ c ∧ c ≤ 400) (h : 2000 ≤ a) : 0 ≤ sgn3 a b c := by
  rw [sgn3_nn]
  have h1 := pwZ_low (a := -a) (-b) (-c) (by omega)
  have h2 := pwZ_ge a b c
  have h3 : (2 : Int) ^ (2 * (-b).toNat + 3 * (-c).toNat) ≤ 2 ^ a.toNat := pow2_le (by omega)
  omega
theorem sgn3_low {a b c : Int} (hb : -400 ≤ b ∧ b ≤ 400) (hc : -400 ≤ c ∧ c ≤ 400) (h : a < -2000) : ¬ 0 ≤ sgn3 a b c := by
  rw [sgn3_nn]
  have h1 := pwZ_low (a := a) b c (by omega)
  have h2 := pwZ_ge (-a) (-b) (-c)
  have h3 : (2 : Int) ^ (2 * b.toNat + 3 * c.toNat) < 2 ^ (-a).toNat := pow2_lt (by omega)
  omega
def octS (two b c r : Int) : Nat → Int → Int
  | 0, n => n
  | f + 1, n => if 0 ≤ sgn3 (two - (n + 1) * r) b c then octS two b c r f (n + 1) else n
def octRounds : Nat := 4801
theorem octRounds_eq : octRounds = 4801 := rfl
def oct (two b c r : Int) : Int := octS two b c r octRounds (-2400)
theorem octS_spec (two b c r : Int) : ∀ (f : Nat) (n : Int), 0 ≤ sgn3 (two - n * r) b c → ¬ 0 ≤ sgn3 (two - (n + f) * r) b c → 0 ≤ sgn3 (two - octS two b c r f n * r) b c ∧ ¬ 0 ≤ sgn3 (two - (octS two b c r f n + 1) * r) b c ∧ n ≤ octS two b c r f n ∧ octS two b c r f n < n + f := by
  intro f
  induction f with
  | zero => intro n h1 h2; simp only [Int.natCast_zero, Int.add_zero] at h2; exact absurd h1 h2
  | succ f ih =>
    intro n h1 h2
    simp only [octS]
    by_cases h : 0 ≤ sgn3 (two - (n + 1) * r) b c
    · rw [if_pos h]
      have := ih (n + 1) h (by rw [show n + 1 + (f : Int) = n + ((f + 1 : Nat) : Int) by omega]; exact h2)
      exact ⟨this.1, this.2.1, by omega, by omega⟩
    · rw [if_neg h]
      exact ⟨h1, h, by omega, by omega⟩
theorem oct_spec {two b c r : Int} (ht : -400 ≤ two ∧ two ≤ 400) (hb : -400 ≤ b ∧ b ≤ 400) (hc : -400 ≤ c ∧ c ≤ 400) (hr : 1 ≤ r ∧ r ≤ 12) :
    0 ≤ sgn3 (two - oct two b c r * r) b c ∧ ¬ 0 ≤ sgn3 (two - (oct two b c r + 1) * r) b c ∧ -2400 ≤ oct two b c r ∧ oct two b c r ≤ 2400 := by
  have h := octS_spec two b c r octRounds (-2400) (sgn3_high hb hc (by omega)) (sgn3_low hb hc (by rw [octRounds_eq]; omega))
  have e := octRounds_eq
  unfold oct
  exact ⟨h.1, h.2.1, h.2.2.1, by have := h.2.2.2; omega⟩
theorem oct_P {two b c r n : Int} (ht : -400 ≤ two ∧ two ≤ 400) (hb : -400 ≤ b ∧ b ≤ 400) (hc : -400 ≤ c ∧ c ≤ 400) (hr : 1 ≤ r ∧ r ≤ 12) : 0 ≤ sgn3 (two - n * r) b c ↔ n ≤ oct two b c r := by
  obtain ⟨h1, h2, _, _⟩ := oct_spec ht hb hc hr
  constructor
  · intro h
    apply Decidable.byContradiction
    intro hn
    refine h2 (sgn3_mono (a := two - n * r) ?_ h)
    have : (oct two b c r + 1) * r ≤ n * r := Int.mul_le_mul_of_nonneg_right (by omega) (by omega)
    omega
  · intro h
    refine sgn3_mono ?_ h1
    have : n * r ≤ oct two b c r * r := Int.mul_le_mul_of_nonneg_right h (by omega)
    omega
theorem oct_eq {two b c r n : Int} (ht : -400 ≤ two ∧ two ≤ 400) (hb : -400 ≤ b ∧ b ≤ 400) (hc : -400 ≤ c ∧ c ≤ 400) (hr : 1 ≤ r ∧ r ≤ 12) (h1 : 0 ≤ sgn3 (two - n * r) b c) (h2 : ¬ 0 ≤ sgn3 (two - (n + 1) * r) b c) : oct two b c r = n := by
  rw [oct_P ht hb hc hr] at h1 h2
  omega

theorem mul_r {n r N : Int} (hn : -N ≤ n ∧ n ≤ N) (hr : 1 ≤ r ∧ r ≤ 12) : -(N * 12) ≤ n * r ∧ n * r ≤ N * 12 := mulb (A := N) (X := 12) hn (by omega)
theorem impl_oct_l1 {two b c r : Int} (ht : -400 ≤ two ∧ two ≤ 400) (hb : -400 ≤ b ∧ b ≤ 400) (hc : -400 ≤ c ∧ c ≤ 400) (hr : 1 ≤ r ∧ r ≤ 12) :
    ∀ (e : Nat) (n : Int) (k : Nat), n + (e : Int) = oct two b c r → -7000 ≤ n → 100000001 + e ≤ k → impl_OctavesIn.l1 k n two b c r = some (oct two b c r) := by
  obtain ⟨_, _, o1, o2⟩ := oct_spec ht hb hc hr
  intro e
  induction e with
  | zero =>
    intro n k hn hl hk
    obtain ⟨k', rfl⟩ : ∃ k', k = k' + 1 := ⟨k - 1, by omega⟩
    have m1 := mul_r (N := 7001) (n := n + 1) (by omega) hr
    rw [impl_OctavesIn.l1, wrap_id (x := n + 1) (by omega), wrap_id (x := (n + 1) * r) (by omega), wrap_id (x := two - (n + 1) * r) (by omega), impl_sign_eq (by omega) (by omega) (by omega) (by omega), Option.bind_some]
    rw [if_neg (fun h => by have := (oct_P ht hb hc hr).1 h; omega)]
    rw [show n = oct two b c r by omega]
  | succ e ih =>
    intro n k hn hl hk
    obtain ⟨k', rfl⟩ : ∃ k', k = k' + 1 := ⟨k - 1, by omega⟩
    have m1 := mul_r (N := 7001) (n := n + 1) (by omega) hr
    rw [impl_OctavesIn.l1, wrap_id (x := n + 1) (by omega), wrap_id (x := (n + 1) * r) (by omega), wrap_id (x := two - (n + 1) * r) (by omega), impl_sign_eq (by omega) (by omega) (by omega) (by omega), Option.bind_some]
    rw [if_pos ((oct_P ht hb hc hr).2 (by omega))]
    exact ih (n + 1) k' (by omega) (by omega) (by omega)
theorem impl_oct_l0 {two b c r : Int} (ht : -400 ≤ two ∧ two ≤ 400) (hb : -400 ≤ b ∧ b ≤ 400) (hc : -400 ≤ c ∧ c ≤ 400) (hr : 1 ≤ r ∧ r ≤ 12) :
    ∀ (d : Nat) (n : Int) (k : Nat), n ≤ oct two b c r + (d : Int) → -7000 ≤ n ∧ n ≤ 7000 → 100010001 + d ≤ k → impl_OctavesIn.l0 k n two b c r = some (oct two b c r) := by
  obtain ⟨_, _, o1, o2⟩ := oct_spec ht hb hc hr
  intro d
  induction d with
  | zero =>
    intro n k hn hl hk
    obtain ⟨k', rfl⟩ : ∃ k', k = k' + 1 := ⟨k - 1, by omega⟩
    have m1 := mul_r (N := 7000) (n := n) (by omega) hr
    rw [impl_OctavesIn.l0, wrap_id (x := n * r) (by omega), wrap_id (x := two - n * r) (by omega), impl_sign_eq (by omega) (by omega) (by omega) (by omega), Option.bind_some]
    have h := (oct_P (n := n) ht hb hc hr).2 (by omega)
    rw [if_neg (by omega)]
    exact impl_oct_l1 ht hb hc hr (oct two b c r - n).toNat n k' (by omega) (by omega) (by omega)
  | succ d ih =>
    intro n k hn hl hk
    obtain ⟨k', rfl⟩ : ∃ k', k = k' + 1 := ⟨k - 1, by omega⟩
    have m1 := mul_r (N := 7000) (n := n) (by omega) hr
    rw [impl_OctavesIn.l0, wrap_id (x := n * r) (by omega), wrap_id (x := two - n * r) (by omega), impl_sign_eq (by omega) (by omega) (by omega) (by omega), Option.bind_some]
    by_cases h : 0 ≤ sgn3 (two - n * r) b c
    · have h2 := (oct_P (n := n) ht hb hc hr).1 h
      rw [if_neg (by omega)]
      exact impl_oct_l1 ht hb hc hr (oct two b c r - n).toNat n k' (by omega) (by omega) (by omega)
    · have h2 : ¬ n ≤ oct two b c r := fun g => h ((oct_P (n := n) ht hb hc hr).2 g)
      rw [if_pos (by omega), wrap_id (x := n - 1) (by omega)]
      exact ih (n - 1) k' (by omega) (by omega) (by omega)
theorem tdiv_est {x y : Int} (hx : -2000000000 ≤ x ∧ x ≤ 2000000000) (hy : 1000000 ≤ y) : -2000 ≤ Int.tdiv x y ∧ Int.tdiv x y ≤ 2000 := by
  have h : (Int.tdiv x y).natAbs ≤ 2000 := by
    rw [Int.natAbs_tdiv, show x.natAbs.div y.natAbs = x.natAbs / y.natAbs from rfl]
    have h1 : x.natAbs / y.natAbs ≤ 2000000000 / y.natAbs := Nat.div_le_div_right (by omega)
    have h2 : 2000000000 / y.natAbs ≤ 2000000000 / 1000000 := Nat.div_le_div_left (by omega) (by decide)
    omega
  omega
def octI (a b c d : Int) : Int := if iok a b c d = true then oct a b c d else 0
theorem impl_octI {k : Nat} (a b c d : Int) (hk : 100020002 ≤ k) : impl_OctavesIn.f k a b c d = some (octI a b c d) := by
  unfold impl_OctavesIn.f octI
  rw [impl_iok, Option.bind_some]
  by_cases h : iok a b c d = true
  · obtain ⟨i1, i2, i3, i4⟩ := iok_bounds h
    obtain ⟨_, _, o1, o2⟩ := oct_spec i2 i3 i4 i1
    rw [if_pos h, if_pos h]
    rw [wrap_id (x := 1000000 * d) (by omega), if_neg (by omega)]
    rw [wrap_id (x := a * 1000000) (by omega), wrap_id (x := b * 1584963) (by omega), wrap_id (x := c * 2321928) (by omega), wrap_id (x := a * 1000000 + b * 1584963) (by omega), wrap_id (x := a * 1000000 + b * 1584963 + c * 2321928) (by omega)]
    have t := tdiv_est (x := a * 1000000 + b * 1584963 + c * 2321928) (y := 1000000 * d) (by omega) (by omega)
    rw [wrap_id (by omega)]
    exact impl_oct_l0 i2 i3 i4 i1 9000 _ k (by omega) (by omega) (by omega)
  · rw [if_neg h, if_neg h]
def withinO (a b c d : Int) : Int × Int × Int × Int × Bool := if iok a b c d = true then chk (a - oct a b c d * d) b c d else (0, 0, 0, 0, false)
theorem impl_withinO {k : Nat} (a b c d : Int) (hk : 100020002 ≤ k) : impl_WithinOctave.f k a b c d = some (withinO a b c d) := by
  unfold impl_WithinOctave.f withinO
  rw [impl_iok, Option.bind_some]
  by_cases h : iok a b c d = true
  · obtain ⟨i1, i2, i3, i4⟩ := iok_bounds h
    obtain ⟨_, _, o1, o2⟩ := oct_spec i2 i3 i4 i1
    have m1 := mul_r (N := 2400) (n := oct a b c d) (by omega) i1
    rw [if_pos h, if_pos h, impl_octI a b c d hk, Option.bind_some]
    unfold octI
    rw [if_pos h, wrap_id (x := oct a b c d * d) (by omega), wrap_id (x := a - oct a b c d * d) (by omega), impl_checked (by omega) (by omega) (by omega) (by omega) (by omega)]
    rfl
  · rw [if_neg h, if_neg h]

def signOf (a b c d : Int) : Int := if iok a b c d = true then sgn3 a b c else 0
theorem impl_signOf {k : Nat} (a b c d : Int) (hk : 100000000 ≤ k) : impl_SignOf.f k a b c d = some (signOf a b c d) := by
  unfold impl_SignOf.f signOf
  rw [impl_iok, Option.bind_some]
  by_cases h : iok a b c d = true
  · obtain ⟨i1, i2, i3, i4⟩ := iok_bounds h
    rw [if_pos h, if_pos h, impl_sign_eq (by omega) (by omega) (by omega) hk]; rfl
  · rw [if_neg h, if_neg h]

def compareI (a b c d x y z r : Int) : Int := if iok a b c d = true ∧ iok x y z r = true then sgn3 (a * r - x * d) (b * r - y * d) (c * r - z * d) else 0
theorem sub_wrap {a d x r : Int} (ha : -400 ≤ a ∧ a ≤ 400) (hx : -400 ≤ x ∧ x ≤ 400) (hd : 1 ≤ d ∧ d ≤ 12) (hr : 1 ≤ r ∧ r ≤ 12) : wrap64 ((wrap64 (a * r)) - (wrap64 (x * d))) = a * r - x * d ∧ (-100000 ≤ a * r - x * d ∧ a * r - x * d ≤ 100000) := by
  have m1 := mulb (A := 400) (X := 12) (a := a) (x := r) (by omega) (by omega)
  have m2 := mulb (A := 400) (X := 12) (a := x) (x := d) (by omega) (by omega)
  rw [wrap_id (x := a * r) (by omega), wrap_id (x := x * d) (by omega), wrap_id (by omega)]
  exact ⟨rfl, by omega⟩
theorem impl_compareI {k : Nat} (a b c d x y z r : Int) (hk : 100000000 ≤ k) : impl_CompareIntervals.f k a b c d x y z r = some (compareI a b c d x y z r) := by
  unfold impl_CompareIntervals.f compareI
  rw [impl_iok, impl_iok]
  simp only [Option.bind_some]
  by_cases h1 : iok a b c d = true
  · by_cases h2 : iok x y z r = true
    · obtain ⟨i1, i2, i3, i4⟩ := iok_bounds h1
      obtain ⟨j1, j2, j3, j4⟩ := iok_bounds h2
      rw [if_pos h1, if_pos h2, if_pos ⟨h1, h2⟩]
      obtain ⟨e1, b1⟩ := sub_wrap i2 j2 i1 j1
      obtain ⟨e2, b2⟩ := sub_wrap i3 j3 i1 j1
      obtain ⟨e3, b3⟩ := sub_wrap i4 j4 i1 j1
      rw [e1, e2, e3, impl_sign_eq b1 b2 b3 hk]
      rfl
    · rw [if_pos h1, if_neg h2, if_neg (fun h => h2 h.2)]
  · rw [if_neg h1, if_neg (fun h => h1 h.1)]

theorem gcd_le_b {a b : Int} {B : Nat} (ha : a.natAbs ≤ B) (hb : b.natAbs ≤ B) : Int.gcd a b ≤ B := by
  unfold Int.gcd
  rcases Nat.eq_zero_or_pos b.natAbs with h | h
  · rw [h, Nat.gcd_zero_right]; exact ha
  · exact Nat.le_trans (Nat.le_of_dvd h (Nat.gcd_dvd_right _ _)) hb

def isComma (a b c d : Int) : Bool := iok a b c d && (decide (d = 1) && (decide (signOf a b c d > 0) && (decide (compareI a b c d (-3) (-1) 2 1 ≤ 0) && (((Int.gcd ((Int.gcd a b : Nat) : Int) c : Nat) : Int) == 1))))
theorem pureTop : pureOf (-3) (-1) 2 = (-3, -1, 2, 1) := by decide
theorem impl_isComma {k : Nat} (a b c d : Int) (hk : 100000000 ≤ k) : impl_IsComma.f k a b c d = some (isComma a b c d) := by
  unfold impl_IsComma.f isComma
  rw [impl_iok, Option.bind_some]
  by_cases h : iok a b c d = true
  · obtain ⟨i1, i2, i3, i4⟩ := iok_bounds h
    have hg := gcd_le_b (a := a) (b := b) (B := 400) (by omega) (by omega)
    rw [if_pos h, h, Bool.true_and]
    by_cases h1 : d = 1
    · rw [if_pos h1, decide_eq_true h1, Bool.true_and, impl_signOf _ _ _ _ hk, Option.bind_some]
      by_cases h2 : signOf a b c d > 0
      · rw [if_pos h2, decide_eq_true h2, Bool.true_and, impl_pureOf, pureTop, Option.bind_some, impl_compareI _ _ _ _ _ _ _ _ hk, Option.bind_some]
        by_cases h3 : compareI a b c d (-3) (-1) 2 1 ≤ 0
        · rw [if_pos h3, decide_eq_true h3, Bool.true_and, impl_gcd (by omega) (by omega) (by omega), Option.bind_some, impl_gcd (by omega) (by omega) (by omega), Option.bind_some]
        · rw [if_neg h3, decide_eq_false h3, Bool.false_and]
      · rw [if_neg h2, decide_eq_false h2, Bool.false_and]
    · rw [if_neg h1, decide_eq_false h1, Bool.false_and]
  · rw [if_neg h, Bool.eq_false_iff.2 h, Bool.false_and]

def cw (a b : Int) : Int × Int × Int × Int × Bool := withinO (pureOf 0 a b).1 (pureOf 0 a b).2.1 (pureOf 0 a b).2.2.1 (pureOf 0 a b).2.2.2
def cwOne (a b : Int) (l : List S29) : List S29 := if isComma (cw a b).1 (cw a b).2.1 (cw a b).2.2.1 (cw a b).2.2.2.1 = true then l ++ [⟨(cw a b).1, (cw a b).2.1, (cw a b).2.2.1, (cw a b).2.2.2.1⟩] else l
def cw1 (n a : Int) : Nat → Int → List S29 → List S29
  | 0, _, l => l
  | f + 1, b, l => if b ≤ n then cw1 n a f (b + 1) (cwOne a b l) else l
def cw0 (n : Int) : Nat → Int → List S29 → List S29
  | 0, _, l => l
  | f + 1, a, l => if a ≤ n then cw0 n f (a + 1) (cw1 n a 20 (-n) l) else l
def commasW (n : Int) : List S29 := if 0 ≤ n ∧ n ≤ 8 then cw0 n 20 (-n) [] else []
theorem cwOne_len (a b : Int) (l : List S29) : (cwOne a b l).length ≤ l.length + 1 := by
  unfold cwOne; split <;> simp
theorem cw1_len (n a : Int) : ∀ (f : Nat) (b : Int) (l : List S29), (cw1 n a f b l).length ≤ l.length + f := by
  intro f
  induction f with
  | zero => intro b l; simp [cw1]
  | succ f ih =>
    intro b l
    rw [cw1]
    split
    · have h1 := ih (b + 1) (cwOne a b l)
      have h2 := cwOne_len a b l
      omega
    · omega
theorem cw0_len (n : Int) : ∀ (f : Nat) (a : Int) (l : List S29), (cw0 n f a l).length ≤ l.length + 20 * f := by
  intro f
  induction f with
  | zero => intro a l; simp [cw0]
  | succ f ih =>
    intro a l
    rw [cw0]
    split
    · have h1 := ih (a + 1) (cw1 n a 20 (-n) l)
      have h2 := cw1_len n a 20 (-n) l
      omega
    · omega
theorem commasW_len (n : Int) : (commasW n).length ≤ 400 := by
  unfold commasW
  split
  · have := cw0_len n 20 (-n) []; simpa using this
  · simp
theorem isComma_ok {a b c d : Int} {ok : Bool} (h : ok = false → d = 0) (hc : isComma a b c d = true) : ok = true ∧ d = 1 := by
  unfold isComma at hc
  simp only [Bool.and_eq_true, decide_eq_true_eq] at hc
  have := hc.2.1
  cases ok with
  | true => exact ⟨rfl, this⟩
  | false => have := h rfl; omega
theorem chk_bad (a b c d : Int) : (chk a b c d).2.2.2.2 = false → (chk a b c d).2.2.2.1 = 0 := by
  unfold chk; split <;> simp
theorem cw_bad (a b : Int) : (cw a b).2.2.2.2 = false → (cw a b).2.2.2.1 = 0 := by
  unfold cw withinO
  split
  · exact chk_bad _ _ _ _
  · intro _; rfl
theorem impl_cw1 {n a : Int} (hn : 0 ≤ n ∧ n ≤ 8) (F : List S29 → List S29) (C B : Nat) (hC : 100020003 ≤ C) (hB : B ≤ 100000) (H : ∀ (k : Nat) (l : List S29), C ≤ k → l.length ≤ B → impl_CommasWithin.l0 k n l (wrap64 (a + 1)) = some (F l)) :
    ∀ (f : Nat) (b : Int) (l : List S29) (k : Nat), -8 ≤ b → b ≤ 9 → n < b + f → l.length + f ≤ B → C + f + 1 ≤ k → impl_CommasWithin.l1 k n l a b = some (F (cw1 n a f b l)) := by
  intro f
  induction f with
  | zero =>
    intro b l k h1 h2 h3 h4 h5
    obtain ⟨k', rfl⟩ : ∃ k', k = k' + 1 := ⟨k - 1, by omega⟩
    rw [impl_CommasWithin.l1, if_neg (by omega)]
    exact H k' l (by omega) (by omega)
  | succ f ih =>
    intro b l k h1 h2 h3 h4 h5
    obtain ⟨k', rfl⟩ : ∃ k', k = k' + 1 := ⟨k - 1, by omega⟩
    rw [impl_CommasWithin.l1, cw1]
    by_cases h : b ≤ n
    · have hl := cwOne_len a b l
      have hi := ih (b + 1) (cwOne a b l) k' (by omega) (by omega) (by omega) (by omega) (by omega)
      rw [if_pos h, if_pos h, impl_pureOf, Option.bind_some, impl_withinO _ _ _ _ (by omega), Option.bind_some, wrap_id (x := b + 1) (by omega)]
      rw [show withinO (pureOf 0 a b).1 (pureOf 0 a b).2.1 (pureOf 0 a b).2.2.1 (pureOf 0 a b).2.2.2 = cw a b from rfl]
      by_cases g : isComma (cw a b).1 (cw a b).2.1 (cw a b).2.2.1 (cw a b).2.2.2.1 = true
      · obtain ⟨g1, g2⟩ := isComma_ok (cw_bad a b) g
        rw [if_pos g1, if_pos g2, impl_isComma _ _ _ _ (by omega), Option.bind_some, if_pos g, if_pos (by omega)]
        rw [← hi]; unfold cwOne; rw [if_pos g]
      · have e : cwOne a b l = l := by unfold cwOne; rw [if_neg g]
        rw [e] at hi ⊢
        by_cases g1 : (cw a b).2.2.2.2 = true
        · by_cases g2 : (cw a b).2.2.2.1 = 1
          · rw [if_pos g1, if_pos g2, impl_isComma _ _ _ _ (by omega), Option.bind_some, if_neg g]; exact hi
          · rw [if_pos g1, if_neg g2]; exact hi
        · rw [if_neg g1]; exact hi
    · rw [if_neg h, if_neg h]
      exact H k' l (by omega) (by omega)
theorem impl_cw0 {n : Int} (hn : 0 ≤ n ∧ n ≤ 8) : ∀ (f : Nat) (a : Int) (l : List S29) (k : Nat), -8 ≤ a → a ≤ 9 → n < a + f → l.length + 20 * f ≤ 1000 → 100020003 + 22 * (f + 1) ≤ k → impl_CommasWithin.l0 k n l a = some (cw0 n f a l) := by
  intro f
  induction f with
  | zero =>
    intro a l k h1 h2 h3 h4 h5
    obtain ⟨k', rfl⟩ : ∃ k', k = k' + 1 := ⟨k - 1, by omega⟩
    rw [impl_CommasWithin.l0, if_neg (by omega)]; rfl
  | succ f ih =>
    intro a l k h1 h2 h3 h4 h5
    obtain ⟨k', rfl⟩ : ∃ k', k = k' + 1 := ⟨k - 1, by omega⟩
    rw [impl_CommasWithin.l0, cw0]
    by_cases h : a ≤ n
    · rw [if_pos h, if_pos h, wrap_id (x := -n) (by omega)]
      refine impl_cw1 hn (cw0 n f (a + 1)) (100020003 + 22 * (f + 1)) (l.length + 20) (by omega) (by omega) ?_ 20 (-n) l k' (by omega) (by omega) (by omega) (by omega) (by omega)
      intro k l' hk hl
      rw [wrap_id (x := a + 1) (by omega)]
      exact ih (a + 1) l' k (by omega) (by omega) (by omega) (by omega) hk
    · rw [if_neg h, if_neg h]
theorem impl_commasW {k : Nat} (n : Int) (hk : 100021000 ≤ k) : impl_CommasWithin.f k n = some (commasW n) := by
  unfold impl_CommasWithin.f commasW
  rw [within_eq]
  simp only [Option.bind_some]
  by_cases h : 0 ≤ n ∧ n ≤ 8
  · rw [if_pos (by simpa using h), if_pos h, wrap_id (x := -n) (by omega)]
    exact impl_cw0 h 20 (-n) [] k (by omega) (by omega) (by omega) (by simp) (by omega)
  · rw [if_neg (by simpa using h), if_neg h]


theorem rdS_mid (pre rest : List S29) (p : S29) : rd_T29 (pre ++ p :: rest) ((pre.length : Nat) : Int) = p := by unfold rd_T29; simp
theorem setS_mid (pre rest : List S29) (p q : S29) : (pre ++ p :: rest).set ((pre.length : Nat) : Int).toNat q = pre ++ q :: rest := by simp
def mkS : Int → Nat → List S29
  | _, 0 => []
  | m, n + 1 => ⟨m, m + 1, m + 2, m + 3⟩ :: mkS (m + 4) n
theorem mkS_length (m : Int) (n : Nat) : (mkS m n).length = n := by
  induction n generalizing m with
  | zero => rfl
  | succ n ih => simp [mkS, ih]

theorem simp4_one (a b c : Int) : simp4 a b c 1 = (a, b, c, 1) := by
  have hg : g4 a b c 1 = 1 := by
    unfold g4
    have h1 : Int.gcd c 1 = 1 := by simp
    rw [h1]; simp
  unfold simp4
  rw [hg]
  simp
theorem cw_parts {a b : Int} (ha : -8 ≤ a ∧ a ≤ 8) (hb : -8 ≤ b ∧ b ≤ 8) (h : isComma (cw a b).1 (cw a b).2.1 (cw a b).2.2.1 (cw a b).2.2.2.1 = true) : (cw a b).2.1 = a ∧ (cw a b).2.2.1 = b := by
  have ho : iok 0 a b 1 = true := iok_mk (by omega)
  have e : cw a b = chk (0 - oct 0 a b 1 * 1) a b 1 := by
    unfold cw pureOf
    rw [if_pos ho]
    unfold withinO
    rw [if_pos ho]
  rw [e] at h ⊢
  unfold chk at h ⊢
  rw [simp4_one] at h ⊢
  simp only at h ⊢
  by_cases g : iok (0 - oct 0 a b 1 * 1) a b 1 = true
  · rw [if_pos g]; exact ⟨rfl, rfl⟩
  · rw [if_neg g] at h; exact absurd h (by decide)
def lexlt (p q : S29) : Prop := p.f1 < q.f1 ∨ (p.f1 = q.f1 ∧ p.f2 < q.f2)
def Good (a b : Int) (l : List S29) : Prop := (∀ p ∈ l, isComma p.f0 p.f1 p.f2 p.f3 = true) ∧ (∀ p ∈ l, p.f1 < a ∨ (p.f1 = a ∧ p.f2 < b)) ∧ l.Pairwise lexlt
def GoodA (a : Int) (l : List S29) : Prop := (∀ p ∈ l, isComma p.f0 p.f1 p.f2 p.f3 = true) ∧ (∀ p ∈ l, p.f1 < a) ∧ l.Pairwise lexlt
theorem good_one {a b : Int} {l : List S29} (ha : -8 ≤ a ∧ a ≤ 8) (hb : -8 ≤ b ∧ b ≤ 8) (h : Good a b l) : Good a (b + 1) (cwOne a b l) := by
  obtain ⟨h1, h2, h3⟩ := h
  unfold cwOne
  split
  · rename_i hc
    obtain ⟨e1, e2⟩ := cw_parts ha hb hc
    refine ⟨fun p hp => ?_, fun p hp => ?_, List.pairwise_append.2 ⟨h3, List.pairwise_singleton _ _, fun p hp q hq => ?_⟩⟩
    · rcases List.mem_append.1 hp with hp | hp
      · exact h1 p hp
      · rw [List.mem_singleton.1 hp]; exact hc
    · rcases List.mem_append.1 hp with hp | hp
      · have := h2 p hp; omega
      · rw [List.mem_singleton.1 hp]; dsimp only; omega
    · rw [List.mem_singleton.1 hq]
      have := h2 p hp
      unfold lexlt
      dsimp only
      omega
  · exact ⟨h1, fun p hp => by have := h2 p hp; omega, h3⟩
theorem good_cw1 {n a : Int} (hn : n ≤ 8) (ha : -8 ≤ a ∧ a ≤ 8) : ∀ (f : Nat) (b : Int) (l : List S29), -8 ≤ b → Good a b l → ∃ b', Good a b' (cw1 n a f b l) := by
  intro f
  induction f with
  | zero => intro b l _ h; exact ⟨b, h⟩
  | succ f ih =>
    intro b l hb h
    rw [cw1]
    split
    · exact ih (b + 1) _ (by omega) (good_one ha (by omega) h)
    · exact ⟨b, h⟩
theorem good_cw0 {n : Int} (hn : 0 ≤ n ∧ n ≤ 8) : ∀ (f : Nat) (a : Int) (l : List S29), -8 ≤ a → GoodA a l → ∃ a', GoodA a' (cw0 n f a l) := by
  intro f
  induction f with
  | zero => intro a l _ h; exact ⟨a, h⟩
  | succ f ih =>
    intro a l ha h
    rw [cw0]
    split
    · obtain ⟨h1, h2, h3⟩ := h
      obtain ⟨b', g1, g2, g3⟩ := good_cw1 (n := n) (a := a) hn.2 (by omega) 20 (-n) l (by omega) ⟨h1, fun p hp => .inl (h2 p hp), h3⟩
      exact ih (a + 1) _ (by omega) ⟨g1, fun p hp => by have := g2 p hp; omega, g3⟩
    · exact ⟨a, h⟩
theorem commas_good {n : Int} (hn : 0 ≤ n ∧ n ≤ 8) : (∀ p ∈ commasW n, isComma p.f0 p.f1 p.f2 p.f3 = true) ∧ (commasW n).Pairwise lexlt := by
  unfold commasW
  rw [if_pos hn]
  obtain ⟨a', h1, h2, h3⟩ := good_cw0 hn 20 (-n) [] (by omega) ⟨fun p hp => (by cases hp), fun p hp => (by cases hp), List.Pairwise.nil⟩
  exact ⟨h1, h3⟩
theorem cwOne_pos {a b : Int} {l : List S29} (h : 0 < l.length) : 0 < (cwOne a b l).length := by
  unfold cwOne; split
  · simp
  · exact h
theorem cw1_pos {n a : Int} : ∀ (f : Nat) (b : Int) (l : List S29), 0 < l.length → 0 < (cw1 n a f b l).length := by
  intro f
  induction f with
  | zero => intro b l h; exact h
  | succ f ih => intro b l h; rw [cw1]; split; exact ih _ _ (cwOne_pos h); exact h
theorem cw0_pos {n : Int} : ∀ (f : Nat) (a : Int) (l : List S29), 0 < l.length → 0 < (cw0 n f a l).length := by
  intro f
  induction f with
  | zero => intro b l h; exact h
  | succ f ih => intro b l h; rw [cw0]; split; exact ih _ _ (cw1_pos _ _ _ h); exact h
theorem cw1_has {n a y : Int} (hc : isComma (cw a y).1 (cw a y).2.1 (cw a y).2.2.1 (cw a y).2.2.2.1 = true) (hy : y ≤ n) : ∀ (f : Nat) (b : Int) (l : List S29), b ≤ y → y < b + f → 0 < (cw1 n a f b l).length := by
  intro f
  induction f with
  | zero => intro b l h1 h2; omega
  | succ f ih =>
    intro b l h1 h2
    rw [cw1, if_pos (by omega)]
    by_cases e : b = y
    · subst e
      apply cw1_pos
      unfold cwOne
      rw [if_pos hc]
      simp
    · exact ih (b + 1) _ (by omega) (by omega)
theorem cw0_has {n x y : Int} (hc : isComma (cw x y).1 (cw x y).2.1 (cw x y).2.2.1 (cw x y).2.2.2.1 = true) (hx : x ≤ n) (hy : -n ≤ y ∧ y ≤ n) (hn : n ≤ 8) : ∀ (f : Nat) (a : Int) (l : List S29), a ≤ x → x < a + f → 0 < (cw0 n f a l).length := by
  intro f
  induction f with
  | zero => intro b l h1 h2; omega
  | succ f ih =>
    intro a l h1 h2
    rw [cw0, if_pos (by omega)]
    by_cases e : a = x
    · subst e
      apply cw0_pos
      exact cw1_has hc hy.2 20 _ _ hy.1 (by omega)
    · exact ih (a + 1) _ (by omega) (by omega)
theorem oct_syn : oct 0 4 (-1) 1 = 4 := oct_eq (by omega) (by omega) (by omega) (by omega) (by decide +kernel) (by decide +kernel)
theorem cw_syn : cw 4 (-1) = (-4, 4, -1, 1, true) := by
  unfold cw
  rw [show pureOf 0 4 (-1) = (0, 4, -1, 1) by decide]
  unfold withinO
  simp only []
  rw [oct_syn]
  decide
theorem syn_comma : isComma (-4) 4 (-1) 1 = true := by decide +kernel
theorem commas4_pos : 0 < (commasW 4).length := by
  unfold commasW
  rw [if_pos (by decide)]
  exact cw0_has (n := 4) (x := 4) (y := -1) (by rw [cw_syn]; exact syn_comma) (by omega) (by omega) (by omega) 20 (-4) [] (by omega) (by omega)
theorem named_comma : ∀ i : Fin 6, isComma (commaOf ((i.val : Int) + 1)).1 (commaOf ((i.val : Int) + 1)).2.1 (commaOf ((i.val : Int) + 1)).2.2.1 (commaOf ((i.val : Int) + 1)).2.2.2 = true := by decide +kernel
theorem name_ok {i : Int} (h : 1 ≤ i ∧ i ≤ 6) : ∃ s, impl_CommaName.f i = some s ∧ ¬ s.toList = ([] : List UInt8) := by
  have hi : i = 1 ∨ i = 2 ∨ i = 3 ∨ i = 4 ∨ i = 5 ∨ i = 6 := by omega
  unfold impl_CommaName.f
  rw [within_eq, Option.bind_some, if_pos (by simpa using h)]
  rcases hi with rfl | rfl | rfl | rfl | rfl | rfl <;> (rw [Option.bind_some, wrap_id (by omega), if_pos (by decide), if_pos (by decide)]; refine ⟨_, rfl, ?_⟩; rw [ByteArray.toList_eq]; decide)
theorem commas_l1 (a b : Int) : ∀ (rest pre : List S29) (k : Nat), rest.length + 100000000 < k → (pre ++ rest).length ≤ 400 → (∀ p ∈ pre ++ rest, isComma p.f0 p.f1 p.f2 p.f3 = true) → (pre ++ rest).Pairwise lexlt → 0 < (pre ++ rest).length →
    laws_FnCommas.l1 k a b true true a b true (pre ++ rest) ((pre.length : Nat) : Int) (-15) 8 1 1 = some true := by
  intro rest
  induction rest with
  | nil =>
    intro pre k hk hl hc hs hp
    obtain ⟨k, rfl⟩ : ∃ m, k = m + 1 := ⟨k - 1, by omega⟩
    rw [laws_FnCommas.l1, if_neg (by simp), if_pos rfl, if_pos rfl, if_pos rfl, impl_commaOf, Option.bind_some]
    rw [show commaOf 4 = (-15, 8, 1, 1) by decide, if_pos (by decide), if_pos rfl, if_pos rfl]
    simp only [gt_iff_lt, Int.natCast_pos, hp, decide_true]
  | cons p rest ih =>
    intro pre k hk hl hc hs hp
    obtain ⟨k, rfl⟩ : ∃ m, k = m + 1 := ⟨k - 1, by omega⟩
    have hl' : pre.length + rest.length + 1 ≤ 400 := by simp at hl; omega
    have hk' : rest.length + 1 + 100000000 < k + 1 := by simpa using hk
    have hn := ih (pre ++ [p]) k (by omega) (by simpa using hl) (by simpa using hc) (by simpa using hs) (by simp; omega)
    rw [List.append_assoc, List.singleton_append, List.length_append, List.length_singleton] at hn
    have hpc := hc p (by simp)
    have hlen : ((pre ++ p :: rest).length : Int) = (pre.length : Int) + (rest.length : Int) + 1 := by simp; omega
    rw [laws_FnCommas.l1, if_pos (by rw [hlen]; omega), if_pos (by omega), rdS_mid, impl_isComma _ _ _ _ (by omega), Option.bind_some, if_pos hpc, succ_wrap (n := pre.length) (by omega)]
    rcases List.eq_nil_or_concat pre with rfl | ⟨pre', q, rfl⟩
    · rw [if_neg (by simp)]; exact hn
    · have hq : lexlt q p := by
        rw [List.concat_eq_append, List.append_assoc, List.pairwise_append] at hs
        have := hs.2.1
        rw [List.singleton_append, List.pairwise_cons] at this
        exact this.1 p (by simp)
      have ecl : (List.concat pre' q).length = pre'.length + 1 := List.length_concat
      rw [ecl] at hl'
      have ew : wrap64 (((List.concat pre' q).length : Int) - 1) = ((pre'.length : Nat) : Int) := by
        rw [ecl, wrap_id (by omega)]; omega
      have er : rd_T29 (List.concat pre' q ++ p :: rest) ((pre'.length : Nat) : Int) = q := by
        rw [List.concat_eq_append, List.append_assoc, List.singleton_append]; exact rdS_mid _ _ _
      rw [if_pos (by rw [ecl]; omega), ew, if_pos (by omega), if_pos (by rw [hlen, ecl]; omega), er]
      unfold lexlt at hq
      by_cases g : p.f1 = q.f1
      · rw [if_neg (by omega), if_pos g, if_neg (by omega)]; exact hn
      · rw [if_neg (by omega), if_neg g]; exact hn
theorem commas_l0 (a b : Int) : ∀ (d j k : Nat), j + d = 7 → 1 ≤ j → 100022000 + d < k → laws_FnCommas.l0 k a b true true a b true (j : Int) (-15) 8 1 1 = some true := by
  intro d
  induction d with
  | zero =>
    intro j k hj h1 hk
    obtain ⟨k, rfl⟩ : ∃ m, k = m + 1 := ⟨k - 1, by omega⟩
    have hg := commas_good (n := 4) (by omega)
    have hl := commasW_len 4
    have hp := commas4_pos
    rw [laws_FnCommas.l0, if_neg (by omega), impl_commasW _ (by omega), Option.bind_some]
    generalize commasW 4 = L at *
    have e0 : ((([] : List S29).length : Nat) : Int) = 0 := rfl
    have h1 := commas_l1 a b L [] k
    rw [List.nil_append, e0] at h1
    rw [h1 (by omega) hl hg.1 hg.2 hp]
  | succ d ih =>
    intro j k hj h1 hk
    obtain ⟨k, rfl⟩ : ∃ m, k = m + 1 := ⟨k - 1, by omega⟩
    have hf := named_comma ⟨j - 1, by omega⟩
    have ej : (((j - 1 : Nat) : Nat) : Int) + 1 = (j : Int) := by omega
    simp only [ej] at hf
    obtain ⟨s, e1, e2⟩ := name_ok (i := (j : Int)) (by omega)
    rw [laws_FnCommas.l0, if_pos (by omega), impl_commaOf, Option.bind_some, impl_isComma _ _ _ _ (by omega), Option.bind_some, if_pos hf, e1, Option.bind_some, if_neg e2, succ_wrap (by omega)]
    exact ih (j + 1) k (by omega) (by omega) (by omega)
def sumOk (a b : Int) : Bool :=
  decide ((addI (timesI (-19) 12 0 1 a).1 (timesI (-19) 12 0 1 a).2.1 (timesI (-19) 12 0 1 a).2.2.1 (timesI (-19) 12 0 1 a).2.2.2.1 (timesI (-4) 4 (-1) 1 b).1 (timesI (-4) 4 (-1) 1 b).2.1 (timesI (-4) 4 (-1) 1 b).2.2.1 (timesI (-4) 4 (-1) 1 b).2.2.2.1) = (-19 * a - 4 * b, 12 * a + 4 * b, -b, 1, true)) && decide (splitComma (-19 * a - 4 * b) (12 * a + 4 * b) (-b) 1 = (a, b, true))
theorem sum_fin : ∀ a b : Fin 7, sumOk ((a.val : Int) - 3) ((b.val : Int) - 3) = true := by decide +kernel
theorem schisma : addI (-19) 12 0 1 (timesI (-4) 4 (-1) 1 (-1)).1 (timesI (-4) 4 (-1) 1 (-1)).2.1 (timesI (-4) 4 (-1) 1 (-1)).2.2.1 (timesI (-4) 4 (-1) 1 (-1)).2.2.2.1 = (-15, 8, 1, 1, true) := by decide +kernel
theorem tmod7 {x : Int} (hx : 0 ≤ x ∧ x ≤ 255) : 0 ≤ Int.tmod x 7 ∧ Int.tmod x 7 ≤ 6 := by
  rw [Int.tmod_eq_emod_of_nonneg hx.1]
  have h1 := Int.emod_nonneg x (show (7 : Int) ≠ 0 by decide)
  have h2 := Int.emod_lt_of_pos x (show (0 : Int) < 7 by decide)
  omega
theorem FnCommas : laws_FnCommas.Pure := by
  intro l hm hl hw
  refine ⟨200000000, ?_⟩
  unfold laws_FnCommas.f
  rw [big_eq, Option.bind_some]
  by_cases hb : 1048576 < l.length
  · rw [if_pos (decide_eq_true hb)]
  rw [if_neg (by simpa using hb)]
  obtain ⟨x, e1, x0, x1⟩ := at_eq (l := l) (i := 0) (by omega) (by omega) hw
  obtain ⟨y, e2, y0, y1⟩ := at_eq (l := l) (i := 1) (by omega) (by omega) hw
  have tx := tmod7 ⟨x0, x1⟩
  have ty := tmod7 ⟨y0, y1⟩
  rw [e1, Option.bind_some, e2, Option.bind_some]
  generalize Int.tmod x 7 = u at *
  generalize Int.tmod y 7 = v at *
  have hs := sum_fin ⟨u.toNat, by omega⟩ ⟨v.toNat, by omega⟩
  have eu : ((u.toNat : Nat) : Int) = u := by omega
  have ev : ((v.toNat : Nat) : Int) = v := by omega
  simp only [eu, ev] at hs
  rw [wrap_id (x := u - 3) (by omega), wrap_id (x := v - 3) (by omega)]
  generalize u - 3 = a at *
  generalize v - 3 = b at *
  unfold sumOk at hs
  simp only [Bool.and_eq_true, decide_eq_true_eq] at hs
  simp only [impl_commaOf, Option.bind_some]
  rw [show commaOf 1 = (-19, 12, 0, 1) by decide, show commaOf 2 = (-4, 4, -1, 1) by decide]
  dsimp only
  rw [impl_timesI _ _ _ _ _ (by omega), Option.bind_some, impl_addI _ _ _ _ _ _ _ _ (by omega), schisma, Option.bind_some, impl_timesI _ _ _ _ _ (by omega), Option.bind_some, impl_timesI _ _ _ _ _ (by omega), Option.bind_some, impl_addI _ _ _ _ _ _ _ _ (by omega), hs.1, Option.bind_some]
  dsimp only
  rw [impl_splitComma _ _ _ _ (by omega), hs.2, Option.bind_some]
  have hq := commas_l0 a b 6 1 200000000 (by omega) (by omega) (by omega)
  rw [show ((1 : Nat) : Int) = 1 from rfl] at hq
  rw [hq]

end Go.Proofs.Ytoljbcjpilcfiaa.Pure
