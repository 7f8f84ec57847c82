/- The law FnExactCircleText over numbers and lists alone: the program's CircleText and the reference's give one answer, and the circle stays as it was. Conditions: none. -/
import Derived.Test.YtcaaaalljhdnkaaDoorQFnExactCircleTextx3
import Derived.Test.YtcaaaalljhdnkaaDoorVFnExactCircleTexta
import Derived.Laws.Strings
import Derived.Lib.Join
import Derived.Lib.ItoaNum
namespace Go.Proofs.YtcaaaalljhdnkaaDoor.Pure
open Go.RowKit Go.Proofs.YtcaaaalljhdnkaaDoor.PFnExactCircleText Go.Proofs.YtcaaaalljhdnkaaDoorW.PrintWords Go.Proofs.YtcaaaalljhdnkaaDoorW.PrintLast Go.Proofs.YtcaaaalljhdnkaaDoorW.PrintMore
set_option linter.unusedVariables false
set_option linter.unusedSimpArgs false

theorem wrap_id {x : Int} (h : -4611686018427387904 ≤ x ∧ x ≤ 4611686018427387904) : wrap64 x = x := by
  unfold wrap64; omega

theorem rd_mid (pre rest : List Int) (p : Int) : rd (pre ++ p :: rest) ((pre.length : Nat) : Int) = p := by
  unfold rd
  simp [List.getD]
theorem rd_getD (l : List Int) (i : Nat) : rd l (i : Int) = l.getD i 0 := by unfold rd; simp
theorem succ_wrap {n : Nat} (h : n ≤ 1099511627776) : wrap64 ((n : Int) + 1) = ((n + 1 : Nat) : Int) := by
  rw [wrap_id (by omega)]; omega
theorem split_at {α : Type} (l : List α) (i : Nat) (h : i ≤ l.length) : ∃ pre rest, l = pre ++ rest ∧ pre.length = i := ⟨l.take i, l.drop i, (List.take_append_drop i l).symm, by simp; omega⟩

theorem l01In_eq (a b c : Int) : spec_l01In.f a b c = some (decide (b ≤ a ∧ a ≤ c)) := by
  unfold spec_l01In.f
  by_cases h : b ≤ a <;> simp [h]
theorem within_eq (a b c : Int) : impl_within.f a b c = some (decide (b ≤ a ∧ a ≤ c)) := by
  unfold impl_within.f
  by_cases h : b ≤ a <;> simp [h]

def inR (p : Int) : Bool := decide (0 ≤ p ∧ p ≤ 12)
def circOk (l : List Int) : Bool := l.all inR && (decide (l.length = 12) && (l.sum == 12))
theorem impl_circOk_l0 : ∀ (rest pre : List Int) (s : Int) (k : Nat), rest.length < k → (pre ++ rest).length ≤ 1099511627776 → 0 ≤ s ∧ s ≤ 12 * (pre.length : Int) →
    impl_CircleOk.l0 k s (pre ++ rest) ((pre ++ rest).length : Int) (pre.length : Int) (pre ++ rest) = some (rest.all inR && (decide ((pre ++ rest).length = 12) && (s + rest.sum == 12))) := by
  intro rest
  induction rest with
  | nil =>
    intro pre s k hk hl hs
    obtain ⟨k, rfl⟩ : ∃ m, k = m + 1 := ⟨k - 1, by simp at hk; omega⟩
    simp only [impl_CircleOk.l0]
    rw [if_neg (by simp)]
    by_cases h : (pre ++ ([] : List Int)).length = 12
    · rw [if_pos (by omega)]; simp at h; simp [h]
    · rw [if_neg (by omega)]; simp at h; simp [h]
  | cons p rest ih =>
    intro pre s k hk hl hs
    obtain ⟨k, rfl⟩ : ∃ m, k = m + 1 := ⟨k - 1, by simp at hk; omega⟩
    simp only [impl_CircleOk.l0]
    rw [if_pos (by simp; omega), if_pos (by omega), if_pos (by simp; omega), rd_mid, within_eq]
    simp only [Option.bind_some]
    by_cases hp : 0 ≤ p ∧ p ≤ 12
    · have hl2 : pre.length ≤ 1099511627776 := by simp at hl; omega
      rw [if_pos (by simpa using hp), wrap_id (x := s + p) (by omega), succ_wrap hl2]
      have := ih (pre ++ [p]) (s + p) k (by simp at hk; omega) (by simp at hl ⊢; omega) (by simp; omega)
      have e : pre ++ [p] ++ rest = pre ++ p :: rest := by simp
      have e2 : ((pre ++ [p]).length : Int) = ((pre.length + 1 : Nat) : Int) := by simp
      rw [e, e2] at this
      rw [this]
      have hi : inR p = true := decide_eq_true hp
      simp [hi, Int.add_assoc]
    · rw [if_neg (by simpa using hp)]
      have hi : inR p = false := decide_eq_false hp
      simp [hi]
theorem impl_circOk {k : Nat} {l : List Int} (hk : l.length < k) (hl : l.length ≤ 1099511627776) : impl_CircleOk.f k l = some (circOk l) := by
  have := impl_circOk_l0 l [] 0 k hk (by simpa using hl) (by simp)
  unfold impl_CircleOk.f circOk
  simpa using this
theorem circOk_len {l : List Int} (h : circOk l = true) : l.length = 12 := by
  unfold circOk at h; simp at h; exact h.2.1
theorem circOk_sum {l : List Int} (h : circOk l = true) : l.sum = 12 := by
  unfold circOk at h; simp at h; exact h.2.2
theorem circOk_mem {l : List Int} (h : circOk l = true) : ∀ p ∈ l, 0 ≤ p ∧ p ≤ 12 := by
  unfold circOk at h; simp at h
  intro p hp
  have := h.1 p hp
  exact of_decide_eq_true this

def digs (x : Int) : List UInt8 := Lib.decDigits x.toNat
def dig (x : Int) : ByteArray := ⟨(digs x).toArray⟩
def tailT (l : List Int) : List UInt8 := l.flatMap fun x => 44 :: digs x
def textL : List Int → List UInt8
  | [] => []
  | x :: l => digs x ++ tailT l
theorem digs_len : ∀ x : Fin 13, (digs (x.val : Int)).length ≤ 2 := by decide +kernel
theorem digs_le {x : Int} (h : 0 ≤ x ∧ x ≤ 12) : (digs x).length ≤ 2 := by
  have := digs_len ⟨x.toNat, by omega⟩
  have e : ((x.toNat : Nat) : Int) = x := by omega
  simp only [e] at this
  exact this
theorem join_text : ∀ (l : List Int) (x : Int), Lib.join ((dig x :: l.map dig).map (·.data.toList)) [44] = digs x ++ tailT l := by
  intro l
  induction l with
  | nil => intro x; simp [Lib.join, tailT, dig]
  | cons y l ih =>
    intro x
    have e := ih y
    unfold Lib.join at e ⊢
    simp only [List.map_cons] at e ⊢
    rw [List.intercalate_cons_cons, e]
    simp [tailT, dig]
theorem tail_len : ∀ (l : List Int), (∀ x ∈ l, 0 ≤ x ∧ x ≤ 12) → (tailT l).length ≤ 3 * l.length := by
  intro l
  induction l with
  | nil => intro _; simp [tailT]
  | cons x l ih =>
    intro h
    have h1 := ih (fun y hy => h y (by simp [hy]))
    have h2 := digs_le (h x (by simp))
    unfold tailT at h1 ⊢
    rw [List.flatMap_cons, List.length_append, List.length_cons, List.length_cons]
    omega
theorem impl_format {x : Int} (h : 0 ≤ x ∧ x ≤ 12) : impl_FormatInt.f x = some (dig x) := by
  unfold impl_FormatInt.f strconv_Itoa.f
  rw [if_pos (by omega)]; rfl
theorem impl_ints_l0 : ∀ (rest pre : List Int) (k : Nat), rest.length < k → (pre ++ rest).length ≤ 1000 → 0 < (pre ++ rest).length → (∀ x ∈ pre ++ rest, 0 ≤ x ∧ x ≤ 12) →
    impl_intsText.l0 k (pre.map dig) (pre ++ rest) ((pre ++ rest).length : Int) ((pre.length : Nat) : Int) = some ⟨(textL (pre ++ rest)).toArray⟩ := by
  intro rest
  induction rest with
  | nil =>
    intro pre k hk hl hp hx
    obtain ⟨k, rfl⟩ : ∃ m, k = m + 1 := ⟨k - 1, by omega⟩
    rw [impl_intsText.l0, if_neg (by simp)]
    rw [List.append_nil] at hl hp hx ⊢
    cases pre with
    | nil => simp at hp
    | cons x pre =>
      have h1 := tail_len pre (fun y hy => hx y (by simp [hy]))
      have h2 := digs_le (hx x (by simp))
      have hl2 : pre.length + 1 ≤ 1000 := by simpa using hl
      unfold strings_Join.f
      rw [List.map_cons, show (⟨#[44]⟩ : ByteArray).data.toList = [44] from rfl, join_text, if_pos ⟨by rw [List.length_cons, List.length_map]; omega, by rw [List.length_append]; omega⟩]
      rfl
  | cons x rest ih =>
    intro pre k hk hl hp hx
    obtain ⟨k, rfl⟩ : ∃ m, k = m + 1 := ⟨k - 1, by omega⟩
    have hl2 : pre.length + rest.length + 1 ≤ 1000 := by simp at hl; omega
    have hk2 : rest.length < k := by simp at hk; omega
    have hlen : ((pre ++ x :: rest).length : Int) = (pre.length : Int) + (rest.length : Int) + 1 := by simp; omega
    have e := ih (pre ++ [x]) k hk2 (by simp; omega) (by simp; omega) (by simpa using hx)
    rw [List.append_assoc, List.singleton_append, List.map_append, List.map_cons, List.map_nil] at e
    have e2 : (((pre ++ [x]).length : Nat) : Int) = ((pre.length + 1 : Nat) : Int) := by simp
    rw [e2] at e
    rw [impl_intsText.l0, if_pos (by rw [hlen]; omega), if_pos (by omega), if_pos (by rw [hlen]; omega), rd_mid, impl_format (hx x (by simp)), Option.bind_some, if_pos (by rw [List.length_map]; omega), succ_wrap (by omega), e]
def ctext (l : List Int) : ByteArray := if circOk l = true then ⟨(textL l).toArray⟩ else ⟨#[]⟩
theorem impl_circleText {k : Nat} {l : List Int} (hk : l.length < k) (hk2 : 12 < k) (hl : l.length ≤ 1099511627776) : impl_CircleText.f k l = some (ctext l) := by
  unfold impl_CircleText.f ctext
  rw [impl_circOk hk hl, Option.bind_some]
  by_cases h : circOk l = true
  · rw [if_pos h, if_pos h]
    have h12 := circOk_len h
    unfold impl_intsText.f
    have e := impl_ints_l0 l [] k (by omega) (by simp; omega) (by simp; omega) (by simpa using circOk_mem h)
    rw [show ((([] : List Int).length : Nat) : Int) = 0 from rfl, List.nil_append, List.map_nil] at e
    rw [e]; rfl
  · rw [if_neg h, if_neg h]

theorem spec_circOk_l0 : ∀ (rest pre : List Int) (s : Int) (k : Nat), rest.length < k → (pre ++ rest).length ≤ 1099511627776 → 0 ≤ s ∧ s ≤ 12 * (pre.length : Int) →
    spec_CircleOk.l0 k s (pre.length : Int) (pre ++ rest) = some (rest.all inR && (decide ((pre ++ rest).length = 12) && (s + rest.sum == 12))) := by
  intro rest
  induction rest with
  | nil =>
    intro pre s k hk hl hs
    obtain ⟨k, rfl⟩ : ∃ m, k = m + 1 := ⟨k - 1, by simp at hk; omega⟩
    simp only [spec_CircleOk.l0]
    rw [if_neg (by simp)]
    by_cases h : (pre ++ ([] : List Int)).length = 12
    · rw [if_pos (by omega)]; simp at h; simp [h]
    · rw [if_neg (by omega)]; simp at h; simp [h]
  | cons p rest ih =>
    intro pre s k hk hl hs
    obtain ⟨k, rfl⟩ : ∃ m, k = m + 1 := ⟨k - 1, by simp at hk; omega⟩
    simp only [spec_CircleOk.l0]
    rw [if_pos (by simp; omega), if_pos (by omega), rd_mid, l01In_eq]
    simp only [Option.bind_some]
    by_cases hp : 0 ≤ p ∧ p ≤ 12
    · have hl2 : pre.length ≤ 1099511627776 := by simp at hl; omega
      rw [if_pos (by simpa using hp), wrap_id (x := s + p) (by omega), succ_wrap hl2]
      have := ih (pre ++ [p]) (s + p) k (by simp at hk; omega) (by simp at hl ⊢; omega) (by simp; omega)
      have e : pre ++ [p] ++ rest = pre ++ p :: rest := by simp
      have e2 : ((pre ++ [p]).length : Int) = ((pre.length + 1 : Nat) : Int) := by simp
      rw [e, e2] at this
      rw [this]
      have hi : inR p = true := decide_eq_true hp
      simp [hi, Int.add_assoc]
    · rw [if_neg (by simpa using hp)]
      have hi : inR p = false := decide_eq_false hp
      simp [hi]
theorem spec_circOk {k : Nat} {l : List Int} (hk : l.length < k) (hl : l.length ≤ 1099511627776) : spec_CircleOk.f k l = some (circOk l) := by
  have := spec_circOk_l0 l [] 0 k hk (by simpa using hl) (by simp)
  unfold spec_CircleOk.f circOk
  simpa using this

theorem spec_format5 : ∀ x : Fin 13, spec_FormatInt.f 5 (x.val : Int) = some (dig (x.val : Int)) := by decide +kernel
theorem spec_format {k : Nat} {x : Int} (hk : 5 ≤ k) (h : 0 ≤ x ∧ x ≤ 12) : spec_FormatInt.f k x = some (dig x) := by
  have e := spec_format5 ⟨x.toNat, by omega⟩
  have ex : ((x.toNat : Nat) : Int) = x := by omega
  simp only [ex] at e
  have H : ∀ n, spec_FormatInt.f (5 + n) x = some (dig x) := by
    intro n
    induction n with
    | zero => exact e
    | succ n ih => exact spec_FormatInt.mono x (5 + n) _ ih
  have := H (k - 5)
  rwa [show 5 + (k - 5) = k by omega] at this
theorem spec_text_l0 {l : List Int} (h : circOk l = true) : ∀ (rest pre : List Int) (s : ByteArray) (k : Nat), pre ++ rest = l → 2 * rest.length + 30 < k → s.size ≤ 3 * pre.length → s.data.toList = textL pre →
    ∃ r, spec_CircleText.l0 k s ((pre.length : Nat) : Int) l = some r ∧ r.data.toList = textL l := by
  have h12 := circOk_len h
  intro rest
  induction rest with
  | nil =>
    intro pre s k hl hk hs ht
    obtain ⟨k, rfl⟩ : ∃ m, k = m + 2 := ⟨k - 2, by omega⟩
    rw [List.append_nil] at hl
    subst hl
    refine ⟨s, ?_, ht⟩
    rw [spec_CircleText.l0, if_neg (by omega), spec_CircleText.j1, if_neg (by decide)]
  | cons x rest ih =>
    intro pre s k hl hk hs ht
    obtain ⟨k, rfl⟩ : ∃ m, k = m + 2 := ⟨k - 2, by omega⟩
    have hlen : pre.length + rest.length + 1 = 12 := by rw [← h12, ← hl]; simp; omega
    have hx := circOk_mem h x (by rw [← hl]; simp)
    have hr : rd l ((pre.length : Nat) : Int) = x := by rw [← hl]; exact rd_mid _ _ _
    have hd := digs_le hx
    have sd : (dig x).size = (digs x).length := by unfold dig; simp [ByteArray.size]
    rw [spec_CircleText.l0, if_pos (by omega), spec_circOk (by omega) (by omega), Option.bind_some, h, spec_CircleText.j1, if_pos rfl]
    cases pre with
    | nil =>
      have s0 : s.size = 0 := by simpa using hs
      have e := ih [x] (s ++ dig x) k (by simpa using hl) (by simp at hk; omega) (by rw [ByteArray.size_append]; simp; omega) (by
        rw [ByteArray.data_append, Array.toList_append, ht]; simp [textL, tailT, dig])
      obtain ⟨r, e1, e2⟩ := e
      refine ⟨r, ?_, e2⟩
      rw [if_neg (by simp), if_pos (by simp), if_pos (by simp; omega), hr, spec_format (by omega) hx, Option.bind_some, if_pos (by omega), succ_wrap (by simp)]
      simpa using e1
    | cons p pre =>
      have e := ih (p :: (pre ++ [x])) ((s ++ (⟨#[44]⟩ : ByteArray)) ++ dig x) k (by simpa using hl) (by simp at hk; omega) (by rw [ByteArray.size_append, ByteArray.size_append, show (⟨#[44]⟩ : ByteArray).size = 1 from rfl]; simp at hs ⊢; omega) (by
        rw [ByteArray.data_append, ByteArray.data_append, Array.toList_append, Array.toList_append, ht]; simp [textL, tailT, dig])
      obtain ⟨r, e1, e2⟩ := e
      refine ⟨r, ?_, e2⟩
      have hs2 : s.size ≤ 36 := by simp at hs hlen; omega
      have e4 : (((p :: (pre ++ [x])).length : Nat) : Int) = (((p :: pre).length + 1 : Nat) : Int) := by simp
      rw [e4] at e1
      rw [if_pos (by simp <;> omega), if_pos (by omega), if_pos (by omega), if_pos (by simp at hlen ⊢; omega), hr, spec_format (by omega) hx, Option.bind_some, if_pos (by rw [ByteArray.size_append, show (⟨#[44]⟩ : ByteArray).size = 1 from rfl]; omega), succ_wrap (by simp at hlen ⊢; omega), e1]
theorem spec_circleText {k : Nat} {l : List Int} (hk : l.length + 2 < k) (hk2 : 100 < k) (hl : l.length ≤ 1099511627776) : ∃ r, spec_CircleText.f k l = some r ∧ r.data.toList = (ctext l).data.toList := by
  unfold spec_CircleText.f ctext
  by_cases h : circOk l = true
  · have h12 := circOk_len h
    obtain ⟨r, e1, e2⟩ := spec_text_l0 h l [] ⟨#[]⟩ k rfl (by omega) (by simp [ByteArray.size]) (by simp [textL])
    exact ⟨r, e1, by rw [e2, if_pos h]⟩
  · obtain ⟨k, rfl⟩ : ∃ m, k = m + 2 := ⟨k - 2, by omega⟩
    refine ⟨⟨#[]⟩, ?_, by rw [if_neg h]⟩
    rw [spec_CircleText.l0]
    by_cases g : (0 : Int) < (l.length : Int)
    · rw [if_pos g, spec_circOk (by omega) hl, Option.bind_some, Bool.eq_false_iff.2 h, spec_CircleText.j1, if_neg (by decide)]
    · rw [if_neg g, spec_CircleText.j1, if_neg (by decide)]

theorem toIntS_l0 : ∀ (rest pre : List Int) (k : Nat), rest.length < k → (pre ++ rest).length ≤ 1099511627776 → laws_toIntS.l0 k (pre ++ rest) (pre ++ List.replicate rest.length 0) (pre.length : Int) = some (pre ++ rest) := by
  intro rest
  induction rest with
  | nil =>
    intro pre k hk _
    obtain ⟨k, rfl⟩ : ∃ m, k = m + 1 := ⟨k - 1, by simp at hk; omega⟩
    simp only [laws_toIntS.l0]
    rw [if_neg (by simp)]
    simp
  | cons p rest ih =>
    intro pre k hk hl
    obtain ⟨k, rfl⟩ : ∃ m, k = m + 1 := ⟨k - 1, by simp at hk; omega⟩
    simp only [laws_toIntS.l0]
    rw [if_pos (by simp; omega), if_pos (by omega), if_pos (by simp; omega), rd_mid, succ_wrap (by simp at hl; omega)]
    have e : (pre ++ List.replicate (p :: rest).length 0).set ((pre.length : Int)).toNat p = (pre ++ [p]) ++ List.replicate rest.length 0 := by
      simp [List.replicate_succ]
    rw [e]
    have := ih (pre ++ [p]) k (by simp at hk; omega) (by simp at hl ⊢; omega)
    simpa using this
theorem toIntS_eq {k : Nat} {l : List Int} (hk : l.length < k) (hl : l.length ≤ 1099511627776) : laws_toIntS.f k l = some l := by
  unfold laws_toIntS.f
  rw [if_pos (by omega), if_pos (by omega)]
  have := toIntS_l0 l [] k hk (by simp; omega)
  simpa using this

theorem toCircle_eq {k : Nat} {l : List Int} (hk : l.length < k) (hl : l.length ≤ 1099511627776) : laws_toCircle.f k l = some l := by
  unfold laws_toCircle.f
  rw [toIntS_eq hk hl]; rfl

theorem eqIntS_l0 : ∀ (rest pre : List Int) (k : Nat), rest.length < k → (pre ++ rest).length ≤ 1099511627776 → laws_eqIntS.l0 k (pre ++ rest) (pre ++ rest) (pre.length : Int) = some true := by
  intro rest
  induction rest with
  | nil =>
    intro pre k hk _
    obtain ⟨k, rfl⟩ : ∃ m, k = m + 1 := ⟨k - 1, by simp at hk; omega⟩
    simp only [laws_eqIntS.l0]
    rw [if_neg (by simp)]
  | cons p rest ih =>
    intro pre k hk hl
    obtain ⟨k, rfl⟩ : ∃ m, k = m + 1 := ⟨k - 1, by simp at hk; omega⟩
    simp only [laws_eqIntS.l0]
    rw [if_pos (by simp; omega), if_pos (by omega), if_pos (by simp; omega), if_pos trivial, succ_wrap (by simp at hl; omega)]
    have := ih (pre ++ [p]) k (by simp at hk; omega) (by simp at hl ⊢; omega)
    simpa using this
theorem eqIntS_refl {k : Nat} {l : List Int} (hk : l.length < k) (hl : l.length ≤ 1099511627776) : laws_eqIntS.f k l l = some true := by
  unfold laws_eqIntS.f
  rw [if_pos rfl]
  have := eqIntS_l0 l [] k hk (by simpa using hl)
  simpa using this

theorem eqCircle_refl {k : Nat} {l : List Int} (hk : l.length < k) (hl : l.length ≤ 1099511627776) : laws_eqCircle.f k l l = some true := by
  unfold laws_eqCircle.f
  rw [eqIntS_refl hk hl]; rfl

theorem szCircle_big {l : List Int} (h : l.length ≤ maxLen) (hb : 1048576 < l.length) : laws_szCircle.f l 1048576 = some (-1) := by
  unfold maxLen at h
  unfold laws_szCircle.f laws_szIntS.f
  have e : wrap64 (1048576 - (l.length : Int)) = 1048576 - (l.length : Int) := by unfold wrap64; omega
  rw [e, if_pos (by omega)]
  rfl
theorem szCircle_small {l : List Int} {n : Int} (hn : n ≤ 1048576) (hb : (l.length : Int) ≤ n) : laws_szCircle.f l n = some (n - (l.length : Int)) := by
  unfold laws_szCircle.f laws_szIntS.f
  have e : wrap64 (n - (l.length : Int)) = n - (l.length : Int) := by unfold wrap64; omega
  rw [e, if_neg (by omega)]
  simp only [Option.bind_some]
  rw [if_neg (by omega)]

theorem FnExactCircleText (l : List Int) (hm : l.length ≤ maxLen) (hw : ∀ x ∈ l, (Lit.int .i64 x).wf = true) : ∃ k, laws_FnExactCircleText.f k l = some true := by
  by_cases hb : 1048576 < l.length
  · refine ⟨1, ?_⟩
    unfold laws_FnExactCircleText.f
    rw [szCircle_big hm hb]; rfl
  · refine ⟨1048600, ?_⟩
    have h1 : l.length < 1048600 := by omega
    unfold laws_FnExactCircleText.f
    obtain ⟨r, e1, e2⟩ := spec_circleText (show l.length + 2 < 1048600 by omega) (by omega) (show l.length ≤ 1099511627776 by omega)
    rw [szCircle_small (by omega) (by omega), Option.bind_some, if_neg (by omega), toCircle_eq h1 (by omega), Option.bind_some, e1, Option.bind_some, Option.bind_some, impl_circleText h1 (by omega) (by omega), Option.bind_some, if_pos (by rw [ByteArray.toList_eq, ByteArray.toList_eq, e2]), Option.bind_some, eqCircle_refl h1 (by omega), Option.bind_some, if_pos rfl]

end Go.Proofs.YtcaaaalljhdnkaaDoor.Pure
