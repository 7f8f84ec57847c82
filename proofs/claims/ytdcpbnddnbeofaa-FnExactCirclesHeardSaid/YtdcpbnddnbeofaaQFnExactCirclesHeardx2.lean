/- Functions that the law FnExactCirclesHeard reaches, each as a Lean function with the proof that the Go code comes to its answers. Conditions: none. Printed by the kit's print, repaired by a program of this session. -/
import Derived.Test.YtdcpbnddnbeofaaQFnExactCirclesHeardx0
import Derived.Test.YtdcpbnddnbeofaaQFnExactCirclesHeardx1
namespace Go.Proofs.Ytdcpbnddnbeofaa.PFnExactCirclesHeard
open Go.RowKit Go.Proofs.YtdcpbnddnbeofaaW.PrintWords Go.Proofs.YtdcpbnddnbeofaaW.PrintLast Go.Proofs.YtdcpbnddnbeofaaW.PrintMore
attribute [local go_sem] max2_int min2_int max_two min_two max_three min_three max_four min_four   -- for this text's walks alone
set_option linter.unusedVariables false
set_option linter.unusedSimpArgs false

/-! ### laws_markCircleS: function 19 (by hand) -/
def marks_l (k : Nat) : List S29 → List S29 → Int → Option (Int × List S29)
  | done, [], a => some (a, done)
  | done, c :: cs, a => (laws_markIntS.f k c.f0 a).bind fun p => marks_l k (done ++ [⟨p.2⟩]) cs p.1
def laws_markCircleS.f (k : Nat) (l0 : List S29) (a1 : Int) : Option (Int × List S29) := if 1000000 < l0.length then none else marks_l k [] l0 a1
theorem marks_l.mono (k : Nat) : ∀ (cs done : List S29) (a : Int), LeO (marks_l k done cs a) (marks_l (k + 1) done cs a)
  | [], _, _ => LeO.refl _
  | c :: cs, done, a => LeO.bind (laws_markIntS.mono _ _ _) (fun p => marks_l.mono k cs _ _)
theorem laws_markCircleS.mono : ∀ a0 a1 k, LeO (laws_markCircleS.f k a0 a1) (laws_markCircleS.f (k + 1) a0 a1) := by
  intro a0 a1 k
  unfold laws_markCircleS.f
  exact LeO.ite (LeO.none _) (marks_l.mono k _ _ _)
/-- What the loop keeps. -/
structure MarkAt (w0 w wr : World) (P : Nat → Prop) (u : Value) (X : List S29) : Prop where
  hS : Kd.S k29 29 wr w0.heap.size (fun k => P k ∨ w.heap.size ≤ k) u X
  hB : Below w0.heap.size w0 wr
  hK : Kept w wr P
/-- Element i is lent: its row, and what is left when that row has been written. -/
theorem MarkAt.lend {w0 w wr : World} {P : Nat → Prop} {u : Value} {done cs : List S29} {c : S29} (h : MarkAt w0 w wr P u (done ++ c :: cs)) :
    ∃ (g cap : Nat) (A : Option Addr) (cc : Nat) (oki : Nat → Prop), u = .slice (some ⟨g, 0, none⟩) (done ++ c :: cs).length cap ∧ wr.cell? ⟨g, done.length, none⟩ = some (.slice A c.f0.length cc) ∧ Kd.R (Kd.int .i64) 3 wr w0.heap.size oki (.slice A c.f0.length cc) c.f0 ∧
      ∀ (w' : World) (x : List Int), Kd.R (Kd.int .i64) 3 w' w0.heap.size (fun k => oki k ∨ wr.heap.size ≤ k) (.slice A c.f0.length cc) x → Below w0.heap.size w0 w' → Kept wr w' (fun k => oki k) → MarkAt w0 w w' P u (done ++ (⟨x⟩ : S29) :: cs) := by
  obtain ⟨g, cap, rfl, hb, hlt, cells, hg⟩ := Kd.S_form h.hS (by rw [List.length_append, List.length_cons]; omega)
  obtain ⟨oki, c1, hcl, hM, hcc, hok, hH⟩ := Kd.S_lend h.hS z29 (done.length : Int) (by omega) (by rw [List.length_append, List.length_cons]; omega)
  rw [Int.toNat_natCast, List.getD_eq_getElem?_getD, List.getElem?_append_right (Nat.le_refl _), Nat.sub_self] at hM
  change k29.M wr w0.heap.size oki c c1 at hM
  obtain ⟨v0, rfl, hR⟩ := k29_openM hM
  obtain ⟨A, cc, rfl⟩ := Kd.R_slice hR
  have hx := hcc 0 _ rfl
  rw [Int.toNat_natCast, show (k29).sz = 1 from rfl, Nat.mul_one, Nat.add_zero] at hx
  refine ⟨g, cap, A, cc, oki, rfl, hx, hR, fun w' x hR' hB' hK' => ?_⟩
  have hs := h.hK.1
  have hq := Kd.H_step (Kd.H_widen hH) (w1 := w') (fun k _ hn hlt => hK'.2 k hlt (fun ho => hn (.inl ho)))
  have hr := Kd.H_back hq (x' := (⟨x⟩ : S29)) (k29_mkM w' w0.heap.size (fun k => oki k ∨ wr.heap.size ≤ k) ⟨x⟩ hR') (fun k hk => hk.elim .inl (fun h2 => .inr ⟨.inr (Nat.le_trans hs h2), h2⟩))
  rw [Int.toNat_natCast, List.set_append_right _ _ (Nat.le_refl _), Nat.sub_self] at hr
  exact ⟨hr, hB', h.hK.then_ hK' (fun k hk => (hok k hk).1)⟩
set_option maxHeartbeats 8000000 in
set_option maxRecDepth 100000 in
theorem laws_markCircleS.calls (k : Nat) (P0_ : Nat → Prop) (u9000_ : Value) (l0 : List S29) (a1 : Int) (r1 : Int) (r2 : List S29) (w0 w : World) (hB : Below w0.heap.size w0 w) (ho0 : Kd.S k29 29 w w0.heap.size P0_ u9000_ l0) (h : laws_markCircleS.f k l0 a1 = some (r1, r2)) :
    Calls Try.prog 19 #[u9000_, .int .i64 a1] w fun e w' => e = .returned (.int .i64 r1) ∧ Kd.S k29 29 w' w0.heap.size (fun k_ => (P0_ k_ ∨ w.heap.size ≤ k_)) u9000_ r2 ∧ Below w0.heap.size w0 w' ∧ Kept w w' (fun k_ => P0_ k_) := by
  have hu29 := Try.underlying29
  have hu26 := Try.underlying26
  unfold laws_markCircleS.f at h
  by_cases hbig : 1000000 < l0.length
  · rw [if_pos hbig] at h; cases h
  rw [if_neg hbig] at h
  have hn : l0.length ≤ 1000000 := by omega
  have HH := Aside0.mk h
  have HA := Aside0.mk (MarkAt.mk (w0 := w0) (w := w) (wr := w) (P := P0_) (u := u9000_) (X := l0) (Kd.S_mono ho0 (fun k hk => .inl hk)) hB (Kept.refl w P0_))
  obtain ⟨A9, c9, e9⟩ := Kd.S_slice ho0
  subst e9
  clear h ho0 hB hbig
  go_enter Try.func19, Try.ntmps19
  go_wp2
  go_loopw [1, 5] (fun va vi wr => ∃ (done cs : List S29) (a : Int), Aside0 (va = .int .i64 a) ∧ Aside0 (vi = .int .i64 (done.length : Int)) ∧ Aside0 ((done ++ cs).length = l0.length) ∧ Aside0 (marks_l k done cs a = some (r1, r2)) ∧ Aside0 (MarkAt w0 w wr P0_ (.slice A9 l0.length c9) (done ++ cs)))
    (fun _ vi _ => l0.length - (intOf vi).toNat)
  case atStart => exact ⟨[], l0, a1, ⟨rfl⟩, ⟨rfl⟩, ⟨rfl⟩, HH, HA⟩
  case round =>
    clear HA HH
    obtain ⟨done, cs, a, ⟨rfl⟩, ⟨rfl⟩, HL, HH, HA⟩ := hrel
    cases cs with
    | nil =>
      have e : done.length = l0.length := by have := HL.out; rw [List.append_nil] at this; exact this
      have q := HH.out
      rw [marks_l] at q
      obtain ⟨q1, q2⟩ := Prod.mk.inj (Option.some.inj q)
      have Q := Aside0.mk (And.intro q1 q2)
      clear q q1 q2
      have c1 : decide ((done.length : Int) < (l0.length : Int)) = false := decide_eq_false (by omega)
      go_wp2
      go_ret
      have hA := HA.out
      rw [List.append_nil, Q.out.2] at hA
      exact ⟨by have h1 := Q.out.1; subst h1; rfl, hA.hS, hA.hB, hA.hK⟩
    | cons c cs =>
      have e : done.length < l0.length := by have := HL.out; rw [List.length_append, List.length_cons] at this; omega
      have q := HH.out
      rw [marks_l] at q
      obtain ⟨p, hp, q⟩ := Option.bind_eq_some_iff.mp q
      obtain ⟨p1, p2⟩ := p
      have HP := Aside0.mk hp
      have HQ := Aside0.mk q
      clear q hp HH
      obtain ⟨g, cap, A, cc, oki, hu, hx, hR, hback⟩ := HA.out.lend
      injection hu with hu1 hu2 hu3
      subst hu1
      subst hu3
      have HR := Aside0.mk hR
      have HBK := Aside0.mk hback
      have HB0 := Aside0.mk HA.out.hB
      clear hR hback hu2
      go_wp2_with (first | ((with_reducible refine gate_callee (f := 44) rfl ?_); refine goesL_ (some 18) rfl rfl Try.func44 (by kernel_rfl) rfl #[.slice A c.f0.length cc, .int .i64 a] rfl (by (try simp only [List.map_toArray, List.map_cons, List.map_nil]); first | done | rfl) ?_; (refine (laws_markIntS.calls k oki (.slice A c.f0.length cc) c.f0 a p1 p2 w0 _ HB0.out HR.out HP.out).mono ?_); rintro e w6 ⟨rfl, hr6, hb6, hk6⟩; refine ⟨_, rfl, ?_⟩; have HA6 := Aside0.mk (HBK.out _ _ hr6 hb6 hk6); clear hr6 hb6 hk6))
      go_roundw
      case rel => exact ⟨done ++ [⟨p2⟩], cs, p1, ⟨rfl⟩, ⟨by rw [List.length_append]; go_num⟩, ⟨by have := HL.out; simp at this ⊢; omega⟩, HQ, ⟨by have := HA6.out; rw [List.append_assoc]; exact this⟩⟩
      case measure => simp [intOf]; omega

/-! ### laws_heldCircleS: function 20 -/
def laws_heldCircleS.l0 : Nat → List (S29) → Int → Int → Option (Int)
  | 0, _, _, _ => none
  | k + 1, x0, x1, x5 => if x5 < (x0.length : Int) then (if 0 ≤ x5 then ((laws_heldIntS.f k ((rd_T29 x0 x5).f0) x1).bind fun t114 => (if t114 < 0 then (some (-1)) else (laws_heldCircleS.l0 k x0 t114 (wrap64 (x5 + 1))))) else (none)) else (some x1)
def laws_heldCircleS.f (k : Nat) (l0 : List (S29)) (a1 : Int) : Option (Int) := laws_heldCircleS.l0 k l0 a1 0
theorem laws_heldCircleS.mono_l : ∀ k, (∀ y0 y1 y2, LeO (laws_heldCircleS.l0 k y0 y1 y2) (laws_heldCircleS.l0 (k + 1) y0 y1 y2))
  | 0 => fun _ _ _ r h => by simp [laws_heldCircleS.l0] at h
  | k + 1 => by
    have ih0 := laws_heldCircleS.mono_l k
    · intro y0 y1 y2
      unfold laws_heldCircleS.l0
      repeat' first
      | (with_reducible exact ih0 _ _ _)
      | (with_reducible exact laws_heldIntS.mono _ _ _)
      | (with_reducible exact LeO.refl _)
      | (with_reducible exact LeO.none _)
      | (with_reducible refine LeO.ite ?_ ?_)
      | (with_reducible refine LeO.bind ?_ (fun _ => ?_))
      | exact ih0 _ _ _
      | exact laws_heldIntS.mono _ _ _
      | exact LeO.none _
      | refine LeO.ite ?_ ?_
      | refine LeO.bind ?_ (fun _ => ?_)
theorem laws_heldCircleS.mono : ∀ a0 a1 k, LeO (laws_heldCircleS.f k a0 a1) (laws_heldCircleS.f (k + 1) a0 a1) := by
  intro a0 a1 k
  have ih0 := laws_heldCircleS.mono_l k
  unfold laws_heldCircleS.f
  repeat' first
      | (with_reducible exact ih0 _ _ _)
      | (with_reducible exact laws_heldIntS.mono _ _ _)
      | (with_reducible exact LeO.refl _)
      | (with_reducible exact LeO.none _)
      | (with_reducible refine LeO.ite ?_ ?_)
      | (with_reducible refine LeO.bind ?_ (fun _ => ?_))
      | exact ih0 _ _ _
      | exact laws_heldIntS.mono _ _ _
      | exact LeO.none _
      | refine LeO.ite ?_ ?_
      | refine LeO.bind ?_ (fun _ => ?_)
set_option maxHeartbeats 8000000 in
set_option maxRecDepth 100000 in
theorem laws_heldCircleS.calls (k : Nat) (A0 : Option Addr) (c0 : Nat) (l0 : List (S29)) (a1 : Int) (r : Int) (w : World) (hr0 : Kd.C k29 w A0 l0.length l0) (hc0 : l0.length ≤ c0) (h : laws_heldCircleS.f k l0 a1 = some r) :
    Calls Try.prog 20 #[.slice A0 l0.length c0, .int .i64 a1] w fun e w' => e = .returned (.int .i64 r) ∧ Drawn0 w w' := by
  have HR0 := Aside0.mk hr0
  have HC0 := Aside0.mk hc0
  clear hr0 hc0
  have H : (laws_heldCircleS.l0 k l0 a1 0) = some r := h
  clear h
  have H' := Aside0.mk H
  clear H
  go_enter Try.func20, Try.ntmps20
  go_wp2
  go_loopg [1, 5] k (fun kq v1 v5 w' => ∃ (x1_1 : Int) (x5_1 : Int), v1 = .int .i64 x1_1 ∧ v5 = .int .i64 x5_1 ∧ Aside0 (laws_heldCircleS.l0 kq l0 x1_1 x5_1 = some r) ∧ Aside0 (kq ≤ k) ∧ Drawn0 w w')
  case atStart => exact ⟨(a1), (0), (by first | rfl | (simp; done) | (simp [*]; done)), (by first | rfl | (simp; done) | (simp [*]; done)), H', ⟨Nat.le_refl _⟩, by repeat (first | exact Drawn0.refl _ | apply Drawn0.step)⟩
  case round =>
    clear H'
    try clear c2
    try clear p2
    obtain ⟨x1_1, x5_1, rfl, rfl, HA, HK1, ⟨m1, rfl⟩⟩ := hrel
    cases gk with
    | zero => exact absurd HA.out (by simp [laws_heldCircleS.l0])
    | succ k1 =>
      have H := HA.out
      clear HA
      simp only [laws_heldCircleS.l0] at H
      by_cases c3 : x5_1 < (l0.length : Int)
      · rw [if_pos c3] at H
        have c3b0 : decide (x5_1 < (l0.length : Int)) = true := decide_eq_true c3
        clear c3
        by_cases c4 : 0 ≤ x5_1
        · rw [if_pos c4] at H
          have c4b0 : decide (0 ≤ x5_1) = true := decide_eq_true c4
          clear c4
          replace H := Option.bind_eq_some_iff.mp H
          obtain ⟨t114, A50, H⟩ := H
          replace H : (if t114 < 0 then (some (-1)) else (laws_heldCircleS.l0 k1 l0 t114 (wrap64 (x5_1 + 1)))) = some r := H
          have A5 := Aside0.mk A50
          clear A50
          by_cases c6 : t114 < 0
          · rw [if_pos c6] at H
            have c6b0 : decide (t114 < 0) = true := decide_eq_true c6
            clear c6
            obtain rfl := Option.some.inj H
            have p113 : 0 ≤ (x5_1 : Int) := of_decide_eq_true (by first | (with_reducible assumption) | assumption)
            have q113 : x5_1 < (l0.length : Int) := of_decide_eq_true (by first | (with_reducible assumption) | assumption)
            obtain ⟨ad113, A113_0, c113_0, e113, hx113_0, hl113_0, hi113_0⟩ := at_T29 HR0.out x5_1 p113 q113
            cases e113
            have HR113_0 := Aside0.mk hi113_0
            have HC113_0 := Aside0.mk hl113_0
            clear hi113_0 hl113_0
            replace p113 := eq_true p113
            replace q113 := eq_true q113
            go_wp2_with (first | ((with_reducible refine gate_callee (f := 54) rfl ?_); refine goesL_ (some 18) rfl rfl Try.func54 (by kernel_rfl) rfl #[.slice A113_0 ((rd_T29 l0 x5_1).f0).length c113_0, .int .i64 x1_1] rfl (by (try simp only [List.map_toArray, List.map_cons, List.map_nil]); first | done | rfl | (simp only [List.length_drop, List.length_take]; rfl)) ?_; (with_reducible refine (laws_heldIntS.calls k1 _ _ ((rd_T29 l0 x5_1).f0) x1_1 t114 _ ?side1 ?side2 A5.out).mono ?_); (case side1 => repeat (first | exact HR113_0.out | (with_reducible refine Kd.C_alloc ?_ _) | (with_reducible refine Kd.C_drewN ?_ _) | (with_reducible refine Kd.C_drew ?_))); (case side2 => exact HC113_0.out); rintro e w' ⟨rfl, ⟨nd, rfl⟩⟩; refine ⟨_, rfl, ?_⟩))
            go_ret
            exact ⟨by first | rfl | (simp; done) | (simp [*]; done), by repeat (first | exact Drawn0.refl _ | apply Drawn0.step)⟩
          · rw [if_neg c6] at H
            have c6b0 : decide (t114 < 0) = false := decide_eq_false c6
            clear c6
            have H' := Aside0.mk H
            clear H
            have p113 : 0 ≤ (x5_1 : Int) := of_decide_eq_true (by first | (with_reducible assumption) | assumption)
            have q113 : x5_1 < (l0.length : Int) := of_decide_eq_true (by first | (with_reducible assumption) | assumption)
            obtain ⟨ad113, A113_0, c113_0, e113, hx113_0, hl113_0, hi113_0⟩ := at_T29 HR0.out x5_1 p113 q113
            cases e113
            have HR113_0 := Aside0.mk hi113_0
            have HC113_0 := Aside0.mk hl113_0
            clear hi113_0 hl113_0
            replace p113 := eq_true p113
            replace q113 := eq_true q113
            go_wp2_with (first | ((with_reducible refine gate_callee (f := 54) rfl ?_); refine goesL_ (some 18) rfl rfl Try.func54 (by kernel_rfl) rfl #[.slice A113_0 ((rd_T29 l0 x5_1).f0).length c113_0, .int .i64 x1_1] rfl (by (try simp only [List.map_toArray, List.map_cons, List.map_nil]); first | done | rfl | (simp only [List.length_drop, List.length_take]; rfl)) ?_; (with_reducible refine (laws_heldIntS.calls k1 _ _ ((rd_T29 l0 x5_1).f0) x1_1 t114 _ ?side1 ?side2 A5.out).mono ?_); (case side1 => repeat (first | exact HR113_0.out | (with_reducible refine Kd.C_alloc ?_ _) | (with_reducible refine Kd.C_drewN ?_ _) | (with_reducible refine Kd.C_drew ?_))); (case side2 => exact HC113_0.out); rintro e w' ⟨rfl, ⟨nd, rfl⟩⟩; refine ⟨_, rfl, ?_⟩))
            go_roundg k1
            case measure => have := HK1.out; omega
            case rel => exact ⟨(t114), (wrap64 (x5_1 + 1)), (by first | rfl | (simp; done) | (simp [*]; done)), (by first | rfl | (simp; done) | (simp [*]; done)), H', ⟨by have := HK1.out; omega⟩, by repeat (first | exact Drawn0.refl _ | apply Drawn0.step)⟩
        · rw [if_neg c4] at H
          exact absurd H (by simp)
      · rw [if_neg c3] at H
        have c3b0 : decide (x5_1 < (l0.length : Int)) = false := decide_eq_false c3
        clear c3
        obtain rfl := Option.some.inj H
        go_wp2
        go_ret
        exact ⟨by first | rfl | (simp; done) | (simp [*]; done), by repeat (first | exact Drawn0.refl _ | apply Drawn0.step)⟩

/-! ### impl_spread: function 50 (by hand) -/
def impl_spread.f : Nat → List Int → Int → Int → List (S29) → Option (List (S29))
  | 0, _, _, _, _ => none
  | k + 1, l1, a2, a3, xs => if (l1.length : Int) = 12 then (if a2 = 0 then (if xs.length < 1000000 then some (xs ++ [(⟨l1⟩ : S29)]) else none) else some xs) else (if 12 - (l1.length : Int) < a2 then some xs else ((impl_spread.f k (l1 ++ [0]) a2 a3 xs).bind fun t => (if 0 < a2 then impl_spread.f k (l1 ++ [a3]) (a2 - 1) a3 t else some t)))
/-- What a call of spread leaves: the slice behind the pointer reads as r; but for the pointer's block and the slice's own nothing that was there has changed. -/
def SpreadEnd (g : Nat) (v : Value) (w0 w : World) (r : List (S29)) (w' : World) : Prop :=
  ∃ v' : Value, w'.heap[g]? = some (.cells #[v'] 26 (0, 0)) ∧ Kd.S k29 29 w' w0.heap.size (fun k_ => w0.heap.size ≤ k_ ∧ k_ ≠ g) v' r ∧ Below w0.heap.size w0 w' ∧ Kept w w' (fun k_ => k_ = g ∨ some k_ = v.ownBlock) ∧ (v'.ownBlock = v.ownBlock ∨ ∃ b, v'.ownBlock = some b ∧ w.heap.size ≤ b)
theorem below_on {w0 w w' : World} (hB : Below w0.heap.size w0 w) (hW : Below w.heap.size w w') : Below w0.heap.size w0 w' :=
  hB.trans ⟨hW.os, hW.tape, hW.output, hW.size, fun i hi => hW.block i (Nat.lt_of_lt_of_le hi hB.size)⟩
theorem SpreadEnd.same {g : Nat} {v : Value} {w0 w w' : World} {xs : List (S29)} (hg : w.heap[g]? = some (.cells #[v] 26 (0, 0))) (hN : Kd.S k29 29 w w0.heap.size (fun k_ => w0.heap.size ≤ k_ ∧ k_ ≠ g) v xs) (hB : Below w0.heap.size w0 w) (hW : Below w.heap.size w w') : SpreadEnd g v w0 w xs w' :=
  ⟨v, blk_below hg hW, Kd.S_below hN hW, below_on hB hW, Kept.of_below hW _, .inl rfl⟩
theorem SpreadEnd.seq {g : Nat} {v v' : Value} {w0 w W1 W2 W3 W4 : World} {r : List (S29)} (hW1 : Below w.heap.size w W1) (k1 : Kept W1 W2 (fun k_ => k_ = g ∨ some k_ = v.ownBlock)) (at1 : v'.ownBlock = v.ownBlock ∨ ∃ b, v'.ownBlock = some b ∧ W1.heap.size ≤ b)
    (hW3 : Below W2.heap.size W2 W3) (E2 : SpreadEnd g v' w0 W3 r W4) : SpreadEnd g v w0 w r W4 := by
  obtain ⟨v2, h1, h2, h3, h4, h5⟩ := E2
  have s1 : w.heap.size ≤ W1.heap.size := hW1.size
  have s2 : W1.heap.size ≤ W2.heap.size := k1.1
  have s3 : W2.heap.size ≤ W3.heap.size := hW3.size
  have ka : Kept w W3 (fun k_ => k_ = g ∨ some k_ = v.ownBlock) := ((Kept.of_below hW1 (fun k_ => k_ = g ∨ some k_ = v.ownBlock)).then_ k1 (fun k hk => .inl hk)).below hW3
  refine ⟨v2, h1, h2, h3, ka.then_ h4 (fun k hk => ?_), ?_⟩
  · rcases hk with hk | hk
    · exact .inl (.inl hk)
    · rcases at1 with h | ⟨b, hb, hle⟩
      · exact .inl (.inr (hk.trans h))
      · rw [hb] at hk; injection hk with hk; right; omega
  · rcases h5 with h | ⟨b, hb, hle⟩
    · rcases at1 with h' | ⟨b, hb, hle⟩
      · exact .inl (h.trans h')
      · exact .inr ⟨b, h.trans hb, by omega⟩
    · exact .inr ⟨b, hb, by omega⟩
theorem SpreadEnd.at {g : Nat} {v : Value} {w0 w W1 W2 : World} {r : List (S29)} (hW1 : Below w.heap.size w W1) (E : SpreadEnd g v w0 W1 r W2) : SpreadEnd g v w0 w r W2 := by
  obtain ⟨v2, h1, h2, h3, h4, h5⟩ := E
  have s1 : w.heap.size ≤ W1.heap.size := hW1.size
  refine ⟨v2, h1, h2, h3, (Kept.of_below hW1 (fun k_ => k_ = g ∨ some k_ = v.ownBlock)).then_ h4 (fun k hk => .inl hk), ?_⟩
  rcases h5 with h | ⟨b, hb, hle⟩
  · exact .inl h
  · exact .inr ⟨b, hb, by omega⟩
theorem infoC : (Try.prog.info? 29).map (fun i => (i.zero, i.size, i.bytes)) = some (some (.agg #[(.slice none 0 0)]), 1, 24) := by kernel_rfl
theorem infoI : (Try.prog.info? 3).map (fun i => (i.zero, i.size, i.bytes)) = some (some (.int .i64 0), 1, 8) := by kernel_rfl
set_option maxHeartbeats 8000000 in
set_option maxRecDepth 100000 in
/-- The last place: the list is whole; it is appended if nothing is left to spread. -/
theorem impl_spread.leaf (g : Nat) (A1 : Option Addr) (c1 : Nat) (l1 : List Int) (a3 : Int) (v : Value) (xs : List (S29)) (w0 w : World) (ok1 : Nat → Prop)
    (hg : w.heap[g]? = some (.cells #[v] 26 (0, 0))) (hgb : w0.heap.size ≤ g) (hN : Kd.S k29 29 w w0.heap.size (fun k_ => w0.heap.size ≤ k_ ∧ k_ ≠ g) v xs) (hB : Below w0.heap.size w0 w)
    (hr1 : Kd.F (Kd.int .i64) w ok1 A1 l1.length l1) (hc1 : l1.length ≤ c1) (hl1 : l1.length = 12) (hxs : xs.length < 1000000) :
    Calls Try.prog 50 #[.pointer (some ⟨g, 0, none⟩), .slice A1 l1.length c1, .int .i64 0, .int .i64 a3] w fun e w' => e = .returned (.tuple #[]) ∧ SpreadEnd g v w0 w (xs ++ [(⟨l1⟩ : S29)]) w' := by
  have hu29 := Try.underlying29
  have HG := Aside0.mk hg
  have HN := Aside0.mk hN
  have HF := Aside0.mk hr1
  have HC := Aside0.mk hc1
  have HB := Aside0.mk hB
  have HW := Aside0.mk (Below.refl w.heap.size w)
  have HGB := Aside0.mk hgb
  have HX := Aside0.mk hxs
  obtain ⟨ye, hye⟩ : ∃ y_ : List Int, y_ = ([] : List Int) := ⟨_, rfl⟩
  have Nye := Aside0.mk hye
  clear hye
  obtain ⟨yl, hyl⟩ : ∃ y_ : List Int, y_ = ye ++ l1 := ⟨_, rfl⟩
  have Nyl := Aside0.mk hyl
  clear hyl
  have c4b0 : ((l1.length : Int) == 12) = true := beq_iff_eq.mpr (by omega)
  have HL := Aside0.mk hl1
  have hglt := Aside0.mk (blk_lt hg)
  clear hg hN hr1 hc1 hB hgb hxs hl1
  go_enter Try.func50, Try.ntmps50
  go_wp2
  refine start_ (n := 12) (S := fun w' => w'.cell? ⟨g, 0, none⟩ = some v) (ds := [11]) #[false, false, false, false, false, false, false, false, false, false, false, false] (by kernel_rfl) rfl rfl ((blk_cell HG.out 0).trans rfl) (fun hHeld => ?_)
  generalize hwd : w.drew = wd at hHeld ⊢
  have HWd : Aside0 (Below w.heap.size w wd) := ⟨hwd ▸ below_drew1 HW.out⟩
  have HGd : Aside0 (wd.heap[g]? = some (.cells #[v] 26 (0, 0))) := ⟨blk_below HG.out HWd.out⟩
  clear hwd
  refine pure_ (i := 0) (N := some 14) (v := ?_) (a' := ?_) #[true, false, false, false, false, false, false, false, false, false, false, false] rfl rfl (by kernel_rfl) (fun _ _ _ h => h) (Or.inl ⟨by rfl, ?_⟩) ?_ ?_
  rotate_left
  · intro w'
    go_simp
    with_reducible rfl
  rotate_left
  · simp only [Act.put, List.setIfInBounds_toArray, List.set_cons_zero, List.set_cons_succ, i64_w, i32_w]
    rfl
  refine pure_ (i := 1) (N := some 15) (v := ?_) (a' := ?_) #[true, true, false, false, false, false, false, false, false, false, false, false] rfl rfl (by kernel_rfl) (fun _ _ _ h => h) (Or.inl ⟨by rfl, ?_⟩) ?_ ?_
  rotate_left
  · intro w'
    go_simp
    with_reducible rfl
  rotate_left
  · simp only [Act.put, List.setIfInBounds_toArray, List.set_cons_zero, List.set_cons_succ, i64_w, i32_w]
    rfl
  refine pure_ (i := 5) (N := some 19) (v := ?_) (a' := ?_) #[true, true, false, false, false, true, false, false, false, false, false, false] rfl rfl (by kernel_rfl) (fun _ _ _ h => h) (Or.inl ⟨by rfl, ?_⟩) ?_ ?_
  rotate_left
  · intro w'
    go_simp
    with_reducible rfl
  rotate_left
  · simp only [Act.put, List.setIfInBounds_toArray, List.set_cons_zero, List.set_cons_succ, i64_w, i32_w]
    rfl
  refine pure_ (i := 2) (N := some 16) (v := ?_) (a' := ?_) #[true, true, true, false, false, true, false, false, false, false, false, false] rfl rfl (by kernel_rfl) (fun _ _ _ h => h) (Or.inl ⟨by rfl, ?_⟩) ?_ ?_
  rotate_left
  · intro w'
    go_simp
    with_reducible rfl
  rotate_left
  · simp only [Act.put, List.setIfInBounds_toArray, List.set_cons_zero, List.set_cons_succ, i64_w, i32_w]
    rfl
  refine take_ (i := 3) (N := some 17) (v := ?_) (a' := ?_) #[true, true, true, true, false, true, false, false, false, false, false, false] rfl rfl (by kernel_rfl) (fun _ _ _ h => h) (Or.inl ⟨by rfl, ?_⟩) hHeld ?_ ?_
  rotate_left
  · rintro w' s0
    go_simp
    with_reducible rfl
  rotate_left
  · simp only [Act.put, List.setIfInBounds_toArray, List.set_cons_zero, List.set_cons_succ, i64_w, i32_w]
    rfl
  refine one_ (i := 4) (N := some 18) #[true, true, true, true, true, true, false, false, false, false, false, false] rfl rfl (by kernel_rfl) (by decide) (fun K hK => ?_)
  refine Kd.R_lit_step (Kd.int .i64) _ 3 ?hg (N := 18) ?hd (xs := ([] : List Int)) (inner := []) (ok := fun _ => True) (okp := fun _ => True) ?hr ?hp (fun _ hk => hk) trivial (Below.refl _ _) (Nat.le_refl _) (by simp) ?_; (case hd => rfl); (case hg => rfl); (case hr => first | (go_simp; done) | (go_simp; rfl)); (case hp => exact (Reps.none _ _))
  intro v18 w18 ho hb hg_ hnew_
  clear hg_ hnew_
  (first | rw [← Nye.out] at ho | (simp only [Int.reduceToNat] at ho; rw [← Nye.out] at ho))
  have n0_ := Aside0.mk (Kd.R_lower ho HWd.out.size)
  have n1_ := Aside0.mk (below_step HWd.out hb)
  clear hb ho
  have HO1 := n0_
  have HW1 := n1_
  clear n0_ n1_
  have hc1_ := (blk_cell (blk_below HG.out HW1.out) 0).trans rfl
  refine hK.out _ _ hc1_ (fun hHeld => ?_)
  clear hK K
  refine norm_ (a' := ?_) ?_ ?_
  rotate_left
  · show Act.put _ (some 18) _ = _
    simp only [Act.put, List.setIfInBounds_toArray, List.set_cons_zero, List.set_cons_succ, i64_w, i32_w]
    rfl
  refine one_ (i := 6) (N := some 20) #[true, true, true, true, true, true, true, false, false, false, false, false] rfl rfl (by kernel_rfl) (by decide) (fun K hK => ?_)
  refine Kd.R_append_rows_step (Kd.int .i64) (w0 := w) w.heap.size (by rfl) (.tmp 18) (.tmp 19) 24 3 (.int .i64 0) 8 rfl Try.underlying24 infoI rfl (by decide) (by omega) v18 ye l1 _ _ _ (fun _ => True) (fun _ => False) rfl rfl ?aO ?aR (fun _ _ h => h) (fun _ h => h.elim) ?aF ?aB ?aS ?aL ?_
  (case aR => exact Kd.C_below (Kd.F_now HF.out) HW1.out)
  (case aB => exact HW1.out)
  (case aF => exact (fun _ _ => trivial))
  (case aO => exact HO1.out)
  (case aS => exact HW1.out.size)
  (case aL => have h1_ := HL.out; have h2_ := Nye.out; rw [h2_]; simp only [List.length_nil]; omega)
  intro v20 w20 ho hb hg hat
  rw [← Nyl.out] at ho
  have HW2 := Aside0.mk hb
  have HO2 := Aside0.mk ho
  clear ho hb hg hat
  obtain ⟨A2, c2, e2⟩ := Kd.R_slice HO2.out
  subst e2
  have hc2_ := (blk_cell (blk_below HG.out HW2.out) 0).trans rfl
  refine hK.out _ _ hc2_ (fun hHeld => ?_)
  clear hK K
  refine norm_ (a' := ?_) ?_ ?_
  rotate_left
  · show Act.put _ (some 20) _ = _
    simp only [Act.put, List.setIfInBounds_toArray, List.set_cons_zero, List.set_cons_succ, i64_w, i32_w]
    rfl
  refine pure_ (i := 7) (N := some 21) (v := ?_) (a' := ?_) #[true, true, true, true, true, true, true, true, false, false, false, false] rfl rfl (by kernel_rfl) (fun _ _ _ h => h) (Or.inl ⟨by rfl, ?_⟩) ?_ ?_
  rotate_left
  · intro w'
    go_simp
    with_reducible rfl
  rotate_left
  · simp only [Act.put, List.setIfInBounds_toArray, List.set_cons_zero, List.set_cons_succ, i64_w, i32_w]
    rfl
  refine one_ (i := 8) (N := some 22) #[true, true, true, true, true, true, true, true, true, false, false, false] rfl rfl (by kernel_rfl) (by decide) (fun K hK => ?_)
  refine value_ (w1 := ?_) (v := ?_) (by rfl) rfl ?_ ?_
  rotate_left 2
  · go_simp
    constructor
    · rfl
    · rfl
  have hc3_ := (blk_cell (blk_alloc (blk_below HG.out HW2.out) (.cells #[.slice A2 yl.length c2] 29 (0, 0))) 0).trans rfl
  refine hK.out _ _ hc3_ (fun hHeld => ?_)
  clear hK K
  refine norm_ (a' := ?_) ?_ ?_
  rotate_left
  · show Act.put _ (some 22) _ = _
    simp only [Act.put, List.setIfInBounds_toArray, List.set_cons_zero, List.set_cons_succ, i64_w, i32_w]
    rfl
  refine one_ (i := 9) (N := some 23) #[true, true, true, true, true, true, true, true, true, true, false, false] rfl rfl (by kernel_rfl) (by decide) (fun K hK => ?_)
  have hNl := Kd.S_lt HN.out
  have hBs := HB.out.size
  have hgl := hglt.out
  have hokp : ∀ k_, w.heap.size ≤ k_ → (w0.heap.size ≤ k_ ∧ k_ ≠ g) ∧ some k_ ≠ v.ownBlock := fun k_ hk => ⟨⟨Nat.le_trans hBs hk, by omega⟩, fun he => by have := hNl k_ he.symm; omega⟩
  have HP := Aside0.mk hokp
  clear hNl hBs hgl hokp
  refine Kd.S_append_step k29 (w0 := w0) w0.heap.size (by rfl) (.tmp 17) (.tmp 22) 26 29 (.agg #[(.slice none 0 0)]) 24 rfl Try.underlying26 infoC rfl (by decide) (by omega) v xs (⟨yl⟩ : S29) [.slice A2 yl.length c2] (fun k_ => w0.heap.size ≤ k_ ∧ k_ ≠ g) (fun k_ => w.heap.size ≤ k_) rfl rfl ?aP HP.out ?aF ?aO ?aB ?aS ?aL ?_
  (case aP => exact k29_mkM _ _ _ (⟨yl⟩ : S29) (Kd.R_lower (Kd.R_mono (ok' := (fun k_ => w.heap.size ≤ k_)) (Kd.R_bound HO2.out) (fun _ hk => hk.2.1)) HB.out.size))
  (case aF => exact fun k_ hk => (HP.out k_ (Nat.le_trans HW2.out.size hk)).1)
  (case aO => exact Kd.S_below (Kd.S_mono (Kd.S_bound HN.out) (fun k_ hk => ⟨hk.1, Nat.not_le.2 hk.2.2.1⟩)) HW2.out)
  (case aB => exact below_on HB.out HW2.out)
  (case aS => exact Nat.le_trans HB.out.size HW2.out.size)
  (case aL => have h1_ := HX.out; omega)
  intro v23 w23 ho hb hg hat
  have HO3 := Aside0.mk ho
  have HB3 := Aside0.mk hb
  have HG3 := Aside0.mk (blk_grown (blk_below HG.out HW2.out) hg (Kd.S_away HN.out (fun k_ hk => hk.2)))
  have HK3 := Aside0.mk (Kept.of_grown (S := fun k_ => k_ = g ∨ some k_ = v.ownBlock) hg (Kept.of_below HW2.out _) (fun k_ hk => .inl (.inr hk.symm)))
  have HT3 : Aside0 (v23.ownBlock = v.ownBlock ∨ ∃ b, v23.ownBlock = some b ∧ w.heap.size ≤ b) := ⟨hat.imp_right (fun ⟨b, h1, h2⟩ => ⟨b, h1, Nat.le_trans HW2.out.size h2⟩)⟩
  clear ho hb hg hat
  obtain ⟨A3, c3, e3⟩ := Kd.S_slice HO3.out
  subst e3
  have hc4_ := (blk_cell HG3.out 0).trans rfl
  refine hK.out _ _ hc4_ (fun hHeld => ?_)
  clear hK K
  refine norm_ (a' := ?_) ?_ ?_
  rotate_left
  · show Act.put _ (some 23) _ = _
    simp only [Act.put, List.setIfInBounds_toArray, List.set_cons_zero, List.set_cons_succ, i64_w, i32_w]
    rfl
  refine pure_ (i := 10) (N := some 24) (v := ?_) (a' := ?_) #[true, true, true, true, true, true, true, true, true, true, true, false] rfl rfl (by kernel_rfl) (fun _ _ _ h => h) (Or.inl ⟨by rfl, ?_⟩) ?_ ?_
  rotate_left
  · intro w'
    go_simp
    with_reducible rfl
  rotate_left
  · simp only [Act.put, List.setIfInBounds_toArray, List.set_cons_zero, List.set_cons_succ, i64_w, i32_w]
    rfl
  refine last_ (i := 11) (N := none) #[true, true, true, true, true, true, true, true, true, true, true, true] rfl rfl (by kernel_rfl) (by decide) (fun K hK => ?_)
  have hs_ : w23.cell? ⟨g, 0, none⟩ = some v := (blk_cell HG3.out 0).trans rfl
  have hfs_ := blk_frozen HG3.out 0
  refine skip_ (w1 := ?_) (by rfl) rfl ?_ ?_
  rotate_left
  · go_simp
    rfl
  refine hK.out _ _ ?_
  clear hK K
  refine done_ (by kernel_rfl) ?_
  try go_wp2
  refine bodyPost_ret (results_none rfl _ _ _) rfl ?_
  rw [show xs.length + 1 = (xs ++ [(⟨yl⟩ : S29)]).length by simp]
  refine ⟨rfl, _, blk_put (cs := #[v]) HG3.out 0 _ rfl, ?_, Below.setCell HB3.out (p := ⟨g, 0, none⟩) HGB.out _, Kept.setCell HK3.out (p := ⟨g, 0, none⟩) (.inl (.inl rfl)) _, HT3.out⟩
  have hyl : yl = l1 := by rw [Nyl.out, Nye.out]; rfl
  rw [← hyl]
  exact Kd.S_far (p := ⟨g, 0, none⟩) HO3.out (fun k_ hk => hk.2) _

set_option maxHeartbeats 8000000 in
set_option maxRecDepth 100000 in
theorem impl_spread.none12 (g : Nat) (A1 : Option Addr) (c1 : Nat) (l1 : List Int) (a2 a3 : Int) (v : Value) (xs : List (S29)) (w0 w : World) (ok1 : Nat → Prop)
    (hg : w.heap[g]? = some (.cells #[v] 26 (0, 0))) (hgb : w0.heap.size ≤ g) (hN : Kd.S k29 29 w w0.heap.size (fun k_ => w0.heap.size ≤ k_ ∧ k_ ≠ g) v xs) (hB : Below w0.heap.size w0 w)
    (hr1 : Kd.F (Kd.int .i64) w ok1 A1 l1.length l1) (hok1 : ∀ k_, ok1 k_ → k_ ≠ g ∧ some k_ ≠ v.ownBlock) (hc1 : l1.length ≤ c1) (hl1 : l1.length = 12) (h2 : ¬ a2 = 0) :
    Calls Try.prog 50 #[.pointer (some ⟨g, 0, none⟩), .slice A1 l1.length c1, .int .i64 a2, .int .i64 a3] w fun e w' => e = .returned (.tuple #[]) ∧ SpreadEnd g v w0 w xs w' := by
  have c4b0 : ((l1.length : Int) == 12) = true := beq_iff_eq.mpr (by omega)
  have c5b0 : (a2 == 0) = false := beq_eq_false_iff_ne.mpr h2
  have HG := Aside0.mk hg
  have HN := Aside0.mk hN
  have HF := Aside0.mk hr1
  have HK := Aside0.mk hok1
  have HC := Aside0.mk hc1
  have HB := Aside0.mk hB
  have HGB := Aside0.mk hgb
  have HW := Aside0.mk (Below.refl w.heap.size w)
  clear hg hN hr1 hok1 hc1 hB hgb
  clear hl1 h2
  go_enter Try.func50, Try.ntmps50
  go_wp2
  refine bodyPost_ret (results_none rfl _ _ _) rfl ?_
  exact ⟨rfl, SpreadEnd.same HG.out HN.out HB.out (by repeat (first | (with_reducible first | exact HW.out | apply below_alloc | apply pw_below_drewN | apply below_drew1) | exact HW.out))⟩

set_option maxHeartbeats 8000000 in
set_option maxRecDepth 100000 in
theorem impl_spread.many (g : Nat) (A1 : Option Addr) (c1 : Nat) (l1 : List Int) (a2 a3 : Int) (v : Value) (xs : List (S29)) (w0 w : World) (ok1 : Nat → Prop)
    (hg : w.heap[g]? = some (.cells #[v] 26 (0, 0))) (hgb : w0.heap.size ≤ g) (hN : Kd.S k29 29 w w0.heap.size (fun k_ => w0.heap.size ≤ k_ ∧ k_ ≠ g) v xs) (hB : Below w0.heap.size w0 w)
    (hr1 : Kd.F (Kd.int .i64) w ok1 A1 l1.length l1) (hok1 : ∀ k_, ok1 k_ → k_ ≠ g ∧ some k_ ≠ v.ownBlock) (hc1 : l1.length ≤ c1) (hl1 : l1.length ≤ 12) (hl2 : ¬ (l1.length : Int) = 12) (h2 : 12 - (l1.length : Int) < a2) (h2' : a2 ≤ 12) :
    Calls Try.prog 50 #[.pointer (some ⟨g, 0, none⟩), .slice A1 l1.length c1, .int .i64 a2, .int .i64 a3] w fun e w' => e = .returned (.tuple #[]) ∧ SpreadEnd g v w0 w xs w' := by
  have c4b0 : ((l1.length : Int) == 12) = false := beq_eq_false_iff_ne.mpr hl2
  have c5b0 : decide (12 - (l1.length : Int) < a2) = true := decide_eq_true h2
  have HG := Aside0.mk hg
  have HN := Aside0.mk hN
  have HF := Aside0.mk hr1
  have HK := Aside0.mk hok1
  have HC := Aside0.mk hc1
  have HB := Aside0.mk hB
  have HGB := Aside0.mk hgb
  have HW := Aside0.mk (Below.refl w.heap.size w)
  clear hg hN hr1 hok1 hc1 hB hgb
  have hlz : (l1.length : Int) ≤ 12 := by omega
  clear hl2 h2
  go_enter Try.func50, Try.ntmps50
  go_wp2
  refine bodyPost_ret (results_none rfl _ _ _) rfl ?_
  exact ⟨rfl, SpreadEnd.same HG.out HN.out HB.out (by repeat (first | (with_reducible first | exact HW.out | apply below_alloc | apply pw_below_drewN | apply below_drew1) | exact HW.out))⟩

set_option maxHeartbeats 8000000 in
set_option maxRecDepth 100000 in
theorem impl_spread.one (g : Nat) (A1 : Option Addr) (c1 : Nat) (l1 : List Int) (a2 a3 : Int) (v : Value) (xs : List (S29)) (w0 w : World) (ok1 : Nat → Prop)
    (hg : w.heap[g]? = some (.cells #[v] 26 (0, 0))) (hgb : w0.heap.size ≤ g) (hN : Kd.S k29 29 w w0.heap.size (fun k_ => w0.heap.size ≤ k_ ∧ k_ ≠ g) v xs) (hB : Below w0.heap.size w0 w)
    (hr1 : Kd.F (Kd.int .i64) w ok1 A1 l1.length l1) (hok1 : ∀ k_, ok1 k_ → k_ ≠ g ∧ some k_ ≠ v.ownBlock) (hc1 : l1.length ≤ c1) (hl1 : l1.length < 12) (h2 : ¬ 12 - (l1.length : Int) < a2) (h0 : 0 ≤ a2) (h2' : a2 ≤ 12) (t : List (S29))
    (ih1 : ∀ (W : World) (A : Option Addr) (c : Nat) (ok : Nat → Prop) (y : List Int), y = l1 ++ [0] → W.heap[g]? = some (.cells #[v] 26 (0, 0)) → Kd.S k29 29 W w0.heap.size (fun k_ => w0.heap.size ≤ k_ ∧ k_ ≠ g) v xs → Below w0.heap.size w0 W →
      Kd.F (Kd.int .i64) W ok A y.length y → (∀ k_, ok k_ → k_ ≠ g ∧ some k_ ≠ v.ownBlock) → y.length ≤ c → Calls Try.prog 50 #[.pointer (some ⟨g, 0, none⟩), .slice A y.length c, .int .i64 a2, .int .i64 a3] W fun e w' => e = .returned (.tuple #[]) ∧ SpreadEnd g v w0 W t w') (h3 : ¬ 0 < a2) :
    Calls Try.prog 50 #[.pointer (some ⟨g, 0, none⟩), .slice A1 l1.length c1, .int .i64 a2, .int .i64 a3] w fun e w' => e = .returned (.tuple #[]) ∧ SpreadEnd g v w0 w t w' := by
  have c4b0 : ((l1.length : Int) == 12) = false := beq_eq_false_iff_ne.mpr (by omega)
  have c5b0 : decide (12 - (l1.length : Int) < a2) = false := decide_eq_false h2
  have c6b0 : decide (0 < a2) = false := decide_eq_false h3
  have HG := Aside0.mk hg
  have HN := Aside0.mk hN
  have HF := Aside0.mk hr1
  have HK := Aside0.mk hok1
  have HC := Aside0.mk hc1
  have HB := Aside0.mk hB
  have HGB := Aside0.mk hgb
  have HW := Aside0.mk (Below.refl w.heap.size w)
  clear hg hN hr1 hok1 hc1 hB hgb
  have HL := Aside0.mk hl1
  have hlz : (l1.length : Int) ≤ 12 := by omega
  have IH1 := Aside0.mk ih1
  clear h3
  have hgl := blk_lt HG.out
  have hNl := Kd.S_lt HN.out
  have hok0 : ∀ k_, w.heap.size ≤ k_ → k_ ≠ g ∧ some k_ ≠ v.ownBlock := fun k_ hk => ⟨by omega, fun he => by have := hNl k_ he.symm; omega⟩
  have HP := Aside0.mk hok0
  clear hgl hNl hok0 hl1 h2 ih1
  obtain ⟨ye, hye⟩ : ∃ y_ : List Int, y_ = ([] : List Int) := ⟨_, rfl⟩
  have Nye := Aside0.mk hye
  clear hye
  obtain ⟨yl, hyl⟩ : ∃ y_ : List Int, y_ = ye ++ l1 := ⟨_, rfl⟩
  have Nyl := Aside0.mk hyl
  have HYL : Aside0 (yl.length = l1.length) := ⟨by rw [hyl, Nye.out]; rfl⟩
  have Nyq : Aside0 (yl = l1) := ⟨by rw [hyl, Nye.out]; rfl⟩
  clear hyl
  obtain ⟨y0, hy0⟩ : ∃ y_ : List Int, y_ = yl ++ [0] := ⟨_, rfl⟩
  have Ny0 := Aside0.mk hy0
  clear hy0
  go_enter Try.func50, Try.ntmps50
  go_wp2_with (first | ((with_reducible refine gate_dst (N := 30) rfl ?_); refine Kd.R_lit (Kd.int .i64) _ 3 ?hg (N := 30) ?hd (xs := ([] : List Int)) (inner := []) (ok := fun _ => True) (okp := fun _ => True) ?hr ?hp (fun _ hk => hk) trivial (Below.refl _ _) (Nat.le_refl _) (by simp) ?_; (case hd => rfl); (case hg => rfl); (case hr => first | (go_simp; done) | (go_simp; rfl)); (case hp => exact (Reps.none _ _)); intro v30 w30 ho hb hg_ hnew_; clear hg_ hnew_; (first | rw [← Nye.out] at ho | (simp only [Int.reduceToNat] at ho; rw [← Nye.out] at ho)); have n0_ := Aside0.mk (Kd.R_lower ho (below_size (by repeat (first | (with_reducible first | exact HW.out | apply below_alloc | apply pw_below_drewN | apply below_drew1) | exact HW.out)))); have n1_ := Aside0.mk (below_step (by repeat (first | (with_reducible first | exact HW.out | apply below_alloc | apply pw_below_drewN | apply below_drew1) | exact HW.out)) hb); clear HW; have HO := n0_; have HW := n1_; clear n0_ n1_; clear hb ho) | ((with_reducible refine gate_builtin (b := .append) (xs := #[.tmp 30, .tmp 31]) rfl ?_); at_builtin; refine Kd.R_append_rows (Kd.int .i64) (w0 := w) w.heap.size rfl (.tmp 30) (.tmp 31) 24 3 (.int .i64 0) 8 rfl Try.underlying24 infoI rfl (by decide) (by omega) v30 ye l1 _ _ _ (fun _ => True) (fun _ => False) rfl rfl ?aO ?aR (fun _ _ h => h) (fun _ h => h.elim) ?aF ?aB ?aS ?aL ?_; (case aR => exact Kd.C_below (Kd.F_now HF.out) (by repeat (first | (with_reducible first | exact HW.out | apply below_alloc | apply pw_below_drewN | apply below_drew1) | exact HW.out))); (case aB => exact (by repeat (first | (with_reducible first | exact HW.out | apply below_alloc | apply pw_below_drewN | apply below_drew1) | exact HW.out))); (case aF => exact (fun _ _ => trivial)); (case aO => exact (by (with_reducible repeat (first | apply Kd.R_alloc | apply Kd.R_drewN | apply Kd.R_drew)); exact HO.out)); (case aS => exact (below_size (by repeat (first | (with_reducible first | exact HW.out | apply below_alloc | apply pw_below_drewN | apply below_drew1) | exact HW.out)))); (case aL => have h1_ := HL.out; have h2_ := Nye.out; rw [h2_]; simp only [List.length_nil]; omega); intro v32 w32 ho hb hg hat; rw [← Nyl.out] at ho; clear HW; clear HO; have HW := Aside0.mk hb; have HO := Aside0.mk ho; clear ho hb hg hat) | ((with_reducible refine gate_builtin (b := .append) (xs := #[.tmp 34, .tmp 35]) rfl ?_); at_builtin; refine Kd.R_append (Kd.int .i64) (w0 := w) w.heap.size rfl (.tmp 34) (.tmp 35) 24 3 (.int .i64 0) 8 rfl Try.underlying24 infoI rfl (by decide) (by omega) v32 yl 0 [.int .i64 0] (fun _ => True) (fun _ => False) rfl rfl ?aP (fun _ hk => hk.elim) ?aF ?aO ?aB ?aS ?aL ?_; (case aP => exact rfl); (case aB => exact (by repeat (first | (with_reducible first | exact HW.out | apply below_alloc | apply pw_below_drewN | apply below_drew1) | exact HW.out))); (case aF => exact (fun _ _ => trivial)); (case aO => exact (by (with_reducible repeat (first | apply Kd.R_alloc | apply Kd.R_drewN | apply Kd.R_drew)); exact HO.out)); (case aS => exact (below_size (by repeat (first | (with_reducible first | exact HW.out | apply below_alloc | apply pw_below_drewN | apply below_drew1) | exact HW.out)))); (case aL => have h1_ := HL.out; have h3_ := HYL.out; omega); intro v36 w36 ho hb hg hat; rw [← Ny0.out] at ho; clear HW; clear HO; have HW := Aside0.mk hb; have HO := Aside0.mk ho; clear ho hb hg hat; obtain ⟨A36, c36, e36⟩ := Kd.R_slice HO.out; subst e36))
  refine (IH1.out _ _ _ (fun k_ => w.heap.size ≤ k_) y0 (by rw [Ny0.out, Nyq.out]) (blk_below HG.out (by repeat (first | (with_reducible first | exact HW.out | apply below_alloc | apply pw_below_drewN | apply below_drew1) | exact HW.out))) (Kd.S_below HN.out (by repeat (first | (with_reducible first | exact HW.out | apply below_alloc | apply pw_below_drewN | apply below_drew1) | exact HW.out))) (below_on HB.out (by repeat (first | (with_reducible first | exact HW.out | apply below_alloc | apply pw_below_drewN | apply below_drew1) | exact HW.out))) ?_ HP.out ?_).mono ?_
  · exact Kd.R_F (Kd.R_mono (ok' := (fun k_ => w.heap.size ≤ k_)) (Kd.R_bound (by (with_reducible repeat (first | apply Kd.R_alloc | apply Kd.R_drewN | apply Kd.R_drew)); exact HO.out)) (fun _ hk => hk.2.1))
  · exact (Kd.R_reads' HO.out).2.1
  rintro e w2 ⟨rfl, hE⟩
  have HE := Aside0.mk hE
  clear hE
  go_wp2
  go_end0
  exact ⟨rfl, SpreadEnd.at (by repeat (first | (with_reducible first | exact HW.out | apply below_alloc | apply pw_below_drewN | apply below_drew1) | exact HW.out)) HE.out⟩

set_option maxHeartbeats 8000000 in
set_option maxRecDepth 100000 in
theorem impl_spread.two (g : Nat) (A1 : Option Addr) (c1 : Nat) (l1 : List Int) (a2 a3 : Int) (v : Value) (xs : List (S29)) (w0 w : World) (ok1 : Nat → Prop)
    (hg : w.heap[g]? = some (.cells #[v] 26 (0, 0))) (hgb : w0.heap.size ≤ g) (hN : Kd.S k29 29 w w0.heap.size (fun k_ => w0.heap.size ≤ k_ ∧ k_ ≠ g) v xs) (hB : Below w0.heap.size w0 w)
    (hr1 : Kd.F (Kd.int .i64) w ok1 A1 l1.length l1) (hok1 : ∀ k_, ok1 k_ → k_ ≠ g ∧ some k_ ≠ v.ownBlock) (hc1 : l1.length ≤ c1) (hl1 : l1.length < 12) (h2 : ¬ 12 - (l1.length : Int) < a2) (h0 : 0 ≤ a2) (h2' : a2 ≤ 12) (t : List (S29))
    (ih1 : ∀ (W : World) (A : Option Addr) (c : Nat) (ok : Nat → Prop) (y : List Int), y = l1 ++ [0] → W.heap[g]? = some (.cells #[v] 26 (0, 0)) → Kd.S k29 29 W w0.heap.size (fun k_ => w0.heap.size ≤ k_ ∧ k_ ≠ g) v xs → Below w0.heap.size w0 W →
      Kd.F (Kd.int .i64) W ok A y.length y → (∀ k_, ok k_ → k_ ≠ g ∧ some k_ ≠ v.ownBlock) → y.length ≤ c → Calls Try.prog 50 #[.pointer (some ⟨g, 0, none⟩), .slice A y.length c, .int .i64 a2, .int .i64 a3] W fun e w' => e = .returned (.tuple #[]) ∧ SpreadEnd g v w0 W t w') (h3 : 0 < a2) (r : List (S29))
    (ih2 : ∀ (W : World) (A : Option Addr) (c : Nat) (ok : Nat → Prop) (v2 : Value) (y : List Int), y = l1 ++ [a3] → W.heap[g]? = some (.cells #[v2] 26 (0, 0)) → Kd.S k29 29 W w0.heap.size (fun k_ => w0.heap.size ≤ k_ ∧ k_ ≠ g) v2 t → Below w0.heap.size w0 W →
      Kd.F (Kd.int .i64) W ok A y.length y → (∀ k_, ok k_ → k_ ≠ g ∧ some k_ ≠ v2.ownBlock) → y.length ≤ c → Calls Try.prog 50 #[.pointer (some ⟨g, 0, none⟩), .slice A y.length c, .int .i64 (a2 - 1), .int .i64 a3] W fun e w' => e = .returned (.tuple #[]) ∧ SpreadEnd g v2 w0 W r w') :
    Calls Try.prog 50 #[.pointer (some ⟨g, 0, none⟩), .slice A1 l1.length c1, .int .i64 a2, .int .i64 a3] w fun e w' => e = .returned (.tuple #[]) ∧ SpreadEnd g v w0 w r w' := by
  have c4b0 : ((l1.length : Int) == 12) = false := beq_eq_false_iff_ne.mpr (by omega)
  have c5b0 : decide (12 - (l1.length : Int) < a2) = false := decide_eq_false h2
  have c6b0 : decide (0 < a2) = true := decide_eq_true h3
  have HG := Aside0.mk hg
  have HN := Aside0.mk hN
  have HF := Aside0.mk hr1
  have HK := Aside0.mk hok1
  have HC := Aside0.mk hc1
  have HB := Aside0.mk hB
  have HGB := Aside0.mk hgb
  have HW := Aside0.mk (Below.refl w.heap.size w)
  clear hg hN hr1 hok1 hc1 hB hgb
  have HL := Aside0.mk hl1
  have hlz : (l1.length : Int) ≤ 12 := by omega
  have IH1 := Aside0.mk ih1
  have IH2 := Aside0.mk ih2
  clear ih2
  have hgl := blk_lt HG.out
  have hNl := Kd.S_lt HN.out
  have hok0 : ∀ k_, w.heap.size ≤ k_ → k_ ≠ g ∧ some k_ ≠ v.ownBlock := fun k_ hk => ⟨by omega, fun he => by have := hNl k_ he.symm; omega⟩
  have HP := Aside0.mk hok0
  clear hgl hNl hok0 hl1 h2 ih1
  obtain ⟨ye, hye⟩ : ∃ y_ : List Int, y_ = ([] : List Int) := ⟨_, rfl⟩
  have Nye := Aside0.mk hye
  clear hye
  obtain ⟨yl, hyl⟩ : ∃ y_ : List Int, y_ = ye ++ l1 := ⟨_, rfl⟩
  have Nyl := Aside0.mk hyl
  have HYL : Aside0 (yl.length = l1.length) := ⟨by rw [hyl, Nye.out]; rfl⟩
  have Nyq : Aside0 (yl = l1) := ⟨by rw [hyl, Nye.out]; rfl⟩
  clear hyl
  obtain ⟨y0, hy0⟩ : ∃ y_ : List Int, y_ = yl ++ [0] := ⟨_, rfl⟩
  have Ny0 := Aside0.mk hy0
  clear hy0
  obtain ⟨y3, hy3⟩ : ∃ y_ : List Int, y_ = yl ++ [a3] := ⟨_, rfl⟩
  have Ny3 := Aside0.mk hy3
  clear hy3
  go_enter Try.func50, Try.ntmps50
  go_wp2_with (first | ((with_reducible refine gate_dst (N := 30) rfl ?_); refine Kd.R_lit (Kd.int .i64) _ 3 ?hg (N := 30) ?hd (xs := ([] : List Int)) (inner := []) (ok := fun _ => True) (okp := fun _ => True) ?hr ?hp (fun _ hk => hk) trivial (Below.refl _ _) (Nat.le_refl _) (by simp) ?_; (case hd => rfl); (case hg => rfl); (case hr => first | (go_simp; done) | (go_simp; rfl)); (case hp => exact (Reps.none _ _)); intro v30 w30 ho hb hg_ hnew_; clear hg_ hnew_; (first | rw [← Nye.out] at ho | (simp only [Int.reduceToNat] at ho; rw [← Nye.out] at ho)); have n0_ := Aside0.mk (Kd.R_lower ho (below_size (by repeat (first | (with_reducible first | exact HW.out | apply below_alloc | apply pw_below_drewN | apply below_drew1) | exact HW.out)))); have n1_ := Aside0.mk (below_step (by repeat (first | (with_reducible first | exact HW.out | apply below_alloc | apply pw_below_drewN | apply below_drew1) | exact HW.out)) hb); clear HW; have HO := n0_; have HW := n1_; clear n0_ n1_; clear hb ho) | ((with_reducible refine gate_builtin (b := .append) (xs := #[.tmp 30, .tmp 31]) rfl ?_); at_builtin; refine Kd.R_append_rows (Kd.int .i64) (w0 := w) w.heap.size rfl (.tmp 30) (.tmp 31) 24 3 (.int .i64 0) 8 rfl Try.underlying24 infoI rfl (by decide) (by omega) v30 ye l1 _ _ _ (fun _ => True) (fun _ => False) rfl rfl ?aO ?aR (fun _ _ h => h) (fun _ h => h.elim) ?aF ?aB ?aS ?aL ?_; (case aR => exact Kd.C_below (Kd.F_now HF.out) (by repeat (first | (with_reducible first | exact HW.out | apply below_alloc | apply pw_below_drewN | apply below_drew1) | exact HW.out))); (case aB => exact (by repeat (first | (with_reducible first | exact HW.out | apply below_alloc | apply pw_below_drewN | apply below_drew1) | exact HW.out))); (case aF => exact (fun _ _ => trivial)); (case aO => exact (by (with_reducible repeat (first | apply Kd.R_alloc | apply Kd.R_drewN | apply Kd.R_drew)); exact HO.out)); (case aS => exact (below_size (by repeat (first | (with_reducible first | exact HW.out | apply below_alloc | apply pw_below_drewN | apply below_drew1) | exact HW.out)))); (case aL => have h1_ := HL.out; have h2_ := Nye.out; rw [h2_]; simp only [List.length_nil]; omega); intro v32 w32 ho hb hg hat; rw [← Nyl.out] at ho; clear HW; clear HO; have HW := Aside0.mk hb; have HO := Aside0.mk ho; clear ho hb hg hat) | ((with_reducible refine gate_builtin (b := .append) (xs := #[.tmp 34, .tmp 35]) rfl ?_); at_builtin; refine Kd.R_append (Kd.int .i64) (w0 := w) w.heap.size rfl (.tmp 34) (.tmp 35) 24 3 (.int .i64 0) 8 rfl Try.underlying24 infoI rfl (by decide) (by omega) v32 yl 0 [.int .i64 0] (fun _ => True) (fun _ => False) rfl rfl ?aP (fun _ hk => hk.elim) ?aF ?aO ?aB ?aS ?aL ?_; (case aP => exact rfl); (case aB => exact (by repeat (first | (with_reducible first | exact HW.out | apply below_alloc | apply pw_below_drewN | apply below_drew1) | exact HW.out))); (case aF => exact (fun _ _ => trivial)); (case aO => exact (by (with_reducible repeat (first | apply Kd.R_alloc | apply Kd.R_drewN | apply Kd.R_drew)); exact HO.out)); (case aS => exact (below_size (by repeat (first | (with_reducible first | exact HW.out | apply below_alloc | apply pw_below_drewN | apply below_drew1) | exact HW.out)))); (case aL => have h1_ := HL.out; have h3_ := HYL.out; omega); intro v36 w36 ho hb hg hat; rw [← Ny0.out] at ho; clear HW; clear HO; have HW := Aside0.mk hb; have HO := Aside0.mk ho; clear ho hb hg hat; obtain ⟨A36, c36, e36⟩ := Kd.R_slice HO.out; subst e36))
  refine (IH1.out _ _ _ (fun k_ => w.heap.size ≤ k_) y0 (by rw [Ny0.out, Nyq.out]) (blk_below HG.out (by repeat (first | (with_reducible first | exact HW.out | apply below_alloc | apply pw_below_drewN | apply below_drew1) | exact HW.out))) (Kd.S_below HN.out (by repeat (first | (with_reducible first | exact HW.out | apply below_alloc | apply pw_below_drewN | apply below_drew1) | exact HW.out))) (below_on HB.out (by repeat (first | (with_reducible first | exact HW.out | apply below_alloc | apply pw_below_drewN | apply below_drew1) | exact HW.out))) ?_ HP.out ?_).mono ?_
  · exact Kd.R_F (Kd.R_mono (ok' := (fun k_ => w.heap.size ≤ k_)) (Kd.R_bound (by (with_reducible repeat (first | apply Kd.R_alloc | apply Kd.R_drewN | apply Kd.R_drew)); exact HO.out)) (fun _ hk => hk.2.1))
  · exact (Kd.R_reads' HO.out).2.1
  rintro e w2 ⟨rfl, hE⟩
  have HE := Aside0.mk hE
  clear hE
  obtain ⟨v2, e1, e2, e3, e4, e5⟩ := HE.out
  have HF2 := Aside0.mk (Kd.F_kept (Kd.F_below HF.out (by repeat (first | (with_reducible first | exact HW.out | apply below_alloc | apply pw_below_drewN | apply below_drew1) | exact HW.out))) e4 (fun k_ hk hs => hs.elim (HK.out k_ hk).1 (HK.out k_ hk).2))
  have HG2 := Aside0.mk e1
  have HN2 := Aside0.mk e2
  have HB2 := Aside0.mk e3
  have HK2 := Aside0.mk e4
  have HT2 := Aside0.mk e5
  have HW1 := Aside0.mk (show Below w.heap.size w _ from (by repeat (first | (with_reducible first | exact HW.out | apply below_alloc | apply pw_below_drewN | apply below_drew1) | exact HW.out)))
  have hgl := blk_lt e1
  have hNl := Kd.S_lt e2
  have hok0 : ∀ k_, w2.heap.size ≤ k_ → k_ ≠ g ∧ some k_ ≠ v2.ownBlock := fun k_ hk => ⟨by omega, fun he => by have := hNl k_ he.symm; omega⟩
  have HP2 := Aside0.mk hok0
  have HV := Aside0.mk (Below.refl w2.heap.size w2)
  clear hgl hNl hok0 e1 e2 e3 e4 e5 HE
  go_wp2_with (first | ((with_reducible refine gate_dst (N := 43) rfl ?_); refine Kd.R_lit (Kd.int .i64) _ 3 ?hg (N := 43) ?hd (xs := ([] : List Int)) (inner := []) (ok := fun _ => True) (okp := fun _ => True) ?hr ?hp (fun _ hk => hk) trivial (Below.refl _ _) (Nat.le_refl _) (by simp) ?_; (case hd => rfl); (case hg => rfl); (case hr => first | (go_simp; done) | (go_simp; rfl)); (case hp => exact (Reps.none _ _)); intro v43 w43 ho hb hg_ hnew_; clear hg_ hnew_; (first | rw [← Nye.out] at ho | (simp only [Int.reduceToNat] at ho; rw [← Nye.out] at ho)); have n0_ := Aside0.mk (Kd.R_lower ho (below_size (by repeat (first | (with_reducible first | exact HV.out | apply below_alloc | apply pw_below_drewN | apply below_drew1) | exact HV.out)))); have n1_ := Aside0.mk (below_step (by repeat (first | (with_reducible first | exact HV.out | apply below_alloc | apply pw_below_drewN | apply below_drew1) | exact HV.out)) hb); clear HV; have HQ := n0_; have HV := n1_; clear n0_ n1_; clear hb ho) | ((with_reducible refine gate_builtin (b := .append) (xs := #[.tmp 43, .tmp 44]) rfl ?_); at_builtin; refine Kd.R_append_rows (Kd.int .i64) (w0 := w2) w2.heap.size rfl (.tmp 43) (.tmp 44) 24 3 (.int .i64 0) 8 rfl Try.underlying24 infoI rfl (by decide) (by omega) v43 ye l1 _ _ _ (fun _ => True) (fun _ => False) rfl rfl ?aO ?aR (fun _ _ h => h) (fun _ h => h.elim) ?aF ?aB ?aS ?aL ?_; (case aR => exact Kd.C_below (Kd.F_now HF2.out) (by repeat (first | (with_reducible first | exact HV.out | apply below_alloc | apply pw_below_drewN | apply below_drew1) | exact HV.out))); (case aB => exact (by repeat (first | (with_reducible first | exact HV.out | apply below_alloc | apply pw_below_drewN | apply below_drew1) | exact HV.out))); (case aF => exact (fun _ _ => trivial)); (case aO => exact (by (with_reducible repeat (first | apply Kd.R_alloc | apply Kd.R_drewN | apply Kd.R_drew)); exact HQ.out)); (case aS => exact (below_size (by repeat (first | (with_reducible first | exact HV.out | apply below_alloc | apply pw_below_drewN | apply below_drew1) | exact HV.out)))); (case aL => have h1_ := HL.out; have h2_ := Nye.out; rw [h2_]; simp only [List.length_nil]; omega); intro v45 w45 ho hb hg hat; rw [← Nyl.out] at ho; clear HV; clear HQ; have HV := Aside0.mk hb; have HQ := Aside0.mk ho; clear ho hb hg hat) | ((with_reducible refine gate_builtin (b := .append) (xs := #[.tmp 45, .tmp 47]) rfl ?_); at_builtin; refine Kd.R_append (Kd.int .i64) (w0 := w2) w2.heap.size rfl (.tmp 45) (.tmp 47) 24 3 (.int .i64 0) 8 rfl Try.underlying24 infoI rfl (by decide) (by omega) v45 yl a3 [.int .i64 a3] (fun _ => True) (fun _ => False) rfl rfl ?aP (fun _ hk => hk.elim) ?aF ?aO ?aB ?aS ?aL ?_; (case aP => exact rfl); (case aB => exact (by repeat (first | (with_reducible first | exact HV.out | apply below_alloc | apply pw_below_drewN | apply below_drew1) | exact HV.out))); (case aF => exact (fun _ _ => trivial)); (case aO => exact (by (with_reducible repeat (first | apply Kd.R_alloc | apply Kd.R_drewN | apply Kd.R_drew)); exact HQ.out)); (case aS => exact (below_size (by repeat (first | (with_reducible first | exact HV.out | apply below_alloc | apply pw_below_drewN | apply below_drew1) | exact HV.out)))); (case aL => have h1_ := HL.out; have h3_ := HYL.out; omega); intro v48 w48 ho hb hg hat; rw [← Ny3.out] at ho; clear HV; clear HQ; have HV := Aside0.mk hb; have HQ := Aside0.mk ho; clear ho hb hg hat; obtain ⟨A48, c48, e48⟩ := Kd.R_slice HQ.out; subst e48))
  refine (IH2.out _ _ _ (fun k_ => w2.heap.size ≤ k_) v2 y3 (by rw [Ny3.out, Nyq.out]) (blk_below HG2.out (by repeat (first | (with_reducible first | exact HV.out | apply below_alloc | apply pw_below_drewN | apply below_drew1) | exact HV.out))) (Kd.S_below HN2.out (by repeat (first | (with_reducible first | exact HV.out | apply below_alloc | apply pw_below_drewN | apply below_drew1) | exact HV.out))) (below_on HB2.out (by repeat (first | (with_reducible first | exact HV.out | apply below_alloc | apply pw_below_drewN | apply below_drew1) | exact HV.out))) ?_ HP2.out ?_).mono ?_
  · exact Kd.R_F (Kd.R_mono (ok' := (fun k_ => w2.heap.size ≤ k_)) (Kd.R_bound (by (with_reducible repeat (first | apply Kd.R_alloc | apply Kd.R_drewN | apply Kd.R_drew)); exact HQ.out)) (fun _ hk => hk.2.1))
  · exact (Kd.R_reads' HQ.out).2.1
  rintro e w4 ⟨rfl, hE⟩
  have HE := Aside0.mk hE
  clear hE
  go_wp2
  go_end0
  exact ⟨rfl, SpreadEnd.seq HW1.out HK2.out HT2.out (by repeat (first | (with_reducible first | exact HV.out | apply below_alloc | apply pw_below_drewN | apply below_drew1) | exact HV.out)) HE.out⟩

theorem impl_spread.calls (k : Nat) : ∀ (g : Nat) (A1 : Option Addr) (c1 : Nat) (l1 : List Int) (a2 a3 : Int) (v : Value) (xs r : List (S29)) (w0 w : World) (ok1 : Nat → Prop)
    (hg : w.heap[g]? = some (.cells #[v] 26 (0, 0))) (hgb : w0.heap.size ≤ g) (hN : Kd.S k29 29 w w0.heap.size (fun k_ => w0.heap.size ≤ k_ ∧ k_ ≠ g) v xs) (hB : Below w0.heap.size w0 w)
    (hr1 : Kd.F (Kd.int .i64) w ok1 A1 l1.length l1) (hok1 : ∀ k_, ok1 k_ → k_ ≠ g ∧ some k_ ≠ v.ownBlock) (hc1 : l1.length ≤ c1) (hl1 : l1.length ≤ 12) (h0 : 0 ≤ a2) (h2 : a2 ≤ 12) (h : impl_spread.f k l1 a2 a3 xs = some r),
    Calls Try.prog 50 #[.pointer (some ⟨g, 0, none⟩), .slice A1 l1.length c1, .int .i64 a2, .int .i64 a3] w fun e w' => e = .returned (.tuple #[]) ∧ SpreadEnd g v w0 w r w' := by
  induction k with
  | zero => intro g A1 c1 l1 a2 a3 v xs r w0 w ok1 hg hgb hN hB hr1 hok1 hc1 hl1 h0 h2 h; exact absurd h (by simp [impl_spread.f])
  | succ k ih =>
    intro g A1 c1 l1 a2 a3 v xs r w0 w ok1 hg hgb hN hB hr1 hok1 hc1 hl1 h0 h2 h
    simp only [impl_spread.f] at h
    by_cases c4 : (l1.length : Int) = 12
    · rw [if_pos c4] at h
      by_cases c5 : a2 = 0
      · rw [if_pos c5] at h
        subst c5
        by_cases c6 : xs.length < 1000000
        · rw [if_pos c6] at h
          obtain rfl := Option.some.inj h
          exact impl_spread.leaf g A1 c1 l1 a3 v xs w0 w ok1 hg hgb hN hB hr1 hc1 (by omega) c6
        · rw [if_neg c6] at h; exact absurd h (by simp)
      · rw [if_neg c5] at h
        obtain rfl := Option.some.inj h
        exact impl_spread.none12 g A1 c1 l1 a2 a3 v xs w0 w ok1 hg hgb hN hB hr1 hok1 hc1 (by omega) c5
    · rw [if_neg c4] at h
      by_cases c7 : 12 - (l1.length : Int) < a2
      · rw [if_pos c7] at h
        obtain rfl := Option.some.inj h
        exact impl_spread.many g A1 c1 l1 a2 a3 v xs w0 w ok1 hg hgb hN hB hr1 hok1 hc1 hl1 c4 c7 h2
      · rw [if_neg c7] at h
        obtain ⟨t, h1, h⟩ := Option.bind_eq_some_iff.mp h
        have hll : (l1 ++ [0]).length ≤ 12 := by simp; omega
        by_cases c8 : 0 < a2
        · rw [if_pos c8] at h
          exact impl_spread.two g A1 c1 l1 a2 a3 v xs w0 w ok1 hg hgb hN hB hr1 hok1 hc1 (by omega) c7 h0 h2 t (fun W A c ok y hy p1 p2 p3 p4 p5 p6 => by subst hy; exact ih g A c (l1 ++ [0]) a2 a3 v xs t w0 W ok p1 hgb p2 p3 p4 p5 p6 hll h0 h2 h1) c8 r
            (fun W A c ok v2 y hy p1 p2 p3 p4 p5 p6 => by subst hy; exact ih g A c (l1 ++ [a3]) (a2 - 1) a3 v2 t r w0 W ok p1 hgb p2 p3 p4 p5 p6 (by simp; omega) (by omega) (by omega) h)
        · rw [if_neg c8] at h
          obtain rfl := Option.some.inj h
          exact impl_spread.one g A1 c1 l1 a2 a3 v xs w0 w ok1 hg hgb hN hB hr1 hok1 hc1 (by omega) c7 h0 h2 t (fun W A c ok y hy p1 p2 p3 p4 p5 p6 => by subst hy; exact ih g A c (l1 ++ [0]) a2 a3 v xs t w0 W ok p1 hgb p2 p3 p4 p5 p6 hll h0 h2 h1) c8
theorem R_empty {α : Type} (d : Kd α) (W : World) (base e : Nat) (ok : Nat → Prop) (hfresh : ok W.heap.size) (hbase : base ≤ W.heap.size) : d.R e (W.alloc (.cells #[] e)) base ok (.slice (some ⟨W.heap.size, 0, none⟩) 0 0) ([] : List α) := by
  refine ⟨fun k hk => ?_, [], ?_, Reps.none _ _⟩
  · have : W.heap.size = k := by simpa [Value.ownBlock] using hk
    subst this
    exact hfresh
  · have h2 := World.ownsRow_lit (base := base) (e := e) (size := d.sz) W #[] 0 hbase (by simp [maxLen]) (by simp)
    simpa using h2
def impl_FamilyOf.f (k : Nat) (a0 : Int) : Option (List (S29)) := if a0 = 2 ∨ a0 = 3 ∨ a0 = 4 ∨ a0 = 6 ∨ a0 = 12 then impl_spread.f k [] (Int.tdiv 12 a0) a0 [] else some []
theorem impl_spread.mono : ∀ k l a b xs, LeO (impl_spread.f k l a b xs) (impl_spread.f (k + 1) l a b xs) := by
  intro k
  induction k with
  | zero => intro l a b xs r h; simp [impl_spread.f] at h
  | succ k ih =>
    intro l a b xs
    rw [impl_spread.f, impl_spread.f]
    refine LeO.ite (LeO.refl _) (LeO.ite (LeO.refl _) (LeO.bind (ih _ _ _ _) (fun t => LeO.ite (ih _ _ _ _) (LeO.refl _))))
theorem impl_FamilyOf.mono : ∀ a0 k, LeO (impl_FamilyOf.f k a0) (impl_FamilyOf.f (k + 1) a0) := by
  intro a0 k
  unfold impl_FamilyOf.f
  exact LeO.ite (impl_spread.mono _ _ _ _ _) (LeO.refl _)
set_option maxHeartbeats 8000000 in
set_option maxRecDepth 100000 in
theorem impl_FamilyOf.at (k : Nat) (n a0 : Int) (r : List (S29)) (w : World) (hn : n = Int.tdiv 12 a0) (h1 : (a0 = 2 ∧ n = 6) ∨ (a0 = 3 ∧ n = 4) ∨ (a0 = 4 ∧ n = 3) ∨ (a0 = 6 ∧ n = 2) ∨ (a0 = 12 ∧ n = 1)) (h : impl_spread.f k [] n a0 [] = some r) :
    Calls Try.prog 14 #[.int .i64 a0] w fun e w' => ∃ v0_ : Value, e = .returned (v0_) ∧ Kd.S k29 29 w' w.heap.size (fun _ => True) v0_ r ∧ Below w.heap.size w w' := by
  have hsp := impl_spread.calls k (w.heap.size + 1) (some ⟨w.heap.size + 1 + 1, 0, none⟩) 0 [] n a0 (.slice (some ⟨w.heap.size, 0, none⟩) 0 0) [] r w (((w.alloc (.cells #[] 29)).alloc (.cells #[.slice (some ⟨w.heap.size, 0, none⟩) 0 0] 26)).alloc (.cells #[] 3)) (fun k_ => w.heap.size + 1 + 1 ≤ k_)
    (blk_alloc (by have e_ : (w.alloc (.cells #[] 29)).heap.size = w.heap.size + 1 := by simp
                   rw [← e_]; exact blk_new _ _) _) (by omega)
    (Kd.S_alloc (Kd.S_alloc (show Kd.S k29 29 _ w.heap.size _ _ [] from ⟨fun _ => 0, R_empty (Kd.tag (fun _ => 0) k29) w w.heap.size 29 (fun k_ => w.heap.size ≤ k_ ∧ k_ ≠ w.heap.size + 1) ⟨Nat.le_refl _, by omega⟩ (Nat.le_refl _)⟩) _) _)
    (below_alloc (below_alloc (below_alloc (Below.refl _ _) _) _) _)
    (by have h0 := Kd.R_F (R_empty (Kd.int .i64) ((w.alloc (.cells #[] 29)).alloc (.cells #[.slice (some ⟨w.heap.size, 0, none⟩) 0 0] 26)) w.heap.size 3 (fun k_ => w.heap.size + 1 + 1 ≤ k_) (by simp) (by simp; omega)); simpa using h0)
    (fun k_ hk => ⟨by omega, by simp [Value.ownBlock]; omega⟩) (Nat.zero_le _) (by simp) (by omega) (by omega) h
  have HSP := Aside0.mk hsp
  clear hsp h hn
  rcases h1 with ⟨rfl, rfl⟩ | ⟨rfl, rfl⟩ | ⟨rfl, rfl⟩ | ⟨rfl, rfl⟩ | ⟨rfl, rfl⟩
  all_goals
    go_enter Try.func14, Try.ntmps14
    go_wp2_with (first | (go_at_call 50; refine HSP.out.mono ?_; rintro e w' ⟨rfl, v', e1, e2, e3, e4, e5⟩; have hc_ := (blk_cell e1 0).trans rfl))
    go_ret
    exact ⟨_, rfl, Kd.S_mono e2 (fun _ _ => trivial), e3⟩
set_option maxHeartbeats 8000000 in
set_option maxRecDepth 100000 in
theorem impl_FamilyOf.none_ (a0 : Int) (w : World) (h1 : ¬ (a0 = 2 ∨ a0 = 3 ∨ a0 = 4 ∨ a0 = 6 ∨ a0 = 12)) :
    Calls Try.prog 14 #[.int .i64 a0] w fun e w' => ∃ v0_ : Value, e = .returned (v0_) ∧ Kd.S k29 29 w' w.heap.size (fun _ => True) v0_ [] ∧ Below w.heap.size w w' := by
  have c1 : (a0 == 2) = false := beq_eq_false_iff_ne.mpr (fun h => h1 (.inl h))
  have c2 : (a0 == 3) = false := beq_eq_false_iff_ne.mpr (fun h => h1 (.inr (.inl h)))
  have c3 : (a0 == 4) = false := beq_eq_false_iff_ne.mpr (fun h => h1 (.inr (.inr (.inl h))))
  have c4 : (a0 == 6) = false := beq_eq_false_iff_ne.mpr (fun h => h1 (.inr (.inr (.inr (.inl h)))))
  have c5 : (a0 == 12) = false := beq_eq_false_iff_ne.mpr (fun h => h1 (.inr (.inr (.inr (.inr h)))))
  have d1 : (a0 != 2) = true := bne_iff_ne.mpr (fun h => h1 (.inl h))
  have d2 : (a0 != 3) = true := bne_iff_ne.mpr (fun h => h1 (.inr (.inl h)))
  have d3 : (a0 != 4) = true := bne_iff_ne.mpr (fun h => h1 (.inr (.inr (.inl h))))
  have d4 : (a0 != 6) = true := bne_iff_ne.mpr (fun h => h1 (.inr (.inr (.inr (.inl h)))))
  have d5 : (a0 != 12) = true := bne_iff_ne.mpr (fun h => h1 (.inr (.inr (.inr (.inr h)))))
  clear h1
  go_enter Try.func14, Try.ntmps14
  go_wp2
  go_ret
  exact ⟨_, rfl, Kd.S_nil _ _ _ _ _, by repeat (first | exact Below.refl _ _ | apply below_alloc | apply pw_below_drewN | apply below_drew1)⟩
theorem impl_FamilyOf.calls (k : Nat) (a0 : Int) (r : List (S29)) (w : World) (h : impl_FamilyOf.f k a0 = some r) :
    Calls Try.prog 14 #[.int .i64 a0] w fun e w' => ∃ v0_ : Value, e = .returned (v0_) ∧ Kd.S k29 29 w' w.heap.size (fun _ => True) v0_ r ∧ Below w.heap.size w w' := by
  unfold impl_FamilyOf.f at h
  by_cases h1 : a0 = 2 ∨ a0 = 3 ∨ a0 = 4 ∨ a0 = 6 ∨ a0 = 12
  · rw [if_pos h1] at h
    refine impl_FamilyOf.at k (Int.tdiv 12 a0) a0 r w rfl ?_ h
    rcases h1 with rfl | rfl | rfl | rfl | rfl <;> decide
  · rw [if_neg h1] at h
    obtain rfl := Option.some.inj h
    exact impl_FamilyOf.none_ a0 w h1

/-! ### spec_l01In: function 52 -/
def spec_l01In.f (a0 : Int) (a1 : Int) (a2 : Int) : Option (Bool) := if a0 ≥ a1 then (some (decide (a0 ≤ a2))) else (some false)
set_option maxHeartbeats 8000000 in
set_option maxRecDepth 100000 in
theorem spec_l01In.calls (a0 : Int) (a1 : Int) (a2 : Int) (r : Bool) (w : World) (h : spec_l01In.f a0 a1 a2 = some r) :
    Calls Try.prog 52 #[.int .i64 a0, .int .i64 a1, .int .i64 a2] w fun e w' => e = .returned (.bool r) ∧ Drawn0 w w' := by
  have H : (if a0 ≥ a1 then (some (decide (a0 ≤ a2))) else (some false)) = some r := h
  clear h
  by_cases c4 : a0 ≥ a1
  · rw [if_pos c4] at H
    have c4b0 : decide (a1 ≤ a0) = true := decide_eq_true c4
    clear c4
    obtain rfl := Option.some.inj H
    go_enter Try.func52, Try.ntmps52
    go_wp2
    go_ret
    exact ⟨by first | rfl | (simp; done) | (simp [*]; done), by repeat (first | exact Drawn0.refl _ | apply Drawn0.step)⟩
  · rw [if_neg c4] at H
    have c4b0 : decide (a1 ≤ a0) = false := decide_eq_false c4
    clear c4
    obtain rfl := Option.some.inj H
    go_enter Try.func52, Try.ntmps52
    go_wp2
    go_ret
    exact ⟨by first | rfl | (simp; done) | (simp [*]; done), by repeat (first | exact Drawn0.refl _ | apply Drawn0.step)⟩

/-! ### spec_l02Copy: function 69 -/
def spec_l02Copy.f (l0 : List Int) : Option (List Int) := (some (([] : List Int) : List Int)).bind fun y124 => (if y124.length + l0.length < 17592186044416 then (some (y124 ++ l0)) else (none))
set_option maxHeartbeats 8000000 in
set_option maxRecDepth 100000 in
theorem spec_l02Copy.calls (A0 : Option Addr) (c0 : Nat) (l0 : List Int) (r : List Int) (w : World) (hr0 : Kd.C (Kd.int .i64) w A0 l0.length l0) (hc0 : l0.length ≤ c0) (h : spec_l02Copy.f l0 = some r) :
    Calls Try.prog 69 #[.slice A0 l0.length c0] w fun e w' => ∃ v0_ : Value, e = .returned (v0_) ∧ Kd.R (Kd.int .i64) 3 w' w.heap.size (fun _ => True) v0_ r ∧ Below w.heap.size w w' := by
  have HR0 := Aside0.mk hr0
  have HC0 := Aside0.mk hc0
  clear hr0 hc0
  have HB := Aside0.mk (Below.refl w.heap.size w)
  have H : ((some (([] : List Int) : List Int)).bind fun y124 => (if y124.length + l0.length < 17592186044416 then (some (y124 ++ l0)) else (none))) = some r := h
  clear h
  obtain ⟨y124, hy124⟩ : ∃ y_ : List Int, y_ = (([] : List Int)) := ⟨_, rfl⟩
  replace H : (if y124.length + l0.length < 17592186044416 then (some (y124 ++ l0)) else (none)) = some r := by first | (rw [hy124]; with_reducible exact H) | (have H2_ := (Option.bind_some _ _).symm.trans H; rw [hy124]; with_reducible exact H2_) | (have H2_ := (Option.bind_some _ _).symm.trans H; with_reducible exact H2_) | with_reducible exact H | (rw [hy124]; exact H) | exact H
  have Ny124 := Aside0.mk hy124
  clear hy124
  by_cases c2 : y124.length + l0.length < 17592186044416
  · rw [if_pos c2] at H
    have LMc2 := Aside0.mk c2
    clear c2
    obtain ⟨y127, hy127⟩ : ∃ y_ : List Int, y_ = (y124 ++ l0) := ⟨_, rfl⟩
    replace H : (some y127) = some r := by first | (rw [hy127]; with_reducible exact H) | (have H2_ := (Option.bind_some _ _).symm.trans H; rw [hy127]; with_reducible exact H2_) | (have H2_ := (Option.bind_some _ _).symm.trans H; with_reducible exact H2_) | with_reducible exact H | (rw [hy127]; exact H) | exact H
    have Ny127 := Aside0.mk hy127
    clear hy127
    obtain rfl := Option.some.inj H
    go_enter Try.func69, Try.ntmps69
    go_wp2_with (first | ((with_reducible refine gate_dst (N := 3) rfl ?_); refine Kd.R_lit (Kd.int .i64) _ 3 ?hg (N := 3) ?hd (xs := ([] : List Int)) (inner := []) (ok := fun _ => True) (okp := fun _ => True) ?hr ?hp (fun _ hk => hk) trivial (Below.refl _ _) (Nat.le_refl _) (by simp) ?_; (case hd => rfl); (case hg => rfl); (case hr => first | (go_simp; done) | (go_simp; rfl)); (case hp => exact (Reps.none _ _)); intro v125 w3 ho4 hb hg_ hnew_; clear hg_ hnew_; (first | rw [← Ny124.out] at ho4 | (simp only [Int.reduceToNat] at ho4; rw [← Ny124.out] at ho4)); have n0_ := Aside0.mk (Kd.R_lower ho4 (below_size (by repeat (first | (with_reducible first | exact HB.out | apply below_alloc | apply pw_below_drewN | apply below_drew1) | exact HB.out)))); have n1_ := Aside0.mk (below_step (by repeat (first | (with_reducible first | exact HB.out | apply below_alloc | apply pw_below_drewN | apply below_drew1) | exact HB.out)) hb); clear HB; have HO126 := n0_; have HB := n1_; clear n0_ n1_; clear hb ho4) | ((with_reducible refine gate_builtin (b := .append) (xs := #[.tmp 3, .tmp 4]) rfl ?_); at_builtin; refine Kd.R_append_rows (Kd.int .i64) (w0 := w) w.heap.size rfl (.tmp 3) (.tmp 4) 24 3 (.int .i64 0) 8 rfl Try.underlying24 info3 rfl (by decide) (by omega) v125 y124 l0 _ _ _ (fun _ => True) (fun _ => False) rfl rfl ?aO ?aR (fun _ _ h => h) (fun _ h => h.elim) ?aF ?aB ?aS ?aL ?_; (case aR => repeat (first | exact (Kd.C_below HR0.out HB.out) | (with_reducible refine Kd.C_alloc ?_ _) | (with_reducible refine Kd.C_drewN ?_ _) | (with_reducible refine Kd.C_drew ?_))); (case aB => exact (by repeat (first | (with_reducible first | exact HB.out | apply below_alloc | apply pw_below_drewN | apply below_drew1) | exact HB.out))); (case aF => exact (fun _ _ => trivial)); (case aO => exact (by (with_reducible repeat (first | apply Kd.R_alloc | apply Kd.R_drewN | apply Kd.R_drew)); exact HO126.out)); (case aS => exact (below_size (by repeat (first | (with_reducible first | exact HB.out | apply below_alloc | apply pw_below_drewN | apply below_drew1) | exact HB.out)))); (case aL => have := LMc2.out; omega); intro v128 w5 ho hb hg hat; rw [← Ny127.out] at ho; have n0_ := Aside0.mk (hb); have n1_ := Aside0.mk (ho); clear HB; clear HO126; have HB := n0_; have HO129 := n1_; clear n0_ n1_; clear ho hb hg hat))
    go_ret
    exact ⟨_, by first | rfl | (simp [errW_none, errW_some] <;> rfl) | (simp [*, errW_none, errW_some] <;> rfl), by (with_reducible repeat (first | apply Kd.R_alloc | apply Kd.R_drewN | apply Kd.R_drew)); exact HO129.out, by repeat (first | (with_reducible first | exact HB.out | apply below_alloc | apply pw_below_drewN | apply below_drew1) | exact HB.out)⟩
  · rw [if_neg c2] at H
    exact absurd H (by simp)

/-! ### spec_l14Family: function 53 -/
def spec_l14Family.f : Nat → Int → List Int → Int → Option ((List (S29)))
  | 0, _, _, _ => none
  | k + 1, a0, l1, a2 => if (l1.length : Int) = 12 then (if a2 > 0 then (some (([] : List (S29)))) else ((spec_l02Copy.f l1).bind fun t133 => (some (([(⟨t133⟩ : S29)] : List (S29)))))) else ((spec_l02Copy.f l1).bind fun t139 => (if t139.length < 17592186044416 then ((spec_l14Family.f k a0 (t139 ++ [0]) a2).bind fun t145 => (if a2 ≥ a0 then ((spec_l02Copy.f l1).bind fun t148 => (if t148.length < 17592186044416 then ((spec_l14Family.f k a0 (t148 ++ [a0]) (wrap64 (a2 - a0))).bind fun t154 => (if t145.length + t154.length < 5864062014805 then (some (t145 ++ t154)) else (none))) else (none))) else (some t145))) else (none)))
theorem spec_l14Family.mono_l : ∀ k, (∀ y0 y1 y2, LeO (spec_l14Family.f k y0 y1 y2) (spec_l14Family.f (k + 1) y0 y1 y2))
  | 0 => fun _ _ _ r h => by simp [spec_l14Family.f] at h
  | k + 1 => by
    have ih0 := spec_l14Family.mono_l k
    · intro y0 y1 y2
      unfold spec_l14Family.f
      repeat' first
      | (with_reducible exact ih0 _ _ _)
      | (with_reducible exact LeO.refl _)
      | (with_reducible exact LeO.none _)
      | (with_reducible refine LeO.ite ?_ ?_)
      | (with_reducible refine LeO.bind ?_ (fun _ => ?_))
      | exact ih0 _ _ _
      | exact LeO.none _
      | refine LeO.ite ?_ ?_
      | refine LeO.bind ?_ (fun _ => ?_)
theorem spec_l14Family.mono : ∀ a0 a1 a2 k, LeO (spec_l14Family.f k a0 a1 a2) (spec_l14Family.f (k + 1) a0 a1 a2) := by
  intro a0 a1 a2 k
  have ih0 := spec_l14Family.mono_l k
  exact ih0 a0 a1 a2
set_option maxHeartbeats 8000000 in
set_option maxRecDepth 100000 in
theorem spec_l14Family.calls (k : Nat) : ∀ (a0 : Int) (A1 : Option Addr) (c1 : Nat) (l1 : List Int) (a2 : Int) (r : List (S29)) (w : World) (hr1 : Kd.C (Kd.int .i64) w A1 l1.length l1) (hc1 : l1.length ≤ c1) (h : spec_l14Family.f k a0 l1 a2 = some r),
    Calls Try.prog 53 #[.int .i64 a0, .slice A1 l1.length c1, .int .i64 a2] w fun e w' => ∃ v0_ : Value, e = .returned (v0_) ∧ Kd.N k29 29 w' w.heap.size (fun k_ => (w.heap.size ≤ k_)) v0_ r ∧ Below w.heap.size w w' := by
  induction k using Nat.strongRecOn with
  | _ k ih =>
  intro a0 A1 c1 l1 a2 r w hr1 hc1 h
  cases k with
  | zero => exact absurd h (by simp [spec_l14Family.f])
  | succ k =>
  simp only [spec_l14Family.f] at h
  have hu29 := Try.underlying29
  have HR1 := Aside0.mk hr1
  have HC1 := Aside0.mk hc1
  clear hr1 hc1
  have HB := Aside0.mk (Below.refl w.heap.size w)
  have H : (if (l1.length : Int) = 12 then (if a2 > 0 then (some (([] : List (S29)))) else ((spec_l02Copy.f l1).bind fun t133 => (some (([(⟨t133⟩ : S29)] : List (S29)))))) else ((spec_l02Copy.f l1).bind fun t139 => (if t139.length < 17592186044416 then ((spec_l14Family.f k a0 (t139 ++ [0]) a2).bind fun t145 => (if a2 ≥ a0 then ((spec_l02Copy.f l1).bind fun t148 => (if t148.length < 17592186044416 then ((spec_l14Family.f k a0 (t148 ++ [a0]) (wrap64 (a2 - a0))).bind fun t154 => (if t145.length + t154.length < 5864062014805 then (some (t145 ++ t154)) else (none))) else (none))) else (some t145))) else (none)))) = some r := h
  clear h
  by_cases c4 : (l1.length : Int) = 12
  · rw [if_pos c4] at H
    have c4b0 : ((l1.length : Int) == 12) = true := beq_iff_eq.mpr c4
    have c4b1 : ((l1.length : Int) != 12) = false := bne_eq_false_iff_eq.mpr c4
    clear c4
    by_cases c5 : a2 > 0
    · rw [if_pos c5] at H
      have c5b0 : decide (0 < a2) = true := decide_eq_true c5
      clear c5
      obtain ⟨y130, hy130⟩ : ∃ y_ : List (S29), y_ = (([] : List (S29))) := ⟨_, rfl⟩
      replace H : (some y130) = some r := by first | (rw [hy130]; with_reducible exact H) | (have H2_ := (Option.bind_some _ _).symm.trans H; rw [hy130]; with_reducible exact H2_) | (have H2_ := (Option.bind_some _ _).symm.trans H; with_reducible exact H2_) | with_reducible exact H | (rw [hy130]; exact H) | exact H
      have Ny130 := Aside0.mk hy130
      clear hy130
      obtain rfl := Option.some.inj H
      go_enter Try.func53, Try.ntmps53
      go_wp2_with (first | ((with_reducible refine gate_dst (N := 13) rfl ?_); refine Kd.N_lit k29 _ 29 ?hg (N' := 13) ?hd (xs := ([] : List (S29))) (inner := []) (ok := (fun k_ => (w.heap.size ≤ k_))) (okp := (fun k_ => (w.heap.size ≤ k_))) ?hr ?hp (fun _ hk => hk) ((show ∀ k_, w.heap.size ≤ k_ → (fun k_ => (w.heap.size ≤ k_)) k_ from fun k_ hk => (Nat.le_trans (below_size (by repeat (first | (with_reducible first | exact HB.out | apply below_alloc | apply pw_below_drewN | apply below_drew1) | exact HB.out))) hk)) _ (Nat.le_refl _)) (Below.refl _ _) (Nat.le_refl _) (by simp) ?_; (case hd => rfl); (case hg => rfl); (case hr => first | (go_simp; done) | (go_simp; rfl)); (case hp => exact (Reps.none _ _)); intro v131 w6 ho7 hb hg_ hnew_; clear hg_ hnew_; (first | rw [← Ny130.out] at ho7 | (simp only [Int.reduceToNat] at ho7; rw [← Ny130.out] at ho7)); have n0_ := Aside0.mk (Kd.N_lower ho7 (below_size (by repeat (first | (with_reducible first | exact HB.out | apply below_alloc | apply pw_below_drewN | apply below_drew1) | exact HB.out)))); have n1_ := Aside0.mk (below_step (by repeat (first | (with_reducible first | exact HB.out | apply below_alloc | apply pw_below_drewN | apply below_drew1) | exact HB.out)) hb); clear HB; have HO132 := n0_; have HB := n1_; clear n0_ n1_; clear hb ho7))
      go_ret
      exact ⟨_, by first | rfl | (simp [errW_none, errW_some] <;> rfl) | (simp [*, errW_none, errW_some] <;> rfl), by (with_reducible repeat (first | apply Kd.N_alloc | apply Kd.N_drewN | apply Kd.N_drew)); exact HO132.out, by repeat (first | (with_reducible first | exact HB.out | apply below_alloc | apply pw_below_drewN | apply below_drew1) | exact HB.out)⟩
    · rw [if_neg c5] at H
      have c5b0 : decide (0 < a2) = false := decide_eq_false c5
      clear c5
      replace H := Option.bind_eq_some_iff.mp H
      obtain ⟨t133, A80, H⟩ := H
      replace H : (some (([(⟨t133⟩ : S29)] : List (S29)))) = some r := H
      have A8 := Aside0.mk A80
      clear A80
      obtain ⟨y136, hy136⟩ : ∃ y_ : List (S29), y_ = (([(⟨t133⟩ : S29)] : List (S29))) := ⟨_, rfl⟩
      replace H : (some y136) = some r := by first | (rw [hy136]; with_reducible exact H) | (have H2_ := (Option.bind_some _ _).symm.trans H; rw [hy136]; with_reducible exact H2_) | (have H2_ := (Option.bind_some _ _).symm.trans H; with_reducible exact H2_) | with_reducible exact H | (rw [hy136]; exact H) | exact H
      have Ny136 := Aside0.mk hy136
      clear hy136
      obtain rfl := Option.some.inj H
      go_enter Try.func53, Try.ntmps53
      go_wp2_with (first | ((with_reducible refine gate_callee (f := 69) rfl ?_); refine goesL_ (some 15) rfl rfl Try.func69 (by kernel_rfl) rfl #[.slice A1 l1.length c1] rfl (by (try simp only [List.map_toArray, List.map_cons, List.map_nil]); first | done | rfl | (simp only [List.length_drop, List.length_take]; rfl)) ?_; (with_reducible refine (spec_l02Copy.calls _ _ l1 t133 _ ?side1 ?side2 A8.out).mono ?_); (case side1 => repeat (first | exact HR1.out | (with_reducible refine Kd.C_alloc ?_ _) | (with_reducible refine Kd.C_drewN ?_ _) | (with_reducible refine Kd.C_drew ?_))); (case side2 => exact HC1.out); rintro e w9 ⟨v134, rfl, ho0, hb⟩; refine ⟨_, rfl, ?_⟩; have n0_ := Aside0.mk (Kd.R_lower (Kd.R_newM (M := fun k_ => (w.heap.size ≤ k_)) ho0 (below_size (by repeat (first | (with_reducible first | exact HB.out | apply below_alloc | apply pw_below_drewN | apply below_drew1) | exact HB.out))) (fun k_ h_ => h_)) (below_size (by repeat (first | (with_reducible first | exact HB.out | apply below_alloc | apply pw_below_drewN | apply below_drew1) | exact HB.out)))); have n1_ := Aside0.mk (below_step (by repeat (first | (with_reducible first | exact HB.out | apply below_alloc | apply pw_below_drewN | apply below_drew1) | exact HB.out)) hb); clear HB; have HO135 := n0_; have HB := n1_; clear n0_ n1_; (try clear hb); (try clear hb2); (try clear hk); (try clear hi); (try clear ho0); obtain ⟨Ao10, co10, eo10⟩ := Kd.R_slice HO135.out; subst eo10) | ((with_reducible refine gate_dst (N := 17) rfl ?_); refine Kd.N_lit k29 _ 29 ?hg (N' := 17) ?hd (xs := ([(⟨t133⟩ : S29)] : List (S29))) (inner := [.slice Ao10 t133.length co10]) (ok := (fun k_ => (w.heap.size ≤ k_))) (okp := (fun k_ => (w.heap.size ≤ k_))) ?hr ?hp (fun _ hk => hk) ((show ∀ k_, w9.heap.size ≤ k_ → (fun k_ => (w.heap.size ≤ k_)) k_ from fun k_ hk => (Nat.le_trans (below_size (by repeat (first | (with_reducible first | exact HB.out | apply below_alloc | apply pw_below_drewN | apply below_drew1) | exact HB.out))) hk)) _ (Nat.le_refl _)) (Below.refl _ _) (Nat.le_refl _) (by simp) ?_; (case hd => rfl); (case hg => rfl); (case hr => first | (go_simp; done) | (go_simp; rfl)); (case hp => exact (Reps.one (show Kd.FK k29 _ _ (⟨t133⟩ : S29) [.slice Ao10 t133.length co10] from (k29_mkF _ _ (⟨t133⟩ : S29) (Kd.R_reads' (Kd.R_mono (ok' := (fun k_ => (w.heap.size ≤ k_))) (HO135.out) (fun k_ hk => hk.1))).2.1 (Kd.R_F (Kd.R_mono (ok' := (fun k_ => (w.heap.size ≤ k_))) (HO135.out) (fun k_ hk => hk.1))))) (Reps.none _ _))); intro v137 w11 ho12 hb hg_ hnew_; clear hg_ hnew_; (first | rw [← Ny136.out] at ho12 | (simp only [Int.reduceToNat] at ho12; rw [← Ny136.out] at ho12)); have n0_ := Aside0.mk (Kd.N_lower ho12 (below_size (by repeat (first | (with_reducible first | exact HB.out | apply below_alloc | apply pw_below_drewN | apply below_drew1) | exact HB.out)))); have n1_ := Aside0.mk (below_step (by repeat (first | (with_reducible first | exact HB.out | apply below_alloc | apply pw_below_drewN | apply below_drew1) | exact HB.out)) hb); clear HB; clear HO135; have HO138 := n0_; have HB := n1_; clear n0_ n1_; clear hb ho12))
      go_ret
      exact ⟨_, by first | rfl | (simp [errW_none, errW_some] <;> rfl) | (simp [*, errW_none, errW_some] <;> rfl), by (with_reducible repeat (first | apply Kd.N_alloc | apply Kd.N_drewN | apply Kd.N_drew)); exact HO138.out, by repeat (first | (with_reducible first | exact HB.out | apply below_alloc | apply pw_below_drewN | apply below_drew1) | exact HB.out)⟩
  · rw [if_neg c4] at H
    have c4b0 : ((l1.length : Int) == 12) = false := beq_eq_false_iff_ne.mpr c4
    have c4b1 : ((l1.length : Int) != 12) = true := bne_iff_ne.mpr c4
    replace H := Option.bind_eq_some_iff.mp H
    obtain ⟨t139, A130, H⟩ := H
    replace H : (if t139.length < 17592186044416 then ((spec_l14Family.f k a0 (t139 ++ [0]) a2).bind fun t145 => (if a2 ≥ a0 then ((spec_l02Copy.f l1).bind fun t148 => (if t148.length < 17592186044416 then ((spec_l14Family.f k a0 (t148 ++ [a0]) (wrap64 (a2 - a0))).bind fun t154 => (if t145.length + t154.length < 5864062014805 then (some (t145 ++ t154)) else (none))) else (none))) else (some t145))) else (none)) = some r := H
    have A13 := Aside0.mk A130
    clear A130
    by_cases c14 : t139.length < 17592186044416
    · rw [if_pos c14] at H
      have LMc14 := Aside0.mk c14
      clear c14
      obtain ⟨y142, hy142⟩ : ∃ y_ : List Int, y_ = (t139 ++ [0]) := ⟨_, rfl⟩
      replace H : ((spec_l14Family.f k a0 y142 a2).bind fun t145 => (if a2 ≥ a0 then ((spec_l02Copy.f l1).bind fun t148 => (if t148.length < 17592186044416 then ((spec_l14Family.f k a0 (t148 ++ [a0]) (wrap64 (a2 - a0))).bind fun t154 => (if t145.length + t154.length < 5864062014805 then (some (t145 ++ t154)) else (none))) else (none))) else (some t145))) = some r := by first | (rw [hy142]; with_reducible exact H) | (have H2_ := (Option.bind_some _ _).symm.trans H; rw [hy142]; with_reducible exact H2_) | (have H2_ := (Option.bind_some _ _).symm.trans H; with_reducible exact H2_) | with_reducible exact H | (rw [hy142]; exact H) | exact H
      have Ny142 := Aside0.mk hy142
      clear hy142
      replace H := Option.bind_eq_some_iff.mp H
      obtain ⟨t145, A150, H⟩ := H
      replace H : (if a2 ≥ a0 then ((spec_l02Copy.f l1).bind fun t148 => (if t148.length < 17592186044416 then ((spec_l14Family.f k a0 (t148 ++ [a0]) (wrap64 (a2 - a0))).bind fun t154 => (if t145.length + t154.length < 5864062014805 then (some (t145 ++ t154)) else (none))) else (none))) else (some t145)) = some r := H
      have A15 := Aside0.mk A150
      clear A150
      by_cases c16 : a2 ≥ a0
      · rw [if_pos c16] at H
        have c16b0 : decide (a0 ≤ a2) = true := decide_eq_true c16
        clear c16
        replace H := Option.bind_eq_some_iff.mp H
        obtain ⟨t148, A170, H⟩ := H
        replace H : (if t148.length < 17592186044416 then ((spec_l14Family.f k a0 (t148 ++ [a0]) (wrap64 (a2 - a0))).bind fun t154 => (if t145.length + t154.length < 5864062014805 then (some (t145 ++ t154)) else (none))) else (none)) = some r := H
        have A17 := Aside0.mk A170
        clear A170
        by_cases c18 : t148.length < 17592186044416
        · rw [if_pos c18] at H
          have LMc18 := Aside0.mk c18
          clear c18
          obtain ⟨y151, hy151⟩ : ∃ y_ : List Int, y_ = (t148 ++ [a0]) := ⟨_, rfl⟩
          replace H : ((spec_l14Family.f k a0 y151 (wrap64 (a2 - a0))).bind fun t154 => (if t145.length + t154.length < 5864062014805 then (some (t145 ++ t154)) else (none))) = some r := by first | (rw [hy151]; with_reducible exact H) | (have H2_ := (Option.bind_some _ _).symm.trans H; rw [hy151]; with_reducible exact H2_) | (have H2_ := (Option.bind_some _ _).symm.trans H; with_reducible exact H2_) | with_reducible exact H | (rw [hy151]; exact H) | exact H
          have Ny151 := Aside0.mk hy151
          clear hy151
          replace H := Option.bind_eq_some_iff.mp H
          obtain ⟨t154, A190, H⟩ := H
          replace H : (if t145.length + t154.length < 5864062014805 then (some (t145 ++ t154)) else (none)) = some r := H
          have A19 := Aside0.mk A190
          clear A190
          by_cases c20 : t145.length + t154.length < 5864062014805
          · rw [if_pos c20] at H
            have LMc20 := Aside0.mk c20
            clear c20
            obtain ⟨y157, hy157⟩ : ∃ y_ : List (S29), y_ = (t145 ++ t154) := ⟨_, rfl⟩
            replace H : (some y157) = some r := by first | (rw [hy157]; with_reducible exact H) | (have H2_ := (Option.bind_some _ _).symm.trans H; rw [hy157]; with_reducible exact H2_) | (have H2_ := (Option.bind_some _ _).symm.trans H; with_reducible exact H2_) | with_reducible exact H | (rw [hy157]; exact H) | exact H
            have Ny157 := Aside0.mk hy157
            clear hy157
            obtain rfl := Option.some.inj H
            go_enter Try.func53, Try.ntmps53
            go_wp2_with (first | ((with_reducible refine gate_callee (f := 69) rfl ?_); refine goesL_ (some 20) rfl rfl Try.func69 (by kernel_rfl) rfl #[.slice A1 l1.length c1] rfl (by (try simp only [List.map_toArray, List.map_cons, List.map_nil]); first | done | rfl | (simp only [List.length_drop, List.length_take]; rfl)) ?_; (with_reducible refine (spec_l02Copy.calls _ _ l1 t139 _ ?side1 ?side2 A13.out).mono ?_); (case side1 => repeat (first | exact HR1.out | (with_reducible refine Kd.C_alloc ?_ _) | (with_reducible refine Kd.C_drewN ?_ _) | (with_reducible refine Kd.C_drew ?_))); (case side2 => exact HC1.out); rintro e w21 ⟨v140, rfl, ho0, hb⟩; refine ⟨_, rfl, ?_⟩; have n0_ := Aside0.mk (Kd.R_lower (Kd.R_newM (M := fun k_ => (w.heap.size ≤ k_)) ho0 (below_size (by repeat (first | (with_reducible first | exact HB.out | apply below_alloc | apply pw_below_drewN | apply below_drew1) | exact HB.out))) (fun k_ h_ => h_)) (below_size (by repeat (first | (with_reducible first | exact HB.out | apply below_alloc | apply pw_below_drewN | apply below_drew1) | exact HB.out)))); have n1_ := Aside0.mk (below_step (by repeat (first | (with_reducible first | exact HB.out | apply below_alloc | apply pw_below_drewN | apply below_drew1) | exact HB.out)) hb); clear HB; have HO141 := n0_; have HB := n1_; clear n0_ n1_; (try clear hb); (try clear hb2); (try clear hk); (try clear hi); (try clear ho0)) | ((with_reducible refine gate_builtin (b := .append) (xs := #[.tmp 20, .tmp 21]) rfl ?_); at_builtin; refine Kd.R_append (Kd.int .i64) (w0 := w) w.heap.size rfl (.tmp 20) (.tmp 21) 24 3 (.int .i64 0) 8 rfl Try.underlying24 info3 rfl (by decide) (by omega) v140 t139 0 [.int .i64 0] (fun k_ => (w.heap.size ≤ k_)) (fun _ => False) rfl rfl ?aP (fun _ hk => hk.elim) ?aF ?aO ?aB ?aS ?aL ?_; (case aP => exact rfl); (case aB => exact (by repeat (first | (with_reducible first | exact HB.out | apply below_alloc | apply pw_below_drewN | apply below_drew1) | exact HB.out))); (case aF => exact (fun k_ hk => (Nat.le_trans (below_size (by repeat (first | (with_reducible first | exact HB.out | apply below_alloc | apply pw_below_drewN | apply below_drew1) | exact HB.out))) hk))); (case aO => exact (by (with_reducible repeat (first | apply Kd.R_alloc | apply Kd.R_drewN | apply Kd.R_drew)); exact Kd.R_mono HO141.out (fun _ hk => hk.1))); (case aS => exact (below_size (by repeat (first | (with_reducible first | exact HB.out | apply below_alloc | apply pw_below_drewN | apply below_drew1) | exact HB.out)))); (case aL => have := LMc14.out; omega); intro v143 w22 ho hb hg hat; rw [← Ny142.out] at ho; have n0_ := Aside0.mk (hb); have n1_ := Aside0.mk (ho); clear HB; clear HO141; have HB := n0_; have HO144 := n1_; clear n0_ n1_; clear ho hb hg hat; obtain ⟨Ao23, co23, eo23⟩ := Kd.R_slice HO144.out; subst eo23) | ((with_reducible refine gate_callee (f := 53) rfl ?_); refine goesL_ (some 24) rfl rfl Try.func53 (by kernel_rfl) rfl #[.int .i64 a0, .slice Ao23 y142.length co23, .int .i64 a2] rfl (by (try simp only [List.map_toArray, List.map_cons, List.map_nil]); first | done | rfl | (simp only [List.length_drop, List.length_take]; rfl)) ?_; (with_reducible refine (ih k (by omega) a0 _ _ y142 a2 t145 _ ?side1 ?side2 A15.out).mono ?_); (case side1 => repeat (first | exact (Kd.R_reads' HO144.out).2.2 | (with_reducible refine Kd.C_alloc ?_ _) | (with_reducible refine Kd.C_drewN ?_ _) | (with_reducible refine Kd.C_drew ?_))); (case side2 => exact (Kd.R_reads' HO144.out).2.1); rintro e w24 ⟨v146, rfl, ho0, hb⟩; refine ⟨_, rfl, ?_⟩; have n0_ := Aside0.mk (Kd.R_below (by (with_reducible repeat (first | apply Kd.R_alloc | apply Kd.R_drewN | apply Kd.R_drew)); exact HO144.out) hb); have n1_ := Aside0.mk (Kd.N_lower (Kd.N_mono (ok' := fun k_ => (w.heap.size ≤ k_) ∧ some k_ ≠ (.slice Ao23 y142.length co23 : Value).ownBlock) ho0 (fun k_ hk_ => ⟨(Nat.le_trans (below_size (by repeat (first | (with_reducible first | exact HB.out | apply below_alloc | apply pw_below_drewN | apply below_drew1) | exact HB.out))) hk_), (Kd.fresh' (Kd.R_lt (by (with_reducible repeat (first | apply Kd.R_alloc | apply Kd.R_drewN | apply Kd.R_drew)); exact HO144.out)) k_ hk_)⟩)) (below_size (by repeat (first | (with_reducible first | exact HB.out | apply below_alloc | apply pw_below_drewN | apply below_drew1) | exact HB.out)))); have n2_ := Aside0.mk (below_step (by repeat (first | (with_reducible first | exact HB.out | apply below_alloc | apply pw_below_drewN | apply below_drew1) | exact HB.out)) hb); clear HO144; clear HB; have HO144 := n0_; have HO147 := n1_; have HB := n2_; clear n0_ n1_ n2_; (try clear hb); (try clear hb2); (try clear hk); (try clear hi); (try clear ho0)) | ((with_reducible refine gate_callee (f := 69) rfl ?_); refine goesL_ (some 31) rfl rfl Try.func69 (by kernel_rfl) rfl #[.slice A1 l1.length c1] rfl (by (try simp only [List.map_toArray, List.map_cons, List.map_nil]); first | done | rfl | (simp only [List.length_drop, List.length_take]; rfl)) ?_; (with_reducible refine (spec_l02Copy.calls _ _ l1 t148 _ ?side1 ?side2 A17.out).mono ?_); (case side1 => repeat (first | exact (Kd.C_below HR1.out HB.out) | (with_reducible refine Kd.C_alloc ?_ _) | (with_reducible refine Kd.C_drewN ?_ _) | (with_reducible refine Kd.C_drew ?_))); (case side2 => exact HC1.out); rintro e w25 ⟨v149, rfl, ho0, hb⟩; refine ⟨_, rfl, ?_⟩; have n0_ := Aside0.mk (Kd.R_elder' (by (with_reducible repeat (first | apply Kd.R_alloc | apply Kd.R_drewN | apply Kd.R_drew)); exact HO144.out) (Kd.R_base ho0) hb); have n1_ := Aside0.mk (Kd.N_elder' (by (with_reducible repeat (first | apply Kd.N_alloc | apply Kd.N_drewN | apply Kd.N_drew)); exact HO147.out) (Kd.R_base ho0) hb); have n2_ := Aside0.mk (Kd.R_lower (Kd.R_new' (Kd.R_newM (M := fun k_ => (w.heap.size ≤ k_)) ho0 (below_size (by repeat (first | (with_reducible first | exact HB.out | apply below_alloc | apply pw_below_drewN | apply below_drew1) | exact HB.out))) (fun k_ h_ => h_)) (Kd.R_lt (by (with_reducible repeat (first | apply Kd.R_alloc | apply Kd.R_drewN | apply Kd.R_drew)); exact HO144.out))) (below_size (by repeat (first | (with_reducible first | exact HB.out | apply below_alloc | apply pw_below_drewN | apply below_drew1) | exact HB.out)))); have n3_ := Aside0.mk (below_step (by repeat (first | (with_reducible first | exact HB.out | apply below_alloc | apply pw_below_drewN | apply below_drew1) | exact HB.out)) hb); clear HO144; clear HO147; clear HB; have HO144 := n0_; have HO147 := n1_; have HO150 := n2_; have HB := n3_; clear n0_ n1_ n2_ n3_; (try clear hb); (try clear hb2); (try clear hk); (try clear hi); (try clear ho0)) | ((with_reducible refine gate_builtin (b := .append) (xs := #[.tmp 31, .tmp 33]) rfl ?_); at_builtin; refine Kd.R_append (Kd.int .i64) (w0 := w) w.heap.size rfl (.tmp 31) (.tmp 33) 24 3 (.int .i64 0) 8 rfl Try.underlying24 info3 rfl (by decide) (by omega) v149 t148 a0 [.int .i64 a0] (fun k_ => (w.heap.size ≤ k_) ∧ some k_ ≠ (.slice Ao23 y142.length co23 : Value).ownBlock) (fun _ => False) rfl rfl ?aP (fun _ hk => hk.elim) ?aF ?aO ?aB ?aS ?aL ?_; (case aP => exact rfl); (case aB => exact (by repeat (first | (with_reducible first | exact HB.out | apply below_alloc | apply pw_below_drewN | apply below_drew1) | exact HB.out))); (case aF => exact (fun k_ hk => ⟨(Nat.le_trans (below_size (by repeat (first | (with_reducible first | exact HB.out | apply below_alloc | apply pw_below_drewN | apply below_drew1) | exact HB.out))) hk), Kd.fresh' (Kd.R_lt (by (with_reducible repeat (first | apply Kd.R_alloc | apply Kd.R_drewN | apply Kd.R_drew)); exact HO144.out)) k_ hk⟩)); (case aO => exact (by (with_reducible repeat (first | apply Kd.R_alloc | apply Kd.R_drewN | apply Kd.R_drew)); exact Kd.R_mono HO150.out (fun _ hk => ⟨hk.1.1, hk.2⟩))); (case aS => exact (below_size (by repeat (first | (with_reducible first | exact HB.out | apply below_alloc | apply pw_below_drewN | apply below_drew1) | exact HB.out)))); (case aL => have := LMc18.out; omega); intro v152 w26 ho hb hg hat; rw [← Ny151.out] at ho; have n0_ := Aside0.mk (Kd.R_after (ok := (fun k_ => (w.heap.size ≤ k_))) (by (with_reducible repeat (first | apply Kd.R_alloc | apply Kd.R_drewN | apply Kd.R_drew)); exact HO144.out) hg hat); have n1_ := Aside0.mk (Kd.N_afterv (ok := (fun k_ => (w.heap.size ≤ k_) ∧ some k_ ≠ (.slice Ao23 y142.length co23 : Value).ownBlock)) (by (with_reducible repeat (first | apply Kd.N_alloc | apply Kd.N_drewN | apply Kd.N_drew)); exact HO147.out) hg hat); have n2_ := Aside0.mk (hb); have n3_ := Aside0.mk (ho); clear HO144; clear HO147; clear HB; clear HO150; have HO144 := n0_; have HO147 := n1_; have HB := n2_; have HO153 := n3_; clear n0_ n1_ n2_ n3_; clear ho hb hg hat; obtain ⟨Ao27, co27, eo27⟩ := Kd.R_slice HO153.out; subst eo27) | ((with_reducible refine gate_callee (f := 53) rfl ?_); refine goesL_ (some 38) rfl rfl Try.func53 (by kernel_rfl) rfl #[.int .i64 a0, .slice Ao27 y151.length co27, .int .i64 (wrap64 (a2 - a0))] rfl (by (try simp only [List.map_toArray, List.map_cons, List.map_nil]); first | done | rfl | (simp only [List.length_drop, List.length_take]; rfl)) ?_; (with_reducible refine (ih k (by omega) a0 _ _ y151 (wrap64 (a2 - a0)) t154 _ ?side1 ?side2 A19.out).mono ?_); (case side1 => repeat (first | exact (Kd.R_reads' HO153.out).2.2 | (with_reducible refine Kd.C_alloc ?_ _) | (with_reducible refine Kd.C_drewN ?_ _) | (with_reducible refine Kd.C_drew ?_))); (case side2 => exact (Kd.R_reads' HO153.out).2.1); rintro e w28 ⟨v155, rfl, ho0, hb⟩; refine ⟨_, rfl, ?_⟩; have n0_ := Aside0.mk (Kd.R_below (by (with_reducible repeat (first | apply Kd.R_alloc | apply Kd.R_drewN | apply Kd.R_drew)); exact HO144.out) hb); have n1_ := Aside0.mk (Kd.N_elder' (by (with_reducible repeat (first | apply Kd.N_alloc | apply Kd.N_drewN | apply Kd.N_drew)); exact HO147.out) (Kd.N_base ho0) hb); have n2_ := Aside0.mk (Kd.R_below (by (with_reducible repeat (first | apply Kd.R_alloc | apply Kd.R_drewN | apply Kd.R_drew)); exact HO153.out) hb); have n3_ := Aside0.mk (Kd.N_lower (Kd.N_mono (ok' := fun k_ => (w.heap.size ≤ k_) ∧ some k_ ≠ (.slice Ao23 y142.length co23 : Value).ownBlock ∧ some k_ ≠ (v146 : Value).ownBlock ∧ some k_ ≠ (.slice Ao27 y151.length co27 : Value).ownBlock) ho0 (fun k_ hk_ => ⟨(Nat.le_trans (below_size (by repeat (first | (with_reducible first | exact HB.out | apply below_alloc | apply pw_below_drewN | apply below_drew1) | exact HB.out))) hk_), (Kd.fresh' (Kd.R_lt (by (with_reducible repeat (first | apply Kd.R_alloc | apply Kd.R_drewN | apply Kd.R_drew)); exact HO144.out)) k_ hk_), (Kd.fresh' (Kd.N_lt (by (with_reducible repeat (first | apply Kd.N_alloc | apply Kd.N_drewN | apply Kd.N_drew)); exact HO147.out)) k_ hk_), (Kd.fresh' (Kd.R_lt (by (with_reducible repeat (first | apply Kd.R_alloc | apply Kd.R_drewN | apply Kd.R_drew)); exact HO153.out)) k_ hk_)⟩)) (below_size (by repeat (first | (with_reducible first | exact HB.out | apply below_alloc | apply pw_below_drewN | apply below_drew1) | exact HB.out)))); have n4_ := Aside0.mk (below_step (by repeat (first | (with_reducible first | exact HB.out | apply below_alloc | apply pw_below_drewN | apply below_drew1) | exact HB.out)) hb); clear HO144; clear HO147; clear HO153; clear HB; have HO144 := n0_; have HO147 := n1_; have HO153 := n2_; have HO156 := n3_; have HB := n4_; clear n0_ n1_ n2_ n3_ n4_; (try clear hb); (try clear hb2); (try clear hk); (try clear hi); (try clear ho0); obtain ⟨Ao30, co30, eo30⟩ := Kd.N_slice HO156.out; subst eo30) | ((with_reducible refine gate_builtin (b := .append) (xs := #[.tmp 28, .tmp 38]) rfl ?_); at_builtin; refine Kd.N_append_rows k29 (w0 := w) w.heap.size rfl (.tmp 28) (.tmp 38) 26 29 (.agg #[(.slice none 0 0)]) 24 rfl Try.underlying26 info29 rfl (by decide) (by omega) v146 t145 t154 _ _ _ (fun k_ => (w.heap.size ≤ k_) ∧ some k_ ≠ (.slice Ao23 y142.length co23 : Value).ownBlock ∧ some k_ ≠ (.slice Ao27 y151.length co27 : Value).ownBlock) (fun k_ => ((fun k_ => (w.heap.size ≤ k_) ∧ some k_ ≠ (.slice Ao23 y142.length co23 : Value).ownBlock ∧ some k_ ≠ (.slice Ao27 y151.length co27 : Value).ownBlock)) k_ ∧ some k_ ≠ (v146 : Value).ownBlock) rfl rfl ?aO ?aR (fun _ hk => hk) ?aF ?aB ?aS ?aL ?_; (case aR => exact (by skip; exact Kd.N_F (Kd.N_mono (ok' := (fun k_ => ((fun k_ => (w.heap.size ≤ k_) ∧ some k_ ≠ (.slice Ao23 y142.length co23 : Value).ownBlock ∧ some k_ ≠ (.slice Ao27 y151.length co27 : Value).ownBlock)) k_ ∧ some k_ ≠ (v146 : Value).ownBlock)) (HO156.out) (fun k_ hk => ⟨⟨hk.1, ⟨hk.2.1, hk.2.2.2⟩⟩, hk.2.2.1⟩)))); (case aB => exact (by repeat (first | (with_reducible first | exact HB.out | apply below_alloc | apply pw_below_drewN | apply below_drew1) | exact HB.out))); (case aF => exact (fun k_ hk => ⟨(Nat.le_trans (below_size (by repeat (first | (with_reducible first | exact HB.out | apply below_alloc | apply pw_below_drewN | apply below_drew1) | exact HB.out))) hk), Kd.fresh' (Kd.R_lt (by (with_reducible repeat (first | apply Kd.R_alloc | apply Kd.R_drewN | apply Kd.R_drew)); exact HO144.out)) k_ hk, Kd.fresh' (Kd.R_lt (by (with_reducible repeat (first | apply Kd.R_alloc | apply Kd.R_drewN | apply Kd.R_drew)); exact HO153.out)) k_ hk⟩)); (case aO => exact (by (with_reducible repeat (first | apply Kd.N_alloc | apply Kd.N_drewN | apply Kd.N_drew)); exact Kd.N_mono HO147.out (fun _ hk => ⟨hk.1.1.1, ⟨hk.1.1.2, hk.1.2⟩⟩))); (case aS => exact (below_size (by repeat (first | (with_reducible first | exact HB.out | apply below_alloc | apply pw_below_drewN | apply below_drew1) | exact HB.out)))); (case aL => have := LMc20.out; omega); intro v158 w29 ho hb hg hat; rw [← Ny157.out] at ho; have n0_ := Aside0.mk (Kd.R_over' (by (with_reducible repeat (first | apply Kd.R_alloc | apply Kd.R_drewN | apply Kd.R_drew)); exact HO144.out) (Kd.N_typed (by (with_reducible repeat (first | apply Kd.N_alloc | apply Kd.N_drewN | apply Kd.N_drew)); exact HO147.out)) (by decide) hg); have n1_ := Aside0.mk (Kd.R_over' (by (with_reducible repeat (first | apply Kd.R_alloc | apply Kd.R_drewN | apply Kd.R_drew)); exact HO153.out) (Kd.N_typed (by (with_reducible repeat (first | apply Kd.N_alloc | apply Kd.N_drewN | apply Kd.N_drew)); exact HO147.out)) (by decide) hg); have n2_ := Aside0.mk (Kd.N_afterv (ok := (fun k_ => (w.heap.size ≤ k_) ∧ some k_ ≠ (.slice Ao23 y142.length co23 : Value).ownBlock ∧ some k_ ≠ (.slice Ao27 y151.length co27 : Value).ownBlock)) (by (with_reducible repeat (first | apply Kd.N_alloc | apply Kd.N_drewN | apply Kd.N_drew)); exact Kd.N_mono HO156.out (fun _ hk => ⟨⟨hk.1, ⟨hk.2.1, hk.2.2.2⟩⟩, hk.2.2.1⟩)) hg hat); have n3_ := Aside0.mk (hb); have n4_ := Aside0.mk (ho); clear HO144; clear HO153; clear HO156; clear HB; clear HO147; have HO144 := n0_; have HO153 := n1_; have HO156 := n2_; have HB := n3_; have HO159 := n4_; clear n0_ n1_ n2_ n3_ n4_; clear ho hb hg hat))
            go_ret
            exact ⟨_, by first | rfl | (simp [errW_none, errW_some] <;> rfl) | (simp [*, errW_none, errW_some] <;> rfl), by (with_reducible repeat (first | apply Kd.N_alloc | apply Kd.N_drewN | apply Kd.N_drew)); exact Kd.N_mono HO159.out (fun _ hk => hk.1), by repeat (first | (with_reducible first | exact HB.out | apply below_alloc | apply pw_below_drewN | apply below_drew1) | exact HB.out)⟩
          · rw [if_neg c20] at H
            exact absurd H (by simp)
        · rw [if_neg c18] at H
          exact absurd H (by simp)
      · rw [if_neg c16] at H
        have c16b0 : decide (a0 ≤ a2) = false := decide_eq_false c16
        clear c16
        obtain rfl := Option.some.inj H
        go_enter Try.func53, Try.ntmps53
        go_wp2_with (first | ((with_reducible refine gate_callee (f := 69) rfl ?_); refine goesL_ (some 20) rfl rfl Try.func69 (by kernel_rfl) rfl #[.slice A1 l1.length c1] rfl (by (try simp only [List.map_toArray, List.map_cons, List.map_nil]); first | done | rfl | (simp only [List.length_drop, List.length_take]; rfl)) ?_; (with_reducible refine (spec_l02Copy.calls _ _ l1 t139 _ ?side1 ?side2 A13.out).mono ?_); (case side1 => repeat (first | exact HR1.out | (with_reducible refine Kd.C_alloc ?_ _) | (with_reducible refine Kd.C_drewN ?_ _) | (with_reducible refine Kd.C_drew ?_))); (case side2 => exact HC1.out); rintro e w31 ⟨v140, rfl, ho0, hb⟩; refine ⟨_, rfl, ?_⟩; have n0_ := Aside0.mk (Kd.R_lower (Kd.R_newM (M := fun k_ => (w.heap.size ≤ k_)) ho0 (below_size (by repeat (first | (with_reducible first | exact HB.out | apply below_alloc | apply pw_below_drewN | apply below_drew1) | exact HB.out))) (fun k_ h_ => h_)) (below_size (by repeat (first | (with_reducible first | exact HB.out | apply below_alloc | apply pw_below_drewN | apply below_drew1) | exact HB.out)))); have n1_ := Aside0.mk (below_step (by repeat (first | (with_reducible first | exact HB.out | apply below_alloc | apply pw_below_drewN | apply below_drew1) | exact HB.out)) hb); clear HB; have HO141 := n0_; have HB := n1_; clear n0_ n1_; (try clear hb); (try clear hb2); (try clear hk); (try clear hi); (try clear ho0)) | ((with_reducible refine gate_builtin (b := .append) (xs := #[.tmp 20, .tmp 21]) rfl ?_); at_builtin; refine Kd.R_append (Kd.int .i64) (w0 := w) w.heap.size rfl (.tmp 20) (.tmp 21) 24 3 (.int .i64 0) 8 rfl Try.underlying24 info3 rfl (by decide) (by omega) v140 t139 0 [.int .i64 0] (fun k_ => (w.heap.size ≤ k_)) (fun _ => False) rfl rfl ?aP (fun _ hk => hk.elim) ?aF ?aO ?aB ?aS ?aL ?_; (case aP => exact rfl); (case aB => exact (by repeat (first | (with_reducible first | exact HB.out | apply below_alloc | apply pw_below_drewN | apply below_drew1) | exact HB.out))); (case aF => exact (fun k_ hk => (Nat.le_trans (below_size (by repeat (first | (with_reducible first | exact HB.out | apply below_alloc | apply pw_below_drewN | apply below_drew1) | exact HB.out))) hk))); (case aO => exact (by (with_reducible repeat (first | apply Kd.R_alloc | apply Kd.R_drewN | apply Kd.R_drew)); exact Kd.R_mono HO141.out (fun _ hk => hk.1))); (case aS => exact (below_size (by repeat (first | (with_reducible first | exact HB.out | apply below_alloc | apply pw_below_drewN | apply below_drew1) | exact HB.out)))); (case aL => have := LMc14.out; omega); intro v143 w32 ho hb hg hat; rw [← Ny142.out] at ho; have n0_ := Aside0.mk (hb); have n1_ := Aside0.mk (ho); clear HB; clear HO141; have HB := n0_; have HO144 := n1_; clear n0_ n1_; clear ho hb hg hat; obtain ⟨Ao33, co33, eo33⟩ := Kd.R_slice HO144.out; subst eo33) | ((with_reducible refine gate_callee (f := 53) rfl ?_); refine goesL_ (some 24) rfl rfl Try.func53 (by kernel_rfl) rfl #[.int .i64 a0, .slice Ao33 y142.length co33, .int .i64 a2] rfl (by (try simp only [List.map_toArray, List.map_cons, List.map_nil]); first | done | rfl | (simp only [List.length_drop, List.length_take]; rfl)) ?_; (with_reducible refine (ih k (by omega) a0 _ _ y142 a2 t145 _ ?side1 ?side2 A15.out).mono ?_); (case side1 => repeat (first | exact (Kd.R_reads' HO144.out).2.2 | (with_reducible refine Kd.C_alloc ?_ _) | (with_reducible refine Kd.C_drewN ?_ _) | (with_reducible refine Kd.C_drew ?_))); (case side2 => exact (Kd.R_reads' HO144.out).2.1); rintro e w34 ⟨v146, rfl, ho0, hb⟩; refine ⟨_, rfl, ?_⟩; have n0_ := Aside0.mk (Kd.R_below (by (with_reducible repeat (first | apply Kd.R_alloc | apply Kd.R_drewN | apply Kd.R_drew)); exact HO144.out) hb); have n1_ := Aside0.mk (Kd.N_lower (Kd.N_mono (ok' := fun k_ => (w.heap.size ≤ k_) ∧ some k_ ≠ (.slice Ao33 y142.length co33 : Value).ownBlock) ho0 (fun k_ hk_ => ⟨(Nat.le_trans (below_size (by repeat (first | (with_reducible first | exact HB.out | apply below_alloc | apply pw_below_drewN | apply below_drew1) | exact HB.out))) hk_), (Kd.fresh' (Kd.R_lt (by (with_reducible repeat (first | apply Kd.R_alloc | apply Kd.R_drewN | apply Kd.R_drew)); exact HO144.out)) k_ hk_)⟩)) (below_size (by repeat (first | (with_reducible first | exact HB.out | apply below_alloc | apply pw_below_drewN | apply below_drew1) | exact HB.out)))); have n2_ := Aside0.mk (below_step (by repeat (first | (with_reducible first | exact HB.out | apply below_alloc | apply pw_below_drewN | apply below_drew1) | exact HB.out)) hb); clear HO144; clear HB; have HO144 := n0_; have HO147 := n1_; have HB := n2_; clear n0_ n1_ n2_; (try clear hb); (try clear hb2); (try clear hk); (try clear hi); (try clear ho0)))
        go_ret
        exact ⟨_, by first | rfl | (simp [errW_none, errW_some] <;> rfl) | (simp [*, errW_none, errW_some] <;> rfl), by (with_reducible repeat (first | apply Kd.N_alloc | apply Kd.N_drewN | apply Kd.N_drew)); exact Kd.N_mono HO147.out (fun _ hk => hk.1), by repeat (first | (with_reducible first | exact HB.out | apply below_alloc | apply pw_below_drewN | apply below_drew1) | exact HB.out)⟩
    · rw [if_neg c14] at H
      exact absurd H (by simp)

/-! ### spec_FamilyOf: function 17 -/
def spec_FamilyOf.f (k : Nat) (a0 : Int) : Option ((List (S29))) := (spec_l01In.f a0 2 12).bind fun t160 => (if t160 = true then (if a0 = 0 then (none) else (if ((12 : Int) % a0) = 0 then ((spec_l14Family.f k a0 (([] : List Int)) 12).bind fun t164 => (some t164)) else (some (([] : List (S29)))))) else (some (([] : List (S29)))))
theorem spec_FamilyOf.mono : ∀ a0 k, LeO (spec_FamilyOf.f k a0) (spec_FamilyOf.f (k + 1) a0) := by
  intro a0 k
  unfold spec_FamilyOf.f
  repeat' first
      | (with_reducible exact spec_l14Family.mono _ _ _ _)
      | (with_reducible exact LeO.refl _)
      | (with_reducible exact LeO.none _)
      | (with_reducible refine LeO.ite ?_ ?_)
      | (with_reducible refine LeO.bind ?_ (fun _ => ?_))
      | exact spec_l14Family.mono _ _ _ _
      | exact LeO.none _
      | refine LeO.ite ?_ ?_
      | refine LeO.bind ?_ (fun _ => ?_)
set_option maxHeartbeats 8000000 in
set_option maxRecDepth 100000 in
theorem spec_FamilyOf.calls (k : Nat) (a0 : Int) (r : List (S29)) (w : World) (h : spec_FamilyOf.f k a0 = some r) :
    Calls Try.prog 17 #[.int .i64 a0] w fun e w' => ∃ v0_ : Value, e = .returned (v0_) ∧ Kd.N k29 29 w' w.heap.size (fun k_ => (w.heap.size ≤ k_)) v0_ r ∧ Below w.heap.size w w' := by
  have HB := Aside0.mk (Below.refl w.heap.size w)
  have H : ((spec_l01In.f a0 2 12).bind fun t160 => (if t160 = true then (if a0 = 0 then (none) else (if ((12 : Int) % a0) = 0 then ((spec_l14Family.f k a0 (([] : List Int)) 12).bind fun t164 => (some t164)) else (some (([] : List (S29)))))) else (some (([] : List (S29)))))) = some r := h
  clear h
  replace H := Option.bind_eq_some_iff.mp H
  obtain ⟨t160, A20, H⟩ := H
  replace H : (if t160 = true then (if a0 = 0 then (none) else (if ((12 : Int) % a0) = 0 then ((spec_l14Family.f k a0 (([] : List Int)) 12).bind fun t164 => (some t164)) else (some (([] : List (S29)))))) else (some (([] : List (S29))))) = some r := H
  have A2 := Aside0.mk A20
  clear A20
  by_cases c3 : t160 = true
  · subst c3
    have H1 : (if a0 = 0 then (none) else (if ((12 : Int) % a0) = 0 then ((spec_l14Family.f k a0 (([] : List Int)) 12).bind fun t164 => (some t164)) else (some (([] : List (S29)))))) = some r := by rw [if_pos rfl] at H; exact H
    clear H
    have H := H1
    clear H1
    by_cases c4 : a0 = 0
    · rw [if_pos c4] at H
      exact absurd H (by simp)
    · rw [if_neg c4] at H
      have c4b0 : (a0 == 0) = false := beq_eq_false_iff_ne.mpr c4
      have c4b1 : (a0 != 0) = true := bne_iff_ne.mpr c4
      by_cases c5 : ((12 : Int) % a0) = 0
      · rw [if_pos c5] at H
        have c5b0 : (((12 : Int) % a0) == 0) = true := beq_iff_eq.mpr c5
        have c5b1 : (((12 : Int) % a0) != 0) = false := bne_eq_false_iff_eq.mpr c5
        clear c5
        obtain ⟨y161, hy161⟩ : ∃ y_ : List Int, y_ = (([] : List Int)) := ⟨_, rfl⟩
        replace H : ((spec_l14Family.f k a0 y161 12).bind fun t164 => (some t164)) = some r := by first | (rw [hy161]; with_reducible exact H) | (have H2_ := (Option.bind_some _ _).symm.trans H; rw [hy161]; with_reducible exact H2_) | (have H2_ := (Option.bind_some _ _).symm.trans H; with_reducible exact H2_) | with_reducible exact H | (rw [hy161]; exact H) | exact H
        have Ny161 := Aside0.mk hy161
        clear hy161
        replace H := Option.bind_eq_some_iff.mp H
        obtain ⟨t164, A60, H⟩ := H
        replace H : (some t164) = some r := H
        have A6 := Aside0.mk A60
        clear A60
        obtain rfl := Option.some.inj H
        go_enter Try.func17, Try.ntmps17
        go_wp2_with (first | ((with_reducible refine gate_callee (f := 52) rfl ?_); refine goesL_ (some 4) rfl rfl Try.func52 (by kernel_rfl) rfl #[.int .i64 a0, .int .i64 2, .int .i64 12] rfl (by (try simp only [List.map_toArray, List.map_cons, List.map_nil]); first | done | rfl | (simp only [List.length_drop, List.length_take]; rfl)) ?_; (with_reducible refine (spec_l01In.calls a0 2 12 true _ A2.out).mono ?_); rintro e w' ⟨rfl, ⟨nd, rfl⟩⟩; refine ⟨_, rfl, ?_⟩) | ((with_reducible refine gate_dst (N := 13) rfl ?_); refine Kd.R_lit (Kd.int .i64) _ 3 ?hg (N := 13) ?hd (xs := ([] : List Int)) (inner := []) (ok := fun _ => True) (okp := fun _ => True) ?hr ?hp (fun _ hk => hk) trivial (Below.refl _ _) (Nat.le_refl _) (by simp) ?_; (case hd => rfl); (case hg => rfl); (case hr => first | (go_simp; done) | (go_simp; rfl)); (case hp => exact (Reps.none _ _)); intro v162 w7 ho8 hb hg_ hnew_; clear hg_ hnew_; (first | rw [← Ny161.out] at ho8 | (simp only [Int.reduceToNat] at ho8; rw [← Ny161.out] at ho8)); have n0_ := Aside0.mk (Kd.R_lower (Kd.R_newM (M := fun k_ => (w.heap.size ≤ k_)) ho8 (below_size (by repeat (first | (with_reducible first | exact HB.out | apply below_alloc | apply pw_below_drewN | apply below_drew1) | exact HB.out))) (fun k_ h_ => h_)) (below_size (by repeat (first | (with_reducible first | exact HB.out | apply below_alloc | apply pw_below_drewN | apply below_drew1) | exact HB.out)))); have n1_ := Aside0.mk (below_step (by repeat (first | (with_reducible first | exact HB.out | apply below_alloc | apply pw_below_drewN | apply below_drew1) | exact HB.out)) hb); clear HB; have HO163 := n0_; have HB := n1_; clear n0_ n1_; clear hb ho8; obtain ⟨Ao9, co9, eo9⟩ := Kd.R_slice HO163.out; subst eo9) | ((with_reducible refine gate_callee (f := 53) rfl ?_); refine goesL_ (some 14) rfl rfl Try.func53 (by kernel_rfl) rfl #[.int .i64 a0, .slice Ao9 y161.length co9, .int .i64 12] rfl (by (try simp only [List.map_toArray, List.map_cons, List.map_nil]); first | done | rfl | (simp only [List.length_drop, List.length_take]; rfl)) ?_; (with_reducible refine (spec_l14Family.calls k a0 _ _ y161 12 t164 _ ?side1 ?side2 A6.out).mono ?_); (case side1 => repeat (first | exact (Kd.R_reads' HO163.out).2.2 | (with_reducible refine Kd.C_alloc ?_ _) | (with_reducible refine Kd.C_drewN ?_ _) | (with_reducible refine Kd.C_drew ?_))); (case side2 => exact (Kd.R_reads' HO163.out).2.1); rintro e w10 ⟨v165, rfl, ho0, hb⟩; refine ⟨_, rfl, ?_⟩; have n0_ := Aside0.mk (Kd.R_below (by (with_reducible repeat (first | apply Kd.R_alloc | apply Kd.R_drewN | apply Kd.R_drew)); exact HO163.out) hb); have n1_ := Aside0.mk (Kd.N_lower (Kd.N_mono (ok' := fun k_ => (w.heap.size ≤ k_) ∧ some k_ ≠ (.slice Ao9 y161.length co9 : Value).ownBlock) ho0 (fun k_ hk_ => ⟨(Nat.le_trans (below_size (by repeat (first | (with_reducible first | exact HB.out | apply below_alloc | apply pw_below_drewN | apply below_drew1) | exact HB.out))) hk_), (Kd.fresh' (Kd.R_lt (by (with_reducible repeat (first | apply Kd.R_alloc | apply Kd.R_drewN | apply Kd.R_drew)); exact HO163.out)) k_ hk_)⟩)) (below_size (by repeat (first | (with_reducible first | exact HB.out | apply below_alloc | apply pw_below_drewN | apply below_drew1) | exact HB.out)))); have n2_ := Aside0.mk (below_step (by repeat (first | (with_reducible first | exact HB.out | apply below_alloc | apply pw_below_drewN | apply below_drew1) | exact HB.out)) hb); clear HO163; clear HB; have HO163 := n0_; have HO166 := n1_; have HB := n2_; clear n0_ n1_ n2_; (try clear hb); (try clear hb2); (try clear hk); (try clear hi); (try clear ho0)))
        go_ret
        exact ⟨_, by first | rfl | (simp [errW_none, errW_some] <;> rfl) | (simp [*, errW_none, errW_some] <;> rfl), by (with_reducible repeat (first | apply Kd.N_alloc | apply Kd.N_drewN | apply Kd.N_drew)); exact Kd.N_mono HO166.out (fun _ hk => hk.1), by repeat (first | (with_reducible first | exact HB.out | apply below_alloc | apply pw_below_drewN | apply below_drew1) | exact HB.out)⟩
      · rw [if_neg c5] at H
        have c5b0 : (((12 : Int) % a0) == 0) = false := beq_eq_false_iff_ne.mpr c5
        have c5b1 : (((12 : Int) % a0) != 0) = true := bne_iff_ne.mpr c5
        obtain ⟨y167, hy167⟩ : ∃ y_ : List (S29), y_ = (([] : List (S29))) := ⟨_, rfl⟩
        replace H : (some y167) = some r := by first | (rw [hy167]; with_reducible exact H) | (have H2_ := (Option.bind_some _ _).symm.trans H; rw [hy167]; with_reducible exact H2_) | (have H2_ := (Option.bind_some _ _).symm.trans H; with_reducible exact H2_) | with_reducible exact H | (rw [hy167]; exact H) | exact H
        have Ny167 := Aside0.mk hy167
        clear hy167
        obtain rfl := Option.some.inj H
        go_enter Try.func17, Try.ntmps17
        go_wp2_with (first | ((with_reducible refine gate_callee (f := 52) rfl ?_); refine goesL_ (some 4) rfl rfl Try.func52 (by kernel_rfl) rfl #[.int .i64 a0, .int .i64 2, .int .i64 12] rfl (by (try simp only [List.map_toArray, List.map_cons, List.map_nil]); first | done | rfl | (simp only [List.length_drop, List.length_take]; rfl)) ?_; (with_reducible refine (spec_l01In.calls a0 2 12 true _ A2.out).mono ?_); rintro e w' ⟨rfl, ⟨nd, rfl⟩⟩; refine ⟨_, rfl, ?_⟩) | ((with_reducible refine gate_dst (N := 11) rfl ?_); refine Kd.N_lit k29 _ 29 ?hg (N' := 11) ?hd (xs := ([] : List (S29))) (inner := []) (ok := (fun k_ => (w.heap.size ≤ k_))) (okp := (fun k_ => (w.heap.size ≤ k_))) ?hr ?hp (fun _ hk => hk) ((show ∀ k_, w.heap.size ≤ k_ → (fun k_ => (w.heap.size ≤ k_)) k_ from fun k_ hk => (Nat.le_trans (below_size (by repeat (first | (with_reducible first | exact HB.out | apply below_alloc | apply pw_below_drewN | apply below_drew1) | exact HB.out))) hk)) _ (Nat.le_refl _)) (Below.refl _ _) (Nat.le_refl _) (by simp) ?_; (case hd => rfl); (case hg => rfl); (case hr => first | (go_simp; done) | (go_simp; rfl)); (case hp => exact (Reps.none _ _)); intro v168 w11 ho12 hb hg_ hnew_; clear hg_ hnew_; (first | rw [← Ny167.out] at ho12 | (simp only [Int.reduceToNat] at ho12; rw [← Ny167.out] at ho12)); have n0_ := Aside0.mk (Kd.N_lower ho12 (below_size (by repeat (first | (with_reducible first | exact HB.out | apply below_alloc | apply pw_below_drewN | apply below_drew1) | exact HB.out)))); have n1_ := Aside0.mk (below_step (by repeat (first | (with_reducible first | exact HB.out | apply below_alloc | apply pw_below_drewN | apply below_drew1) | exact HB.out)) hb); clear HB; have HO169 := n0_; have HB := n1_; clear n0_ n1_; clear hb ho12))
        go_ret
        exact ⟨_, by first | rfl | (simp [errW_none, errW_some] <;> rfl) | (simp [*, errW_none, errW_some] <;> rfl), by (with_reducible repeat (first | apply Kd.N_alloc | apply Kd.N_drewN | apply Kd.N_drew)); exact HO169.out, by repeat (first | (with_reducible first | exact HB.out | apply below_alloc | apply pw_below_drewN | apply below_drew1) | exact HB.out)⟩
  · replace c3 := Bool.eq_false_iff.mpr c3
    subst c3
    have H1 : (some (([] : List (S29)))) = some r := by rw [if_neg (show ¬ (false = true) by decide)] at H; exact H
    clear H
    have H := H1
    clear H1
    obtain ⟨y170, hy170⟩ : ∃ y_ : List (S29), y_ = (([] : List (S29))) := ⟨_, rfl⟩
    replace H : (some y170) = some r := by first | (rw [hy170]; with_reducible exact H) | (have H2_ := (Option.bind_some _ _).symm.trans H; rw [hy170]; with_reducible exact H2_) | (have H2_ := (Option.bind_some _ _).symm.trans H; with_reducible exact H2_) | with_reducible exact H | (rw [hy170]; exact H) | exact H
    have Ny170 := Aside0.mk hy170
    clear hy170
    obtain rfl := Option.some.inj H
    go_enter Try.func17, Try.ntmps17
    go_wp2_with (first | ((with_reducible refine gate_callee (f := 52) rfl ?_); refine goesL_ (some 4) rfl rfl Try.func52 (by kernel_rfl) rfl #[.int .i64 a0, .int .i64 2, .int .i64 12] rfl (by (try simp only [List.map_toArray, List.map_cons, List.map_nil]); first | done | rfl | (simp only [List.length_drop, List.length_take]; rfl)) ?_; (with_reducible refine (spec_l01In.calls a0 2 12 false _ A2.out).mono ?_); rintro e w' ⟨rfl, ⟨nd, rfl⟩⟩; refine ⟨_, rfl, ?_⟩) | ((with_reducible refine gate_dst (N := 11) rfl ?_); refine Kd.N_lit k29 _ 29 ?hg (N' := 11) ?hd (xs := ([] : List (S29))) (inner := []) (ok := (fun k_ => (w.heap.size ≤ k_))) (okp := (fun k_ => (w.heap.size ≤ k_))) ?hr ?hp (fun _ hk => hk) ((show ∀ k_, w.heap.size ≤ k_ → (fun k_ => (w.heap.size ≤ k_)) k_ from fun k_ hk => (Nat.le_trans (below_size (by repeat (first | (with_reducible first | exact HB.out | apply below_alloc | apply pw_below_drewN | apply below_drew1) | exact HB.out))) hk)) _ (Nat.le_refl _)) (Below.refl _ _) (Nat.le_refl _) (by simp) ?_; (case hd => rfl); (case hg => rfl); (case hr => first | (go_simp; done) | (go_simp; rfl)); (case hp => exact (Reps.none _ _)); intro v171 w13 ho14 hb hg_ hnew_; clear hg_ hnew_; (first | rw [← Ny170.out] at ho14 | (simp only [Int.reduceToNat] at ho14; rw [← Ny170.out] at ho14)); have n0_ := Aside0.mk (Kd.N_lower ho14 (below_size (by repeat (first | (with_reducible first | exact HB.out | apply below_alloc | apply pw_below_drewN | apply below_drew1) | exact HB.out)))); have n1_ := Aside0.mk (below_step (by repeat (first | (with_reducible first | exact HB.out | apply below_alloc | apply pw_below_drewN | apply below_drew1) | exact HB.out)) hb); clear HB; have HO172 := n0_; have HB := n1_; clear n0_ n1_; clear hb ho14))
    go_ret
    exact ⟨_, by first | rfl | (simp [errW_none, errW_some] <;> rfl) | (simp [*, errW_none, errW_some] <;> rfl), by (with_reducible repeat (first | apply Kd.N_alloc | apply Kd.N_drewN | apply Kd.N_drew)); exact HO172.out, by repeat (first | (with_reducible first | exact HB.out | apply below_alloc | apply pw_below_drewN | apply below_drew1) | exact HB.out)⟩

/-! ### impl_within: function 51 -/
def impl_within.f (a0 : Int) (a1 : Int) (a2 : Int) : Option (Bool) := if a1 ≤ a0 then (some (decide (a0 ≤ a2))) else (some false)
set_option maxHeartbeats 8000000 in
set_option maxRecDepth 100000 in
theorem impl_within.calls (a0 : Int) (a1 : Int) (a2 : Int) (r : Bool) (w : World) (h : impl_within.f a0 a1 a2 = some r) :
    Calls Try.prog 51 #[.int .i64 a0, .int .i64 a1, .int .i64 a2] w fun e w' => e = .returned (.bool r) ∧ Drawn0 w w' := by
  have H : (if a1 ≤ a0 then (some (decide (a0 ≤ a2))) else (some false)) = some r := h
  clear h
  by_cases c4 : a1 ≤ a0
  · rw [if_pos c4] at H
    have c4b0 : decide (a1 ≤ a0) = true := decide_eq_true c4
    clear c4
    obtain rfl := Option.some.inj H
    go_enter Try.func51, Try.ntmps51
    go_wp2
    go_ret
    exact ⟨by first | rfl | (simp; done) | (simp [*]; done), by repeat (first | exact Drawn0.refl _ | apply Drawn0.step)⟩
  · rw [if_neg c4] at H
    have c4b0 : decide (a1 ≤ a0) = false := decide_eq_false c4
    clear c4
    obtain rfl := Option.some.inj H
    go_enter Try.func51, Try.ntmps51
    go_wp2
    go_ret
    exact ⟨by first | rfl | (simp; done) | (simp [*]; done), by repeat (first | exact Drawn0.refl _ | apply Drawn0.step)⟩

/-! ### impl_CircleOk: function 15 -/
def impl_CircleOk.l0 : Nat → Int → List Int → Int → Int → List Int → Option (Bool)
  | 0, _, _, _, _, _ => none
  | k + 1, x3, x7, x8, x9, x174000 => if x9 < x8 then (if 0 ≤ x9 then (if x9 < (x7.length : Int) then ((impl_within.f (rd x7 x9) 0 12).bind fun t175 => (if t175 = true then (impl_CircleOk.l0 k (wrap64 (x3 + (rd x7 x9))) x7 x8 (wrap64 (x9 + 1)) x174000) else (some false))) else (none)) else (none)) else (if (x174000.length : Int) = 12 then (some (x3 == 12)) else (some false))
def impl_CircleOk.f (k : Nat) (l0_0 : List Int) : Option (Bool) := impl_CircleOk.l0 k 0 l0_0 (l0_0.length : Int) 0 l0_0
theorem impl_CircleOk.mono_l : ∀ k, (∀ y0 y1 y2 y3 y4, LeO (impl_CircleOk.l0 k y0 y1 y2 y3 y4) (impl_CircleOk.l0 (k + 1) y0 y1 y2 y3 y4))
  | 0 => fun _ _ _ _ _ r h => by simp [impl_CircleOk.l0] at h
  | k + 1 => by
    have ih0 := impl_CircleOk.mono_l k
    · intro y0 y1 y2 y3 y4
      unfold impl_CircleOk.l0
      repeat' first
      | (with_reducible exact ih0 _ _ _ _ _)
      | (with_reducible exact LeO.refl _)
      | (with_reducible exact LeO.none _)
      | (with_reducible refine LeO.ite ?_ ?_)
      | (with_reducible refine LeO.bind ?_ (fun _ => ?_))
      | exact ih0 _ _ _ _ _
      | exact LeO.none _
      | refine LeO.ite ?_ ?_
      | refine LeO.bind ?_ (fun _ => ?_)
theorem impl_CircleOk.mono : ∀ a0 k, LeO (impl_CircleOk.f k a0) (impl_CircleOk.f (k + 1) a0) := by
  intro a0 k
  have ih0 := impl_CircleOk.mono_l k
  unfold impl_CircleOk.f
  repeat' first
      | (with_reducible exact ih0 _ _ _ _ _)
      | (with_reducible exact LeO.refl _)
      | (with_reducible exact LeO.none _)
      | (with_reducible refine LeO.ite ?_ ?_)
      | (with_reducible refine LeO.bind ?_ (fun _ => ?_))
      | exact ih0 _ _ _ _ _
      | exact LeO.none _
      | refine LeO.ite ?_ ?_
      | refine LeO.bind ?_ (fun _ => ?_)
set_option maxHeartbeats 8000000 in
set_option maxRecDepth 100000 in
theorem impl_CircleOk.calls (k : Nat) (A0_0 : Option Addr) (c0_0 : Nat) (l0_0 : List Int) (r : Bool) (w : World) (hr0_0 : Kd.C (Kd.int .i64) w A0_0 l0_0.length l0_0) (hc0_0 : l0_0.length ≤ c0_0) (h : impl_CircleOk.f k l0_0 = some r) :
    Calls Try.prog 15 #[.agg #[.slice A0_0 l0_0.length c0_0]] w fun e w' => e = .returned (.bool r) ∧ Below w.heap.size w w' := by
  have hu29 := Try.underlying29
  have HR0_0 := Aside0.mk hr0_0
  have HC0_0 := Aside0.mk hc0_0
  clear hr0_0 hc0_0
  have HB := Aside0.mk (Below.refl w.heap.size w)
  have H : (impl_CircleOk.l0 k 0 l0_0 (l0_0.length : Int) 0 l0_0) = some r := h
  clear h
  have H' := Aside0.mk H
  clear H
  go_enter Try.func15, Try.ntmps15
  go_wp2_with (first | ((with_reducible refine gate_dst (N := 1) rfl ?_); refine box_event ?hg (N := 1) ?hd (cs := #[.slice A0_0 l0_0.length c0_0]) (t := 29) ?hr ?_; (case hd => rfl); (case hg => rfl); (case hr => first | (go_simp; done) | (go_simp; rfl)); intro gb173 hg w2 hbox hb; have n0_ := Aside0.mk (below_step (by repeat (first | (with_reducible first | exact HB.out | apply below_alloc | apply pw_below_drewN | apply below_drew1) | exact HB.out)) hb); have n1_ := Aside0.mk (hbox); have n2_ := Aside0.mk ((by rw [hg]; exact (below_size (by repeat (first | (with_reducible first | exact HB.out | apply below_alloc | apply pw_below_drewN | apply below_drew1) | exact HB.out))) : w.heap.size ≤ gb173)); have n3_ := Aside0.mk ((by rw [hg]; exact (below_size (by repeat (first | (with_reducible first | exact HB.out | apply below_alloc | apply pw_below_drewN | apply below_drew1) | exact HB.out))) : w.heap.size ≤ gb173)); clear HB; have HB := n0_; have BK173 := n1_; have GW173 := n2_; have GE173 := n3_; clear n0_ n1_ n2_ n3_; clear hb hbox hg; have hcz3_0 : w2.cell? ⟨gb173, 0, none⟩ = some (.slice A0_0 l0_0.length c0_0) := (blk_cell BK173.out 0).trans rfl; have hfz3_0 := blk_frozen BK173.out 0))
  go_loopg [3, 9] k (fun kq v3 v9 w' => ∃ (x3_1 : Int) (x9_1 : Int), v3 = .int .i64 x3_1 ∧ v9 = .int .i64 x9_1 ∧ Aside0 (impl_CircleOk.l0 kq x3_1 l0_0 (l0_0.length : Int) x9_1 l0_0 = some r) ∧ Aside0 (kq ≤ k) ∧ Aside0 (w'.heap[gb173]? = some (.cells #[(.slice A0_0 l0_0.length c0_0)] 29 (0, 0))) ∧ Aside0 (Below w.heap.size w w'))
  case atStart => exact ⟨(0), (0), (by first | rfl | (simp; done) | (simp [*]; done)), (by first | rfl | (simp; done) | (simp [*]; done)), H', ⟨Nat.le_refl _⟩, ⟨by (with_reducible repeat (first | refine blk_drewN ?_ _ | refine blk_drew ?_ | refine blk_alloc ?_ _)); exact BK173.out⟩, ⟨by repeat (first | (with_reducible first | exact HB.out | apply below_alloc | apply pw_below_drewN | apply below_drew1 | refine below_set ?_ GE173.out) | exact HB.out)⟩⟩
  case round =>
    clear H'
    try clear c1
    try clear p2
    try clear hcz3_0
    try clear hfz3_0
    obtain ⟨x3_1, x9_1, rfl, rfl, HA, HK1, BK173, HB⟩ := hrel
    cases gk with
    | zero => exact absurd HA.out (by simp [impl_CircleOk.l0])
    | succ k1 =>
      have H := HA.out
      clear HA
      simp only [impl_CircleOk.l0] at H
      by_cases c4 : x9_1 < (l0_0.length : Int)
      · rw [if_pos c4] at H
        have c4b0 : decide (x9_1 < (l0_0.length : Int)) = true := decide_eq_true c4
        clear c4
        by_cases c5 : 0 ≤ x9_1
        · rw [if_pos c5] at H
          have c5b0 : decide (0 ≤ x9_1) = true := decide_eq_true c5
          clear c5
          by_cases c6 : x9_1 < (l0_0.length : Int)
          · rw [if_pos c6] at H
            have c6b0 : decide (x9_1 < (l0_0.length : Int)) = true := decide_eq_true c6
            clear c6
            replace H := Option.bind_eq_some_iff.mp H
            obtain ⟨t175, A70, H⟩ := H
            replace H : (if t175 = true then (impl_CircleOk.l0 k1 (wrap64 (x3_1 + (rd l0_0 x9_1))) l0_0 (l0_0.length : Int) (wrap64 (x9_1 + 1)) l0_0) else (some false)) = some r := H
            have A7 := Aside0.mk A70
            clear A70
            by_cases c8 : t175 = true
            · subst c8
              have H1 : (impl_CircleOk.l0 k1 (wrap64 (x3_1 + (rd l0_0 x9_1))) l0_0 (l0_0.length : Int) (wrap64 (x9_1 + 1)) l0_0) = some r := by rw [if_pos rfl] at H; exact H
              clear H
              have H := H1
              clear H1
              have H' := Aside0.mk H
              clear H
              have p174 : 0 ≤ (x9_1 : Int) := of_decide_eq_true (by first | (with_reducible assumption) | assumption)
              have q174 : x9_1 < (l0_0.length : Int) := of_decide_eq_true (by first | (with_reducible assumption) | assumption)
              obtain ⟨ad174, e174, hx174_0⟩ := Kd.at_int HR0_0.out x9_1 p174 q174
              cases e174
              replace hx174_0 := (HB.out.cell (World.block_lt_of_cell? w _ hx174_0)).trans hx174_0
              replace p174 := eq_true p174
              replace q174 := eq_true q174
              go_wp2_with (first | ((with_reducible refine gate_callee (f := 51) rfl ?_); refine goesL_ (some 14) rfl rfl Try.func51 (by kernel_rfl) rfl #[.int .i64 (rd l0_0 x9_1), .int .i64 0, .int .i64 12] rfl (by (try simp only [List.map_toArray, List.map_cons, List.map_nil]); first | done | rfl | (simp only [List.length_drop, List.length_take]; rfl)) ?_; (with_reducible refine (impl_within.calls (rd l0_0 x9_1) 0 12 true _ A7.out).mono ?_); rintro e w' ⟨rfl, ⟨nd, rfl⟩⟩; refine ⟨_, rfl, ?_⟩))
              go_roundg k1
              case measure => have := HK1.out; omega
              case rel => exact ⟨(wrap64 (x3_1 + (rd l0_0 x9_1))), (wrap64 (x9_1 + 1)), (by first | rfl | (simp; done) | (simp [*]; done)), (by first | rfl | (simp; done) | (simp [*]; done)), H', ⟨by have := HK1.out; omega⟩, ⟨by (with_reducible repeat (first | refine blk_drewN ?_ _ | refine blk_drew ?_ | refine blk_alloc ?_ _)); exact BK173.out⟩, ⟨by repeat (first | (with_reducible first | exact HB.out | apply below_alloc | apply pw_below_drewN | apply below_drew1 | refine below_set ?_ GE173.out) | exact HB.out)⟩⟩
            · replace c8 := Bool.eq_false_iff.mpr c8
              subst c8
              have H1 : (some false) = some r := by rw [if_neg (show ¬ (false = true) by decide)] at H; exact H
              clear H
              have H := H1
              clear H1
              obtain rfl := Option.some.inj H
              have p174 : 0 ≤ (x9_1 : Int) := of_decide_eq_true (by first | (with_reducible assumption) | assumption)
              have q174 : x9_1 < (l0_0.length : Int) := of_decide_eq_true (by first | (with_reducible assumption) | assumption)
              obtain ⟨ad174, e174, hx174_0⟩ := Kd.at_int HR0_0.out x9_1 p174 q174
              cases e174
              replace hx174_0 := (HB.out.cell (World.block_lt_of_cell? w _ hx174_0)).trans hx174_0
              replace p174 := eq_true p174
              replace q174 := eq_true q174
              go_wp2_with (first | ((with_reducible refine gate_callee (f := 51) rfl ?_); refine goesL_ (some 14) rfl rfl Try.func51 (by kernel_rfl) rfl #[.int .i64 (rd l0_0 x9_1), .int .i64 0, .int .i64 12] rfl (by (try simp only [List.map_toArray, List.map_cons, List.map_nil]); first | done | rfl | (simp only [List.length_drop, List.length_take]; rfl)) ?_; (with_reducible refine (impl_within.calls (rd l0_0 x9_1) 0 12 false _ A7.out).mono ?_); rintro e w' ⟨rfl, ⟨nd, rfl⟩⟩; refine ⟨_, rfl, ?_⟩))
              go_ret
              exact ⟨by first | rfl | (simp [errW_none, errW_some] <;> rfl) | (simp [*, errW_none, errW_some] <;> rfl), by repeat (first | (with_reducible first | exact HB.out | apply below_alloc | apply pw_below_drewN | apply below_drew1 | refine below_set ?_ GE173.out) | exact HB.out)⟩
          · rw [if_neg c6] at H
            exact absurd H (by simp)
        · rw [if_neg c5] at H
          exact absurd H (by simp)
      · rw [if_neg c4] at H
        have c4b0 : decide (x9_1 < (l0_0.length : Int)) = false := decide_eq_false c4
        clear c4
        by_cases c9 : (l0_0.length : Int) = 12
        · rw [if_pos c9] at H
          have c9b0 : ((l0_0.length : Int) == 12) = true := beq_iff_eq.mpr c9
          have c9b1 : ((l0_0.length : Int) != 12) = false := bne_eq_false_iff_eq.mpr c9
          clear c9
          obtain rfl := Option.some.inj H
          have hcz10_0 : wr.cell? ⟨gb173, 0, none⟩ = some (.slice A0_0 l0_0.length c0_0) := (blk_cell BK173.out 0).trans rfl
          have hfz10_0 := blk_frozen BK173.out 0
          go_wp2
          go_ret
          exact ⟨by first | rfl | (simp [errW_none, errW_some] <;> rfl) | (simp [*, errW_none, errW_some] <;> rfl), by repeat (first | (with_reducible first | exact HB.out | apply below_alloc | apply pw_below_drewN | apply below_drew1 | refine below_set ?_ GE173.out) | exact HB.out)⟩
        · rw [if_neg c9] at H
          have c9b0 : ((l0_0.length : Int) == 12) = false := beq_eq_false_iff_ne.mpr c9
          have c9b1 : ((l0_0.length : Int) != 12) = true := bne_iff_ne.mpr c9
          obtain rfl := Option.some.inj H
          have hcz11_0 : wr.cell? ⟨gb173, 0, none⟩ = some (.slice A0_0 l0_0.length c0_0) := (blk_cell BK173.out 0).trans rfl
          have hfz11_0 := blk_frozen BK173.out 0
          go_wp2
          go_ret
          exact ⟨by first | rfl | (simp [errW_none, errW_some] <;> rfl) | (simp [*, errW_none, errW_some] <;> rfl), by repeat (first | (with_reducible first | exact HB.out | apply below_alloc | apply pw_below_drewN | apply below_drew1 | refine below_set ?_ GE173.out) | exact HB.out)⟩

/-! ### impl_isKey: function 75 -/
def impl_isKey.f (k : Nat) (l0_0 : List Int) (a1 : Int) : Option (Bool) := (impl_CircleOk.f k l0_0).bind fun t177 => (if t177 = true then ((impl_within.f a1 0 11).bind fun t178 => (some t178)) else (some false))
theorem impl_isKey.mono : ∀ a0 a1 k, LeO (impl_isKey.f k a0 a1) (impl_isKey.f (k + 1) a0 a1) := by
  intro a0 a1 k
  unfold impl_isKey.f
  repeat' first
      | (with_reducible exact impl_CircleOk.mono _ _)
      | (with_reducible exact LeO.refl _)
      | (with_reducible exact LeO.none _)
      | (with_reducible refine LeO.ite ?_ ?_)
      | (with_reducible refine LeO.bind ?_ (fun _ => ?_))
      | exact impl_CircleOk.mono _ _
      | exact LeO.none _
      | refine LeO.ite ?_ ?_
      | refine LeO.bind ?_ (fun _ => ?_)
set_option maxHeartbeats 8000000 in
set_option maxRecDepth 100000 in
theorem impl_isKey.calls (k : Nat) (A0_0 : Option Addr) (c0_0 : Nat) (l0_0 : List Int) (a1 : Int) (r : Bool) (w : World) (hr0_0 : Kd.C (Kd.int .i64) w A0_0 l0_0.length l0_0) (hc0_0 : l0_0.length ≤ c0_0) (h : impl_isKey.f k l0_0 a1 = some r) :
    Calls Try.prog 75 #[.agg #[.slice A0_0 l0_0.length c0_0], .int .i64 a1] w fun e w' => e = .returned (.bool r) ∧ Below w.heap.size w w' := by
  have hu29 := Try.underlying29
  have HR0_0 := Aside0.mk hr0_0
  have HC0_0 := Aside0.mk hc0_0
  clear hr0_0 hc0_0
  have HB := Aside0.mk (Below.refl w.heap.size w)
  have H : ((impl_CircleOk.f k l0_0).bind fun t177 => (if t177 = true then ((impl_within.f a1 0 11).bind fun t178 => (some t178)) else (some false))) = some r := h
  clear h
  replace H := Option.bind_eq_some_iff.mp H
  obtain ⟨t177, A30, H⟩ := H
  replace H : (if t177 = true then ((impl_within.f a1 0 11).bind fun t178 => (some t178)) else (some false)) = some r := H
  have A3 := Aside0.mk A30
  clear A30
  by_cases c4 : t177 = true
  · subst c4
    have H1 : ((impl_within.f a1 0 11).bind fun t178 => (some t178)) = some r := by rw [if_pos rfl] at H; exact H
    clear H
    have H := H1
    clear H1
    replace H := Option.bind_eq_some_iff.mp H
    obtain ⟨t178, A50, H⟩ := H
    replace H : (some t178) = some r := H
    have A5 := Aside0.mk A50
    clear A50
    obtain rfl := Option.some.inj H
    go_enter Try.func75, Try.ntmps75
    go_wp2_with (first | ((with_reducible refine gate_dst (N := 2) rfl ?_); refine box_event ?hg (N := 2) ?hd (cs := #[.slice A0_0 l0_0.length c0_0]) (t := 29) ?hr ?_; (case hd => rfl); (case hg => rfl); (case hr => first | (go_simp; done) | (go_simp; rfl)); intro gb176 hg w6 hbox hb; have n0_ := Aside0.mk (below_step (by repeat (first | (with_reducible first | exact HB.out | apply below_alloc | apply pw_below_drewN | apply below_drew1) | exact HB.out)) hb); have n1_ := Aside0.mk (hbox); have n2_ := Aside0.mk ((by rw [hg]; exact (below_size (by repeat (first | (with_reducible first | exact HB.out | apply below_alloc | apply pw_below_drewN | apply below_drew1) | exact HB.out))) : w.heap.size ≤ gb176)); have n3_ := Aside0.mk ((by rw [hg]; exact (below_size (by repeat (first | (with_reducible first | exact HB.out | apply below_alloc | apply pw_below_drewN | apply below_drew1) | exact HB.out))) : w.heap.size ≤ gb176)); clear HB; have HB := n0_; have BK176 := n1_; have GW176 := n2_; have GE176 := n3_; clear n0_ n1_ n2_ n3_; clear hb hbox hg; have hcz7_0 : w6.cell? ⟨gb176, 0, none⟩ = some (.slice A0_0 l0_0.length c0_0) := (blk_cell BK176.out 0).trans rfl; have hfz7_0 := blk_frozen BK176.out 0) | ((with_reducible refine gate_callee (f := 15) rfl ?_); refine goesL_ (some 6) rfl rfl Try.func15 (by kernel_rfl) rfl #[.agg #[.slice A0_0 l0_0.length c0_0]] rfl (by (try simp only [List.map_toArray, List.map_cons, List.map_nil]); first | done | rfl | (simp only [List.length_drop, List.length_take]; rfl)) ?_; (with_reducible refine (impl_CircleOk.calls k _ _ l0_0 true _ ?side1 ?side2 A3.out).mono ?_); (case side1 => repeat (first | exact (Kd.C_below HR0_0.out HB.out) | (with_reducible refine Kd.C_alloc ?_ _) | (with_reducible refine Kd.C_drewN ?_ _) | (with_reducible refine Kd.C_drew ?_))); (case side2 => exact HC0_0.out); rintro e w8 ⟨rfl, hb⟩; refine ⟨_, rfl, ?_⟩; have n0_ := Aside0.mk (blk_below (g := gb176) (o := .cells #[.slice A0_0 l0_0.length c0_0] 29 (0, 0)) (by (with_reducible repeat (first | refine blk_drewN ?_ _ | refine blk_drew ?_ | refine blk_alloc ?_ _)); exact BK176.out) hb); have n1_ := Aside0.mk (below_step (by repeat (first | (with_reducible first | exact HB.out | apply below_alloc | apply pw_below_drewN | apply below_drew1 | refine below_set ?_ GE176.out) | exact HB.out)) hb); clear BK176; clear HB; have BK176 := n0_; have HB := n1_; clear n0_ n1_; (try clear hb); (try clear hb2); (try clear hk); (try clear hi)) | (go_at_call 51; (with_reducible refine (impl_within.calls a1 0 11 t178 _ A5.out).mono ?_); rintro e w' ⟨rfl, ⟨nd, rfl⟩⟩))
    go_ret
    exact ⟨by first | rfl | (simp [errW_none, errW_some] <;> rfl) | (simp [*, errW_none, errW_some] <;> rfl), by repeat (first | (with_reducible first | exact HB.out | apply below_alloc | apply pw_below_drewN | apply below_drew1 | refine below_set ?_ GE176.out) | exact HB.out)⟩
  · replace c4 := Bool.eq_false_iff.mpr c4
    subst c4
    have H1 : (some false) = some r := by rw [if_neg (show ¬ (false = true) by decide)] at H; exact H
    clear H
    have H := H1
    clear H1
    obtain rfl := Option.some.inj H
    go_enter Try.func75, Try.ntmps75
    go_wp2_with (first | ((with_reducible refine gate_dst (N := 2) rfl ?_); refine box_event ?hg (N := 2) ?hd (cs := #[.slice A0_0 l0_0.length c0_0]) (t := 29) ?hr ?_; (case hd => rfl); (case hg => rfl); (case hr => first | (go_simp; done) | (go_simp; rfl)); intro gb176 hg w9 hbox hb; have n0_ := Aside0.mk (below_step (by repeat (first | (with_reducible first | exact HB.out | apply below_alloc | apply pw_below_drewN | apply below_drew1) | exact HB.out)) hb); have n1_ := Aside0.mk (hbox); have n2_ := Aside0.mk ((by rw [hg]; exact (below_size (by repeat (first | (with_reducible first | exact HB.out | apply below_alloc | apply pw_below_drewN | apply below_drew1) | exact HB.out))) : w.heap.size ≤ gb176)); have n3_ := Aside0.mk ((by rw [hg]; exact (below_size (by repeat (first | (with_reducible first | exact HB.out | apply below_alloc | apply pw_below_drewN | apply below_drew1) | exact HB.out))) : w.heap.size ≤ gb176)); clear HB; have HB := n0_; have BK176 := n1_; have GW176 := n2_; have GE176 := n3_; clear n0_ n1_ n2_ n3_; clear hb hbox hg; have hcz10_0 : w9.cell? ⟨gb176, 0, none⟩ = some (.slice A0_0 l0_0.length c0_0) := (blk_cell BK176.out 0).trans rfl; have hfz10_0 := blk_frozen BK176.out 0) | ((with_reducible refine gate_callee (f := 15) rfl ?_); refine goesL_ (some 6) rfl rfl Try.func15 (by kernel_rfl) rfl #[.agg #[.slice A0_0 l0_0.length c0_0]] rfl (by (try simp only [List.map_toArray, List.map_cons, List.map_nil]); first | done | rfl | (simp only [List.length_drop, List.length_take]; rfl)) ?_; (with_reducible refine (impl_CircleOk.calls k _ _ l0_0 false _ ?side1 ?side2 A3.out).mono ?_); (case side1 => repeat (first | exact (Kd.C_below HR0_0.out HB.out) | (with_reducible refine Kd.C_alloc ?_ _) | (with_reducible refine Kd.C_drewN ?_ _) | (with_reducible refine Kd.C_drew ?_))); (case side2 => exact HC0_0.out); rintro e w11 ⟨rfl, hb⟩; refine ⟨_, rfl, ?_⟩; have n0_ := Aside0.mk (blk_below (g := gb176) (o := .cells #[.slice A0_0 l0_0.length c0_0] 29 (0, 0)) (by (with_reducible repeat (first | refine blk_drewN ?_ _ | refine blk_drew ?_ | refine blk_alloc ?_ _)); exact BK176.out) hb); have n1_ := Aside0.mk (below_step (by repeat (first | (with_reducible first | exact HB.out | apply below_alloc | apply pw_below_drewN | apply below_drew1 | refine below_set ?_ GE176.out) | exact HB.out)) hb); clear BK176; clear HB; have BK176 := n0_; have HB := n1_; clear n0_ n1_; (try clear hb); (try clear hb2); (try clear hk); (try clear hi)))
    go_ret
    exact ⟨by first | rfl | (simp [errW_none, errW_some] <;> rfl) | (simp [*, errW_none, errW_some] <;> rfl), by repeat (first | (with_reducible first | exact HB.out | apply below_alloc | apply pw_below_drewN | apply below_drew1 | refine below_set ?_ GE176.out) | exact HB.out)⟩

end Go.Proofs.Ytdcpbnddnbeofaa.PFnExactCirclesHeard
