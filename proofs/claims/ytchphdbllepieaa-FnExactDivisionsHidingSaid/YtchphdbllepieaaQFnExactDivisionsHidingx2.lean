/- Functions that the law FnExactDivisionsHiding reaches, each as a Lean function with the proof that the Go code comes to its answers. Conditions: none. Printed by the kit's print, repaired by a program of this session. -/
import Derived.Test.YtchphdbllepieaaQFnExactDivisionsHidingx0
import Derived.Test.YtchphdbllepieaaQFnExactDivisionsHidingx1
namespace Go.Proofs.Ytchphdbllepieaa.PFnExactDivisionsHiding
open Go.RowKit Go.Proofs.YtchphdbllepieaaW.PrintWords Go.Proofs.YtchphdbllepieaaW.PrintLast Go.Proofs.YtchphdbllepieaaW.PrintMore
attribute [local go_sem] max2_int min2_int max_two min_two max_three min_three max_four min_four   -- for this text's walks alone
set_option linter.unusedVariables false
set_option linter.unusedSimpArgs false

/-! ### spec_l04Sign: function 98 -/
def spec_l04Sign.j0 : Nat → Int → Int → Int → Option (Int)
  | 0, _, _, _ => none
  | k + 1, x0, x1, x2 => (spec_l04Times.f k (([1] : List Int)) 2 (mx x0 0)).bind fun t132 => ((spec_l04Times.f k t132 3 (mx x1 0)).bind fun t135 => ((spec_l04Times.f k t135 5 (mx x2 0)).bind fun t138 => ((spec_l04Times.f k (([1] : List Int)) 2 (mx (wrap64 (-x0)) 0)).bind fun t144 => ((spec_l04Times.f k t144 3 (mx (wrap64 (-x1)) 0)).bind fun t147 => ((spec_l04Times.f k t147 5 (mx (wrap64 (-x2)) 0)).bind fun t150 => ((spec_l04Compare.f k t138 t150).bind fun t153 => (some t153)))))))
def spec_l04Sign.f (k : Nat) (a0 : Int) (a1 : Int) (a2 : Int) : Option (Int) := (spec_l03Gcd.f k a0 a1).bind fun t127 => ((spec_l03Gcd.f k t127 a2).bind fun t128 => (if t128 > 1 then (if t128 = 0 then (none) else (spec_l04Sign.j0 k (wrap64 (Int.tdiv a0 t128)) (wrap64 (Int.tdiv a1 t128)) (wrap64 (Int.tdiv a2 t128)))) else (spec_l04Sign.j0 k a0 a1 a2)))
theorem spec_l04Sign.mono_l : ∀ k, (∀ y0 y1 y2, LeO (spec_l04Sign.j0 k y0 y1 y2) (spec_l04Sign.j0 (k + 1) y0 y1 y2))
  | 0 => fun _ _ _ r h => by simp [spec_l04Sign.j0] at h
  | k + 1 => by
    have ih0 := spec_l04Sign.mono_l k
    · intro y0 y1 y2
      unfold spec_l04Sign.j0
      repeat' first
      | (with_reducible exact ih0 _ _ _)
      | (with_reducible exact spec_l03Gcd.mono _ _ _)
      | (with_reducible exact spec_l04Compare.mono _ _ _)
      | (with_reducible exact spec_l04Times.mono _ _ _ _)
      | (with_reducible exact LeO.refl _)
      | (with_reducible exact LeO.none _)
      | (with_reducible refine LeO.ite ?_ ?_)
      | (with_reducible refine LeO.bind ?_ (fun _ => ?_))
      | exact ih0 _ _ _
      | exact spec_l03Gcd.mono _ _ _
      | exact spec_l04Compare.mono _ _ _
      | exact spec_l04Times.mono _ _ _ _
      | exact LeO.none _
      | refine LeO.ite ?_ ?_
      | refine LeO.bind ?_ (fun _ => ?_)
theorem spec_l04Sign.mono : ∀ a0 a1 a2 k, LeO (spec_l04Sign.f k a0 a1 a2) (spec_l04Sign.f (k + 1) a0 a1 a2) := by
  intro a0 a1 a2 k
  have ih0 := spec_l04Sign.mono_l k
  unfold spec_l04Sign.f
  repeat' first
      | (with_reducible exact ih0 _ _ _)
      | (with_reducible exact spec_l03Gcd.mono _ _ _)
      | (with_reducible exact spec_l04Compare.mono _ _ _)
      | (with_reducible exact spec_l04Times.mono _ _ _ _)
      | (with_reducible exact LeO.refl _)
      | (with_reducible exact LeO.none _)
      | (with_reducible refine LeO.ite ?_ ?_)
      | (with_reducible refine LeO.bind ?_ (fun _ => ?_))
      | exact ih0 _ _ _
      | exact spec_l03Gcd.mono _ _ _
      | exact spec_l04Compare.mono _ _ _
      | exact spec_l04Times.mono _ _ _ _
      | exact LeO.none _
      | refine LeO.ite ?_ ?_
      | refine LeO.bind ?_ (fun _ => ?_)
set_option maxHeartbeats 8000000 in
set_option maxRecDepth 100000 in
theorem spec_l04Sign.calls (k : Nat) (a0 : Int) (a1 : Int) (a2 : Int) (r : Int) (w : World) (h : spec_l04Sign.f k a0 a1 a2 = some r) :
    Calls Try.prog 98 #[.int .i64 a0, .int .i64 a1, .int .i64 a2] w fun e w' => e = .returned (.int .i64 r) ∧ Below w.heap.size w w' := by
  have HB := Aside0.mk (Below.refl w.heap.size w)
  have H : ((spec_l03Gcd.f k a0 a1).bind fun t127 => ((spec_l03Gcd.f k t127 a2).bind fun t128 => (if t128 > 1 then (if t128 = 0 then (none) else (spec_l04Sign.j0 k (wrap64 (Int.tdiv a0 t128)) (wrap64 (Int.tdiv a1 t128)) (wrap64 (Int.tdiv a2 t128)))) else (spec_l04Sign.j0 k a0 a1 a2)))) = some r := h
  clear h
  replace H := Option.bind_eq_some_iff.mp H
  obtain ⟨t127, A40, H⟩ := H
  replace H : ((spec_l03Gcd.f k t127 a2).bind fun t128 => (if t128 > 1 then (if t128 = 0 then (none) else (spec_l04Sign.j0 k (wrap64 (Int.tdiv a0 t128)) (wrap64 (Int.tdiv a1 t128)) (wrap64 (Int.tdiv a2 t128)))) else (spec_l04Sign.j0 k a0 a1 a2))) = some r := H
  have A4 := Aside0.mk A40
  clear A40
  replace H := Option.bind_eq_some_iff.mp H
  obtain ⟨t128, A50, H⟩ := H
  replace H : (if t128 > 1 then (if t128 = 0 then (none) else (spec_l04Sign.j0 k (wrap64 (Int.tdiv a0 t128)) (wrap64 (Int.tdiv a1 t128)) (wrap64 (Int.tdiv a2 t128)))) else (spec_l04Sign.j0 k a0 a1 a2)) = some r := H
  have A5 := Aside0.mk A50
  clear A50
  have HC6 := Aside0.mk H
  clear H
  go_enter Try.func98, Try.ntmps98
  go_upto_if 16 with (first | ((with_reducible refine gate_callee (f := 104) rfl ?_); refine goesL_ (some 12) rfl rfl Try.func104 (by kernel_rfl) rfl #[.int .i64 a0, .int .i64 a1] rfl (by (try simp only [List.map_toArray, List.map_cons, List.map_nil]); first | done | rfl | (simp only [List.length_drop, List.length_take]; rfl)) ?_; (with_reducible refine (spec_l03Gcd.calls k a0 a1 t127 _ A4.out).mono ?_); rintro e w7 ⟨rfl, hb⟩; refine ⟨_, rfl, ?_⟩; have n0_ := Aside0.mk (below_step (by repeat (first | (with_reducible first | exact HB.out | apply below_alloc | apply pw_below_drewN | apply below_drew1) | exact HB.out)) hb); clear HB; have HB := n0_; clear n0_; (try clear hb); (try clear hb2); (try clear hk); (try clear hi)) | ((with_reducible refine gate_callee (f := 104) rfl ?_); refine goesL_ (some 14) rfl rfl Try.func104 (by kernel_rfl) rfl #[.int .i64 t127, .int .i64 a2] rfl (by (try simp only [List.map_toArray, List.map_cons, List.map_nil]); first | done | rfl | (simp only [List.length_drop, List.length_take]; rfl)) ?_; (with_reducible refine (spec_l03Gcd.calls k t127 a2 t128 _ A5.out).mono ?_); rintro e w8 ⟨rfl, hb⟩; refine ⟨_, rfl, ?_⟩; have n0_ := Aside0.mk (below_step (by repeat (first | (with_reducible first | exact HB.out | apply below_alloc | apply pw_below_drewN | apply below_drew1) | exact HB.out)) hb); clear HB; have HB := n0_; clear n0_; (try clear hb); (try clear hb2); (try clear hk); (try clear hi)))
  (try simp only [Act.put, List.setIfInBounds_toArray, List.set_cons_zero, List.set_cons_succ])
  go_cut [0, 1, 2] (fun v0 v1 v2 wc => ∃ (kq : Nat) (x0_5 : Int) (x1_5 : Int) (x2_5 : Int), v0 = .int .i64 x0_5 ∧ v1 = .int .i64 x1_5 ∧ v2 = .int .i64 x2_5 ∧ Aside0 (spec_l04Sign.j0 kq x0_5 x1_5 x2_5 = some r) ∧ Aside0 (kq ≤ k) ∧ Aside0 (Below w.heap.size w wc))
  case first =>
    have H := HC6.out
    clear HC6
    by_cases c9 : t128 > 1
    · rw [if_pos c9] at H
      have c9b0 : decide (1 < t128) = true := decide_eq_true c9
      clear c9
      (first | rw [c9b0] | (simp only [i64_w, i32_w]; rw [c9b0]) | skip)
      by_cases c10 : t128 = 0
      · rw [if_pos c10] at H
        exact absurd H (by simp)
      · rw [if_neg c10] at H
        have c10b0 : (t128 == 0) = false := beq_eq_false_iff_ne.mpr c10
        have c10b1 : (t128 != 0) = true := bne_iff_ne.mpr c10
        have H' := Aside0.mk H
        clear H
        go_wp2
        go_meet
        case rel => exact ⟨_, (wrap64 (Int.tdiv a0 t128)), (wrap64 (Int.tdiv a1 t128)), (wrap64 (Int.tdiv a2 t128)), (by first | rfl | (simp; done) | (simp [*]; done)), (by first | rfl | (simp; done) | (simp [*]; done)), (by first | rfl | (simp; done) | (simp [*]; done)), H', ⟨by first | omega | exact Nat.le_refl _⟩, ⟨by repeat (first | (with_reducible first | exact HB.out | apply below_alloc | apply pw_below_drewN | apply below_drew1) | exact HB.out)⟩⟩
    · rw [if_neg c9] at H
      have c9b0 : decide (1 < t128) = false := decide_eq_false c9
      clear c9
      (first | rw [c9b0] | (simp only [i64_w, i32_w]; rw [c9b0]) | skip)
      have H' := Aside0.mk H
      clear H
      go_wp2
      go_meet
      case rel => exact ⟨_, (a0), (a1), (a2), (by first | rfl | (simp; done) | (simp [*]; done)), (by first | rfl | (simp; done) | (simp [*]; done)), (by first | rfl | (simp; done) | (simp [*]; done)), H', ⟨by first | omega | exact Nat.le_refl _⟩, ⟨by repeat (first | (with_reducible first | exact HB.out | apply below_alloc | apply pw_below_drewN | apply below_drew1) | exact HB.out)⟩⟩
  case rest =>
    clear HC6
    try clear c1
    try clear p2
    try clear p6
    try clear c9
    try clear c9b0
    try clear c10
    try clear c10b0
    try clear c10b1
    obtain ⟨kq, x0_5, x1_5, x2_5, rfl, rfl, rfl, HA, HJ5, HB⟩ := hcut
    cases kq with
    | zero => exact absurd HA.out (by simp [spec_l04Sign.j0])
    | succ kj5 =>
      have H := HA.out
      clear HA
      simp only [spec_l04Sign.j0] at H
      obtain ⟨y129, hy129⟩ : ∃ y_ : List Int, y_ = (([1] : List Int)) := ⟨_, rfl⟩
      replace H : ((spec_l04Times.f kj5 y129 2 (mx x0_5 0)).bind fun t132 => ((spec_l04Times.f kj5 t132 3 (mx x1_5 0)).bind fun t135 => ((spec_l04Times.f kj5 t135 5 (mx x2_5 0)).bind fun t138 => ((spec_l04Times.f kj5 (([1] : List Int)) 2 (mx (wrap64 (-x0_5)) 0)).bind fun t144 => ((spec_l04Times.f kj5 t144 3 (mx (wrap64 (-x1_5)) 0)).bind fun t147 => ((spec_l04Times.f kj5 t147 5 (mx (wrap64 (-x2_5)) 0)).bind fun t150 => ((spec_l04Compare.f kj5 t138 t150).bind fun t153 => (some t153)))))))) = some r := by first | (rw [hy129]; with_reducible exact H) | (have H2_ := (Option.bind_some _ _).symm.trans H; rw [hy129]; with_reducible exact H2_) | (have H2_ := (Option.bind_some _ _).symm.trans H; with_reducible exact H2_) | with_reducible exact H | (rw [hy129]; exact H) | exact H
      have Ny129 := Aside0.mk hy129
      clear hy129
      obtain ⟨ji11, hji11⟩ : ∃ j_ : Int, (mx x0_5 0) = j_ := ⟨_, rfl⟩
      replace H : ((spec_l04Times.f kj5 y129 2 (ji11)).bind fun t132 => ((spec_l04Times.f kj5 t132 3 (mx x1_5 0)).bind fun t135 => ((spec_l04Times.f kj5 t135 5 (mx x2_5 0)).bind fun t138 => ((spec_l04Times.f kj5 (([1] : List Int)) 2 (mx (wrap64 (-x0_5)) 0)).bind fun t144 => ((spec_l04Times.f kj5 t144 3 (mx (wrap64 (-x1_5)) 0)).bind fun t147 => ((spec_l04Times.f kj5 t147 5 (mx (wrap64 (-x2_5)) 0)).bind fun t150 => ((spec_l04Compare.f kj5 t138 t150).bind fun t153 => (some t153)))))))) = some r := by first | (rw [hji11] at H; exact H) | (simp only [hji11] at H ⊢; exact H)
      have hji11_ : (if x0_5 < 0 then 0 else x0_5) = ji11 := hji11
      replace H := Option.bind_eq_some_iff.mp H
      obtain ⟨t132, A120, H⟩ := H
      replace H : ((spec_l04Times.f kj5 t132 3 (mx x1_5 0)).bind fun t135 => ((spec_l04Times.f kj5 t135 5 (mx x2_5 0)).bind fun t138 => ((spec_l04Times.f kj5 (([1] : List Int)) 2 (mx (wrap64 (-x0_5)) 0)).bind fun t144 => ((spec_l04Times.f kj5 t144 3 (mx (wrap64 (-x1_5)) 0)).bind fun t147 => ((spec_l04Times.f kj5 t147 5 (mx (wrap64 (-x2_5)) 0)).bind fun t150 => ((spec_l04Compare.f kj5 t138 t150).bind fun t153 => (some t153))))))) = some r := H
      have A12 := Aside0.mk A120
      clear A120
      obtain ⟨ji13, hji13⟩ : ∃ j_ : Int, (mx x1_5 0) = j_ := ⟨_, rfl⟩
      replace H : ((spec_l04Times.f kj5 t132 3 (ji13)).bind fun t135 => ((spec_l04Times.f kj5 t135 5 (mx x2_5 0)).bind fun t138 => ((spec_l04Times.f kj5 (([1] : List Int)) 2 (mx (wrap64 (-x0_5)) 0)).bind fun t144 => ((spec_l04Times.f kj5 t144 3 (mx (wrap64 (-x1_5)) 0)).bind fun t147 => ((spec_l04Times.f kj5 t147 5 (mx (wrap64 (-x2_5)) 0)).bind fun t150 => ((spec_l04Compare.f kj5 t138 t150).bind fun t153 => (some t153))))))) = some r := by first | (rw [hji13] at H; exact H) | (simp only [hji13] at H ⊢; exact H)
      (try rw [hji13] at A12)
      have hji13_ : (if x1_5 < 0 then 0 else x1_5) = ji13 := hji13
      replace H := Option.bind_eq_some_iff.mp H
      obtain ⟨t135, A140, H⟩ := H
      replace H : ((spec_l04Times.f kj5 t135 5 (mx x2_5 0)).bind fun t138 => ((spec_l04Times.f kj5 (([1] : List Int)) 2 (mx (wrap64 (-x0_5)) 0)).bind fun t144 => ((spec_l04Times.f kj5 t144 3 (mx (wrap64 (-x1_5)) 0)).bind fun t147 => ((spec_l04Times.f kj5 t147 5 (mx (wrap64 (-x2_5)) 0)).bind fun t150 => ((spec_l04Compare.f kj5 t138 t150).bind fun t153 => (some t153)))))) = some r := H
      have A14 := Aside0.mk A140
      clear A140
      obtain ⟨ji15, hji15⟩ : ∃ j_ : Int, (mx x2_5 0) = j_ := ⟨_, rfl⟩
      replace H : ((spec_l04Times.f kj5 t135 5 (ji15)).bind fun t138 => ((spec_l04Times.f kj5 (([1] : List Int)) 2 (mx (wrap64 (-x0_5)) 0)).bind fun t144 => ((spec_l04Times.f kj5 t144 3 (mx (wrap64 (-x1_5)) 0)).bind fun t147 => ((spec_l04Times.f kj5 t147 5 (mx (wrap64 (-x2_5)) 0)).bind fun t150 => ((spec_l04Compare.f kj5 t138 t150).bind fun t153 => (some t153)))))) = some r := by first | (rw [hji15] at H; exact H) | (simp only [hji15] at H ⊢; exact H)
      (try rw [hji15] at A12)
      (try rw [hji15] at A14)
      have hji15_ : (if x2_5 < 0 then 0 else x2_5) = ji15 := hji15
      replace H := Option.bind_eq_some_iff.mp H
      obtain ⟨t138, A160, H⟩ := H
      replace H : ((spec_l04Times.f kj5 (([1] : List Int)) 2 (mx (wrap64 (-x0_5)) 0)).bind fun t144 => ((spec_l04Times.f kj5 t144 3 (mx (wrap64 (-x1_5)) 0)).bind fun t147 => ((spec_l04Times.f kj5 t147 5 (mx (wrap64 (-x2_5)) 0)).bind fun t150 => ((spec_l04Compare.f kj5 t138 t150).bind fun t153 => (some t153))))) = some r := H
      have A16 := Aside0.mk A160
      clear A160
      obtain ⟨y141, hy141⟩ : ∃ y_ : List Int, y_ = (([1] : List Int)) := ⟨_, rfl⟩
      replace H : ((spec_l04Times.f kj5 y141 2 (mx (wrap64 (-x0_5)) 0)).bind fun t144 => ((spec_l04Times.f kj5 t144 3 (mx (wrap64 (-x1_5)) 0)).bind fun t147 => ((spec_l04Times.f kj5 t147 5 (mx (wrap64 (-x2_5)) 0)).bind fun t150 => ((spec_l04Compare.f kj5 t138 t150).bind fun t153 => (some t153))))) = some r := by first | (rw [hy141]; with_reducible exact H) | (have H2_ := (Option.bind_some _ _).symm.trans H; rw [hy141]; with_reducible exact H2_) | (have H2_ := (Option.bind_some _ _).symm.trans H; with_reducible exact H2_) | with_reducible exact H | (rw [hy141]; exact H) | exact H
      have Ny141 := Aside0.mk hy141
      clear hy141
      obtain ⟨ji17, hji17⟩ : ∃ j_ : Int, (mx (wrap64 (-x0_5)) 0) = j_ := ⟨_, rfl⟩
      replace H : ((spec_l04Times.f kj5 y141 2 (ji17)).bind fun t144 => ((spec_l04Times.f kj5 t144 3 (mx (wrap64 (-x1_5)) 0)).bind fun t147 => ((spec_l04Times.f kj5 t147 5 (mx (wrap64 (-x2_5)) 0)).bind fun t150 => ((spec_l04Compare.f kj5 t138 t150).bind fun t153 => (some t153))))) = some r := by first | (rw [hji17] at H; exact H) | (simp only [hji17] at H ⊢; exact H)
      (try rw [hji17] at A12)
      (try rw [hji17] at A14)
      (try rw [hji17] at A16)
      have hji17_ : (if (wrap64 (-x0_5)) < 0 then 0 else (wrap64 (-x0_5))) = ji17 := hji17
      replace H := Option.bind_eq_some_iff.mp H
      obtain ⟨t144, A180, H⟩ := H
      replace H : ((spec_l04Times.f kj5 t144 3 (mx (wrap64 (-x1_5)) 0)).bind fun t147 => ((spec_l04Times.f kj5 t147 5 (mx (wrap64 (-x2_5)) 0)).bind fun t150 => ((spec_l04Compare.f kj5 t138 t150).bind fun t153 => (some t153)))) = some r := H
      have A18 := Aside0.mk A180
      clear A180
      obtain ⟨ji19, hji19⟩ : ∃ j_ : Int, (mx (wrap64 (-x1_5)) 0) = j_ := ⟨_, rfl⟩
      replace H : ((spec_l04Times.f kj5 t144 3 (ji19)).bind fun t147 => ((spec_l04Times.f kj5 t147 5 (mx (wrap64 (-x2_5)) 0)).bind fun t150 => ((spec_l04Compare.f kj5 t138 t150).bind fun t153 => (some t153)))) = some r := by first | (rw [hji19] at H; exact H) | (simp only [hji19] at H ⊢; exact H)
      (try rw [hji19] at A12)
      (try rw [hji19] at A14)
      (try rw [hji19] at A16)
      (try rw [hji19] at A18)
      have hji19_ : (if (wrap64 (-x1_5)) < 0 then 0 else (wrap64 (-x1_5))) = ji19 := hji19
      replace H := Option.bind_eq_some_iff.mp H
      obtain ⟨t147, A200, H⟩ := H
      replace H : ((spec_l04Times.f kj5 t147 5 (mx (wrap64 (-x2_5)) 0)).bind fun t150 => ((spec_l04Compare.f kj5 t138 t150).bind fun t153 => (some t153))) = some r := H
      have A20 := Aside0.mk A200
      clear A200
      obtain ⟨ji21, hji21⟩ : ∃ j_ : Int, (mx (wrap64 (-x2_5)) 0) = j_ := ⟨_, rfl⟩
      replace H : ((spec_l04Times.f kj5 t147 5 (ji21)).bind fun t150 => ((spec_l04Compare.f kj5 t138 t150).bind fun t153 => (some t153))) = some r := by first | (rw [hji21] at H; exact H) | (simp only [hji21] at H ⊢; exact H)
      (try rw [hji21] at A12)
      (try rw [hji21] at A14)
      (try rw [hji21] at A16)
      (try rw [hji21] at A18)
      (try rw [hji21] at A20)
      have hji21_ : (if (wrap64 (-x2_5)) < 0 then 0 else (wrap64 (-x2_5))) = ji21 := hji21
      replace H := Option.bind_eq_some_iff.mp H
      obtain ⟨t150, A220, H⟩ := H
      replace H : ((spec_l04Compare.f kj5 t138 t150).bind fun t153 => (some t153)) = some r := H
      have A22 := Aside0.mk A220
      clear A220
      replace H := Option.bind_eq_some_iff.mp H
      obtain ⟨t153, A230, H⟩ := H
      replace H : (some t153) = some r := H
      have A23 := Aside0.mk A230
      clear A230
      obtain rfl := Option.some.inj H
      go_wp2_with (first | ((with_reducible refine gate_dst (N := 26) rfl ?_); refine Kd.R_lit (Kd.int .i64) _ 3 ?hg (N := 26) ?hd (xs := ([1] : List Int)) (inner := [.int .i64 1]) (ok := fun _ => True) (okp := fun _ => True) ?hr ?hp (fun _ hk => hk) trivial (Below.refl _ _) (Nat.le_refl _) (by simp) ?_; (case hd => rfl); (case hg => rfl); (case hr => first | (go_simp; done) | (go_simp; rfl)); (case hp => exact (Reps.one (show Kd.M (Kd.int .i64) _ _ _ 1 [.int .i64 1] from rfl) (Reps.none _ _))); intro v130 w24 ho25 hb hg_ hnew_; clear hg_ hnew_; (first | rw [← Ny129.out] at ho25 | (simp only [Int.reduceToNat] at ho25; rw [← Ny129.out] at ho25)); have n0_ := Aside0.mk (Kd.R_lower ho25 (below_size (by repeat (first | (with_reducible first | exact HB.out | apply below_alloc | apply pw_below_drewN | apply below_drew1) | exact HB.out)))); have n1_ := Aside0.mk (below_step (by repeat (first | (with_reducible first | exact HB.out | apply below_alloc | apply pw_below_drewN | apply below_drew1) | exact HB.out)) hb); clear HB; have HO131 := n0_; have HB := n1_; clear n0_ n1_; clear hb ho25; obtain ⟨Ao26, co26, eo26⟩ := Kd.R_slice HO131.out; subst eo26) | ((with_reducible refine gate_callee (f := 124) rfl ?_); refine goesL_ (some 29) rfl rfl Try.func124 (by kernel_rfl) rfl #[.slice Ao26 y129.length co26, .int .i64 2, .int .i64 ji11] rfl (by (try simp only [List.map_toArray, List.map_cons, List.map_nil]); first | done | (simp only [hji11]; rfl) | rfl | (simp only [List.length_drop, List.length_take]; rfl)) ?_; (with_reducible refine (spec_l04Times.calls kj5 (fun k_ => some k_ = (.slice Ao26 y129.length co26 : Value).ownBlock) (.slice Ao26 y129.length co26) y129 2 ji11 t132 w _ ?side1 ?side2 A12.out).mono ?_); (case side1 => repeat (first | (with_reducible first | exact HB.out | apply below_alloc | apply pw_below_drewN | apply below_drew1) | exact HB.out)); (case side2 => exact Kd.R_tight rfl HO131.out); rintro e w27 ⟨v133, rfl, ho0, hb, hkp⟩; refine ⟨_, rfl, ?_⟩; have n0_ := Aside0.mk (Kd.R_mono (ok' := fun k_ => True) ho0 (fun k_ hk_ => trivial)); have n1_ := Aside0.mk (hb); clear HB; clear HO131; have HO134 := n0_; have HB := n1_; clear n0_ n1_; (try clear hb); (try clear hkp); (try clear ho0); obtain ⟨Ao28, co28, eo28⟩ := Kd.R_slice HO134.out; subst eo28) | ((with_reducible refine gate_callee (f := 124) rfl ?_); refine goesL_ (some 32) rfl rfl Try.func124 (by kernel_rfl) rfl #[.slice Ao28 t132.length co28, .int .i64 3, .int .i64 ji13] rfl (by (try simp only [List.map_toArray, List.map_cons, List.map_nil]); first | done | (simp only [hji13]; rfl) | rfl | (simp only [List.length_drop, List.length_take]; rfl)) ?_; (with_reducible refine (spec_l04Times.calls kj5 (fun k_ => some k_ = (.slice Ao28 t132.length co28 : Value).ownBlock) (.slice Ao28 t132.length co28) t132 3 ji13 t135 w _ ?side1 ?side2 A14.out).mono ?_); (case side1 => repeat (first | (with_reducible first | exact HB.out | apply below_alloc | apply pw_below_drewN | apply below_drew1) | exact HB.out)); (case side2 => exact Kd.R_tight rfl HO134.out); rintro e w29 ⟨v136, rfl, ho0, hb, hkp⟩; refine ⟨_, rfl, ?_⟩; have n0_ := Aside0.mk (Kd.R_mono (ok' := fun k_ => True) ho0 (fun k_ hk_ => trivial)); have n1_ := Aside0.mk (hb); clear HB; clear HO134; have HO137 := n0_; have HB := n1_; clear n0_ n1_; (try clear hb); (try clear hkp); (try clear ho0); obtain ⟨Ao30, co30, eo30⟩ := Kd.R_slice HO137.out; subst eo30) | ((with_reducible refine gate_callee (f := 124) rfl ?_); refine goesL_ (some 35) rfl rfl Try.func124 (by kernel_rfl) rfl #[.slice Ao30 t135.length co30, .int .i64 5, .int .i64 ji15] rfl (by (try simp only [List.map_toArray, List.map_cons, List.map_nil]); first | done | (simp only [hji15]; rfl) | rfl | (simp only [List.length_drop, List.length_take]; rfl)) ?_; (with_reducible refine (spec_l04Times.calls kj5 (fun k_ => some k_ = (.slice Ao30 t135.length co30 : Value).ownBlock) (.slice Ao30 t135.length co30) t135 5 ji15 t138 w _ ?side1 ?side2 A16.out).mono ?_); (case side1 => repeat (first | (with_reducible first | exact HB.out | apply below_alloc | apply pw_below_drewN | apply below_drew1) | exact HB.out)); (case side2 => exact Kd.R_tight rfl HO137.out); rintro e w31 ⟨v139, rfl, ho0, hb, hkp⟩; refine ⟨_, rfl, ?_⟩; have n0_ := Aside0.mk (Kd.R_mono (ok' := fun k_ => True) ho0 (fun k_ hk_ => trivial)); have n1_ := Aside0.mk (hb); clear HB; clear HO137; have HO140 := n0_; have HB := n1_; clear n0_ n1_; (try clear hb); (try clear hkp); (try clear ho0)) | ((with_reducible refine gate_dst (N := 36) rfl ?_); refine Kd.R_lit (Kd.int .i64) _ 3 ?hg (N := 36) ?hd (xs := ([1] : List Int)) (inner := [.int .i64 1]) (ok := fun _ => True) (okp := fun _ => True) ?hr ?hp (fun _ hk => hk) trivial (Below.refl _ _) (Nat.le_refl _) (by simp) ?_; (case hd => rfl); (case hg => rfl); (case hr => first | (go_simp; done) | (go_simp; rfl)); (case hp => exact (Reps.one (show Kd.M (Kd.int .i64) _ _ _ 1 [.int .i64 1] from rfl) (Reps.none _ _))); intro v142 w32 ho33 hb hg_ hnew_; clear hg_ hnew_; (first | rw [← Ny141.out] at ho33 | (simp only [Int.reduceToNat] at ho33; rw [← Ny141.out] at ho33)); have n0_ := Aside0.mk (Kd.R_elder' (by (with_reducible repeat (first | apply Kd.R_alloc | apply Kd.R_drewN | apply Kd.R_drew)); exact HO140.out) (Kd.R_base ho33) hb); have n1_ := Aside0.mk (Kd.R_lower (Kd.R_new' ho33 (Kd.R_lt (by (with_reducible repeat (first | apply Kd.R_alloc | apply Kd.R_drewN | apply Kd.R_drew)); exact HO140.out))) (below_size (by repeat (first | (with_reducible first | exact HB.out | apply below_alloc | apply pw_below_drewN | apply below_drew1) | exact HB.out)))); have n2_ := Aside0.mk (below_step (by repeat (first | (with_reducible first | exact HB.out | apply below_alloc | apply pw_below_drewN | apply below_drew1) | exact HB.out)) hb); clear HO140; clear HB; have HO140 := n0_; have HO143 := n1_; have HB := n2_; clear n0_ n1_ n2_; clear hb ho33; obtain ⟨Ao34, co34, eo34⟩ := Kd.R_slice HO143.out; subst eo34) | ((with_reducible refine gate_callee (f := 124) rfl ?_); refine goesL_ (some 40) rfl rfl Try.func124 (by kernel_rfl) rfl #[.slice Ao34 y141.length co34, .int .i64 2, .int .i64 ji17] rfl (by (try simp only [List.map_toArray, List.map_cons, List.map_nil]); first | done | (simp only [hji17]; rfl) | rfl | (simp only [List.length_drop, List.length_take]; rfl)) ?_; (with_reducible refine (spec_l04Times.calls kj5 (fun k_ => some k_ = (.slice Ao34 y141.length co34 : Value).ownBlock) (.slice Ao34 y141.length co34) y141 2 ji17 t144 w _ ?side1 ?side2 A18.out).mono ?_); (case side1 => repeat (first | (with_reducible first | exact HB.out | apply below_alloc | apply pw_below_drewN | apply below_drew1) | exact HB.out)); (case side2 => exact Kd.R_tight rfl HO143.out); rintro e w35 ⟨v145, rfl, ho0, hb, hkp⟩; refine ⟨_, rfl, ?_⟩; have n0_ := Aside0.mk (Kd.R_mono (ok' := fun k_ => some k_ ≠ (v145 : Value).ownBlock) (Kd.R_keptB (HO140.out) hkp (fun k_ hk_ hs_ => (hk_.2) hs_)) (fun k_ hk_ => fun e_ => Or.elim (ho0.1 k_ e_.symm) (fun hs_ => hk_.2.1 hs_) (fun hn_ => Nat.not_le.2 hk_.2.2 hn_))); have n1_ := Aside0.mk (Kd.R_mono (ok' := fun k_ => some k_ ≠ (v139 : Value).ownBlock) ho0 (fun k_ hk_ => Or.elim hk_ (fun hs_ => fun e_ => (((HO140.out).1 k_ e_.symm).2) hs_) (fun hn_ => (Kd.fresh' (Kd.R_lt (by (with_reducible repeat (first | apply Kd.R_alloc | apply Kd.R_drewN | apply Kd.R_drew)); exact HO140.out)) k_ hn_)))); have n2_ := Aside0.mk (hb); clear HO140; clear HB; clear HO143; have HO140 := n0_; have HO146 := n1_; have HB := n2_; clear n0_ n1_ n2_; (try clear hb); (try clear hkp); (try clear ho0); obtain ⟨Ao36, co36, eo36⟩ := Kd.R_slice HO146.out; subst eo36) | ((with_reducible refine gate_callee (f := 124) rfl ?_); refine goesL_ (some 44) rfl rfl Try.func124 (by kernel_rfl) rfl #[.slice Ao36 t144.length co36, .int .i64 3, .int .i64 ji19] rfl (by (try simp only [List.map_toArray, List.map_cons, List.map_nil]); first | done | (simp only [hji19]; rfl) | rfl | (simp only [List.length_drop, List.length_take]; rfl)) ?_; (with_reducible refine (spec_l04Times.calls kj5 (fun k_ => some k_ = (.slice Ao36 t144.length co36 : Value).ownBlock) (.slice Ao36 t144.length co36) t144 3 ji19 t147 w _ ?side1 ?side2 A20.out).mono ?_); (case side1 => repeat (first | (with_reducible first | exact HB.out | apply below_alloc | apply pw_below_drewN | apply below_drew1) | exact HB.out)); (case side2 => exact Kd.R_tight rfl HO146.out); rintro e w37 ⟨v148, rfl, ho0, hb, hkp⟩; refine ⟨_, rfl, ?_⟩; have n0_ := Aside0.mk (Kd.R_mono (ok' := fun k_ => some k_ ≠ (v148 : Value).ownBlock) (Kd.R_keptB (HO140.out) hkp (fun k_ hk_ hs_ => (hk_) hs_)) (fun k_ hk_ => fun e_ => Or.elim (ho0.1 k_ e_.symm) (fun hs_ => hk_.2.1 hs_) (fun hn_ => Nat.not_le.2 hk_.2.2 hn_))); have n1_ := Aside0.mk (Kd.R_mono (ok' := fun k_ => some k_ ≠ (v139 : Value).ownBlock) ho0 (fun k_ hk_ => Or.elim hk_ (fun hs_ => fun e_ => (((HO140.out).1 k_ e_.symm)) hs_) (fun hn_ => (Kd.fresh' (Kd.R_lt (by (with_reducible repeat (first | apply Kd.R_alloc | apply Kd.R_drewN | apply Kd.R_drew)); exact HO140.out)) k_ hn_)))); have n2_ := Aside0.mk (hb); clear HO140; clear HB; clear HO146; have HO140 := n0_; have HO149 := n1_; have HB := n2_; clear n0_ n1_ n2_; (try clear hb); (try clear hkp); (try clear ho0); obtain ⟨Ao38, co38, eo38⟩ := Kd.R_slice HO149.out; subst eo38) | ((with_reducible refine gate_callee (f := 124) rfl ?_); refine goesL_ (some 48) rfl rfl Try.func124 (by kernel_rfl) rfl #[.slice Ao38 t147.length co38, .int .i64 5, .int .i64 ji21] rfl (by (try simp only [List.map_toArray, List.map_cons, List.map_nil]); first | done | (simp only [hji21]; rfl) | rfl | (simp only [List.length_drop, List.length_take]; rfl)) ?_; (with_reducible refine (spec_l04Times.calls kj5 (fun k_ => some k_ = (.slice Ao38 t147.length co38 : Value).ownBlock) (.slice Ao38 t147.length co38) t147 5 ji21 t150 w _ ?side1 ?side2 A22.out).mono ?_); (case side1 => repeat (first | (with_reducible first | exact HB.out | apply below_alloc | apply pw_below_drewN | apply below_drew1) | exact HB.out)); (case side2 => exact Kd.R_tight rfl HO149.out); rintro e w39 ⟨v151, rfl, ho0, hb, hkp⟩; refine ⟨_, rfl, ?_⟩; have n0_ := Aside0.mk (Kd.R_mono (ok' := fun k_ => some k_ ≠ (v151 : Value).ownBlock) (Kd.R_keptB (HO140.out) hkp (fun k_ hk_ hs_ => (hk_) hs_)) (fun k_ hk_ => fun e_ => Or.elim (ho0.1 k_ e_.symm) (fun hs_ => hk_.2.1 hs_) (fun hn_ => Nat.not_le.2 hk_.2.2 hn_))); have n1_ := Aside0.mk (Kd.R_mono (ok' := fun k_ => some k_ ≠ (v139 : Value).ownBlock) ho0 (fun k_ hk_ => Or.elim hk_ (fun hs_ => fun e_ => (((HO140.out).1 k_ e_.symm)) hs_) (fun hn_ => (Kd.fresh' (Kd.R_lt (by (with_reducible repeat (first | apply Kd.R_alloc | apply Kd.R_drewN | apply Kd.R_drew)); exact HO140.out)) k_ hn_)))); have n2_ := Aside0.mk (hb); clear HO140; clear HB; clear HO149; have HO140 := n0_; have HO152 := n1_; have HB := n2_; clear n0_ n1_ n2_; (try clear hb); (try clear hkp); (try clear ho0); obtain ⟨Ao40, co40, eo40⟩ := Kd.R_slice HO140.out; subst eo40; obtain ⟨Ao41, co41, eo41⟩ := Kd.R_slice HO152.out; subst eo41) | ((with_reducible refine gate_callee (f := 125) rfl ?_); refine goesL_ (some 51) rfl rfl Try.func125 (by kernel_rfl) rfl #[.slice Ao40 t138.length co40, .slice Ao41 t150.length co41] rfl (by (try simp only [List.map_toArray, List.map_cons, List.map_nil]); first | done | rfl | (simp only [List.length_drop, List.length_take]; rfl)) ?_; (with_reducible refine (spec_l04Compare.calls kj5 _ _ t138 _ _ t150 t153 _ ?side1 ?side2 ?side3 ?side4 A23.out).mono ?_); (case side1 => repeat (first | exact (Kd.R_reads' HO140.out).2.2 | (with_reducible refine Kd.C_alloc ?_ _) | (with_reducible refine Kd.C_drewN ?_ _) | (with_reducible refine Kd.C_drew ?_))); (case side2 => exact (Kd.R_reads' HO140.out).2.1); (case side3 => repeat (first | exact (Kd.R_reads' HO152.out).2.2 | (with_reducible refine Kd.C_alloc ?_ _) | (with_reducible refine Kd.C_drewN ?_ _) | (with_reducible refine Kd.C_drew ?_))); (case side4 => exact (Kd.R_reads' HO152.out).2.1); rintro e w' ⟨rfl, ⟨nd, rfl⟩⟩; refine ⟨_, rfl, ?_⟩))
      go_ret
      exact ⟨by first | rfl | (simp [errW_none, errW_some] <;> rfl) | (simp only [← hji11, ← hji13, ← hji15, ← hji17, ← hji19, ← hji21]; first | rfl | (simp [errW_none, errW_some] <;> rfl)) | (simp [*, errW_none, errW_some] <;> rfl), by repeat (first | (with_reducible first | exact HB.out | apply below_alloc | apply pw_below_drewN | apply below_drew1) | exact HB.out)⟩

/-! ### spec_l09Nearest: function 119 -/
mutual
def spec_l09Nearest.l0 : Nat → Int → Int → Int → Int → Option (Int)
  | 0, _, _, _, _ => none
  | k + 1, x0, x1, x2, x7 => (spec_l04Sign.f k (wrap64 (-(wrap64 ((wrap64 (2 * x7)) + 1)))) (wrap64 ((wrap64 (2 * x0)) * x1)) (wrap64 ((wrap64 (2 * x0)) * x2))).bind fun t154 => (if t154 > 0 then (spec_l09Nearest.l0 k x0 x1 x2 (wrap64 (x7 + 1))) else (spec_l09Nearest.l1 k x0 x1 x2 x7))
def spec_l09Nearest.l1 : Nat → Int → Int → Int → Int → Option (Int)
  | 0, _, _, _, _ => none
  | k + 1, x0, x1, x2, x7 => (spec_l04Sign.f k (wrap64 (-(wrap64 ((wrap64 (2 * x7)) - 1)))) (wrap64 ((wrap64 (2 * x0)) * x1)) (wrap64 ((wrap64 (2 * x0)) * x2))).bind fun t155 => (if t155 < 0 then (spec_l09Nearest.l1 k x0 x1 x2 (wrap64 (x7 - 1))) else (some x7))
end
def spec_l09Nearest.f (k : Nat) (a0 : Int) (a1 : Int) (a2 : Int) : Option (Int) := spec_l09Nearest.l0 k a0 a1 a2 0
theorem spec_l09Nearest.mono_l : ∀ k, (∀ y0 y1 y2 y3, LeO (spec_l09Nearest.l0 k y0 y1 y2 y3) (spec_l09Nearest.l0 (k + 1) y0 y1 y2 y3)) ∧ (∀ y0 y1 y2 y3, LeO (spec_l09Nearest.l1 k y0 y1 y2 y3) (spec_l09Nearest.l1 (k + 1) y0 y1 y2 y3))
  | 0 => ⟨fun _ _ _ _ r h => by simp [spec_l09Nearest.l0] at h, fun _ _ _ _ r h => by simp [spec_l09Nearest.l1] at h⟩
  | k + 1 => by
    obtain ⟨ih0, ih1⟩ := spec_l09Nearest.mono_l k
    refine ⟨?_, ?_⟩
    · intro y0 y1 y2 y3
      unfold spec_l09Nearest.l0
      repeat' first
      | (with_reducible exact ih0 _ _ _ _)
      | (with_reducible exact ih1 _ _ _ _)
      | (with_reducible exact spec_l04Sign.mono _ _ _ _)
      | (with_reducible exact LeO.refl _)
      | (with_reducible exact LeO.none _)
      | (with_reducible refine LeO.ite ?_ ?_)
      | (with_reducible refine LeO.bind ?_ (fun _ => ?_))
      | exact ih0 _ _ _ _
      | exact ih1 _ _ _ _
      | exact spec_l04Sign.mono _ _ _ _
      | exact LeO.none _
      | refine LeO.ite ?_ ?_
      | refine LeO.bind ?_ (fun _ => ?_)
    · intro y0 y1 y2 y3
      unfold spec_l09Nearest.l1
      repeat' first
      | (with_reducible exact ih0 _ _ _ _)
      | (with_reducible exact ih1 _ _ _ _)
      | (with_reducible exact spec_l04Sign.mono _ _ _ _)
      | (with_reducible exact LeO.refl _)
      | (with_reducible exact LeO.none _)
      | (with_reducible refine LeO.ite ?_ ?_)
      | (with_reducible refine LeO.bind ?_ (fun _ => ?_))
      | exact ih0 _ _ _ _
      | exact ih1 _ _ _ _
      | exact spec_l04Sign.mono _ _ _ _
      | exact LeO.none _
      | refine LeO.ite ?_ ?_
      | refine LeO.bind ?_ (fun _ => ?_)
theorem spec_l09Nearest.mono : ∀ a0 a1 a2 k, LeO (spec_l09Nearest.f k a0 a1 a2) (spec_l09Nearest.f (k + 1) a0 a1 a2) := by
  intro a0 a1 a2 k
  obtain ⟨ih0, ih1⟩ := spec_l09Nearest.mono_l k
  unfold spec_l09Nearest.f
  repeat' first
      | (with_reducible exact ih0 _ _ _ _)
      | (with_reducible exact ih1 _ _ _ _)
      | (with_reducible exact spec_l04Sign.mono _ _ _ _)
      | (with_reducible exact LeO.refl _)
      | (with_reducible exact LeO.none _)
      | (with_reducible refine LeO.ite ?_ ?_)
      | (with_reducible refine LeO.bind ?_ (fun _ => ?_))
      | exact ih0 _ _ _ _
      | exact ih1 _ _ _ _
      | exact spec_l04Sign.mono _ _ _ _
      | exact LeO.none _
      | refine LeO.ite ?_ ?_
      | refine LeO.bind ?_ (fun _ => ?_)
set_option maxHeartbeats 8000000 in
set_option maxRecDepth 100000 in
theorem spec_l09Nearest.calls (k : Nat) (a0 : Int) (a1 : Int) (a2 : Int) (r : Int) (w : World) (h : spec_l09Nearest.f k a0 a1 a2 = some r) :
    Calls Try.prog 119 #[.int .i64 a0, .int .i64 a1, .int .i64 a2] w fun e w' => e = .returned (.int .i64 r) ∧ Below w.heap.size w w' := by
  have HB := Aside0.mk (Below.refl w.heap.size w)
  have H : (spec_l09Nearest.l0 k a0 a1 a2 0) = some r := h
  clear h
  have H' := Aside0.mk H
  clear H
  go_enter Try.func119, Try.ntmps119
  go_wp2
  go_loopg [7] k (fun kq v7 w' => ∃ (x7_1 : Int), v7 = .int .i64 x7_1 ∧ Aside0 (spec_l09Nearest.l0 kq a0 a1 a2 x7_1 = some r) ∧ Aside0 (kq ≤ k) ∧ Aside0 (Below w.heap.size w w'))
  case atStart => exact ⟨(0), (by first | rfl | (simp; done) | (simp [*]; done)), H', ⟨Nat.le_refl _⟩, ⟨by repeat (first | (with_reducible first | exact HB.out | apply below_alloc | apply pw_below_drewN | apply below_drew1) | exact HB.out)⟩⟩
  case round =>
    clear H'
    try clear c1
    try clear p2
    obtain ⟨x7_1, rfl, HA, HK1, HB⟩ := hrel
    cases gk with
    | zero => exact absurd HA.out (by simp [spec_l09Nearest.l0])
    | succ k1 =>
      have H := HA.out
      clear HA
      simp only [spec_l09Nearest.l0] at H
      replace H := Option.bind_eq_some_iff.mp H
      obtain ⟨t154, A40, H⟩ := H
      replace H : (if t154 > 0 then (spec_l09Nearest.l0 k1 a0 a1 a2 (wrap64 (x7_1 + 1))) else (spec_l09Nearest.l1 k1 a0 a1 a2 x7_1)) = some r := H
      have A4 := Aside0.mk A40
      clear A40
      by_cases c5 : t154 > 0
      · rw [if_pos c5] at H
        have c5b0 : decide (0 < t154) = true := decide_eq_true c5
        clear c5
        have H' := Aside0.mk H
        clear H
        go_wp2_with (first | ((with_reducible refine gate_callee (f := 98) rfl ?_); refine goesL_ (some 20) rfl rfl Try.func98 (by kernel_rfl) rfl #[.int .i64 (wrap64 (-(wrap64 ((wrap64 (2 * x7_1)) + 1)))), .int .i64 (wrap64 ((wrap64 (2 * a0)) * a1)), .int .i64 (wrap64 ((wrap64 (2 * a0)) * a2))] rfl (by (try simp only [List.map_toArray, List.map_cons, List.map_nil]); first | done | rfl | (simp only [List.length_drop, List.length_take]; rfl)) ?_; (with_reducible refine (spec_l04Sign.calls k1 (wrap64 (-(wrap64 ((wrap64 (2 * x7_1)) + 1)))) (wrap64 ((wrap64 (2 * a0)) * a1)) (wrap64 ((wrap64 (2 * a0)) * a2)) t154 _ A4.out).mono ?_); rintro e w6 ⟨rfl, hb⟩; refine ⟨_, rfl, ?_⟩; have n0_ := Aside0.mk (below_step (by repeat (first | (with_reducible first | exact HB.out | apply below_alloc | apply pw_below_drewN | apply below_drew1) | exact HB.out)) hb); clear HB; have HB := n0_; clear n0_; (try clear hb); (try clear hb2); (try clear hk); (try clear hi)))
        go_roundg k1
        case measure => have := HK1.out; omega
        case rel => exact ⟨(wrap64 (x7_1 + 1)), (by first | rfl | (simp; done) | (simp [*]; done)), H', ⟨by have := HK1.out; omega⟩, ⟨by repeat (first | (with_reducible first | exact HB.out | apply below_alloc | apply pw_below_drewN | apply below_drew1) | exact HB.out)⟩⟩
      · rw [if_neg c5] at H
        have c5b0 : decide (0 < t154) = false := decide_eq_false c5
        clear c5
        have H' := Aside0.mk H
        clear H
        go_wp2_with (first | ((with_reducible refine gate_callee (f := 98) rfl ?_); refine goesL_ (some 20) rfl rfl Try.func98 (by kernel_rfl) rfl #[.int .i64 (wrap64 (-(wrap64 ((wrap64 (2 * x7_1)) + 1)))), .int .i64 (wrap64 ((wrap64 (2 * a0)) * a1)), .int .i64 (wrap64 ((wrap64 (2 * a0)) * a2))] rfl (by (try simp only [List.map_toArray, List.map_cons, List.map_nil]); first | done | rfl | (simp only [List.length_drop, List.length_take]; rfl)) ?_; (with_reducible refine (spec_l04Sign.calls k1 (wrap64 (-(wrap64 ((wrap64 (2 * x7_1)) + 1)))) (wrap64 ((wrap64 (2 * a0)) * a1)) (wrap64 ((wrap64 (2 * a0)) * a2)) t154 _ A4.out).mono ?_); rintro e w7 ⟨rfl, hb⟩; refine ⟨_, rfl, ?_⟩; have n0_ := Aside0.mk (below_step (by repeat (first | (with_reducible first | exact HB.out | apply below_alloc | apply pw_below_drewN | apply below_drew1) | exact HB.out)) hb); clear HB; have HB := n0_; clear n0_; (try clear hb); (try clear hb2); (try clear hk); (try clear hi)))
        go_loopg [7] k1 (fun kq v7 w' => ∃ (x7_2 : Int), v7 = .int .i64 x7_2 ∧ Aside0 (spec_l09Nearest.l1 kq a0 a1 a2 x7_2 = some r) ∧ Aside0 (kq ≤ k1) ∧ Aside0 (Below w.heap.size w w'))
        case atStart => exact ⟨(x7_1), (by first | rfl | (simp; done) | (simp [*]; done)), H', ⟨Nat.le_refl _⟩, ⟨by repeat (first | (with_reducible first | exact HB.out | apply below_alloc | apply pw_below_drewN | apply below_drew1) | exact HB.out)⟩⟩
        case round =>
          clear H'
          try clear c1
          try clear p2
          try clear c5
          try clear c5b0
          try clear p6
          try clear p2
          obtain ⟨x7_2, rfl, HA, HK2, HB⟩ := hrel
          cases gk with
          | zero => exact absurd HA.out (by simp [spec_l09Nearest.l1])
          | succ k2 =>
            have H := HA.out
            clear HA
            simp only [spec_l09Nearest.l1] at H
            replace H := Option.bind_eq_some_iff.mp H
            obtain ⟨t155, A80, H⟩ := H
            replace H : (if t155 < 0 then (spec_l09Nearest.l1 k2 a0 a1 a2 (wrap64 (x7_2 - 1))) else (some x7_2)) = some r := H
            have A8 := Aside0.mk A80
            clear A80
            by_cases c9 : t155 < 0
            · rw [if_pos c9] at H
              have c9b0 : decide (t155 < 0) = true := decide_eq_true c9
              clear c9
              have H' := Aside0.mk H
              clear H
              go_wp2_with (first | ((with_reducible refine gate_callee (f := 98) rfl ?_); refine goesL_ (some 36) rfl rfl Try.func98 (by kernel_rfl) rfl #[.int .i64 (wrap64 (-(wrap64 ((wrap64 (2 * x7_2)) - 1)))), .int .i64 (wrap64 ((wrap64 (2 * a0)) * a1)), .int .i64 (wrap64 ((wrap64 (2 * a0)) * a2))] rfl (by (try simp only [List.map_toArray, List.map_cons, List.map_nil]); first | done | rfl | (simp only [List.length_drop, List.length_take]; rfl)) ?_; (with_reducible refine (spec_l04Sign.calls k2 (wrap64 (-(wrap64 ((wrap64 (2 * x7_2)) - 1)))) (wrap64 ((wrap64 (2 * a0)) * a1)) (wrap64 ((wrap64 (2 * a0)) * a2)) t155 _ A8.out).mono ?_); rintro e w10 ⟨rfl, hb⟩; refine ⟨_, rfl, ?_⟩; have n0_ := Aside0.mk (below_step (by repeat (first | (with_reducible first | exact HB.out | apply below_alloc | apply pw_below_drewN | apply below_drew1) | exact HB.out)) hb); clear HB; have HB := n0_; clear n0_; (try clear hb); (try clear hb2); (try clear hk); (try clear hi)))
              go_roundg k2
              case measure => have := HK1.out; have := HK2.out; omega
              case rel => exact ⟨(wrap64 (x7_2 - 1)), (by first | rfl | (simp; done) | (simp [*]; done)), H', ⟨by have := HK1.out; have := HK2.out; omega⟩, ⟨by repeat (first | (with_reducible first | exact HB.out | apply below_alloc | apply pw_below_drewN | apply below_drew1) | exact HB.out)⟩⟩
            · rw [if_neg c9] at H
              have c9b0 : decide (t155 < 0) = false := decide_eq_false c9
              clear c9
              obtain rfl := Option.some.inj H
              go_wp2_with (first | ((with_reducible refine gate_callee (f := 98) rfl ?_); refine goesL_ (some 36) rfl rfl Try.func98 (by kernel_rfl) rfl #[.int .i64 (wrap64 (-(wrap64 ((wrap64 (2 * x7_2)) - 1)))), .int .i64 (wrap64 ((wrap64 (2 * a0)) * a1)), .int .i64 (wrap64 ((wrap64 (2 * a0)) * a2))] rfl (by (try simp only [List.map_toArray, List.map_cons, List.map_nil]); first | done | rfl | (simp only [List.length_drop, List.length_take]; rfl)) ?_; (with_reducible refine (spec_l04Sign.calls k2 (wrap64 (-(wrap64 ((wrap64 (2 * x7_2)) - 1)))) (wrap64 ((wrap64 (2 * a0)) * a1)) (wrap64 ((wrap64 (2 * a0)) * a2)) t155 _ A8.out).mono ?_); rintro e w11 ⟨rfl, hb⟩; refine ⟨_, rfl, ?_⟩; have n0_ := Aside0.mk (below_step (by repeat (first | (with_reducible first | exact HB.out | apply below_alloc | apply pw_below_drewN | apply below_drew1) | exact HB.out)) hb); clear HB; have HB := n0_; clear n0_; (try clear hb); (try clear hb2); (try clear hk); (try clear hi)))
              go_ret
              exact ⟨by first | rfl | (simp [errW_none, errW_some] <;> rfl) | (simp [*, errW_none, errW_some] <;> rfl), by repeat (first | (with_reducible first | exact HB.out | apply below_alloc | apply pw_below_drewN | apply below_drew1) | exact HB.out)⟩

/-! ### spec_BestMap: function 83 -/
def spec_BestMap.f (k : Nat) (a0 : Int) : Option (Int × Int × Int) := (spec_l01In.f a0 1 60).bind fun t157 => (if t157 = true then ((spec_l09Nearest.f k a0 1 0).bind fun t158 => ((spec_l09Nearest.f k a0 0 1).bind fun t159 => (some (a0, t158, t159)))) else (some (0, 0, 0)))
theorem spec_BestMap.mono : ∀ a0 k, LeO (spec_BestMap.f k a0) (spec_BestMap.f (k + 1) a0) := by
  intro a0 k
  unfold spec_BestMap.f
  repeat' first
      | (with_reducible exact spec_l09Nearest.mono _ _ _ _)
      | (with_reducible exact LeO.refl _)
      | (with_reducible exact LeO.none _)
      | (with_reducible refine LeO.ite ?_ ?_)
      | (with_reducible refine LeO.bind ?_ (fun _ => ?_))
      | exact spec_l09Nearest.mono _ _ _ _
      | exact LeO.none _
      | refine LeO.ite ?_ ?_
      | refine LeO.bind ?_ (fun _ => ?_)
set_option maxHeartbeats 8000000 in
set_option maxRecDepth 100000 in
theorem spec_BestMap.calls (k : Nat) (a0 : Int) (r1 : Int) (r2 : Int) (r3 : Int) (w : World) (h : spec_BestMap.f k a0 = some (r1, r2, r3)) :
    Calls Try.prog 83 #[.int .i64 a0] w fun e w' => e = .returned (.agg #[.int .i64 r1, .int .i64 r2, .int .i64 r3]) ∧ Below w.heap.size w w' := by
  have hu45 := Try.underlying45
  have HB := Aside0.mk (Below.refl w.heap.size w)
  have H : ((spec_l01In.f a0 1 60).bind fun t157 => (if t157 = true then ((spec_l09Nearest.f k a0 1 0).bind fun t158 => ((spec_l09Nearest.f k a0 0 1).bind fun t159 => (some (a0, t158, t159)))) else (some (0, 0, 0)))) = some (r1, r2, r3) := h
  clear h
  replace H := Option.bind_eq_some_iff.mp H
  obtain ⟨t157, A20, H⟩ := H
  replace H : (if t157 = true then ((spec_l09Nearest.f k a0 1 0).bind fun t158 => ((spec_l09Nearest.f k a0 0 1).bind fun t159 => (some (a0, t158, t159)))) else (some (0, 0, 0))) = some (r1, r2, r3) := H
  have A2 := Aside0.mk A20
  clear A20
  by_cases c3 : t157 = true
  · subst c3
    have H1 : ((spec_l09Nearest.f k a0 1 0).bind fun t158 => ((spec_l09Nearest.f k a0 0 1).bind fun t159 => (some (a0, t158, t159)))) = some (r1, r2, r3) := by rw [if_pos rfl] at H; exact H
    clear H
    have H := H1
    clear H1
    replace H := Option.bind_eq_some_iff.mp H
    obtain ⟨t158, A40, H⟩ := H
    replace H : ((spec_l09Nearest.f k a0 0 1).bind fun t159 => (some (a0, t158, t159))) = some (r1, r2, r3) := H
    have A4 := Aside0.mk A40
    clear A40
    replace H := Option.bind_eq_some_iff.mp H
    obtain ⟨t159, A50, H⟩ := H
    replace H : (some (a0, t158, t159)) = some (r1, r2, r3) := H
    have A5 := Aside0.mk A50
    clear A50
    simp only [Option.some.injEq, Prod.mk.injEq] at H
    obtain ⟨rfl, rfl, rfl⟩ := H
    go_enter Try.func83, Try.ntmps83
    go_wp2_with (first | ((with_reducible refine gate_dst (N := 2) rfl ?_); refine box_event ?hg (N := 2) ?hd (cs := #[.int .i64 0, .int .i64 0, .int .i64 0]) (t := 45) ?hr ?_; (case hd => rfl); (case hg => rfl); (case hr => first | (go_simp; done) | (go_simp; rfl)); intro gb156 hg w6 hbox hb; have n0_ := Aside0.mk (below_step (by repeat (first | (with_reducible first | exact HB.out | apply below_alloc | apply pw_below_drewN | apply below_drew1) | exact HB.out)) hb); have n1_ := Aside0.mk (hbox); have n2_ := Aside0.mk ((by rw [hg]; exact (below_size (by repeat (first | (with_reducible first | exact HB.out | apply below_alloc | apply pw_below_drewN | apply below_drew1) | exact HB.out))) : w.heap.size ≤ gb156)); have n3_ := Aside0.mk ((by rw [hg]; exact (below_size (by repeat (first | (with_reducible first | exact HB.out | apply below_alloc | apply pw_below_drewN | apply below_drew1) | exact HB.out))) : w.heap.size ≤ gb156)); clear HB; have HB := n0_; have BK156 := n1_; have GW156 := n2_; have GE156 := n3_; clear n0_ n1_ n2_ n3_; clear hb hbox hg) | ((with_reducible refine gate_callee (f := 81) rfl ?_); refine goesL_ (some 4) rfl rfl Try.func81 (by kernel_rfl) rfl #[.int .i64 a0, .int .i64 1, .int .i64 60] rfl (by (try simp only [List.map_toArray, List.map_cons, List.map_nil]); first | done | rfl | (simp only [List.length_drop, List.length_take]; rfl)) ?_; (with_reducible refine (spec_l01In.calls a0 1 60 true _ A2.out).mono ?_); rintro e w' ⟨rfl, ⟨nd, rfl⟩⟩; refine ⟨_, rfl, ?_⟩; (try (rw [drewN_self w6]; generalize hq_ : World.drewN w6 _ = w6; have n0_ : Aside0 (w6.heap[gb156]? = some (.cells #[.int .i64 0, .int .i64 0, .int .i64 0] 45 (0, 0))) := ⟨by rw [← hq_]; exact (by (with_reducible repeat (first | refine blk_drewN ?_ _ | refine blk_drew ?_ | refine blk_alloc ?_ _)); exact BK156.out)⟩; have n1_ : Aside0 (Below w.heap.size w w6) := ⟨by rw [← hq_]; exact (by repeat (first | (with_reducible first | exact HB.out | apply below_alloc | apply pw_below_drewN | apply below_drew1 | refine below_set ?_ GE156.out) | exact HB.out))⟩; clear BK156 HB hq_; have BK156 := n0_; have HB := n1_; clear n0_ n1_))) | ((with_reducible refine gate_callee (f := 119) rfl ?_); refine goesL_ (some 9) rfl rfl Try.func119 (by kernel_rfl) rfl #[.int .i64 a0, .int .i64 1, .int .i64 0] rfl (by (try simp only [List.map_toArray, List.map_cons, List.map_nil]); first | done | rfl | (simp only [List.length_drop, List.length_take]; rfl)) ?_; (with_reducible refine (spec_l09Nearest.calls k a0 1 0 t158 _ A4.out).mono ?_); rintro e w7 ⟨rfl, hb⟩; refine ⟨_, rfl, ?_⟩; have n0_ := Aside0.mk (blk_below (g := gb156) (o := .cells #[.int .i64 0, .int .i64 0, .int .i64 0] 45 (0, 0)) (by (with_reducible repeat (first | refine blk_drewN ?_ _ | refine blk_drew ?_ | refine blk_alloc ?_ _)); exact BK156.out) hb); have n1_ := Aside0.mk (below_step (by repeat (first | (with_reducible first | exact HB.out | apply below_alloc | apply pw_below_drewN | apply below_drew1 | refine below_set ?_ GE156.out) | exact HB.out)) hb); clear BK156; clear HB; have BK156 := n0_; have HB := n1_; clear n0_ n1_; (try clear hb); (try clear hb2); (try clear hk); (try clear hi)) | ((with_reducible refine gate_callee (f := 119) rfl ?_); refine goesL_ (some 11) rfl rfl Try.func119 (by kernel_rfl) rfl #[.int .i64 a0, .int .i64 0, .int .i64 1] rfl (by (try simp only [List.map_toArray, List.map_cons, List.map_nil]); first | done | rfl | (simp only [List.length_drop, List.length_take]; rfl)) ?_; (with_reducible refine (spec_l09Nearest.calls k a0 0 1 t159 _ A5.out).mono ?_); rintro e w8 ⟨rfl, hb⟩; refine ⟨_, rfl, ?_⟩; have n0_ := Aside0.mk (blk_below (g := gb156) (o := .cells #[.int .i64 0, .int .i64 0, .int .i64 0] 45 (0, 0)) (by (with_reducible repeat (first | refine blk_drewN ?_ _ | refine blk_drew ?_ | refine blk_alloc ?_ _)); exact BK156.out) hb); have n1_ := Aside0.mk (below_step (by repeat (first | (with_reducible first | exact HB.out | apply below_alloc | apply pw_below_drewN | apply below_drew1 | refine below_set ?_ GE156.out) | exact HB.out)) hb); clear BK156; clear HB; have BK156 := n0_; have HB := n1_; clear n0_ n1_; (try clear hb); (try clear hb2); (try clear hk); (try clear hi); have hcz9_0 : w8.cell? ⟨gb156, 0, none⟩ = some (.int .i64 0) := (blk_cell BK156.out 0).trans rfl; have hcz9_1 : w8.cell? ⟨gb156, 1, none⟩ = some (.int .i64 0) := (blk_cell BK156.out 1).trans rfl; have hcz9_2 : w8.cell? ⟨gb156, 2, none⟩ = some (.int .i64 0) := (blk_cell BK156.out 2).trans rfl; have hfz9_0 := blk_frozen BK156.out 0; have hfz9_1 := blk_frozen BK156.out 1; have hfz9_2 := blk_frozen BK156.out 2))
    refine bodyPost_ret (results_cell_row rfl _ _ gb156 45 #[.int .i64 a0, .int .i64 t158, .int .i64 t159] (0, 0) _ rfl (by (with_reducible repeat (first | refine blk_drewN ?_ _ | refine blk_drew ?_ | refine blk_alloc ?_ _)); refine blk_put (cs := #[.int .i64 a0, .int .i64 t158, .int .i64 0]) ?_ 2 _ rfl; (with_reducible repeat (first | refine blk_drewN ?_ _ | refine blk_drew ?_ | refine blk_alloc ?_ _)); refine blk_put (cs := #[.int .i64 a0, .int .i64 0, .int .i64 0]) ?_ 1 _ rfl; (with_reducible repeat (first | refine blk_drewN ?_ _ | refine blk_drew ?_ | refine blk_alloc ?_ _)); refine blk_put (cs := #[.int .i64 0, .int .i64 0, .int .i64 0]) ?_ 0 _ rfl; (with_reducible repeat (first | refine blk_drewN ?_ _ | refine blk_drew ?_ | refine blk_alloc ?_ _)); exact BK156.out) Try.underlying45 rfl (by kernel_rfl)) rfl ?_
    exact ⟨by first | rfl | (simp [errW_none, errW_some] <;> rfl) | (simp [*, errW_none, errW_some] <;> rfl), by repeat (first | (with_reducible first | exact HB.out | apply below_alloc | apply pw_below_drewN | apply below_drew1 | refine below_set ?_ GE156.out) | exact HB.out)⟩
  · replace c3 := Bool.eq_false_iff.mpr c3
    subst c3
    have H1 : (some (0, 0, 0)) = some (r1, r2, r3) := by rw [if_neg (show ¬ (false = true) by decide)] at H; exact H
    clear H
    have H := H1
    clear H1
    simp only [Option.some.injEq, Prod.mk.injEq] at H
    obtain ⟨rfl, rfl, rfl⟩ := H
    go_enter Try.func83, Try.ntmps83
    go_wp2_with (first | ((with_reducible refine gate_dst (N := 2) rfl ?_); refine box_event ?hg (N := 2) ?hd (cs := #[.int .i64 0, .int .i64 0, .int .i64 0]) (t := 45) ?hr ?_; (case hd => rfl); (case hg => rfl); (case hr => first | (go_simp; done) | (go_simp; rfl)); intro gb156 hg w10 hbox hb; have n0_ := Aside0.mk (below_step (by repeat (first | (with_reducible first | exact HB.out | apply below_alloc | apply pw_below_drewN | apply below_drew1) | exact HB.out)) hb); have n1_ := Aside0.mk (hbox); have n2_ := Aside0.mk ((by rw [hg]; exact (below_size (by repeat (first | (with_reducible first | exact HB.out | apply below_alloc | apply pw_below_drewN | apply below_drew1) | exact HB.out))) : w.heap.size ≤ gb156)); have n3_ := Aside0.mk ((by rw [hg]; exact (below_size (by repeat (first | (with_reducible first | exact HB.out | apply below_alloc | apply pw_below_drewN | apply below_drew1) | exact HB.out))) : w.heap.size ≤ gb156)); clear HB; have HB := n0_; have BK156 := n1_; have GW156 := n2_; have GE156 := n3_; clear n0_ n1_ n2_ n3_; clear hb hbox hg) | ((with_reducible refine gate_callee (f := 81) rfl ?_); refine goesL_ (some 4) rfl rfl Try.func81 (by kernel_rfl) rfl #[.int .i64 a0, .int .i64 1, .int .i64 60] rfl (by (try simp only [List.map_toArray, List.map_cons, List.map_nil]); first | done | rfl | (simp only [List.length_drop, List.length_take]; rfl)) ?_; (with_reducible refine (spec_l01In.calls a0 1 60 false _ A2.out).mono ?_); rintro e w' ⟨rfl, ⟨nd, rfl⟩⟩; refine ⟨_, rfl, ?_⟩; (try (rw [drewN_self w10]; generalize hq_ : World.drewN w10 _ = w10; have n0_ : Aside0 (w10.heap[gb156]? = some (.cells #[.int .i64 0, .int .i64 0, .int .i64 0] 45 (0, 0))) := ⟨by rw [← hq_]; exact (by (with_reducible repeat (first | refine blk_drewN ?_ _ | refine blk_drew ?_ | refine blk_alloc ?_ _)); exact BK156.out)⟩; have n1_ : Aside0 (Below w.heap.size w w10) := ⟨by rw [← hq_]; exact (by repeat (first | (with_reducible first | exact HB.out | apply below_alloc | apply pw_below_drewN | apply below_drew1 | refine below_set ?_ GE156.out) | exact HB.out))⟩; clear BK156 HB hq_; have BK156 := n0_; have HB := n1_; clear n0_ n1_)); have hcz11_0 : w10.cell? ⟨gb156, 0, none⟩ = some (.int .i64 0) := (blk_cell BK156.out 0).trans rfl; have hcz11_1 : w10.cell? ⟨gb156, 1, none⟩ = some (.int .i64 0) := (blk_cell BK156.out 1).trans rfl; have hcz11_2 : w10.cell? ⟨gb156, 2, none⟩ = some (.int .i64 0) := (blk_cell BK156.out 2).trans rfl; have hfz11_0 := blk_frozen BK156.out 0; have hfz11_1 := blk_frozen BK156.out 1; have hfz11_2 := blk_frozen BK156.out 2))
    refine bodyPost_ret (results_cell_row rfl _ _ gb156 45 #[.int .i64 0, .int .i64 0, .int .i64 0] (0, 0) _ rfl (by (with_reducible repeat (first | refine blk_drewN ?_ _ | refine blk_drew ?_ | refine blk_alloc ?_ _)); refine blk_put (cs := #[.int .i64 0, .int .i64 0, .int .i64 0]) ?_ 2 _ rfl; (with_reducible repeat (first | refine blk_drewN ?_ _ | refine blk_drew ?_ | refine blk_alloc ?_ _)); refine blk_put (cs := #[.int .i64 0, .int .i64 0, .int .i64 0]) ?_ 1 _ rfl; (with_reducible repeat (first | refine blk_drewN ?_ _ | refine blk_drew ?_ | refine blk_alloc ?_ _)); refine blk_put (cs := #[.int .i64 0, .int .i64 0, .int .i64 0]) ?_ 0 _ rfl; (with_reducible repeat (first | refine blk_drewN ?_ _ | refine blk_drew ?_ | refine blk_alloc ?_ _)); exact BK156.out) Try.underlying45 rfl (by kernel_rfl)) rfl ?_
    exact ⟨by first | rfl | (simp [errW_none, errW_some] <;> rfl) | (simp [*, errW_none, errW_some] <;> rfl), by repeat (first | (with_reducible first | exact HB.out | apply below_alloc | apply pw_below_drewN | apply below_drew1 | refine below_set ?_ GE156.out) | exact HB.out)⟩

end Go.Proofs.Ytchphdbllepieaa.PFnExactDivisionsHiding
