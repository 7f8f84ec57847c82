/- Functions that the law FnExactCommasWithin reaches, each as a Lean function with the proof that the Go code comes to its answers. Conditions: none. Printed by the kit's print, repaired by a program of this session. -/
import Derived.Test.YtoljbcjpilcfiaaQFnExactCommasWithinx0
import Derived.Test.YtoljbcjpilcfiaaQFnExactCommasWithinx5
import Derived.Test.YtoljbcjpilcfiaaQFnExactCommasWithinx10
import Derived.Test.YtoljbcjpilcfiaaQFnExactCommasWithinx11
namespace Go.Proofs.Ytoljbcjpilcfiaa.PFnExactCommasWithin
open Go.RowKit Go.Proofs.YtoljbcjpilcfiaaW.PrintWords Go.Proofs.YtoljbcjpilcfiaaW.PrintLast Go.Proofs.YtoljbcjpilcfiaaW.PrintMore
attribute [local go_sem] max2_int min2_int max_two min_two max_three min_three max_four min_four   -- for this text's walks alone
set_option linter.unusedVariables false
set_option linter.unusedSimpArgs false

/-! ### laws_FnExactCommasWithin: function 7 -/
def laws_FnExactCommasWithin.f (k : Nat) (a0 : Int) : Option (Bool) := (spec_CommasWithin.f k a0).bind fun t338 => ((impl_CommasWithin.f k a0).bind fun t341 => ((laws_eqIntervalS.f k t341 t338).bind fun t344 => (if t344 = true then ((laws_markIntervalS.f k t341 1).bind fun bt345 => ((laws_heldIntervalS.f k bt345.2 1).bind fun t347 => (if t347 < 0 then (some false) else (if t347 = bt345.1 then ((impl_CommasWithin.f k a0).bind fun t348 => ((laws_eqIntervalS.f k t348 t338).bind fun t351 => (if t351 = true then ((laws_heldIntervalS.f k bt345.2 1).bind fun t352 => (if t352 < 0 then (some false) else (if t352 = bt345.1 then (some true) else (some false)))) else (some false)))) else (some false))))) else (some false))))
theorem laws_FnExactCommasWithin.mono : ∀ a0 k, LeO (laws_FnExactCommasWithin.f k a0) (laws_FnExactCommasWithin.f (k + 1) a0) := by
  intro a0 k
  unfold laws_FnExactCommasWithin.f
  repeat' first
      | (with_reducible exact impl_CommasWithin.mono _ _)
      | (with_reducible exact laws_eqIntervalS.mono _ _ _)
      | (with_reducible exact laws_heldIntervalS.mono _ _ _)
      | (with_reducible exact laws_markIntervalS.mono _ _ _)
      | (with_reducible exact spec_CommasWithin.mono _ _)
      | (with_reducible exact LeO.refl _)
      | (with_reducible exact LeO.none _)
      | (with_reducible refine LeO.ite ?_ ?_)
      | (with_reducible refine LeO.bind ?_ (fun _ => ?_))
      | exact impl_CommasWithin.mono _ _
      | exact laws_eqIntervalS.mono _ _ _
      | exact laws_heldIntervalS.mono _ _ _
      | exact laws_markIntervalS.mono _ _ _
      | exact spec_CommasWithin.mono _ _
      | exact LeO.none _
      | refine LeO.ite ?_ ?_
      | refine LeO.bind ?_ (fun _ => ?_)
set_option maxHeartbeats 60000000 in
set_option maxRecDepth 100000 in
theorem laws_FnExactCommasWithin.calls (k : Nat) (a0 : Int) (w : World) (h : laws_FnExactCommasWithin.f k a0 = some true) :
    Calls Try.prog 7 #[.int .i64 a0] w fun e w' => e = .returned (.bool true) ∧ Below w.heap.size w w' := by
  have HB := Aside0.mk (Below.refl w.heap.size w)
  have H : ((spec_CommasWithin.f k a0).bind fun t338 => ((impl_CommasWithin.f k a0).bind fun t341 => ((laws_eqIntervalS.f k t341 t338).bind fun t344 => (if t344 = true then ((laws_markIntervalS.f k t341 1).bind fun bt345 => ((laws_heldIntervalS.f k bt345.2 1).bind fun t347 => (if t347 < 0 then (some false) else (if t347 = bt345.1 then ((impl_CommasWithin.f k a0).bind fun t348 => ((laws_eqIntervalS.f k t348 t338).bind fun t351 => (if t351 = true then ((laws_heldIntervalS.f k bt345.2 1).bind fun t352 => (if t352 < 0 then (some false) else (if t352 = bt345.1 then (some true) else (some false)))) else (some false)))) else (some false))))) else (some false))))) = some true := h
  clear h
  replace H := Option.bind_eq_some_iff.mp H
  obtain ⟨t338, A20, H⟩ := H
  replace H : ((impl_CommasWithin.f k a0).bind fun t341 => ((laws_eqIntervalS.f k t341 t338).bind fun t344 => (if t344 = true then ((laws_markIntervalS.f k t341 1).bind fun bt345 => ((laws_heldIntervalS.f k bt345.2 1).bind fun t347 => (if t347 < 0 then (some false) else (if t347 = bt345.1 then ((impl_CommasWithin.f k a0).bind fun t348 => ((laws_eqIntervalS.f k t348 t338).bind fun t351 => (if t351 = true then ((laws_heldIntervalS.f k bt345.2 1).bind fun t352 => (if t352 < 0 then (some false) else (if t352 = bt345.1 then (some true) else (some false)))) else (some false)))) else (some false))))) else (some false)))) = some true := H
  have A2 := Aside0.mk A20
  clear A20
  replace H := Option.bind_eq_some_iff.mp H
  obtain ⟨t341, A30, H⟩ := H
  replace H : ((laws_eqIntervalS.f k t341 t338).bind fun t344 => (if t344 = true then ((laws_markIntervalS.f k t341 1).bind fun bt345 => ((laws_heldIntervalS.f k bt345.2 1).bind fun t347 => (if t347 < 0 then (some false) else (if t347 = bt345.1 then ((impl_CommasWithin.f k a0).bind fun t348 => ((laws_eqIntervalS.f k t348 t338).bind fun t351 => (if t351 = true then ((laws_heldIntervalS.f k bt345.2 1).bind fun t352 => (if t352 < 0 then (some false) else (if t352 = bt345.1 then (some true) else (some false)))) else (some false)))) else (some false))))) else (some false))) = some true := H
  have A3 := Aside0.mk A30
  clear A30
  replace H := Option.bind_eq_some_iff.mp H
  obtain ⟨t344, A40, H⟩ := H
  replace H : (if t344 = true then ((laws_markIntervalS.f k t341 1).bind fun bt345 => ((laws_heldIntervalS.f k bt345.2 1).bind fun t347 => (if t347 < 0 then (some false) else (if t347 = bt345.1 then ((impl_CommasWithin.f k a0).bind fun t348 => ((laws_eqIntervalS.f k t348 t338).bind fun t351 => (if t351 = true then ((laws_heldIntervalS.f k bt345.2 1).bind fun t352 => (if t352 < 0 then (some false) else (if t352 = bt345.1 then (some true) else (some false)))) else (some false)))) else (some false))))) else (some false)) = some true := H
  have A4 := Aside0.mk A40
  clear A40
  by_cases c5 : t344 = true
  · subst c5
    have H1 : ((laws_markIntervalS.f k t341 1).bind fun bt345 => ((laws_heldIntervalS.f k bt345.2 1).bind fun t347 => (if t347 < 0 then (some false) else (if t347 = bt345.1 then ((impl_CommasWithin.f k a0).bind fun t348 => ((laws_eqIntervalS.f k t348 t338).bind fun t351 => (if t351 = true then ((laws_heldIntervalS.f k bt345.2 1).bind fun t352 => (if t352 < 0 then (some false) else (if t352 = bt345.1 then (some true) else (some false)))) else (some false)))) else (some false))))) = some true := by first | (rw [if_pos rfl] at H; exact H) | rfl
    clear H
    have H := H1
    clear H1
    replace H := Option.bind_eq_some_iff.mp H
    obtain ⟨⟨t345, t346⟩, A60, H⟩ := H
    replace H : ((laws_heldIntervalS.f k t346 1).bind fun t347 => (if t347 < 0 then (some false) else (if t347 = t345 then ((impl_CommasWithin.f k a0).bind fun t348 => ((laws_eqIntervalS.f k t348 t338).bind fun t351 => (if t351 = true then ((laws_heldIntervalS.f k t346 1).bind fun t352 => (if t352 < 0 then (some false) else (if t352 = t345 then (some true) else (some false)))) else (some false)))) else (some false)))) = some true := H
    have A6 := Aside0.mk A60
    clear A60
    replace H := Option.bind_eq_some_iff.mp H
    obtain ⟨t347, A70, H⟩ := H
    replace H : (if t347 < 0 then (some false) else (if t347 = t345 then ((impl_CommasWithin.f k a0).bind fun t348 => ((laws_eqIntervalS.f k t348 t338).bind fun t351 => (if t351 = true then ((laws_heldIntervalS.f k t346 1).bind fun t352 => (if t352 < 0 then (some false) else (if t352 = t345 then (some true) else (some false)))) else (some false)))) else (some false))) = some true := H
    have A7 := Aside0.mk A70
    clear A70
    by_cases c8 : t347 < 0
    · rw [if_pos c8] at H
      have c8b0 : decide (t347 < 0) = true := decide_eq_true c8
      clear c8
      exact absurd (Option.some.inj H) (by decide)
    · rw [if_neg c8] at H
      have c8b0 : decide (t347 < 0) = false := decide_eq_false c8
      clear c8
      by_cases c15 : t347 = t345
      · rw [if_pos c15] at H
        have c15b0 : (t347 == t345) = true := beq_iff_eq.mpr c15
        have c15b1 : (t347 != t345) = false := bne_eq_false_iff_eq.mpr c15
        clear c15
        replace H := Option.bind_eq_some_iff.mp H
        obtain ⟨t348, A160, H⟩ := H
        replace H : ((laws_eqIntervalS.f k t348 t338).bind fun t351 => (if t351 = true then ((laws_heldIntervalS.f k t346 1).bind fun t352 => (if t352 < 0 then (some false) else (if t352 = t345 then (some true) else (some false)))) else (some false))) = some true := H
        have A16 := Aside0.mk A160
        clear A160
        replace H := Option.bind_eq_some_iff.mp H
        obtain ⟨t351, A170, H⟩ := H
        replace H : (if t351 = true then ((laws_heldIntervalS.f k t346 1).bind fun t352 => (if t352 < 0 then (some false) else (if t352 = t345 then (some true) else (some false)))) else (some false)) = some true := H
        have A17 := Aside0.mk A170
        clear A170
        by_cases c18 : t351 = true
        · subst c18
          have H1 : ((laws_heldIntervalS.f k t346 1).bind fun t352 => (if t352 < 0 then (some false) else (if t352 = t345 then (some true) else (some false)))) = some true := by first | (rw [if_pos rfl] at H; exact H) | rfl
          clear H
          have H := H1
          clear H1
          replace H := Option.bind_eq_some_iff.mp H
          obtain ⟨t352, A190, H⟩ := H
          replace H : (if t352 < 0 then (some false) else (if t352 = t345 then (some true) else (some false))) = some true := H
          have A19 := Aside0.mk A190
          clear A190
          by_cases c20 : t352 < 0
          · rw [if_pos c20] at H
            have c20b0 : decide (t352 < 0) = true := decide_eq_true c20
            clear c20
            exact absurd (Option.some.inj H) (by decide)
          · rw [if_neg c20] at H
            have c20b0 : decide (t352 < 0) = false := decide_eq_false c20
            clear c20
            by_cases c30 : t352 = t345
            · rw [if_pos c30] at H
              have c30b0 : (t352 == t345) = true := beq_iff_eq.mpr c30
              have c30b1 : (t352 != t345) = false := bne_eq_false_iff_eq.mpr c30
              clear c30
              have Hq_ := Aside0.mk (Option.some.inj H)
              clear H
              go_enter Try.func7, Try.ntmps7
              go_wp2_with (first | ((with_reducible refine gate_callee (f := 41) rfl ?_); refine goesL_ (some 9) rfl rfl Try.func41 (by kernel_rfl) rfl #[.int .i64 a0] rfl (by (try simp only [List.map_toArray, List.map_cons, List.map_nil]); first | done | rfl | (simp only [List.length_drop, List.length_take]; rfl)) ?_; (with_reducible refine (spec_CommasWithin.calls k a0 t338 _ A2.out).mono ?_); rintro e w31 ⟨v339, rfl, ho0, hb⟩; refine ⟨_, rfl, ?_⟩; have n0_ := Aside0.mk (Kd.R_lower ho0 (below_size (by repeat (first | (with_reducible first | exact HB.out | apply below_alloc | apply pw_below_drewN | apply below_drew1) | exact HB.out)))); have n1_ := Aside0.mk (below_step (by repeat (first | (with_reducible first | exact HB.out | apply below_alloc | apply pw_below_drewN | apply below_drew1) | exact HB.out)) hb); clear HB; have HO340 := n0_; have HB := n1_; clear n0_ n1_; (try clear hb); (try clear hb2); (try clear hk); (try clear hi); (try clear ho0)) | ((with_reducible refine gate_callee (f := 42) rfl ?_); refine goesL_ (some 11) rfl rfl Try.func42 (by kernel_rfl) rfl #[.int .i64 a0] rfl (by (try simp only [List.map_toArray, List.map_cons, List.map_nil]); first | done | rfl | (simp only [List.length_drop, List.length_take]; rfl)) ?_; (with_reducible refine (impl_CommasWithin.calls k a0 t341 _ A3.out).mono ?_); rintro e w32 ⟨v342, rfl, ho0, hb⟩; refine ⟨_, rfl, ?_⟩; have n0_ := Aside0.mk (Kd.R_elder' (by (with_reducible repeat (first | apply Kd.R_alloc | apply Kd.R_drewN | apply Kd.R_drew)); exact HO340.out) (Kd.R_base ho0) hb); have n1_ := Aside0.mk (Kd.R_lower (Kd.R_new' ho0 (Kd.R_lt (by (with_reducible repeat (first | apply Kd.R_alloc | apply Kd.R_drewN | apply Kd.R_drew)); exact HO340.out))) (below_size (by repeat (first | (with_reducible first | exact HB.out | apply below_alloc | apply pw_below_drewN | apply below_drew1) | exact HB.out)))); have n2_ := Aside0.mk (below_step (by repeat (first | (with_reducible first | exact HB.out | apply below_alloc | apply pw_below_drewN | apply below_drew1) | exact HB.out)) hb); clear HO340; clear HB; have HO340 := n0_; have HO343 := n1_; have HB := n2_; clear n0_ n1_ n2_; (try clear hb); (try clear hb2); (try clear hk); (try clear hi); (try clear ho0); obtain ⟨Ao33, co33, eo33⟩ := Kd.R_slice HO343.out; subst eo33; obtain ⟨Ao34, co34, eo34⟩ := Kd.R_slice HO340.out; subst eo34) | ((with_reducible refine gate_callee (f := 43) rfl ?_); refine goesL_ (some 14) rfl rfl Try.func43 (by kernel_rfl) rfl #[.slice Ao33 t341.length co33, .slice Ao34 t338.length co34] rfl (by (try simp only [List.map_toArray, List.map_cons, List.map_nil]); first | done | rfl | (simp only [List.length_drop, List.length_take]; rfl)) ?_; (with_reducible refine (laws_eqIntervalS.calls k _ _ t341 _ _ t338 true _ ?side1 ?side2 ?side3 ?side4 A4.out).mono ?_); (case side1 => repeat (first | exact (Kd.R_reads' HO343.out).2.2 | (with_reducible refine Kd.C_alloc ?_ _) | (with_reducible refine Kd.C_drewN ?_ _) | (with_reducible refine Kd.C_drew ?_))); (case side2 => exact (Kd.R_reads' HO343.out).2.1); (case side3 => repeat (first | exact (Kd.R_reads' HO340.out).2.2 | (with_reducible refine Kd.C_alloc ?_ _) | (with_reducible refine Kd.C_drewN ?_ _) | (with_reducible refine Kd.C_drew ?_))); (case side4 => exact (Kd.R_reads' HO340.out).2.1); rintro e w35 ⟨rfl, hb⟩; refine ⟨_, rfl, ?_⟩; have n0_ := Aside0.mk (Kd.R_below (by (with_reducible repeat (first | apply Kd.R_alloc | apply Kd.R_drewN | apply Kd.R_drew)); exact HO340.out) hb); have n1_ := Aside0.mk (Kd.R_below (by (with_reducible repeat (first | apply Kd.R_alloc | apply Kd.R_drewN | apply Kd.R_drew)); exact HO343.out) hb); have n2_ := Aside0.mk (below_step (by repeat (first | (with_reducible first | exact HB.out | apply below_alloc | apply pw_below_drewN | apply below_drew1) | exact HB.out)) hb); clear HO340; clear HO343; clear HB; have HO340 := n0_; have HO343 := n1_; have HB := n2_; clear n0_ n1_ n2_; (try clear hb); (try clear hb2); (try clear hk); (try clear hi)) | ((with_reducible refine gate_callee (f := 44) rfl ?_); refine goesL_ (some 18) rfl rfl Try.func44 (by kernel_rfl) rfl #[.slice Ao33 t341.length co33, .int .i64 1] rfl (by (try simp only [List.map_toArray, List.map_cons, List.map_nil]); first | done | rfl | (simp only [List.length_drop, List.length_take]; rfl)) ?_; (with_reducible refine (laws_markIntervalS.calls k (fun k_ => some k_ = (.slice Ao33 t341.length co33 : Value).ownBlock) (.slice Ao33 t341.length co33) t341 1 t345 t346 w _ ?side1 ?side2 A6.out).mono ?_); (case side1 => repeat (first | (with_reducible first | exact HB.out | apply below_alloc | apply pw_below_drewN | apply below_drew1) | exact HB.out)); (case side2 => exact Kd.R_tight rfl HO343.out); rintro e w36 ⟨rfl, hy0, hb, hkp⟩; refine ⟨_, rfl, ?_⟩; have n0_ := Aside0.mk (Kd.R_mono (ok' := fun k_ => some k_ ≠ (.slice Ao33 t341.length co33 : Value).ownBlock) (Kd.R_keptB (HO340.out) hkp (fun k_ hk_ hs_ => (hk_.2) hs_)) (fun k_ hk_ => hk_.1.2)); have n1_ := Aside0.mk (Kd.R_reok rfl hy0 (fun k_ e_ => HO343.out.1 k_ e_)); have n2_ := Aside0.mk (hb); clear HO340; clear HO343; clear HB; have HO340 := n0_; have HO343 := n1_; have HB := n2_; clear n0_ n1_ n2_; (try clear hb); (try clear hkp); (try clear hy0)) | ((with_reducible refine gate_callee (f := 45) rfl ?_); refine goesL_ (some 21) rfl rfl Try.func45 (by kernel_rfl) rfl #[.slice Ao33 t346.length co33, .int .i64 1] rfl (by (try simp only [List.map_toArray, List.map_cons, List.map_nil]); first | done | (rw [show t346.length = t341.length from (Kd.R_reads' HO343.out).1.symm] <;> rfl) | rfl | (simp only [List.length_drop, List.length_take]; rfl)) ?_; (with_reducible refine (laws_heldIntervalS.calls k _ _ t346 1 t347 _ ?side1 ?side2 A7.out).mono ?_); (case side1 => repeat (first | exact (Kd.R_reads' HO343.out).2.2 | (with_reducible refine Kd.C_alloc ?_ _) | (with_reducible refine Kd.C_drewN ?_ _) | (with_reducible refine Kd.C_drew ?_))); (case side2 => rw [show t346.length = t341.length from (Kd.R_reads' HO343.out).1.symm]; exact (Kd.R_reads' HO343.out).2.1); rintro e w' ⟨rfl, ⟨nd, rfl⟩⟩; refine ⟨_, rfl, ?_⟩) | ((with_reducible refine gate_callee (f := 42) rfl ?_); refine goesL_ (some 28) rfl rfl Try.func42 (by kernel_rfl) rfl #[.int .i64 a0] rfl (by (try simp only [List.map_toArray, List.map_cons, List.map_nil]); first | done | rfl | (simp only [List.length_drop, List.length_take]; rfl)) ?_; (with_reducible refine (impl_CommasWithin.calls k a0 t348 _ A16.out).mono ?_); rintro e w37 ⟨v349, rfl, ho0, hb⟩; refine ⟨_, rfl, ?_⟩; have n0_ := Aside0.mk (Kd.R_elder' (by (with_reducible repeat (first | apply Kd.R_alloc | apply Kd.R_drewN | apply Kd.R_drew)); exact HO340.out) (Kd.R_base ho0) hb); have n1_ := Aside0.mk (Kd.R_elder' (by (with_reducible repeat (first | apply Kd.R_alloc | apply Kd.R_drewN | apply Kd.R_drew)); exact HO343.out) (Kd.R_base ho0) hb); have n2_ := Aside0.mk (Kd.R_lower (Kd.R_new' (Kd.R_new' ho0 (Kd.R_lt (by (with_reducible repeat (first | apply Kd.R_alloc | apply Kd.R_drewN | apply Kd.R_drew)); exact HO340.out))) (Kd.R_lt (by (with_reducible repeat (first | apply Kd.R_alloc | apply Kd.R_drewN | apply Kd.R_drew)); exact HO343.out))) (below_size (by repeat (first | (with_reducible first | exact HB.out | apply below_alloc | apply pw_below_drewN | apply below_drew1) | exact HB.out)))); have n3_ := Aside0.mk (below_step (by repeat (first | (with_reducible first | exact HB.out | apply below_alloc | apply pw_below_drewN | apply below_drew1) | exact HB.out)) hb); clear HO340; clear HO343; clear HB; have HO340 := n0_; have HO343 := n1_; have HO350 := n2_; have HB := n3_; clear n0_ n1_ n2_ n3_; (try clear hb); (try clear hb2); (try clear hk); (try clear hi); (try clear ho0); obtain ⟨Ao38, co38, eo38⟩ := Kd.R_slice HO350.out; subst eo38) | ((with_reducible refine gate_callee (f := 43) rfl ?_); refine goesL_ (some 31) rfl rfl Try.func43 (by kernel_rfl) rfl #[.slice Ao38 t348.length co38, .slice Ao34 t338.length co34] rfl (by (try simp only [List.map_toArray, List.map_cons, List.map_nil]); first | done | rfl | (simp only [List.length_drop, List.length_take]; rfl)) ?_; (with_reducible refine (laws_eqIntervalS.calls k _ _ t348 _ _ t338 true _ ?side1 ?side2 ?side3 ?side4 A17.out).mono ?_); (case side1 => repeat (first | exact (Kd.R_reads' HO350.out).2.2 | (with_reducible refine Kd.C_alloc ?_ _) | (with_reducible refine Kd.C_drewN ?_ _) | (with_reducible refine Kd.C_drew ?_))); (case side2 => exact (Kd.R_reads' HO350.out).2.1); (case side3 => repeat (first | exact (Kd.R_reads' HO340.out).2.2 | (with_reducible refine Kd.C_alloc ?_ _) | (with_reducible refine Kd.C_drewN ?_ _) | (with_reducible refine Kd.C_drew ?_))); (case side4 => exact (Kd.R_reads' HO340.out).2.1); rintro e w39 ⟨rfl, hb⟩; refine ⟨_, rfl, ?_⟩; have n0_ := Aside0.mk (Kd.R_below (by (with_reducible repeat (first | apply Kd.R_alloc | apply Kd.R_drewN | apply Kd.R_drew)); exact HO340.out) hb); have n1_ := Aside0.mk (Kd.R_below (by (with_reducible repeat (first | apply Kd.R_alloc | apply Kd.R_drewN | apply Kd.R_drew)); exact HO343.out) hb); have n2_ := Aside0.mk (Kd.R_below (by (with_reducible repeat (first | apply Kd.R_alloc | apply Kd.R_drewN | apply Kd.R_drew)); exact HO350.out) hb); have n3_ := Aside0.mk (below_step (by repeat (first | (with_reducible first | exact HB.out | apply below_alloc | apply pw_below_drewN | apply below_drew1) | exact HB.out)) hb); clear HO340; clear HO343; clear HO350; clear HB; have HO340 := n0_; have HO343 := n1_; have HO350 := n2_; have HB := n3_; clear n0_ n1_ n2_ n3_; (try clear hb); (try clear hb2); (try clear hk); (try clear hi)) | ((with_reducible refine gate_callee (f := 45) rfl ?_); refine goesL_ (some 35) rfl rfl Try.func45 (by kernel_rfl) rfl #[.slice Ao33 t346.length co33, .int .i64 1] rfl (by (try simp only [List.map_toArray, List.map_cons, List.map_nil]); first | done | (rw [show t346.length = t341.length from (Kd.R_reads' HO343.out).1.symm] <;> rfl) | rfl | (simp only [List.length_drop, List.length_take]; rfl)) ?_; (with_reducible refine (laws_heldIntervalS.calls k _ _ t346 1 t352 _ ?side1 ?side2 A19.out).mono ?_); (case side1 => repeat (first | exact (Kd.R_reads' HO343.out).2.2 | (with_reducible refine Kd.C_alloc ?_ _) | (with_reducible refine Kd.C_drewN ?_ _) | (with_reducible refine Kd.C_drew ?_))); (case side2 => rw [show t346.length = t341.length from (Kd.R_reads' HO343.out).1.symm]; exact (Kd.R_reads' HO343.out).2.1); rintro e w' ⟨rfl, ⟨nd, rfl⟩⟩; refine ⟨_, rfl, ?_⟩))
              go_ret
              exact ⟨by first | rfl | (simp [errW_none, errW_some]; exact Hq_.out) | (simp [errW_none, errW_some] <;> rfl) | (simp [*, errW_none, errW_some] <;> rfl), by repeat (first | (with_reducible first | exact HB.out | apply below_alloc | apply pw_below_drewN | apply below_drew1) | exact HB.out)⟩
            · rw [if_neg c30] at H
              have c30b0 : (t352 == t345) = false := beq_eq_false_iff_ne.mpr c30
              have c30b1 : (t352 != t345) = true := bne_iff_ne.mpr c30
              exact absurd (Option.some.inj H) (by decide)
        · replace c18 := Bool.eq_false_iff.mpr c18
          subst c18
          have H1 : (some false) = some true := by first | (rw [if_neg (show ¬ (false = true) by decide)] at H; exact H) | rfl
          clear H
          have H := H1
          clear H1
          exact absurd (Option.some.inj H) (by decide)
      · rw [if_neg c15] at H
        have c15b0 : (t347 == t345) = false := beq_eq_false_iff_ne.mpr c15
        have c15b1 : (t347 != t345) = true := bne_iff_ne.mpr c15
        exact absurd (Option.some.inj H) (by decide)
  · replace c5 := Bool.eq_false_iff.mpr c5
    subst c5
    have H1 : (some false) = some true := by first | (rw [if_neg (show ¬ (false = true) by decide)] at H; exact H) | rfl
    clear H
    have H := H1
    clear H1
    exact absurd (Option.some.inj H) (by decide)

/-- THE ONE PURE STATEMENT of laws_FnExactCommasWithin: yours. -/
def laws_FnExactCommasWithin.Pure : Prop := ∀ (a0 : Int), (Lit.int .i64 a0).wf = true → ∃ k, laws_FnExactCommasWithin.f k a0 = some true
theorem laws_FnExactCommasWithin.walk (P : laws_FnExactCommasWithin.Pure) (a0 : Int) (w : World) (w0 : (Lit.int .i64 a0).wf = true) :
    Calls Try.prog 7 #[.int .i64 a0] w fun e w' => e = .returned (.bool true) ∧ Below w.heap.size w w' := by
  obtain ⟨k, h⟩ := P a0 w0
  refine (laws_FnExactCommasWithin.calls k a0 w h).mono ?_
  rintro e w' ⟨rfl, hd⟩
  exact ⟨rfl, hd⟩

end Go.Proofs.Ytoljbcjpilcfiaa.PFnExactCommasWithin
