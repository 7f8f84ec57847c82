/- Functions that the law FnExactNearestHeard reaches, each as a Lean function with the proof that the Go code comes to its answers. Conditions: none. Printed by the kit's print, repaired by a program of this session. -/
import Derived.Test.YtdcpbnddnbeofaaQFnExactNearestHeardx0
import Derived.Test.YtdcpbnddnbeofaaQFnExactNearestHeardx1
import Derived.Test.YtdcpbnddnbeofaaQFnExactNearestHeardx2
import Derived.Test.YtdcpbnddnbeofaaQFnExactNearestHeardx4
import Derived.Test.YtdcpbnddnbeofaaQFnExactNearestHeardx5
namespace Go.Proofs.Ytdcpbnddnbeofaa.PFnExactNearestHeard
open Go.RowKit Go.Proofs.YtdcpbnddnbeofaaW.PrintWords Go.Proofs.YtdcpbnddnbeofaaW.PrintLast Go.Proofs.YtdcpbnddnbeofaaW.PrintMore
attribute [local go_sem] max2_int min2_int max_two min_two max_three min_three max_four min_four   -- for this text's walks alone
set_option linter.unusedVariables false
set_option linter.unusedSimpArgs false

/-! ### laws_FnExactNearestHeard: function 10 -/
mutual
def laws_FnExactNearestHeard.j0 : Nat → Int → List Int → Int → Bool → List Int → Int → Bool → Bool → List Int → List Int → Option (Bool)
  | 0, _, _, _, _, _, _, _, _, _, _ => none
  | k + 1, x0, x1, x6, x7, x8, x10, x11, x51, x254000, x263000 => if x51 = true then (some false) else ((laws_toIntS.f k x1).bind fun t264 => ((laws_eqIntS.f k x8 t264).bind fun t267 => (if t267 = true then ((laws_markIntS.f k x8 1).bind fun bt268 => (if bt268.1 < 0 then (laws_FnExactNearestHeard.j1 k x0 x1 x6 x7 true x254000 x263000) else ((laws_eqCircle.f k x263000 x254000).bind fun t270 => (if t270 = true then (if x10 = x6 then (laws_FnExactNearestHeard.j1 k x0 x1 x6 x7 (x11 != x7) x254000 x263000) else (laws_FnExactNearestHeard.j1 k x0 x1 x6 x7 true x254000 x263000)) else (laws_FnExactNearestHeard.j1 k x0 x1 x6 x7 true x254000 x263000))))) else (some false))))
def laws_FnExactNearestHeard.j1 : Nat → Int → List Int → Int → Bool → Bool → List Int → List Int → Option (Bool)
  | 0, _, _, _, _, _, _, _ => none
  | k + 1, x0, x1, x6, x7, x77, x254000, x263000 => if x77 = true then (some false) else ((laws_markCircle.f k x263000 1).bind fun bt271 => ((laws_heldCircle.f k bt271.2 1).bind fun t273 => (if t273 < 0 then (some false) else (if t273 = bt271.1 then ((laws_toIntS.f k x1).bind fun t274 => ((impl_NearestHeard.f x0 t274).bind fun bt277 => ((laws_eqCircle.f k bt277.1 x254000).bind fun t283 => (if t283 = true then (if bt277.2.1 = x6 then (laws_FnExactNearestHeard.j2 k bt271.1 (bt277.2.2 != x7) bt271.2) else (laws_FnExactNearestHeard.j2 k bt271.1 true bt271.2)) else (laws_FnExactNearestHeard.j2 k bt271.1 true bt271.2))))) else (some false)))))
def laws_FnExactNearestHeard.j2 : Nat → Int → Bool → List Int → Option (Bool)
  | 0, _, _, _ => none
  | k + 1, x13, x110, x263000 => if x110 = true then (some false) else ((laws_heldCircle.f k x263000 1).bind fun t284 => (if t284 < 0 then (some false) else (if t284 = x13 then (some true) else (some false))))
end
def laws_FnExactNearestHeard.f (k : Nat) (a0 : Int) (l1 : List Int) : Option (Bool) := if (l1.length : Int) > 1048576 then (some true) else ((laws_toIntS.f k l1).bind fun t245 => ((spec_NearestHeard.f k a0 t245).bind fun bt248 => ((laws_toIntS.f k l1).bind fun t254 => ((impl_NearestHeard.f a0 t254).bind fun bt257 => ((laws_eqCircle.f k bt257.1 bt248.1).bind fun t263 => (if t263 = true then (if bt257.2.1 = bt248.2.1 then (laws_FnExactNearestHeard.j0 k a0 l1 bt248.2.1 bt248.2.2 t254 bt257.2.1 bt257.2.2 (bt257.2.2 != bt248.2.2) bt248.1 bt257.1) else (laws_FnExactNearestHeard.j0 k a0 l1 bt248.2.1 bt248.2.2 t254 bt257.2.1 bt257.2.2 true bt248.1 bt257.1)) else (laws_FnExactNearestHeard.j0 k a0 l1 bt248.2.1 bt248.2.2 t254 bt257.2.1 bt257.2.2 true bt248.1 bt257.1)))))))
theorem laws_FnExactNearestHeard.mono_l : ∀ k, (∀ y0 y1 y2 y3 y4 y5 y6 y7 y8 y9, LeO (laws_FnExactNearestHeard.j0 k y0 y1 y2 y3 y4 y5 y6 y7 y8 y9) (laws_FnExactNearestHeard.j0 (k + 1) y0 y1 y2 y3 y4 y5 y6 y7 y8 y9)) ∧ (∀ y0 y1 y2 y3 y4 y5 y6, LeO (laws_FnExactNearestHeard.j1 k y0 y1 y2 y3 y4 y5 y6) (laws_FnExactNearestHeard.j1 (k + 1) y0 y1 y2 y3 y4 y5 y6)) ∧ (∀ y0 y1 y2, LeO (laws_FnExactNearestHeard.j2 k y0 y1 y2) (laws_FnExactNearestHeard.j2 (k + 1) y0 y1 y2))
  | 0 => ⟨fun _ _ _ _ _ _ _ _ _ _ r h => by simp [laws_FnExactNearestHeard.j0] at h, fun _ _ _ _ _ _ _ r h => by simp [laws_FnExactNearestHeard.j1] at h, fun _ _ _ r h => by simp [laws_FnExactNearestHeard.j2] at h⟩
  | k + 1 => by
    obtain ⟨ih0, ih1, ih2⟩ := laws_FnExactNearestHeard.mono_l k
    refine ⟨?_, ?_, ?_⟩
    · intro y0 y1 y2 y3 y4 y5 y6 y7 y8 y9
      unfold laws_FnExactNearestHeard.j0
      repeat' first
      | (with_reducible exact ih0 _ _ _ _ _ _ _ _ _ _)
      | (with_reducible exact ih1 _ _ _ _ _ _ _)
      | (with_reducible exact ih2 _ _ _)
      | (with_reducible exact laws_eqCircle.mono _ _ _)
      | (with_reducible exact laws_eqIntS.mono _ _ _)
      | (with_reducible exact laws_heldCircle.mono _ _ _)
      | (with_reducible exact laws_markCircle.mono _ _ _)
      | (with_reducible exact laws_markIntS.mono _ _ _)
      | (with_reducible exact laws_toIntS.mono _ _)
      | (with_reducible exact spec_NearestHeard.mono _ _ _)
      | (with_reducible exact LeO.refl _)
      | (with_reducible exact LeO.none _)
      | (with_reducible refine LeO.ite ?_ ?_)
      | (with_reducible refine LeO.bind ?_ (fun _ => ?_))
      | exact ih0 _ _ _ _ _ _ _ _ _ _
      | exact ih1 _ _ _ _ _ _ _
      | exact ih2 _ _ _
      | exact laws_eqCircle.mono _ _ _
      | exact laws_eqIntS.mono _ _ _
      | exact laws_heldCircle.mono _ _ _
      | exact laws_markCircle.mono _ _ _
      | exact laws_markIntS.mono _ _ _
      | exact laws_toIntS.mono _ _
      | exact spec_NearestHeard.mono _ _ _
      | exact LeO.none _
      | refine LeO.ite ?_ ?_
      | refine LeO.bind ?_ (fun _ => ?_)
    · intro y0 y1 y2 y3 y4 y5 y6
      unfold laws_FnExactNearestHeard.j1
      repeat' first
      | (with_reducible exact ih0 _ _ _ _ _ _ _ _ _ _)
      | (with_reducible exact ih1 _ _ _ _ _ _ _)
      | (with_reducible exact ih2 _ _ _)
      | (with_reducible exact laws_eqCircle.mono _ _ _)
      | (with_reducible exact laws_eqIntS.mono _ _ _)
      | (with_reducible exact laws_heldCircle.mono _ _ _)
      | (with_reducible exact laws_markCircle.mono _ _ _)
      | (with_reducible exact laws_markIntS.mono _ _ _)
      | (with_reducible exact laws_toIntS.mono _ _)
      | (with_reducible exact spec_NearestHeard.mono _ _ _)
      | (with_reducible exact LeO.refl _)
      | (with_reducible exact LeO.none _)
      | (with_reducible refine LeO.ite ?_ ?_)
      | (with_reducible refine LeO.bind ?_ (fun _ => ?_))
      | exact ih0 _ _ _ _ _ _ _ _ _ _
      | exact ih1 _ _ _ _ _ _ _
      | exact ih2 _ _ _
      | exact laws_eqCircle.mono _ _ _
      | exact laws_eqIntS.mono _ _ _
      | exact laws_heldCircle.mono _ _ _
      | exact laws_markCircle.mono _ _ _
      | exact laws_markIntS.mono _ _ _
      | exact laws_toIntS.mono _ _
      | exact spec_NearestHeard.mono _ _ _
      | exact LeO.none _
      | refine LeO.ite ?_ ?_
      | refine LeO.bind ?_ (fun _ => ?_)
    · intro y0 y1 y2
      unfold laws_FnExactNearestHeard.j2
      repeat' first
      | (with_reducible exact ih0 _ _ _ _ _ _ _ _ _ _)
      | (with_reducible exact ih1 _ _ _ _ _ _ _)
      | (with_reducible exact ih2 _ _ _)
      | (with_reducible exact laws_eqCircle.mono _ _ _)
      | (with_reducible exact laws_eqIntS.mono _ _ _)
      | (with_reducible exact laws_heldCircle.mono _ _ _)
      | (with_reducible exact laws_markCircle.mono _ _ _)
      | (with_reducible exact laws_markIntS.mono _ _ _)
      | (with_reducible exact laws_toIntS.mono _ _)
      | (with_reducible exact spec_NearestHeard.mono _ _ _)
      | (with_reducible exact LeO.refl _)
      | (with_reducible exact LeO.none _)
      | (with_reducible refine LeO.ite ?_ ?_)
      | (with_reducible refine LeO.bind ?_ (fun _ => ?_))
      | exact ih0 _ _ _ _ _ _ _ _ _ _
      | exact ih1 _ _ _ _ _ _ _
      | exact ih2 _ _ _
      | exact laws_eqCircle.mono _ _ _
      | exact laws_eqIntS.mono _ _ _
      | exact laws_heldCircle.mono _ _ _
      | exact laws_markCircle.mono _ _ _
      | exact laws_markIntS.mono _ _ _
      | exact laws_toIntS.mono _ _
      | exact spec_NearestHeard.mono _ _ _
      | exact LeO.none _
      | refine LeO.ite ?_ ?_
      | refine LeO.bind ?_ (fun _ => ?_)
theorem laws_FnExactNearestHeard.mono : ∀ a0 a1 k, LeO (laws_FnExactNearestHeard.f k a0 a1) (laws_FnExactNearestHeard.f (k + 1) a0 a1) := by
  intro a0 a1 k
  obtain ⟨ih0, ih1, ih2⟩ := laws_FnExactNearestHeard.mono_l k
  unfold laws_FnExactNearestHeard.f
  repeat' first
      | (with_reducible exact ih0 _ _ _ _ _ _ _ _ _ _)
      | (with_reducible exact ih1 _ _ _ _ _ _ _)
      | (with_reducible exact ih2 _ _ _)
      | (with_reducible exact laws_eqCircle.mono _ _ _)
      | (with_reducible exact laws_eqIntS.mono _ _ _)
      | (with_reducible exact laws_heldCircle.mono _ _ _)
      | (with_reducible exact laws_markCircle.mono _ _ _)
      | (with_reducible exact laws_markIntS.mono _ _ _)
      | (with_reducible exact laws_toIntS.mono _ _)
      | (with_reducible exact spec_NearestHeard.mono _ _ _)
      | (with_reducible exact LeO.refl _)
      | (with_reducible exact LeO.none _)
      | (with_reducible refine LeO.ite ?_ ?_)
      | (with_reducible refine LeO.bind ?_ (fun _ => ?_))
      | exact ih0 _ _ _ _ _ _ _ _ _ _
      | exact ih1 _ _ _ _ _ _ _
      | exact ih2 _ _ _
      | exact laws_eqCircle.mono _ _ _
      | exact laws_eqIntS.mono _ _ _
      | exact laws_heldCircle.mono _ _ _
      | exact laws_markCircle.mono _ _ _
      | exact laws_markIntS.mono _ _ _
      | exact laws_toIntS.mono _ _
      | exact spec_NearestHeard.mono _ _ _
      | exact LeO.none _
      | refine LeO.ite ?_ ?_
      | refine LeO.bind ?_ (fun _ => ?_)
set_option maxHeartbeats 60000000 in
set_option maxRecDepth 100000 in
theorem laws_FnExactNearestHeard.calls (k : Nat) (a0 : Int) (A1 : Option Addr) (c1 : Nat) (l1 : List Int) (w : World) (hr1 : Kd.C (Kd.int .i64) w A1 l1.length l1) (hc1 : l1.length ≤ c1) (h : laws_FnExactNearestHeard.f k a0 l1 = some true) :
    Calls Try.prog 10 #[.int .i64 a0, .slice A1 l1.length c1] w fun e w' => e = .returned (.bool true) ∧ Below w.heap.size w w' := by
  have hu29 := Try.underlying29
  have HR1 := Aside0.mk hr1
  have HC1 := Aside0.mk hc1
  clear hr1 hc1
  have HB := Aside0.mk (Below.refl w.heap.size w)
  have H : (if (l1.length : Int) > 1048576 then (some true) else ((laws_toIntS.f k l1).bind fun t245 => ((spec_NearestHeard.f k a0 t245).bind fun bt248 => ((laws_toIntS.f k l1).bind fun t254 => ((impl_NearestHeard.f a0 t254).bind fun bt257 => ((laws_eqCircle.f k bt257.1 bt248.1).bind fun t263 => (if t263 = true then (if bt257.2.1 = bt248.2.1 then (laws_FnExactNearestHeard.j0 k a0 l1 bt248.2.1 bt248.2.2 t254 bt257.2.1 bt257.2.2 (bt257.2.2 != bt248.2.2) bt248.1 bt257.1) else (laws_FnExactNearestHeard.j0 k a0 l1 bt248.2.1 bt248.2.2 t254 bt257.2.1 bt257.2.2 true bt248.1 bt257.1)) else (laws_FnExactNearestHeard.j0 k a0 l1 bt248.2.1 bt248.2.2 t254 bt257.2.1 bt257.2.2 true bt248.1 bt257.1)))))))) = some true := h
  clear h
  by_cases c3 : (l1.length : Int) > 1048576
  · rw [if_pos c3] at H
    have c3b0 : decide (1048576 < (l1.length : Int)) = true := decide_eq_true c3
    have c3b1 : decide (1048576 < l1.length) = true := decide_eq_true (by omega)
    clear c3
    have Hq_ := Aside0.mk (Option.some.inj H)
    clear H
    go_enter Try.func10, Try.ntmps10
    go_wp2
    go_ret
    exact ⟨by first | rfl | exact congrArg (fun b_ => Ending.returned (Value.bool b_)) Hq_.out | (simp [errW_none, errW_some]; exact beq_iff_eq.1 Hq_.out) | (simp [errW_none, errW_some]; have h_ := of_decide_eq_true Hq_.out; omega) | (simp [errW_none, errW_some]; exact Hq_.out) | (simp [errW_none, errW_some] <;> rfl) | (simp [*, errW_none, errW_some] <;> rfl), by repeat (first | (with_reducible first | exact HB.out | apply below_alloc | apply pw_below_drewN | apply below_drew1) | exact HB.out)⟩
  · rw [if_neg c3] at H
    have c3b0 : decide (1048576 < (l1.length : Int)) = false := decide_eq_false c3
    have c3b1 : decide (1048576 < l1.length) = false := decide_eq_false (by omega)
    clear c3
    replace H := Option.bind_eq_some_iff.mp H
    obtain ⟨t245, A40, H⟩ := H
    replace H : ((spec_NearestHeard.f k a0 t245).bind fun bt248 => ((laws_toIntS.f k l1).bind fun t254 => ((impl_NearestHeard.f a0 t254).bind fun bt257 => ((laws_eqCircle.f k bt257.1 bt248.1).bind fun t263 => (if t263 = true then (if bt257.2.1 = bt248.2.1 then (laws_FnExactNearestHeard.j0 k a0 l1 bt248.2.1 bt248.2.2 t254 bt257.2.1 bt257.2.2 (bt257.2.2 != bt248.2.2) bt248.1 bt257.1) else (laws_FnExactNearestHeard.j0 k a0 l1 bt248.2.1 bt248.2.2 t254 bt257.2.1 bt257.2.2 true bt248.1 bt257.1)) else (laws_FnExactNearestHeard.j0 k a0 l1 bt248.2.1 bt248.2.2 t254 bt257.2.1 bt257.2.2 true bt248.1 bt257.1)))))) = some true := H
    have A4 := Aside0.mk A40
    clear A40
    replace H := Option.bind_eq_some_iff.mp H
    obtain ⟨⟨t248, t251, t252⟩, A50, H⟩ := H
    replace H : ((laws_toIntS.f k l1).bind fun t254 => ((impl_NearestHeard.f a0 t254).bind fun bt257 => ((laws_eqCircle.f k bt257.1 t248).bind fun t263 => (if t263 = true then (if bt257.2.1 = t251 then (laws_FnExactNearestHeard.j0 k a0 l1 t251 t252 t254 bt257.2.1 bt257.2.2 (bt257.2.2 != t252) t248 bt257.1) else (laws_FnExactNearestHeard.j0 k a0 l1 t251 t252 t254 bt257.2.1 bt257.2.2 true t248 bt257.1)) else (laws_FnExactNearestHeard.j0 k a0 l1 t251 t252 t254 bt257.2.1 bt257.2.2 true t248 bt257.1))))) = some true := H
    have A5 := Aside0.mk A50
    clear A50
    replace H := Option.bind_eq_some_iff.mp H
    obtain ⟨t254, A60, H⟩ := H
    replace H : ((impl_NearestHeard.f a0 t254).bind fun bt257 => ((laws_eqCircle.f k bt257.1 t248).bind fun t263 => (if t263 = true then (if bt257.2.1 = t251 then (laws_FnExactNearestHeard.j0 k a0 l1 t251 t252 t254 bt257.2.1 bt257.2.2 (bt257.2.2 != t252) t248 bt257.1) else (laws_FnExactNearestHeard.j0 k a0 l1 t251 t252 t254 bt257.2.1 bt257.2.2 true t248 bt257.1)) else (laws_FnExactNearestHeard.j0 k a0 l1 t251 t252 t254 bt257.2.1 bt257.2.2 true t248 bt257.1)))) = some true := H
    have A6 := Aside0.mk A60
    clear A60
    replace H := Option.bind_eq_some_iff.mp H
    obtain ⟨⟨t257, t260, t261⟩, A70, H⟩ := H
    replace H : ((laws_eqCircle.f k t257 t248).bind fun t263 => (if t263 = true then (if t260 = t251 then (laws_FnExactNearestHeard.j0 k a0 l1 t251 t252 t254 t260 t261 (t261 != t252) t248 t257) else (laws_FnExactNearestHeard.j0 k a0 l1 t251 t252 t254 t260 t261 true t248 t257)) else (laws_FnExactNearestHeard.j0 k a0 l1 t251 t252 t254 t260 t261 true t248 t257))) = some true := H
    have A7 := Aside0.mk A70
    clear A70
    have HC8 := Aside0.mk H
    clear H
    go_enter Try.func10, Try.ntmps10
    go_upto_region 6 with (first | ((with_reducible refine gate_callee (f := 42) rfl ?_); refine goesL_ (some 24) rfl rfl Try.func42 (by kernel_rfl) rfl #[.slice A1 l1.length c1] rfl (by (try simp only [List.map_toArray, List.map_cons, List.map_nil]); first | done | rfl | (simp only [List.length_drop, List.length_take]; rfl)) ?_; (with_reducible refine (laws_toIntS.calls k _ _ l1 t245 _ ?side1 ?side2 A4.out).mono ?_); (case side1 => repeat (first | exact HR1.out | (with_reducible refine Kd.C_alloc ?_ _) | (with_reducible refine Kd.C_drewN ?_ _) | (with_reducible refine Kd.C_drew ?_))); (case side2 => exact HC1.out); rintro e w9 ⟨v246, rfl, ho0, hb⟩; refine ⟨_, rfl, ?_⟩; have n0_ := Aside0.mk (Kd.R_lower ho0 (below_size (by repeat (first | (with_reducible first | exact HB.out | apply below_alloc | apply pw_below_drewN | apply below_drew1) | exact HB.out)))); have n1_ := Aside0.mk (below_step (by repeat (first | (with_reducible first | exact HB.out | apply below_alloc | apply pw_below_drewN | apply below_drew1) | exact HB.out)) hb); clear HB; have HO247 := n0_; have HB := n1_; clear n0_ n1_; (try clear hb); (try clear hb2); (try clear hk); (try clear hi); (try clear ho0); obtain ⟨Ao10, co10, eo10⟩ := Kd.R_slice HO247.out; subst eo10) | ((with_reducible refine gate_callee (f := 45) rfl ?_); refine goesL_ (some 25) rfl rfl Try.func45 (by kernel_rfl) rfl #[.int .i64 a0, .slice Ao10 t245.length co10] rfl (by (try simp only [List.map_toArray, List.map_cons, List.map_nil]); first | done | rfl | (simp only [List.length_drop, List.length_take]; rfl)) ?_; (with_reducible refine (spec_NearestHeard.calls k a0 _ _ t245 t248 t251 t252 _ ?side1 ?side2 A5.out).mono ?_); (case side1 => repeat (first | exact (Kd.R_reads' HO247.out).2.2 | (with_reducible refine Kd.C_alloc ?_ _) | (with_reducible refine Kd.C_drewN ?_ _) | (with_reducible refine Kd.C_drew ?_))); (case side2 => exact (Kd.R_reads' HO247.out).2.1); rintro e w11 ⟨v249, rfl, ho0, hb⟩; refine ⟨_, rfl, ?_⟩; have n0_ := Aside0.mk (Kd.R_below (by (with_reducible repeat (first | apply Kd.R_alloc | apply Kd.R_drewN | apply Kd.R_drew)); exact HO247.out) hb); have n1_ := Aside0.mk (Kd.V_lower (Kd.V_mono (ok' := fun k_ => some k_ ≠ (.slice Ao10 t245.length co10 : Value).ownBlock) ho0 (fun k_ hk_ => (Kd.fresh' (Kd.R_lt (by (with_reducible repeat (first | apply Kd.R_alloc | apply Kd.R_drewN | apply Kd.R_drew)); exact HO247.out)) k_ hk_))) (below_size (by repeat (first | (with_reducible first | exact HB.out | apply below_alloc | apply pw_below_drewN | apply below_drew1) | exact HB.out)))); have n2_ := Aside0.mk (below_step (by repeat (first | (with_reducible first | exact HB.out | apply below_alloc | apply pw_below_drewN | apply below_drew1) | exact HB.out)) hb); clear HO247; clear HB; have HO247 := n0_; have HO250 := n1_; have HB := n2_; clear n0_ n1_ n2_; (try clear hb); (try clear hb2); (try clear hk); (try clear hi); (try clear ho0)) | ((with_reducible refine gate_dst (N := 5) rfl ?_); refine box_event ?hg (N := 5) ?hd (cs := #[.slice none 0 0]) (t := 29) ?hr ?_; (case hd => rfl); (case hg => rfl); (case hr => first | (go_simp; done) | (go_simp; rfl)); intro gb253 hg w12 hbox hb; have n0_ := Aside0.mk (Kd.R_below (by (with_reducible repeat (first | apply Kd.R_alloc | apply Kd.R_drewN | apply Kd.R_drew)); exact HO247.out) hb); have n1_ := Aside0.mk (Kd.V_below (Kd.V_elderB (by (with_reducible repeat (first | apply Kd.V_alloc | apply Kd.V_drewN | apply Kd.V_drew)); exact HO250.out) gb253 (Nat.le_of_eq hg.symm)) hb); have n2_ := Aside0.mk (below_step (by repeat (first | (with_reducible first | exact HB.out | apply below_alloc | apply pw_below_drewN | apply below_drew1) | exact HB.out)) hb); have n3_ := Aside0.mk (hbox); have n4_ := Aside0.mk ((by rw [hg]; exact (below_size (by repeat (first | (with_reducible first | exact HB.out | apply below_alloc | apply pw_below_drewN | apply below_drew1) | exact HB.out))) : w.heap.size ≤ gb253)); have n5_ := Aside0.mk ((by rw [hg]; exact (below_size (by repeat (first | (with_reducible first | exact HB.out | apply below_alloc | apply pw_below_drewN | apply below_drew1) | exact HB.out))) : w.heap.size ≤ gb253)); clear HO247; clear HO250; clear HB; have HO247 := n0_; have HO250 := n1_; have HB := n2_; have BK253 := n3_; have GW253 := n4_; have GE253 := n5_; clear n0_ n1_ n2_ n3_ n4_ n5_; clear hb hbox hg; obtain ⟨Ao13, co13, eo13⟩ := Kd.V_slice HO250.out; subst eo13; have hcz14_0 : w12.cell? ⟨gb253, 0, none⟩ = some (.slice none 0 0) := (blk_cell BK253.out 0).trans rfl; have hfz14_0 := blk_frozen BK253.out 0) | ((with_reducible refine gate_callee (f := 42) rfl ?_); refine goesL_ (some 30) rfl rfl Try.func42 (by kernel_rfl) rfl #[.slice A1 l1.length c1] rfl (by (try simp only [List.map_toArray, List.map_cons, List.map_nil]); first | done | rfl | (simp only [List.length_drop, List.length_take]; rfl)) ?_; (with_reducible refine (laws_toIntS.calls k _ _ l1 t254 _ ?side1 ?side2 A6.out).mono ?_); (case side1 => exact Kd.C_below HR1.out (by repeat (first | (with_reducible first | exact HB.out | apply below_alloc | apply pw_below_drewN | apply below_drew1 | refine below_set ?_ GE253.out) | exact HB.out))); (case side2 => exact HC1.out); rintro e w15 ⟨v255, rfl, ho0, hb⟩; refine ⟨_, rfl, ?_⟩; have n0_ := Aside0.mk (Kd.R_elder' (by (with_reducible repeat (first | apply Kd.R_alloc | apply Kd.R_drewN | apply Kd.R_drew)); exact (Kd.R_mono (Kd.R_far (p := ⟨gb253, 0, none⟩) (Kd.R_types HO247.out BK253.out (by decide)) (fun _ hk => by first | exact hk.2 | (simp [hk]; done) | grind) (.slice Ao13 t248.length co13)) (fun _ h_ => h_.1))) (Kd.R_base ho0) hb); have n1_ := Aside0.mk (Kd.V_elder' (by (with_reducible repeat (first | apply Kd.V_alloc | apply Kd.V_drewN | apply Kd.V_drew)); exact (Kd.V_mono (Kd.V_far (p := ⟨gb253, 0, none⟩) (Kd.V_mono HO250.out (fun k_ hk => (⟨hk, hk.2⟩ : _ ∧ k_ ≠ gb253))) (fun _ hk => by first | exact hk.2 | (simp [hk]; done) | grind) (.slice Ao13 t248.length co13)) (fun _ h_ => h_.1))) (Kd.R_base ho0) hb); have n2_ := Aside0.mk (Kd.R_lower (Kd.R_new' ho0 (Kd.R_lt (by (with_reducible repeat (first | apply Kd.R_alloc | apply Kd.R_drewN | apply Kd.R_drew)); exact (Kd.R_mono (Kd.R_far (p := ⟨gb253, 0, none⟩) (Kd.R_types HO247.out BK253.out (by decide)) (fun _ hk => by first | exact hk.2 | (simp [hk]; done) | grind) (.slice Ao13 t248.length co13)) (fun _ h_ => h_.1))))) (below_size (by repeat (first | (with_reducible first | exact HB.out | apply below_alloc | apply pw_below_drewN | apply below_drew1 | refine below_set ?_ GE253.out) | exact HB.out)))); have n3_ := Aside0.mk (blk_below (g := gb253) (o := .cells #[.slice Ao13 t248.length co13] 29 (0, 0)) (by (with_reducible repeat (first | refine blk_drewN ?_ _ | refine blk_drew ?_ | refine blk_alloc ?_ _)); refine blk_put (cs := #[.slice none 0 0]) ?_ 0 _ rfl; (with_reducible repeat (first | refine blk_drewN ?_ _ | refine blk_drew ?_ | refine blk_alloc ?_ _)); exact BK253.out) hb); have n4_ := Aside0.mk (below_step (by repeat (first | (with_reducible first | exact HB.out | apply below_alloc | apply pw_below_drewN | apply below_drew1 | refine below_set ?_ GE253.out) | exact HB.out)) hb); clear HO247; clear HO250; clear BK253; clear HB; have HO247 := n0_; have HO250 := n1_; have HO256 := n2_; have BK253 := n3_; have HB := n4_; clear n0_ n1_ n2_ n3_ n4_; (try clear hb); (try clear hb2); (try clear hk); (try clear hi); (try clear ho0); obtain ⟨Ao16, co16, eo16⟩ := Kd.R_slice HO256.out; subst eo16) | ((with_reducible refine gate_callee (f := 23) rfl ?_); refine goesL_ (some 34) rfl rfl Try.func23 (by kernel_rfl) rfl #[.int .i64 a0, .slice Ao16 t254.length co16] rfl (by (try simp only [List.map_toArray, List.map_cons, List.map_nil]); first | done | rfl | (simp only [List.length_drop, List.length_take]; rfl)) ?_; (with_reducible refine (impl_NearestHeard.calls a0 _ _ t254 t257 t260 t261 _ ?side1 ?side2 A7.out).mono ?_); (case side1 => repeat (first | exact (Kd.R_reads' HO256.out).2.2 | (with_reducible refine Kd.C_alloc ?_ _) | (with_reducible refine Kd.C_drewN ?_ _) | (with_reducible refine Kd.C_drew ?_))); (case side2 => exact (Kd.R_reads' HO256.out).2.1); rintro e w17 ⟨v258, rfl, ho0, hb⟩; refine ⟨_, rfl, ?_⟩; have n0_ := Aside0.mk (Kd.R_elder' (by (with_reducible repeat (first | apply Kd.R_alloc | apply Kd.R_drewN | apply Kd.R_drew)); exact HO247.out) (Kd.R_base ho0) hb); have n1_ := Aside0.mk (Kd.V_elder' (by (with_reducible repeat (first | apply Kd.V_alloc | apply Kd.V_drewN | apply Kd.V_drew)); exact HO250.out) (Kd.R_base ho0) hb); have n2_ := Aside0.mk (Kd.R_elder' (by (with_reducible repeat (first | apply Kd.R_alloc | apply Kd.R_drewN | apply Kd.R_drew)); exact HO256.out) (Kd.R_base ho0) hb); have n3_ := Aside0.mk (Kd.R_lower (Kd.R_new' (Kd.R_new' ho0 (Kd.R_lt (by (with_reducible repeat (first | apply Kd.R_alloc | apply Kd.R_drewN | apply Kd.R_drew)); exact HO247.out))) (Kd.R_lt (by (with_reducible repeat (first | apply Kd.R_alloc | apply Kd.R_drewN | apply Kd.R_drew)); exact HO256.out))) (below_size (by repeat (first | (with_reducible first | exact HB.out | apply below_alloc | apply pw_below_drewN | apply below_drew1 | refine below_set ?_ GE253.out) | exact HB.out)))); have n4_ := Aside0.mk (blk_below (g := gb253) (o := .cells #[.slice Ao13 t248.length co13] 29 (0, 0)) (by (with_reducible repeat (first | refine blk_drewN ?_ _ | refine blk_drew ?_ | refine blk_alloc ?_ _)); exact BK253.out) hb); have n5_ := Aside0.mk (below_step (by repeat (first | (with_reducible first | exact HB.out | apply below_alloc | apply pw_below_drewN | apply below_drew1 | refine below_set ?_ GE253.out) | exact HB.out)) hb); clear HO247; clear HO250; clear HO256; clear BK253; clear HB; have HO247 := n0_; have HO250 := n1_; have HO256 := n2_; have HO259 := n3_; have BK253 := n4_; have HB := n5_; clear n0_ n1_ n2_ n3_ n4_ n5_; (try clear hb); (try clear hb2); (try clear hk); (try clear hi); (try clear ho0)) | ((with_reducible refine gate_dst (N := 9) rfl ?_); refine box_event ?hg (N := 9) ?hd (cs := #[.slice none 0 0]) (t := 29) ?hr ?_; (case hd => rfl); (case hg => rfl); (case hr => first | (go_simp; done) | (go_simp; rfl)); intro gb262 hg w18 hbox hb; have n0_ := Aside0.mk (Kd.R_below (by (with_reducible repeat (first | apply Kd.R_alloc | apply Kd.R_drewN | apply Kd.R_drew)); exact HO247.out) hb); have n1_ := Aside0.mk (Kd.V_below (Kd.V_elderB (by (with_reducible repeat (first | apply Kd.V_alloc | apply Kd.V_drewN | apply Kd.V_drew)); exact HO250.out) gb262 (Nat.le_of_eq hg.symm)) hb); have n2_ := Aside0.mk (Kd.R_below (by (with_reducible repeat (first | apply Kd.R_alloc | apply Kd.R_drewN | apply Kd.R_drew)); exact HO256.out) hb); have n3_ := Aside0.mk (Kd.R_below (by (with_reducible repeat (first | apply Kd.R_alloc | apply Kd.R_drewN | apply Kd.R_drew)); exact HO259.out) hb); have n4_ := Aside0.mk (blk_below (g := gb253) (o := .cells #[.slice Ao13 t248.length co13] 29 (0, 0)) (by (with_reducible repeat (first | refine blk_drewN ?_ _ | refine blk_drew ?_ | refine blk_alloc ?_ _)); exact BK253.out) hb); have n5_ := Aside0.mk (below_step (by repeat (first | (with_reducible first | exact HB.out | apply below_alloc | apply pw_below_drewN | apply below_drew1 | refine below_set ?_ GE253.out) | exact HB.out)) hb); have n6_ := Aside0.mk (hbox); have n7_ := Aside0.mk ((by rw [hg]; exact (below_size (by repeat (first | (with_reducible first | exact HB.out | apply below_alloc | apply pw_below_drewN | apply below_drew1 | refine below_set ?_ GE253.out) | exact HB.out))) : w.heap.size ≤ gb262)); have n8_ := Aside0.mk ((by rw [hg]; exact (below_size (by repeat (first | (with_reducible first | exact HB.out | apply below_alloc | apply pw_below_drewN | apply below_drew1 | refine below_set ?_ GE253.out) | exact HB.out))) : w.heap.size ≤ gb262)); have n9_ := Aside0.mk ((by rw [hg]; exact Nat.ne_of_lt (blk_lt (g := gb253) (o := .cells #[.slice Ao13 t248.length co13] 29 (0, 0)) (by (with_reducible repeat (first | refine blk_drewN ?_ _ | refine blk_drew ?_ | refine blk_alloc ?_ _)); exact BK253.out)) : gb253 ≠ gb262)); have n10_ := Aside0.mk ((by rw [hg]; exact Nat.ne_of_gt (blk_lt (g := gb253) (o := .cells #[.slice Ao13 t248.length co13] 29 (0, 0)) (by (with_reducible repeat (first | refine blk_drewN ?_ _ | refine blk_drew ?_ | refine blk_alloc ?_ _)); exact BK253.out)) : gb262 ≠ gb253)); clear HO247; clear HO250; clear HO256; clear HO259; clear BK253; clear HB; have HO247 := n0_; have HO250 := n1_; have HO256 := n2_; have HO259 := n3_; have BK253 := n4_; have HB := n5_; have BK262 := n6_; have GW262 := n7_; have GE262 := n8_; have NB253_262 := n9_; have NB262_253 := n10_; clear n0_ n1_ n2_ n3_ n4_ n5_ n6_ n7_ n8_ n9_ n10_; clear hb hbox hg; obtain ⟨Ao19, co19, eo19⟩ := Kd.R_slice HO259.out; subst eo19; have hnb20 := NB262_253.out; have hnc20 := NB253_262.out; have hcz21_0 : w18.cell? ⟨gb262, 0, none⟩ = some (.slice none 0 0) := (blk_cell BK262.out 0).trans rfl; have hfz21_0 := blk_frozen BK262.out 0))
    (try simp only [Act.put, List.setIfInBounds_toArray, List.set_cons_zero, List.set_cons_succ])
    go_cut [51] (fun v51 wc => ∃ (kq : Nat) (x51_7 : Bool), v51 = .bool x51_7 ∧ Aside0 (laws_FnExactNearestHeard.j0 kq a0 l1 t251 t252 t254 t260 t261 x51_7 t248 t257 = some true) ∧ Aside0 (kq ≤ k) ∧ Aside0 (Kd.R (Kd.int .i64) 3 wc w.heap.size (fun k_ => some k_ ≠ ((.slice Ao19 t257.length co19) : Value).ownBlock) (.slice Ao16 t254.length co16) t254) ∧ Aside0 (Kd.V (Kd.int .i64) 3 wc w.heap.size (fun k_ => some k_ ≠ ((.slice Ao16 t254.length co16) : Value).ownBlock ∧ some k_ ≠ ((.slice Ao19 t257.length co19) : Value).ownBlock ∧ k_ ≠ gb253 ∧ k_ ≠ gb262) (.slice Ao13 t248.length co13) t248) ∧ Aside0 (Kd.R (Kd.int .i64) 3 wc w.heap.size (fun k_ => some k_ ≠ ((.slice Ao16 t254.length co16) : Value).ownBlock) (.slice Ao19 t257.length co19) t257) ∧ Aside0 (wc.heap[gb253]? = some (.cells #[(.slice Ao13 t248.length co13)] 29 (0, 0))) ∧ Aside0 (wc.heap[gb262]? = some (.cells #[(.slice Ao19 t257.length co19)] 29 (0, 0))) ∧ Aside0 (Below w.heap.size w wc))
    case first =>
      have H := HC8.out
      clear HC8
      replace H := Option.bind_eq_some_iff.mp H
      obtain ⟨t263, A220, H⟩ := H
      replace H : (if t263 = true then (if t260 = t251 then (laws_FnExactNearestHeard.j0 k a0 l1 t251 t252 t254 t260 t261 (t261 != t252) t248 t257) else (laws_FnExactNearestHeard.j0 k a0 l1 t251 t252 t254 t260 t261 true t248 t257)) else (laws_FnExactNearestHeard.j0 k a0 l1 t251 t252 t254 t260 t261 true t248 t257)) = some true := H
      have A22 := Aside0.mk A220
      clear A220
      by_cases c23 : t263 = true
      · subst c23
        have H1 : (if t260 = t251 then (laws_FnExactNearestHeard.j0 k a0 l1 t251 t252 t254 t260 t261 (t261 != t252) t248 t257) else (laws_FnExactNearestHeard.j0 k a0 l1 t251 t252 t254 t260 t261 true t248 t257)) = some true := by first | (rw [if_pos rfl] at H; exact H) | rfl
        clear H
        have H := H1
        clear H1
        by_cases c24 : t260 = t251
        · rw [if_pos c24] at H
          have c24b0 : (t260 == t251) = true := beq_iff_eq.mpr c24
          have c24b1 : (t260 != t251) = false := bne_eq_false_iff_eq.mpr c24
          clear c24
          (first | rw [c24b0] | (simp only [i64_w, i32_w]; rw [c24b0]) | skip)
          have H' := Aside0.mk H
          clear H
          have hnb25 := NB262_253.out
          have hnc25 := NB253_262.out
          have hcz26_0 : w18.cell? ⟨gb262, 0, none⟩ = some (.slice none 0 0) := (blk_cell BK262.out 0).trans rfl
          have hfz26_0 := blk_frozen BK262.out 0
          have hcz27_0 : w18.cell? ⟨gb253, 0, none⟩ = some (.slice Ao13 t248.length co13) := (blk_cell BK253.out 0).trans rfl
          have hfz27_0 := blk_frozen BK253.out 0
          go_wp2_with (first | ((with_reducible refine gate_callee (f := 33) rfl ?_); refine goesL_ (some 40) rfl rfl Try.func33 (by kernel_rfl) rfl #[.agg #[.slice Ao19 t257.length co19], .agg #[.slice Ao13 t248.length co13]] rfl (by (try simp only [List.map_toArray, List.map_cons, List.map_nil]); first | done | rfl | (simp only [List.length_drop, List.length_take]; rfl)) ?_; (with_reducible refine (laws_eqCircle.calls k _ _ t257 _ _ t248 true _ ?side1 ?side2 ?side3 ?side4 A22.out).mono ?_); (case side1 => refine (Kd.R_reads' (e := 3) (base := w.heap.size) (ok := fun k_ => ((True ∧ some k_ ≠ (.slice Ao10 t245.length co10 : Value).ownBlock) ∧ some k_ ≠ (.slice Ao16 t254.length co16 : Value).ownBlock)) (n := t257.length) (c := co19) ?_).2.2; exact (by (with_reducible repeat (first | apply Kd.R_alloc | apply Kd.R_drewN | apply Kd.R_drew)); exact (Kd.R_mono (Kd.R_far (p := ⟨gb262, 0, none⟩) (Kd.R_types HO259.out BK262.out (by decide)) (fun _ hk => by first | exact hk.2 | (simp [hk]; done) | grind) (.slice Ao19 t257.length co19)) (fun _ h_ => h_.1)))); (case side2 => exact (Kd.R_reads' HO259.out).2.1); (case side3 => refine (Kd.V_reads' (e := 3) (base := w.heap.size) (ok := fun k_ => ((((some k_ ≠ (.slice Ao10 t245.length co10 : Value).ownBlock ∧ k_ ≠ gb253) ∧ some k_ ≠ (.slice Ao16 t254.length co16 : Value).ownBlock) ∧ some k_ ≠ (.slice Ao19 t257.length co19 : Value).ownBlock) ∧ k_ ≠ gb262)) (n := t248.length) (c := co13) ?_).2.2; exact (by (with_reducible repeat (first | apply Kd.V_alloc | apply Kd.V_drewN | apply Kd.V_drew)); exact (Kd.V_mono (Kd.V_far (p := ⟨gb262, 0, none⟩) (Kd.V_mono HO250.out (fun k_ hk => (⟨hk, hk.2⟩ : _ ∧ k_ ≠ gb262))) (fun _ hk => by first | exact hk.2 | (simp [hk]; done) | grind) (.slice Ao19 t257.length co19)) (fun _ h_ => h_.1)))); (case side4 => exact (Kd.V_reads' HO250.out).2.1); rintro e w28 ⟨rfl, hb⟩; refine ⟨_, rfl, ?_⟩; have n0_ := Aside0.mk (Kd.R_below (by (with_reducible repeat (first | apply Kd.R_alloc | apply Kd.R_drewN | apply Kd.R_drew)); exact (Kd.R_mono (Kd.R_far (p := ⟨gb262, 0, none⟩) (Kd.R_types HO247.out BK262.out (by decide)) (fun _ hk => by first | exact hk.2 | (simp [hk]; done) | grind) (.slice Ao19 t257.length co19)) (fun _ h_ => h_.1))) hb); have n1_ := Aside0.mk (Kd.V_below (by (with_reducible repeat (first | apply Kd.V_alloc | apply Kd.V_drewN | apply Kd.V_drew)); exact (Kd.V_mono (Kd.V_far (p := ⟨gb262, 0, none⟩) (Kd.V_mono HO250.out (fun k_ hk => (⟨hk, hk.2⟩ : _ ∧ k_ ≠ gb262))) (fun _ hk => by first | exact hk.2 | (simp [hk]; done) | grind) (.slice Ao19 t257.length co19)) (fun _ h_ => h_.1))) hb); have n2_ := Aside0.mk (Kd.R_below (by (with_reducible repeat (first | apply Kd.R_alloc | apply Kd.R_drewN | apply Kd.R_drew)); exact (Kd.R_mono (Kd.R_far (p := ⟨gb262, 0, none⟩) (Kd.R_types HO256.out BK262.out (by decide)) (fun _ hk => by first | exact hk.2 | (simp [hk]; done) | grind) (.slice Ao19 t257.length co19)) (fun _ h_ => h_.1))) hb); have n3_ := Aside0.mk (Kd.R_below (by (with_reducible repeat (first | apply Kd.R_alloc | apply Kd.R_drewN | apply Kd.R_drew)); exact (Kd.R_mono (Kd.R_far (p := ⟨gb262, 0, none⟩) (Kd.R_types HO259.out BK262.out (by decide)) (fun _ hk => by first | exact hk.2 | (simp [hk]; done) | grind) (.slice Ao19 t257.length co19)) (fun _ h_ => h_.1))) hb); have n4_ := Aside0.mk (blk_below (g := gb253) (o := .cells #[.slice Ao13 t248.length co13] 29 (0, 0)) (by (with_reducible repeat (first | refine blk_drewN ?_ _ | refine blk_drew ?_ | refine blk_alloc ?_ _)); refine blk_far ?_ NB253_262.out _; (with_reducible repeat (first | refine blk_drewN ?_ _ | refine blk_drew ?_ | refine blk_alloc ?_ _)); exact BK253.out) hb); have n5_ := Aside0.mk (blk_below (g := gb262) (o := .cells #[.slice Ao19 t257.length co19] 29 (0, 0)) (by (with_reducible repeat (first | refine blk_drewN ?_ _ | refine blk_drew ?_ | refine blk_alloc ?_ _)); refine blk_put (cs := #[.slice none 0 0]) ?_ 0 _ rfl; (with_reducible repeat (first | refine blk_drewN ?_ _ | refine blk_drew ?_ | refine blk_alloc ?_ _)); exact BK262.out) hb); have n6_ := Aside0.mk (below_step (by repeat (first | (with_reducible first | exact HB.out | apply below_alloc | apply pw_below_drewN | apply below_drew1 | refine below_set ?_ GE253.out | refine below_set ?_ GE262.out) | exact HB.out)) hb); clear HO247; clear HO250; clear HO256; clear HO259; clear BK253; clear BK262; clear HB; have HO247 := n0_; have HO250 := n1_; have HO256 := n2_; have HO259 := n3_; have BK253 := n4_; have BK262 := n5_; have HB := n6_; clear n0_ n1_ n2_ n3_ n4_ n5_ n6_; (try clear hb); (try clear hb2); (try clear hk); (try clear hi)))
          go_meet
          case rel => exact ⟨_, ((t261 != t252)), (by first | rfl | (simp; done) | (simp [*]; done)), H', ⟨by first | omega | exact Nat.le_refl _⟩, ⟨by (with_reducible repeat (first | apply Kd.R_alloc | apply Kd.R_drewN | apply Kd.R_drew)); exact Kd.R_mono HO256.out (fun _ hk => by first | exact hk.2 | (simp [hk]; done) | grind)⟩, ⟨by (with_reducible repeat (first | apply Kd.V_alloc | apply Kd.V_drewN | apply Kd.V_drew)); exact Kd.V_mono HO250.out (fun _ hk => ⟨hk.1.1.2, ⟨hk.1.2, ⟨hk.1.1.1.2, hk.2⟩⟩⟩)⟩, ⟨by (with_reducible repeat (first | apply Kd.R_alloc | apply Kd.R_drewN | apply Kd.R_drew)); exact Kd.R_mono HO259.out (fun _ hk => by first | exact hk.2 | (simp [hk]; done) | grind)⟩, ⟨by (with_reducible repeat (first | refine blk_drewN ?_ _ | refine blk_drew ?_ | refine blk_alloc ?_ _)); exact BK253.out⟩, ⟨by (with_reducible repeat (first | refine blk_drewN ?_ _ | refine blk_drew ?_ | refine blk_alloc ?_ _)); exact BK262.out⟩, ⟨by repeat (first | (with_reducible first | exact HB.out | apply below_alloc | apply pw_below_drewN | apply below_drew1 | refine below_set ?_ GE253.out | refine below_set ?_ GE262.out) | exact HB.out)⟩⟩
        · rw [if_neg c24] at H
          have c24b0 : (t260 == t251) = false := beq_eq_false_iff_ne.mpr c24
          have c24b1 : (t260 != t251) = true := bne_iff_ne.mpr c24
          (first | rw [c24b0] | (simp only [i64_w, i32_w]; rw [c24b0]) | skip)
          have H' := Aside0.mk H
          clear H
          have hnb29 := NB262_253.out
          have hnc29 := NB253_262.out
          have hcz30_0 : w18.cell? ⟨gb262, 0, none⟩ = some (.slice none 0 0) := (blk_cell BK262.out 0).trans rfl
          have hfz30_0 := blk_frozen BK262.out 0
          have hcz31_0 : w18.cell? ⟨gb253, 0, none⟩ = some (.slice Ao13 t248.length co13) := (blk_cell BK253.out 0).trans rfl
          have hfz31_0 := blk_frozen BK253.out 0
          go_wp2_with (first | ((with_reducible refine gate_callee (f := 33) rfl ?_); refine goesL_ (some 40) rfl rfl Try.func33 (by kernel_rfl) rfl #[.agg #[.slice Ao19 t257.length co19], .agg #[.slice Ao13 t248.length co13]] rfl (by (try simp only [List.map_toArray, List.map_cons, List.map_nil]); first | done | rfl | (simp only [List.length_drop, List.length_take]; rfl)) ?_; (with_reducible refine (laws_eqCircle.calls k _ _ t257 _ _ t248 true _ ?side1 ?side2 ?side3 ?side4 A22.out).mono ?_); (case side1 => refine (Kd.R_reads' (e := 3) (base := w.heap.size) (ok := fun k_ => ((True ∧ some k_ ≠ (.slice Ao10 t245.length co10 : Value).ownBlock) ∧ some k_ ≠ (.slice Ao16 t254.length co16 : Value).ownBlock)) (n := t257.length) (c := co19) ?_).2.2; exact (by (with_reducible repeat (first | apply Kd.R_alloc | apply Kd.R_drewN | apply Kd.R_drew)); exact (Kd.R_mono (Kd.R_far (p := ⟨gb262, 0, none⟩) (Kd.R_types HO259.out BK262.out (by decide)) (fun _ hk => by first | exact hk.2 | (simp [hk]; done) | grind) (.slice Ao19 t257.length co19)) (fun _ h_ => h_.1)))); (case side2 => exact (Kd.R_reads' HO259.out).2.1); (case side3 => refine (Kd.V_reads' (e := 3) (base := w.heap.size) (ok := fun k_ => ((((some k_ ≠ (.slice Ao10 t245.length co10 : Value).ownBlock ∧ k_ ≠ gb253) ∧ some k_ ≠ (.slice Ao16 t254.length co16 : Value).ownBlock) ∧ some k_ ≠ (.slice Ao19 t257.length co19 : Value).ownBlock) ∧ k_ ≠ gb262)) (n := t248.length) (c := co13) ?_).2.2; exact (by (with_reducible repeat (first | apply Kd.V_alloc | apply Kd.V_drewN | apply Kd.V_drew)); exact (Kd.V_mono (Kd.V_far (p := ⟨gb262, 0, none⟩) (Kd.V_mono HO250.out (fun k_ hk => (⟨hk, hk.2⟩ : _ ∧ k_ ≠ gb262))) (fun _ hk => by first | exact hk.2 | (simp [hk]; done) | grind) (.slice Ao19 t257.length co19)) (fun _ h_ => h_.1)))); (case side4 => exact (Kd.V_reads' HO250.out).2.1); rintro e w32 ⟨rfl, hb⟩; refine ⟨_, rfl, ?_⟩; have n0_ := Aside0.mk (Kd.R_below (by (with_reducible repeat (first | apply Kd.R_alloc | apply Kd.R_drewN | apply Kd.R_drew)); exact (Kd.R_mono (Kd.R_far (p := ⟨gb262, 0, none⟩) (Kd.R_types HO247.out BK262.out (by decide)) (fun _ hk => by first | exact hk.2 | (simp [hk]; done) | grind) (.slice Ao19 t257.length co19)) (fun _ h_ => h_.1))) hb); have n1_ := Aside0.mk (Kd.V_below (by (with_reducible repeat (first | apply Kd.V_alloc | apply Kd.V_drewN | apply Kd.V_drew)); exact (Kd.V_mono (Kd.V_far (p := ⟨gb262, 0, none⟩) (Kd.V_mono HO250.out (fun k_ hk => (⟨hk, hk.2⟩ : _ ∧ k_ ≠ gb262))) (fun _ hk => by first | exact hk.2 | (simp [hk]; done) | grind) (.slice Ao19 t257.length co19)) (fun _ h_ => h_.1))) hb); have n2_ := Aside0.mk (Kd.R_below (by (with_reducible repeat (first | apply Kd.R_alloc | apply Kd.R_drewN | apply Kd.R_drew)); exact (Kd.R_mono (Kd.R_far (p := ⟨gb262, 0, none⟩) (Kd.R_types HO256.out BK262.out (by decide)) (fun _ hk => by first | exact hk.2 | (simp [hk]; done) | grind) (.slice Ao19 t257.length co19)) (fun _ h_ => h_.1))) hb); have n3_ := Aside0.mk (Kd.R_below (by (with_reducible repeat (first | apply Kd.R_alloc | apply Kd.R_drewN | apply Kd.R_drew)); exact (Kd.R_mono (Kd.R_far (p := ⟨gb262, 0, none⟩) (Kd.R_types HO259.out BK262.out (by decide)) (fun _ hk => by first | exact hk.2 | (simp [hk]; done) | grind) (.slice Ao19 t257.length co19)) (fun _ h_ => h_.1))) hb); have n4_ := Aside0.mk (blk_below (g := gb253) (o := .cells #[.slice Ao13 t248.length co13] 29 (0, 0)) (by (with_reducible repeat (first | refine blk_drewN ?_ _ | refine blk_drew ?_ | refine blk_alloc ?_ _)); refine blk_far ?_ NB253_262.out _; (with_reducible repeat (first | refine blk_drewN ?_ _ | refine blk_drew ?_ | refine blk_alloc ?_ _)); exact BK253.out) hb); have n5_ := Aside0.mk (blk_below (g := gb262) (o := .cells #[.slice Ao19 t257.length co19] 29 (0, 0)) (by (with_reducible repeat (first | refine blk_drewN ?_ _ | refine blk_drew ?_ | refine blk_alloc ?_ _)); refine blk_put (cs := #[.slice none 0 0]) ?_ 0 _ rfl; (with_reducible repeat (first | refine blk_drewN ?_ _ | refine blk_drew ?_ | refine blk_alloc ?_ _)); exact BK262.out) hb); have n6_ := Aside0.mk (below_step (by repeat (first | (with_reducible first | exact HB.out | apply below_alloc | apply pw_below_drewN | apply below_drew1 | refine below_set ?_ GE253.out | refine below_set ?_ GE262.out) | exact HB.out)) hb); clear HO247; clear HO250; clear HO256; clear HO259; clear BK253; clear BK262; clear HB; have HO247 := n0_; have HO250 := n1_; have HO256 := n2_; have HO259 := n3_; have BK253 := n4_; have BK262 := n5_; have HB := n6_; clear n0_ n1_ n2_ n3_ n4_ n5_ n6_; (try clear hb); (try clear hb2); (try clear hk); (try clear hi)))
          go_meet
          case rel => exact ⟨_, (true), (by first | rfl | (simp; done) | (simp [*]; done)), H', ⟨by first | omega | exact Nat.le_refl _⟩, ⟨by (with_reducible repeat (first | apply Kd.R_alloc | apply Kd.R_drewN | apply Kd.R_drew)); exact Kd.R_mono HO256.out (fun _ hk => by first | exact hk.2 | (simp [hk]; done) | grind)⟩, ⟨by (with_reducible repeat (first | apply Kd.V_alloc | apply Kd.V_drewN | apply Kd.V_drew)); exact Kd.V_mono HO250.out (fun _ hk => ⟨hk.1.1.2, ⟨hk.1.2, ⟨hk.1.1.1.2, hk.2⟩⟩⟩)⟩, ⟨by (with_reducible repeat (first | apply Kd.R_alloc | apply Kd.R_drewN | apply Kd.R_drew)); exact Kd.R_mono HO259.out (fun _ hk => by first | exact hk.2 | (simp [hk]; done) | grind)⟩, ⟨by (with_reducible repeat (first | refine blk_drewN ?_ _ | refine blk_drew ?_ | refine blk_alloc ?_ _)); exact BK253.out⟩, ⟨by (with_reducible repeat (first | refine blk_drewN ?_ _ | refine blk_drew ?_ | refine blk_alloc ?_ _)); exact BK262.out⟩, ⟨by repeat (first | (with_reducible first | exact HB.out | apply below_alloc | apply pw_below_drewN | apply below_drew1 | refine below_set ?_ GE253.out | refine below_set ?_ GE262.out) | exact HB.out)⟩⟩
      · replace c23 := Bool.eq_false_iff.mpr c23
        subst c23
        have H1 : (laws_FnExactNearestHeard.j0 k a0 l1 t251 t252 t254 t260 t261 true t248 t257) = some true := by first | (rw [if_neg (show ¬ (false = true) by decide)] at H; exact H) | rfl
        clear H
        have H := H1
        clear H1
        have H' := Aside0.mk H
        clear H
        have hnb33 := NB262_253.out
        have hnc33 := NB253_262.out
        have hcz34_0 : w18.cell? ⟨gb262, 0, none⟩ = some (.slice none 0 0) := (blk_cell BK262.out 0).trans rfl
        have hfz34_0 := blk_frozen BK262.out 0
        have hcz35_0 : w18.cell? ⟨gb253, 0, none⟩ = some (.slice Ao13 t248.length co13) := (blk_cell BK253.out 0).trans rfl
        have hfz35_0 := blk_frozen BK253.out 0
        go_wp2_with (first | ((with_reducible refine gate_callee (f := 33) rfl ?_); refine goesL_ (some 40) rfl rfl Try.func33 (by kernel_rfl) rfl #[.agg #[.slice Ao19 t257.length co19], .agg #[.slice Ao13 t248.length co13]] rfl (by (try simp only [List.map_toArray, List.map_cons, List.map_nil]); first | done | rfl | (simp only [List.length_drop, List.length_take]; rfl)) ?_; (with_reducible refine (laws_eqCircle.calls k _ _ t257 _ _ t248 false _ ?side1 ?side2 ?side3 ?side4 A22.out).mono ?_); (case side1 => refine (Kd.R_reads' (e := 3) (base := w.heap.size) (ok := fun k_ => ((True ∧ some k_ ≠ (.slice Ao10 t245.length co10 : Value).ownBlock) ∧ some k_ ≠ (.slice Ao16 t254.length co16 : Value).ownBlock)) (n := t257.length) (c := co19) ?_).2.2; exact (by (with_reducible repeat (first | apply Kd.R_alloc | apply Kd.R_drewN | apply Kd.R_drew)); exact (Kd.R_mono (Kd.R_far (p := ⟨gb262, 0, none⟩) (Kd.R_types HO259.out BK262.out (by decide)) (fun _ hk => by first | exact hk.2 | (simp [hk]; done) | grind) (.slice Ao19 t257.length co19)) (fun _ h_ => h_.1)))); (case side2 => exact (Kd.R_reads' HO259.out).2.1); (case side3 => refine (Kd.V_reads' (e := 3) (base := w.heap.size) (ok := fun k_ => ((((some k_ ≠ (.slice Ao10 t245.length co10 : Value).ownBlock ∧ k_ ≠ gb253) ∧ some k_ ≠ (.slice Ao16 t254.length co16 : Value).ownBlock) ∧ some k_ ≠ (.slice Ao19 t257.length co19 : Value).ownBlock) ∧ k_ ≠ gb262)) (n := t248.length) (c := co13) ?_).2.2; exact (by (with_reducible repeat (first | apply Kd.V_alloc | apply Kd.V_drewN | apply Kd.V_drew)); exact (Kd.V_mono (Kd.V_far (p := ⟨gb262, 0, none⟩) (Kd.V_mono HO250.out (fun k_ hk => (⟨hk, hk.2⟩ : _ ∧ k_ ≠ gb262))) (fun _ hk => by first | exact hk.2 | (simp [hk]; done) | grind) (.slice Ao19 t257.length co19)) (fun _ h_ => h_.1)))); (case side4 => exact (Kd.V_reads' HO250.out).2.1); rintro e w36 ⟨rfl, hb⟩; refine ⟨_, rfl, ?_⟩; have n0_ := Aside0.mk (Kd.R_below (by (with_reducible repeat (first | apply Kd.R_alloc | apply Kd.R_drewN | apply Kd.R_drew)); exact (Kd.R_mono (Kd.R_far (p := ⟨gb262, 0, none⟩) (Kd.R_types HO247.out BK262.out (by decide)) (fun _ hk => by first | exact hk.2 | (simp [hk]; done) | grind) (.slice Ao19 t257.length co19)) (fun _ h_ => h_.1))) hb); have n1_ := Aside0.mk (Kd.V_below (by (with_reducible repeat (first | apply Kd.V_alloc | apply Kd.V_drewN | apply Kd.V_drew)); exact (Kd.V_mono (Kd.V_far (p := ⟨gb262, 0, none⟩) (Kd.V_mono HO250.out (fun k_ hk => (⟨hk, hk.2⟩ : _ ∧ k_ ≠ gb262))) (fun _ hk => by first | exact hk.2 | (simp [hk]; done) | grind) (.slice Ao19 t257.length co19)) (fun _ h_ => h_.1))) hb); have n2_ := Aside0.mk (Kd.R_below (by (with_reducible repeat (first | apply Kd.R_alloc | apply Kd.R_drewN | apply Kd.R_drew)); exact (Kd.R_mono (Kd.R_far (p := ⟨gb262, 0, none⟩) (Kd.R_types HO256.out BK262.out (by decide)) (fun _ hk => by first | exact hk.2 | (simp [hk]; done) | grind) (.slice Ao19 t257.length co19)) (fun _ h_ => h_.1))) hb); have n3_ := Aside0.mk (Kd.R_below (by (with_reducible repeat (first | apply Kd.R_alloc | apply Kd.R_drewN | apply Kd.R_drew)); exact (Kd.R_mono (Kd.R_far (p := ⟨gb262, 0, none⟩) (Kd.R_types HO259.out BK262.out (by decide)) (fun _ hk => by first | exact hk.2 | (simp [hk]; done) | grind) (.slice Ao19 t257.length co19)) (fun _ h_ => h_.1))) hb); have n4_ := Aside0.mk (blk_below (g := gb253) (o := .cells #[.slice Ao13 t248.length co13] 29 (0, 0)) (by (with_reducible repeat (first | refine blk_drewN ?_ _ | refine blk_drew ?_ | refine blk_alloc ?_ _)); refine blk_far ?_ NB253_262.out _; (with_reducible repeat (first | refine blk_drewN ?_ _ | refine blk_drew ?_ | refine blk_alloc ?_ _)); exact BK253.out) hb); have n5_ := Aside0.mk (blk_below (g := gb262) (o := .cells #[.slice Ao19 t257.length co19] 29 (0, 0)) (by (with_reducible repeat (first | refine blk_drewN ?_ _ | refine blk_drew ?_ | refine blk_alloc ?_ _)); refine blk_put (cs := #[.slice none 0 0]) ?_ 0 _ rfl; (with_reducible repeat (first | refine blk_drewN ?_ _ | refine blk_drew ?_ | refine blk_alloc ?_ _)); exact BK262.out) hb); have n6_ := Aside0.mk (below_step (by repeat (first | (with_reducible first | exact HB.out | apply below_alloc | apply pw_below_drewN | apply below_drew1 | refine below_set ?_ GE253.out | refine below_set ?_ GE262.out) | exact HB.out)) hb); clear HO247; clear HO250; clear HO256; clear HO259; clear BK253; clear BK262; clear HB; have HO247 := n0_; have HO250 := n1_; have HO256 := n2_; have HO259 := n3_; have BK253 := n4_; have BK262 := n5_; have HB := n6_; clear n0_ n1_ n2_ n3_ n4_ n5_ n6_; (try clear hb); (try clear hb2); (try clear hk); (try clear hi)))
        go_meet
        case rel => exact ⟨_, (true), (by first | rfl | (simp; done) | (simp [*]; done)), H', ⟨by first | omega | exact Nat.le_refl _⟩, ⟨by (with_reducible repeat (first | apply Kd.R_alloc | apply Kd.R_drewN | apply Kd.R_drew)); exact Kd.R_mono HO256.out (fun _ hk => by first | exact hk.2 | (simp [hk]; done) | grind)⟩, ⟨by (with_reducible repeat (first | apply Kd.V_alloc | apply Kd.V_drewN | apply Kd.V_drew)); exact Kd.V_mono HO250.out (fun _ hk => ⟨hk.1.1.2, ⟨hk.1.2, ⟨hk.1.1.1.2, hk.2⟩⟩⟩)⟩, ⟨by (with_reducible repeat (first | apply Kd.R_alloc | apply Kd.R_drewN | apply Kd.R_drew)); exact Kd.R_mono HO259.out (fun _ hk => by first | exact hk.2 | (simp [hk]; done) | grind)⟩, ⟨by (with_reducible repeat (first | refine blk_drewN ?_ _ | refine blk_drew ?_ | refine blk_alloc ?_ _)); exact BK253.out⟩, ⟨by (with_reducible repeat (first | refine blk_drewN ?_ _ | refine blk_drew ?_ | refine blk_alloc ?_ _)); exact BK262.out⟩, ⟨by repeat (first | (with_reducible first | exact HB.out | apply below_alloc | apply pw_below_drewN | apply below_drew1 | refine below_set ?_ GE253.out | refine below_set ?_ GE262.out) | exact HB.out)⟩⟩
    case rest =>
      clear HC8
      try clear c1
      try clear c2
      try clear p2
      try clear c3
      try clear c3b0
      try clear c3b1
      try clear c4
      try clear c10
      try clear c20
      try clear c23
      try clear c24
      try clear c24b0
      try clear c24b1
      try clear c25
      try clear c29
      try clear c33
      try clear hcz14_0
      try clear hcz21_0
      try clear hcz26_0
      try clear hcz27_0
      try clear hcz30_0
      try clear hcz31_0
      try clear hcz34_0
      try clear hcz35_0
      try clear hfz14_0
      try clear hfz21_0
      try clear hfz26_0
      try clear hfz27_0
      try clear hfz30_0
      try clear hfz31_0
      try clear hfz34_0
      try clear hfz35_0
      obtain ⟨kq, x51_7, rfl, HA, HJ7, HO_8, HO_254000, HO_263000, BK253, BK262, HB⟩ := hcut
      cases kq with
      | zero => exact absurd HA.out (by simp [laws_FnExactNearestHeard.j0])
      | succ kj7 =>
        have H := HA.out
        clear HA
        simp only [laws_FnExactNearestHeard.j0] at H
        by_cases c37 : x51_7 = true
        · subst c37
          have H1 : (some false) = some true := by first | (rw [if_pos rfl] at H; exact H) | rfl
          clear H
          have H := H1
          clear H1
          exact absurd (Option.some.inj H) (by decide)
        · replace c37 := Bool.eq_false_iff.mpr c37
          subst c37
          have H1 : ((laws_toIntS.f kj7 l1).bind fun t264 => ((laws_eqIntS.f kj7 t254 t264).bind fun t267 => (if t267 = true then ((laws_markIntS.f kj7 t254 1).bind fun bt268 => (if bt268.1 < 0 then (laws_FnExactNearestHeard.j1 kj7 a0 l1 t251 t252 true t248 t257) else ((laws_eqCircle.f kj7 t257 t248).bind fun t270 => (if t270 = true then (if t260 = t251 then (laws_FnExactNearestHeard.j1 kj7 a0 l1 t251 t252 (t261 != t252) t248 t257) else (laws_FnExactNearestHeard.j1 kj7 a0 l1 t251 t252 true t248 t257)) else (laws_FnExactNearestHeard.j1 kj7 a0 l1 t251 t252 true t248 t257))))) else (some false)))) = some true := by first | (rw [if_neg (show ¬ (false = true) by decide)] at H; exact H) | rfl
          clear H
          have H := H1
          clear H1
          replace H := Option.bind_eq_some_iff.mp H
          obtain ⟨t264, A380, H⟩ := H
          replace H : ((laws_eqIntS.f kj7 t254 t264).bind fun t267 => (if t267 = true then ((laws_markIntS.f kj7 t254 1).bind fun bt268 => (if bt268.1 < 0 then (laws_FnExactNearestHeard.j1 kj7 a0 l1 t251 t252 true t248 t257) else ((laws_eqCircle.f kj7 t257 t248).bind fun t270 => (if t270 = true then (if t260 = t251 then (laws_FnExactNearestHeard.j1 kj7 a0 l1 t251 t252 (t261 != t252) t248 t257) else (laws_FnExactNearestHeard.j1 kj7 a0 l1 t251 t252 true t248 t257)) else (laws_FnExactNearestHeard.j1 kj7 a0 l1 t251 t252 true t248 t257))))) else (some false))) = some true := H
          have A38 := Aside0.mk A380
          clear A380
          replace H := Option.bind_eq_some_iff.mp H
          obtain ⟨t267, A390, H⟩ := H
          replace H : (if t267 = true then ((laws_markIntS.f kj7 t254 1).bind fun bt268 => (if bt268.1 < 0 then (laws_FnExactNearestHeard.j1 kj7 a0 l1 t251 t252 true t248 t257) else ((laws_eqCircle.f kj7 t257 t248).bind fun t270 => (if t270 = true then (if t260 = t251 then (laws_FnExactNearestHeard.j1 kj7 a0 l1 t251 t252 (t261 != t252) t248 t257) else (laws_FnExactNearestHeard.j1 kj7 a0 l1 t251 t252 true t248 t257)) else (laws_FnExactNearestHeard.j1 kj7 a0 l1 t251 t252 true t248 t257))))) else (some false)) = some true := H
          have A39 := Aside0.mk A390
          clear A390
          by_cases c40 : t267 = true
          · subst c40
            have H1 : ((laws_markIntS.f kj7 t254 1).bind fun bt268 => (if bt268.1 < 0 then (laws_FnExactNearestHeard.j1 kj7 a0 l1 t251 t252 true t248 t257) else ((laws_eqCircle.f kj7 t257 t248).bind fun t270 => (if t270 = true then (if t260 = t251 then (laws_FnExactNearestHeard.j1 kj7 a0 l1 t251 t252 (t261 != t252) t248 t257) else (laws_FnExactNearestHeard.j1 kj7 a0 l1 t251 t252 true t248 t257)) else (laws_FnExactNearestHeard.j1 kj7 a0 l1 t251 t252 true t248 t257))))) = some true := by first | (rw [if_pos rfl] at H; exact H) | rfl
            clear H
            have H := H1
            clear H1
            replace H := Option.bind_eq_some_iff.mp H
            obtain ⟨⟨t268, t269⟩, A410, H⟩ := H
            replace H : (if t268 < 0 then (laws_FnExactNearestHeard.j1 kj7 a0 l1 t251 t252 true t248 t257) else ((laws_eqCircle.f kj7 t257 t248).bind fun t270 => (if t270 = true then (if t260 = t251 then (laws_FnExactNearestHeard.j1 kj7 a0 l1 t251 t252 (t261 != t252) t248 t257) else (laws_FnExactNearestHeard.j1 kj7 a0 l1 t251 t252 true t248 t257)) else (laws_FnExactNearestHeard.j1 kj7 a0 l1 t251 t252 true t248 t257)))) = some true := H
            have A41 := Aside0.mk A410
            clear A410
            have HC42 := Aside0.mk H
            clear H
            go_upto_region 12 with (first | ((with_reducible refine gate_callee (f := 42) rfl ?_); refine goesL_ (some 54) rfl rfl Try.func42 (by kernel_rfl) rfl #[.slice A1 l1.length c1] rfl (by (try simp only [List.map_toArray, List.map_cons, List.map_nil]); first | done | rfl | (simp only [List.length_drop, List.length_take]; rfl)) ?_; (with_reducible refine (laws_toIntS.calls kj7 _ _ l1 t264 _ ?side1 ?side2 A38.out).mono ?_); (case side1 => repeat (first | exact (Kd.C_below HR1.out HB.out) | (with_reducible refine Kd.C_alloc ?_ _) | (with_reducible refine Kd.C_drewN ?_ _) | (with_reducible refine Kd.C_drew ?_))); (case side2 => exact HC1.out); rintro e w43 ⟨v265, rfl, ho0, hb⟩; refine ⟨_, rfl, ?_⟩; have n0_ := Aside0.mk (Kd.R_elder' (by (with_reducible repeat (first | apply Kd.R_alloc | apply Kd.R_drewN | apply Kd.R_drew)); exact HO_8.out) (Kd.R_base ho0) hb); have n1_ := Aside0.mk (Kd.V_elder' (by (with_reducible repeat (first | apply Kd.V_alloc | apply Kd.V_drewN | apply Kd.V_drew)); exact HO_254000.out) (Kd.R_base ho0) hb); have n2_ := Aside0.mk (Kd.R_elder' (by (with_reducible repeat (first | apply Kd.R_alloc | apply Kd.R_drewN | apply Kd.R_drew)); exact HO_263000.out) (Kd.R_base ho0) hb); have n3_ := Aside0.mk (Kd.R_lower (Kd.R_new' (Kd.R_new' ho0 (Kd.R_lt (by (with_reducible repeat (first | apply Kd.R_alloc | apply Kd.R_drewN | apply Kd.R_drew)); exact HO_8.out))) (Kd.R_lt (by (with_reducible repeat (first | apply Kd.R_alloc | apply Kd.R_drewN | apply Kd.R_drew)); exact HO_263000.out))) (below_size (by repeat (first | (with_reducible first | exact HB.out | apply below_alloc | apply pw_below_drewN | apply below_drew1 | refine below_set ?_ GE253.out | refine below_set ?_ GE262.out) | exact HB.out)))); have n4_ := Aside0.mk (blk_below (g := gb253) (o := .cells #[.slice Ao13 t248.length co13] 29 (0, 0)) (by (with_reducible repeat (first | refine blk_drewN ?_ _ | refine blk_drew ?_ | refine blk_alloc ?_ _)); exact BK253.out) hb); have n5_ := Aside0.mk (blk_below (g := gb262) (o := .cells #[.slice Ao19 t257.length co19] 29 (0, 0)) (by (with_reducible repeat (first | refine blk_drewN ?_ _ | refine blk_drew ?_ | refine blk_alloc ?_ _)); exact BK262.out) hb); have n6_ := Aside0.mk (below_step (by repeat (first | (with_reducible first | exact HB.out | apply below_alloc | apply pw_below_drewN | apply below_drew1 | refine below_set ?_ GE253.out | refine below_set ?_ GE262.out) | exact HB.out)) hb); clear HO_8; clear HO_254000; clear HO_263000; clear BK253; clear BK262; clear HB; have HO_8 := n0_; have HO_254000 := n1_; have HO_263000 := n2_; have HO266 := n3_; have BK253 := n4_; have BK262 := n5_; have HB := n6_; clear n0_ n1_ n2_ n3_ n4_ n5_ n6_; (try clear hb); (try clear hb2); (try clear hk); (try clear hi); (try clear ho0); obtain ⟨Ao44, co44, eo44⟩ := Kd.R_slice HO266.out; subst eo44) | ((with_reducible refine gate_callee (f := 43) rfl ?_); refine goesL_ (some 55) rfl rfl Try.func43 (by kernel_rfl) rfl #[.slice Ao16 t254.length co16, .slice Ao44 t264.length co44] rfl (by (try simp only [List.map_toArray, List.map_cons, List.map_nil]); first | done | rfl | (simp only [List.length_drop, List.length_take]; rfl)) ?_; (with_reducible refine (laws_eqIntS.calls kj7 _ _ t254 _ _ t264 true _ ?side1 ?side2 ?side3 ?side4 A39.out).mono ?_); (case side1 => repeat (first | exact (Kd.R_reads' HO_8.out).2.2 | (with_reducible refine Kd.C_alloc ?_ _) | (with_reducible refine Kd.C_drewN ?_ _) | (with_reducible refine Kd.C_drew ?_))); (case side2 => exact (Kd.R_reads' HO_8.out).2.1); (case side3 => repeat (first | exact (Kd.R_reads' HO266.out).2.2 | (with_reducible refine Kd.C_alloc ?_ _) | (with_reducible refine Kd.C_drewN ?_ _) | (with_reducible refine Kd.C_drew ?_))); (case side4 => exact (Kd.R_reads' HO266.out).2.1); rintro e w' ⟨rfl, ⟨nd, rfl⟩⟩; refine ⟨_, rfl, ?_⟩) | ((with_reducible refine gate_callee (f := 44) rfl ?_); refine goesL_ (some 59) rfl rfl Try.func44 (by kernel_rfl) rfl #[.slice Ao16 t254.length co16, .int .i64 1] rfl (by (try simp only [List.map_toArray, List.map_cons, List.map_nil]); first | done | rfl | (simp only [List.length_drop, List.length_take]; rfl)) ?_; (with_reducible refine (laws_markIntS.calls kj7 (fun k_ => some k_ = (.slice Ao16 t254.length co16 : Value).ownBlock) (.slice Ao16 t254.length co16) t254 1 t268 t269 w _ ?side1 ?side2 A41.out).mono ?_); (case side1 => repeat (first | (with_reducible first | exact HB.out | apply below_alloc | apply pw_below_drewN | apply below_drew1 | refine below_set ?_ GE253.out | refine below_set ?_ GE262.out) | exact HB.out)); (case side2 => exact Kd.R_tight rfl HO_8.out); rintro e w45 ⟨rfl, hy0, hb, hkp⟩; refine ⟨_, rfl, ?_⟩; have n0_ := Aside0.mk (Kd.R_reok rfl hy0 (fun k_ e_ => HO_8.out.1 k_ e_)); have n1_ := Aside0.mk (Kd.V_mono (ok' := fun k_ => some k_ ≠ (.slice Ao16 t254.length co16 : Value).ownBlock ∧ some k_ ≠ (.slice Ao19 t257.length co19 : Value).ownBlock ∧ some k_ ≠ (.slice Ao44 t264.length co44 : Value).ownBlock ∧ k_ ≠ gb253 ∧ k_ ≠ gb262) (Kd.V_keptB (HO_254000.out) hkp (fun k_ hk_ hs_ => by first | exact (hk_.1.1) hs_ | exact absurd hs_ (by simp [hk_]; done) | grind)) (fun k_ hk_ => by first | exact ⟨hk_.1.1.1, hk_.1.1.2.1, hk_.1.2, hk_.1.1.2.2.1, hk_.1.1.2.2.2⟩ | (simp [hk_]; done) | grind)); have n2_ := Aside0.mk (Kd.R_mono (ok' := fun k_ => some k_ ≠ (.slice Ao16 t254.length co16 : Value).ownBlock ∧ some k_ ≠ (.slice Ao44 t264.length co44 : Value).ownBlock) (Kd.R_keptB (HO_263000.out) hkp (fun k_ hk_ hs_ => by first | exact (hk_.1) hs_ | exact absurd hs_ (by simp [hk_]; done) | grind)) (fun k_ hk_ => by first | exact ⟨hk_.1.1, hk_.1.2⟩ | (simp [hk_]; done) | grind)); have n3_ := Aside0.mk (blk_kept (by (with_reducible repeat (first | refine blk_drewN ?_ _ | refine blk_drew ?_ | refine blk_alloc ?_ _)); exact BK253.out) hkp (fun hs_ => (fun e_ => (Kd.R_ne HO_8.out BK253.out (by decide)) e_) hs_)); have n4_ := Aside0.mk (blk_kept (by (with_reducible repeat (first | refine blk_drewN ?_ _ | refine blk_drew ?_ | refine blk_alloc ?_ _)); exact BK262.out) hkp (fun hs_ => (fun e_ => (Kd.R_ne HO_8.out BK262.out (by decide)) e_) hs_)); have n5_ := Aside0.mk (Kd.R_mono (ok' := fun k_ => some k_ ≠ (.slice Ao16 t254.length co16 : Value).ownBlock ∧ some k_ ≠ (.slice Ao19 t257.length co19 : Value).ownBlock) (Kd.R_keptB (HO266.out) hkp (fun k_ hk_ hs_ => by first | exact (hk_.1.2) hs_ | exact absurd hs_ (by simp [hk_]; done) | grind)) (fun k_ hk_ => by first | exact ⟨hk_.1.1.2, hk_.1.2⟩ | (simp [hk_]; done) | grind)); have n6_ := Aside0.mk (hb); clear HO_8; clear HO_254000; clear HO_263000; clear BK253; clear BK262; clear HO266; clear HB; have HO_8 := n0_; have HO_254000 := n1_; have HO_263000 := n2_; have BK253 := n3_; have BK262 := n4_; have HO266 := n5_; have HB := n6_; clear n0_ n1_ n2_ n3_ n4_ n5_ n6_; (try clear hb); (try clear hkp); (try clear hy0)))
            (try simp only [Act.put, List.setIfInBounds_toArray, List.set_cons_zero, List.set_cons_succ])
            go_cut [77] (fun v77 wc => ∃ (kq : Nat) (x77_41 : Bool), v77 = .bool x77_41 ∧ Aside0 (laws_FnExactNearestHeard.j1 kq a0 l1 t251 t252 x77_41 t248 t257 = some true) ∧ Aside0 (kq ≤ kj7) ∧ Aside0 (Kd.V (Kd.int .i64) 3 wc w.heap.size (fun k_ => some k_ ≠ ((.slice Ao19 t257.length co19) : Value).ownBlock ∧ k_ ≠ gb253 ∧ k_ ≠ gb262) (.slice Ao13 t248.length co13) t248) ∧ Aside0 (Kd.R (Kd.int .i64) 3 wc w.heap.size (fun _ => True) (.slice Ao19 t257.length co19) t257) ∧ Aside0 (wc.heap[gb253]? = some (.cells #[(.slice Ao13 t248.length co13)] 29 (0, 0))) ∧ Aside0 (wc.heap[gb262]? = some (.cells #[(.slice Ao19 t257.length co19)] 29 (0, 0))) ∧ Aside0 (Below w.heap.size w wc))
            case first =>
              have H := HC42.out
              clear HC42
              by_cases c46 : t268 < 0
              · rw [if_pos c46] at H
                have c46b0 : decide (t268 < 0) = true := decide_eq_true c46
                clear c46
                (first | rw [c46b0] | (simp only [i64_w, i32_w]; rw [c46b0]) | skip)
                have H' := Aside0.mk H
                clear H
                go_wp2
                go_meet
                case rel => exact ⟨_, (true), (by first | rfl | (simp; done) | (simp [*]; done)), H', ⟨by have := HJ7.out; first | omega | exact Nat.le_refl _⟩, ⟨by (with_reducible repeat (first | apply Kd.V_alloc | apply Kd.V_drewN | apply Kd.V_drew)); exact Kd.V_mono HO_254000.out (fun _ hk => ⟨hk.2.1, ⟨hk.2.2.2.1, hk.2.2.2.2⟩⟩)⟩, ⟨by (with_reducible repeat (first | apply Kd.R_alloc | apply Kd.R_drewN | apply Kd.R_drew)); exact Kd.R_mono HO_263000.out (fun _ hk => trivial)⟩, ⟨by (with_reducible repeat (first | refine blk_drewN ?_ _ | refine blk_drew ?_ | refine blk_alloc ?_ _)); exact BK253.out⟩, ⟨by (with_reducible repeat (first | refine blk_drewN ?_ _ | refine blk_drew ?_ | refine blk_alloc ?_ _)); exact BK262.out⟩, ⟨by repeat (first | (with_reducible first | exact HB.out | apply below_alloc | apply pw_below_drewN | apply below_drew1 | refine below_set ?_ GE253.out | refine below_set ?_ GE262.out) | exact HB.out)⟩⟩
              · rw [if_neg c46] at H
                have c46b0 : decide (t268 < 0) = false := decide_eq_false c46
                clear c46
                (first | rw [c46b0] | (simp only [i64_w, i32_w]; rw [c46b0]) | skip)
                replace H := Option.bind_eq_some_iff.mp H
                obtain ⟨t270, A470, H⟩ := H
                replace H : (if t270 = true then (if t260 = t251 then (laws_FnExactNearestHeard.j1 kj7 a0 l1 t251 t252 (t261 != t252) t248 t257) else (laws_FnExactNearestHeard.j1 kj7 a0 l1 t251 t252 true t248 t257)) else (laws_FnExactNearestHeard.j1 kj7 a0 l1 t251 t252 true t248 t257)) = some true := H
                have A47 := Aside0.mk A470
                clear A470
                by_cases c48 : t270 = true
                · subst c48
                  have H1 : (if t260 = t251 then (laws_FnExactNearestHeard.j1 kj7 a0 l1 t251 t252 (t261 != t252) t248 t257) else (laws_FnExactNearestHeard.j1 kj7 a0 l1 t251 t252 true t248 t257)) = some true := by first | (rw [if_pos rfl] at H; exact H) | rfl
                  clear H
                  have H := H1
                  clear H1
                  by_cases c49 : t260 = t251
                  · rw [if_pos c49] at H
                    have c49b0 : (t260 == t251) = true := beq_iff_eq.mpr c49
                    have c49b1 : (t260 != t251) = false := bne_eq_false_iff_eq.mpr c49
                    clear c49
                    have H' := Aside0.mk H
                    clear H
                    have hnb50 := NB262_253.out
                    have hnc50 := NB253_262.out
                    have hcz51_0 : w45.cell? ⟨gb262, 0, none⟩ = some (.slice Ao19 t257.length co19) := (blk_cell BK262.out 0).trans rfl
                    have hfz51_0 := blk_frozen BK262.out 0
                    have hcz52_0 : w45.cell? ⟨gb253, 0, none⟩ = some (.slice Ao13 t248.length co13) := (blk_cell BK253.out 0).trans rfl
                    have hfz52_0 := blk_frozen BK253.out 0
                    go_wp2_with (first | (go_at_call 33; (with_reducible refine (laws_eqCircle.calls kj7 _ _ t257 _ _ t248 true _ ?side1 ?side2 ?side3 ?side4 A47.out).mono ?_); (case side1 => repeat (first | exact (Kd.R_reads' HO_263000.out).2.2 | (with_reducible refine Kd.C_alloc ?_ _) | (with_reducible refine Kd.C_drewN ?_ _) | (with_reducible refine Kd.C_drew ?_))); (case side2 => exact (Kd.R_reads' HO_263000.out).2.1); (case side3 => repeat (first | exact (Kd.V_reads' HO_254000.out).2.2 | (with_reducible refine Kd.C_alloc ?_ _) | (with_reducible refine Kd.C_drewN ?_ _) | (with_reducible refine Kd.C_drew ?_))); (case side4 => exact (Kd.V_reads' HO_254000.out).2.1); rintro e w53 ⟨rfl, hb⟩; have n0_ := Aside0.mk (Kd.R_below (by (with_reducible repeat (first | apply Kd.R_alloc | apply Kd.R_drewN | apply Kd.R_drew)); exact HO_8.out) hb); have n1_ := Aside0.mk (Kd.V_below (by (with_reducible repeat (first | apply Kd.V_alloc | apply Kd.V_drewN | apply Kd.V_drew)); exact HO_254000.out) hb); have n2_ := Aside0.mk (Kd.R_below (by (with_reducible repeat (first | apply Kd.R_alloc | apply Kd.R_drewN | apply Kd.R_drew)); exact HO_263000.out) hb); have n3_ := Aside0.mk (Kd.R_below (by (with_reducible repeat (first | apply Kd.R_alloc | apply Kd.R_drewN | apply Kd.R_drew)); exact HO266.out) hb); have n4_ := Aside0.mk (blk_below (g := gb253) (o := .cells #[.slice Ao13 t248.length co13] 29 (0, 0)) (by (with_reducible repeat (first | refine blk_drewN ?_ _ | refine blk_drew ?_ | refine blk_alloc ?_ _)); exact BK253.out) hb); have n5_ := Aside0.mk (blk_below (g := gb262) (o := .cells #[.slice Ao19 t257.length co19] 29 (0, 0)) (by (with_reducible repeat (first | refine blk_drewN ?_ _ | refine blk_drew ?_ | refine blk_alloc ?_ _)); exact BK262.out) hb); have n6_ := Aside0.mk (below_step (by repeat (first | (with_reducible first | exact HB.out | apply below_alloc | apply pw_below_drewN | apply below_drew1 | refine below_set ?_ GE253.out | refine below_set ?_ GE262.out) | exact HB.out)) hb); clear HO_8; clear HO_254000; clear HO_263000; clear HO266; clear BK253; clear BK262; clear HB; have HO_8 := n0_; have HO_254000 := n1_; have HO_263000 := n2_; have HO266 := n3_; have BK253 := n4_; have BK262 := n5_; have HB := n6_; clear n0_ n1_ n2_ n3_ n4_ n5_ n6_; (try clear hb); (try clear hb2); (try clear hk); (try clear hi)))
                    go_meet
                    case rel => exact ⟨_, ((t261 != t252)), (by first | rfl | (simp; done) | (simp [*]; done)), H', ⟨by have := HJ7.out; first | omega | exact Nat.le_refl _⟩, ⟨by (with_reducible repeat (first | apply Kd.V_alloc | apply Kd.V_drewN | apply Kd.V_drew)); exact Kd.V_mono HO_254000.out (fun _ hk => ⟨hk.2.1, ⟨hk.2.2.2.1, hk.2.2.2.2⟩⟩)⟩, ⟨by (with_reducible repeat (first | apply Kd.R_alloc | apply Kd.R_drewN | apply Kd.R_drew)); exact Kd.R_mono HO_263000.out (fun _ hk => trivial)⟩, ⟨by (with_reducible repeat (first | refine blk_drewN ?_ _ | refine blk_drew ?_ | refine blk_alloc ?_ _)); exact BK253.out⟩, ⟨by (with_reducible repeat (first | refine blk_drewN ?_ _ | refine blk_drew ?_ | refine blk_alloc ?_ _)); exact BK262.out⟩, ⟨by repeat (first | (with_reducible first | exact HB.out | apply below_alloc | apply pw_below_drewN | apply below_drew1 | refine below_set ?_ GE253.out | refine below_set ?_ GE262.out) | exact HB.out)⟩⟩
                  · rw [if_neg c49] at H
                    have c49b0 : (t260 == t251) = false := beq_eq_false_iff_ne.mpr c49
                    have c49b1 : (t260 != t251) = true := bne_iff_ne.mpr c49
                    have H' := Aside0.mk H
                    clear H
                    have hnb54 := NB262_253.out
                    have hnc54 := NB253_262.out
                    have hcz55_0 : w45.cell? ⟨gb262, 0, none⟩ = some (.slice Ao19 t257.length co19) := (blk_cell BK262.out 0).trans rfl
                    have hfz55_0 := blk_frozen BK262.out 0
                    have hcz56_0 : w45.cell? ⟨gb253, 0, none⟩ = some (.slice Ao13 t248.length co13) := (blk_cell BK253.out 0).trans rfl
                    have hfz56_0 := blk_frozen BK253.out 0
                    go_wp2_with (first | (go_at_call 33; (with_reducible refine (laws_eqCircle.calls kj7 _ _ t257 _ _ t248 true _ ?side1 ?side2 ?side3 ?side4 A47.out).mono ?_); (case side1 => repeat (first | exact (Kd.R_reads' HO_263000.out).2.2 | (with_reducible refine Kd.C_alloc ?_ _) | (with_reducible refine Kd.C_drewN ?_ _) | (with_reducible refine Kd.C_drew ?_))); (case side2 => exact (Kd.R_reads' HO_263000.out).2.1); (case side3 => repeat (first | exact (Kd.V_reads' HO_254000.out).2.2 | (with_reducible refine Kd.C_alloc ?_ _) | (with_reducible refine Kd.C_drewN ?_ _) | (with_reducible refine Kd.C_drew ?_))); (case side4 => exact (Kd.V_reads' HO_254000.out).2.1); rintro e w57 ⟨rfl, hb⟩; have n0_ := Aside0.mk (Kd.R_below (by (with_reducible repeat (first | apply Kd.R_alloc | apply Kd.R_drewN | apply Kd.R_drew)); exact HO_8.out) hb); have n1_ := Aside0.mk (Kd.V_below (by (with_reducible repeat (first | apply Kd.V_alloc | apply Kd.V_drewN | apply Kd.V_drew)); exact HO_254000.out) hb); have n2_ := Aside0.mk (Kd.R_below (by (with_reducible repeat (first | apply Kd.R_alloc | apply Kd.R_drewN | apply Kd.R_drew)); exact HO_263000.out) hb); have n3_ := Aside0.mk (Kd.R_below (by (with_reducible repeat (first | apply Kd.R_alloc | apply Kd.R_drewN | apply Kd.R_drew)); exact HO266.out) hb); have n4_ := Aside0.mk (blk_below (g := gb253) (o := .cells #[.slice Ao13 t248.length co13] 29 (0, 0)) (by (with_reducible repeat (first | refine blk_drewN ?_ _ | refine blk_drew ?_ | refine blk_alloc ?_ _)); exact BK253.out) hb); have n5_ := Aside0.mk (blk_below (g := gb262) (o := .cells #[.slice Ao19 t257.length co19] 29 (0, 0)) (by (with_reducible repeat (first | refine blk_drewN ?_ _ | refine blk_drew ?_ | refine blk_alloc ?_ _)); exact BK262.out) hb); have n6_ := Aside0.mk (below_step (by repeat (first | (with_reducible first | exact HB.out | apply below_alloc | apply pw_below_drewN | apply below_drew1 | refine below_set ?_ GE253.out | refine below_set ?_ GE262.out) | exact HB.out)) hb); clear HO_8; clear HO_254000; clear HO_263000; clear HO266; clear BK253; clear BK262; clear HB; have HO_8 := n0_; have HO_254000 := n1_; have HO_263000 := n2_; have HO266 := n3_; have BK253 := n4_; have BK262 := n5_; have HB := n6_; clear n0_ n1_ n2_ n3_ n4_ n5_ n6_; (try clear hb); (try clear hb2); (try clear hk); (try clear hi)))
                    go_meet
                    case rel => exact ⟨_, (true), (by first | rfl | (simp; done) | (simp [*]; done)), H', ⟨by have := HJ7.out; first | omega | exact Nat.le_refl _⟩, ⟨by (with_reducible repeat (first | apply Kd.V_alloc | apply Kd.V_drewN | apply Kd.V_drew)); exact Kd.V_mono HO_254000.out (fun _ hk => ⟨hk.2.1, ⟨hk.2.2.2.1, hk.2.2.2.2⟩⟩)⟩, ⟨by (with_reducible repeat (first | apply Kd.R_alloc | apply Kd.R_drewN | apply Kd.R_drew)); exact Kd.R_mono HO_263000.out (fun _ hk => trivial)⟩, ⟨by (with_reducible repeat (first | refine blk_drewN ?_ _ | refine blk_drew ?_ | refine blk_alloc ?_ _)); exact BK253.out⟩, ⟨by (with_reducible repeat (first | refine blk_drewN ?_ _ | refine blk_drew ?_ | refine blk_alloc ?_ _)); exact BK262.out⟩, ⟨by repeat (first | (with_reducible first | exact HB.out | apply below_alloc | apply pw_below_drewN | apply below_drew1 | refine below_set ?_ GE253.out | refine below_set ?_ GE262.out) | exact HB.out)⟩⟩
                · replace c48 := Bool.eq_false_iff.mpr c48
                  subst c48
                  have H1 : (laws_FnExactNearestHeard.j1 kj7 a0 l1 t251 t252 true t248 t257) = some true := by first | (rw [if_neg (show ¬ (false = true) by decide)] at H; exact H) | rfl
                  clear H
                  have H := H1
                  clear H1
                  have H' := Aside0.mk H
                  clear H
                  have hnb58 := NB262_253.out
                  have hnc58 := NB253_262.out
                  have hcz59_0 : w45.cell? ⟨gb262, 0, none⟩ = some (.slice Ao19 t257.length co19) := (blk_cell BK262.out 0).trans rfl
                  have hfz59_0 := blk_frozen BK262.out 0
                  have hcz60_0 : w45.cell? ⟨gb253, 0, none⟩ = some (.slice Ao13 t248.length co13) := (blk_cell BK253.out 0).trans rfl
                  have hfz60_0 := blk_frozen BK253.out 0
                  go_wp2_with (first | (go_at_call 33; (with_reducible refine (laws_eqCircle.calls kj7 _ _ t257 _ _ t248 false _ ?side1 ?side2 ?side3 ?side4 A47.out).mono ?_); (case side1 => repeat (first | exact (Kd.R_reads' HO_263000.out).2.2 | (with_reducible refine Kd.C_alloc ?_ _) | (with_reducible refine Kd.C_drewN ?_ _) | (with_reducible refine Kd.C_drew ?_))); (case side2 => exact (Kd.R_reads' HO_263000.out).2.1); (case side3 => repeat (first | exact (Kd.V_reads' HO_254000.out).2.2 | (with_reducible refine Kd.C_alloc ?_ _) | (with_reducible refine Kd.C_drewN ?_ _) | (with_reducible refine Kd.C_drew ?_))); (case side4 => exact (Kd.V_reads' HO_254000.out).2.1); rintro e w61 ⟨rfl, hb⟩; have n0_ := Aside0.mk (Kd.R_below (by (with_reducible repeat (first | apply Kd.R_alloc | apply Kd.R_drewN | apply Kd.R_drew)); exact HO_8.out) hb); have n1_ := Aside0.mk (Kd.V_below (by (with_reducible repeat (first | apply Kd.V_alloc | apply Kd.V_drewN | apply Kd.V_drew)); exact HO_254000.out) hb); have n2_ := Aside0.mk (Kd.R_below (by (with_reducible repeat (first | apply Kd.R_alloc | apply Kd.R_drewN | apply Kd.R_drew)); exact HO_263000.out) hb); have n3_ := Aside0.mk (Kd.R_below (by (with_reducible repeat (first | apply Kd.R_alloc | apply Kd.R_drewN | apply Kd.R_drew)); exact HO266.out) hb); have n4_ := Aside0.mk (blk_below (g := gb253) (o := .cells #[.slice Ao13 t248.length co13] 29 (0, 0)) (by (with_reducible repeat (first | refine blk_drewN ?_ _ | refine blk_drew ?_ | refine blk_alloc ?_ _)); exact BK253.out) hb); have n5_ := Aside0.mk (blk_below (g := gb262) (o := .cells #[.slice Ao19 t257.length co19] 29 (0, 0)) (by (with_reducible repeat (first | refine blk_drewN ?_ _ | refine blk_drew ?_ | refine blk_alloc ?_ _)); exact BK262.out) hb); have n6_ := Aside0.mk (below_step (by repeat (first | (with_reducible first | exact HB.out | apply below_alloc | apply pw_below_drewN | apply below_drew1 | refine below_set ?_ GE253.out | refine below_set ?_ GE262.out) | exact HB.out)) hb); clear HO_8; clear HO_254000; clear HO_263000; clear HO266; clear BK253; clear BK262; clear HB; have HO_8 := n0_; have HO_254000 := n1_; have HO_263000 := n2_; have HO266 := n3_; have BK253 := n4_; have BK262 := n5_; have HB := n6_; clear n0_ n1_ n2_ n3_ n4_ n5_ n6_; (try clear hb); (try clear hb2); (try clear hk); (try clear hi)))
                  go_meet
                  case rel => exact ⟨_, (true), (by first | rfl | (simp; done) | (simp [*]; done)), H', ⟨by have := HJ7.out; first | omega | exact Nat.le_refl _⟩, ⟨by (with_reducible repeat (first | apply Kd.V_alloc | apply Kd.V_drewN | apply Kd.V_drew)); exact Kd.V_mono HO_254000.out (fun _ hk => ⟨hk.2.1, ⟨hk.2.2.2.1, hk.2.2.2.2⟩⟩)⟩, ⟨by (with_reducible repeat (first | apply Kd.R_alloc | apply Kd.R_drewN | apply Kd.R_drew)); exact Kd.R_mono HO_263000.out (fun _ hk => trivial)⟩, ⟨by (with_reducible repeat (first | refine blk_drewN ?_ _ | refine blk_drew ?_ | refine blk_alloc ?_ _)); exact BK253.out⟩, ⟨by (with_reducible repeat (first | refine blk_drewN ?_ _ | refine blk_drew ?_ | refine blk_alloc ?_ _)); exact BK262.out⟩, ⟨by repeat (first | (with_reducible first | exact HB.out | apply below_alloc | apply pw_below_drewN | apply below_drew1 | refine below_set ?_ GE253.out | refine below_set ?_ GE262.out) | exact HB.out)⟩⟩
            case rest =>
              clear HC42
              try clear c1
              try clear c2
              try clear p2
              try clear c3
              try clear c3b0
              try clear c3b1
              try clear c4
              try clear c5
              try clear c10
              try clear c20
              try clear c23
              try clear c24
              try clear c24b0
              try clear c24b1
              try clear c25
              try clear c29
              try clear c33
              try clear c37
              try clear c40
              try clear c42
              try clear c43
              try clear c44
              try clear c45
              try clear c46
              try clear c46b0
              try clear c48
              try clear c49
              try clear c49b0
              try clear c49b1
              try clear c50
              try clear c54
              try clear c58
              try clear hcz14_0
              try clear hcz21_0
              try clear hcz26_0
              try clear hcz27_0
              try clear hcz30_0
              try clear hcz31_0
              try clear hcz34_0
              try clear hcz35_0
              try clear hcz51_0
              try clear hcz52_0
              try clear hcz55_0
              try clear hcz56_0
              try clear hcz59_0
              try clear hcz60_0
              try clear hfz14_0
              try clear hfz21_0
              try clear hfz26_0
              try clear hfz27_0
              try clear hfz30_0
              try clear hfz31_0
              try clear hfz34_0
              try clear hfz35_0
              try clear hfz51_0
              try clear hfz52_0
              try clear hfz55_0
              try clear hfz56_0
              try clear hfz59_0
              try clear hfz60_0
              try clear p2
              obtain ⟨kq, x77_41, rfl, HA, HJ41, HO_254000, HO_263000, BK253, BK262, HB⟩ := hcut
              cases kq with
              | zero => exact absurd HA.out (by simp [laws_FnExactNearestHeard.j1])
              | succ kj41 =>
                have H := HA.out
                clear HA
                simp only [laws_FnExactNearestHeard.j1] at H
                by_cases c62 : x77_41 = true
                · subst c62
                  have H1 : (some false) = some true := by first | (rw [if_pos rfl] at H; exact H) | rfl
                  clear H
                  have H := H1
                  clear H1
                  exact absurd (Option.some.inj H) (by decide)
                · replace c62 := Bool.eq_false_iff.mpr c62
                  subst c62
                  have H1 : ((laws_markCircle.f kj41 t257 1).bind fun bt271 => ((laws_heldCircle.f kj41 bt271.2 1).bind fun t273 => (if t273 < 0 then (some false) else (if t273 = bt271.1 then ((laws_toIntS.f kj41 l1).bind fun t274 => ((impl_NearestHeard.f a0 t274).bind fun bt277 => ((laws_eqCircle.f kj41 bt277.1 t248).bind fun t283 => (if t283 = true then (if bt277.2.1 = t251 then (laws_FnExactNearestHeard.j2 kj41 bt271.1 (bt277.2.2 != t252) bt271.2) else (laws_FnExactNearestHeard.j2 kj41 bt271.1 true bt271.2)) else (laws_FnExactNearestHeard.j2 kj41 bt271.1 true bt271.2))))) else (some false))))) = some true := by first | (rw [if_neg (show ¬ (false = true) by decide)] at H; exact H) | rfl
                  clear H
                  have H := H1
                  clear H1
                  replace H := Option.bind_eq_some_iff.mp H
                  obtain ⟨⟨t271, t272⟩, A630, H⟩ := H
                  replace H : ((laws_heldCircle.f kj41 t272 1).bind fun t273 => (if t273 < 0 then (some false) else (if t273 = t271 then ((laws_toIntS.f kj41 l1).bind fun t274 => ((impl_NearestHeard.f a0 t274).bind fun bt277 => ((laws_eqCircle.f kj41 bt277.1 t248).bind fun t283 => (if t283 = true then (if bt277.2.1 = t251 then (laws_FnExactNearestHeard.j2 kj41 t271 (bt277.2.2 != t252) t272) else (laws_FnExactNearestHeard.j2 kj41 t271 true t272)) else (laws_FnExactNearestHeard.j2 kj41 t271 true t272))))) else (some false)))) = some true := H
                  have A63 := Aside0.mk A630
                  clear A630
                  replace H := Option.bind_eq_some_iff.mp H
                  obtain ⟨t273, A640, H⟩ := H
                  replace H : (if t273 < 0 then (some false) else (if t273 = t271 then ((laws_toIntS.f kj41 l1).bind fun t274 => ((impl_NearestHeard.f a0 t274).bind fun bt277 => ((laws_eqCircle.f kj41 bt277.1 t248).bind fun t283 => (if t283 = true then (if bt277.2.1 = t251 then (laws_FnExactNearestHeard.j2 kj41 t271 (bt277.2.2 != t252) t272) else (laws_FnExactNearestHeard.j2 kj41 t271 true t272)) else (laws_FnExactNearestHeard.j2 kj41 t271 true t272))))) else (some false))) = some true := H
                  have A64 := Aside0.mk A640
                  clear A640
                  by_cases c65 : t273 < 0
                  · rw [if_pos c65] at H
                    have c65b0 : decide (t273 < 0) = true := decide_eq_true c65
                    clear c65
                    exact absurd (Option.some.inj H) (by decide)
                  · rw [if_neg c65] at H
                    have c65b0 : decide (t273 < 0) = false := decide_eq_false c65
                    clear c65
                    by_cases c71 : t273 = t271
                    · rw [if_pos c71] at H
                      have c71b0 : (t273 == t271) = true := beq_iff_eq.mpr c71
                      have c71b1 : (t273 != t271) = false := bne_eq_false_iff_eq.mpr c71
                      clear c71
                      replace H := Option.bind_eq_some_iff.mp H
                      obtain ⟨t274, A720, H⟩ := H
                      replace H : ((impl_NearestHeard.f a0 t274).bind fun bt277 => ((laws_eqCircle.f kj41 bt277.1 t248).bind fun t283 => (if t283 = true then (if bt277.2.1 = t251 then (laws_FnExactNearestHeard.j2 kj41 t271 (bt277.2.2 != t252) t272) else (laws_FnExactNearestHeard.j2 kj41 t271 true t272)) else (laws_FnExactNearestHeard.j2 kj41 t271 true t272)))) = some true := H
                      have A72 := Aside0.mk A720
                      clear A720
                      replace H := Option.bind_eq_some_iff.mp H
                      obtain ⟨⟨t277, t280, t281⟩, A730, H⟩ := H
                      replace H : ((laws_eqCircle.f kj41 t277 t248).bind fun t283 => (if t283 = true then (if t280 = t251 then (laws_FnExactNearestHeard.j2 kj41 t271 (t281 != t252) t272) else (laws_FnExactNearestHeard.j2 kj41 t271 true t272)) else (laws_FnExactNearestHeard.j2 kj41 t271 true t272))) = some true := H
                      have A73 := Aside0.mk A730
                      clear A730
                      have HC74 := Aside0.mk H
                      clear H
                      have hnb75 := NB262_253.out
                      have hnc75 := NB253_262.out
                      have hcz76_0 : wc.cell? ⟨gb262, 0, none⟩ = some (.slice Ao19 t257.length co19) := (blk_cell BK262.out 0).trans rfl
                      have hfz76_0 := blk_frozen BK262.out 0
                      go_upto_region 23 with (first | ((with_reducible refine gate_callee (f := 46) rfl ?_); refine goesL_ (some 80) rfl rfl Try.func46 (by kernel_rfl) rfl #[.agg #[.slice Ao19 t257.length co19], .int .i64 1] rfl (by (try simp only [List.map_toArray, List.map_cons, List.map_nil]); first | done | rfl | (simp only [List.length_drop, List.length_take]; rfl)) ?_; (with_reducible refine (laws_markCircle.calls kj41 (fun k_ => some k_ = (.slice Ao19 t257.length co19 : Value).ownBlock) (.slice Ao19 t257.length co19) t257 1 t271 t272 w _ ?side1 ?side2 A63.out).mono ?_); (case side1 => repeat (first | (with_reducible first | exact HB.out | apply below_alloc | apply pw_below_drewN | apply below_drew1 | refine below_set ?_ GE253.out | refine below_set ?_ GE262.out) | exact HB.out)); (case side2 => exact Kd.R_tight rfl HO_263000.out); rintro e w77 ⟨rfl, hy0, hb, hkp⟩; refine ⟨_, rfl, ?_⟩; have n0_ := Aside0.mk (Kd.V_mono (ok' := fun k_ => some k_ ≠ (.slice Ao19 t257.length co19 : Value).ownBlock ∧ k_ ≠ gb253 ∧ k_ ≠ gb262) (Kd.V_keptB (HO_254000.out) hkp (fun k_ hk_ hs_ => by first | exact (hk_.1) hs_ | exact absurd hs_ (by simp [hk_]; done) | grind)) (fun k_ hk_ => by first | exact ⟨hk_.1.1, hk_.1.2.1, hk_.1.2.2⟩ | (simp [hk_]; done) | grind)); have n1_ := Aside0.mk (Kd.R_reok rfl hy0 (fun k_ e_ => HO_263000.out.1 k_ e_)); have n2_ := Aside0.mk (blk_kept (by (with_reducible repeat (first | refine blk_drewN ?_ _ | refine blk_drew ?_ | refine blk_alloc ?_ _)); exact BK253.out) hkp (fun hs_ => (fun e_ => (Kd.R_ne HO_263000.out BK253.out (by decide)) e_) hs_)); have n3_ := Aside0.mk (blk_kept (by (with_reducible repeat (first | refine blk_drewN ?_ _ | refine blk_drew ?_ | refine blk_alloc ?_ _)); exact BK262.out) hkp (fun hs_ => (fun e_ => (Kd.R_ne HO_263000.out BK262.out (by decide)) e_) hs_)); have n4_ := Aside0.mk (hb); clear HO_254000; clear HO_263000; clear BK253; clear BK262; clear HB; have HO_254000 := n0_; have HO_263000 := n1_; have BK253 := n2_; have BK262 := n3_; have HB := n4_; clear n0_ n1_ n2_ n3_ n4_; (try clear hb); (try clear hkp); (try clear hy0); have hcz78_0 : w77.cell? ⟨gb262, 0, none⟩ = some (.slice Ao19 t257.length co19) := (blk_cell BK262.out 0).trans rfl; have hfz78_0 := blk_frozen BK262.out 0) | ((with_reducible refine gate_callee (f := 47) rfl ?_); refine goesL_ (some 83) rfl rfl Try.func47 (by kernel_rfl) rfl #[.agg #[.slice Ao19 t272.length co19], .int .i64 1] rfl (by (try simp only [List.map_toArray, List.map_cons, List.map_nil]); first | done | (rw [show t272.length = t257.length from (Kd.R_reads' HO_263000.out).1.symm] <;> rfl) | rfl | (simp only [List.length_drop, List.length_take]; rfl)) ?_; (with_reducible refine (laws_heldCircle.calls kj41 _ _ t272 1 t273 _ ?side1 ?side2 A64.out).mono ?_); (case side1 => repeat (first | exact (Kd.R_reads' HO_263000.out).2.2 | (with_reducible refine Kd.C_alloc ?_ _) | (with_reducible refine Kd.C_drewN ?_ _) | (with_reducible refine Kd.C_drew ?_))); (case side2 => rw [show t272.length = t257.length from (Kd.R_reads' HO_263000.out).1.symm]; exact (Kd.R_reads' HO_263000.out).2.1); rintro e w79 ⟨rfl, hb⟩; refine ⟨_, rfl, ?_⟩; have n0_ := Aside0.mk (Kd.V_below (by (with_reducible repeat (first | apply Kd.V_alloc | apply Kd.V_drewN | apply Kd.V_drew)); exact HO_254000.out) hb); have n1_ := Aside0.mk (Kd.R_below (by (with_reducible repeat (first | apply Kd.R_alloc | apply Kd.R_drewN | apply Kd.R_drew)); exact HO_263000.out) hb); have n2_ := Aside0.mk (blk_below (g := gb253) (o := .cells #[.slice Ao13 t248.length co13] 29 (0, 0)) (by (with_reducible repeat (first | refine blk_drewN ?_ _ | refine blk_drew ?_ | refine blk_alloc ?_ _)); exact BK253.out) hb); have n3_ := Aside0.mk (blk_below (g := gb262) (o := .cells #[.slice Ao19 t257.length co19] 29 (0, 0)) (by (with_reducible repeat (first | refine blk_drewN ?_ _ | refine blk_drew ?_ | refine blk_alloc ?_ _)); exact BK262.out) hb); have n4_ := Aside0.mk (below_step (by repeat (first | (with_reducible first | exact HB.out | apply below_alloc | apply pw_below_drewN | apply below_drew1 | refine below_set ?_ GE253.out | refine below_set ?_ GE262.out) | exact HB.out)) hb); clear HO_254000; clear HO_263000; clear BK253; clear BK262; clear HB; have HO_254000 := n0_; have HO_263000 := n1_; have BK253 := n2_; have BK262 := n3_; have HB := n4_; clear n0_ n1_ n2_ n3_ n4_; (try clear hb); (try clear hb2); (try clear hk); (try clear hi)) | ((with_reducible refine gate_callee (f := 42) rfl ?_); refine goesL_ (some 92) rfl rfl Try.func42 (by kernel_rfl) rfl #[.slice A1 l1.length c1] rfl (by (try simp only [List.map_toArray, List.map_cons, List.map_nil]); first | done | rfl | (simp only [List.length_drop, List.length_take]; rfl)) ?_; (with_reducible refine (laws_toIntS.calls kj41 _ _ l1 t274 _ ?side1 ?side2 A72.out).mono ?_); (case side1 => repeat (first | exact (Kd.C_below HR1.out HB.out) | (with_reducible refine Kd.C_alloc ?_ _) | (with_reducible refine Kd.C_drewN ?_ _) | (with_reducible refine Kd.C_drew ?_))); (case side2 => exact HC1.out); rintro e w80 ⟨v275, rfl, ho0, hb⟩; refine ⟨_, rfl, ?_⟩; have n0_ := Aside0.mk (Kd.V_elder' (by (with_reducible repeat (first | apply Kd.V_alloc | apply Kd.V_drewN | apply Kd.V_drew)); exact HO_254000.out) (Kd.R_base ho0) hb); have n1_ := Aside0.mk (Kd.R_elder' (by (with_reducible repeat (first | apply Kd.R_alloc | apply Kd.R_drewN | apply Kd.R_drew)); exact HO_263000.out) (Kd.R_base ho0) hb); have n2_ := Aside0.mk (Kd.R_lower (Kd.R_new' ho0 (Kd.R_lt (by (with_reducible repeat (first | apply Kd.R_alloc | apply Kd.R_drewN | apply Kd.R_drew)); exact HO_263000.out))) (below_size (by repeat (first | (with_reducible first | exact HB.out | apply below_alloc | apply pw_below_drewN | apply below_drew1 | refine below_set ?_ GE253.out | refine below_set ?_ GE262.out) | exact HB.out)))); have n3_ := Aside0.mk (blk_below (g := gb253) (o := .cells #[.slice Ao13 t248.length co13] 29 (0, 0)) (by (with_reducible repeat (first | refine blk_drewN ?_ _ | refine blk_drew ?_ | refine blk_alloc ?_ _)); exact BK253.out) hb); have n4_ := Aside0.mk (blk_below (g := gb262) (o := .cells #[.slice Ao19 t257.length co19] 29 (0, 0)) (by (with_reducible repeat (first | refine blk_drewN ?_ _ | refine blk_drew ?_ | refine blk_alloc ?_ _)); exact BK262.out) hb); have n5_ := Aside0.mk (below_step (by repeat (first | (with_reducible first | exact HB.out | apply below_alloc | apply pw_below_drewN | apply below_drew1 | refine below_set ?_ GE253.out | refine below_set ?_ GE262.out) | exact HB.out)) hb); clear HO_254000; clear HO_263000; clear BK253; clear BK262; clear HB; have HO_254000 := n0_; have HO_263000 := n1_; have HO276 := n2_; have BK253 := n3_; have BK262 := n4_; have HB := n5_; clear n0_ n1_ n2_ n3_ n4_ n5_; (try clear hb); (try clear hb2); (try clear hk); (try clear hi); (try clear ho0); obtain ⟨Ao81, co81, eo81⟩ := Kd.R_slice HO276.out; subst eo81) | ((with_reducible refine gate_callee (f := 23) rfl ?_); refine goesL_ (some 93) rfl rfl Try.func23 (by kernel_rfl) rfl #[.int .i64 a0, .slice Ao81 t274.length co81] rfl (by (try simp only [List.map_toArray, List.map_cons, List.map_nil]); first | done | rfl | (simp only [List.length_drop, List.length_take]; rfl)) ?_; (with_reducible refine (impl_NearestHeard.calls a0 _ _ t274 t277 t280 t281 _ ?side1 ?side2 A73.out).mono ?_); (case side1 => repeat (first | exact (Kd.R_reads' HO276.out).2.2 | (with_reducible refine Kd.C_alloc ?_ _) | (with_reducible refine Kd.C_drewN ?_ _) | (with_reducible refine Kd.C_drew ?_))); (case side2 => exact (Kd.R_reads' HO276.out).2.1); rintro e w82 ⟨v278, rfl, ho0, hb⟩; refine ⟨_, rfl, ?_⟩; have n0_ := Aside0.mk (Kd.V_elder' (by (with_reducible repeat (first | apply Kd.V_alloc | apply Kd.V_drewN | apply Kd.V_drew)); exact HO_254000.out) (Kd.R_base ho0) hb); have n1_ := Aside0.mk (Kd.R_elder' (by (with_reducible repeat (first | apply Kd.R_alloc | apply Kd.R_drewN | apply Kd.R_drew)); exact HO_263000.out) (Kd.R_base ho0) hb); have n2_ := Aside0.mk (Kd.R_elder' (by (with_reducible repeat (first | apply Kd.R_alloc | apply Kd.R_drewN | apply Kd.R_drew)); exact HO276.out) (Kd.R_base ho0) hb); have n3_ := Aside0.mk (Kd.R_lower (Kd.R_new' (Kd.R_new' ho0 (Kd.R_lt (by (with_reducible repeat (first | apply Kd.R_alloc | apply Kd.R_drewN | apply Kd.R_drew)); exact HO_263000.out))) (Kd.R_lt (by (with_reducible repeat (first | apply Kd.R_alloc | apply Kd.R_drewN | apply Kd.R_drew)); exact HO276.out))) (below_size (by repeat (first | (with_reducible first | exact HB.out | apply below_alloc | apply pw_below_drewN | apply below_drew1 | refine below_set ?_ GE253.out | refine below_set ?_ GE262.out) | exact HB.out)))); have n4_ := Aside0.mk (blk_below (g := gb253) (o := .cells #[.slice Ao13 t248.length co13] 29 (0, 0)) (by (with_reducible repeat (first | refine blk_drewN ?_ _ | refine blk_drew ?_ | refine blk_alloc ?_ _)); exact BK253.out) hb); have n5_ := Aside0.mk (blk_below (g := gb262) (o := .cells #[.slice Ao19 t257.length co19] 29 (0, 0)) (by (with_reducible repeat (first | refine blk_drewN ?_ _ | refine blk_drew ?_ | refine blk_alloc ?_ _)); exact BK262.out) hb); have n6_ := Aside0.mk (below_step (by repeat (first | (with_reducible first | exact HB.out | apply below_alloc | apply pw_below_drewN | apply below_drew1 | refine below_set ?_ GE253.out | refine below_set ?_ GE262.out) | exact HB.out)) hb); clear HO_254000; clear HO_263000; clear HO276; clear BK253; clear BK262; clear HB; have HO_254000 := n0_; have HO_263000 := n1_; have HO276 := n2_; have HO279 := n3_; have BK253 := n4_; have BK262 := n5_; have HB := n6_; clear n0_ n1_ n2_ n3_ n4_ n5_ n6_; (try clear hb); (try clear hb2); (try clear hk); (try clear hi); (try clear ho0)) | ((with_reducible refine gate_dst (N := 15) rfl ?_); refine box_event ?hg (N := 15) ?hd (cs := #[.slice none 0 0]) (t := 29) ?hr ?_; (case hd => rfl); (case hg => rfl); (case hr => first | (go_simp; done) | (go_simp; rfl)); intro gb282 hg w83 hbox hb; have n0_ := Aside0.mk (Kd.V_below (Kd.V_elderB (by (with_reducible repeat (first | apply Kd.V_alloc | apply Kd.V_drewN | apply Kd.V_drew)); exact HO_254000.out) gb282 (Nat.le_of_eq hg.symm)) hb); have n1_ := Aside0.mk (Kd.R_below (by (with_reducible repeat (first | apply Kd.R_alloc | apply Kd.R_drewN | apply Kd.R_drew)); exact HO_263000.out) hb); have n2_ := Aside0.mk (Kd.R_below (by (with_reducible repeat (first | apply Kd.R_alloc | apply Kd.R_drewN | apply Kd.R_drew)); exact HO276.out) hb); have n3_ := Aside0.mk (Kd.R_below (by (with_reducible repeat (first | apply Kd.R_alloc | apply Kd.R_drewN | apply Kd.R_drew)); exact HO279.out) hb); have n4_ := Aside0.mk (blk_below (g := gb253) (o := .cells #[.slice Ao13 t248.length co13] 29 (0, 0)) (by (with_reducible repeat (first | refine blk_drewN ?_ _ | refine blk_drew ?_ | refine blk_alloc ?_ _)); exact BK253.out) hb); have n5_ := Aside0.mk (blk_below (g := gb262) (o := .cells #[.slice Ao19 t257.length co19] 29 (0, 0)) (by (with_reducible repeat (first | refine blk_drewN ?_ _ | refine blk_drew ?_ | refine blk_alloc ?_ _)); exact BK262.out) hb); have n6_ := Aside0.mk (below_step (by repeat (first | (with_reducible first | exact HB.out | apply below_alloc | apply pw_below_drewN | apply below_drew1 | refine below_set ?_ GE253.out | refine below_set ?_ GE262.out) | exact HB.out)) hb); have n7_ := Aside0.mk (hbox); have n8_ := Aside0.mk ((by rw [hg]; exact (below_size (by repeat (first | (with_reducible first | exact HB.out | apply below_alloc | apply pw_below_drewN | apply below_drew1 | refine below_set ?_ GE253.out | refine below_set ?_ GE262.out) | exact HB.out))) : w.heap.size ≤ gb282)); have n9_ := Aside0.mk ((by rw [hg]; exact (below_size (by repeat (first | (with_reducible first | exact HB.out | apply below_alloc | apply pw_below_drewN | apply below_drew1 | refine below_set ?_ GE253.out | refine below_set ?_ GE262.out) | exact HB.out))) : w.heap.size ≤ gb282)); have n10_ := Aside0.mk ((by rw [hg]; exact Nat.ne_of_lt (blk_lt (g := gb253) (o := .cells #[.slice Ao13 t248.length co13] 29 (0, 0)) (by (with_reducible repeat (first | refine blk_drewN ?_ _ | refine blk_drew ?_ | refine blk_alloc ?_ _)); exact BK253.out)) : gb253 ≠ gb282)); have n11_ := Aside0.mk ((by rw [hg]; exact Nat.ne_of_gt (blk_lt (g := gb253) (o := .cells #[.slice Ao13 t248.length co13] 29 (0, 0)) (by (with_reducible repeat (first | refine blk_drewN ?_ _ | refine blk_drew ?_ | refine blk_alloc ?_ _)); exact BK253.out)) : gb282 ≠ gb253)); have n12_ := Aside0.mk ((by rw [hg]; exact Nat.ne_of_lt (blk_lt (g := gb262) (o := .cells #[.slice Ao19 t257.length co19] 29 (0, 0)) (by (with_reducible repeat (first | refine blk_drewN ?_ _ | refine blk_drew ?_ | refine blk_alloc ?_ _)); exact BK262.out)) : gb262 ≠ gb282)); have n13_ := Aside0.mk ((by rw [hg]; exact Nat.ne_of_gt (blk_lt (g := gb262) (o := .cells #[.slice Ao19 t257.length co19] 29 (0, 0)) (by (with_reducible repeat (first | refine blk_drewN ?_ _ | refine blk_drew ?_ | refine blk_alloc ?_ _)); exact BK262.out)) : gb282 ≠ gb262)); clear HO_254000; clear HO_263000; clear HO276; clear HO279; clear BK253; clear BK262; clear HB; have HO_254000 := n0_; have HO_263000 := n1_; have HO276 := n2_; have HO279 := n3_; have BK253 := n4_; have BK262 := n5_; have HB := n6_; have BK282 := n7_; have GW282 := n8_; have GE282 := n9_; have NB253_282 := n10_; have NB282_253 := n11_; have NB262_282 := n12_; have NB282_262 := n13_; clear n0_ n1_ n2_ n3_ n4_ n5_ n6_ n7_ n8_ n9_ n10_ n11_ n12_ n13_; clear hb hbox hg; obtain ⟨Ao84, co84, eo84⟩ := Kd.R_slice HO279.out; subst eo84; have hnb85 := NB282_253.out; have hnc85 := NB253_282.out; have hnb86 := NB282_262.out; have hnc86 := NB262_282.out; have hcz87_0 : w83.cell? ⟨gb282, 0, none⟩ = some (.slice none 0 0) := (blk_cell BK282.out 0).trans rfl; have hfz87_0 := blk_frozen BK282.out 0))
                      (try simp only [Act.put, List.setIfInBounds_toArray, List.set_cons_zero, List.set_cons_succ])
                      go_cut [110] (fun v110 wc => ∃ (kq : Nat) (x110_73 : Bool), v110 = .bool x110_73 ∧ Aside0 (laws_FnExactNearestHeard.j2 kq t271 x110_73 t272 = some true) ∧ Aside0 (kq ≤ kj41) ∧ Aside0 (Kd.V (Kd.int .i64) 3 wc w.heap.size (fun k_ => some k_ ≠ ((.slice Ao19 t257.length co19) : Value).ownBlock ∧ some k_ ≠ ((.slice Ao84 t277.length co84) : Value).ownBlock ∧ k_ ≠ gb253 ∧ k_ ≠ gb262 ∧ k_ ≠ gb282) (.slice Ao13 t248.length co13) t248) ∧ Aside0 (Kd.R (Kd.int .i64) 3 wc w.heap.size (fun k_ => some k_ ≠ ((.slice Ao84 t277.length co84) : Value).ownBlock) (.slice Ao19 t257.length co19) t272) ∧ Aside0 (Kd.R (Kd.int .i64) 3 wc w.heap.size (fun k_ => some k_ ≠ ((.slice Ao19 t257.length co19) : Value).ownBlock) (.slice Ao84 t277.length co84) t277) ∧ Aside0 (wc.heap[gb253]? = some (.cells #[(.slice Ao13 t248.length co13)] 29 (0, 0))) ∧ Aside0 (wc.heap[gb262]? = some (.cells #[(.slice Ao19 t257.length co19)] 29 (0, 0))) ∧ Aside0 (wc.heap[gb282]? = some (.cells #[(.slice Ao84 t277.length co84)] 29 (0, 0))) ∧ Aside0 (Below w.heap.size w wc))
                      case first =>
                        have H := HC74.out
                        clear HC74
                        replace H := Option.bind_eq_some_iff.mp H
                        obtain ⟨t283, A880, H⟩ := H
                        replace H : (if t283 = true then (if t280 = t251 then (laws_FnExactNearestHeard.j2 kj41 t271 (t281 != t252) t272) else (laws_FnExactNearestHeard.j2 kj41 t271 true t272)) else (laws_FnExactNearestHeard.j2 kj41 t271 true t272)) = some true := H
                        have A88 := Aside0.mk A880
                        clear A880
                        by_cases c89 : t283 = true
                        · subst c89
                          have H1 : (if t280 = t251 then (laws_FnExactNearestHeard.j2 kj41 t271 (t281 != t252) t272) else (laws_FnExactNearestHeard.j2 kj41 t271 true t272)) = some true := by first | (rw [if_pos rfl] at H; exact H) | rfl
                          clear H
                          have H := H1
                          clear H1
                          by_cases c90 : t280 = t251
                          · rw [if_pos c90] at H
                            have c90b0 : (t280 == t251) = true := beq_iff_eq.mpr c90
                            have c90b1 : (t280 != t251) = false := bne_eq_false_iff_eq.mpr c90
                            clear c90
                            (first | rw [c90b0] | (simp only [i64_w, i32_w]; rw [c90b0]) | skip)
                            have H' := Aside0.mk H
                            clear H
                            have hnb91 := NB282_253.out
                            have hnc91 := NB253_282.out
                            have hnb92 := NB282_262.out
                            have hnc92 := NB262_282.out
                            have hcz93_0 : w83.cell? ⟨gb282, 0, none⟩ = some (.slice none 0 0) := (blk_cell BK282.out 0).trans rfl
                            have hfz93_0 := blk_frozen BK282.out 0
                            have hnb94 := NB253_262.out
                            have hnc94 := NB262_253.out
                            have hcz95_0 : w83.cell? ⟨gb253, 0, none⟩ = some (.slice Ao13 t248.length co13) := (blk_cell BK253.out 0).trans rfl
                            have hfz95_0 := blk_frozen BK253.out 0
                            go_wp2_with (first | ((with_reducible refine gate_callee (f := 33) rfl ?_); refine goesL_ (some 99) rfl rfl Try.func33 (by kernel_rfl) rfl #[.agg #[.slice Ao84 t277.length co84], .agg #[.slice Ao13 t248.length co13]] rfl (by (try simp only [List.map_toArray, List.map_cons, List.map_nil]); first | done | rfl | (simp only [List.length_drop, List.length_take]; rfl)) ?_; (with_reducible refine (laws_eqCircle.calls kj41 _ _ t277 _ _ t248 true _ ?side1 ?side2 ?side3 ?side4 A88.out).mono ?_); (case side1 => refine (Kd.R_reads' (e := 3) (base := w.heap.size) (ok := fun k_ => ((True ∧ some k_ ≠ (.slice Ao19 t257.length co19 : Value).ownBlock) ∧ some k_ ≠ (.slice Ao81 t274.length co81 : Value).ownBlock)) (n := t277.length) (c := co84) ?_).2.2; exact (by (with_reducible repeat (first | apply Kd.R_alloc | apply Kd.R_drewN | apply Kd.R_drew)); exact (Kd.R_mono (Kd.R_far (p := ⟨gb282, 0, none⟩) (Kd.R_types HO279.out BK282.out (by decide)) (fun _ hk => by first | exact hk.2 | (simp [hk]; done) | grind) (.slice Ao84 t277.length co84)) (fun _ h_ => h_.1)))); (case side2 => exact (Kd.R_reads' HO279.out).2.1); (case side3 => refine (Kd.V_reads' (e := 3) (base := w.heap.size) (ok := fun k_ => ((((some k_ ≠ (.slice Ao19 t257.length co19 : Value).ownBlock ∧ (k_ ≠ gb253 ∧ k_ ≠ gb262)) ∧ some k_ ≠ (.slice Ao81 t274.length co81 : Value).ownBlock) ∧ some k_ ≠ (.slice Ao84 t277.length co84 : Value).ownBlock) ∧ k_ ≠ gb282)) (n := t248.length) (c := co13) ?_).2.2; exact (by (with_reducible repeat (first | apply Kd.V_alloc | apply Kd.V_drewN | apply Kd.V_drew)); exact (Kd.V_mono (Kd.V_far (p := ⟨gb282, 0, none⟩) (Kd.V_mono HO_254000.out (fun k_ hk => (⟨hk, hk.2⟩ : _ ∧ k_ ≠ gb282))) (fun _ hk => by first | exact hk.2 | (simp [hk]; done) | grind) (.slice Ao84 t277.length co84)) (fun _ h_ => h_.1)))); (case side4 => exact (Kd.V_reads' HO_254000.out).2.1); rintro e w96 ⟨rfl, hb⟩; refine ⟨_, rfl, ?_⟩; have n0_ := Aside0.mk (Kd.V_below (by (with_reducible repeat (first | apply Kd.V_alloc | apply Kd.V_drewN | apply Kd.V_drew)); exact (Kd.V_mono (Kd.V_far (p := ⟨gb282, 0, none⟩) (Kd.V_mono HO_254000.out (fun k_ hk => (⟨hk, hk.2⟩ : _ ∧ k_ ≠ gb282))) (fun _ hk => by first | exact hk.2 | (simp [hk]; done) | grind) (.slice Ao84 t277.length co84)) (fun _ h_ => h_.1))) hb); have n1_ := Aside0.mk (Kd.R_below (by (with_reducible repeat (first | apply Kd.R_alloc | apply Kd.R_drewN | apply Kd.R_drew)); exact (Kd.R_mono (Kd.R_far (p := ⟨gb282, 0, none⟩) (Kd.R_types HO_263000.out BK282.out (by decide)) (fun _ hk => by first | exact hk.2 | (simp [hk]; done) | grind) (.slice Ao84 t277.length co84)) (fun _ h_ => h_.1))) hb); have n2_ := Aside0.mk (Kd.R_below (by (with_reducible repeat (first | apply Kd.R_alloc | apply Kd.R_drewN | apply Kd.R_drew)); exact (Kd.R_mono (Kd.R_far (p := ⟨gb282, 0, none⟩) (Kd.R_types HO276.out BK282.out (by decide)) (fun _ hk => by first | exact hk.2 | (simp [hk]; done) | grind) (.slice Ao84 t277.length co84)) (fun _ h_ => h_.1))) hb); have n3_ := Aside0.mk (Kd.R_below (by (with_reducible repeat (first | apply Kd.R_alloc | apply Kd.R_drewN | apply Kd.R_drew)); exact (Kd.R_mono (Kd.R_far (p := ⟨gb282, 0, none⟩) (Kd.R_types HO279.out BK282.out (by decide)) (fun _ hk => by first | exact hk.2 | (simp [hk]; done) | grind) (.slice Ao84 t277.length co84)) (fun _ h_ => h_.1))) hb); have n4_ := Aside0.mk (blk_below (g := gb253) (o := .cells #[.slice Ao13 t248.length co13] 29 (0, 0)) (by (with_reducible repeat (first | refine blk_drewN ?_ _ | refine blk_drew ?_ | refine blk_alloc ?_ _)); refine blk_far ?_ NB253_282.out _; (with_reducible repeat (first | refine blk_drewN ?_ _ | refine blk_drew ?_ | refine blk_alloc ?_ _)); exact BK253.out) hb); have n5_ := Aside0.mk (blk_below (g := gb262) (o := .cells #[.slice Ao19 t257.length co19] 29 (0, 0)) (by (with_reducible repeat (first | refine blk_drewN ?_ _ | refine blk_drew ?_ | refine blk_alloc ?_ _)); refine blk_far ?_ NB262_282.out _; (with_reducible repeat (first | refine blk_drewN ?_ _ | refine blk_drew ?_ | refine blk_alloc ?_ _)); exact BK262.out) hb); have n6_ := Aside0.mk (blk_below (g := gb282) (o := .cells #[.slice Ao84 t277.length co84] 29 (0, 0)) (by (with_reducible repeat (first | refine blk_drewN ?_ _ | refine blk_drew ?_ | refine blk_alloc ?_ _)); refine blk_put (cs := #[.slice none 0 0]) ?_ 0 _ rfl; (with_reducible repeat (first | refine blk_drewN ?_ _ | refine blk_drew ?_ | refine blk_alloc ?_ _)); exact BK282.out) hb); have n7_ := Aside0.mk (below_step (by repeat (first | (with_reducible first | exact HB.out | apply below_alloc | apply pw_below_drewN | apply below_drew1 | refine below_set ?_ GE253.out | refine below_set ?_ GE262.out | refine below_set ?_ GE282.out) | exact HB.out)) hb); clear HO_254000; clear HO_263000; clear HO276; clear HO279; clear BK253; clear BK262; clear BK282; clear HB; have HO_254000 := n0_; have HO_263000 := n1_; have HO276 := n2_; have HO279 := n3_; have BK253 := n4_; have BK262 := n5_; have BK282 := n6_; have HB := n7_; clear n0_ n1_ n2_ n3_ n4_ n5_ n6_ n7_; (try clear hb); (try clear hb2); (try clear hk); (try clear hi)))
                            go_meet
                            case rel => exact ⟨_, ((t281 != t252)), (by first | rfl | (simp; done) | (simp [*]; done)), H', ⟨by have := HJ7.out; have := HJ41.out; first | omega | exact Nat.le_refl _⟩, ⟨by (with_reducible repeat (first | apply Kd.V_alloc | apply Kd.V_drewN | apply Kd.V_drew)); exact Kd.V_mono HO_254000.out (fun _ hk => ⟨hk.1.1.1.1, ⟨hk.1.2, ⟨hk.1.1.1.2.1, ⟨hk.1.1.1.2.2, hk.2⟩⟩⟩⟩)⟩, ⟨by (with_reducible repeat (first | apply Kd.R_alloc | apply Kd.R_drewN | apply Kd.R_drew)); exact Kd.R_mono HO_263000.out (fun _ hk => by first | exact hk.2 | (simp [hk]; done) | grind)⟩, ⟨by (with_reducible repeat (first | apply Kd.R_alloc | apply Kd.R_drewN | apply Kd.R_drew)); exact Kd.R_mono HO279.out (fun _ hk => by first | exact hk.1.2 | (simp [hk]; done) | grind)⟩, ⟨by (with_reducible repeat (first | refine blk_drewN ?_ _ | refine blk_drew ?_ | refine blk_alloc ?_ _)); exact BK253.out⟩, ⟨by (with_reducible repeat (first | refine blk_drewN ?_ _ | refine blk_drew ?_ | refine blk_alloc ?_ _)); exact BK262.out⟩, ⟨by (with_reducible repeat (first | refine blk_drewN ?_ _ | refine blk_drew ?_ | refine blk_alloc ?_ _)); exact BK282.out⟩, ⟨by repeat (first | (with_reducible first | exact HB.out | apply below_alloc | apply pw_below_drewN | apply below_drew1 | refine below_set ?_ GE253.out | refine below_set ?_ GE262.out | refine below_set ?_ GE282.out) | exact HB.out)⟩⟩
                          · rw [if_neg c90] at H
                            have c90b0 : (t280 == t251) = false := beq_eq_false_iff_ne.mpr c90
                            have c90b1 : (t280 != t251) = true := bne_iff_ne.mpr c90
                            (first | rw [c90b0] | (simp only [i64_w, i32_w]; rw [c90b0]) | skip)
                            have H' := Aside0.mk H
                            clear H
                            have hnb97 := NB282_253.out
                            have hnc97 := NB253_282.out
                            have hnb98 := NB282_262.out
                            have hnc98 := NB262_282.out
                            have hcz99_0 : w83.cell? ⟨gb282, 0, none⟩ = some (.slice none 0 0) := (blk_cell BK282.out 0).trans rfl
                            have hfz99_0 := blk_frozen BK282.out 0
                            have hnb100 := NB253_262.out
                            have hnc100 := NB262_253.out
                            have hcz101_0 : w83.cell? ⟨gb253, 0, none⟩ = some (.slice Ao13 t248.length co13) := (blk_cell BK253.out 0).trans rfl
                            have hfz101_0 := blk_frozen BK253.out 0
                            go_wp2_with (first | ((with_reducible refine gate_callee (f := 33) rfl ?_); refine goesL_ (some 99) rfl rfl Try.func33 (by kernel_rfl) rfl #[.agg #[.slice Ao84 t277.length co84], .agg #[.slice Ao13 t248.length co13]] rfl (by (try simp only [List.map_toArray, List.map_cons, List.map_nil]); first | done | rfl | (simp only [List.length_drop, List.length_take]; rfl)) ?_; (with_reducible refine (laws_eqCircle.calls kj41 _ _ t277 _ _ t248 true _ ?side1 ?side2 ?side3 ?side4 A88.out).mono ?_); (case side1 => refine (Kd.R_reads' (e := 3) (base := w.heap.size) (ok := fun k_ => ((True ∧ some k_ ≠ (.slice Ao19 t257.length co19 : Value).ownBlock) ∧ some k_ ≠ (.slice Ao81 t274.length co81 : Value).ownBlock)) (n := t277.length) (c := co84) ?_).2.2; exact (by (with_reducible repeat (first | apply Kd.R_alloc | apply Kd.R_drewN | apply Kd.R_drew)); exact (Kd.R_mono (Kd.R_far (p := ⟨gb282, 0, none⟩) (Kd.R_types HO279.out BK282.out (by decide)) (fun _ hk => by first | exact hk.2 | (simp [hk]; done) | grind) (.slice Ao84 t277.length co84)) (fun _ h_ => h_.1)))); (case side2 => exact (Kd.R_reads' HO279.out).2.1); (case side3 => refine (Kd.V_reads' (e := 3) (base := w.heap.size) (ok := fun k_ => ((((some k_ ≠ (.slice Ao19 t257.length co19 : Value).ownBlock ∧ (k_ ≠ gb253 ∧ k_ ≠ gb262)) ∧ some k_ ≠ (.slice Ao81 t274.length co81 : Value).ownBlock) ∧ some k_ ≠ (.slice Ao84 t277.length co84 : Value).ownBlock) ∧ k_ ≠ gb282)) (n := t248.length) (c := co13) ?_).2.2; exact (by (with_reducible repeat (first | apply Kd.V_alloc | apply Kd.V_drewN | apply Kd.V_drew)); exact (Kd.V_mono (Kd.V_far (p := ⟨gb282, 0, none⟩) (Kd.V_mono HO_254000.out (fun k_ hk => (⟨hk, hk.2⟩ : _ ∧ k_ ≠ gb282))) (fun _ hk => by first | exact hk.2 | (simp [hk]; done) | grind) (.slice Ao84 t277.length co84)) (fun _ h_ => h_.1)))); (case side4 => exact (Kd.V_reads' HO_254000.out).2.1); rintro e w102 ⟨rfl, hb⟩; refine ⟨_, rfl, ?_⟩; have n0_ := Aside0.mk (Kd.V_below (by (with_reducible repeat (first | apply Kd.V_alloc | apply Kd.V_drewN | apply Kd.V_drew)); exact (Kd.V_mono (Kd.V_far (p := ⟨gb282, 0, none⟩) (Kd.V_mono HO_254000.out (fun k_ hk => (⟨hk, hk.2⟩ : _ ∧ k_ ≠ gb282))) (fun _ hk => by first | exact hk.2 | (simp [hk]; done) | grind) (.slice Ao84 t277.length co84)) (fun _ h_ => h_.1))) hb); have n1_ := Aside0.mk (Kd.R_below (by (with_reducible repeat (first | apply Kd.R_alloc | apply Kd.R_drewN | apply Kd.R_drew)); exact (Kd.R_mono (Kd.R_far (p := ⟨gb282, 0, none⟩) (Kd.R_types HO_263000.out BK282.out (by decide)) (fun _ hk => by first | exact hk.2 | (simp [hk]; done) | grind) (.slice Ao84 t277.length co84)) (fun _ h_ => h_.1))) hb); have n2_ := Aside0.mk (Kd.R_below (by (with_reducible repeat (first | apply Kd.R_alloc | apply Kd.R_drewN | apply Kd.R_drew)); exact (Kd.R_mono (Kd.R_far (p := ⟨gb282, 0, none⟩) (Kd.R_types HO276.out BK282.out (by decide)) (fun _ hk => by first | exact hk.2 | (simp [hk]; done) | grind) (.slice Ao84 t277.length co84)) (fun _ h_ => h_.1))) hb); have n3_ := Aside0.mk (Kd.R_below (by (with_reducible repeat (first | apply Kd.R_alloc | apply Kd.R_drewN | apply Kd.R_drew)); exact (Kd.R_mono (Kd.R_far (p := ⟨gb282, 0, none⟩) (Kd.R_types HO279.out BK282.out (by decide)) (fun _ hk => by first | exact hk.2 | (simp [hk]; done) | grind) (.slice Ao84 t277.length co84)) (fun _ h_ => h_.1))) hb); have n4_ := Aside0.mk (blk_below (g := gb253) (o := .cells #[.slice Ao13 t248.length co13] 29 (0, 0)) (by (with_reducible repeat (first | refine blk_drewN ?_ _ | refine blk_drew ?_ | refine blk_alloc ?_ _)); refine blk_far ?_ NB253_282.out _; (with_reducible repeat (first | refine blk_drewN ?_ _ | refine blk_drew ?_ | refine blk_alloc ?_ _)); exact BK253.out) hb); have n5_ := Aside0.mk (blk_below (g := gb262) (o := .cells #[.slice Ao19 t257.length co19] 29 (0, 0)) (by (with_reducible repeat (first | refine blk_drewN ?_ _ | refine blk_drew ?_ | refine blk_alloc ?_ _)); refine blk_far ?_ NB262_282.out _; (with_reducible repeat (first | refine blk_drewN ?_ _ | refine blk_drew ?_ | refine blk_alloc ?_ _)); exact BK262.out) hb); have n6_ := Aside0.mk (blk_below (g := gb282) (o := .cells #[.slice Ao84 t277.length co84] 29 (0, 0)) (by (with_reducible repeat (first | refine blk_drewN ?_ _ | refine blk_drew ?_ | refine blk_alloc ?_ _)); refine blk_put (cs := #[.slice none 0 0]) ?_ 0 _ rfl; (with_reducible repeat (first | refine blk_drewN ?_ _ | refine blk_drew ?_ | refine blk_alloc ?_ _)); exact BK282.out) hb); have n7_ := Aside0.mk (below_step (by repeat (first | (with_reducible first | exact HB.out | apply below_alloc | apply pw_below_drewN | apply below_drew1 | refine below_set ?_ GE253.out | refine below_set ?_ GE262.out | refine below_set ?_ GE282.out) | exact HB.out)) hb); clear HO_254000; clear HO_263000; clear HO276; clear HO279; clear BK253; clear BK262; clear BK282; clear HB; have HO_254000 := n0_; have HO_263000 := n1_; have HO276 := n2_; have HO279 := n3_; have BK253 := n4_; have BK262 := n5_; have BK282 := n6_; have HB := n7_; clear n0_ n1_ n2_ n3_ n4_ n5_ n6_ n7_; (try clear hb); (try clear hb2); (try clear hk); (try clear hi)))
                            go_meet
                            case rel => exact ⟨_, (true), (by first | rfl | (simp; done) | (simp [*]; done)), H', ⟨by have := HJ7.out; have := HJ41.out; first | omega | exact Nat.le_refl _⟩, ⟨by (with_reducible repeat (first | apply Kd.V_alloc | apply Kd.V_drewN | apply Kd.V_drew)); exact Kd.V_mono HO_254000.out (fun _ hk => ⟨hk.1.1.1.1, ⟨hk.1.2, ⟨hk.1.1.1.2.1, ⟨hk.1.1.1.2.2, hk.2⟩⟩⟩⟩)⟩, ⟨by (with_reducible repeat (first | apply Kd.R_alloc | apply Kd.R_drewN | apply Kd.R_drew)); exact Kd.R_mono HO_263000.out (fun _ hk => by first | exact hk.2 | (simp [hk]; done) | grind)⟩, ⟨by (with_reducible repeat (first | apply Kd.R_alloc | apply Kd.R_drewN | apply Kd.R_drew)); exact Kd.R_mono HO279.out (fun _ hk => by first | exact hk.1.2 | (simp [hk]; done) | grind)⟩, ⟨by (with_reducible repeat (first | refine blk_drewN ?_ _ | refine blk_drew ?_ | refine blk_alloc ?_ _)); exact BK253.out⟩, ⟨by (with_reducible repeat (first | refine blk_drewN ?_ _ | refine blk_drew ?_ | refine blk_alloc ?_ _)); exact BK262.out⟩, ⟨by (with_reducible repeat (first | refine blk_drewN ?_ _ | refine blk_drew ?_ | refine blk_alloc ?_ _)); exact BK282.out⟩, ⟨by repeat (first | (with_reducible first | exact HB.out | apply below_alloc | apply pw_below_drewN | apply below_drew1 | refine below_set ?_ GE253.out | refine below_set ?_ GE262.out | refine below_set ?_ GE282.out) | exact HB.out)⟩⟩
                        · replace c89 := Bool.eq_false_iff.mpr c89
                          subst c89
                          have H1 : (laws_FnExactNearestHeard.j2 kj41 t271 true t272) = some true := by first | (rw [if_neg (show ¬ (false = true) by decide)] at H; exact H) | rfl
                          clear H
                          have H := H1
                          clear H1
                          have H' := Aside0.mk H
                          clear H
                          have hnb103 := NB282_253.out
                          have hnc103 := NB253_282.out
                          have hnb104 := NB282_262.out
                          have hnc104 := NB262_282.out
                          have hcz105_0 : w83.cell? ⟨gb282, 0, none⟩ = some (.slice none 0 0) := (blk_cell BK282.out 0).trans rfl
                          have hfz105_0 := blk_frozen BK282.out 0
                          have hnb106 := NB253_262.out
                          have hnc106 := NB262_253.out
                          have hcz107_0 : w83.cell? ⟨gb253, 0, none⟩ = some (.slice Ao13 t248.length co13) := (blk_cell BK253.out 0).trans rfl
                          have hfz107_0 := blk_frozen BK253.out 0
                          go_wp2_with (first | ((with_reducible refine gate_callee (f := 33) rfl ?_); refine goesL_ (some 99) rfl rfl Try.func33 (by kernel_rfl) rfl #[.agg #[.slice Ao84 t277.length co84], .agg #[.slice Ao13 t248.length co13]] rfl (by (try simp only [List.map_toArray, List.map_cons, List.map_nil]); first | done | rfl | (simp only [List.length_drop, List.length_take]; rfl)) ?_; (with_reducible refine (laws_eqCircle.calls kj41 _ _ t277 _ _ t248 false _ ?side1 ?side2 ?side3 ?side4 A88.out).mono ?_); (case side1 => refine (Kd.R_reads' (e := 3) (base := w.heap.size) (ok := fun k_ => ((True ∧ some k_ ≠ (.slice Ao19 t257.length co19 : Value).ownBlock) ∧ some k_ ≠ (.slice Ao81 t274.length co81 : Value).ownBlock)) (n := t277.length) (c := co84) ?_).2.2; exact (by (with_reducible repeat (first | apply Kd.R_alloc | apply Kd.R_drewN | apply Kd.R_drew)); exact (Kd.R_mono (Kd.R_far (p := ⟨gb282, 0, none⟩) (Kd.R_types HO279.out BK282.out (by decide)) (fun _ hk => by first | exact hk.2 | (simp [hk]; done) | grind) (.slice Ao84 t277.length co84)) (fun _ h_ => h_.1)))); (case side2 => exact (Kd.R_reads' HO279.out).2.1); (case side3 => refine (Kd.V_reads' (e := 3) (base := w.heap.size) (ok := fun k_ => ((((some k_ ≠ (.slice Ao19 t257.length co19 : Value).ownBlock ∧ (k_ ≠ gb253 ∧ k_ ≠ gb262)) ∧ some k_ ≠ (.slice Ao81 t274.length co81 : Value).ownBlock) ∧ some k_ ≠ (.slice Ao84 t277.length co84 : Value).ownBlock) ∧ k_ ≠ gb282)) (n := t248.length) (c := co13) ?_).2.2; exact (by (with_reducible repeat (first | apply Kd.V_alloc | apply Kd.V_drewN | apply Kd.V_drew)); exact (Kd.V_mono (Kd.V_far (p := ⟨gb282, 0, none⟩) (Kd.V_mono HO_254000.out (fun k_ hk => (⟨hk, hk.2⟩ : _ ∧ k_ ≠ gb282))) (fun _ hk => by first | exact hk.2 | (simp [hk]; done) | grind) (.slice Ao84 t277.length co84)) (fun _ h_ => h_.1)))); (case side4 => exact (Kd.V_reads' HO_254000.out).2.1); rintro e w108 ⟨rfl, hb⟩; refine ⟨_, rfl, ?_⟩; have n0_ := Aside0.mk (Kd.V_below (by (with_reducible repeat (first | apply Kd.V_alloc | apply Kd.V_drewN | apply Kd.V_drew)); exact (Kd.V_mono (Kd.V_far (p := ⟨gb282, 0, none⟩) (Kd.V_mono HO_254000.out (fun k_ hk => (⟨hk, hk.2⟩ : _ ∧ k_ ≠ gb282))) (fun _ hk => by first | exact hk.2 | (simp [hk]; done) | grind) (.slice Ao84 t277.length co84)) (fun _ h_ => h_.1))) hb); have n1_ := Aside0.mk (Kd.R_below (by (with_reducible repeat (first | apply Kd.R_alloc | apply Kd.R_drewN | apply Kd.R_drew)); exact (Kd.R_mono (Kd.R_far (p := ⟨gb282, 0, none⟩) (Kd.R_types HO_263000.out BK282.out (by decide)) (fun _ hk => by first | exact hk.2 | (simp [hk]; done) | grind) (.slice Ao84 t277.length co84)) (fun _ h_ => h_.1))) hb); have n2_ := Aside0.mk (Kd.R_below (by (with_reducible repeat (first | apply Kd.R_alloc | apply Kd.R_drewN | apply Kd.R_drew)); exact (Kd.R_mono (Kd.R_far (p := ⟨gb282, 0, none⟩) (Kd.R_types HO276.out BK282.out (by decide)) (fun _ hk => by first | exact hk.2 | (simp [hk]; done) | grind) (.slice Ao84 t277.length co84)) (fun _ h_ => h_.1))) hb); have n3_ := Aside0.mk (Kd.R_below (by (with_reducible repeat (first | apply Kd.R_alloc | apply Kd.R_drewN | apply Kd.R_drew)); exact (Kd.R_mono (Kd.R_far (p := ⟨gb282, 0, none⟩) (Kd.R_types HO279.out BK282.out (by decide)) (fun _ hk => by first | exact hk.2 | (simp [hk]; done) | grind) (.slice Ao84 t277.length co84)) (fun _ h_ => h_.1))) hb); have n4_ := Aside0.mk (blk_below (g := gb253) (o := .cells #[.slice Ao13 t248.length co13] 29 (0, 0)) (by (with_reducible repeat (first | refine blk_drewN ?_ _ | refine blk_drew ?_ | refine blk_alloc ?_ _)); refine blk_far ?_ NB253_282.out _; (with_reducible repeat (first | refine blk_drewN ?_ _ | refine blk_drew ?_ | refine blk_alloc ?_ _)); exact BK253.out) hb); have n5_ := Aside0.mk (blk_below (g := gb262) (o := .cells #[.slice Ao19 t257.length co19] 29 (0, 0)) (by (with_reducible repeat (first | refine blk_drewN ?_ _ | refine blk_drew ?_ | refine blk_alloc ?_ _)); refine blk_far ?_ NB262_282.out _; (with_reducible repeat (first | refine blk_drewN ?_ _ | refine blk_drew ?_ | refine blk_alloc ?_ _)); exact BK262.out) hb); have n6_ := Aside0.mk (blk_below (g := gb282) (o := .cells #[.slice Ao84 t277.length co84] 29 (0, 0)) (by (with_reducible repeat (first | refine blk_drewN ?_ _ | refine blk_drew ?_ | refine blk_alloc ?_ _)); refine blk_put (cs := #[.slice none 0 0]) ?_ 0 _ rfl; (with_reducible repeat (first | refine blk_drewN ?_ _ | refine blk_drew ?_ | refine blk_alloc ?_ _)); exact BK282.out) hb); have n7_ := Aside0.mk (below_step (by repeat (first | (with_reducible first | exact HB.out | apply below_alloc | apply pw_below_drewN | apply below_drew1 | refine below_set ?_ GE253.out | refine below_set ?_ GE262.out | refine below_set ?_ GE282.out) | exact HB.out)) hb); clear HO_254000; clear HO_263000; clear HO276; clear HO279; clear BK253; clear BK262; clear BK282; clear HB; have HO_254000 := n0_; have HO_263000 := n1_; have HO276 := n2_; have HO279 := n3_; have BK253 := n4_; have BK262 := n5_; have BK282 := n6_; have HB := n7_; clear n0_ n1_ n2_ n3_ n4_ n5_ n6_ n7_; (try clear hb); (try clear hb2); (try clear hk); (try clear hi)))
                          go_meet
                          case rel => exact ⟨_, (true), (by first | rfl | (simp; done) | (simp [*]; done)), H', ⟨by have := HJ7.out; have := HJ41.out; first | omega | exact Nat.le_refl _⟩, ⟨by (with_reducible repeat (first | apply Kd.V_alloc | apply Kd.V_drewN | apply Kd.V_drew)); exact Kd.V_mono HO_254000.out (fun _ hk => ⟨hk.1.1.1.1, ⟨hk.1.2, ⟨hk.1.1.1.2.1, ⟨hk.1.1.1.2.2, hk.2⟩⟩⟩⟩)⟩, ⟨by (with_reducible repeat (first | apply Kd.R_alloc | apply Kd.R_drewN | apply Kd.R_drew)); exact Kd.R_mono HO_263000.out (fun _ hk => by first | exact hk.2 | (simp [hk]; done) | grind)⟩, ⟨by (with_reducible repeat (first | apply Kd.R_alloc | apply Kd.R_drewN | apply Kd.R_drew)); exact Kd.R_mono HO279.out (fun _ hk => by first | exact hk.1.2 | (simp [hk]; done) | grind)⟩, ⟨by (with_reducible repeat (first | refine blk_drewN ?_ _ | refine blk_drew ?_ | refine blk_alloc ?_ _)); exact BK253.out⟩, ⟨by (with_reducible repeat (first | refine blk_drewN ?_ _ | refine blk_drew ?_ | refine blk_alloc ?_ _)); exact BK262.out⟩, ⟨by (with_reducible repeat (first | refine blk_drewN ?_ _ | refine blk_drew ?_ | refine blk_alloc ?_ _)); exact BK282.out⟩, ⟨by repeat (first | (with_reducible first | exact HB.out | apply below_alloc | apply pw_below_drewN | apply below_drew1 | refine below_set ?_ GE253.out | refine below_set ?_ GE262.out | refine below_set ?_ GE282.out) | exact HB.out)⟩⟩
                      case rest =>
                        clear HC74
                        try clear c1
                        try clear c2
                        try clear p2
                        try clear c3
                        try clear c3b0
                        try clear c3b1
                        try clear c4
                        try clear c5
                        try clear c6
                        try clear c7
                        try clear c8
                        try clear c9
                        try clear c10
                        try clear c20
                        try clear c23
                        try clear c24
                        try clear c24b0
                        try clear c24b1
                        try clear c25
                        try clear c29
                        try clear c33
                        try clear c37
                        try clear c40
                        try clear c42
                        try clear c43
                        try clear c44
                        try clear c45
                        try clear c46
                        try clear c46b0
                        try clear c47
                        try clear c48
                        try clear c49
                        try clear c49b0
                        try clear c49b1
                        try clear c50
                        try clear c54
                        try clear c58
                        try clear c62
                        try clear c65
                        try clear c65b0
                        try clear c66
                        try clear c71
                        try clear c71b0
                        try clear c71b1
                        try clear c75
                        try clear c85
                        try clear c86
                        try clear c89
                        try clear c90
                        try clear c90b0
                        try clear c90b1
                        try clear c91
                        try clear c92
                        try clear c94
                        try clear c97
                        try clear c98
                        try clear c100
                        try clear c103
                        try clear c104
                        try clear c106
                        try clear hcz101_0
                        try clear hcz105_0
                        try clear hcz107_0
                        try clear hcz14_0
                        try clear hcz21_0
                        try clear hcz26_0
                        try clear hcz27_0
                        try clear hcz30_0
                        try clear hcz31_0
                        try clear hcz34_0
                        try clear hcz35_0
                        try clear hcz51_0
                        try clear hcz52_0
                        try clear hcz55_0
                        try clear hcz56_0
                        try clear hcz59_0
                        try clear hcz60_0
                        try clear hcz67_0
                        try clear hcz69_0
                        try clear hcz76_0
                        try clear hcz78_0
                        try clear hcz87_0
                        try clear hcz93_0
                        try clear hcz95_0
                        try clear hcz99_0
                        try clear hfz101_0
                        try clear hfz105_0
                        try clear hfz107_0
                        try clear hfz14_0
                        try clear hfz21_0
                        try clear hfz26_0
                        try clear hfz27_0
                        try clear hfz30_0
                        try clear hfz31_0
                        try clear hfz34_0
                        try clear hfz35_0
                        try clear hfz51_0
                        try clear hfz52_0
                        try clear hfz55_0
                        try clear hfz56_0
                        try clear hfz59_0
                        try clear hfz60_0
                        try clear hfz67_0
                        try clear hfz69_0
                        try clear hfz76_0
                        try clear hfz78_0
                        try clear hfz87_0
                        try clear hfz93_0
                        try clear hfz95_0
                        try clear hfz99_0
                        try clear p2
                        obtain ⟨kq, x110_73, rfl, HA, HJ73, HO_254000, HO_263000, HO_283000, BK253, BK262, BK282, HB⟩ := hcut
                        have hl263000_73 := (Kd.R_reads' HO_263000.out).1
                        rw [hl263000_73] at HO_263000
                        (try simp only [hl263000_73])
                        (try simp only [hl263000_73] at BK253)
                        (try simp only [hl263000_73] at BK262)
                        (try simp only [hl263000_73] at BK282)
                        (try simp only [hl263000_73] at HO_254000)
                        (try simp only [hl263000_73] at HO_283000)
                        cases kq with
                        | zero => exact absurd HA.out (by simp [laws_FnExactNearestHeard.j2])
                        | succ kj73 =>
                          have H := HA.out
                          clear HA
                          simp only [laws_FnExactNearestHeard.j2] at H
                          by_cases c109 : x110_73 = true
                          · subst c109
                            have H1 : (some false) = some true := by first | (rw [if_pos rfl] at H; exact H) | rfl
                            clear H
                            have H := H1
                            clear H1
                            exact absurd (Option.some.inj H) (by decide)
                          · replace c109 := Bool.eq_false_iff.mpr c109
                            subst c109
                            have H1 : ((laws_heldCircle.f kj73 t272 1).bind fun t284 => (if t284 < 0 then (some false) else (if t284 = t271 then (some true) else (some false)))) = some true := by first | (rw [if_neg (show ¬ (false = true) by decide)] at H; exact H) | rfl
                            clear H
                            have H := H1
                            clear H1
                            replace H := Option.bind_eq_some_iff.mp H
                            obtain ⟨t284, A1100, H⟩ := H
                            replace H : (if t284 < 0 then (some false) else (if t284 = t271 then (some true) else (some false))) = some true := H
                            have A110 := Aside0.mk A1100
                            clear A1100
                            by_cases c111 : t284 < 0
                            · rw [if_pos c111] at H
                              have c111b0 : decide (t284 < 0) = true := decide_eq_true c111
                              clear c111
                              exact absurd (Option.some.inj H) (by decide)
                            · rw [if_neg c111] at H
                              have c111b0 : decide (t284 < 0) = false := decide_eq_false c111
                              clear c111
                              by_cases c116 : t284 = t271
                              · rw [if_pos c116] at H
                                have c116b0 : (t284 == t271) = true := beq_iff_eq.mpr c116
                                have c116b1 : (t284 != t271) = false := bne_eq_false_iff_eq.mpr c116
                                clear c116
                                have Hq_ := Aside0.mk (Option.some.inj H)
                                clear H
                                have hnb117 := NB262_253.out
                                have hnc117 := NB253_262.out
                                have hnb118 := NB262_282.out
                                have hnc118 := NB282_262.out
                                have hcz119_0 : wc.cell? ⟨gb262, 0, none⟩ = some (.slice Ao19 t272.length co19) := (blk_cell BK262.out 0).trans rfl
                                have hfz119_0 := blk_frozen BK262.out 0
                                go_wp2_with (first | ((with_reducible refine gate_callee (f := 47) rfl ?_); refine goesL_ (some 113) rfl rfl Try.func47 (by kernel_rfl) rfl #[.agg #[.slice Ao19 t272.length co19], .int .i64 1] rfl (by (try simp only [List.map_toArray, List.map_cons, List.map_nil]); first | done | rfl | (simp only [List.length_drop, List.length_take]; rfl)) ?_; (with_reducible refine (laws_heldCircle.calls kj73 _ _ t272 1 t284 _ ?side1 ?side2 A110.out).mono ?_); (case side1 => repeat (first | exact (Kd.R_reads' HO_263000.out).2.2 | (with_reducible refine Kd.C_alloc ?_ _) | (with_reducible refine Kd.C_drewN ?_ _) | (with_reducible refine Kd.C_drew ?_))); (case side2 => exact (Kd.R_reads' HO_263000.out).2.1); rintro e w120 ⟨rfl, hb⟩; refine ⟨_, rfl, ?_⟩; have n0_ := Aside0.mk (Kd.V_below (by (with_reducible repeat (first | apply Kd.V_alloc | apply Kd.V_drewN | apply Kd.V_drew)); exact HO_254000.out) hb); have n1_ := Aside0.mk (Kd.R_below (by (with_reducible repeat (first | apply Kd.R_alloc | apply Kd.R_drewN | apply Kd.R_drew)); exact HO_263000.out) hb); have n2_ := Aside0.mk (Kd.R_below (by (with_reducible repeat (first | apply Kd.R_alloc | apply Kd.R_drewN | apply Kd.R_drew)); exact HO_283000.out) hb); have n3_ := Aside0.mk (blk_below (g := gb253) (o := .cells #[.slice Ao13 t248.length co13] 29 (0, 0)) (by (with_reducible repeat (first | refine blk_drewN ?_ _ | refine blk_drew ?_ | refine blk_alloc ?_ _)); exact BK253.out) hb); have n4_ := Aside0.mk (blk_below (g := gb262) (o := .cells #[.slice Ao19 t272.length co19] 29 (0, 0)) (by (with_reducible repeat (first | refine blk_drewN ?_ _ | refine blk_drew ?_ | refine blk_alloc ?_ _)); exact BK262.out) hb); have n5_ := Aside0.mk (blk_below (g := gb282) (o := .cells #[.slice Ao84 t277.length co84] 29 (0, 0)) (by (with_reducible repeat (first | refine blk_drewN ?_ _ | refine blk_drew ?_ | refine blk_alloc ?_ _)); exact BK282.out) hb); have n6_ := Aside0.mk (below_step (by repeat (first | (with_reducible first | exact HB.out | apply below_alloc | apply pw_below_drewN | apply below_drew1 | refine below_set ?_ GE253.out | refine below_set ?_ GE262.out | refine below_set ?_ GE282.out) | exact HB.out)) hb); clear HO_254000; clear HO_263000; clear HO_283000; clear BK253; clear BK262; clear BK282; clear HB; have HO_254000 := n0_; have HO_263000 := n1_; have HO_283000 := n2_; have BK253 := n3_; have BK262 := n4_; have BK282 := n5_; have HB := n6_; clear n0_ n1_ n2_ n3_ n4_ n5_ n6_; (try clear hb); (try clear hb2); (try clear hk); (try clear hi)))
                                go_ret
                                exact ⟨by first | rfl | exact congrArg (fun b_ => Ending.returned (Value.bool b_)) Hq_.out | (simp [errW_none, errW_some]; exact beq_iff_eq.1 Hq_.out) | (simp [errW_none, errW_some]; have h_ := of_decide_eq_true Hq_.out; omega) | (simp [errW_none, errW_some]; exact Hq_.out) | (simp [errW_none, errW_some] <;> rfl) | (simp [*, errW_none, errW_some] <;> rfl), by repeat (first | (with_reducible first | exact HB.out | apply below_alloc | apply pw_below_drewN | apply below_drew1 | refine below_set ?_ GE253.out | refine below_set ?_ GE262.out | refine below_set ?_ GE282.out) | exact HB.out)⟩
                              · rw [if_neg c116] at H
                                have c116b0 : (t284 == t271) = false := beq_eq_false_iff_ne.mpr c116
                                have c116b1 : (t284 != t271) = true := bne_iff_ne.mpr c116
                                exact absurd (Option.some.inj H) (by decide)
                    · rw [if_neg c71] at H
                      have c71b0 : (t273 == t271) = false := beq_eq_false_iff_ne.mpr c71
                      have c71b1 : (t273 != t271) = true := bne_iff_ne.mpr c71
                      exact absurd (Option.some.inj H) (by decide)
          · replace c40 := Bool.eq_false_iff.mpr c40
            subst c40
            have H1 : (some false) = some true := by first | (rw [if_neg (show ¬ (false = true) by decide)] at H; exact H) | rfl
            clear H
            have H := H1
            clear H1
            exact absurd (Option.some.inj H) (by decide)

/-- THE ONE PURE STATEMENT of laws_FnExactNearestHeard: yours. -/
def laws_FnExactNearestHeard.Pure : Prop := ∀ (a0 : Int) (l1 : List Int), (Lit.int .i64 a0).wf = true → l1.length ≤ maxLen → l1.length * 8 ≤ 140737488351232 → (∀ x ∈ l1, (Lit.int .i64 x).wf = true) → ∃ k, laws_FnExactNearestHeard.f k a0 l1 = some true
theorem laws_FnExactNearestHeard.walk (P : laws_FnExactNearestHeard.Pure) (a0 : Int) (a1 : Option Addr) (len1 cap1 : Nat) (z1 : List Int) (w : World) (w0 : (Lit.int .i64 a0).wf = true) (w1 : (a1 = none ∧ len1 = 0 ∧ cap1 = 0 ∧ z1 = []) ∨ ∃ x, a1 = some x ∧ len1 ≤ cap1 ∧ cap1 ≤ maxLen ∧ z1.length = cap1 ∧ (∀ i, i < z1.length → w.cell? (x.add i) = some (.int .i64 (z1.getD i 0))) ∧ ∀ n ∈ z1, (Lit.int .i64 n).wf = true) (y1 : len1 * 8 ≤ 140737488351232) :
    Calls Try.prog 10 #[.int .i64 a0, .slice a1 len1 cap1] w fun e w' => e = .returned (.bool true) ∧ Below w.heap.size w w' := by
  obtain ⟨l1, rfl, hr1, hm1, hw1, hc1⟩ := ReadsInt.ofRowC w1
  obtain ⟨k, h⟩ := P a0 l1 w0 hm1 y1 hw1
  refine (laws_FnExactNearestHeard.calls k a0 _ _ l1 w (Kd.C_of_reads (d := (0 : Int)) (h1 := fun _ => rfl) hr1) hc1 h).mono ?_
  rintro e w' ⟨rfl, hd⟩
  exact ⟨rfl, hd⟩

end Go.Proofs.Ytdcpbnddnbeofaa.PFnExactNearestHeard
