/- Functions that the law FnWishes reaches, each as a Lean function with the proof that the Go code comes to its answers. Conditions: none. Printed by the kit's print, repaired by a program of this session. -/
import Derived.Test.YtdcpbnddnbeofaaQFnWishesx0
import Derived.Test.YtdcpbnddnbeofaaQFnWishesx2
namespace Go.Proofs.Ytdcpbnddnbeofaa.PFnWishes
open Go.RowKit Go.Proofs.YtdcpbnddnbeofaaW.PrintWords Go.Proofs.YtdcpbnddnbeofaaW.PrintLast Go.Proofs.YtdcpbnddnbeofaaW.PrintMore
attribute [local go_sem] max2_int min2_int max_two min_two max_three min_three max_four min_four   -- for this text's walks alone
set_option linter.unusedVariables false
set_option linter.unusedSimpArgs false

/-! ### spec_l01Below: function 71 -/
def spec_l01Below.f (s0_0 : List Int) (s0_1 : Int) (s0_2 : Int) (a1 : Int) : Option (Int × Int × Int) := if a1 ≤ 0 then (some (0, s0_1, s0_2)) else (if a1 ≤ 256 then ((spec_l01Byte.f s0_0 s0_1 s0_2).bind fun bt125 => (if a1 = 0 then (none) else (some (Int.tmod bt125.1 a1, bt125.2.1, bt125.2.2)))) else ((spec_l01Byte.f s0_0 s0_1 s0_2).bind fun bt128 => ((spec_l01Byte.f s0_0 bt128.2.1 bt128.2.2).bind fun bt131 => ((spec_l01Byte.f s0_0 bt131.2.1 bt131.2.2).bind fun bt134 => ((spec_l01Byte.f s0_0 bt134.2.1 bt134.2.2).bind fun bt137 => (if a1 = 0 then (none) else (some (Int.tmod (wrap64 ((wrap64 ((wrap64 ((wrap64 (bt128.1 * 16777216)) + (wrap64 (bt131.1 * 65536)))) + (wrap64 (bt134.1 * 256)))) + bt137.1)) a1, bt137.2.1, bt137.2.2))))))))
set_option maxHeartbeats 8000000 in
set_option maxRecDepth 100000 in
theorem spec_l01Below.calls (g : Nat) (s0_0 : List Int) (s0_1 : Int) (s0_2 : Int) (a1 : Int) (r1 : Int) (r2 : Int) (r3 : Int) (w0 w : World) (hI : IsS87 w0 w g s0_0 s0_1 s0_2) (hB : Below w0.heap.size w0 w) (h : spec_l01Below.f s0_0 s0_1 s0_2 a1 = some (r1, r2, r3)) :
    Calls Try.prog 71 #[.pointer (some ⟨g, 0, none⟩), .int .i64 a1] w fun e w' => e = .returned (.int .i64 r1) ∧ IsS87 w0 w' g s0_0 r2 r3 ∧ Below w0.heap.size w0 w' ∧ KeepBut w w' g none := by
  have HI0 := Aside0.mk hI
  have HK := Aside0.mk (KeepBut.refl w g none)
  have HL := Aside0.mk hB.size
  clear hI
  have HW0 := Aside0.mk hB.size
  have HB := Aside0.mk hB
  clear hB
  have H : (if a1 ≤ 0 then (some (0, s0_1, s0_2)) else (if a1 ≤ 256 then ((spec_l01Byte.f s0_0 s0_1 s0_2).bind fun bt125 => (if a1 = 0 then (none) else (some (Int.tmod bt125.1 a1, bt125.2.1, bt125.2.2)))) else ((spec_l01Byte.f s0_0 s0_1 s0_2).bind fun bt128 => ((spec_l01Byte.f s0_0 bt128.2.1 bt128.2.2).bind fun bt131 => ((spec_l01Byte.f s0_0 bt131.2.1 bt131.2.2).bind fun bt134 => ((spec_l01Byte.f s0_0 bt134.2.1 bt134.2.2).bind fun bt137 => (if a1 = 0 then (none) else (some (Int.tmod (wrap64 ((wrap64 ((wrap64 ((wrap64 (bt128.1 * 16777216)) + (wrap64 (bt131.1 * 65536)))) + (wrap64 (bt134.1 * 256)))) + bt137.1)) a1, bt137.2.1, bt137.2.2))))))))) = some (r1, r2, r3) := h
  clear h
  by_cases c3 : a1 ≤ 0
  · rw [if_pos c3] at H
    have c3b0 : decide (a1 ≤ 0) = true := decide_eq_true c3
    clear c3
    simp only [Option.some.injEq, Prod.mk.injEq] at H
    obtain ⟨rfl, rfl, rfl⟩ := H
    go_enter Try.func71, Try.ntmps71
    go_wp2
    go_ret
    exact ⟨by first | rfl | (simp [errW_none, errW_some] <;> rfl) | (simp [*, errW_none, errW_some] <;> rfl), by repeat (first | (with_reducible first | exact HI0.out | apply IsS87.alloc | apply IsS87.drewN | apply IsS87.drew | apply IsS87.set_1 | apply IsS87.set_2) | exact HI0.out), by repeat (first | (with_reducible first | exact HB.out | apply below_alloc | apply pw_below_drewN | apply below_drew1 | refine below_set ?_ (IsS87.ge HI0.out)) | exact HB.out), by repeat (first | (with_reducible first | exact HK.out | apply KeepBut.set_ | apply keep_drewN | apply keep_drew | apply keep_alloc) | exact HK.out)⟩
  · rw [if_neg c3] at H
    have c3b0 : decide (a1 ≤ 0) = false := decide_eq_false c3
    clear c3
    by_cases c4 : a1 ≤ 256
    · rw [if_pos c4] at H
      have c4b0 : decide (a1 ≤ 256) = true := decide_eq_true c4
      clear c4
      replace H := Option.bind_eq_some_iff.mp H
      obtain ⟨⟨t125, t126, t127⟩, A50, H⟩ := H
      replace H : (if a1 = 0 then (none) else (some (Int.tmod t125 a1, t126, t127))) = some (r1, r2, r3) := H
      have A5 := Aside0.mk A50
      clear A50
      by_cases c6 : a1 = 0
      · rw [if_pos c6] at H
        exact absurd H (by simp)
      · rw [if_neg c6] at H
        have c6b0 : (a1 == 0) = false := beq_eq_false_iff_ne.mpr c6
        have c6b1 : (a1 != 0) = true := bne_iff_ne.mpr c6
        simp only [Option.some.injEq, Prod.mk.injEq] at H
        obtain ⟨rfl, rfl, rfl⟩ := H
        go_enter Try.func71, Try.ntmps71
        go_wp2_with (first | ((with_reducible refine gate_callee (f := 74) rfl ?_); refine goesL_ (some 14) rfl rfl Try.func74 (by kernel_rfl) rfl #[.pointer (some ⟨g, 0, none⟩)] rfl (by (try simp only [List.map_toArray, List.map_cons, List.map_nil]); first | done | rfl | (simp only [List.length_drop, List.length_take]; rfl)) ?_; (with_reducible refine (spec_l01Byte.calls g s0_0 s0_1 s0_2 t125 t126 t127 w0 _ ?side1 ?side2 A5.out).mono ?_); (case side1 => repeat (first | (with_reducible first | exact HI0.out | apply IsS87.alloc | apply IsS87.drewN | apply IsS87.drew | apply IsS87.set_1 | apply IsS87.set_2) | exact HI0.out)); (case side2 => repeat (first | (with_reducible first | exact HB.out | apply below_alloc | apply pw_below_drewN | apply below_drew1 | refine below_set ?_ (IsS87.ge HI0.out)) | exact HB.out)); rintro e w7 ⟨rfl, hi, hb, hk⟩; refine ⟨_, rfl, ?_⟩; have n0_ := Aside0.mk (KeepBut.trans (by repeat (first | (with_reducible first | exact HK.out | apply KeepBut.set_ | apply keep_drewN | apply keep_drew | apply keep_alloc) | exact HK.out)) hk (.inl rfl)); have n1_ := Aside0.mk (hb); have n2_ := Aside0.mk (hi); clear HK; clear HB; clear HI0; have HK := n0_; have HB := n1_; have HI0 := n2_; clear n0_ n1_ n2_; (try clear hb); (try clear hb2); (try clear hk); (try clear hi)))
        go_ret
        exact ⟨by first | rfl | (simp [errW_none, errW_some] <;> rfl) | (simp [*, errW_none, errW_some] <;> rfl), by repeat (first | (with_reducible first | exact HI0.out | apply IsS87.alloc | apply IsS87.drewN | apply IsS87.drew | apply IsS87.set_1 | apply IsS87.set_2) | exact HI0.out), by repeat (first | (with_reducible first | exact HB.out | apply below_alloc | apply pw_below_drewN | apply below_drew1 | refine below_set ?_ (IsS87.ge HI0.out)) | exact HB.out), by repeat (first | (with_reducible first | exact HK.out | apply KeepBut.set_ | apply keep_drewN | apply keep_drew | apply keep_alloc) | exact HK.out)⟩
    · rw [if_neg c4] at H
      have c4b0 : decide (a1 ≤ 256) = false := decide_eq_false c4
      clear c4
      replace H := Option.bind_eq_some_iff.mp H
      obtain ⟨⟨t128, t129, t130⟩, A80, H⟩ := H
      replace H : ((spec_l01Byte.f s0_0 t129 t130).bind fun bt131 => ((spec_l01Byte.f s0_0 bt131.2.1 bt131.2.2).bind fun bt134 => ((spec_l01Byte.f s0_0 bt134.2.1 bt134.2.2).bind fun bt137 => (if a1 = 0 then (none) else (some (Int.tmod (wrap64 ((wrap64 ((wrap64 ((wrap64 (t128 * 16777216)) + (wrap64 (bt131.1 * 65536)))) + (wrap64 (bt134.1 * 256)))) + bt137.1)) a1, bt137.2.1, bt137.2.2)))))) = some (r1, r2, r3) := H
      have A8 := Aside0.mk A80
      clear A80
      replace H := Option.bind_eq_some_iff.mp H
      obtain ⟨⟨t131, t132, t133⟩, A90, H⟩ := H
      replace H : ((spec_l01Byte.f s0_0 t132 t133).bind fun bt134 => ((spec_l01Byte.f s0_0 bt134.2.1 bt134.2.2).bind fun bt137 => (if a1 = 0 then (none) else (some (Int.tmod (wrap64 ((wrap64 ((wrap64 ((wrap64 (t128 * 16777216)) + (wrap64 (t131 * 65536)))) + (wrap64 (bt134.1 * 256)))) + bt137.1)) a1, bt137.2.1, bt137.2.2))))) = some (r1, r2, r3) := H
      have A9 := Aside0.mk A90
      clear A90
      replace H := Option.bind_eq_some_iff.mp H
      obtain ⟨⟨t134, t135, t136⟩, A100, H⟩ := H
      replace H : ((spec_l01Byte.f s0_0 t135 t136).bind fun bt137 => (if a1 = 0 then (none) else (some (Int.tmod (wrap64 ((wrap64 ((wrap64 ((wrap64 (t128 * 16777216)) + (wrap64 (t131 * 65536)))) + (wrap64 (t134 * 256)))) + bt137.1)) a1, bt137.2.1, bt137.2.2)))) = some (r1, r2, r3) := H
      have A10 := Aside0.mk A100
      clear A100
      replace H := Option.bind_eq_some_iff.mp H
      obtain ⟨⟨t137, t138, t139⟩, A110, H⟩ := H
      replace H : (if a1 = 0 then (none) else (some (Int.tmod (wrap64 ((wrap64 ((wrap64 ((wrap64 (t128 * 16777216)) + (wrap64 (t131 * 65536)))) + (wrap64 (t134 * 256)))) + t137)) a1, t138, t139))) = some (r1, r2, r3) := H
      have A11 := Aside0.mk A110
      clear A110
      by_cases c12 : a1 = 0
      · rw [if_pos c12] at H
        exact absurd H (by simp)
      · rw [if_neg c12] at H
        have c12b0 : (a1 == 0) = false := beq_eq_false_iff_ne.mpr c12
        have c12b1 : (a1 != 0) = true := bne_iff_ne.mpr c12
        simp only [Option.some.injEq, Prod.mk.injEq] at H
        obtain ⟨rfl, rfl, rfl⟩ := H
        go_enter Try.func71, Try.ntmps71
        go_wp2_with (first | ((with_reducible refine gate_callee (f := 74) rfl ?_); refine goesL_ (some 18) rfl rfl Try.func74 (by kernel_rfl) rfl #[.pointer (some ⟨g, 0, none⟩)] rfl (by (try simp only [List.map_toArray, List.map_cons, List.map_nil]); first | done | rfl | (simp only [List.length_drop, List.length_take]; rfl)) ?_; (with_reducible refine (spec_l01Byte.calls g s0_0 s0_1 s0_2 t128 t129 t130 w0 _ ?side1 ?side2 A8.out).mono ?_); (case side1 => repeat (first | (with_reducible first | exact HI0.out | apply IsS87.alloc | apply IsS87.drewN | apply IsS87.drew | apply IsS87.set_1 | apply IsS87.set_2) | exact HI0.out)); (case side2 => repeat (first | (with_reducible first | exact HB.out | apply below_alloc | apply pw_below_drewN | apply below_drew1 | refine below_set ?_ (IsS87.ge HI0.out)) | exact HB.out)); rintro e w13 ⟨rfl, hi, hb, hk⟩; refine ⟨_, rfl, ?_⟩; have n0_ := Aside0.mk (KeepBut.trans (by repeat (first | (with_reducible first | exact HK.out | apply KeepBut.set_ | apply keep_drewN | apply keep_drew | apply keep_alloc) | exact HK.out)) hk (.inl rfl)); have n1_ := Aside0.mk (hb); have n2_ := Aside0.mk (hi); clear HK; clear HB; clear HI0; have HK := n0_; have HB := n1_; have HI0 := n2_; clear n0_ n1_ n2_; (try clear hb); (try clear hb2); (try clear hk); (try clear hi)) | ((with_reducible refine gate_callee (f := 74) rfl ?_); refine goesL_ (some 20) rfl rfl Try.func74 (by kernel_rfl) rfl #[.pointer (some ⟨g, 0, none⟩)] rfl (by (try simp only [List.map_toArray, List.map_cons, List.map_nil]); first | done | rfl | (simp only [List.length_drop, List.length_take]; rfl)) ?_; (with_reducible refine (spec_l01Byte.calls g s0_0 t129 t130 t131 t132 t133 w0 _ ?side1 ?side2 A9.out).mono ?_); (case side1 => repeat (first | (with_reducible first | exact HI0.out | apply IsS87.alloc | apply IsS87.drewN | apply IsS87.drew | apply IsS87.set_1 | apply IsS87.set_2) | exact HI0.out)); (case side2 => repeat (first | (with_reducible first | exact HB.out | apply below_alloc | apply pw_below_drewN | apply below_drew1 | refine below_set ?_ (IsS87.ge HI0.out)) | exact HB.out)); rintro e w14 ⟨rfl, hi, hb, hk⟩; refine ⟨_, rfl, ?_⟩; have n0_ := Aside0.mk (KeepBut.trans (by repeat (first | (with_reducible first | exact HK.out | apply KeepBut.set_ | apply keep_drewN | apply keep_drew | apply keep_alloc) | exact HK.out)) hk (.inl rfl)); have n1_ := Aside0.mk (hb); have n2_ := Aside0.mk (hi); clear HK; clear HB; clear HI0; have HK := n0_; have HB := n1_; have HI0 := n2_; clear n0_ n1_ n2_; (try clear hb); (try clear hb2); (try clear hk); (try clear hi)) | ((with_reducible refine gate_callee (f := 74) rfl ?_); refine goesL_ (some 22) rfl rfl Try.func74 (by kernel_rfl) rfl #[.pointer (some ⟨g, 0, none⟩)] rfl (by (try simp only [List.map_toArray, List.map_cons, List.map_nil]); first | done | rfl | (simp only [List.length_drop, List.length_take]; rfl)) ?_; (with_reducible refine (spec_l01Byte.calls g s0_0 t132 t133 t134 t135 t136 w0 _ ?side1 ?side2 A10.out).mono ?_); (case side1 => repeat (first | (with_reducible first | exact HI0.out | apply IsS87.alloc | apply IsS87.drewN | apply IsS87.drew | apply IsS87.set_1 | apply IsS87.set_2) | exact HI0.out)); (case side2 => repeat (first | (with_reducible first | exact HB.out | apply below_alloc | apply pw_below_drewN | apply below_drew1 | refine below_set ?_ (IsS87.ge HI0.out)) | exact HB.out)); rintro e w15 ⟨rfl, hi, hb, hk⟩; refine ⟨_, rfl, ?_⟩; have n0_ := Aside0.mk (KeepBut.trans (by repeat (first | (with_reducible first | exact HK.out | apply KeepBut.set_ | apply keep_drewN | apply keep_drew | apply keep_alloc) | exact HK.out)) hk (.inl rfl)); have n1_ := Aside0.mk (hb); have n2_ := Aside0.mk (hi); clear HK; clear HB; clear HI0; have HK := n0_; have HB := n1_; have HI0 := n2_; clear n0_ n1_ n2_; (try clear hb); (try clear hb2); (try clear hk); (try clear hi)) | ((with_reducible refine gate_callee (f := 74) rfl ?_); refine goesL_ (some 24) rfl rfl Try.func74 (by kernel_rfl) rfl #[.pointer (some ⟨g, 0, none⟩)] rfl (by (try simp only [List.map_toArray, List.map_cons, List.map_nil]); first | done | rfl | (simp only [List.length_drop, List.length_take]; rfl)) ?_; (with_reducible refine (spec_l01Byte.calls g s0_0 t135 t136 t137 t138 t139 w0 _ ?side1 ?side2 A11.out).mono ?_); (case side1 => repeat (first | (with_reducible first | exact HI0.out | apply IsS87.alloc | apply IsS87.drewN | apply IsS87.drew | apply IsS87.set_1 | apply IsS87.set_2) | exact HI0.out)); (case side2 => repeat (first | (with_reducible first | exact HB.out | apply below_alloc | apply pw_below_drewN | apply below_drew1 | refine below_set ?_ (IsS87.ge HI0.out)) | exact HB.out)); rintro e w16 ⟨rfl, hi, hb, hk⟩; refine ⟨_, rfl, ?_⟩; have n0_ := Aside0.mk (KeepBut.trans (by repeat (first | (with_reducible first | exact HK.out | apply KeepBut.set_ | apply keep_drewN | apply keep_drew | apply keep_alloc) | exact HK.out)) hk (.inl rfl)); have n1_ := Aside0.mk (hb); have n2_ := Aside0.mk (hi); clear HK; clear HB; clear HI0; have HK := n0_; have HB := n1_; have HI0 := n2_; clear n0_ n1_ n2_; (try clear hb); (try clear hb2); (try clear hk); (try clear hi)))
        go_ret
        exact ⟨by first | rfl | (simp [errW_none, errW_some] <;> rfl) | (simp [*, errW_none, errW_some] <;> rfl), by repeat (first | (with_reducible first | exact HI0.out | apply IsS87.alloc | apply IsS87.drewN | apply IsS87.drew | apply IsS87.set_1 | apply IsS87.set_2) | exact HI0.out), by repeat (first | (with_reducible first | exact HB.out | apply below_alloc | apply pw_below_drewN | apply below_drew1 | refine below_set ?_ (IsS87.ge HI0.out)) | exact HB.out), by repeat (first | (with_reducible first | exact HK.out | apply KeepBut.set_ | apply keep_drewN | apply keep_drew | apply keep_alloc) | exact HK.out)⟩

/-! ### spec_l01PickInt: function 70 -/
def spec_l01PickInt.f (s0_0 : List Int) (s0_1 : Int) (s0_2 : Int) (l1 : List Int) : Option (Int × Int × Int) := (spec_l01Below.f s0_0 s0_1 s0_2 (l1.length : Int)).bind fun bt140 => (if 0 ≤ bt140.1 then (if bt140.1 < (l1.length : Int) then (some (rd l1 bt140.1, bt140.2.1, bt140.2.2)) else (none)) else (none))
set_option maxHeartbeats 8000000 in
set_option maxRecDepth 100000 in
theorem spec_l01PickInt.calls (g : Nat) (s0_0 : List Int) (s0_1 : Int) (s0_2 : Int) (A1 : Option Addr) (c1 : Nat) (l1 : List Int) (r1 : Int) (r2 : Int) (r3 : Int) (w0 w : World) (hI : IsS87 w0 w g s0_0 s0_1 s0_2) (hB : Below w0.heap.size w0 w) (hr1 : Kd.C (Kd.int .i64) w A1 l1.length l1) (hc1 : l1.length ≤ c1) (hf1 : ∀ ad, A1 = some ad → 0 < l1.length → ad.block ≠ g) (h : spec_l01PickInt.f s0_0 s0_1 s0_2 l1 = some (r1, r2, r3)) :
    Calls Try.prog 70 #[.pointer (some ⟨g, 0, none⟩), .slice A1 l1.length c1] w fun e w' => e = .returned (.int .i64 r1) ∧ IsS87 w0 w' g s0_0 r2 r3 ∧ Below w0.heap.size w0 w' ∧ KeepBut w w' g none := by
  have HR1 := Aside0.mk hr1
  have HC1 := Aside0.mk hc1
  clear hr1 hc1
  have HI0 := Aside0.mk hI
  have HK := Aside0.mk (KeepBut.refl w g none)
  have HL := Aside0.mk hB.size
  clear hI
  have HW0 := Aside0.mk hB.size
  have HB := Aside0.mk hB
  clear hB
  have H : ((spec_l01Below.f s0_0 s0_1 s0_2 (l1.length : Int)).bind fun bt140 => (if 0 ≤ bt140.1 then (if bt140.1 < (l1.length : Int) then (some (rd l1 bt140.1, bt140.2.1, bt140.2.2)) else (none)) else (none))) = some (r1, r2, r3) := h
  clear h
  replace H := Option.bind_eq_some_iff.mp H
  obtain ⟨⟨t140, t141, t142⟩, A30, H⟩ := H
  replace H : (if 0 ≤ t140 then (if t140 < (l1.length : Int) then (some (rd l1 t140, t141, t142)) else (none)) else (none)) = some (r1, r2, r3) := H
  have A3 := Aside0.mk A30
  clear A30
  by_cases c4 : 0 ≤ t140
  · rw [if_pos c4] at H
    have c4b0 : decide (0 ≤ t140) = true := decide_eq_true c4
    clear c4
    by_cases c5 : t140 < (l1.length : Int)
    · rw [if_pos c5] at H
      have c5b0 : decide (t140 < (l1.length : Int)) = true := decide_eq_true c5
      clear c5
      simp only [Option.some.injEq, Prod.mk.injEq] at H
      obtain ⟨rfl, rfl, rfl⟩ := H
      go_enter Try.func70, Try.ntmps70
      go_wp2_with (first | ((with_reducible refine gate_callee (f := 71) rfl ?_); refine goesL_ (some 9) rfl rfl Try.func71 (by kernel_rfl) rfl #[.pointer (some ⟨g, 0, none⟩), .int .i64 (l1.length : Int)] rfl (by (try simp only [List.map_toArray, List.map_cons, List.map_nil]); first | done | rfl | (simp only [List.length_drop, List.length_take]; rfl)) ?_; (with_reducible refine (spec_l01Below.calls g s0_0 s0_1 s0_2 (l1.length : Int) t140 t141 t142 w0 _ ?side1 ?side2 A3.out).mono ?_); (case side1 => repeat (first | (with_reducible first | exact HI0.out | apply IsS87.alloc | apply IsS87.drewN | apply IsS87.drew | apply IsS87.set_1 | apply IsS87.set_2) | exact HI0.out)); (case side2 => repeat (first | (with_reducible first | exact HB.out | apply below_alloc | apply pw_below_drewN | apply below_drew1 | refine below_set ?_ (IsS87.ge HI0.out)) | exact HB.out)); rintro e w6 ⟨rfl, hi, hb, hk⟩; refine ⟨_, rfl, ?_⟩; have n0_ := Aside0.mk (KeepBut.trans (by repeat (first | (with_reducible first | exact HK.out | apply KeepBut.set_ | apply keep_drewN | apply keep_drew | apply keep_alloc) | exact HK.out)) hk (.inl rfl)); have n1_ := Aside0.mk (hb); have n2_ := Aside0.mk (hi); clear HK; clear HB; clear HI0; have HK := n0_; have HB := n1_; have HI0 := n2_; clear n0_ n1_ n2_; (try clear hb); (try clear hb2); (try clear hk); (try clear hi); have p143 : 0 ≤ (t140 : Int) := of_decide_eq_true (by first | (with_reducible assumption) | assumption); have q143 : t140 < (l1.length : Int) := of_decide_eq_true (by first | (with_reducible assumption) | assumption); obtain ⟨ad143, e143, hx143_0⟩ := Kd.at_int HR1.out t140 p143 q143; cases e143; replace hx143_0 := keep_cell HK.out hx143_0 (by first | (rw [add_block]; exact hf1 _ rfl (by omega)) | exact hf1 _ rfl (by omega) | exact hf1 ad143 rfl (by omega)); replace p143 := eq_true p143; replace q143 := eq_true q143))
      go_ret
      exact ⟨by first | rfl | (simp [errW_none, errW_some] <;> rfl) | (simp [*, errW_none, errW_some] <;> rfl), by repeat (first | (with_reducible first | exact HI0.out | apply IsS87.alloc | apply IsS87.drewN | apply IsS87.drew | apply IsS87.set_1 | apply IsS87.set_2) | exact HI0.out), by repeat (first | (with_reducible first | exact HB.out | apply below_alloc | apply pw_below_drewN | apply below_drew1 | refine below_set ?_ (IsS87.ge HI0.out)) | exact HB.out), by repeat (first | (with_reducible first | exact HK.out | apply KeepBut.set_ | apply keep_drewN | apply keep_drew | apply keep_alloc) | exact HK.out)⟩
    · rw [if_neg c5] at H
      exact absurd H (by simp)
  · rw [if_neg c4] at H
    exact absurd H (by simp)

/-! ### spec_l14Wishes: function 64 -/
def spec_l14Wishes.l0 : Nat → List (S74) → Int → Int → List Int → Int → Int → Option ((List (S74)) × Int × Int)
  | 0, _, _, _, _, _, _ => none
  | k + 1, x3, x4, x5, x1000, x1001, x1002 => if x5 < x4 then ((spec_l01Below.f x1000 x1001 x1002 12).bind fun bt150 => ((spec_l01PickInt.f x1000 bt150.2.1 bt150.2.2 (([0, 4, 8, bt150.1] : List Int))).bind fun bt156 => ((spec_l01Below.f x1000 bt156.2.1 bt156.2.2 9).bind fun bt159 => (if x3.length < 8796093022208 then (spec_l14Wishes.l0 k (x3 ++ [(⟨bt156.1, bt159.1⟩ : S74)]) x4 (wrap64 (x5 + 1)) x1000 bt159.2.1 bt159.2.2) else (none))))) else (some (x3, x1001, x1002))
def spec_l14Wishes.f (k : Nat) (s0_0 : List Int) (s0_1 : Int) (s0_2 : Int) : Option ((List (S74)) × Int × Int) := (spec_l01Below.f s0_0 s0_1 s0_2 5).bind fun bt147 => (spec_l14Wishes.l0 k (([] : List (S74))) bt147.1 0 s0_0 bt147.2.1 bt147.2.2)
theorem spec_l14Wishes.mono_l : ∀ k, (∀ y0 y1 y2 y3 y4 y5, LeO (spec_l14Wishes.l0 k y0 y1 y2 y3 y4 y5) (spec_l14Wishes.l0 (k + 1) y0 y1 y2 y3 y4 y5))
  | 0 => fun _ _ _ _ _ _ r h => by simp [spec_l14Wishes.l0] at h
  | k + 1 => by
    have ih0 := spec_l14Wishes.mono_l k
    · intro y0 y1 y2 y3 y4 y5
      unfold spec_l14Wishes.l0
      repeat' first
      | (with_reducible exact ih0 _ _ _ _ _ _)
      | (with_reducible exact LeO.refl _)
      | (with_reducible exact LeO.none _)
      | (with_reducible refine LeO.ite ?_ ?_)
      | (with_reducible refine LeO.bind ?_ (fun _ => ?_))
      | exact ih0 _ _ _ _ _ _
      | exact LeO.none _
      | refine LeO.ite ?_ ?_
      | refine LeO.bind ?_ (fun _ => ?_)
theorem spec_l14Wishes.mono : ∀ a0 a1 a2 k, LeO (spec_l14Wishes.f k a0 a1 a2) (spec_l14Wishes.f (k + 1) a0 a1 a2) := by
  intro a0 a1 a2 k
  have ih0 := spec_l14Wishes.mono_l k
  unfold spec_l14Wishes.f
  repeat' first
      | (with_reducible exact ih0 _ _ _ _ _ _)
      | (with_reducible exact LeO.refl _)
      | (with_reducible exact LeO.none _)
      | (with_reducible refine LeO.ite ?_ ?_)
      | (with_reducible refine LeO.bind ?_ (fun _ => ?_))
      | exact ih0 _ _ _ _ _ _
      | exact LeO.none _
      | refine LeO.ite ?_ ?_
      | refine LeO.bind ?_ (fun _ => ?_)
set_option maxHeartbeats 8000000 in
set_option maxRecDepth 100000 in
theorem spec_l14Wishes.calls (k : Nat) (g : Nat) (s0_0 : List Int) (s0_1 : Int) (s0_2 : Int) (r1 : List (S74)) (r2 : Int) (r3 : Int) (w0 w : World) (hI : IsS87 w0 w g s0_0 s0_1 s0_2) (hB : Below w0.heap.size w0 w) (h : spec_l14Wishes.f k s0_0 s0_1 s0_2 = some (r1, r2, r3)) :
    Calls Try.prog 64 #[.pointer (some ⟨g, 0, none⟩)] w fun e w' => ∃ v0_ : Value, e = .returned (v0_) ∧ Kd.R k74 74 w' w.heap.size (fun _ => True) v0_ r1 ∧ IsS87 w0 w' g s0_0 r2 r3 ∧ Below w0.heap.size w0 w' ∧ KeepBut w w' g none := by
  have hu74 := Try.underlying74
  have HI0 := Aside0.mk hI
  have HK := Aside0.mk (KeepBut.refl w g none)
  have HL := Aside0.mk hB.size
  clear hI
  have HW0 := Aside0.mk hB.size
  have HB := Aside0.mk hB
  clear hB
  have H : ((spec_l01Below.f s0_0 s0_1 s0_2 5).bind fun bt147 => (spec_l14Wishes.l0 k (([] : List (S74))) bt147.1 0 s0_0 bt147.2.1 bt147.2.2)) = some (r1, r2, r3) := h
  clear h
  obtain ⟨y144, hy144⟩ : ∃ y_ : List (S74), y_ = (([] : List (S74))) := ⟨_, rfl⟩
  replace H : ((spec_l01Below.f s0_0 s0_1 s0_2 5).bind fun bt147 => (spec_l14Wishes.l0 k y144 bt147.1 0 s0_0 bt147.2.1 bt147.2.2)) = some (r1, r2, r3) := by first | (rw [hy144]; with_reducible exact H) | (have H2_ := (Option.bind_some _ _).symm.trans H; rw [hy144]; with_reducible exact H2_) | (have H2_ := (Option.bind_some _ _).symm.trans H; with_reducible exact H2_) | with_reducible exact H | (rw [hy144]; exact H) | exact H
  have Ny144 := Aside0.mk hy144
  clear hy144
  replace H := Option.bind_eq_some_iff.mp H
  obtain ⟨⟨t147, t148, t149⟩, A20, H⟩ := H
  replace H : (spec_l14Wishes.l0 k y144 t147 0 s0_0 t148 t149) = some (r1, r2, r3) := H
  have A2 := Aside0.mk A20
  clear A20
  have H' := Aside0.mk H
  clear H
  go_enter Try.func64, Try.ntmps64
  go_wp2_with (first | ((with_reducible refine gate_dst (N := 6) rfl ?_); refine Kd.R_lit k74 _ 74 ?hg (N := 6) ?hd (xs := ([] : List (S74))) (inner := []) (ok := fun _ => True) (okp := fun _ => True) ?hr ?hp (fun _ hk => hk) trivial (Below.refl _ _) (Nat.le_refl _) (by simp) ?_; (case hd => rfl); (case hg => rfl); (case hr => first | (go_simp; done) | (go_simp; rfl)); (case hp => exact (Reps.none _ _)); intro v145 w3 ho4 hb hg_ hnew_; clear hg_ hnew_; (first | rw [← Ny144.out] at ho4 | (simp only [Int.reduceToNat] at ho4; rw [← Ny144.out] at ho4)); have n0_ := Aside0.mk (Kd.R_lower ho4 (keep_size (w := w) (g := g) (row := none) (by repeat (first | (with_reducible first | exact HK.out | apply KeepBut.set_ | apply keep_drewN | apply keep_drew | apply keep_alloc) | exact HK.out)))); have n1_ := Aside0.mk (IsS87.below (by repeat (first | (with_reducible first | exact HI0.out | apply IsS87.alloc | apply IsS87.drewN | apply IsS87.drew | apply IsS87.set_1 | apply IsS87.set_2) | exact HI0.out)) hb); have n2_ := Aside0.mk (KeepBut.trans (by repeat (first | (with_reducible first | exact HK.out | apply KeepBut.set_ | apply keep_drewN | apply keep_drew | apply keep_alloc) | exact HK.out)) (KeepBut.of_below hb g none) (.inl rfl)); have n3_ := Aside0.mk (below_step (by repeat (first | (with_reducible first | exact HB.out | apply below_alloc | apply pw_below_drewN | apply below_drew1 | refine below_set ?_ (IsS87.ge HI0.out)) | exact HB.out)) hb); clear HI0; clear HK; clear HB; have HO146 := n0_; have HI0 := n1_; have HK := n2_; have HB := n3_; clear n0_ n1_ n2_ n3_; clear hb ho4) | ((with_reducible refine gate_callee (f := 71) rfl ?_); refine goesL_ (some 8) rfl rfl Try.func71 (by kernel_rfl) rfl #[.pointer (some ⟨g, 0, none⟩), .int .i64 5] rfl (by (try simp only [List.map_toArray, List.map_cons, List.map_nil]); first | done | rfl | (simp only [List.length_drop, List.length_take]; rfl)) ?_; (with_reducible refine (spec_l01Below.calls g s0_0 s0_1 s0_2 5 t147 t148 t149 w0 _ ?side1 ?side2 A2.out).mono ?_); (case side1 => repeat (first | (with_reducible first | exact HI0.out | apply IsS87.alloc | apply IsS87.drewN | apply IsS87.drew | apply IsS87.set_1 | apply IsS87.set_2) | exact HI0.out)); (case side2 => repeat (first | (with_reducible first | exact HB.out | apply below_alloc | apply pw_below_drewN | apply below_drew1 | refine below_set ?_ (IsS87.ge HI0.out)) | exact HB.out)); rintro e w5 ⟨rfl, hi, hb, hk⟩; refine ⟨_, rfl, ?_⟩; have n0_ := Aside0.mk (Kd.R_mono (Kd.R_keep (IsS87.apart (show IsS87 w0 _ g s0_0 s0_1 s0_2 from by repeat (first | (with_reducible first | exact HI0.out | apply IsS87.alloc | apply IsS87.drewN | apply IsS87.drew | apply IsS87.set_1 | apply IsS87.set_2) | exact HI0.out)) (by (with_reducible repeat (first | apply Kd.R_alloc | apply Kd.R_drewN | apply Kd.R_drew)); exact HO146.out) (by decide)) hk (fun _ h => h.2)) (fun _ h => h.1)); have n1_ := Aside0.mk (KeepBut.trans (by repeat (first | (with_reducible first | exact HK.out | apply KeepBut.set_ | apply keep_drewN | apply keep_drew | apply keep_alloc) | exact HK.out)) hk (.inl rfl)); have n2_ := Aside0.mk (hb); have n3_ := Aside0.mk (hi); clear HO146; clear HK; clear HB; clear HI0; have HO146 := n0_; have HK := n1_; have HB := n2_; have HI0 := n3_; clear n0_ n1_ n2_ n3_; (try clear hb); (try clear hb2); (try clear hk); (try clear hi)))
  go_loopg [3, 5] k (fun kq v3 v5 w' => ∃ (x3_1 : List (S74)) (x5_1 : Int) (x1001_1 : Int) (x1002_1 : Int), v5 = .int .i64 x5_1 ∧ Aside0 (spec_l14Wishes.l0 kq x3_1 t147 x5_1 s0_0 x1001_1 x1002_1 = some (r1, r2, r3)) ∧ Aside0 (kq ≤ k) ∧ Aside0 (Kd.R k74 74 w' w.heap.size (fun _ => True) v3 x3_1) ∧ Aside0 (IsS87 w0 w' g s0_0 x1001_1 x1002_1) ∧ Aside0 (KeepBut w w' g none) ∧ Aside0 (Below w0.heap.size w0 w'))
  case atStart => exact ⟨(y144), (0), (t148), (t149), (by first | rfl | (simp; done) | (simp [*]; done)), H', ⟨Nat.le_refl _⟩, ⟨by (with_reducible repeat (first | apply Kd.R_alloc | apply Kd.R_drewN | apply Kd.R_drew)); exact HO146.out⟩, ⟨by repeat (first | (with_reducible first | exact HI0.out | apply IsS87.alloc | apply IsS87.drewN | apply IsS87.drew | apply IsS87.set_1 | apply IsS87.set_2) | exact HI0.out)⟩, ⟨by repeat (first | (with_reducible first | exact HK.out | apply KeepBut.set_ | apply keep_drewN | apply keep_drew | apply keep_alloc) | exact HK.out)⟩, ⟨by repeat (first | (with_reducible first | exact HB.out | apply below_alloc | apply pw_below_drewN | apply below_drew1 | refine below_set ?_ (IsS87.ge HI0.out)) | exact HB.out)⟩⟩
  case round =>
    clear H'
    try clear p2
    obtain ⟨x3_1, x5_1, x1001_1, x1002_1, rfl, HA, HK1, HO_3, HI0, HK, HB⟩ := hrel
    cases gk with
    | zero => exact absurd HA.out (by simp [spec_l14Wishes.l0])
    | succ k1 =>
      have H := HA.out
      clear HA
      simp only [spec_l14Wishes.l0] at H
      by_cases c6 : x5_1 < t147
      · rw [if_pos c6] at H
        have c6b0 : decide (x5_1 < t147) = true := decide_eq_true c6
        clear c6
        replace H := Option.bind_eq_some_iff.mp H
        obtain ⟨⟨t150, t151, t152⟩, A70, H⟩ := H
        replace H : ((spec_l01PickInt.f s0_0 t151 t152 (([0, 4, 8, t150] : List Int))).bind fun bt156 => ((spec_l01Below.f s0_0 bt156.2.1 bt156.2.2 9).bind fun bt159 => (if x3_1.length < 8796093022208 then (spec_l14Wishes.l0 k1 (x3_1 ++ [(⟨bt156.1, bt159.1⟩ : S74)]) t147 (wrap64 (x5_1 + 1)) s0_0 bt159.2.1 bt159.2.2) else (none)))) = some (r1, r2, r3) := H
        have A7 := Aside0.mk A70
        clear A70
        obtain ⟨y153, hy153⟩ : ∃ y_ : List Int, y_ = (([0, 4, 8, t150] : List Int)) := ⟨_, rfl⟩
        replace H : ((spec_l01PickInt.f s0_0 t151 t152 y153).bind fun bt156 => ((spec_l01Below.f s0_0 bt156.2.1 bt156.2.2 9).bind fun bt159 => (if x3_1.length < 8796093022208 then (spec_l14Wishes.l0 k1 (x3_1 ++ [(⟨bt156.1, bt159.1⟩ : S74)]) t147 (wrap64 (x5_1 + 1)) s0_0 bt159.2.1 bt159.2.2) else (none)))) = some (r1, r2, r3) := by first | (rw [hy153]; with_reducible exact H) | (have H2_ := (Option.bind_some _ _).symm.trans H; rw [hy153]; with_reducible exact H2_) | (have H2_ := (Option.bind_some _ _).symm.trans H; with_reducible exact H2_) | with_reducible exact H | (rw [hy153]; exact H) | exact H
        have Ny153 := Aside0.mk hy153
        clear hy153
        replace H := Option.bind_eq_some_iff.mp H
        obtain ⟨⟨t156, t157, t158⟩, A80, H⟩ := H
        replace H : ((spec_l01Below.f s0_0 t157 t158 9).bind fun bt159 => (if x3_1.length < 8796093022208 then (spec_l14Wishes.l0 k1 (x3_1 ++ [(⟨t156, bt159.1⟩ : S74)]) t147 (wrap64 (x5_1 + 1)) s0_0 bt159.2.1 bt159.2.2) else (none))) = some (r1, r2, r3) := H
        have A8 := Aside0.mk A80
        clear A80
        replace H := Option.bind_eq_some_iff.mp H
        obtain ⟨⟨t159, t160, t161⟩, A90, H⟩ := H
        replace H : (if x3_1.length < 8796093022208 then (spec_l14Wishes.l0 k1 (x3_1 ++ [(⟨t156, t159⟩ : S74)]) t147 (wrap64 (x5_1 + 1)) s0_0 t160 t161) else (none)) = some (r1, r2, r3) := H
        have A9 := Aside0.mk A90
        clear A90
        by_cases c10 : x3_1.length < 8796093022208
        · rw [if_pos c10] at H
          have LMc10 := Aside0.mk c10
          clear c10
          obtain ⟨y162, hy162⟩ : ∃ y_ : List (S74), y_ = (x3_1 ++ [(⟨t156, t159⟩ : S74)]) := ⟨_, rfl⟩
          replace H : (spec_l14Wishes.l0 k1 y162 t147 (wrap64 (x5_1 + 1)) s0_0 t160 t161) = some (r1, r2, r3) := by first | (rw [hy162]; with_reducible exact H) | (have H2_ := (Option.bind_some _ _).symm.trans H; rw [hy162]; with_reducible exact H2_) | (have H2_ := (Option.bind_some _ _).symm.trans H; with_reducible exact H2_) | with_reducible exact H | (rw [hy162]; exact H) | exact H
          have Ny162 := Aside0.mk hy162
          clear hy162
          have H' := Aside0.mk H
          clear H
          go_wp2_with (first | ((with_reducible refine gate_callee (f := 71) rfl ?_); refine goesL_ (some 17) rfl rfl Try.func71 (by kernel_rfl) rfl #[.pointer (some ⟨g, 0, none⟩), .int .i64 12] rfl (by (try simp only [List.map_toArray, List.map_cons, List.map_nil]); first | done | rfl | (simp only [List.length_drop, List.length_take]; rfl)) ?_; (with_reducible refine (spec_l01Below.calls g s0_0 x1001_1 x1002_1 12 t150 t151 t152 w0 _ ?side1 ?side2 A7.out).mono ?_); (case side1 => repeat (first | (with_reducible first | exact HI0.out | apply IsS87.alloc | apply IsS87.drewN | apply IsS87.drew | apply IsS87.set_1 | apply IsS87.set_2) | exact HI0.out)); (case side2 => repeat (first | (with_reducible first | exact HB.out | apply below_alloc | apply pw_below_drewN | apply below_drew1 | refine below_set ?_ (IsS87.ge HI0.out)) | exact HB.out)); rintro e w11 ⟨rfl, hi, hb, hk⟩; refine ⟨_, rfl, ?_⟩; have n0_ := Aside0.mk (Kd.R_mono (Kd.R_keep (IsS87.apart (show IsS87 w0 _ g s0_0 x1001_1 x1002_1 from by repeat (first | (with_reducible first | exact HI0.out | apply IsS87.alloc | apply IsS87.drewN | apply IsS87.drew | apply IsS87.set_1 | apply IsS87.set_2) | exact HI0.out)) (by (with_reducible repeat (first | apply Kd.R_alloc | apply Kd.R_drewN | apply Kd.R_drew)); exact HO_3.out) (by decide)) hk (fun _ h => h.2)) (fun _ h => h.1)); have n1_ := Aside0.mk (KeepBut.trans (by repeat (first | (with_reducible first | exact HK.out | apply KeepBut.set_ | apply keep_drewN | apply keep_drew | apply keep_alloc) | exact HK.out)) hk (.inl rfl)); have n2_ := Aside0.mk (hb); have n3_ := Aside0.mk (hi); clear HO_3; clear HK; clear HB; clear HI0; have HO_3 := n0_; have HK := n1_; have HB := n2_; have HI0 := n3_; clear n0_ n1_ n2_ n3_; (try clear hb); (try clear hb2); (try clear hk); (try clear hi)) | ((with_reducible refine gate_dst (N := 18) rfl ?_); refine Kd.R_lit (Kd.int .i64) _ 3 ?hg (N := 18) ?hd (xs := ([0, 4, 8, t150] : List Int)) (inner := [.int .i64 0, .int .i64 4, .int .i64 8, .int .i64 t150]) (ok := fun _ => True) (okp := fun _ => True) ?hr ?hp (fun _ hk => hk) trivial (Below.refl _ _) (Nat.le_refl _) (by simp) ?_; (case hd => rfl); (case hg => rfl); (case hr => first | (go_simp; done) | (go_simp; rfl)); (case hp => exact (Reps.one (show Kd.M (Kd.int .i64) _ _ _ 0 [.int .i64 0] from rfl) (Reps.one (show Kd.M (Kd.int .i64) _ _ _ 4 [.int .i64 4] from rfl) (Reps.one (show Kd.M (Kd.int .i64) _ _ _ 8 [.int .i64 8] from rfl) (Reps.one (show Kd.M (Kd.int .i64) _ _ _ t150 [.int .i64 t150] from rfl) (Reps.none _ _)))))); intro v154 w12 ho13 hb hg_ hnew_; clear hg_ hnew_; (first | rw [← Ny153.out] at ho13 | (simp only [Int.reduceToNat] at ho13; rw [← Ny153.out] at ho13)); have n0_ := Aside0.mk (Kd.R_below (by (with_reducible repeat (first | apply Kd.R_alloc | apply Kd.R_drewN | apply Kd.R_drew)); exact HO_3.out) hb); have n1_ := Aside0.mk (Kd.R_lower ho13 (keep_size (w := w) (g := g) (row := none) (by repeat (first | (with_reducible first | exact HK.out | apply KeepBut.set_ | apply keep_drewN | apply keep_drew | apply keep_alloc) | exact HK.out)))); have n2_ := Aside0.mk (IsS87.below (by repeat (first | (with_reducible first | exact HI0.out | apply IsS87.alloc | apply IsS87.drewN | apply IsS87.drew | apply IsS87.set_1 | apply IsS87.set_2) | exact HI0.out)) hb); have n3_ := Aside0.mk (KeepBut.trans (by repeat (first | (with_reducible first | exact HK.out | apply KeepBut.set_ | apply keep_drewN | apply keep_drew | apply keep_alloc) | exact HK.out)) (KeepBut.of_below hb g none) (.inl rfl)); have n4_ := Aside0.mk (below_step (by repeat (first | (with_reducible first | exact HB.out | apply below_alloc | apply pw_below_drewN | apply below_drew1 | refine below_set ?_ (IsS87.ge HI0.out)) | exact HB.out)) hb); clear HO_3; clear HI0; clear HK; clear HB; have HO_3 := n0_; have HO155 := n1_; have HI0 := n2_; have HK := n3_; have HB := n4_; clear n0_ n1_ n2_ n3_ n4_; clear hb ho13; obtain ⟨Ao14, co14, eo14⟩ := Kd.R_slice HO155.out; subst eo14) | ((with_reducible refine gate_callee (f := 70) rfl ?_); refine goesL_ (some 19) rfl rfl Try.func70 (by kernel_rfl) rfl #[.pointer (some ⟨g, 0, none⟩), .slice Ao14 y153.length co14] rfl (by (try simp only [List.map_toArray, List.map_cons, List.map_nil]); first | done | rfl | (simp only [List.length_drop, List.length_take]; rfl)) ?_; (with_reducible refine (spec_l01PickInt.calls g s0_0 t151 t152 _ _ y153 t156 t157 t158 w0 _ ?side1 ?side2 ?side3 ?side4 ?side5 A8.out).mono ?_); (case side1 => repeat (first | (with_reducible first | exact HI0.out | apply IsS87.alloc | apply IsS87.drewN | apply IsS87.drew | apply IsS87.set_1 | apply IsS87.set_2) | exact HI0.out)); (case side2 => repeat (first | (with_reducible first | exact HB.out | apply below_alloc | apply pw_below_drewN | apply below_drew1 | refine below_set ?_ (IsS87.ge HI0.out)) | exact HB.out)); (case side3 => repeat (first | exact (Kd.R_reads' HO155.out).2.2 | (with_reducible refine Kd.C_alloc ?_ _) | (with_reducible refine Kd.C_drewN ?_ _) | (with_reducible refine Kd.C_drew ?_))); (case side4 => exact (Kd.R_reads' HO155.out).2.1); (case side5 => exact far_slice (IsS87.own_ne HI0.out HO155.out (by decide))); rintro e w15 ⟨rfl, hi, hb, hk⟩; refine ⟨_, rfl, ?_⟩; have n0_ := Aside0.mk (Kd.R_mono (Kd.R_keep (IsS87.apart (show IsS87 w0 _ g s0_0 t151 t152 from by repeat (first | (with_reducible first | exact HI0.out | apply IsS87.alloc | apply IsS87.drewN | apply IsS87.drew | apply IsS87.set_1 | apply IsS87.set_2) | exact HI0.out)) (by (with_reducible repeat (first | apply Kd.R_alloc | apply Kd.R_drewN | apply Kd.R_drew)); exact HO_3.out) (by decide)) hk (fun _ h => h.2)) (fun _ h => h.1)); have n1_ := Aside0.mk (Kd.R_mono (Kd.R_keep (IsS87.apart (show IsS87 w0 _ g s0_0 t151 t152 from by repeat (first | (with_reducible first | exact HI0.out | apply IsS87.alloc | apply IsS87.drewN | apply IsS87.drew | apply IsS87.set_1 | apply IsS87.set_2) | exact HI0.out)) (by (with_reducible repeat (first | apply Kd.R_alloc | apply Kd.R_drewN | apply Kd.R_drew)); exact HO155.out) (by decide)) hk (fun _ h => h.2)) (fun _ h => h.1)); have n2_ := Aside0.mk (KeepBut.trans (by repeat (first | (with_reducible first | exact HK.out | apply KeepBut.set_ | apply keep_drewN | apply keep_drew | apply keep_alloc) | exact HK.out)) hk (.inl rfl)); have n3_ := Aside0.mk (hb); have n4_ := Aside0.mk (hi); clear HO_3; clear HO155; clear HK; clear HB; clear HI0; have HO_3 := n0_; have HO155 := n1_; have HK := n2_; have HB := n3_; have HI0 := n4_; clear n0_ n1_ n2_ n3_ n4_; (try clear hb); (try clear hb2); (try clear hk); (try clear hi)) | ((with_reducible refine gate_callee (f := 71) rfl ?_); refine goesL_ (some 21) rfl rfl Try.func71 (by kernel_rfl) rfl #[.pointer (some ⟨g, 0, none⟩), .int .i64 9] rfl (by (try simp only [List.map_toArray, List.map_cons, List.map_nil]); first | done | rfl | (simp only [List.length_drop, List.length_take]; rfl)) ?_; (with_reducible refine (spec_l01Below.calls g s0_0 t157 t158 9 t159 t160 t161 w0 _ ?side1 ?side2 A9.out).mono ?_); (case side1 => repeat (first | (with_reducible first | exact HI0.out | apply IsS87.alloc | apply IsS87.drewN | apply IsS87.drew | apply IsS87.set_1 | apply IsS87.set_2) | exact HI0.out)); (case side2 => repeat (first | (with_reducible first | exact HB.out | apply below_alloc | apply pw_below_drewN | apply below_drew1 | refine below_set ?_ (IsS87.ge HI0.out)) | exact HB.out)); rintro e w16 ⟨rfl, hi, hb, hk⟩; refine ⟨_, rfl, ?_⟩; have n0_ := Aside0.mk (Kd.R_mono (Kd.R_keep (IsS87.apart (show IsS87 w0 _ g s0_0 t157 t158 from by repeat (first | (with_reducible first | exact HI0.out | apply IsS87.alloc | apply IsS87.drewN | apply IsS87.drew | apply IsS87.set_1 | apply IsS87.set_2) | exact HI0.out)) (by (with_reducible repeat (first | apply Kd.R_alloc | apply Kd.R_drewN | apply Kd.R_drew)); exact HO_3.out) (by decide)) hk (fun _ h => h.2)) (fun _ h => h.1)); have n1_ := Aside0.mk (Kd.R_mono (Kd.R_keep (IsS87.apart (show IsS87 w0 _ g s0_0 t157 t158 from by repeat (first | (with_reducible first | exact HI0.out | apply IsS87.alloc | apply IsS87.drewN | apply IsS87.drew | apply IsS87.set_1 | apply IsS87.set_2) | exact HI0.out)) (by (with_reducible repeat (first | apply Kd.R_alloc | apply Kd.R_drewN | apply Kd.R_drew)); exact HO155.out) (by decide)) hk (fun _ h => h.2)) (fun _ h => h.1)); have n2_ := Aside0.mk (KeepBut.trans (by repeat (first | (with_reducible first | exact HK.out | apply KeepBut.set_ | apply keep_drewN | apply keep_drew | apply keep_alloc) | exact HK.out)) hk (.inl rfl)); have n3_ := Aside0.mk (hb); have n4_ := Aside0.mk (hi); clear HO_3; clear HO155; clear HK; clear HB; clear HI0; have HO_3 := n0_; have HO155 := n1_; have HK := n2_; have HB := n3_; have HI0 := n4_; clear n0_ n1_ n2_ n3_ n4_; (try clear hb); (try clear hb2); (try clear hk); (try clear hi)) | ((with_reducible refine gate_builtin (b := .append) (xs := #[.tmp 14, .tmp 23]) rfl ?_); at_builtin; refine Kd.R_append k74 w.heap.size rfl (.tmp 14) (.tmp 23) 48 74 (.agg #[(.int .i64 0), (.int .i64 0)]) 16 rfl Try.underlying48 info74 rfl (by decide) (by omega) u3 x3_1 (⟨t156, t159⟩ : S74) [.int .i64 t156, .int .i64 t159] (fun _ => True) (fun _ => False) rfl rfl ?aP (fun _ hk => hk.elim) ?aF ?aO (Below.refl _ _) ?aS ?aL ?_; (case aP => exact k74_mkM _ _ _ (⟨t156, t159⟩ : S74)); (case aF => exact (fun _ _ => trivial)); (case aO => exact (by (with_reducible repeat (first | apply Kd.R_alloc | apply Kd.R_drewN | apply Kd.R_drew)); exact HO_3.out)); (case aS => exact (keep_size (w := w) (g := g) (row := none) (by repeat (first | (with_reducible first | exact HK.out | apply KeepBut.set_ | apply keep_drewN | apply keep_drew | apply keep_alloc) | exact HK.out)))); (case aL => have := LMc10.out; omega); intro v163 w17 ho hb hg hat; rw [← Ny162.out] at ho; have n0_ := Aside0.mk (IsS87.grown (by repeat (first | (with_reducible first | exact HI0.out | apply IsS87.alloc | apply IsS87.drewN | apply IsS87.drew | apply IsS87.set_1 | apply IsS87.set_2) | exact HI0.out)) hg (IsS87.own_ne HI0.out HO_3.out (by decide))); have n1_ := Aside0.mk (Kd.R_over' (by (with_reducible repeat (first | apply Kd.R_alloc | apply Kd.R_drewN | apply Kd.R_drew)); exact HO155.out) (Kd.R_typed (by (with_reducible repeat (first | apply Kd.R_alloc | apply Kd.R_drewN | apply Kd.R_drew)); exact HO_3.out)) (by decide) hg); have n2_ := Aside0.mk (below_weaken (by repeat (first | (with_reducible first | exact HB.out | apply below_alloc | apply pw_below_drewN | apply below_drew1 | refine below_set ?_ (IsS87.ge HI0.out)) | exact HB.out)) HL.out hb); have n3_ := Aside0.mk (KeepBut.trans (by repeat (first | (with_reducible first | exact HK.out | apply KeepBut.set_ | apply keep_drewN | apply keep_drew | apply keep_alloc) | exact HK.out)) (KeepBut.of_grown hg g) (Kd.R_base2 HO_3.out)); have n4_ := Aside0.mk (ho); clear HI0; clear HO155; clear HB; clear HK; clear HO_3; have HI0 := n0_; have HO155 := n1_; have HB := n2_; have HK := n3_; have HO164 := n4_; clear n0_ n1_ n2_ n3_ n4_; clear ho hb hg hat))
          go_roundg k1
          case measure => have := HK1.out; omega
          case rel => exact ⟨(y162), (wrap64 (x5_1 + 1)), (t160), (t161), (by first | rfl | (simp; done) | (simp [*]; done)), H', ⟨by have := HK1.out; omega⟩, ⟨by (with_reducible repeat (first | apply Kd.R_alloc | apply Kd.R_drewN | apply Kd.R_drew)); exact HO164.out⟩, ⟨by repeat (first | (with_reducible first | exact HI0.out | apply IsS87.alloc | apply IsS87.drewN | apply IsS87.drew | apply IsS87.set_1 | apply IsS87.set_2) | exact HI0.out)⟩, ⟨by repeat (first | (with_reducible first | exact HK.out | apply KeepBut.set_ | apply keep_drewN | apply keep_drew | apply keep_alloc) | exact HK.out)⟩, ⟨by repeat (first | (with_reducible first | exact HB.out | apply below_alloc | apply pw_below_drewN | apply below_drew1 | refine below_set ?_ (IsS87.ge HI0.out)) | exact HB.out)⟩⟩
        · rw [if_neg c10] at H
          exact absurd H (by simp)
      · rw [if_neg c6] at H
        have c6b0 : decide (x5_1 < t147) = false := decide_eq_false c6
        clear c6
        simp only [Option.some.injEq, Prod.mk.injEq] at H
        obtain ⟨rfl, rfl, rfl⟩ := H
        go_wp2
        go_ret
        exact ⟨_, by first | rfl | (simp [errW_none, errW_some] <;> rfl) | (simp [*, errW_none, errW_some] <;> rfl), by (with_reducible repeat (first | apply Kd.R_alloc | apply Kd.R_drewN | apply Kd.R_drew)); exact HO_3.out, by repeat (first | (with_reducible first | exact HI0.out | apply IsS87.alloc | apply IsS87.drewN | apply IsS87.drew | apply IsS87.set_1 | apply IsS87.set_2) | exact HI0.out), by repeat (first | (with_reducible first | exact HB.out | apply below_alloc | apply pw_below_drewN | apply below_drew1 | refine below_set ?_ (IsS87.ge HI0.out)) | exact HB.out), by repeat (first | (with_reducible first | exact HK.out | apply KeepBut.set_ | apply keep_drewN | apply keep_drew | apply keep_alloc) | exact HK.out)⟩

/-! ### spec_DrawWishes: function 35 -/
def spec_DrawWishes.f (k : Nat) (l0 : List Int) : Option ((List (S74))) := (spec_l01New.f k l0).bind fun bt165 => ((spec_l14Wishes.f k bt165.1 bt165.2.1 bt165.2.2).bind fun bt169 => (some bt169.1))
theorem spec_DrawWishes.mono : ∀ a0 k, LeO (spec_DrawWishes.f k a0) (spec_DrawWishes.f (k + 1) a0) := by
  intro a0 k
  unfold spec_DrawWishes.f
  repeat' first
      | (with_reducible exact spec_l01New.mono _ _)
      | (with_reducible exact spec_l14Wishes.mono _ _ _ _)
      | (with_reducible exact LeO.refl _)
      | (with_reducible exact LeO.none _)
      | (with_reducible refine LeO.ite ?_ ?_)
      | (with_reducible refine LeO.bind ?_ (fun _ => ?_))
      | exact spec_l01New.mono _ _
      | exact spec_l14Wishes.mono _ _ _ _
      | exact LeO.none _
      | refine LeO.ite ?_ ?_
      | refine LeO.bind ?_ (fun _ => ?_)
set_option maxHeartbeats 8000000 in
set_option maxRecDepth 100000 in
theorem spec_DrawWishes.calls (k : Nat) (A0 : Option Addr) (c0 : Nat) (l0 : List Int) (r : List (S74)) (w : World) (hr0 : Kd.C (Kd.int .u8) w A0 l0.length l0) (hc0 : l0.length ≤ c0) (h : spec_DrawWishes.f k l0 = some r) :
    Calls Try.prog 35 #[.slice A0 l0.length c0] w fun e w' => ∃ v0_ : Value, e = .returned (v0_) ∧ Kd.R k74 74 w' w.heap.size (fun _ => True) v0_ r ∧ Below w.heap.size w w' := by
  have HR0 := Aside0.mk hr0
  have HC0 := Aside0.mk hc0
  clear hr0 hc0
  have HB := Aside0.mk (Below.refl w.heap.size w)
  have H : ((spec_l01New.f k l0).bind fun bt165 => ((spec_l14Wishes.f k bt165.1 bt165.2.1 bt165.2.2).bind fun bt169 => (some bt169.1))) = some r := h
  clear h
  replace H := Option.bind_eq_some_iff.mp H
  obtain ⟨⟨t165, t166, t167⟩, A20, H⟩ := H
  replace H : ((spec_l14Wishes.f k t165 t166 t167).bind fun bt169 => (some bt169.1)) = some r := H
  have A2 := Aside0.mk A20
  clear A20
  replace H := Option.bind_eq_some_iff.mp H
  obtain ⟨⟨t169, t172, t173⟩, A30, H⟩ := H
  replace H : (some t169) = some r := H
  have A3 := Aside0.mk A30
  clear A30
  obtain rfl := Option.some.inj H
  go_enter Try.func35, Try.ntmps35
  go_wp2_with (first | ((with_reducible refine gate_callee (f := 56) rfl ?_); refine goesL_ (some 4) rfl rfl Try.func56 (by kernel_rfl) rfl #[.slice A0 l0.length c0] rfl (by (try simp only [List.map_toArray, List.map_cons, List.map_nil]); first | done | rfl | (simp only [List.length_drop, List.length_take]; rfl)) ?_; (with_reducible refine (spec_l01New.calls k _ _ l0 t165 t166 t167 w _ ?side1 ?side2 ?side3 A2.out).mono ?_); (case side1 => repeat (first | (with_reducible first | exact HB.out | apply below_alloc | apply pw_below_drewN | apply below_drew1) | exact HB.out)); (case side2 => exact HR0.out); (case side3 => exact HC0.out); rintro e w4 ⟨g168, rfl, hi, hb, hb2⟩; refine ⟨_, rfl, ?_⟩; have n0_ := Aside0.mk (hb); have n1_ := Aside0.mk (hi); clear HB; have HB := n0_; have HI168 := n1_; clear n0_ n1_; (try clear hb); (try clear hb2); (try clear hk); (try clear hi)) | ((with_reducible refine gate_callee (f := 64) rfl ?_); refine goesL_ (some 5) rfl rfl Try.func64 (by kernel_rfl) rfl #[.pointer (some ⟨g168, 0, none⟩)] rfl (by (try simp only [List.map_toArray, List.map_cons, List.map_nil]); first | done | rfl | (simp only [List.length_drop, List.length_take]; rfl)) ?_; (with_reducible refine (spec_l14Wishes.calls k g168 t165 t166 t167 t169 t172 t173 w _ ?side1 ?side2 A3.out).mono ?_); (case side1 => repeat (first | (with_reducible first | exact HI168.out | apply IsS87.alloc | apply IsS87.drewN | apply IsS87.drew | apply IsS87.set_1 | apply IsS87.set_2) | exact HI168.out)); (case side2 => repeat (first | (with_reducible first | exact HB.out | apply below_alloc | apply pw_below_drewN | apply below_drew1 | refine below_set ?_ (IsS87.ge HI168.out)) | exact HB.out)); rintro e w5 ⟨v170, rfl, ho0, hi, hb, hk⟩; refine ⟨_, rfl, ?_⟩; have n0_ := Aside0.mk (Kd.R_lower ho0 (below_size (by repeat (first | (with_reducible first | exact HB.out | apply below_alloc | apply pw_below_drewN | apply below_drew1 | refine below_set ?_ (IsS87.ge HI168.out)) | exact HB.out)))); have n1_ := Aside0.mk (hb); have n2_ := Aside0.mk (hi); clear HB; clear HI168; have HO171 := n0_; have HB := n1_; have HI168 := n2_; clear n0_ n1_ n2_; (try clear hb); (try clear hb2); (try clear hk); (try clear hi); (try clear ho0)))
  go_ret
  exact ⟨_, by first | rfl | (simp [errW_none, errW_some] <;> rfl) | (simp [*, errW_none, errW_some] <;> rfl), by (with_reducible repeat (first | apply Kd.R_alloc | apply Kd.R_drewN | apply Kd.R_drew)); exact HO171.out, by repeat (first | (with_reducible first | exact HB.out | apply below_alloc | apply pw_below_drewN | apply below_drew1 | refine below_set ?_ (IsS87.ge HI168.out)) | exact HB.out)⟩

/-! ### impl_spread: function 50 (by hand) -/
def impl_spread.f : Nat → List Int → Int → Int → List (S29) → Option (List (S29))
  | 0, _, _, _, _ => none
  | k + 1, l1, a2, a3, xs => if (l1.length : Int) = 12 then (if a2 = 0 then (if xs.length < 1000000 then some (xs ++ [(⟨l1⟩ : S29)]) else none) else some xs) else (if 12 - (l1.length : Int) < a2 then some xs else ((impl_spread.f k (l1 ++ [0]) a2 a3 xs).bind fun t => (if 0 < a2 then impl_spread.f k (l1 ++ [a3]) (a2 - 1) a3 t else some t)))
/-- What a call of spread leaves: the slice behind the pointer reads as r; but for the pointer's block and the slice's own nothing that was there has changed. -/
def SpreadEnd (g : Nat) (v : Value) (w0 w : World) (r : List (S29)) (w' : World) : Prop :=
  ∃ v' : Value, w'.heap[g]? = some (.cells #[v'] 26 (0, 0)) ∧ Kd.S k29 29 w' w0.heap.size (fun k_ => w0.heap.size ≤ k_ ∧ k_ ≠ g) v' r ∧ Below w0.heap.size w0 w' ∧ Kept w w' (fun k_ => k_ = g ∨ some k_ = v.ownBlock) ∧ (v'.ownBlock = v.ownBlock ∨ ∃ b, v'.ownBlock = some b ∧ w.heap.size ≤ b)
theorem below_on {w0 w w' : World} (hB : Below w0.heap.size w0 w) (hW : Below w.heap.size w w') : Below w0.heap.size w0 w' :=
  hB.trans ⟨hW.os, hW.tape, hW.output, hW.size, fun i hi => hW.block i (Nat.lt_of_lt_of_le hi hB.size)⟩
theorem SpreadEnd.same {g : Nat} {v : Value} {w0 w w' : World} {xs : List (S29)} (hg : w.heap[g]? = some (.cells #[v] 26 (0, 0))) (hN : Kd.S k29 29 w w0.heap.size (fun k_ => w0.heap.size ≤ k_ ∧ k_ ≠ g) v xs) (hB : Below w0.heap.size w0 w) (hW : Below w.heap.size w w') : SpreadEnd g v w0 w xs w' :=
  ⟨v, blk_below hg hW, Kd.S_below hN hW, below_on hB hW, Kept.of_below hW _, .inl rfl⟩
theorem SpreadEnd.seq {g : Nat} {v v' : Value} {w0 w W1 W2 W3 W4 : World} {r : List (S29)} (hW1 : Below w.heap.size w W1) (k1 : Kept W1 W2 (fun k_ => k_ = g ∨ some k_ = v.ownBlock)) (at1 : v'.ownBlock = v.ownBlock ∨ ∃ b, v'.ownBlock = some b ∧ W1.heap.size ≤ b)
    (hW3 : Below W2.heap.size W2 W3) (E2 : SpreadEnd g v' w0 W3 r W4) : SpreadEnd g v w0 w r W4 := by
  obtain ⟨v2, h1, h2, h3, h4, h5⟩ := E2
  have s1 : w.heap.size ≤ W1.heap.size := hW1.size
  have s2 : W1.heap.size ≤ W2.heap.size := k1.1
  have s3 : W2.heap.size ≤ W3.heap.size := hW3.size
  have ka : Kept w W3 (fun k_ => k_ = g ∨ some k_ = v.ownBlock) := ((Kept.of_below hW1 (fun k_ => k_ = g ∨ some k_ = v.ownBlock)).then_ k1 (fun k hk => .inl hk)).below hW3
  refine ⟨v2, h1, h2, h3, ka.then_ h4 (fun k hk => ?_), ?_⟩
  · rcases hk with hk | hk
    · exact .inl (.inl hk)
    · rcases at1 with h | ⟨b, hb, hle⟩
      · exact .inl (.inr (hk.trans h))
      · rw [hb] at hk; injection hk with hk; right; omega
  · rcases h5 with h | ⟨b, hb, hle⟩
    · rcases at1 with h' | ⟨b, hb, hle⟩
      · exact .inl (h.trans h')
      · exact .inr ⟨b, h.trans hb, by omega⟩
    · exact .inr ⟨b, hb, by omega⟩
theorem SpreadEnd.at {g : Nat} {v : Value} {w0 w W1 W2 : World} {r : List (S29)} (hW1 : Below w.heap.size w W1) (E : SpreadEnd g v w0 W1 r W2) : SpreadEnd g v w0 w r W2 := by
  obtain ⟨v2, h1, h2, h3, h4, h5⟩ := E
  have s1 : w.heap.size ≤ W1.heap.size := hW1.size
  refine ⟨v2, h1, h2, h3, (Kept.of_below hW1 (fun k_ => k_ = g ∨ some k_ = v.ownBlock)).then_ h4 (fun k hk => .inl hk), ?_⟩
  rcases h5 with h | ⟨b, hb, hle⟩
  · exact .inl h
  · exact .inr ⟨b, hb, by omega⟩
theorem infoC : (Try.prog.info? 29).map (fun i => (i.zero, i.size, i.bytes)) = some (some (.agg #[(.slice none 0 0)]), 1, 24) := by kernel_rfl
theorem infoI : (Try.prog.info? 3).map (fun i => (i.zero, i.size, i.bytes)) = some (some (.int .i64 0), 1, 8) := by kernel_rfl
set_option maxHeartbeats 8000000 in
set_option maxRecDepth 100000 in
/-- The last place: the list is whole; it is appended if nothing is left to spread. -/
theorem impl_spread.leaf (g : Nat) (A1 : Option Addr) (c1 : Nat) (l1 : List Int) (a3 : Int) (v : Value) (xs : List (S29)) (w0 w : World) (ok1 : Nat → Prop)
    (hg : w.heap[g]? = some (.cells #[v] 26 (0, 0))) (hgb : w0.heap.size ≤ g) (hN : Kd.S k29 29 w w0.heap.size (fun k_ => w0.heap.size ≤ k_ ∧ k_ ≠ g) v xs) (hB : Below w0.heap.size w0 w)
    (hr1 : Kd.F (Kd.int .i64) w ok1 A1 l1.length l1) (hc1 : l1.length ≤ c1) (hl1 : l1.length = 12) (hxs : xs.length < 1000000) :
    Calls Try.prog 50 #[.pointer (some ⟨g, 0, none⟩), .slice A1 l1.length c1, .int .i64 0, .int .i64 a3] w fun e w' => e = .returned (.tuple #[]) ∧ SpreadEnd g v w0 w (xs ++ [(⟨l1⟩ : S29)]) w' := by
  have hu29 := Try.underlying29
  have HG := Aside0.mk hg
  have HN := Aside0.mk hN
  have HF := Aside0.mk hr1
  have HC := Aside0.mk hc1
  have HB := Aside0.mk hB
  have HW := Aside0.mk (Below.refl w.heap.size w)
  have HGB := Aside0.mk hgb
  have HX := Aside0.mk hxs
  obtain ⟨ye, hye⟩ : ∃ y_ : List Int, y_ = ([] : List Int) := ⟨_, rfl⟩
  have Nye := Aside0.mk hye
  clear hye
  obtain ⟨yl, hyl⟩ : ∃ y_ : List Int, y_ = ye ++ l1 := ⟨_, rfl⟩
  have Nyl := Aside0.mk hyl
  clear hyl
  have c4b0 : ((l1.length : Int) == 12) = true := beq_iff_eq.mpr (by omega)
  have HL := Aside0.mk hl1
  have hglt := Aside0.mk (blk_lt hg)
  clear hg hN hr1 hc1 hB hgb hxs hl1
  go_enter Try.func50, Try.ntmps50
  go_wp2
  refine start_ (n := 12) (S := fun w' => w'.cell? ⟨g, 0, none⟩ = some v) (ds := [11]) #[false, false, false, false, false, false, false, false, false, false, false, false] (by kernel_rfl) rfl rfl ((blk_cell HG.out 0).trans rfl) (fun hHeld => ?_)
  generalize hwd : w.drew = wd at hHeld ⊢
  have HWd : Aside0 (Below w.heap.size w wd) := ⟨hwd ▸ below_drew1 HW.out⟩
  have HGd : Aside0 (wd.heap[g]? = some (.cells #[v] 26 (0, 0))) := ⟨blk_below HG.out HWd.out⟩
  clear hwd
  refine pure_ (i := 0) (N := some 14) (v := ?_) (a' := ?_) #[true, false, false, false, false, false, false, false, false, false, false, false] rfl rfl (by kernel_rfl) (fun _ _ _ h => h) (Or.inl ⟨by rfl, ?_⟩) ?_ ?_
  rotate_left
  · intro w'
    go_simp
    with_reducible rfl
  rotate_left
  · simp only [Act.put, List.setIfInBounds_toArray, List.set_cons_zero, List.set_cons_succ, i64_w, i32_w]
    rfl
  refine pure_ (i := 1) (N := some 15) (v := ?_) (a' := ?_) #[true, true, false, false, false, false, false, false, false, false, false, false] rfl rfl (by kernel_rfl) (fun _ _ _ h => h) (Or.inl ⟨by rfl, ?_⟩) ?_ ?_
  rotate_left
  · intro w'
    go_simp
    with_reducible rfl
  rotate_left
  · simp only [Act.put, List.setIfInBounds_toArray, List.set_cons_zero, List.set_cons_succ, i64_w, i32_w]
    rfl
  refine pure_ (i := 5) (N := some 19) (v := ?_) (a' := ?_) #[true, true, false, false, false, true, false, false, false, false, false, false] rfl rfl (by kernel_rfl) (fun _ _ _ h => h) (Or.inl ⟨by rfl, ?_⟩) ?_ ?_
  rotate_left
  · intro w'
    go_simp
    with_reducible rfl
  rotate_left
  · simp only [Act.put, List.setIfInBounds_toArray, List.set_cons_zero, List.set_cons_succ, i64_w, i32_w]
    rfl
  refine pure_ (i := 2) (N := some 16) (v := ?_) (a' := ?_) #[true, true, true, false, false, true, false, false, false, false, false, false] rfl rfl (by kernel_rfl) (fun _ _ _ h => h) (Or.inl ⟨by rfl, ?_⟩) ?_ ?_
  rotate_left
  · intro w'
    go_simp
    with_reducible rfl
  rotate_left
  · simp only [Act.put, List.setIfInBounds_toArray, List.set_cons_zero, List.set_cons_succ, i64_w, i32_w]
    rfl
  refine take_ (i := 3) (N := some 17) (v := ?_) (a' := ?_) #[true, true, true, true, false, true, false, false, false, false, false, false] rfl rfl (by kernel_rfl) (fun _ _ _ h => h) (Or.inl ⟨by rfl, ?_⟩) hHeld ?_ ?_
  rotate_left
  · rintro w' s0
    go_simp
    with_reducible rfl
  rotate_left
  · simp only [Act.put, List.setIfInBounds_toArray, List.set_cons_zero, List.set_cons_succ, i64_w, i32_w]
    rfl
  refine one_ (i := 4) (N := some 18) #[true, true, true, true, true, true, false, false, false, false, false, false] rfl rfl (by kernel_rfl) (by decide) (fun K hK => ?_)
  refine Kd.R_lit_step (Kd.int .i64) _ 3 ?hg (N := 18) ?hd (xs := ([] : List Int)) (inner := []) (ok := fun _ => True) (okp := fun _ => True) ?hr ?hp (fun _ hk => hk) trivial (Below.refl _ _) (Nat.le_refl _) (by simp) ?_; (case hd => rfl); (case hg => rfl); (case hr => first | (go_simp; done) | (go_simp; rfl)); (case hp => exact (Reps.none _ _))
  intro v18 w18 ho hb hg_ hnew_
  clear hg_ hnew_
  (first | rw [← Nye.out] at ho | (simp only [Int.reduceToNat] at ho; rw [← Nye.out] at ho))
  have n0_ := Aside0.mk (Kd.R_lower ho HWd.out.size)
  have n1_ := Aside0.mk (below_step HWd.out hb)
  clear hb ho
  have HO1 := n0_
  have HW1 := n1_
  clear n0_ n1_
  have hc1_ := (blk_cell (blk_below HG.out HW1.out) 0).trans rfl
  refine hK.out _ _ hc1_ (fun hHeld => ?_)
  clear hK K
  refine norm_ (a' := ?_) ?_ ?_
  rotate_left
  · show Act.put _ (some 18) _ = _
    simp only [Act.put, List.setIfInBounds_toArray, List.set_cons_zero, List.set_cons_succ, i64_w, i32_w]
    rfl
  refine one_ (i := 6) (N := some 20) #[true, true, true, true, true, true, true, false, false, false, false, false] rfl rfl (by kernel_rfl) (by decide) (fun K hK => ?_)
  refine Kd.R_append_rows_step (Kd.int .i64) (w0 := w) w.heap.size (by rfl) (.tmp 18) (.tmp 19) 24 3 (.int .i64 0) 8 rfl Try.underlying24 infoI rfl (by decide) (by omega) v18 ye l1 _ _ _ (fun _ => True) (fun _ => False) rfl rfl ?aO ?aR (fun _ _ h => h) (fun _ h => h.elim) ?aF ?aB ?aS ?aL ?_
  (case aR => exact Kd.C_below (Kd.F_now HF.out) HW1.out)
  (case aB => exact HW1.out)
  (case aF => exact (fun _ _ => trivial))
  (case aO => exact HO1.out)
  (case aS => exact HW1.out.size)
  (case aL => have h1_ := HL.out; have h2_ := Nye.out; rw [h2_]; simp only [List.length_nil]; omega)
  intro v20 w20 ho hb hg hat
  rw [← Nyl.out] at ho
  have HW2 := Aside0.mk hb
  have HO2 := Aside0.mk ho
  clear ho hb hg hat
  obtain ⟨A2, c2, e2⟩ := Kd.R_slice HO2.out
  subst e2
  have hc2_ := (blk_cell (blk_below HG.out HW2.out) 0).trans rfl
  refine hK.out _ _ hc2_ (fun hHeld => ?_)
  clear hK K
  refine norm_ (a' := ?_) ?_ ?_
  rotate_left
  · show Act.put _ (some 20) _ = _
    simp only [Act.put, List.setIfInBounds_toArray, List.set_cons_zero, List.set_cons_succ, i64_w, i32_w]
    rfl
  refine pure_ (i := 7) (N := some 21) (v := ?_) (a' := ?_) #[true, true, true, true, true, true, true, true, false, false, false, false] rfl rfl (by kernel_rfl) (fun _ _ _ h => h) (Or.inl ⟨by rfl, ?_⟩) ?_ ?_
  rotate_left
  · intro w'
    go_simp
    with_reducible rfl
  rotate_left
  · simp only [Act.put, List.setIfInBounds_toArray, List.set_cons_zero, List.set_cons_succ, i64_w, i32_w]
    rfl
  refine one_ (i := 8) (N := some 22) #[true, true, true, true, true, true, true, true, true, false, false, false] rfl rfl (by kernel_rfl) (by decide) (fun K hK => ?_)
  refine value_ (w1 := ?_) (v := ?_) (by rfl) rfl ?_ ?_
  rotate_left 2
  · go_simp
    constructor
    · rfl
    · rfl
  have hc3_ := (blk_cell (blk_alloc (blk_below HG.out HW2.out) (.cells #[.slice A2 yl.length c2] 29 (0, 0))) 0).trans rfl
  refine hK.out _ _ hc3_ (fun hHeld => ?_)
  clear hK K
  refine norm_ (a' := ?_) ?_ ?_
  rotate_left
  · show Act.put _ (some 22) _ = _
    simp only [Act.put, List.setIfInBounds_toArray, List.set_cons_zero, List.set_cons_succ, i64_w, i32_w]
    rfl
  refine one_ (i := 9) (N := some 23) #[true, true, true, true, true, true, true, true, true, true, false, false] rfl rfl (by kernel_rfl) (by decide) (fun K hK => ?_)
  have hNl := Kd.S_lt HN.out
  have hBs := HB.out.size
  have hgl := hglt.out
  have hokp : ∀ k_, w.heap.size ≤ k_ → (w0.heap.size ≤ k_ ∧ k_ ≠ g) ∧ some k_ ≠ v.ownBlock := fun k_ hk => ⟨⟨Nat.le_trans hBs hk, by omega⟩, fun he => by have := hNl k_ he.symm; omega⟩
  have HP := Aside0.mk hokp
  clear hNl hBs hgl hokp
  refine Kd.S_append_step k29 (w0 := w0) w0.heap.size (by rfl) (.tmp 17) (.tmp 22) 26 29 (.agg #[(.slice none 0 0)]) 24 rfl Try.underlying26 infoC rfl (by decide) (by omega) v xs (⟨yl⟩ : S29) [.slice A2 yl.length c2] (fun k_ => w0.heap.size ≤ k_ ∧ k_ ≠ g) (fun k_ => w.heap.size ≤ k_) rfl rfl ?aP HP.out ?aF ?aO ?aB ?aS ?aL ?_
  (case aP => exact k29_mkM _ _ _ (⟨yl⟩ : S29) (Kd.R_lower (Kd.R_mono (ok' := (fun k_ => w.heap.size ≤ k_)) (Kd.R_bound HO2.out) (fun _ hk => hk.2.1)) HB.out.size))
  (case aF => exact fun k_ hk => (HP.out k_ (Nat.le_trans HW2.out.size hk)).1)
  (case aO => exact Kd.S_below (Kd.S_mono (Kd.S_bound HN.out) (fun k_ hk => ⟨hk.1, Nat.not_le.2 hk.2.2.1⟩)) HW2.out)
  (case aB => exact below_on HB.out HW2.out)
  (case aS => exact Nat.le_trans HB.out.size HW2.out.size)
  (case aL => have h1_ := HX.out; omega)
  intro v23 w23 ho hb hg hat
  have HO3 := Aside0.mk ho
  have HB3 := Aside0.mk hb
  have HG3 := Aside0.mk (blk_grown (blk_below HG.out HW2.out) hg (Kd.S_away HN.out (fun k_ hk => hk.2)))
  have HK3 := Aside0.mk (Kept.of_grown (S := fun k_ => k_ = g ∨ some k_ = v.ownBlock) hg (Kept.of_below HW2.out _) (fun k_ hk => .inl (.inr hk.symm)))
  have HT3 : Aside0 (v23.ownBlock = v.ownBlock ∨ ∃ b, v23.ownBlock = some b ∧ w.heap.size ≤ b) := ⟨hat.imp_right (fun ⟨b, h1, h2⟩ => ⟨b, h1, Nat.le_trans HW2.out.size h2⟩)⟩
  clear ho hb hg hat
  obtain ⟨A3, c3, e3⟩ := Kd.S_slice HO3.out
  subst e3
  have hc4_ := (blk_cell HG3.out 0).trans rfl
  refine hK.out _ _ hc4_ (fun hHeld => ?_)
  clear hK K
  refine norm_ (a' := ?_) ?_ ?_
  rotate_left
  · show Act.put _ (some 23) _ = _
    simp only [Act.put, List.setIfInBounds_toArray, List.set_cons_zero, List.set_cons_succ, i64_w, i32_w]
    rfl
  refine pure_ (i := 10) (N := some 24) (v := ?_) (a' := ?_) #[true, true, true, true, true, true, true, true, true, true, true, false] rfl rfl (by kernel_rfl) (fun _ _ _ h => h) (Or.inl ⟨by rfl, ?_⟩) ?_ ?_
  rotate_left
  · intro w'
    go_simp
    with_reducible rfl
  rotate_left
  · simp only [Act.put, List.setIfInBounds_toArray, List.set_cons_zero, List.set_cons_succ, i64_w, i32_w]
    rfl
  refine last_ (i := 11) (N := none) #[true, true, true, true, true, true, true, true, true, true, true, true] rfl rfl (by kernel_rfl) (by decide) (fun K hK => ?_)
  have hs_ : w23.cell? ⟨g, 0, none⟩ = some v := (blk_cell HG3.out 0).trans rfl
  have hfs_ := blk_frozen HG3.out 0
  refine skip_ (w1 := ?_) (by rfl) rfl ?_ ?_
  rotate_left
  · go_simp
    rfl
  refine hK.out _ _ ?_
  clear hK K
  refine done_ (by kernel_rfl) ?_
  try go_wp2
  refine bodyPost_ret (results_none rfl _ _ _) rfl ?_
  rw [show xs.length + 1 = (xs ++ [(⟨yl⟩ : S29)]).length by simp]
  refine ⟨rfl, _, blk_put (cs := #[v]) HG3.out 0 _ rfl, ?_, Below.setCell HB3.out (p := ⟨g, 0, none⟩) HGB.out _, Kept.setCell HK3.out (p := ⟨g, 0, none⟩) (.inl (.inl rfl)) _, HT3.out⟩
  have hyl : yl = l1 := by rw [Nyl.out, Nye.out]; rfl
  rw [← hyl]
  exact Kd.S_far (p := ⟨g, 0, none⟩) HO3.out (fun k_ hk => hk.2) _

set_option maxHeartbeats 8000000 in
set_option maxRecDepth 100000 in
theorem impl_spread.none12 (g : Nat) (A1 : Option Addr) (c1 : Nat) (l1 : List Int) (a2 a3 : Int) (v : Value) (xs : List (S29)) (w0 w : World) (ok1 : Nat → Prop)
    (hg : w.heap[g]? = some (.cells #[v] 26 (0, 0))) (hgb : w0.heap.size ≤ g) (hN : Kd.S k29 29 w w0.heap.size (fun k_ => w0.heap.size ≤ k_ ∧ k_ ≠ g) v xs) (hB : Below w0.heap.size w0 w)
    (hr1 : Kd.F (Kd.int .i64) w ok1 A1 l1.length l1) (hok1 : ∀ k_, ok1 k_ → k_ ≠ g ∧ some k_ ≠ v.ownBlock) (hc1 : l1.length ≤ c1) (hl1 : l1.length = 12) (h2 : ¬ a2 = 0) :
    Calls Try.prog 50 #[.pointer (some ⟨g, 0, none⟩), .slice A1 l1.length c1, .int .i64 a2, .int .i64 a3] w fun e w' => e = .returned (.tuple #[]) ∧ SpreadEnd g v w0 w xs w' := by
  have c4b0 : ((l1.length : Int) == 12) = true := beq_iff_eq.mpr (by omega)
  have c5b0 : (a2 == 0) = false := beq_eq_false_iff_ne.mpr h2
  have HG := Aside0.mk hg
  have HN := Aside0.mk hN
  have HF := Aside0.mk hr1
  have HK := Aside0.mk hok1
  have HC := Aside0.mk hc1
  have HB := Aside0.mk hB
  have HGB := Aside0.mk hgb
  have HW := Aside0.mk (Below.refl w.heap.size w)
  clear hg hN hr1 hok1 hc1 hB hgb
  clear hl1 h2
  go_enter Try.func50, Try.ntmps50
  go_wp2
  refine bodyPost_ret (results_none rfl _ _ _) rfl ?_
  exact ⟨rfl, SpreadEnd.same HG.out HN.out HB.out (by repeat (first | (with_reducible first | exact HW.out | apply below_alloc | apply pw_below_drewN | apply below_drew1) | exact HW.out))⟩

set_option maxHeartbeats 8000000 in
set_option maxRecDepth 100000 in
theorem impl_spread.many (g : Nat) (A1 : Option Addr) (c1 : Nat) (l1 : List Int) (a2 a3 : Int) (v : Value) (xs : List (S29)) (w0 w : World) (ok1 : Nat → Prop)
    (hg : w.heap[g]? = some (.cells #[v] 26 (0, 0))) (hgb : w0.heap.size ≤ g) (hN : Kd.S k29 29 w w0.heap.size (fun k_ => w0.heap.size ≤ k_ ∧ k_ ≠ g) v xs) (hB : Below w0.heap.size w0 w)
    (hr1 : Kd.F (Kd.int .i64) w ok1 A1 l1.length l1) (hok1 : ∀ k_, ok1 k_ → k_ ≠ g ∧ some k_ ≠ v.ownBlock) (hc1 : l1.length ≤ c1) (hl1 : l1.length ≤ 12) (hl2 : ¬ (l1.length : Int) = 12) (h2 : 12 - (l1.length : Int) < a2) (h2' : a2 ≤ 12) :
    Calls Try.prog 50 #[.pointer (some ⟨g, 0, none⟩), .slice A1 l1.length c1, .int .i64 a2, .int .i64 a3] w fun e w' => e = .returned (.tuple #[]) ∧ SpreadEnd g v w0 w xs w' := by
  have c4b0 : ((l1.length : Int) == 12) = false := beq_eq_false_iff_ne.mpr hl2
  have c5b0 : decide (12 - (l1.length : Int) < a2) = true := decide_eq_true h2
  have HG := Aside0.mk hg
  have HN := Aside0.mk hN
  have HF := Aside0.mk hr1
  have HK := Aside0.mk hok1
  have HC := Aside0.mk hc1
  have HB := Aside0.mk hB
  have HGB := Aside0.mk hgb
  have HW := Aside0.mk (Below.refl w.heap.size w)
  clear hg hN hr1 hok1 hc1 hB hgb
  have hlz : (l1.length : Int) ≤ 12 := by omega
  clear hl2 h2
  go_enter Try.func50, Try.ntmps50
  go_wp2
  refine bodyPost_ret (results_none rfl _ _ _) rfl ?_
  exact ⟨rfl, SpreadEnd.same HG.out HN.out HB.out (by repeat (first | (with_reducible first | exact HW.out | apply below_alloc | apply pw_below_drewN | apply below_drew1) | exact HW.out))⟩

set_option maxHeartbeats 8000000 in
set_option maxRecDepth 100000 in
theorem impl_spread.one (g : Nat) (A1 : Option Addr) (c1 : Nat) (l1 : List Int) (a2 a3 : Int) (v : Value) (xs : List (S29)) (w0 w : World) (ok1 : Nat → Prop)
    (hg : w.heap[g]? = some (.cells #[v] 26 (0, 0))) (hgb : w0.heap.size ≤ g) (hN : Kd.S k29 29 w w0.heap.size (fun k_ => w0.heap.size ≤ k_ ∧ k_ ≠ g) v xs) (hB : Below w0.heap.size w0 w)
    (hr1 : Kd.F (Kd.int .i64) w ok1 A1 l1.length l1) (hok1 : ∀ k_, ok1 k_ → k_ ≠ g ∧ some k_ ≠ v.ownBlock) (hc1 : l1.length ≤ c1) (hl1 : l1.length < 12) (h2 : ¬ 12 - (l1.length : Int) < a2) (h0 : 0 ≤ a2) (h2' : a2 ≤ 12) (t : List (S29))
    (ih1 : ∀ (W : World) (A : Option Addr) (c : Nat) (ok : Nat → Prop) (y : List Int), y = l1 ++ [0] → W.heap[g]? = some (.cells #[v] 26 (0, 0)) → Kd.S k29 29 W w0.heap.size (fun k_ => w0.heap.size ≤ k_ ∧ k_ ≠ g) v xs → Below w0.heap.size w0 W →
      Kd.F (Kd.int .i64) W ok A y.length y → (∀ k_, ok k_ → k_ ≠ g ∧ some k_ ≠ v.ownBlock) → y.length ≤ c → Calls Try.prog 50 #[.pointer (some ⟨g, 0, none⟩), .slice A y.length c, .int .i64 a2, .int .i64 a3] W fun e w' => e = .returned (.tuple #[]) ∧ SpreadEnd g v w0 W t w') (h3 : ¬ 0 < a2) :
    Calls Try.prog 50 #[.pointer (some ⟨g, 0, none⟩), .slice A1 l1.length c1, .int .i64 a2, .int .i64 a3] w fun e w' => e = .returned (.tuple #[]) ∧ SpreadEnd g v w0 w t w' := by
  have c4b0 : ((l1.length : Int) == 12) = false := beq_eq_false_iff_ne.mpr (by omega)
  have c5b0 : decide (12 - (l1.length : Int) < a2) = false := decide_eq_false h2
  have c6b0 : decide (0 < a2) = false := decide_eq_false h3
  have HG := Aside0.mk hg
  have HN := Aside0.mk hN
  have HF := Aside0.mk hr1
  have HK := Aside0.mk hok1
  have HC := Aside0.mk hc1
  have HB := Aside0.mk hB
  have HGB := Aside0.mk hgb
  have HW := Aside0.mk (Below.refl w.heap.size w)
  clear hg hN hr1 hok1 hc1 hB hgb
  have HL := Aside0.mk hl1
  have hlz : (l1.length : Int) ≤ 12 := by omega
  have IH1 := Aside0.mk ih1
  clear h3
  have hgl := blk_lt HG.out
  have hNl := Kd.S_lt HN.out
  have hok0 : ∀ k_, w.heap.size ≤ k_ → k_ ≠ g ∧ some k_ ≠ v.ownBlock := fun k_ hk => ⟨by omega, fun he => by have := hNl k_ he.symm; omega⟩
  have HP := Aside0.mk hok0
  clear hgl hNl hok0 hl1 h2 ih1
  obtain ⟨ye, hye⟩ : ∃ y_ : List Int, y_ = ([] : List Int) := ⟨_, rfl⟩
  have Nye := Aside0.mk hye
  clear hye
  obtain ⟨yl, hyl⟩ : ∃ y_ : List Int, y_ = ye ++ l1 := ⟨_, rfl⟩
  have Nyl := Aside0.mk hyl
  have HYL : Aside0 (yl.length = l1.length) := ⟨by rw [hyl, Nye.out]; rfl⟩
  have Nyq : Aside0 (yl = l1) := ⟨by rw [hyl, Nye.out]; rfl⟩
  clear hyl
  obtain ⟨y0, hy0⟩ : ∃ y_ : List Int, y_ = yl ++ [0] := ⟨_, rfl⟩
  have Ny0 := Aside0.mk hy0
  clear hy0
  go_enter Try.func50, Try.ntmps50
  go_wp2_with (first | ((with_reducible refine gate_dst (N := 30) rfl ?_); refine Kd.R_lit (Kd.int .i64) _ 3 ?hg (N := 30) ?hd (xs := ([] : List Int)) (inner := []) (ok := fun _ => True) (okp := fun _ => True) ?hr ?hp (fun _ hk => hk) trivial (Below.refl _ _) (Nat.le_refl _) (by simp) ?_; (case hd => rfl); (case hg => rfl); (case hr => first | (go_simp; done) | (go_simp; rfl)); (case hp => exact (Reps.none _ _)); intro v30 w30 ho hb hg_ hnew_; clear hg_ hnew_; (first | rw [← Nye.out] at ho | (simp only [Int.reduceToNat] at ho; rw [← Nye.out] at ho)); have n0_ := Aside0.mk (Kd.R_lower ho (below_size (by repeat (first | (with_reducible first | exact HW.out | apply below_alloc | apply pw_below_drewN | apply below_drew1) | exact HW.out)))); have n1_ := Aside0.mk (below_step (by repeat (first | (with_reducible first | exact HW.out | apply below_alloc | apply pw_below_drewN | apply below_drew1) | exact HW.out)) hb); clear HW; have HO := n0_; have HW := n1_; clear n0_ n1_; clear hb ho) | ((with_reducible refine gate_builtin (b := .append) (xs := #[.tmp 30, .tmp 31]) rfl ?_); at_builtin; refine Kd.R_append_rows (Kd.int .i64) (w0 := w) w.heap.size rfl (.tmp 30) (.tmp 31) 24 3 (.int .i64 0) 8 rfl Try.underlying24 infoI rfl (by decide) (by omega) v30 ye l1 _ _ _ (fun _ => True) (fun _ => False) rfl rfl ?aO ?aR (fun _ _ h => h) (fun _ h => h.elim) ?aF ?aB ?aS ?aL ?_; (case aR => exact Kd.C_below (Kd.F_now HF.out) (by repeat (first | (with_reducible first | exact HW.out | apply below_alloc | apply pw_below_drewN | apply below_drew1) | exact HW.out))); (case aB => exact (by repeat (first | (with_reducible first | exact HW.out | apply below_alloc | apply pw_below_drewN | apply below_drew1) | exact HW.out))); (case aF => exact (fun _ _ => trivial)); (case aO => exact (by (with_reducible repeat (first | apply Kd.R_alloc | apply Kd.R_drewN | apply Kd.R_drew)); exact HO.out)); (case aS => exact (below_size (by repeat (first | (with_reducible first | exact HW.out | apply below_alloc | apply pw_below_drewN | apply below_drew1) | exact HW.out)))); (case aL => have h1_ := HL.out; have h2_ := Nye.out; rw [h2_]; simp only [List.length_nil]; omega); intro v32 w32 ho hb hg hat; rw [← Nyl.out] at ho; clear HW; clear HO; have HW := Aside0.mk hb; have HO := Aside0.mk ho; clear ho hb hg hat) | ((with_reducible refine gate_builtin (b := .append) (xs := #[.tmp 34, .tmp 35]) rfl ?_); at_builtin; refine Kd.R_append (Kd.int .i64) (w0 := w) w.heap.size rfl (.tmp 34) (.tmp 35) 24 3 (.int .i64 0) 8 rfl Try.underlying24 infoI rfl (by decide) (by omega) v32 yl 0 [.int .i64 0] (fun _ => True) (fun _ => False) rfl rfl ?aP (fun _ hk => hk.elim) ?aF ?aO ?aB ?aS ?aL ?_; (case aP => exact rfl); (case aB => exact (by repeat (first | (with_reducible first | exact HW.out | apply below_alloc | apply pw_below_drewN | apply below_drew1) | exact HW.out))); (case aF => exact (fun _ _ => trivial)); (case aO => exact (by (with_reducible repeat (first | apply Kd.R_alloc | apply Kd.R_drewN | apply Kd.R_drew)); exact HO.out)); (case aS => exact (below_size (by repeat (first | (with_reducible first | exact HW.out | apply below_alloc | apply pw_below_drewN | apply below_drew1) | exact HW.out)))); (case aL => have h1_ := HL.out; have h3_ := HYL.out; omega); intro v36 w36 ho hb hg hat; rw [← Ny0.out] at ho; clear HW; clear HO; have HW := Aside0.mk hb; have HO := Aside0.mk ho; clear ho hb hg hat; obtain ⟨A36, c36, e36⟩ := Kd.R_slice HO.out; subst e36))
  refine (IH1.out _ _ _ (fun k_ => w.heap.size ≤ k_) y0 (by rw [Ny0.out, Nyq.out]) (blk_below HG.out (by repeat (first | (with_reducible first | exact HW.out | apply below_alloc | apply pw_below_drewN | apply below_drew1) | exact HW.out))) (Kd.S_below HN.out (by repeat (first | (with_reducible first | exact HW.out | apply below_alloc | apply pw_below_drewN | apply below_drew1) | exact HW.out))) (below_on HB.out (by repeat (first | (with_reducible first | exact HW.out | apply below_alloc | apply pw_below_drewN | apply below_drew1) | exact HW.out))) ?_ HP.out ?_).mono ?_
  · exact Kd.R_F (Kd.R_mono (ok' := (fun k_ => w.heap.size ≤ k_)) (Kd.R_bound (by (with_reducible repeat (first | apply Kd.R_alloc | apply Kd.R_drewN | apply Kd.R_drew)); exact HO.out)) (fun _ hk => hk.2.1))
  · exact (Kd.R_reads' HO.out).2.1
  rintro e w2 ⟨rfl, hE⟩
  have HE := Aside0.mk hE
  clear hE
  go_wp2
  go_end0
  exact ⟨rfl, SpreadEnd.at (by repeat (first | (with_reducible first | exact HW.out | apply below_alloc | apply pw_below_drewN | apply below_drew1) | exact HW.out)) HE.out⟩

set_option maxHeartbeats 8000000 in
set_option maxRecDepth 100000 in
theorem impl_spread.two (g : Nat) (A1 : Option Addr) (c1 : Nat) (l1 : List Int) (a2 a3 : Int) (v : Value) (xs : List (S29)) (w0 w : World) (ok1 : Nat → Prop)
    (hg : w.heap[g]? = some (.cells #[v] 26 (0, 0))) (hgb : w0.heap.size ≤ g) (hN : Kd.S k29 29 w w0.heap.size (fun k_ => w0.heap.size ≤ k_ ∧ k_ ≠ g) v xs) (hB : Below w0.heap.size w0 w)
    (hr1 : Kd.F (Kd.int .i64) w ok1 A1 l1.length l1) (hok1 : ∀ k_, ok1 k_ → k_ ≠ g ∧ some k_ ≠ v.ownBlock) (hc1 : l1.length ≤ c1) (hl1 : l1.length < 12) (h2 : ¬ 12 - (l1.length : Int) < a2) (h0 : 0 ≤ a2) (h2' : a2 ≤ 12) (t : List (S29))
    (ih1 : ∀ (W : World) (A : Option Addr) (c : Nat) (ok : Nat → Prop) (y : List Int), y = l1 ++ [0] → W.heap[g]? = some (.cells #[v] 26 (0, 0)) → Kd.S k29 29 W w0.heap.size (fun k_ => w0.heap.size ≤ k_ ∧ k_ ≠ g) v xs → Below w0.heap.size w0 W →
      Kd.F (Kd.int .i64) W ok A y.length y → (∀ k_, ok k_ → k_ ≠ g ∧ some k_ ≠ v.ownBlock) → y.length ≤ c → Calls Try.prog 50 #[.pointer (some ⟨g, 0, none⟩), .slice A y.length c, .int .i64 a2, .int .i64 a3] W fun e w' => e = .returned (.tuple #[]) ∧ SpreadEnd g v w0 W t w') (h3 : 0 < a2) (r : List (S29))
    (ih2 : ∀ (W : World) (A : Option Addr) (c : Nat) (ok : Nat → Prop) (v2 : Value) (y : List Int), y = l1 ++ [a3] → W.heap[g]? = some (.cells #[v2] 26 (0, 0)) → Kd.S k29 29 W w0.heap.size (fun k_ => w0.heap.size ≤ k_ ∧ k_ ≠ g) v2 t → Below w0.heap.size w0 W →
      Kd.F (Kd.int .i64) W ok A y.length y → (∀ k_, ok k_ → k_ ≠ g ∧ some k_ ≠ v2.ownBlock) → y.length ≤ c → Calls Try.prog 50 #[.pointer (some ⟨g, 0, none⟩), .slice A y.length c, .int .i64 (a2 - 1), .int .i64 a3] W fun e w' => e = .returned (.tuple #[]) ∧ SpreadEnd g v2 w0 W r w') :
    Calls Try.prog 50 #[.pointer (some ⟨g, 0, none⟩), .slice A1 l1.length c1, .int .i64 a2, .int .i64 a3] w fun e w' => e = .returned (.tuple #[]) ∧ SpreadEnd g v w0 w r w' := by
  have c4b0 : ((l1.length : Int) == 12) = false := beq_eq_false_iff_ne.mpr (by omega)
  have c5b0 : decide (12 - (l1.length : Int) < a2) = false := decide_eq_false h2
  have c6b0 : decide (0 < a2) = true := decide_eq_true h3
  have HG := Aside0.mk hg
  have HN := Aside0.mk hN
  have HF := Aside0.mk hr1
  have HK := Aside0.mk hok1
  have HC := Aside0.mk hc1
  have HB := Aside0.mk hB
  have HGB := Aside0.mk hgb
  have HW := Aside0.mk (Below.refl w.heap.size w)
  clear hg hN hr1 hok1 hc1 hB hgb
  have HL := Aside0.mk hl1
  have hlz : (l1.length : Int) ≤ 12 := by omega
  have IH1 := Aside0.mk ih1
  have IH2 := Aside0.mk ih2
  clear ih2
  have hgl := blk_lt HG.out
  have hNl := Kd.S_lt HN.out
  have hok0 : ∀ k_, w.heap.size ≤ k_ → k_ ≠ g ∧ some k_ ≠ v.ownBlock := fun k_ hk => ⟨by omega, fun he => by have := hNl k_ he.symm; omega⟩
  have HP := Aside0.mk hok0
  clear hgl hNl hok0 hl1 h2 ih1
  obtain ⟨ye, hye⟩ : ∃ y_ : List Int, y_ = ([] : List Int) := ⟨_, rfl⟩
  have Nye := Aside0.mk hye
  clear hye
  obtain ⟨yl, hyl⟩ : ∃ y_ : List Int, y_ = ye ++ l1 := ⟨_, rfl⟩
  have Nyl := Aside0.mk hyl
  have HYL : Aside0 (yl.length = l1.length) := ⟨by rw [hyl, Nye.out]; rfl⟩
  have Nyq : Aside0 (yl = l1) := ⟨by rw [hyl, Nye.out]; rfl⟩
  clear hyl
  obtain ⟨y0, hy0⟩ : ∃ y_ : List Int, y_ = yl ++ [0] := ⟨_, rfl⟩
  have Ny0 := Aside0.mk hy0
  clear hy0
  obtain ⟨y3, hy3⟩ : ∃ y_ : List Int, y_ = yl ++ [a3] := ⟨_, rfl⟩
  have Ny3 := Aside0.mk hy3
  clear hy3
  go_enter Try.func50, Try.ntmps50
  go_wp2_with (first | ((with_reducible refine gate_dst (N := 30) rfl ?_); refine Kd.R_lit (Kd.int .i64) _ 3 ?hg (N := 30) ?hd (xs := ([] : List Int)) (inner := []) (ok := fun _ => True) (okp := fun _ => True) ?hr ?hp (fun _ hk => hk) trivial (Below.refl _ _) (Nat.le_refl _) (by simp) ?_; (case hd => rfl); (case hg => rfl); (case hr => first | (go_simp; done) | (go_simp; rfl)); (case hp => exact (Reps.none _ _)); intro v30 w30 ho hb hg_ hnew_; clear hg_ hnew_; (first | rw [← Nye.out] at ho | (simp only [Int.reduceToNat] at ho; rw [← Nye.out] at ho)); have n0_ := Aside0.mk (Kd.R_lower ho (below_size (by repeat (first | (with_reducible first | exact HW.out | apply below_alloc | apply pw_below_drewN | apply below_drew1) | exact HW.out)))); have n1_ := Aside0.mk (below_step (by repeat (first | (with_reducible first | exact HW.out | apply below_alloc | apply pw_below_drewN | apply below_drew1) | exact HW.out)) hb); clear HW; have HO := n0_; have HW := n1_; clear n0_ n1_; clear hb ho) | ((with_reducible refine gate_builtin (b := .append) (xs := #[.tmp 30, .tmp 31]) rfl ?_); at_builtin; refine Kd.R_append_rows (Kd.int .i64) (w0 := w) w.heap.size rfl (.tmp 30) (.tmp 31) 24 3 (.int .i64 0) 8 rfl Try.underlying24 infoI rfl (by decide) (by omega) v30 ye l1 _ _ _ (fun _ => True) (fun _ => False) rfl rfl ?aO ?aR (fun _ _ h => h) (fun _ h => h.elim) ?aF ?aB ?aS ?aL ?_; (case aR => exact Kd.C_below (Kd.F_now HF.out) (by repeat (first | (with_reducible first | exact HW.out | apply below_alloc | apply pw_below_drewN | apply below_drew1) | exact HW.out))); (case aB => exact (by repeat (first | (with_reducible first | exact HW.out | apply below_alloc | apply pw_below_drewN | apply below_drew1) | exact HW.out))); (case aF => exact (fun _ _ => trivial)); (case aO => exact (by (with_reducible repeat (first | apply Kd.R_alloc | apply Kd.R_drewN | apply Kd.R_drew)); exact HO.out)); (case aS => exact (below_size (by repeat (first | (with_reducible first | exact HW.out | apply below_alloc | apply pw_below_drewN | apply below_drew1) | exact HW.out)))); (case aL => have h1_ := HL.out; have h2_ := Nye.out; rw [h2_]; simp only [List.length_nil]; omega); intro v32 w32 ho hb hg hat; rw [← Nyl.out] at ho; clear HW; clear HO; have HW := Aside0.mk hb; have HO := Aside0.mk ho; clear ho hb hg hat) | ((with_reducible refine gate_builtin (b := .append) (xs := #[.tmp 34, .tmp 35]) rfl ?_); at_builtin; refine Kd.R_append (Kd.int .i64) (w0 := w) w.heap.size rfl (.tmp 34) (.tmp 35) 24 3 (.int .i64 0) 8 rfl Try.underlying24 infoI rfl (by decide) (by omega) v32 yl 0 [.int .i64 0] (fun _ => True) (fun _ => False) rfl rfl ?aP (fun _ hk => hk.elim) ?aF ?aO ?aB ?aS ?aL ?_; (case aP => exact rfl); (case aB => exact (by repeat (first | (with_reducible first | exact HW.out | apply below_alloc | apply pw_below_drewN | apply below_drew1) | exact HW.out))); (case aF => exact (fun _ _ => trivial)); (case aO => exact (by (with_reducible repeat (first | apply Kd.R_alloc | apply Kd.R_drewN | apply Kd.R_drew)); exact HO.out)); (case aS => exact (below_size (by repeat (first | (with_reducible first | exact HW.out | apply below_alloc | apply pw_below_drewN | apply below_drew1) | exact HW.out)))); (case aL => have h1_ := HL.out; have h3_ := HYL.out; omega); intro v36 w36 ho hb hg hat; rw [← Ny0.out] at ho; clear HW; clear HO; have HW := Aside0.mk hb; have HO := Aside0.mk ho; clear ho hb hg hat; obtain ⟨A36, c36, e36⟩ := Kd.R_slice HO.out; subst e36))
  refine (IH1.out _ _ _ (fun k_ => w.heap.size ≤ k_) y0 (by rw [Ny0.out, Nyq.out]) (blk_below HG.out (by repeat (first | (with_reducible first | exact HW.out | apply below_alloc | apply pw_below_drewN | apply below_drew1) | exact HW.out))) (Kd.S_below HN.out (by repeat (first | (with_reducible first | exact HW.out | apply below_alloc | apply pw_below_drewN | apply below_drew1) | exact HW.out))) (below_on HB.out (by repeat (first | (with_reducible first | exact HW.out | apply below_alloc | apply pw_below_drewN | apply below_drew1) | exact HW.out))) ?_ HP.out ?_).mono ?_
  · exact Kd.R_F (Kd.R_mono (ok' := (fun k_ => w.heap.size ≤ k_)) (Kd.R_bound (by (with_reducible repeat (first | apply Kd.R_alloc | apply Kd.R_drewN | apply Kd.R_drew)); exact HO.out)) (fun _ hk => hk.2.1))
  · exact (Kd.R_reads' HO.out).2.1
  rintro e w2 ⟨rfl, hE⟩
  have HE := Aside0.mk hE
  clear hE
  obtain ⟨v2, e1, e2, e3, e4, e5⟩ := HE.out
  have HF2 := Aside0.mk (Kd.F_kept (Kd.F_below HF.out (by repeat (first | (with_reducible first | exact HW.out | apply below_alloc | apply pw_below_drewN | apply below_drew1) | exact HW.out))) e4 (fun k_ hk hs => hs.elim (HK.out k_ hk).1 (HK.out k_ hk).2))
  have HG2 := Aside0.mk e1
  have HN2 := Aside0.mk e2
  have HB2 := Aside0.mk e3
  have HK2 := Aside0.mk e4
  have HT2 := Aside0.mk e5
  have HW1 := Aside0.mk (show Below w.heap.size w _ from (by repeat (first | (with_reducible first | exact HW.out | apply below_alloc | apply pw_below_drewN | apply below_drew1) | exact HW.out)))
  have hgl := blk_lt e1
  have hNl := Kd.S_lt e2
  have hok0 : ∀ k_, w2.heap.size ≤ k_ → k_ ≠ g ∧ some k_ ≠ v2.ownBlock := fun k_ hk => ⟨by omega, fun he => by have := hNl k_ he.symm; omega⟩
  have HP2 := Aside0.mk hok0
  have HV := Aside0.mk (Below.refl w2.heap.size w2)
  clear hgl hNl hok0 e1 e2 e3 e4 e5 HE
  go_wp2_with (first | ((with_reducible refine gate_dst (N := 43) rfl ?_); refine Kd.R_lit (Kd.int .i64) _ 3 ?hg (N := 43) ?hd (xs := ([] : List Int)) (inner := []) (ok := fun _ => True) (okp := fun _ => True) ?hr ?hp (fun _ hk => hk) trivial (Below.refl _ _) (Nat.le_refl _) (by simp) ?_; (case hd => rfl); (case hg => rfl); (case hr => first | (go_simp; done) | (go_simp; rfl)); (case hp => exact (Reps.none _ _)); intro v43 w43 ho hb hg_ hnew_; clear hg_ hnew_; (first | rw [← Nye.out] at ho | (simp only [Int.reduceToNat] at ho; rw [← Nye.out] at ho)); have n0_ := Aside0.mk (Kd.R_lower ho (below_size (by repeat (first | (with_reducible first | exact HV.out | apply below_alloc | apply pw_below_drewN | apply below_drew1) | exact HV.out)))); have n1_ := Aside0.mk (below_step (by repeat (first | (with_reducible first | exact HV.out | apply below_alloc | apply pw_below_drewN | apply below_drew1) | exact HV.out)) hb); clear HV; have HQ := n0_; have HV := n1_; clear n0_ n1_; clear hb ho) | ((with_reducible refine gate_builtin (b := .append) (xs := #[.tmp 43, .tmp 44]) rfl ?_); at_builtin; refine Kd.R_append_rows (Kd.int .i64) (w0 := w2) w2.heap.size rfl (.tmp 43) (.tmp 44) 24 3 (.int .i64 0) 8 rfl Try.underlying24 infoI rfl (by decide) (by omega) v43 ye l1 _ _ _ (fun _ => True) (fun _ => False) rfl rfl ?aO ?aR (fun _ _ h => h) (fun _ h => h.elim) ?aF ?aB ?aS ?aL ?_; (case aR => exact Kd.C_below (Kd.F_now HF2.out) (by repeat (first | (with_reducible first | exact HV.out | apply below_alloc | apply pw_below_drewN | apply below_drew1) | exact HV.out))); (case aB => exact (by repeat (first | (with_reducible first | exact HV.out | apply below_alloc | apply pw_below_drewN | apply below_drew1) | exact HV.out))); (case aF => exact (fun _ _ => trivial)); (case aO => exact (by (with_reducible repeat (first | apply Kd.R_alloc | apply Kd.R_drewN | apply Kd.R_drew)); exact HQ.out)); (case aS => exact (below_size (by repeat (first | (with_reducible first | exact HV.out | apply below_alloc | apply pw_below_drewN | apply below_drew1) | exact HV.out)))); (case aL => have h1_ := HL.out; have h2_ := Nye.out; rw [h2_]; simp only [List.length_nil]; omega); intro v45 w45 ho hb hg hat; rw [← Nyl.out] at ho; clear HV; clear HQ; have HV := Aside0.mk hb; have HQ := Aside0.mk ho; clear ho hb hg hat) | ((with_reducible refine gate_builtin (b := .append) (xs := #[.tmp 45, .tmp 47]) rfl ?_); at_builtin; refine Kd.R_append (Kd.int .i64) (w0 := w2) w2.heap.size rfl (.tmp 45) (.tmp 47) 24 3 (.int .i64 0) 8 rfl Try.underlying24 infoI rfl (by decide) (by omega) v45 yl a3 [.int .i64 a3] (fun _ => True) (fun _ => False) rfl rfl ?aP (fun _ hk => hk.elim) ?aF ?aO ?aB ?aS ?aL ?_; (case aP => exact rfl); (case aB => exact (by repeat (first | (with_reducible first | exact HV.out | apply below_alloc | apply pw_below_drewN | apply below_drew1) | exact HV.out))); (case aF => exact (fun _ _ => trivial)); (case aO => exact (by (with_reducible repeat (first | apply Kd.R_alloc | apply Kd.R_drewN | apply Kd.R_drew)); exact HQ.out)); (case aS => exact (below_size (by repeat (first | (with_reducible first | exact HV.out | apply below_alloc | apply pw_below_drewN | apply below_drew1) | exact HV.out)))); (case aL => have h1_ := HL.out; have h3_ := HYL.out; omega); intro v48 w48 ho hb hg hat; rw [← Ny3.out] at ho; clear HV; clear HQ; have HV := Aside0.mk hb; have HQ := Aside0.mk ho; clear ho hb hg hat; obtain ⟨A48, c48, e48⟩ := Kd.R_slice HQ.out; subst e48))
  refine (IH2.out _ _ _ (fun k_ => w2.heap.size ≤ k_) v2 y3 (by rw [Ny3.out, Nyq.out]) (blk_below HG2.out (by repeat (first | (with_reducible first | exact HV.out | apply below_alloc | apply pw_below_drewN | apply below_drew1) | exact HV.out))) (Kd.S_below HN2.out (by repeat (first | (with_reducible first | exact HV.out | apply below_alloc | apply pw_below_drewN | apply below_drew1) | exact HV.out))) (below_on HB2.out (by repeat (first | (with_reducible first | exact HV.out | apply below_alloc | apply pw_below_drewN | apply below_drew1) | exact HV.out))) ?_ HP2.out ?_).mono ?_
  · exact Kd.R_F (Kd.R_mono (ok' := (fun k_ => w2.heap.size ≤ k_)) (Kd.R_bound (by (with_reducible repeat (first | apply Kd.R_alloc | apply Kd.R_drewN | apply Kd.R_drew)); exact HQ.out)) (fun _ hk => hk.2.1))
  · exact (Kd.R_reads' HQ.out).2.1
  rintro e w4 ⟨rfl, hE⟩
  have HE := Aside0.mk hE
  clear hE
  go_wp2
  go_end0
  exact ⟨rfl, SpreadEnd.seq HW1.out HK2.out HT2.out (by repeat (first | (with_reducible first | exact HV.out | apply below_alloc | apply pw_below_drewN | apply below_drew1) | exact HV.out)) HE.out⟩

theorem impl_spread.calls (k : Nat) : ∀ (g : Nat) (A1 : Option Addr) (c1 : Nat) (l1 : List Int) (a2 a3 : Int) (v : Value) (xs r : List (S29)) (w0 w : World) (ok1 : Nat → Prop)
    (hg : w.heap[g]? = some (.cells #[v] 26 (0, 0))) (hgb : w0.heap.size ≤ g) (hN : Kd.S k29 29 w w0.heap.size (fun k_ => w0.heap.size ≤ k_ ∧ k_ ≠ g) v xs) (hB : Below w0.heap.size w0 w)
    (hr1 : Kd.F (Kd.int .i64) w ok1 A1 l1.length l1) (hok1 : ∀ k_, ok1 k_ → k_ ≠ g ∧ some k_ ≠ v.ownBlock) (hc1 : l1.length ≤ c1) (hl1 : l1.length ≤ 12) (h0 : 0 ≤ a2) (h2 : a2 ≤ 12) (h : impl_spread.f k l1 a2 a3 xs = some r),
    Calls Try.prog 50 #[.pointer (some ⟨g, 0, none⟩), .slice A1 l1.length c1, .int .i64 a2, .int .i64 a3] w fun e w' => e = .returned (.tuple #[]) ∧ SpreadEnd g v w0 w r w' := by
  induction k with
  | zero => intro g A1 c1 l1 a2 a3 v xs r w0 w ok1 hg hgb hN hB hr1 hok1 hc1 hl1 h0 h2 h; exact absurd h (by simp [impl_spread.f])
  | succ k ih =>
    intro g A1 c1 l1 a2 a3 v xs r w0 w ok1 hg hgb hN hB hr1 hok1 hc1 hl1 h0 h2 h
    simp only [impl_spread.f] at h
    by_cases c4 : (l1.length : Int) = 12
    · rw [if_pos c4] at h
      by_cases c5 : a2 = 0
      · rw [if_pos c5] at h
        subst c5
        by_cases c6 : xs.length < 1000000
        · rw [if_pos c6] at h
          obtain rfl := Option.some.inj h
          exact impl_spread.leaf g A1 c1 l1 a3 v xs w0 w ok1 hg hgb hN hB hr1 hc1 (by omega) c6
        · rw [if_neg c6] at h; exact absurd h (by simp)
      · rw [if_neg c5] at h
        obtain rfl := Option.some.inj h
        exact impl_spread.none12 g A1 c1 l1 a2 a3 v xs w0 w ok1 hg hgb hN hB hr1 hok1 hc1 (by omega) c5
    · rw [if_neg c4] at h
      by_cases c7 : 12 - (l1.length : Int) < a2
      · rw [if_pos c7] at h
        obtain rfl := Option.some.inj h
        exact impl_spread.many g A1 c1 l1 a2 a3 v xs w0 w ok1 hg hgb hN hB hr1 hok1 hc1 hl1 c4 c7 h2
      · rw [if_neg c7] at h
        obtain ⟨t, h1, h⟩ := Option.bind_eq_some_iff.mp h
        have hll : (l1 ++ [0]).length ≤ 12 := by simp; omega
        by_cases c8 : 0 < a2
        · rw [if_pos c8] at h
          exact impl_spread.two g A1 c1 l1 a2 a3 v xs w0 w ok1 hg hgb hN hB hr1 hok1 hc1 (by omega) c7 h0 h2 t (fun W A c ok y hy p1 p2 p3 p4 p5 p6 => by subst hy; exact ih g A c (l1 ++ [0]) a2 a3 v xs t w0 W ok p1 hgb p2 p3 p4 p5 p6 hll h0 h2 h1) c8 r
            (fun W A c ok v2 y hy p1 p2 p3 p4 p5 p6 => by subst hy; exact ih g A c (l1 ++ [a3]) (a2 - 1) a3 v2 t r w0 W ok p1 hgb p2 p3 p4 p5 p6 (by simp; omega) (by omega) (by omega) h)
        · rw [if_neg c8] at h
          obtain rfl := Option.some.inj h
          exact impl_spread.one g A1 c1 l1 a2 a3 v xs w0 w ok1 hg hgb hN hB hr1 hok1 hc1 (by omega) c7 h0 h2 t (fun W A c ok y hy p1 p2 p3 p4 p5 p6 => by subst hy; exact ih g A c (l1 ++ [0]) a2 a3 v xs t w0 W ok p1 hgb p2 p3 p4 p5 p6 hll h0 h2 h1) c8
theorem R_empty {α : Type} (d : Kd α) (W : World) (base e : Nat) (ok : Nat → Prop) (hfresh : ok W.heap.size) (hbase : base ≤ W.heap.size) : d.R e (W.alloc (.cells #[] e)) base ok (.slice (some ⟨W.heap.size, 0, none⟩) 0 0) ([] : List α) := by
  refine ⟨fun k hk => ?_, [], ?_, Reps.none _ _⟩
  · have : W.heap.size = k := by simpa [Value.ownBlock] using hk
    subst this
    exact hfresh
  · have h2 := World.ownsRow_lit (base := base) (e := e) (size := d.sz) W #[] 0 hbase (by simp [maxLen]) (by simp)
    simpa using h2
def impl_FamilyOf.f (k : Nat) (a0 : Int) : Option (List (S29)) := if a0 = 2 ∨ a0 = 3 ∨ a0 = 4 ∨ a0 = 6 ∨ a0 = 12 then impl_spread.f k [] (Int.tdiv 12 a0) a0 [] else some []
theorem impl_spread.mono : ∀ k l a b xs, LeO (impl_spread.f k l a b xs) (impl_spread.f (k + 1) l a b xs) := by
  intro k
  induction k with
  | zero => intro l a b xs r h; simp [impl_spread.f] at h
  | succ k ih =>
    intro l a b xs
    rw [impl_spread.f, impl_spread.f]
    refine LeO.ite (LeO.refl _) (LeO.ite (LeO.refl _) (LeO.bind (ih _ _ _ _) (fun t => LeO.ite (ih _ _ _ _) (LeO.refl _))))
theorem impl_FamilyOf.mono : ∀ a0 k, LeO (impl_FamilyOf.f k a0) (impl_FamilyOf.f (k + 1) a0) := by
  intro a0 k
  unfold impl_FamilyOf.f
  exact LeO.ite (impl_spread.mono _ _ _ _ _) (LeO.refl _)
set_option maxHeartbeats 8000000 in
set_option maxRecDepth 100000 in
theorem impl_FamilyOf.at (k : Nat) (n a0 : Int) (r : List (S29)) (w : World) (hn : n = Int.tdiv 12 a0) (h1 : (a0 = 2 ∧ n = 6) ∨ (a0 = 3 ∧ n = 4) ∨ (a0 = 4 ∧ n = 3) ∨ (a0 = 6 ∧ n = 2) ∨ (a0 = 12 ∧ n = 1)) (h : impl_spread.f k [] n a0 [] = some r) :
    Calls Try.prog 14 #[.int .i64 a0] w fun e w' => ∃ v0_ : Value, e = .returned (v0_) ∧ Kd.S k29 29 w' w.heap.size (fun _ => True) v0_ r ∧ Below w.heap.size w w' := by
  have hsp := impl_spread.calls k (w.heap.size + 1) (some ⟨w.heap.size + 1 + 1, 0, none⟩) 0 [] n a0 (.slice (some ⟨w.heap.size, 0, none⟩) 0 0) [] r w (((w.alloc (.cells #[] 29)).alloc (.cells #[.slice (some ⟨w.heap.size, 0, none⟩) 0 0] 26)).alloc (.cells #[] 3)) (fun k_ => w.heap.size + 1 + 1 ≤ k_)
    (blk_alloc (by have e_ : (w.alloc (.cells #[] 29)).heap.size = w.heap.size + 1 := by simp
                   rw [← e_]; exact blk_new _ _) _) (by omega)
    (Kd.S_alloc (Kd.S_alloc (show Kd.S k29 29 _ w.heap.size _ _ [] from ⟨fun _ => 0, R_empty (Kd.tag (fun _ => 0) k29) w w.heap.size 29 (fun k_ => w.heap.size ≤ k_ ∧ k_ ≠ w.heap.size + 1) ⟨Nat.le_refl _, by omega⟩ (Nat.le_refl _)⟩) _) _)
    (below_alloc (below_alloc (below_alloc (Below.refl _ _) _) _) _)
    (by have h0 := Kd.R_F (R_empty (Kd.int .i64) ((w.alloc (.cells #[] 29)).alloc (.cells #[.slice (some ⟨w.heap.size, 0, none⟩) 0 0] 26)) w.heap.size 3 (fun k_ => w.heap.size + 1 + 1 ≤ k_) (by simp) (by simp; omega)); simpa using h0)
    (fun k_ hk => ⟨by omega, by simp [Value.ownBlock]; omega⟩) (Nat.zero_le _) (by simp) (by omega) (by omega) h
  have HSP := Aside0.mk hsp
  clear hsp h hn
  rcases h1 with ⟨rfl, rfl⟩ | ⟨rfl, rfl⟩ | ⟨rfl, rfl⟩ | ⟨rfl, rfl⟩ | ⟨rfl, rfl⟩
  all_goals
    go_enter Try.func14, Try.ntmps14
    go_wp2_with (first | (go_at_call 50; refine HSP.out.mono ?_; rintro e w' ⟨rfl, v', e1, e2, e3, e4, e5⟩; have hc_ := (blk_cell e1 0).trans rfl))
    go_ret
    exact ⟨_, rfl, Kd.S_mono e2 (fun _ _ => trivial), e3⟩
set_option maxHeartbeats 8000000 in
set_option maxRecDepth 100000 in
theorem impl_FamilyOf.none_ (a0 : Int) (w : World) (h1 : ¬ (a0 = 2 ∨ a0 = 3 ∨ a0 = 4 ∨ a0 = 6 ∨ a0 = 12)) :
    Calls Try.prog 14 #[.int .i64 a0] w fun e w' => ∃ v0_ : Value, e = .returned (v0_) ∧ Kd.S k29 29 w' w.heap.size (fun _ => True) v0_ [] ∧ Below w.heap.size w w' := by
  have c1 : (a0 == 2) = false := beq_eq_false_iff_ne.mpr (fun h => h1 (.inl h))
  have c2 : (a0 == 3) = false := beq_eq_false_iff_ne.mpr (fun h => h1 (.inr (.inl h)))
  have c3 : (a0 == 4) = false := beq_eq_false_iff_ne.mpr (fun h => h1 (.inr (.inr (.inl h))))
  have c4 : (a0 == 6) = false := beq_eq_false_iff_ne.mpr (fun h => h1 (.inr (.inr (.inr (.inl h)))))
  have c5 : (a0 == 12) = false := beq_eq_false_iff_ne.mpr (fun h => h1 (.inr (.inr (.inr (.inr h)))))
  have d1 : (a0 != 2) = true := bne_iff_ne.mpr (fun h => h1 (.inl h))
  have d2 : (a0 != 3) = true := bne_iff_ne.mpr (fun h => h1 (.inr (.inl h)))
  have d3 : (a0 != 4) = true := bne_iff_ne.mpr (fun h => h1 (.inr (.inr (.inl h))))
  have d4 : (a0 != 6) = true := bne_iff_ne.mpr (fun h => h1 (.inr (.inr (.inr (.inl h)))))
  have d5 : (a0 != 12) = true := bne_iff_ne.mpr (fun h => h1 (.inr (.inr (.inr (.inr h)))))
  clear h1
  go_enter Try.func14, Try.ntmps14
  go_wp2
  go_ret
  exact ⟨_, rfl, Kd.S_nil _ _ _ _ _, by repeat (first | exact Below.refl _ _ | apply below_alloc | apply pw_below_drewN | apply below_drew1)⟩
theorem impl_FamilyOf.calls (k : Nat) (a0 : Int) (r : List (S29)) (w : World) (h : impl_FamilyOf.f k a0 = some r) :
    Calls Try.prog 14 #[.int .i64 a0] w fun e w' => ∃ v0_ : Value, e = .returned (v0_) ∧ Kd.S k29 29 w' w.heap.size (fun _ => True) v0_ r ∧ Below w.heap.size w w' := by
  unfold impl_FamilyOf.f at h
  by_cases h1 : a0 = 2 ∨ a0 = 3 ∨ a0 = 4 ∨ a0 = 6 ∨ a0 = 12
  · rw [if_pos h1] at h
    refine impl_FamilyOf.at k (Int.tdiv 12 a0) a0 r w rfl ?_ h
    rcases h1 with rfl | rfl | rfl | rfl | rfl <;> decide
  · rw [if_neg h1] at h
    obtain rfl := Option.some.inj h
    exact impl_FamilyOf.none_ a0 w h1

/-! ### impl_CountMeeting: function 36 -/
def impl_CountMeeting.l0 : Nat → List (S74) → Int → List (S29) → Int → Int → Option (Int)
  | 0, _, _, _, _, _ => none
  | k + 1, x1, x5, x9, x10, x11 => if x11 < x10 then (if 0 ≤ x11 then (if x11 < (x9.length : Int) then ((impl_Meets.f k ((rd_T29 x9 x11).f0) x1).bind fun t188 => (if t188 = true then (impl_CountMeeting.l0 k x1 (wrap64 (x5 + 1)) x9 x10 (wrap64 (x11 + 1))) else (impl_CountMeeting.l0 k x1 x5 x9 x10 (wrap64 (x11 + 1))))) else (none)) else (none)) else (some x5)
def impl_CountMeeting.f (k : Nat) (a0 : Int) (l1 : List (S74)) : Option (Int) := (impl_FamilyOf.f k a0).bind fun t183 => (impl_CountMeeting.l0 k l1 0 t183 (t183.length : Int) 0)
theorem impl_CountMeeting.mono_l : ∀ k, (∀ y0 y1 y2 y3 y4, LeO (impl_CountMeeting.l0 k y0 y1 y2 y3 y4) (impl_CountMeeting.l0 (k + 1) y0 y1 y2 y3 y4))
  | 0 => fun _ _ _ _ _ r h => by simp [impl_CountMeeting.l0] at h
  | k + 1 => by
    have ih0 := impl_CountMeeting.mono_l k
    · intro y0 y1 y2 y3 y4
      unfold impl_CountMeeting.l0
      repeat' first
      | (with_reducible exact ih0 _ _ _ _ _)
      | (with_reducible exact impl_FamilyOf.mono _ _)
      | (with_reducible exact impl_Meets.mono _ _ _)
      | (with_reducible exact LeO.refl _)
      | (with_reducible exact LeO.none _)
      | (with_reducible refine LeO.ite ?_ ?_)
      | (with_reducible refine LeO.bind ?_ (fun _ => ?_))
      | exact ih0 _ _ _ _ _
      | exact impl_FamilyOf.mono _ _
      | exact impl_Meets.mono _ _ _
      | exact LeO.none _
      | refine LeO.ite ?_ ?_
      | refine LeO.bind ?_ (fun _ => ?_)
theorem impl_CountMeeting.mono : ∀ a0 a1 k, LeO (impl_CountMeeting.f k a0 a1) (impl_CountMeeting.f (k + 1) a0 a1) := by
  intro a0 a1 k
  have ih0 := impl_CountMeeting.mono_l k
  unfold impl_CountMeeting.f
  repeat' first
      | (with_reducible exact ih0 _ _ _ _ _)
      | (with_reducible exact impl_FamilyOf.mono _ _)
      | (with_reducible exact impl_Meets.mono _ _ _)
      | (with_reducible exact LeO.refl _)
      | (with_reducible exact LeO.none _)
      | (with_reducible refine LeO.ite ?_ ?_)
      | (with_reducible refine LeO.bind ?_ (fun _ => ?_))
      | exact ih0 _ _ _ _ _
      | exact impl_FamilyOf.mono _ _
      | exact impl_Meets.mono _ _ _
      | exact LeO.none _
      | refine LeO.ite ?_ ?_
      | refine LeO.bind ?_ (fun _ => ?_)
set_option maxHeartbeats 8000000 in
set_option maxRecDepth 100000 in
theorem impl_CountMeeting.calls (k : Nat) (a0 : Int) (A1 : Option Addr) (c1 : Nat) (l1 : List (S74)) (r : Int) (w : World) (hr1 : Kd.C k74 w A1 l1.length l1) (hc1 : l1.length ≤ c1) (h : impl_CountMeeting.f k a0 l1 = some r) :
    Calls Try.prog 36 #[.int .i64 a0, .slice A1 l1.length c1] w fun e w' => e = .returned (.int .i64 r) ∧ Below w.heap.size w w' := by
  have hu29 := Try.underlying29
  have HR1 := Aside0.mk hr1
  have HC1 := Aside0.mk hc1
  clear hr1 hc1
  have HB := Aside0.mk (Below.refl w.heap.size w)
  have H : ((impl_FamilyOf.f k a0).bind fun t183 => (impl_CountMeeting.l0 k l1 0 t183 (t183.length : Int) 0)) = some r := h
  clear h
  replace H := Option.bind_eq_some_iff.mp H
  obtain ⟨t183, A30, H⟩ := H
  replace H : (impl_CountMeeting.l0 k l1 0 t183 (t183.length : Int) 0) = some r := H
  have A3 := Aside0.mk A30
  clear A30
  have H' := Aside0.mk H
  clear H
  go_enter Try.func36, Try.ntmps36
  go_wp2_with (first | ((with_reducible refine gate_callee (f := 14) rfl ?_); refine goesL_ (some 9) rfl rfl Try.func14 (by kernel_rfl) rfl #[.int .i64 a0] rfl (by (try simp only [List.map_toArray, List.map_cons, List.map_nil]); first | done | rfl | (simp only [List.length_drop, List.length_take]; rfl)) ?_; (with_reducible refine (impl_FamilyOf.calls k a0 t183 _ A3.out).mono ?_); rintro e w4 ⟨v184, rfl, ho0, hb⟩; refine ⟨_, rfl, ?_⟩; have n0_ := Aside0.mk (Kd.S_lower ho0 (below_size (by repeat (first | (with_reducible first | exact HB.out | apply below_alloc | apply pw_below_drewN | apply below_drew1) | exact HB.out)))); have n1_ := Aside0.mk (below_step (by repeat (first | (with_reducible first | exact HB.out | apply below_alloc | apply pw_below_drewN | apply below_drew1) | exact HB.out)) hb); clear HB; have HO185 := n0_; have HB := n1_; clear n0_ n1_; (try clear hb); (try clear hb2); (try clear hk); (try clear hi); (try clear ho0); obtain ⟨Ao5, co5, eo5⟩ := Kd.S_slice HO185.out; subst eo5))
  go_loopg [5, 11] k (fun kq v5 v11 w' => ∃ (x5_1 : Int) (x11_1 : Int), v5 = .int .i64 x5_1 ∧ v11 = .int .i64 x11_1 ∧ Aside0 (impl_CountMeeting.l0 kq l1 x5_1 t183 (t183.length : Int) x11_1 = some r) ∧ Aside0 (kq ≤ k) ∧ Aside0 (Kd.S k29 29 w' w.heap.size (fun _ => True) (.slice Ao5 t183.length co5) t183) ∧ Aside0 (Below w.heap.size w w'))
  case atStart => exact ⟨(0), (0), (by first | rfl | (simp; done) | (simp [*]; done)), (by first | rfl | (simp; done) | (simp [*]; done)), H', ⟨Nat.le_refl _⟩, ⟨by (with_reducible repeat (first | apply Kd.S_alloc | apply Kd.S_drewN | apply Kd.S_drew)); exact HO185.out⟩, ⟨by repeat (first | (with_reducible first | exact HB.out | apply below_alloc | apply pw_below_drewN | apply below_drew1) | exact HB.out)⟩⟩
  case round =>
    clear H'
    try clear c1
    try clear p2
    try clear c3
    obtain ⟨x5_1, x11_1, rfl, rfl, HA, HK1, HO_9, HB⟩ := hrel
    cases gk with
    | zero => exact absurd HA.out (by simp [impl_CountMeeting.l0])
    | succ k1 =>
      have H := HA.out
      clear HA
      simp only [impl_CountMeeting.l0] at H
      by_cases c6 : x11_1 < (t183.length : Int)
      · rw [if_pos c6] at H
        have c6b0 : decide (x11_1 < (t183.length : Int)) = true := decide_eq_true c6
        clear c6
        by_cases c7 : 0 ≤ x11_1
        · rw [if_pos c7] at H
          have c7b0 : decide (0 ≤ x11_1) = true := decide_eq_true c7
          clear c7
          by_cases c8 : x11_1 < (t183.length : Int)
          · rw [if_pos c8] at H
            have c8b0 : decide (x11_1 < (t183.length : Int)) = true := decide_eq_true c8
            clear c8
            replace H := Option.bind_eq_some_iff.mp H
            obtain ⟨t188, A90, H⟩ := H
            replace H : (if t188 = true then (impl_CountMeeting.l0 k1 l1 (wrap64 (x5_1 + 1)) t183 (t183.length : Int) (wrap64 (x11_1 + 1))) else (impl_CountMeeting.l0 k1 l1 x5_1 t183 (t183.length : Int) (wrap64 (x11_1 + 1)))) = some r := H
            have A9 := Aside0.mk A90
            clear A90
            by_cases c10 : t188 = true
            · subst c10
              have H1 : (impl_CountMeeting.l0 k1 l1 (wrap64 (x5_1 + 1)) t183 (t183.length : Int) (wrap64 (x11_1 + 1))) = some r := by rw [if_pos rfl] at H; exact H
              clear H
              have H := H1
              clear H1
              have H' := Aside0.mk H
              clear H
              have p186 : 0 ≤ (x11_1 : Int) := of_decide_eq_true (by first | (with_reducible assumption) | assumption)
              have q186 : x11_1 < (t183.length : Int) := of_decide_eq_true (by first | (with_reducible assumption) | assumption)
              obtain ⟨ad186, A186_0, c186_0, e186, hx186_0, hl186_0, hi186_0⟩ := at_T29 (Kd.S_reads' HO_9.out).2.2 x11_1 p186 q186
              cases e186
              obtain ⟨ce186, hce186, hMe186, hcc186⟩ := Kd.S_get HO_9.out z29 x11_1 p186 (by first | exact q186 | exact of_decide_eq_true (by first | (with_reducible assumption) | assumption) | (have e_ := (Kd.S_reads' HO_9.out).1; omega))
              obtain ⟨ve186_0, rfl, ge186_0⟩ := k29_openM hMe186
              have hv186_0 := hcc186 0 _ rfl
              rw [Nat.add_zero, show (k29).sz = 1 from rfl, Nat.mul_one] at hv186_0
              replace hv186_0 := Option.some.inj (hv186_0.symm.trans hx186_0)
              rw [hv186_0] at ge186_0
              have HL186_0 := Aside0.mk (show Kd.R (Kd.int .i64) 3 _ _ _ _ ((rd_T29 t183 x11_1).f0) from ge186_0)
              clear hv186_0 ge186_0
              clear hcc186 hce186
              have HR186_0 := Aside0.mk hi186_0
              have HC186_0 := Aside0.mk hl186_0
              clear hi186_0 hl186_0
              replace p186 := eq_true p186
              replace q186 := eq_true q186
              go_wp2_with (first | ((with_reducible refine gate_dst (N := 7) rfl ?_); refine box_event ?hg (N := 7) ?hd (cs := #[.slice none 0 0]) (t := 29) ?hr ?_; (case hd => rfl); (case hg => rfl); (case hr => first | (go_simp; done) | (go_simp; rfl)); intro gb187 hg w11 hbox hb; have n0_ := Aside0.mk (Kd.S_below (Kd.S_elderB (by (with_reducible repeat (first | apply Kd.S_alloc | apply Kd.S_drewN | apply Kd.S_drew)); exact HO_9.out) gb187 (Nat.le_of_eq hg.symm)) hb); have n1_ := Aside0.mk (Kd.R_below (by (with_reducible repeat (first | apply Kd.R_alloc | apply Kd.R_drewN | apply Kd.R_drew)); exact HL186_0.out) hb); have n2_ := Aside0.mk (Kd.C_below (by repeat (first | (with_reducible exact HR186_0.out) | (with_reducible refine Kd.C_alloc ?_ _) | (with_reducible refine Kd.C_drewN ?_ _) | (with_reducible refine Kd.C_drew ?_) | exact HR186_0.out)) hb); have n3_ := Aside0.mk (below_step (by repeat (first | (with_reducible first | exact HB.out | apply below_alloc | apply pw_below_drewN | apply below_drew1) | exact HB.out)) hb); have n4_ := Aside0.mk (hbox); have n5_ := Aside0.mk ((by rw [hg]; exact (below_size (by repeat (first | (with_reducible first | exact HB.out | apply below_alloc | apply pw_below_drewN | apply below_drew1) | exact HB.out))) : w.heap.size ≤ gb187)); have n6_ := Aside0.mk ((by rw [hg]; exact (below_size (by repeat (first | (with_reducible first | exact HB.out | apply below_alloc | apply pw_below_drewN | apply below_drew1) | exact HB.out))) : w.heap.size ≤ gb187)); clear HO_9; clear HL186_0; clear HR186_0; clear HB; have HO_9 := n0_; have HL186_0 := n1_; have HR186_0 := n2_; have HB := n3_; have BK187 := n4_; have GW187 := n5_; have GE187 := n6_; clear n0_ n1_ n2_ n3_ n4_ n5_ n6_; clear hb hbox hg; have hcz12_0 : w11.cell? ⟨gb187, 0, none⟩ = some (.slice none 0 0) := (blk_cell BK187.out 0).trans rfl; have hfz12_0 := blk_frozen BK187.out 0) | ((with_reducible refine gate_callee (f := 32) rfl ?_); refine goesL_ (some 17) rfl rfl Try.func32 (by kernel_rfl) rfl #[.agg #[.slice A186_0 ((rd_T29 t183 x11_1).f0).length c186_0], .slice A1 l1.length c1] rfl (by (try simp only [List.map_toArray, List.map_cons, List.map_nil]); first | done | rfl | (simp only [List.length_drop, List.length_take]; rfl)) ?_; (with_reducible refine (impl_Meets.calls k1 _ _ ((rd_T29 t183 x11_1).f0) _ _ l1 true _ ?side1 ?side2 ?side3 ?side4 A9.out).mono ?_); (case side1 => repeat (first | exact ((Kd.R_reads' (by (with_reducible repeat (first | apply Kd.R_alloc | apply Kd.R_drewN | apply Kd.R_drew)); exact (Kd.R_mono (Kd.R_far (p := ⟨gb187, 0, none⟩) (Kd.R_types HL186_0.out BK187.out (by decide)) (fun _ hk => hk.2) (.slice A186_0 ((rd_T29 t183 x11_1).f0).length c186_0)) (fun _ h_ => h_.1)))).2.2) | (with_reducible refine Kd.C_alloc ?_ _) | (with_reducible refine Kd.C_drewN ?_ _) | (with_reducible refine Kd.C_drew ?_))); (case side2 => exact HC186_0.out); (case side3 => exact Kd.C_below HR1.out (by repeat (first | (with_reducible first | exact HB.out | apply below_alloc | apply pw_below_drewN | apply below_drew1 | refine below_set ?_ GE187.out) | exact HB.out))); (case side4 => exact HC1.out); rintro e w13 ⟨rfl, hb⟩; refine ⟨_, rfl, ?_⟩; have n0_ := Aside0.mk (Kd.S_below (by (with_reducible repeat (first | apply Kd.S_alloc | apply Kd.S_drewN | apply Kd.S_drew)); exact (Kd.S_mono (Kd.S_far (p := ⟨gb187, 0, none⟩) (Kd.S_mono HO_9.out (fun k_ hk => (⟨hk, hk.2⟩ : _ ∧ k_ ≠ gb187))) (fun _ hk => hk.2) (.slice A186_0 ((rd_T29 t183 x11_1).f0).length c186_0)) (fun _ h_ => h_.1))) hb); have n1_ := Aside0.mk (Kd.R_below (by (with_reducible repeat (first | apply Kd.R_alloc | apply Kd.R_drewN | apply Kd.R_drew)); exact (Kd.R_mono (Kd.R_far (p := ⟨gb187, 0, none⟩) (Kd.R_types HL186_0.out BK187.out (by decide)) (fun _ hk => hk.2) (.slice A186_0 ((rd_T29 t183 x11_1).f0).length c186_0)) (fun _ h_ => h_.1))) hb); have n2_ := Aside0.mk (Kd.C_below ((Kd.R_reads' (by (with_reducible repeat (first | apply Kd.R_alloc | apply Kd.R_drewN | apply Kd.R_drew)); exact (Kd.R_mono (Kd.R_far (p := ⟨gb187, 0, none⟩) (Kd.R_types HL186_0.out BK187.out (by decide)) (fun _ hk => hk.2) (.slice A186_0 ((rd_T29 t183 x11_1).f0).length c186_0)) (fun _ h_ => h_.1)))).2.2) hb); have n3_ := Aside0.mk (blk_below (g := gb187) (o := .cells #[.slice A186_0 ((rd_T29 t183 x11_1).f0).length c186_0] 29 (0, 0)) (by (with_reducible repeat (first | refine blk_drewN ?_ _ | refine blk_drew ?_ | refine blk_alloc ?_ _)); refine blk_put (cs := #[.slice none 0 0]) ?_ 0 _ rfl; (with_reducible repeat (first | refine blk_drewN ?_ _ | refine blk_drew ?_ | refine blk_alloc ?_ _)); exact BK187.out) hb); have n4_ := Aside0.mk (below_step (by repeat (first | (with_reducible first | exact HB.out | apply below_alloc | apply pw_below_drewN | apply below_drew1 | refine below_set ?_ GE187.out) | exact HB.out)) hb); clear HO_9; clear HL186_0; clear HR186_0; clear BK187; clear HB; have HO_9 := n0_; have HL186_0 := n1_; have HR186_0 := n2_; have BK187 := n3_; have HB := n4_; clear n0_ n1_ n2_ n3_ n4_; (try clear hb); (try clear hb2); (try clear hk); (try clear hi)))
              go_roundg k1
              case measure => have := HK1.out; omega
              case rel => exact ⟨(wrap64 (x5_1 + 1)), (wrap64 (x11_1 + 1)), (by first | rfl | (simp; done) | (simp [*]; done)), (by first | rfl | (simp; done) | (simp [*]; done)), H', ⟨by have := HK1.out; omega⟩, ⟨by (with_reducible repeat (first | apply Kd.S_alloc | apply Kd.S_drewN | apply Kd.S_drew)); exact Kd.S_mono HO_9.out (fun _ hk => trivial)⟩, ⟨by repeat (first | (with_reducible first | exact HB.out | apply below_alloc | apply pw_below_drewN | apply below_drew1 | refine below_set ?_ GE187.out) | exact HB.out)⟩⟩
            · replace c10 := Bool.eq_false_iff.mpr c10
              subst c10
              have H1 : (impl_CountMeeting.l0 k1 l1 x5_1 t183 (t183.length : Int) (wrap64 (x11_1 + 1))) = some r := by rw [if_neg (show ¬ (false = true) by decide)] at H; exact H
              clear H
              have H := H1
              clear H1
              have H' := Aside0.mk H
              clear H
              have p186 : 0 ≤ (x11_1 : Int) := of_decide_eq_true (by first | (with_reducible assumption) | assumption)
              have q186 : x11_1 < (t183.length : Int) := of_decide_eq_true (by first | (with_reducible assumption) | assumption)
              obtain ⟨ad186, A186_0, c186_0, e186, hx186_0, hl186_0, hi186_0⟩ := at_T29 (Kd.S_reads' HO_9.out).2.2 x11_1 p186 q186
              cases e186
              obtain ⟨ce186, hce186, hMe186, hcc186⟩ := Kd.S_get HO_9.out z29 x11_1 p186 (by first | exact q186 | exact of_decide_eq_true (by first | (with_reducible assumption) | assumption) | (have e_ := (Kd.S_reads' HO_9.out).1; omega))
              obtain ⟨ve186_0, rfl, ge186_0⟩ := k29_openM hMe186
              have hv186_0 := hcc186 0 _ rfl
              rw [Nat.add_zero, show (k29).sz = 1 from rfl, Nat.mul_one] at hv186_0
              replace hv186_0 := Option.some.inj (hv186_0.symm.trans hx186_0)
              rw [hv186_0] at ge186_0
              have HL186_0 := Aside0.mk (show Kd.R (Kd.int .i64) 3 _ _ _ _ ((rd_T29 t183 x11_1).f0) from ge186_0)
              clear hv186_0 ge186_0
              clear hcc186 hce186
              have HR186_0 := Aside0.mk hi186_0
              have HC186_0 := Aside0.mk hl186_0
              clear hi186_0 hl186_0
              replace p186 := eq_true p186
              replace q186 := eq_true q186
              go_wp2_with (first | ((with_reducible refine gate_dst (N := 7) rfl ?_); refine box_event ?hg (N := 7) ?hd (cs := #[.slice none 0 0]) (t := 29) ?hr ?_; (case hd => rfl); (case hg => rfl); (case hr => first | (go_simp; done) | (go_simp; rfl)); intro gb187 hg w14 hbox hb; have n0_ := Aside0.mk (Kd.S_below (Kd.S_elderB (by (with_reducible repeat (first | apply Kd.S_alloc | apply Kd.S_drewN | apply Kd.S_drew)); exact HO_9.out) gb187 (Nat.le_of_eq hg.symm)) hb); have n1_ := Aside0.mk (Kd.R_below (by (with_reducible repeat (first | apply Kd.R_alloc | apply Kd.R_drewN | apply Kd.R_drew)); exact HL186_0.out) hb); have n2_ := Aside0.mk (Kd.C_below (by repeat (first | (with_reducible exact HR186_0.out) | (with_reducible refine Kd.C_alloc ?_ _) | (with_reducible refine Kd.C_drewN ?_ _) | (with_reducible refine Kd.C_drew ?_) | exact HR186_0.out)) hb); have n3_ := Aside0.mk (below_step (by repeat (first | (with_reducible first | exact HB.out | apply below_alloc | apply pw_below_drewN | apply below_drew1) | exact HB.out)) hb); have n4_ := Aside0.mk (hbox); have n5_ := Aside0.mk ((by rw [hg]; exact (below_size (by repeat (first | (with_reducible first | exact HB.out | apply below_alloc | apply pw_below_drewN | apply below_drew1) | exact HB.out))) : w.heap.size ≤ gb187)); have n6_ := Aside0.mk ((by rw [hg]; exact (below_size (by repeat (first | (with_reducible first | exact HB.out | apply below_alloc | apply pw_below_drewN | apply below_drew1) | exact HB.out))) : w.heap.size ≤ gb187)); clear HO_9; clear HL186_0; clear HR186_0; clear HB; have HO_9 := n0_; have HL186_0 := n1_; have HR186_0 := n2_; have HB := n3_; have BK187 := n4_; have GW187 := n5_; have GE187 := n6_; clear n0_ n1_ n2_ n3_ n4_ n5_ n6_; clear hb hbox hg; have hcz15_0 : w14.cell? ⟨gb187, 0, none⟩ = some (.slice none 0 0) := (blk_cell BK187.out 0).trans rfl; have hfz15_0 := blk_frozen BK187.out 0) | ((with_reducible refine gate_callee (f := 32) rfl ?_); refine goesL_ (some 17) rfl rfl Try.func32 (by kernel_rfl) rfl #[.agg #[.slice A186_0 ((rd_T29 t183 x11_1).f0).length c186_0], .slice A1 l1.length c1] rfl (by (try simp only [List.map_toArray, List.map_cons, List.map_nil]); first | done | rfl | (simp only [List.length_drop, List.length_take]; rfl)) ?_; (with_reducible refine (impl_Meets.calls k1 _ _ ((rd_T29 t183 x11_1).f0) _ _ l1 false _ ?side1 ?side2 ?side3 ?side4 A9.out).mono ?_); (case side1 => repeat (first | exact ((Kd.R_reads' (by (with_reducible repeat (first | apply Kd.R_alloc | apply Kd.R_drewN | apply Kd.R_drew)); exact (Kd.R_mono (Kd.R_far (p := ⟨gb187, 0, none⟩) (Kd.R_types HL186_0.out BK187.out (by decide)) (fun _ hk => hk.2) (.slice A186_0 ((rd_T29 t183 x11_1).f0).length c186_0)) (fun _ h_ => h_.1)))).2.2) | (with_reducible refine Kd.C_alloc ?_ _) | (with_reducible refine Kd.C_drewN ?_ _) | (with_reducible refine Kd.C_drew ?_))); (case side2 => exact HC186_0.out); (case side3 => exact Kd.C_below HR1.out (by repeat (first | (with_reducible first | exact HB.out | apply below_alloc | apply pw_below_drewN | apply below_drew1 | refine below_set ?_ GE187.out) | exact HB.out))); (case side4 => exact HC1.out); rintro e w16 ⟨rfl, hb⟩; refine ⟨_, rfl, ?_⟩; have n0_ := Aside0.mk (Kd.S_below (by (with_reducible repeat (first | apply Kd.S_alloc | apply Kd.S_drewN | apply Kd.S_drew)); exact (Kd.S_mono (Kd.S_far (p := ⟨gb187, 0, none⟩) (Kd.S_mono HO_9.out (fun k_ hk => (⟨hk, hk.2⟩ : _ ∧ k_ ≠ gb187))) (fun _ hk => hk.2) (.slice A186_0 ((rd_T29 t183 x11_1).f0).length c186_0)) (fun _ h_ => h_.1))) hb); have n1_ := Aside0.mk (Kd.R_below (by (with_reducible repeat (first | apply Kd.R_alloc | apply Kd.R_drewN | apply Kd.R_drew)); exact (Kd.R_mono (Kd.R_far (p := ⟨gb187, 0, none⟩) (Kd.R_types HL186_0.out BK187.out (by decide)) (fun _ hk => hk.2) (.slice A186_0 ((rd_T29 t183 x11_1).f0).length c186_0)) (fun _ h_ => h_.1))) hb); have n2_ := Aside0.mk (Kd.C_below ((Kd.R_reads' (by (with_reducible repeat (first | apply Kd.R_alloc | apply Kd.R_drewN | apply Kd.R_drew)); exact (Kd.R_mono (Kd.R_far (p := ⟨gb187, 0, none⟩) (Kd.R_types HL186_0.out BK187.out (by decide)) (fun _ hk => hk.2) (.slice A186_0 ((rd_T29 t183 x11_1).f0).length c186_0)) (fun _ h_ => h_.1)))).2.2) hb); have n3_ := Aside0.mk (blk_below (g := gb187) (o := .cells #[.slice A186_0 ((rd_T29 t183 x11_1).f0).length c186_0] 29 (0, 0)) (by (with_reducible repeat (first | refine blk_drewN ?_ _ | refine blk_drew ?_ | refine blk_alloc ?_ _)); refine blk_put (cs := #[.slice none 0 0]) ?_ 0 _ rfl; (with_reducible repeat (first | refine blk_drewN ?_ _ | refine blk_drew ?_ | refine blk_alloc ?_ _)); exact BK187.out) hb); have n4_ := Aside0.mk (below_step (by repeat (first | (with_reducible first | exact HB.out | apply below_alloc | apply pw_below_drewN | apply below_drew1 | refine below_set ?_ GE187.out) | exact HB.out)) hb); clear HO_9; clear HL186_0; clear HR186_0; clear BK187; clear HB; have HO_9 := n0_; have HL186_0 := n1_; have HR186_0 := n2_; have BK187 := n3_; have HB := n4_; clear n0_ n1_ n2_ n3_ n4_; (try clear hb); (try clear hb2); (try clear hk); (try clear hi)))
              go_roundg k1
              case measure => have := HK1.out; omega
              case rel => exact ⟨(x5_1), (wrap64 (x11_1 + 1)), (by first | rfl | (simp; done) | (simp [*]; done)), (by first | rfl | (simp; done) | (simp [*]; done)), H', ⟨by have := HK1.out; omega⟩, ⟨by (with_reducible repeat (first | apply Kd.S_alloc | apply Kd.S_drewN | apply Kd.S_drew)); exact Kd.S_mono HO_9.out (fun _ hk => trivial)⟩, ⟨by repeat (first | (with_reducible first | exact HB.out | apply below_alloc | apply pw_below_drewN | apply below_drew1 | refine below_set ?_ GE187.out) | exact HB.out)⟩⟩
          · rw [if_neg c8] at H
            exact absurd H (by simp)
        · rw [if_neg c7] at H
          exact absurd H (by simp)
      · rw [if_neg c6] at H
        have c6b0 : decide (x11_1 < (t183.length : Int)) = false := decide_eq_false c6
        clear c6
        obtain rfl := Option.some.inj H
        go_wp2
        go_ret
        exact ⟨by first | rfl | (simp [errW_none, errW_some] <;> rfl) | (simp [*, errW_none, errW_some] <;> rfl), by repeat (first | (with_reducible first | exact HB.out | apply below_alloc | apply pw_below_drewN | apply below_drew1) | exact HB.out)⟩

/-! ### impl_FirstMeeting: function 37 -/
def impl_FirstMeeting.l0 : Nat → List (S74) → List (S29) → Int → Int → Option (List Int × Bool)
  | 0, _, _, _, _ => none
  | k + 1, x1, x9, x10, x11 => if x11 < x10 then (if 0 ≤ x11 then (if x11 < (x9.length : Int) then ((impl_Meets.f k ((rd_T29 x9 x11).f0) x1).bind fun t195 => (if t195 = true then (some ((rd_T29 x9 x11).f0, true)) else (impl_FirstMeeting.l0 k x1 x9 x10 (wrap64 (x11 + 1))))) else (none)) else (none)) else (some (([] : List Int), false))
def impl_FirstMeeting.f (k : Nat) (a0 : Int) (l1 : List (S74)) : Option (List Int × Bool) := (impl_FamilyOf.f k a0).bind fun t190 => (impl_FirstMeeting.l0 k l1 t190 (t190.length : Int) 0)
theorem impl_FirstMeeting.mono_l : ∀ k, (∀ y0 y1 y2 y3, LeO (impl_FirstMeeting.l0 k y0 y1 y2 y3) (impl_FirstMeeting.l0 (k + 1) y0 y1 y2 y3))
  | 0 => fun _ _ _ _ r h => by simp [impl_FirstMeeting.l0] at h
  | k + 1 => by
    have ih0 := impl_FirstMeeting.mono_l k
    · intro y0 y1 y2 y3
      unfold impl_FirstMeeting.l0
      repeat' first
      | (with_reducible exact ih0 _ _ _ _)
      | (with_reducible exact impl_FamilyOf.mono _ _)
      | (with_reducible exact impl_Meets.mono _ _ _)
      | (with_reducible exact LeO.refl _)
      | (with_reducible exact LeO.none _)
      | (with_reducible refine LeO.ite ?_ ?_)
      | (with_reducible refine LeO.bind ?_ (fun _ => ?_))
      | exact ih0 _ _ _ _
      | exact impl_FamilyOf.mono _ _
      | exact impl_Meets.mono _ _ _
      | exact LeO.none _
      | refine LeO.ite ?_ ?_
      | refine LeO.bind ?_ (fun _ => ?_)
theorem impl_FirstMeeting.mono : ∀ a0 a1 k, LeO (impl_FirstMeeting.f k a0 a1) (impl_FirstMeeting.f (k + 1) a0 a1) := by
  intro a0 a1 k
  have ih0 := impl_FirstMeeting.mono_l k
  unfold impl_FirstMeeting.f
  repeat' first
      | (with_reducible exact ih0 _ _ _ _)
      | (with_reducible exact impl_FamilyOf.mono _ _)
      | (with_reducible exact impl_Meets.mono _ _ _)
      | (with_reducible exact LeO.refl _)
      | (with_reducible exact LeO.none _)
      | (with_reducible refine LeO.ite ?_ ?_)
      | (with_reducible refine LeO.bind ?_ (fun _ => ?_))
      | exact ih0 _ _ _ _
      | exact impl_FamilyOf.mono _ _
      | exact impl_Meets.mono _ _ _
      | exact LeO.none _
      | refine LeO.ite ?_ ?_
      | refine LeO.bind ?_ (fun _ => ?_)
set_option maxHeartbeats 8000000 in
set_option maxRecDepth 100000 in
theorem impl_FirstMeeting.calls (k : Nat) (a0 : Int) (A1 : Option Addr) (c1 : Nat) (l1 : List (S74)) (r1 : List Int) (r2 : Bool) (w : World) (hr1 : Kd.C k74 w A1 l1.length l1) (hc1 : l1.length ≤ c1) (h : impl_FirstMeeting.f k a0 l1 = some (r1, r2)) :
    Calls Try.prog 37 #[.int .i64 a0, .slice A1 l1.length c1] w fun e w' => ∃ v0_ : Value, e = .returned (.tuple #[.agg #[v0_], .bool r2]) ∧ Kd.R (Kd.int .i64) 3 w' w.heap.size (fun _ => True) v0_ r1 ∧ Below w.heap.size w w' := by
  have hu29 := Try.underlying29
  have HR1 := Aside0.mk hr1
  have HC1 := Aside0.mk hc1
  clear hr1 hc1
  have HB := Aside0.mk (Below.refl w.heap.size w)
  have H : ((impl_FamilyOf.f k a0).bind fun t190 => (impl_FirstMeeting.l0 k l1 t190 (t190.length : Int) 0)) = some (r1, r2) := h
  clear h
  replace H := Option.bind_eq_some_iff.mp H
  obtain ⟨t190, A30, H⟩ := H
  replace H : (impl_FirstMeeting.l0 k l1 t190 (t190.length : Int) 0) = some (r1, r2) := H
  have A3 := Aside0.mk A30
  clear A30
  have H' := Aside0.mk H
  clear H
  go_enter Try.func37, Try.ntmps37
  go_wp2_with (first | ((with_reducible refine gate_dst (N := 4) rfl ?_); refine box_event ?hg (N := 4) ?hd (cs := #[.slice none 0 0]) (t := 29) ?hr ?_; (case hd => rfl); (case hg => rfl); (case hr => first | (go_simp; done) | (go_simp; rfl)); intro gb189 hg w4 hbox hb; have n0_ := Aside0.mk (below_step (by repeat (first | (with_reducible first | exact HB.out | apply below_alloc | apply pw_below_drewN | apply below_drew1) | exact HB.out)) hb); have n1_ := Aside0.mk (hbox); have n2_ := Aside0.mk ((by rw [hg]; exact (below_size (by repeat (first | (with_reducible first | exact HB.out | apply below_alloc | apply pw_below_drewN | apply below_drew1) | exact HB.out))) : w.heap.size ≤ gb189)); have n3_ := Aside0.mk ((by rw [hg]; exact (below_size (by repeat (first | (with_reducible first | exact HB.out | apply below_alloc | apply pw_below_drewN | apply below_drew1) | exact HB.out))) : w.heap.size ≤ gb189)); clear HB; have HB := n0_; have BK189 := n1_; have GW189 := n2_; have GE189 := n3_; clear n0_ n1_ n2_ n3_; clear hb hbox hg) | ((with_reducible refine gate_callee (f := 14) rfl ?_); refine goesL_ (some 9) rfl rfl Try.func14 (by kernel_rfl) rfl #[.int .i64 a0] rfl (by (try simp only [List.map_toArray, List.map_cons, List.map_nil]); first | done | rfl | (simp only [List.length_drop, List.length_take]; rfl)) ?_; (with_reducible refine (impl_FamilyOf.calls k a0 t190 _ A3.out).mono ?_); rintro e w5 ⟨v191, rfl, ho0, hb⟩; refine ⟨_, rfl, ?_⟩; have n0_ := Aside0.mk (Kd.S_lower (Kd.S_newB ho0 (g := gb189) (o := .cells #[.slice none 0 0] 29 (0, 0)) (by (with_reducible repeat (first | refine blk_drewN ?_ _ | refine blk_drew ?_ | refine blk_alloc ?_ _)); exact BK189.out)) (below_size (by repeat (first | (with_reducible first | exact HB.out | apply below_alloc | apply pw_below_drewN | apply below_drew1 | refine below_set ?_ GE189.out) | exact HB.out)))); have n1_ := Aside0.mk (blk_below (g := gb189) (o := .cells #[.slice none 0 0] 29 (0, 0)) (by (with_reducible repeat (first | refine blk_drewN ?_ _ | refine blk_drew ?_ | refine blk_alloc ?_ _)); exact BK189.out) hb); have n2_ := Aside0.mk (below_step (by repeat (first | (with_reducible first | exact HB.out | apply below_alloc | apply pw_below_drewN | apply below_drew1 | refine below_set ?_ GE189.out) | exact HB.out)) hb); clear BK189; clear HB; have HO192 := n0_; have BK189 := n1_; have HB := n2_; clear n0_ n1_ n2_; (try clear hb); (try clear hb2); (try clear hk); (try clear hi); (try clear ho0); obtain ⟨Ao6, co6, eo6⟩ := Kd.S_slice HO192.out; subst eo6))
  go_loopg [11] k (fun kq v11 w' => ∃ (x11_1 : Int), v11 = .int .i64 x11_1 ∧ Aside0 (impl_FirstMeeting.l0 kq l1 t190 (t190.length : Int) x11_1 = some (r1, r2)) ∧ Aside0 (kq ≤ k) ∧ Aside0 (Kd.S k29 29 w' w.heap.size (fun k_ => k_ ≠ gb189) (.slice Ao6 t190.length co6) t190) ∧ Aside0 (w'.heap[gb189]? = some (.cells #[(.slice none 0 0)] 29 (0, 0))) ∧ Aside0 (Below w.heap.size w w'))
  case atStart => exact ⟨(0), (by first | rfl | (simp; done) | (simp [*]; done)), H', ⟨Nat.le_refl _⟩, ⟨by (with_reducible repeat (first | apply Kd.S_alloc | apply Kd.S_drewN | apply Kd.S_drew)); exact Kd.S_mono HO192.out (fun _ hk => hk.2)⟩, ⟨by (with_reducible repeat (first | refine blk_drewN ?_ _ | refine blk_drew ?_ | refine blk_alloc ?_ _)); exact BK189.out⟩, ⟨by repeat (first | (with_reducible first | exact HB.out | apply below_alloc | apply pw_below_drewN | apply below_drew1 | refine below_set ?_ GE189.out) | exact HB.out)⟩⟩
  case round =>
    clear H'
    try clear c1
    try clear p2
    try clear c3
    obtain ⟨x11_1, rfl, HA, HK1, HO_9, BK189, HB⟩ := hrel
    cases gk with
    | zero => exact absurd HA.out (by simp [impl_FirstMeeting.l0])
    | succ k1 =>
      have H := HA.out
      clear HA
      simp only [impl_FirstMeeting.l0] at H
      by_cases c7 : x11_1 < (t190.length : Int)
      · rw [if_pos c7] at H
        have c7b0 : decide (x11_1 < (t190.length : Int)) = true := decide_eq_true c7
        clear c7
        by_cases c8 : 0 ≤ x11_1
        · rw [if_pos c8] at H
          have c8b0 : decide (0 ≤ x11_1) = true := decide_eq_true c8
          clear c8
          by_cases c9 : x11_1 < (t190.length : Int)
          · rw [if_pos c9] at H
            have c9b0 : decide (x11_1 < (t190.length : Int)) = true := decide_eq_true c9
            clear c9
            replace H := Option.bind_eq_some_iff.mp H
            obtain ⟨t195, A100, H⟩ := H
            replace H : (if t195 = true then (some ((rd_T29 t190 x11_1).f0, true)) else (impl_FirstMeeting.l0 k1 l1 t190 (t190.length : Int) (wrap64 (x11_1 + 1)))) = some (r1, r2) := H
            have A10 := Aside0.mk A100
            clear A100
            by_cases c11 : t195 = true
            · subst c11
              have H1 : (some ((rd_T29 t190 x11_1).f0, true)) = some (r1, r2) := by rw [if_pos rfl] at H; exact H
              clear H
              have H := H1
              clear H1
              simp only [Option.some.injEq, Prod.mk.injEq] at H
              obtain ⟨rfl, rfl⟩ := H
              have p193 : 0 ≤ (x11_1 : Int) := of_decide_eq_true (by first | (with_reducible assumption) | assumption)
              have q193 : x11_1 < (t190.length : Int) := of_decide_eq_true (by first | (with_reducible assumption) | assumption)
              obtain ⟨ad193, A193_0, c193_0, e193, hx193_0, hl193_0, hi193_0⟩ := at_T29 (Kd.S_reads' HO_9.out).2.2 x11_1 p193 q193
              cases e193
              obtain ⟨ce193, hce193, hMe193, hcc193⟩ := Kd.S_get HO_9.out z29 x11_1 p193 (by first | exact q193 | exact of_decide_eq_true (by first | (with_reducible assumption) | assumption) | (have e_ := (Kd.S_reads' HO_9.out).1; omega))
              obtain ⟨ve193_0, rfl, ge193_0⟩ := k29_openM hMe193
              have hv193_0 := hcc193 0 _ rfl
              rw [Nat.add_zero, show (k29).sz = 1 from rfl, Nat.mul_one] at hv193_0
              replace hv193_0 := Option.some.inj (hv193_0.symm.trans hx193_0)
              rw [hv193_0] at ge193_0
              have HL193_0 := Aside0.mk (show Kd.R (Kd.int .i64) 3 _ _ _ _ ((rd_T29 t190 x11_1).f0) from ge193_0)
              clear hv193_0 ge193_0
              clear hcc193 hce193
              have HR193_0 := Aside0.mk hi193_0
              have HC193_0 := Aside0.mk hl193_0
              clear hi193_0 hl193_0
              replace p193 := eq_true p193
              replace q193 := eq_true q193
              go_wp2_with (first | ((with_reducible refine gate_dst (N := 7) rfl ?_); refine box_event ?hg (N := 7) ?hd (cs := #[.slice none 0 0]) (t := 29) ?hr ?_; (case hd => rfl); (case hg => rfl); (case hr => first | (go_simp; done) | (go_simp; rfl)); intro gb194 hg w12 hbox hb; have n0_ := Aside0.mk (Kd.S_below (Kd.S_elderB (by (with_reducible repeat (first | apply Kd.S_alloc | apply Kd.S_drewN | apply Kd.S_drew)); exact HO_9.out) gb194 (Nat.le_of_eq hg.symm)) hb); have n1_ := Aside0.mk (Kd.R_below (by (with_reducible repeat (first | apply Kd.R_alloc | apply Kd.R_drewN | apply Kd.R_drew)); exact HL193_0.out) hb); have n2_ := Aside0.mk (blk_below (g := gb189) (o := .cells #[.slice none 0 0] 29 (0, 0)) (by (with_reducible repeat (first | refine blk_drewN ?_ _ | refine blk_drew ?_ | refine blk_alloc ?_ _)); exact BK189.out) hb); have n3_ := Aside0.mk (Kd.C_below (by repeat (first | (with_reducible exact HR193_0.out) | (with_reducible refine Kd.C_alloc ?_ _) | (with_reducible refine Kd.C_drewN ?_ _) | (with_reducible refine Kd.C_drew ?_) | exact HR193_0.out)) hb); have n4_ := Aside0.mk (below_step (by repeat (first | (with_reducible first | exact HB.out | apply below_alloc | apply pw_below_drewN | apply below_drew1 | refine below_set ?_ GE189.out) | exact HB.out)) hb); have n5_ := Aside0.mk (hbox); have n6_ := Aside0.mk ((by rw [hg]; exact (below_size (by repeat (first | (with_reducible first | exact HB.out | apply below_alloc | apply pw_below_drewN | apply below_drew1 | refine below_set ?_ GE189.out) | exact HB.out))) : w.heap.size ≤ gb194)); have n7_ := Aside0.mk ((by rw [hg]; exact (below_size (by repeat (first | (with_reducible first | exact HB.out | apply below_alloc | apply pw_below_drewN | apply below_drew1 | refine below_set ?_ GE189.out) | exact HB.out))) : w.heap.size ≤ gb194)); have n8_ := Aside0.mk ((by rw [hg]; exact Nat.ne_of_lt (blk_lt (g := gb189) (o := .cells #[.slice none 0 0] 29 (0, 0)) (by (with_reducible repeat (first | refine blk_drewN ?_ _ | refine blk_drew ?_ | refine blk_alloc ?_ _)); exact BK189.out)) : gb189 ≠ gb194)); have n9_ := Aside0.mk ((by rw [hg]; exact Nat.ne_of_gt (blk_lt (g := gb189) (o := .cells #[.slice none 0 0] 29 (0, 0)) (by (with_reducible repeat (first | refine blk_drewN ?_ _ | refine blk_drew ?_ | refine blk_alloc ?_ _)); exact BK189.out)) : gb194 ≠ gb189)); clear HO_9; clear HL193_0; clear BK189; clear HR193_0; clear HB; have HO_9 := n0_; have HL193_0 := n1_; have BK189 := n2_; have HR193_0 := n3_; have HB := n4_; have BK194 := n5_; have GW194 := n6_; have GE194 := n7_; have NB189_194 := n8_; have NB194_189 := n9_; clear n0_ n1_ n2_ n3_ n4_ n5_ n6_ n7_ n8_ n9_; clear hb hbox hg; have hnb13 := NB194_189.out; have hnc13 := NB189_194.out; have hcz14_0 : w12.cell? ⟨gb194, 0, none⟩ = some (.slice none 0 0) := (blk_cell BK194.out 0).trans rfl; have hfz14_0 := blk_frozen BK194.out 0) | ((with_reducible refine gate_callee (f := 32) rfl ?_); refine goesL_ (some 17) rfl rfl Try.func32 (by kernel_rfl) rfl #[.agg #[.slice A193_0 ((rd_T29 t190 x11_1).f0).length c193_0], .slice A1 l1.length c1] rfl (by (try simp only [List.map_toArray, List.map_cons, List.map_nil]); first | done | rfl | (simp only [List.length_drop, List.length_take]; rfl)) ?_; (with_reducible refine (impl_Meets.calls k1 _ _ ((rd_T29 t190 x11_1).f0) _ _ l1 true _ ?side1 ?side2 ?side3 ?side4 A10.out).mono ?_); (case side1 => repeat (first | exact ((Kd.R_reads' (by (with_reducible repeat (first | apply Kd.R_alloc | apply Kd.R_drewN | apply Kd.R_drew)); exact (Kd.R_mono (Kd.R_far (p := ⟨gb194, 0, none⟩) (Kd.R_types HL193_0.out BK194.out (by decide)) (fun _ hk => hk.2) (.slice A193_0 ((rd_T29 t190 x11_1).f0).length c193_0)) (fun _ h_ => h_.1)))).2.2) | (with_reducible refine Kd.C_alloc ?_ _) | (with_reducible refine Kd.C_drewN ?_ _) | (with_reducible refine Kd.C_drew ?_))); (case side2 => exact HC193_0.out); (case side3 => exact Kd.C_below HR1.out (by repeat (first | (with_reducible first | exact HB.out | apply below_alloc | apply pw_below_drewN | apply below_drew1 | refine below_set ?_ GE189.out | refine below_set ?_ GE194.out) | exact HB.out))); (case side4 => exact HC1.out); rintro e w15 ⟨rfl, hb⟩; refine ⟨_, rfl, ?_⟩; have n0_ := Aside0.mk (Kd.S_below (by (with_reducible repeat (first | apply Kd.S_alloc | apply Kd.S_drewN | apply Kd.S_drew)); exact (Kd.S_mono (Kd.S_far (p := ⟨gb194, 0, none⟩) (Kd.S_mono HO_9.out (fun k_ hk => (⟨hk, hk.2⟩ : _ ∧ k_ ≠ gb194))) (fun _ hk => hk.2) (.slice A193_0 ((rd_T29 t190 x11_1).f0).length c193_0)) (fun _ h_ => h_.1))) hb); have n1_ := Aside0.mk (Kd.R_below (by (with_reducible repeat (first | apply Kd.R_alloc | apply Kd.R_drewN | apply Kd.R_drew)); exact (Kd.R_mono (Kd.R_far (p := ⟨gb194, 0, none⟩) (Kd.R_types HL193_0.out BK194.out (by decide)) (fun _ hk => hk.2) (.slice A193_0 ((rd_T29 t190 x11_1).f0).length c193_0)) (fun _ h_ => h_.1))) hb); have n2_ := Aside0.mk (blk_below (g := gb189) (o := .cells #[.slice none 0 0] 29 (0, 0)) (by (with_reducible repeat (first | refine blk_drewN ?_ _ | refine blk_drew ?_ | refine blk_alloc ?_ _)); refine blk_far ?_ NB189_194.out _; (with_reducible repeat (first | refine blk_drewN ?_ _ | refine blk_drew ?_ | refine blk_alloc ?_ _)); exact BK189.out) hb); have n3_ := Aside0.mk (Kd.C_below ((Kd.R_reads' (by (with_reducible repeat (first | apply Kd.R_alloc | apply Kd.R_drewN | apply Kd.R_drew)); exact (Kd.R_mono (Kd.R_far (p := ⟨gb194, 0, none⟩) (Kd.R_types HL193_0.out BK194.out (by decide)) (fun _ hk => hk.2) (.slice A193_0 ((rd_T29 t190 x11_1).f0).length c193_0)) (fun _ h_ => h_.1)))).2.2) hb); have n4_ := Aside0.mk (blk_below (g := gb194) (o := .cells #[.slice A193_0 ((rd_T29 t190 x11_1).f0).length c193_0] 29 (0, 0)) (by (with_reducible repeat (first | refine blk_drewN ?_ _ | refine blk_drew ?_ | refine blk_alloc ?_ _)); refine blk_put (cs := #[.slice none 0 0]) ?_ 0 _ rfl; (with_reducible repeat (first | refine blk_drewN ?_ _ | refine blk_drew ?_ | refine blk_alloc ?_ _)); exact BK194.out) hb); have n5_ := Aside0.mk (below_step (by repeat (first | (with_reducible first | exact HB.out | apply below_alloc | apply pw_below_drewN | apply below_drew1 | refine below_set ?_ GE189.out | refine below_set ?_ GE194.out) | exact HB.out)) hb); clear HO_9; clear HL193_0; clear BK189; clear HR193_0; clear BK194; clear HB; have HO_9 := n0_; have HL193_0 := n1_; have BK189 := n2_; have HR193_0 := n3_; have BK194 := n4_; have HB := n5_; clear n0_ n1_ n2_ n3_ n4_ n5_; (try clear hb); (try clear hb2); (try clear hk); (try clear hi); have hcz16_0 : w15.cell? ⟨gb194, 0, none⟩ = some (.slice A193_0 ((rd_T29 t190 x11_1).f0).length c193_0) := (blk_cell BK194.out 0).trans rfl; have hfz16_0 := blk_frozen BK194.out 0; have hcz17_0 : w15.cell? ⟨gb189, 0, none⟩ = some (.slice none 0 0) := (blk_cell BK189.out 0).trans rfl; have hfz17_0 := blk_frozen BK189.out 0))
              refine bodyPost_ret (results_ct rfl _ _ gb189 29 #[.slice A193_0 ((rd_T29 t190 x11_1).f0).length c193_0] (0, 0) _ rfl (by (with_reducible repeat (first | refine blk_drewN ?_ _ | refine blk_drew ?_ | refine blk_alloc ?_ _)); refine blk_put (cs := #[.slice none 0 0]) ?_ 0 _ rfl; (with_reducible repeat (first | refine blk_drewN ?_ _ | refine blk_drew ?_ | refine blk_alloc ?_ _)); exact BK189.out) Try.underlying29 rfl (by kernel_rfl)) rfl ?_
              exact ⟨_, by first | rfl | (simp [errW_none, errW_some] <;> rfl) | (simp [*, errW_none, errW_some] <;> rfl), by (with_reducible repeat (first | apply Kd.R_alloc | apply Kd.R_drewN | apply Kd.R_drew)); exact Kd.R_mono (Kd.R_far (p := ⟨gb189, 0, none⟩) (Kd.R_types HL193_0.out BK189.out (by decide)) (fun _ hk => hk.2) (.slice A193_0 ((rd_T29 t190 x11_1).f0).length c193_0)) (fun _ hk => trivial), by repeat (first | (with_reducible first | exact HB.out | apply below_alloc | apply pw_below_drewN | apply below_drew1 | refine below_set ?_ GE189.out | refine below_set ?_ GE194.out) | exact HB.out)⟩
            · replace c11 := Bool.eq_false_iff.mpr c11
              subst c11
              have H1 : (impl_FirstMeeting.l0 k1 l1 t190 (t190.length : Int) (wrap64 (x11_1 + 1))) = some (r1, r2) := by rw [if_neg (show ¬ (false = true) by decide)] at H; exact H
              clear H
              have H := H1
              clear H1
              have H' := Aside0.mk H
              clear H
              have p193 : 0 ≤ (x11_1 : Int) := of_decide_eq_true (by first | (with_reducible assumption) | assumption)
              have q193 : x11_1 < (t190.length : Int) := of_decide_eq_true (by first | (with_reducible assumption) | assumption)
              obtain ⟨ad193, A193_0, c193_0, e193, hx193_0, hl193_0, hi193_0⟩ := at_T29 (Kd.S_reads' HO_9.out).2.2 x11_1 p193 q193
              cases e193
              obtain ⟨ce193, hce193, hMe193, hcc193⟩ := Kd.S_get HO_9.out z29 x11_1 p193 (by first | exact q193 | exact of_decide_eq_true (by first | (with_reducible assumption) | assumption) | (have e_ := (Kd.S_reads' HO_9.out).1; omega))
              obtain ⟨ve193_0, rfl, ge193_0⟩ := k29_openM hMe193
              have hv193_0 := hcc193 0 _ rfl
              rw [Nat.add_zero, show (k29).sz = 1 from rfl, Nat.mul_one] at hv193_0
              replace hv193_0 := Option.some.inj (hv193_0.symm.trans hx193_0)
              rw [hv193_0] at ge193_0
              have HL193_0 := Aside0.mk (show Kd.R (Kd.int .i64) 3 _ _ _ _ ((rd_T29 t190 x11_1).f0) from ge193_0)
              clear hv193_0 ge193_0
              clear hcc193 hce193
              have HR193_0 := Aside0.mk hi193_0
              have HC193_0 := Aside0.mk hl193_0
              clear hi193_0 hl193_0
              replace p193 := eq_true p193
              replace q193 := eq_true q193
              go_wp2_with (first | ((with_reducible refine gate_dst (N := 7) rfl ?_); refine box_event ?hg (N := 7) ?hd (cs := #[.slice none 0 0]) (t := 29) ?hr ?_; (case hd => rfl); (case hg => rfl); (case hr => first | (go_simp; done) | (go_simp; rfl)); intro gb194 hg w18 hbox hb; have n0_ := Aside0.mk (Kd.S_below (Kd.S_elderB (by (with_reducible repeat (first | apply Kd.S_alloc | apply Kd.S_drewN | apply Kd.S_drew)); exact HO_9.out) gb194 (Nat.le_of_eq hg.symm)) hb); have n1_ := Aside0.mk (Kd.R_below (by (with_reducible repeat (first | apply Kd.R_alloc | apply Kd.R_drewN | apply Kd.R_drew)); exact HL193_0.out) hb); have n2_ := Aside0.mk (blk_below (g := gb189) (o := .cells #[.slice none 0 0] 29 (0, 0)) (by (with_reducible repeat (first | refine blk_drewN ?_ _ | refine blk_drew ?_ | refine blk_alloc ?_ _)); exact BK189.out) hb); have n3_ := Aside0.mk (Kd.C_below (by repeat (first | (with_reducible exact HR193_0.out) | (with_reducible refine Kd.C_alloc ?_ _) | (with_reducible refine Kd.C_drewN ?_ _) | (with_reducible refine Kd.C_drew ?_) | exact HR193_0.out)) hb); have n4_ := Aside0.mk (below_step (by repeat (first | (with_reducible first | exact HB.out | apply below_alloc | apply pw_below_drewN | apply below_drew1 | refine below_set ?_ GE189.out) | exact HB.out)) hb); have n5_ := Aside0.mk (hbox); have n6_ := Aside0.mk ((by rw [hg]; exact (below_size (by repeat (first | (with_reducible first | exact HB.out | apply below_alloc | apply pw_below_drewN | apply below_drew1 | refine below_set ?_ GE189.out) | exact HB.out))) : w.heap.size ≤ gb194)); have n7_ := Aside0.mk ((by rw [hg]; exact (below_size (by repeat (first | (with_reducible first | exact HB.out | apply below_alloc | apply pw_below_drewN | apply below_drew1 | refine below_set ?_ GE189.out) | exact HB.out))) : w.heap.size ≤ gb194)); have n8_ := Aside0.mk ((by rw [hg]; exact Nat.ne_of_lt (blk_lt (g := gb189) (o := .cells #[.slice none 0 0] 29 (0, 0)) (by (with_reducible repeat (first | refine blk_drewN ?_ _ | refine blk_drew ?_ | refine blk_alloc ?_ _)); exact BK189.out)) : gb189 ≠ gb194)); have n9_ := Aside0.mk ((by rw [hg]; exact Nat.ne_of_gt (blk_lt (g := gb189) (o := .cells #[.slice none 0 0] 29 (0, 0)) (by (with_reducible repeat (first | refine blk_drewN ?_ _ | refine blk_drew ?_ | refine blk_alloc ?_ _)); exact BK189.out)) : gb194 ≠ gb189)); clear HO_9; clear HL193_0; clear BK189; clear HR193_0; clear HB; have HO_9 := n0_; have HL193_0 := n1_; have BK189 := n2_; have HR193_0 := n3_; have HB := n4_; have BK194 := n5_; have GW194 := n6_; have GE194 := n7_; have NB189_194 := n8_; have NB194_189 := n9_; clear n0_ n1_ n2_ n3_ n4_ n5_ n6_ n7_ n8_ n9_; clear hb hbox hg; have hnb19 := NB194_189.out; have hnc19 := NB189_194.out; have hcz20_0 : w18.cell? ⟨gb194, 0, none⟩ = some (.slice none 0 0) := (blk_cell BK194.out 0).trans rfl; have hfz20_0 := blk_frozen BK194.out 0) | ((with_reducible refine gate_callee (f := 32) rfl ?_); refine goesL_ (some 17) rfl rfl Try.func32 (by kernel_rfl) rfl #[.agg #[.slice A193_0 ((rd_T29 t190 x11_1).f0).length c193_0], .slice A1 l1.length c1] rfl (by (try simp only [List.map_toArray, List.map_cons, List.map_nil]); first | done | rfl | (simp only [List.length_drop, List.length_take]; rfl)) ?_; (with_reducible refine (impl_Meets.calls k1 _ _ ((rd_T29 t190 x11_1).f0) _ _ l1 false _ ?side1 ?side2 ?side3 ?side4 A10.out).mono ?_); (case side1 => repeat (first | exact ((Kd.R_reads' (by (with_reducible repeat (first | apply Kd.R_alloc | apply Kd.R_drewN | apply Kd.R_drew)); exact (Kd.R_mono (Kd.R_far (p := ⟨gb194, 0, none⟩) (Kd.R_types HL193_0.out BK194.out (by decide)) (fun _ hk => hk.2) (.slice A193_0 ((rd_T29 t190 x11_1).f0).length c193_0)) (fun _ h_ => h_.1)))).2.2) | (with_reducible refine Kd.C_alloc ?_ _) | (with_reducible refine Kd.C_drewN ?_ _) | (with_reducible refine Kd.C_drew ?_))); (case side2 => exact HC193_0.out); (case side3 => exact Kd.C_below HR1.out (by repeat (first | (with_reducible first | exact HB.out | apply below_alloc | apply pw_below_drewN | apply below_drew1 | refine below_set ?_ GE189.out | refine below_set ?_ GE194.out) | exact HB.out))); (case side4 => exact HC1.out); rintro e w21 ⟨rfl, hb⟩; refine ⟨_, rfl, ?_⟩; have n0_ := Aside0.mk (Kd.S_below (by (with_reducible repeat (first | apply Kd.S_alloc | apply Kd.S_drewN | apply Kd.S_drew)); exact (Kd.S_mono (Kd.S_far (p := ⟨gb194, 0, none⟩) (Kd.S_mono HO_9.out (fun k_ hk => (⟨hk, hk.2⟩ : _ ∧ k_ ≠ gb194))) (fun _ hk => hk.2) (.slice A193_0 ((rd_T29 t190 x11_1).f0).length c193_0)) (fun _ h_ => h_.1))) hb); have n1_ := Aside0.mk (Kd.R_below (by (with_reducible repeat (first | apply Kd.R_alloc | apply Kd.R_drewN | apply Kd.R_drew)); exact (Kd.R_mono (Kd.R_far (p := ⟨gb194, 0, none⟩) (Kd.R_types HL193_0.out BK194.out (by decide)) (fun _ hk => hk.2) (.slice A193_0 ((rd_T29 t190 x11_1).f0).length c193_0)) (fun _ h_ => h_.1))) hb); have n2_ := Aside0.mk (blk_below (g := gb189) (o := .cells #[.slice none 0 0] 29 (0, 0)) (by (with_reducible repeat (first | refine blk_drewN ?_ _ | refine blk_drew ?_ | refine blk_alloc ?_ _)); refine blk_far ?_ NB189_194.out _; (with_reducible repeat (first | refine blk_drewN ?_ _ | refine blk_drew ?_ | refine blk_alloc ?_ _)); exact BK189.out) hb); have n3_ := Aside0.mk (Kd.C_below ((Kd.R_reads' (by (with_reducible repeat (first | apply Kd.R_alloc | apply Kd.R_drewN | apply Kd.R_drew)); exact (Kd.R_mono (Kd.R_far (p := ⟨gb194, 0, none⟩) (Kd.R_types HL193_0.out BK194.out (by decide)) (fun _ hk => hk.2) (.slice A193_0 ((rd_T29 t190 x11_1).f0).length c193_0)) (fun _ h_ => h_.1)))).2.2) hb); have n4_ := Aside0.mk (blk_below (g := gb194) (o := .cells #[.slice A193_0 ((rd_T29 t190 x11_1).f0).length c193_0] 29 (0, 0)) (by (with_reducible repeat (first | refine blk_drewN ?_ _ | refine blk_drew ?_ | refine blk_alloc ?_ _)); refine blk_put (cs := #[.slice none 0 0]) ?_ 0 _ rfl; (with_reducible repeat (first | refine blk_drewN ?_ _ | refine blk_drew ?_ | refine blk_alloc ?_ _)); exact BK194.out) hb); have n5_ := Aside0.mk (below_step (by repeat (first | (with_reducible first | exact HB.out | apply below_alloc | apply pw_below_drewN | apply below_drew1 | refine below_set ?_ GE189.out | refine below_set ?_ GE194.out) | exact HB.out)) hb); clear HO_9; clear HL193_0; clear BK189; clear HR193_0; clear BK194; clear HB; have HO_9 := n0_; have HL193_0 := n1_; have BK189 := n2_; have HR193_0 := n3_; have BK194 := n4_; have HB := n5_; clear n0_ n1_ n2_ n3_ n4_ n5_; (try clear hb); (try clear hb2); (try clear hk); (try clear hi)))
              go_roundg k1
              case measure => have := HK1.out; omega
              case rel => exact ⟨(wrap64 (x11_1 + 1)), (by first | rfl | (simp; done) | (simp [*]; done)), H', ⟨by have := HK1.out; omega⟩, ⟨by (with_reducible repeat (first | apply Kd.S_alloc | apply Kd.S_drewN | apply Kd.S_drew)); exact Kd.S_mono HO_9.out (fun _ hk => hk.1)⟩, ⟨by (with_reducible repeat (first | refine blk_drewN ?_ _ | refine blk_drew ?_ | refine blk_alloc ?_ _)); exact BK189.out⟩, ⟨by repeat (first | (with_reducible first | exact HB.out | apply below_alloc | apply pw_below_drewN | apply below_drew1 | refine below_set ?_ GE189.out | refine below_set ?_ GE194.out) | exact HB.out)⟩⟩
          · rw [if_neg c9] at H
            exact absurd H (by simp)
        · rw [if_neg c8] at H
          exact absurd H (by simp)
      · rw [if_neg c7] at H
        have c7b0 : decide (x11_1 < (t190.length : Int)) = false := decide_eq_false c7
        clear c7
        simp only [Option.some.injEq, Prod.mk.injEq] at H
        obtain ⟨rfl, rfl⟩ := H
        have hcz22_0 : wr.cell? ⟨gb189, 0, none⟩ = some (.slice none 0 0) := (blk_cell BK189.out 0).trans rfl
        have hfz22_0 := blk_frozen BK189.out 0
        go_wp2
        refine bodyPost_ret (results_ct rfl _ _ gb189 29 #[.slice none 0 0] (0, 0) _ rfl (by (with_reducible repeat (first | refine blk_drewN ?_ _ | refine blk_drew ?_ | refine blk_alloc ?_ _)); refine blk_put (cs := #[.slice none 0 0]) ?_ 0 _ rfl; (with_reducible repeat (first | refine blk_drewN ?_ _ | refine blk_drew ?_ | refine blk_alloc ?_ _)); exact BK189.out) Try.underlying29 rfl (by kernel_rfl)) rfl ?_
        exact ⟨_, by first | rfl | (simp [errW_none, errW_some] <;> rfl) | (simp [*, errW_none, errW_some] <;> rfl), by first | exact Kd.R_nil _ _ _ _ _ | exact Kd.N_nil _ _ _ _ _ | exact Kd.V_nil _ _ _ _ _ | exact Kd.Q_nil _ _ _ _ _ | exact Kd.S_nil _ _ _ _ _, by repeat (first | (with_reducible first | exact HB.out | apply below_alloc | apply pw_below_drewN | apply below_drew1 | refine below_set ?_ GE189.out) | exact HB.out)⟩

/-! ### impl_ConflictOf: function 38 (by hand) -/
def clampW (n : Int) : Int := if 1000 < n then 1000 else if n < -1000 then -1000 else n
def lk (x : Int) : Lit := .int .i64 x
def valD (D : DataW Unit) (x : Int) : Int := match D.atKey (lk x) (.lit (lk 0)) with | .lit (.int _ c) => c | _ => 0
def stepD (D : DataW Unit) (x : S74) : DataW Unit := if Maps.has D (lk x.f0) = true ∧ ¬ valD D x.f0 < clampW x.f1 then D else D.put (lk x.f0) (.lit (lk (clampW x.f1)))
def mostD (l : List S74) : DataW Unit := l.foldl stepD (.map [])
def atD (D : DataW Unit) (k : Int) : Bool := Maps.has D (lk k) && Maps.has D (lk (k + 4)) && Maps.has D (lk (k + 8)) && decide (12 < wrap64 (wrap64 (valD D k + valD D (k + 4)) + valD D (k + 8)))
def wishesOk (l : List S74) : Bool := decide (l.length ≤ 1000000) && l.all (fun x => (Lit.int .i64 x.f0).wf)
theorem wishesOk_iff (l : List S74) : wishesOk l = true ↔ l.length ≤ 1000000 ∧ ∀ x ∈ l, (Lit.int .i64 x.f0).wf = true := by unfold wishesOk; rw [Bool.and_eq_true, decide_eq_true_eq, List.all_eq_true]
def impl_ConflictOf.f (l0 : List (S74)) : Option (Bool) := if wishesOk l0 = true then some (atD (mostD l0) 0 || atD (mostD l0) 1 || atD (mostD l0) 2 || atD (mostD l0) 3) else none
theorem law3 : Go.Maps.Keyed Try.prog 3 := Go.Maps.int_keyed Try.underlying3
theorem zero3 (w : World) : (zeroValue 3).run Try.prog w = .ok (.int .i64 0) w := by kernel_rfl
theorem clampW_wf (n : Int) : (Lit.int .i64 (clampW n)).wf = true := by
  unfold clampW; split
  · rfl
  · split
    · rfl
    · exact WalkArith.wf_i64 (by omega)
theorem mostD_snoc (l : List S74) (k : Nat) (h : k < l.length) : mostD (l.take (k + 1)) = stepD (mostD (l.take k)) (rd_T74 l k) := by
  have : rd_T74 l (k : Int) = l[k] := by simp [rd_T74, h]
  rw [this, mostD, List.take_succ_eq_append_getElem h, List.foldl_append]; rfl
theorem valD_eq {D : DataW Unit} {x c : Int} (h : D.atKey (lk x) (.lit (lk 0)) = .lit (.int .i64 c)) : valD D x = c := by unfold valD; rw [h]
theorem wpList_look (w : World) {ops : Array Oper} {rest : List Oper} {o : Oper} {a : Act} {Q : Exit → Act → World → Prop} (hg : o.guard = none) (m x : Operand) (hop : o.op = Op.lookup 80 m x true) (b n : Nat) (D : DataW Unit)
    (hm : a.eval m = .map (some b)) (hown : w.ownsMap Try.prog 3 (plainElem Try.prog 3) b n D) (key : Int) (hx : a.eval x = .int .i64 key) (hwx : (Lit.int .i64 key).wf = true)
    (hK : wpList Try.prog ops Q rest (a.put o.dst (.tuple #[.int .i64 (valD D key), .bool (Maps.has D (lk key))])) w) : wpList Try.prog ops Q (o :: rest) a w :=
  wpList_lookup_own_ok_int w hg m x 80 hop 3 3 .i64 law3 Try.underlying80 Try.underlying3 (zero3 _) b n D hm hown _ (lk key) hx (Go.Maps.keyOf_int_mk Try.underlying3 hwx) (fun c hat _ => by obtain rfl := valD_eq hat; exact hK)
theorem stepD_put {D : DataW Unit} {x : S74} (h : ¬ Maps.has D (lk x.f0) = true ∨ valD D x.f0 < clampW x.f1) : stepD D x = D.put (lk x.f0) (.lit (lk (clampW x.f1))) := by
  unfold stepD; rw [if_neg]; intro q; rcases h with h | h
  · exact h q.1
  · exact q.2 h
theorem stepD_keep {D : DataW Unit} {x : S74} (h : Maps.has D (lk x.f0) = true) (hc : clampW x.f1 ≤ valD D x.f0) : stepD D x = D := by
  unfold stepD; rw [if_pos ⟨h, by omega⟩]
theorem atD_false {D : DataW Unit} {j : Int} (h : ¬ Maps.has D (lk j) = true ∨ ¬ Maps.has D (lk (j + 4)) = true ∨ ¬ Maps.has D (lk (j + 8)) = true ∨ wrap64 (wrap64 (valD D j + valD D (j + 4)) + valD D (j + 8)) ≤ 12) : atD D j = false := by
  unfold atD
  rcases h with h | h | h | h
  · simp [h]
  · simp [h]
  · simp [h]
  · rw [decide_eq_false (by omega)]; simp
theorem atD_true {D : DataW Unit} {j : Int} (h1 : Maps.has D (lk j) = true) (h2 : Maps.has D (lk (j + 4)) = true) (h3 : Maps.has D (lk (j + 8)) = true) (h4 : 12 < wrap64 (wrap64 (valD D j + valD D (j + 4)) + valD D (j + 8))) : atD D j = true := by
  unfold atD; rw [h1, h2, h3, decide_eq_true h4]; rfl
theorem or4_true {D : DataW Unit} {j : Nat} (hj : j < 4) (h : atD D (j : Int) = true) : (atD D 0 || atD D 1 || atD D 2 || atD D 3) = true := by
  have : j = 0 ∨ j = 1 ∨ j = 2 ∨ j = 3 := by omega
  rcases this with rfl | rfl | rfl | rfl
  · rw [show atD D 0 = true from h]; rfl
  · rw [show atD D 1 = true from h]; simp
  · rw [show atD D 2 = true from h]; simp
  · rw [show atD D 3 = true from h]; simp
theorem or4_false {D : DataW Unit} (h : ∀ m : Nat, m < 4 → atD D (m : Int) = false) : (atD D 0 || atD D 1 || atD D 2 || atD D 3) = false := by
  rw [show atD D 0 = false from h 0 (by omega), show atD D 1 = false from h 1 (by omega), show atD D 2 = false from h 2 (by omega), show atD D 3 = false from h 3 (by omega)]; rfl
theorem clamp_calls (n : Int) (w : World) : Calls Try.prog 65 #[.int .i64 n, .int .i64 (-1000), .int .i64 1000] w fun e w' => e = .returned (.int .i64 (clampW n)) ∧ w' = w := by
  unfold clampW
  go_enter Try.func65, Try.ntmps65
  go_wp2
  all_goals go_ret
  all_goals exact ⟨rfl, rfl⟩
set_option maxHeartbeats 2000000 in
set_option maxRecDepth 100000 in
theorem impl_ConflictOf.calls (A0 : Option Addr) (c0 : Nat) (l0 : List (S74)) (r : Bool) (w : World) (hr0 : Kd.C k74 w A0 l0.length l0) (hc0 : l0.length ≤ c0) (h : impl_ConflictOf.f l0 = some r) :
    Calls Try.prog 38 #[.slice A0 l0.length c0] w fun e w' => e = .returned (.bool r) ∧ Below w.heap.size w w' := by
  have HR0 := Aside0.mk hr0
  unfold impl_ConflictOf.f at h
  by_cases hok : wishesOk l0 = true
  case neg => rw [if_neg hok] at h; cases h
  rw [if_pos hok] at h
  rw [wishesOk_iff] at hok
  have HO := Aside0.mk hok.2
  have hlen := hok.1
  have H := Aside0.mk (Option.some.inj h)
  clear h hok hr0
  have hmm := @run_makeMap Try.prog
  go_enter Try.func38, Try.ntmps38
  go_wp2
  go_loopw [19] (fun i wr => ∃ k : Nat, k ≤ l0.length ∧ i = .int .i64 k ∧ wr.ownsMap Try.prog 3 (plainElem Try.prog 3) w.heap.size k (mostD (l0.take k)) ∧ Below w.heap.size w wr)
    (fun i _ => l0.length - (intOf i).toNat)
  case atStart => exact ⟨0, Nat.zero_le _, rfl, by rw [List.take_zero]; exact World.ownsMap_made _ _ _ _, (Below.refl _ _).alloc (Nat.le_refl _) _⟩
  case round =>
    obtain ⟨k, hk, rfl, hown, hB⟩ := hrel
    by_cases hlt : k < l0.length
    · obtain ⟨ad, hAd, hx0, hx1⟩ := at_T74 (Kd.C_below HR0.out hB) (k : Int) (by omega) (by omega)
      subst hAd
      rw [Int.toNat_natCast] at hx0 hx1
      generalize hrx : rd_T74 l0 (k : Int) = x at hx0 hx1
      have hwx : (Lit.int .i64 x.f0).wf = true := by rw [← hrx]; refine HO.out _ ?_; simp [rd_T74, hlt]
      have hst : mostD (l0.take (k + 1)) = stepD (mostD (l0.take k)) x := by rw [← hrx]; exact mostD_snoc l0 k hlt
      go_wp2_with (first | ((with_reducible refine gate_callee (f := 65) rfl ?_); refine goesL_ (some 25) rfl rfl Try.func65 (by kernel_rfl) rfl #[.int .i64 x.f1, .int .i64 (-1000), .int .i64 1000] rfl (by (try simp only [List.map_toArray, List.map_cons, List.map_nil]); first | done | rfl) ?_; refine (clamp_calls x.f1 _).mono ?_; rintro e w' ⟨rfl, rfl⟩; refine ⟨_, rfl, ?_⟩) | (at_lookup; refine wpList_look _ rfl _ _ rfl w.heap.size k _ rfl (hown.alloc _) x.f0 rfl hwx ?_) | (at_mapUpdate; refine wpList_mapUpdate_own _ rfl _ _ _ 80 rfl 3 3 law3 Try.underlying80 _ w.heap.size k _ rfl (hown.alloc _) (by unfold maxLen; omega) _ _ (lk x.f0) rfl rfl (Go.Maps.keyOf_int_mk Try.underlying3 hwx) _ [] (plainElem_int Try.underlying3 (clampW_wf _)) ?_; intro w1 hown1 hgrow1))
      all_goals go_roundw
      all_goals first
        | (simp [intOf]; omega)
        | exact ⟨k + 1, by omega, by go_num, by rw [hst, stepD_keep (by assumption) (by assumption)]; exact (hown.alloc _).mono (Nat.le_succ _), hB.alloc hB.size _⟩
        | exact ⟨k + 1, by omega, by go_num, by rw [hst, stepD_put (by first | exact .inl (by assumption) | exact .inr (by assumption))]; exact hown1, (hB.alloc hB.size _).grown hgrow1 (by simp; have := hB.size; omega) (fun j hj => by cases hj; exact Nat.le_refl _)⟩
    · obtain rfl : k = l0.length := by omega
      rw [List.take_length] at hown
      go_wp2
      go_loopw [9] (fun i w' => ∃ j : Nat, j ≤ 4 ∧ i = .int .i64 j ∧ w' = wr ∧ ∀ m : Nat, m < j → atD (mostD l0) m = false)
        (fun i _ => 4 - (intOf i).toNat)
      case atStart => exact ⟨0, by omega, rfl, rfl, fun m hm => by omega⟩
      case round =>
        obtain ⟨j, hj, rfl, rfl, hno⟩ := hrel
        go_wp2_with (first | (at_lookup; refine wpList_look _ rfl _ _ rfl w.heap.size _ _ rfl hown _ rfl (WalkArith.wf_i64 (by omega)) ?_))
        · go_ret
          exact ⟨by have e := H.out; rw [or4_true (j := j) (by omega) (atD_true (by assumption) (by assumption) (by assumption) (by assumption))] at e; subst e; rfl, hB⟩
        · go_roundw
          case rel => exact ⟨j + 1, by omega, by go_num, trivial, fun m hm => by rcases Nat.lt_succ_iff_lt_or_eq.1 hm with h | rfl; exact hno m h; exact atD_false (.inr (.inr (.inr (by assumption))))⟩
          case measure => simp [intOf]; omega
        · go_roundw
          case rel => exact ⟨j + 1, by omega, by go_num, trivial, fun m hm => by rcases Nat.lt_succ_iff_lt_or_eq.1 hm with h | rfl; exact hno m h; exact atD_false (.inr (.inr (.inl (by assumption))))⟩
          case measure => simp [intOf]; omega
        · go_roundw
          case rel => exact ⟨j + 1, by omega, by go_num, trivial, fun m hm => by rcases Nat.lt_succ_iff_lt_or_eq.1 hm with h | rfl; exact hno m h; exact atD_false (.inr (.inl (by assumption)))⟩
          case measure => simp [intOf]; omega
        · go_roundw
          case rel => exact ⟨j + 1, by omega, by go_num, trivial, fun m hm => by rcases Nat.lt_succ_iff_lt_or_eq.1 hm with h | rfl; exact hno m h; exact atD_false (.inl (by assumption))⟩
          case measure => simp [intOf]; omega
        · go_ret
          exact ⟨by have e := H.out; rw [or4_false (fun m hm => hno m (by omega))] at e; subst e; rfl, hB⟩

/-! ### impl_EqualCircle: function 39 -/
def impl_EqualCircle.f  : Option (List Int) := some (([1, 1, 1, 1, 1, 1, 1, 1, 1, 1, 1, 1] : List Int))
set_option maxHeartbeats 8000000 in
set_option maxRecDepth 100000 in
theorem impl_EqualCircle.calls  (r : List Int) (w : World) (h : impl_EqualCircle.f  = some r) :
    Calls Try.prog 39 #[] w fun e w' => ∃ v0_ : Value, e = .returned (.agg #[v0_]) ∧ Kd.R (Kd.int .i64) 3 w' w.heap.size (fun _ => True) v0_ r ∧ Below w.heap.size w w' := by
  have hu29 := Try.underlying29
  have HB := Aside0.mk (Below.refl w.heap.size w)
  have H : (some (([1, 1, 1, 1, 1, 1, 1, 1, 1, 1, 1, 1] : List Int))) = some r := h
  clear h
  obtain ⟨y200, hy200⟩ : ∃ y_ : List Int, y_ = (([1, 1, 1, 1, 1, 1, 1, 1, 1, 1, 1, 1] : List Int)) := ⟨_, rfl⟩
  replace H : (some y200) = some r := by first | (rw [hy200]; with_reducible exact H) | (have H2_ := (Option.bind_some _ _).symm.trans H; rw [hy200]; with_reducible exact H2_) | (have H2_ := (Option.bind_some _ _).symm.trans H; with_reducible exact H2_) | with_reducible exact H | (rw [hy200]; exact H) | exact H
  have Ny200 := Aside0.mk hy200
  clear hy200
  obtain rfl := Option.some.inj H
  go_enter Try.func39, Try.ntmps39
  go_wp2_with (first | ((with_reducible refine gate_dst (N := 0) rfl ?_); refine box_event ?hg (N := 0) ?hd (cs := #[.slice none 0 0]) (t := 29) ?hr ?_; (case hd => rfl); (case hg => rfl); (case hr => first | (go_simp; done) | (go_simp; rfl)); intro gb199 hg w1 hbox hb; have n0_ := Aside0.mk (below_step (by repeat (first | (with_reducible first | exact HB.out | apply below_alloc | apply pw_below_drewN | apply below_drew1) | exact HB.out)) hb); have n1_ := Aside0.mk (hbox); have n2_ := Aside0.mk ((by rw [hg]; exact (below_size (by repeat (first | (with_reducible first | exact HB.out | apply below_alloc | apply pw_below_drewN | apply below_drew1) | exact HB.out))) : w.heap.size ≤ gb199)); have n3_ := Aside0.mk ((by rw [hg]; exact (below_size (by repeat (first | (with_reducible first | exact HB.out | apply below_alloc | apply pw_below_drewN | apply below_drew1) | exact HB.out))) : w.heap.size ≤ gb199)); clear HB; have HB := n0_; have BK199 := n1_; have GW199 := n2_; have GE199 := n3_; clear n0_ n1_ n2_ n3_; clear hb hbox hg) | ((with_reducible refine gate_dst (N := 1) rfl ?_); refine Kd.R_lit (Kd.int .i64) _ 3 ?hg (N := 1) ?hd (xs := ([1, 1, 1, 1, 1, 1, 1, 1, 1, 1, 1, 1] : List Int)) (inner := [.int .i64 1, .int .i64 1, .int .i64 1, .int .i64 1, .int .i64 1, .int .i64 1, .int .i64 1, .int .i64 1, .int .i64 1, .int .i64 1, .int .i64 1, .int .i64 1]) (ok := fun _ => True) (okp := fun _ => True) ?hr ?hp (fun _ hk => hk) trivial (Below.refl _ _) (Nat.le_refl _) (by simp) ?_; (case hd => rfl); (case hg => rfl); (case hr => first | (go_simp; done) | (go_simp; rfl)); (case hp => exact (Reps.one (show Kd.M (Kd.int .i64) _ _ _ 1 [.int .i64 1] from rfl) (Reps.one (show Kd.M (Kd.int .i64) _ _ _ 1 [.int .i64 1] from rfl) (Reps.one (show Kd.M (Kd.int .i64) _ _ _ 1 [.int .i64 1] from rfl) (Reps.one (show Kd.M (Kd.int .i64) _ _ _ 1 [.int .i64 1] from rfl) (Reps.one (show Kd.M (Kd.int .i64) _ _ _ 1 [.int .i64 1] from rfl) (Reps.one (show Kd.M (Kd.int .i64) _ _ _ 1 [.int .i64 1] from rfl) (Reps.one (show Kd.M (Kd.int .i64) _ _ _ 1 [.int .i64 1] from rfl) (Reps.one (show Kd.M (Kd.int .i64) _ _ _ 1 [.int .i64 1] from rfl) (Reps.one (show Kd.M (Kd.int .i64) _ _ _ 1 [.int .i64 1] from rfl) (Reps.one (show Kd.M (Kd.int .i64) _ _ _ 1 [.int .i64 1] from rfl) (Reps.one (show Kd.M (Kd.int .i64) _ _ _ 1 [.int .i64 1] from rfl) (Reps.one (show Kd.M (Kd.int .i64) _ _ _ 1 [.int .i64 1] from rfl) (Reps.none _ _)))))))))))))); intro v201 w2 ho3 hb hg_ hnew_; clear hg_ hnew_; (first | rw [← Ny200.out] at ho3 | (simp only [Int.reduceToNat] at ho3; rw [← Ny200.out] at ho3)); have n0_ := Aside0.mk (Kd.R_lower ho3 (below_size (by repeat (first | (with_reducible first | exact HB.out | apply below_alloc | apply pw_below_drewN | apply below_drew1 | refine below_set ?_ GE199.out) | exact HB.out)))); have n1_ := Aside0.mk (blk_below (g := gb199) (o := .cells #[.slice none 0 0] 29 (0, 0)) (by (with_reducible repeat (first | refine blk_drewN ?_ _ | refine blk_drew ?_ | refine blk_alloc ?_ _)); exact BK199.out) hb); have n2_ := Aside0.mk (below_step (by repeat (first | (with_reducible first | exact HB.out | apply below_alloc | apply pw_below_drewN | apply below_drew1 | refine below_set ?_ GE199.out) | exact HB.out)) hb); clear BK199; clear HB; have HO202 := n0_; have BK199 := n1_; have HB := n2_; clear n0_ n1_ n2_; clear hb ho3; obtain ⟨Ao4, co4, eo4⟩ := Kd.R_slice HO202.out; subst eo4; have hcz5_0 : w2.cell? ⟨gb199, 0, none⟩ = some (.slice none 0 0) := (blk_cell BK199.out 0).trans rfl; have hfz5_0 := blk_frozen BK199.out 0))
  refine bodyPost_ret (results_cell_row rfl _ _ gb199 29 #[.slice Ao4 y200.length co4] (0, 0) _ rfl (by (with_reducible repeat (first | refine blk_drewN ?_ _ | refine blk_drew ?_ | refine blk_alloc ?_ _)); refine blk_put (cs := #[.slice none 0 0]) ?_ 0 _ rfl; (with_reducible repeat (first | refine blk_drewN ?_ _ | refine blk_drew ?_ | refine blk_alloc ?_ _)); exact BK199.out) Try.underlying29 rfl (by kernel_rfl)) rfl ?_
  exact ⟨_, by first | rfl | (simp [errW_none, errW_some] <;> rfl) | (simp [*, errW_none, errW_some] <;> rfl), by (with_reducible repeat (first | apply Kd.R_alloc | apply Kd.R_drewN | apply Kd.R_drew)); exact Kd.R_mono (Kd.R_far (p := ⟨gb199, 0, none⟩) (Kd.R_types HO202.out BK199.out (by decide)) (fun _ hk => hk.2) (.slice Ao4 y200.length co4)) (fun _ hk => trivial), by repeat (first | (with_reducible first | exact HB.out | apply below_alloc | apply pw_below_drewN | apply below_drew1 | refine below_set ?_ GE199.out) | exact HB.out)⟩

end Go.Proofs.Ytdcpbnddnbeofaa.PFnWishes
