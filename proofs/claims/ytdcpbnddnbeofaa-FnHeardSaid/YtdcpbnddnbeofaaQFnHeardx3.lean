/- Functions that the law FnHeard reaches, each as a Lean function with the proof that the Go code comes to its answers. Conditions: none. Printed by the kit's print, repaired by a program of this session. -/
import Derived.Test.YtdcpbnddnbeofaaQFnHeardx0
import Derived.Test.YtdcpbnddnbeofaaQFnHeardx1
import Derived.Test.YtdcpbnddnbeofaaQFnHeardx2
namespace Go.Proofs.Ytdcpbnddnbeofaa.PFnHeard
open Go.RowKit Go.Proofs.YtdcpbnddnbeofaaW.PrintWords Go.Proofs.YtdcpbnddnbeofaaW.PrintLast Go.Proofs.YtdcpbnddnbeofaaW.PrintMore
attribute [local go_sem] max2_int min2_int max_two min_two max_three min_three max_four min_four   -- for this text's walks alone
set_option linter.unusedVariables false
set_option linter.unusedSimpArgs false

/-! ### impl_partsFrom: function 73 -/
def impl_partsFrom.l0 : Nat → Int → Int → Int → Int → List Int → Option (Int)
  | 0, _, _, _, _, _ => none
  | k + 1, x1, x2, x7, x8, x244000 => if x8 < x2 then (if 0 ≤ (Int.tmod (wrap64 (x1 + x8)) 12) then (if (Int.tmod (wrap64 (x1 + x8)) 12) < (x244000.length : Int) then (impl_partsFrom.l0 k x1 x2 (wrap64 (x7 + (rd x244000 (Int.tmod (wrap64 (x1 + x8)) 12)))) (wrap64 (x8 + 1)) x244000) else (none)) else (none)) else (some x7)
def impl_partsFrom.f (k : Nat) (l0_0 : List Int) (a1 : Int) (a2 : Int) : Option (Int) := (impl_isKey.f k l0_0 a1).bind fun t244 => (if t244 = true then (impl_partsFrom.l0 k a1 a2 0 0 l0_0) else (some 0))
theorem impl_partsFrom.mono_l : ∀ k, (∀ y0 y1 y2 y3 y4, LeO (impl_partsFrom.l0 k y0 y1 y2 y3 y4) (impl_partsFrom.l0 (k + 1) y0 y1 y2 y3 y4))
  | 0 => fun _ _ _ _ _ r h => by simp [impl_partsFrom.l0] at h
  | k + 1 => by
    have ih0 := impl_partsFrom.mono_l k
    · intro y0 y1 y2 y3 y4
      unfold impl_partsFrom.l0
      repeat' first
      | (with_reducible exact ih0 _ _ _ _ _)
      | (with_reducible exact impl_isKey.mono _ _ _)
      | (with_reducible exact LeO.refl _)
      | (with_reducible exact LeO.none _)
      | (with_reducible refine LeO.ite ?_ ?_)
      | (with_reducible refine LeO.bind ?_ (fun _ => ?_))
      | exact ih0 _ _ _ _ _
      | exact impl_isKey.mono _ _ _
      | exact LeO.none _
      | refine LeO.ite ?_ ?_
      | refine LeO.bind ?_ (fun _ => ?_)
theorem impl_partsFrom.mono : ∀ a0 a1 a2 k, LeO (impl_partsFrom.f k a0 a1 a2) (impl_partsFrom.f (k + 1) a0 a1 a2) := by
  intro a0 a1 a2 k
  have ih0 := impl_partsFrom.mono_l k
  unfold impl_partsFrom.f
  repeat' first
      | (with_reducible exact ih0 _ _ _ _ _)
      | (with_reducible exact impl_isKey.mono _ _ _)
      | (with_reducible exact LeO.refl _)
      | (with_reducible exact LeO.none _)
      | (with_reducible refine LeO.ite ?_ ?_)
      | (with_reducible refine LeO.bind ?_ (fun _ => ?_))
      | exact ih0 _ _ _ _ _
      | exact impl_isKey.mono _ _ _
      | exact LeO.none _
      | refine LeO.ite ?_ ?_
      | refine LeO.bind ?_ (fun _ => ?_)
set_option maxHeartbeats 8000000 in
set_option maxRecDepth 100000 in
theorem impl_partsFrom.calls (k : Nat) (A0_0 : Option Addr) (c0_0 : Nat) (l0_0 : List Int) (a1 : Int) (a2 : Int) (r : Int) (w : World) (hr0_0 : Kd.C (Kd.int .i64) w A0_0 l0_0.length l0_0) (hc0_0 : l0_0.length ≤ c0_0) (h : impl_partsFrom.f k l0_0 a1 a2 = some r) :
    Calls Try.prog 73 #[.agg #[.slice A0_0 l0_0.length c0_0], .int .i64 a1, .int .i64 a2] w fun e w' => e = .returned (.int .i64 r) ∧ Below w.heap.size w w' := by
  have hu29 := Try.underlying29
  have HR0_0 := Aside0.mk hr0_0
  have HC0_0 := Aside0.mk hc0_0
  clear hr0_0 hc0_0
  have HB := Aside0.mk (Below.refl w.heap.size w)
  have H : ((impl_isKey.f k l0_0 a1).bind fun t244 => (if t244 = true then (impl_partsFrom.l0 k a1 a2 0 0 l0_0) else (some 0))) = some r := h
  clear h
  replace H := Option.bind_eq_some_iff.mp H
  obtain ⟨t244, A40, H⟩ := H
  replace H : (if t244 = true then (impl_partsFrom.l0 k a1 a2 0 0 l0_0) else (some 0)) = some r := H
  have A4 := Aside0.mk A40
  clear A40
  by_cases c5 : t244 = true
  · subst c5
    have H1 : (impl_partsFrom.l0 k a1 a2 0 0 l0_0) = some r := by rw [if_pos rfl] at H; exact H
    clear H
    have H := H1
    clear H1
    have H' := Aside0.mk H
    clear H
    go_enter Try.func73, Try.ntmps73
    go_wp2_with (first | ((with_reducible refine gate_dst (N := 3) rfl ?_); refine box_event ?hg (N := 3) ?hd (cs := #[.slice A0_0 l0_0.length c0_0]) (t := 29) ?hr ?_; (case hd => rfl); (case hg => rfl); (case hr => first | (go_simp; done) | (go_simp; rfl)); intro gb243 hg w6 hbox hb; have n0_ := Aside0.mk (below_step (by repeat (first | (with_reducible first | exact HB.out | apply below_alloc | apply pw_below_drewN | apply below_drew1) | exact HB.out)) hb); have n1_ := Aside0.mk (hbox); have n2_ := Aside0.mk ((by rw [hg]; exact (below_size (by repeat (first | (with_reducible first | exact HB.out | apply below_alloc | apply pw_below_drewN | apply below_drew1) | exact HB.out))) : w.heap.size ≤ gb243)); have n3_ := Aside0.mk ((by rw [hg]; exact (below_size (by repeat (first | (with_reducible first | exact HB.out | apply below_alloc | apply pw_below_drewN | apply below_drew1) | exact HB.out))) : w.heap.size ≤ gb243)); clear HB; have HB := n0_; have BK243 := n1_; have GW243 := n2_; have GE243 := n3_; clear n0_ n1_ n2_ n3_; clear hb hbox hg; have hcz7_0 : w6.cell? ⟨gb243, 0, none⟩ = some (.slice A0_0 l0_0.length c0_0) := (blk_cell BK243.out 0).trans rfl; have hfz7_0 := blk_frozen BK243.out 0) | ((with_reducible refine gate_callee (f := 75) rfl ?_); refine goesL_ (some 11) rfl rfl Try.func75 (by kernel_rfl) rfl #[.agg #[.slice A0_0 l0_0.length c0_0], .int .i64 a1] rfl (by (try simp only [List.map_toArray, List.map_cons, List.map_nil]); first | done | rfl | (simp only [List.length_drop, List.length_take]; rfl)) ?_; (with_reducible refine (impl_isKey.calls k _ _ l0_0 a1 true _ ?side1 ?side2 A4.out).mono ?_); (case side1 => repeat (first | exact (Kd.C_below HR0_0.out HB.out) | (with_reducible refine Kd.C_alloc ?_ _) | (with_reducible refine Kd.C_drewN ?_ _) | (with_reducible refine Kd.C_drew ?_))); (case side2 => exact HC0_0.out); rintro e w8 ⟨rfl, hb⟩; refine ⟨_, rfl, ?_⟩; have n0_ := Aside0.mk (blk_below (g := gb243) (o := .cells #[.slice A0_0 l0_0.length c0_0] 29 (0, 0)) (by (with_reducible repeat (first | refine blk_drewN ?_ _ | refine blk_drew ?_ | refine blk_alloc ?_ _)); exact BK243.out) hb); have n1_ := Aside0.mk (below_step (by repeat (first | (with_reducible first | exact HB.out | apply below_alloc | apply pw_below_drewN | apply below_drew1 | refine below_set ?_ GE243.out) | exact HB.out)) hb); clear BK243; clear HB; have BK243 := n0_; have HB := n1_; clear n0_ n1_; (try clear hb); (try clear hb2); (try clear hk); (try clear hi)))
    go_loopg [7, 8] k (fun kq v7 v8 w' => ∃ (x7_1 : Int) (x8_1 : Int), v7 = .int .i64 x7_1 ∧ v8 = .int .i64 x8_1 ∧ Aside0 (impl_partsFrom.l0 kq a1 a2 x7_1 x8_1 l0_0 = some r) ∧ Aside0 (kq ≤ k) ∧ Aside0 (w'.heap[gb243]? = some (.cells #[(.slice A0_0 l0_0.length c0_0)] 29 (0, 0))) ∧ Aside0 (Below w.heap.size w w'))
    case atStart => exact ⟨(0), (0), (by first | rfl | (simp; done) | (simp [*]; done)), (by first | rfl | (simp; done) | (simp [*]; done)), H', ⟨Nat.le_refl _⟩, ⟨by (with_reducible repeat (first | refine blk_drewN ?_ _ | refine blk_drew ?_ | refine blk_alloc ?_ _)); exact BK243.out⟩, ⟨by repeat (first | (with_reducible first | exact HB.out | apply below_alloc | apply pw_below_drewN | apply below_drew1 | refine below_set ?_ GE243.out) | exact HB.out)⟩⟩
    case round =>
      clear H'
      try clear p2
      try clear c5
      try clear c7
      try clear hcz7_0
      try clear hfz7_0
      obtain ⟨x7_1, x8_1, rfl, rfl, HA, HK1, BK243, HB⟩ := hrel
      cases gk with
      | zero => exact absurd HA.out (by simp [impl_partsFrom.l0])
      | succ k1 =>
        have H := HA.out
        clear HA
        simp only [impl_partsFrom.l0] at H
        by_cases c9 : x8_1 < a2
        · rw [if_pos c9] at H
          have c9b0 : decide (x8_1 < a2) = true := decide_eq_true c9
          clear c9
          obtain ⟨ji10, hji10⟩ : ∃ j_ : Int, (Int.tmod (wrap64 (a1 + x8_1)) 12) = j_ := ⟨_, rfl⟩
          replace H : (if 0 ≤ (ji10) then (if (ji10) < (l0_0.length : Int) then (impl_partsFrom.l0 k1 a1 a2 (wrap64 (x7_1 + (rd l0_0 (ji10)))) (wrap64 (x8_1 + 1)) l0_0) else (none)) else (none)) = some r := by first | (rw [hji10] at H; exact H) | (simp only [hji10] at H ⊢; exact H)
          by_cases c11 : 0 ≤ (ji10)
          · rw [if_pos c11] at H
            have c11b0 : decide (0 ≤ (ji10)) = true := decide_eq_true c11
            clear c11
            by_cases c12 : (ji10) < (l0_0.length : Int)
            · rw [if_pos c12] at H
              have c12b0 : decide ((ji10) < (l0_0.length : Int)) = true := decide_eq_true c12
              clear c12
              have H' := Aside0.mk H
              clear H
              have hcz13_0 : wr.cell? ⟨gb243, 0, none⟩ = some (.slice A0_0 l0_0.length c0_0) := (blk_cell BK243.out 0).trans rfl
              have hfz13_0 := blk_frozen BK243.out 0
              have p245 : 0 ≤ ((ji10) : Int) := of_decide_eq_true (by first | (with_reducible assumption) | assumption)
              have q245 : (ji10) < (l0_0.length : Int) := of_decide_eq_true (by first | (with_reducible assumption) | assumption)
              obtain ⟨ad245, e245, hx245_0⟩ := Kd.at_int HR0_0.out (ji10) p245 q245
              cases e245
              replace hx245_0 := (HB.out.cell (World.block_lt_of_cell? w _ hx245_0)).trans hx245_0
              replace p245 := eq_true p245
              replace q245 := eq_true q245
              go_wp2
              go_roundg k1
              case measure => have := HK1.out; omega
              case rel => exact ⟨(wrap64 (x7_1 + (rd l0_0 (ji10)))), (wrap64 (x8_1 + 1)), (by first | rfl | (simp; done) | (simp only [← hji10] <;> (first | rfl | simp)) | (simp [*]; done)), (by first | rfl | (simp; done) | (simp [*]; done)), H', ⟨by have := HK1.out; omega⟩, ⟨by (with_reducible repeat (first | refine blk_drewN ?_ _ | refine blk_drew ?_ | refine blk_alloc ?_ _)); exact BK243.out⟩, ⟨by repeat (first | (with_reducible first | exact HB.out | apply below_alloc | apply pw_below_drewN | apply below_drew1 | refine below_set ?_ GE243.out) | exact HB.out)⟩⟩
            · rw [if_neg c12] at H
              exact absurd H (by simp)
          · rw [if_neg c11] at H
            exact absurd H (by simp)
        · rw [if_neg c9] at H
          have c9b0 : decide (x8_1 < a2) = false := decide_eq_false c9
          clear c9
          obtain rfl := Option.some.inj H
          go_wp2
          go_ret
          exact ⟨by first | rfl | (simp [errW_none, errW_some] <;> rfl) | (simp [*, errW_none, errW_some] <;> rfl), by repeat (first | (with_reducible first | exact HB.out | apply below_alloc | apply pw_below_drewN | apply below_drew1 | refine below_set ?_ GE243.out) | exact HB.out)⟩
  · replace c5 := Bool.eq_false_iff.mpr c5
    subst c5
    have H1 : (some 0) = some r := by rw [if_neg (show ¬ (false = true) by decide)] at H; exact H
    clear H
    have H := H1
    clear H1
    obtain rfl := Option.some.inj H
    go_enter Try.func73, Try.ntmps73
    go_wp2_with (first | ((with_reducible refine gate_dst (N := 3) rfl ?_); refine box_event ?hg (N := 3) ?hd (cs := #[.slice A0_0 l0_0.length c0_0]) (t := 29) ?hr ?_; (case hd => rfl); (case hg => rfl); (case hr => first | (go_simp; done) | (go_simp; rfl)); intro gb243 hg w14 hbox hb; have n0_ := Aside0.mk (below_step (by repeat (first | (with_reducible first | exact HB.out | apply below_alloc | apply pw_below_drewN | apply below_drew1) | exact HB.out)) hb); have n1_ := Aside0.mk (hbox); have n2_ := Aside0.mk ((by rw [hg]; exact (below_size (by repeat (first | (with_reducible first | exact HB.out | apply below_alloc | apply pw_below_drewN | apply below_drew1) | exact HB.out))) : w.heap.size ≤ gb243)); have n3_ := Aside0.mk ((by rw [hg]; exact (below_size (by repeat (first | (with_reducible first | exact HB.out | apply below_alloc | apply pw_below_drewN | apply below_drew1) | exact HB.out))) : w.heap.size ≤ gb243)); clear HB; have HB := n0_; have BK243 := n1_; have GW243 := n2_; have GE243 := n3_; clear n0_ n1_ n2_ n3_; clear hb hbox hg; have hcz15_0 : w14.cell? ⟨gb243, 0, none⟩ = some (.slice A0_0 l0_0.length c0_0) := (blk_cell BK243.out 0).trans rfl; have hfz15_0 := blk_frozen BK243.out 0) | ((with_reducible refine gate_callee (f := 75) rfl ?_); refine goesL_ (some 11) rfl rfl Try.func75 (by kernel_rfl) rfl #[.agg #[.slice A0_0 l0_0.length c0_0], .int .i64 a1] rfl (by (try simp only [List.map_toArray, List.map_cons, List.map_nil]); first | done | rfl | (simp only [List.length_drop, List.length_take]; rfl)) ?_; (with_reducible refine (impl_isKey.calls k _ _ l0_0 a1 false _ ?side1 ?side2 A4.out).mono ?_); (case side1 => repeat (first | exact (Kd.C_below HR0_0.out HB.out) | (with_reducible refine Kd.C_alloc ?_ _) | (with_reducible refine Kd.C_drewN ?_ _) | (with_reducible refine Kd.C_drew ?_))); (case side2 => exact HC0_0.out); rintro e w16 ⟨rfl, hb⟩; refine ⟨_, rfl, ?_⟩; have n0_ := Aside0.mk (blk_below (g := gb243) (o := .cells #[.slice A0_0 l0_0.length c0_0] 29 (0, 0)) (by (with_reducible repeat (first | refine blk_drewN ?_ _ | refine blk_drew ?_ | refine blk_alloc ?_ _)); exact BK243.out) hb); have n1_ := Aside0.mk (below_step (by repeat (first | (with_reducible first | exact HB.out | apply below_alloc | apply pw_below_drewN | apply below_drew1 | refine below_set ?_ GE243.out) | exact HB.out)) hb); clear BK243; clear HB; have BK243 := n0_; have HB := n1_; clear n0_ n1_; (try clear hb); (try clear hb2); (try clear hk); (try clear hi)))
    go_ret
    exact ⟨by first | rfl | (simp [errW_none, errW_some] <;> rfl) | (simp [*, errW_none, errW_some] <;> rfl), by repeat (first | (with_reducible first | exact HB.out | apply below_alloc | apply pw_below_drewN | apply below_drew1 | refine below_set ?_ GE243.out) | exact HB.out)⟩

/-! ### impl_ThirdParts: function 58 -/
def impl_ThirdParts.f (k : Nat) (l0_0 : List Int) (a1 : Int) : Option (Int) := (impl_partsFrom.f k l0_0 a1 4).bind fun t247 => (some t247)
theorem impl_ThirdParts.mono : ∀ a0 a1 k, LeO (impl_ThirdParts.f k a0 a1) (impl_ThirdParts.f (k + 1) a0 a1) := by
  intro a0 a1 k
  unfold impl_ThirdParts.f
  repeat' first
      | (with_reducible exact impl_partsFrom.mono _ _ _ _)
      | (with_reducible exact LeO.refl _)
      | (with_reducible exact LeO.none _)
      | (with_reducible refine LeO.ite ?_ ?_)
      | (with_reducible refine LeO.bind ?_ (fun _ => ?_))
      | exact impl_partsFrom.mono _ _ _ _
      | exact LeO.none _
      | refine LeO.ite ?_ ?_
      | refine LeO.bind ?_ (fun _ => ?_)
set_option maxHeartbeats 8000000 in
set_option maxRecDepth 100000 in
theorem impl_ThirdParts.calls (k : Nat) (A0_0 : Option Addr) (c0_0 : Nat) (l0_0 : List Int) (a1 : Int) (r : Int) (w : World) (hr0_0 : Kd.C (Kd.int .i64) w A0_0 l0_0.length l0_0) (hc0_0 : l0_0.length ≤ c0_0) (h : impl_ThirdParts.f k l0_0 a1 = some r) :
    Calls Try.prog 58 #[.agg #[.slice A0_0 l0_0.length c0_0], .int .i64 a1] w fun e w' => e = .returned (.int .i64 r) ∧ Below w.heap.size w w' := by
  have hu29 := Try.underlying29
  have HR0_0 := Aside0.mk hr0_0
  have HC0_0 := Aside0.mk hc0_0
  clear hr0_0 hc0_0
  have HB := Aside0.mk (Below.refl w.heap.size w)
  have H : ((impl_partsFrom.f k l0_0 a1 4).bind fun t247 => (some t247)) = some r := h
  clear h
  replace H := Option.bind_eq_some_iff.mp H
  obtain ⟨t247, A30, H⟩ := H
  replace H : (some t247) = some r := H
  have A3 := Aside0.mk A30
  clear A30
  obtain rfl := Option.some.inj H
  go_enter Try.func58, Try.ntmps58
  go_wp2_with (first | ((with_reducible refine gate_dst (N := 2) rfl ?_); refine box_event ?hg (N := 2) ?hd (cs := #[.slice A0_0 l0_0.length c0_0]) (t := 29) ?hr ?_; (case hd => rfl); (case hg => rfl); (case hr => first | (go_simp; done) | (go_simp; rfl)); intro gb246 hg w4 hbox hb; have n0_ := Aside0.mk (below_step (by repeat (first | (with_reducible first | exact HB.out | apply below_alloc | apply pw_below_drewN | apply below_drew1) | exact HB.out)) hb); have n1_ := Aside0.mk (hbox); have n2_ := Aside0.mk ((by rw [hg]; exact (below_size (by repeat (first | (with_reducible first | exact HB.out | apply below_alloc | apply pw_below_drewN | apply below_drew1) | exact HB.out))) : w.heap.size ≤ gb246)); have n3_ := Aside0.mk ((by rw [hg]; exact (below_size (by repeat (first | (with_reducible first | exact HB.out | apply below_alloc | apply pw_below_drewN | apply below_drew1) | exact HB.out))) : w.heap.size ≤ gb246)); clear HB; have HB := n0_; have BK246 := n1_; have GW246 := n2_; have GE246 := n3_; clear n0_ n1_ n2_ n3_; clear hb hbox hg; have hcz5_0 : w4.cell? ⟨gb246, 0, none⟩ = some (.slice A0_0 l0_0.length c0_0) := (blk_cell BK246.out 0).trans rfl; have hfz5_0 := blk_frozen BK246.out 0) | ((with_reducible refine gate_callee (f := 73) rfl ?_); refine goesL_ (some 7) rfl rfl Try.func73 (by kernel_rfl) rfl #[.agg #[.slice A0_0 l0_0.length c0_0], .int .i64 a1, .int .i64 4] rfl (by (try simp only [List.map_toArray, List.map_cons, List.map_nil]); first | done | rfl | (simp only [List.length_drop, List.length_take]; rfl)) ?_; (with_reducible refine (impl_partsFrom.calls k _ _ l0_0 a1 4 t247 _ ?side1 ?side2 A3.out).mono ?_); (case side1 => repeat (first | exact (Kd.C_below HR0_0.out HB.out) | (with_reducible refine Kd.C_alloc ?_ _) | (with_reducible refine Kd.C_drewN ?_ _) | (with_reducible refine Kd.C_drew ?_))); (case side2 => exact HC0_0.out); rintro e w6 ⟨rfl, hb⟩; refine ⟨_, rfl, ?_⟩; have n0_ := Aside0.mk (blk_below (g := gb246) (o := .cells #[.slice A0_0 l0_0.length c0_0] 29 (0, 0)) (by (with_reducible repeat (first | refine blk_drewN ?_ _ | refine blk_drew ?_ | refine blk_alloc ?_ _)); exact BK246.out) hb); have n1_ := Aside0.mk (below_step (by repeat (first | (with_reducible first | exact HB.out | apply below_alloc | apply pw_below_drewN | apply below_drew1 | refine below_set ?_ GE246.out) | exact HB.out)) hb); clear BK246; clear HB; have BK246 := n0_; have HB := n1_; clear n0_ n1_; (try clear hb); (try clear hb2); (try clear hk); (try clear hi)))
  go_ret
  exact ⟨by first | rfl | (simp [errW_none, errW_some] <;> rfl) | (simp [*, errW_none, errW_some] <;> rfl), by repeat (first | (with_reducible first | exact HB.out | apply below_alloc | apply pw_below_drewN | apply below_drew1 | refine below_set ?_ GE246.out) | exact HB.out)⟩

/-! ### impl_ThirdsOf: function 25 -/
def impl_ThirdsOf.l0 : Nat → List Int → Int → List Int → Option (List Int)
  | 0, _, _, _ => none
  | k + 1, x3, x4, x249000 => if x4 < 12 then ((impl_ThirdParts.f k x249000 x4).bind fun t253 => (if x3.length < 17592186044416 then (impl_ThirdsOf.l0 k (x3 ++ [t253]) (wrap64 (x4 + 1)) x249000) else (none))) else (some x3)
def impl_ThirdsOf.f (k : Nat) (l0_0 : List Int) : Option (List Int) := (impl_CircleOk.f k l0_0).bind fun t249 => (if t249 = true then (impl_ThirdsOf.l0 k (([] : List Int)) 0 l0_0) else (some ([] : List Int)))
theorem impl_ThirdsOf.mono_l : ∀ k, (∀ y0 y1 y2, LeO (impl_ThirdsOf.l0 k y0 y1 y2) (impl_ThirdsOf.l0 (k + 1) y0 y1 y2))
  | 0 => fun _ _ _ r h => by simp [impl_ThirdsOf.l0] at h
  | k + 1 => by
    have ih0 := impl_ThirdsOf.mono_l k
    · intro y0 y1 y2
      unfold impl_ThirdsOf.l0
      repeat' first
      | (with_reducible exact ih0 _ _ _)
      | (with_reducible exact impl_CircleOk.mono _ _)
      | (with_reducible exact impl_ThirdParts.mono _ _ _)
      | (with_reducible exact LeO.refl _)
      | (with_reducible exact LeO.none _)
      | (with_reducible refine LeO.ite ?_ ?_)
      | (with_reducible refine LeO.bind ?_ (fun _ => ?_))
      | exact ih0 _ _ _
      | exact impl_CircleOk.mono _ _
      | exact impl_ThirdParts.mono _ _ _
      | exact LeO.none _
      | refine LeO.ite ?_ ?_
      | refine LeO.bind ?_ (fun _ => ?_)
theorem impl_ThirdsOf.mono : ∀ a0 k, LeO (impl_ThirdsOf.f k a0) (impl_ThirdsOf.f (k + 1) a0) := by
  intro a0 k
  have ih0 := impl_ThirdsOf.mono_l k
  unfold impl_ThirdsOf.f
  repeat' first
      | (with_reducible exact ih0 _ _ _)
      | (with_reducible exact impl_CircleOk.mono _ _)
      | (with_reducible exact impl_ThirdParts.mono _ _ _)
      | (with_reducible exact LeO.refl _)
      | (with_reducible exact LeO.none _)
      | (with_reducible refine LeO.ite ?_ ?_)
      | (with_reducible refine LeO.bind ?_ (fun _ => ?_))
      | exact ih0 _ _ _
      | exact impl_CircleOk.mono _ _
      | exact impl_ThirdParts.mono _ _ _
      | exact LeO.none _
      | refine LeO.ite ?_ ?_
      | refine LeO.bind ?_ (fun _ => ?_)
set_option maxHeartbeats 8000000 in
set_option maxRecDepth 100000 in
theorem impl_ThirdsOf.calls (k : Nat) (A0_0 : Option Addr) (c0_0 : Nat) (l0_0 : List Int) (r : List Int) (w : World) (hr0_0 : Kd.C (Kd.int .i64) w A0_0 l0_0.length l0_0) (hc0_0 : l0_0.length ≤ c0_0) (h : impl_ThirdsOf.f k l0_0 = some r) :
    Calls Try.prog 25 #[.agg #[.slice A0_0 l0_0.length c0_0]] w fun e w' => ∃ v0_ : Value, e = .returned (v0_) ∧ Kd.R (Kd.int .i64) 3 w' w.heap.size (fun _ => True) v0_ r ∧ Below w.heap.size w w' := by
  have hu29 := Try.underlying29
  have HR0_0 := Aside0.mk hr0_0
  have HC0_0 := Aside0.mk hc0_0
  clear hr0_0 hc0_0
  have HB := Aside0.mk (Below.refl w.heap.size w)
  have H : ((impl_CircleOk.f k l0_0).bind fun t249 => (if t249 = true then (impl_ThirdsOf.l0 k (([] : List Int)) 0 l0_0) else (some ([] : List Int)))) = some r := h
  clear h
  replace H := Option.bind_eq_some_iff.mp H
  obtain ⟨t249, A20, H⟩ := H
  replace H : (if t249 = true then (impl_ThirdsOf.l0 k (([] : List Int)) 0 l0_0) else (some ([] : List Int))) = some r := H
  have A2 := Aside0.mk A20
  clear A20
  by_cases c3 : t249 = true
  · subst c3
    have H1 : (impl_ThirdsOf.l0 k (([] : List Int)) 0 l0_0) = some r := by rw [if_pos rfl] at H; exact H
    clear H
    have H := H1
    clear H1
    obtain ⟨y250, hy250⟩ : ∃ y_ : List Int, y_ = (([] : List Int)) := ⟨_, rfl⟩
    replace H : (impl_ThirdsOf.l0 k y250 0 l0_0) = some r := by first | (rw [hy250]; with_reducible exact H) | (have H2_ := (Option.bind_some _ _).symm.trans H; rw [hy250]; with_reducible exact H2_) | (have H2_ := (Option.bind_some _ _).symm.trans H; with_reducible exact H2_) | with_reducible exact H | (rw [hy250]; exact H) | exact H
    have Ny250 := Aside0.mk hy250
    clear hy250
    have H' := Aside0.mk H
    clear H
    go_enter Try.func25, Try.ntmps25
    go_wp2_with (first | ((with_reducible refine gate_dst (N := 1) rfl ?_); refine box_event ?hg (N := 1) ?hd (cs := #[.slice A0_0 l0_0.length c0_0]) (t := 29) ?hr ?_; (case hd => rfl); (case hg => rfl); (case hr => first | (go_simp; done) | (go_simp; rfl)); intro gb248 hg w4 hbox hb; have n0_ := Aside0.mk (below_step (by repeat (first | (with_reducible first | exact HB.out | apply below_alloc | apply pw_below_drewN | apply below_drew1) | exact HB.out)) hb); have n1_ := Aside0.mk (hbox); have n2_ := Aside0.mk ((by rw [hg]; exact (below_size (by repeat (first | (with_reducible first | exact HB.out | apply below_alloc | apply pw_below_drewN | apply below_drew1) | exact HB.out))) : w.heap.size ≤ gb248)); have n3_ := Aside0.mk ((by rw [hg]; exact (below_size (by repeat (first | (with_reducible first | exact HB.out | apply below_alloc | apply pw_below_drewN | apply below_drew1) | exact HB.out))) : w.heap.size ≤ gb248)); clear HB; have HB := n0_; have BK248 := n1_; have GW248 := n2_; have GE248 := n3_; clear n0_ n1_ n2_ n3_; clear hb hbox hg; have hcz5_0 : w4.cell? ⟨gb248, 0, none⟩ = some (.slice A0_0 l0_0.length c0_0) := (blk_cell BK248.out 0).trans rfl; have hfz5_0 := blk_frozen BK248.out 0) | ((with_reducible refine gate_callee (f := 15) rfl ?_); refine goesL_ (some 6) rfl rfl Try.func15 (by kernel_rfl) rfl #[.agg #[.slice A0_0 l0_0.length c0_0]] rfl (by (try simp only [List.map_toArray, List.map_cons, List.map_nil]); first | done | rfl | (simp only [List.length_drop, List.length_take]; rfl)) ?_; (with_reducible refine (impl_CircleOk.calls k _ _ l0_0 true _ ?side1 ?side2 A2.out).mono ?_); (case side1 => repeat (first | exact (Kd.C_below HR0_0.out HB.out) | (with_reducible refine Kd.C_alloc ?_ _) | (with_reducible refine Kd.C_drewN ?_ _) | (with_reducible refine Kd.C_drew ?_))); (case side2 => exact HC0_0.out); rintro e w6 ⟨rfl, hb⟩; refine ⟨_, rfl, ?_⟩; have n0_ := Aside0.mk (blk_below (g := gb248) (o := .cells #[.slice A0_0 l0_0.length c0_0] 29 (0, 0)) (by (with_reducible repeat (first | refine blk_drewN ?_ _ | refine blk_drew ?_ | refine blk_alloc ?_ _)); exact BK248.out) hb); have n1_ := Aside0.mk (below_step (by repeat (first | (with_reducible first | exact HB.out | apply below_alloc | apply pw_below_drewN | apply below_drew1 | refine below_set ?_ GE248.out) | exact HB.out)) hb); clear BK248; clear HB; have BK248 := n0_; have HB := n1_; clear n0_ n1_; (try clear hb); (try clear hb2); (try clear hk); (try clear hi)) | ((with_reducible refine gate_dst (N := 8) rfl ?_); refine Kd.R_lit (Kd.int .i64) _ 3 ?hg (N := 8) ?hd (xs := ([] : List Int)) (inner := []) (ok := fun _ => True) (okp := fun _ => True) ?hr ?hp (fun _ hk => hk) trivial (Below.refl _ _) (Nat.le_refl _) (by simp) ?_; (case hd => rfl); (case hg => rfl); (case hr => first | (go_simp; done) | (go_simp; rfl)); (case hp => exact (Reps.none _ _)); intro v251 w7 ho8 hb hg_ hnew_; clear hg_ hnew_; (first | rw [← Ny250.out] at ho8 | (simp only [Int.reduceToNat] at ho8; rw [← Ny250.out] at ho8)); have n0_ := Aside0.mk (Kd.R_lower ho8 (below_size (by repeat (first | (with_reducible first | exact HB.out | apply below_alloc | apply pw_below_drewN | apply below_drew1 | refine below_set ?_ GE248.out) | exact HB.out)))); have n1_ := Aside0.mk (blk_below (g := gb248) (o := .cells #[.slice A0_0 l0_0.length c0_0] 29 (0, 0)) (by (with_reducible repeat (first | refine blk_drewN ?_ _ | refine blk_drew ?_ | refine blk_alloc ?_ _)); exact BK248.out) hb); have n2_ := Aside0.mk (below_step (by repeat (first | (with_reducible first | exact HB.out | apply below_alloc | apply pw_below_drewN | apply below_drew1 | refine below_set ?_ GE248.out) | exact HB.out)) hb); clear BK248; clear HB; have HO252 := n0_; have BK248 := n1_; have HB := n2_; clear n0_ n1_ n2_; clear hb ho8))
    go_loopg [3, 4] k (fun kq v3 v4 w' => ∃ (x3_1 : List Int) (x4_1 : Int), v4 = .int .i64 x4_1 ∧ Aside0 (impl_ThirdsOf.l0 kq x3_1 x4_1 l0_0 = some r) ∧ Aside0 (kq ≤ k) ∧ Aside0 (Kd.R (Kd.int .i64) 3 w' w.heap.size (fun _ => True) v3 x3_1) ∧ Aside0 (w'.heap[gb248]? = some (.cells #[(.slice A0_0 l0_0.length c0_0)] 29 (0, 0))) ∧ Aside0 (Below w.heap.size w w'))
    case atStart => exact ⟨(y250), (0), (by first | rfl | (simp; done) | (simp [*]; done)), H', ⟨Nat.le_refl _⟩, ⟨by (with_reducible repeat (first | apply Kd.R_alloc | apply Kd.R_drewN | apply Kd.R_drew)); exact HO252.out⟩, ⟨by (with_reducible repeat (first | refine blk_drewN ?_ _ | refine blk_drew ?_ | refine blk_alloc ?_ _)); exact BK248.out⟩, ⟨by repeat (first | (with_reducible first | exact HB.out | apply below_alloc | apply pw_below_drewN | apply below_drew1 | refine below_set ?_ GE248.out) | exact HB.out)⟩⟩
    case round =>
      clear H'
      try clear c1
      try clear c2
      try clear p2
      try clear c3
      try clear hcz5_0
      try clear hfz5_0
      obtain ⟨x3_1, x4_1, rfl, HA, HK1, HO_3, BK248, HB⟩ := hrel
      cases gk with
      | zero => exact absurd HA.out (by simp [impl_ThirdsOf.l0])
      | succ k1 =>
        have H := HA.out
        clear HA
        simp only [impl_ThirdsOf.l0] at H
        by_cases c9 : x4_1 < 12
        · rw [if_pos c9] at H
          have c9b0 : decide (x4_1 < 12) = true := decide_eq_true c9
          clear c9
          replace H := Option.bind_eq_some_iff.mp H
          obtain ⟨t253, A100, H⟩ := H
          replace H : (if x3_1.length < 17592186044416 then (impl_ThirdsOf.l0 k1 (x3_1 ++ [t253]) (wrap64 (x4_1 + 1)) l0_0) else (none)) = some r := H
          have A10 := Aside0.mk A100
          clear A100
          by_cases c11 : x3_1.length < 17592186044416
          · rw [if_pos c11] at H
            have LMc11 := Aside0.mk c11
            clear c11
            obtain ⟨y254, hy254⟩ : ∃ y_ : List Int, y_ = (x3_1 ++ [t253]) := ⟨_, rfl⟩
            replace H : (impl_ThirdsOf.l0 k1 y254 (wrap64 (x4_1 + 1)) l0_0) = some r := by first | (rw [hy254]; with_reducible exact H) | (have H2_ := (Option.bind_some _ _).symm.trans H; rw [hy254]; with_reducible exact H2_) | (have H2_ := (Option.bind_some _ _).symm.trans H; with_reducible exact H2_) | with_reducible exact H | (rw [hy254]; exact H) | exact H
            have Ny254 := Aside0.mk hy254
            clear hy254
            have H' := Aside0.mk H
            clear H
            have hcz12_0 : wr.cell? ⟨gb248, 0, none⟩ = some (.slice A0_0 l0_0.length c0_0) := (blk_cell BK248.out 0).trans rfl
            have hfz12_0 := blk_frozen BK248.out 0
            go_wp2_with (first | ((with_reducible refine gate_callee (f := 58) rfl ?_); refine goesL_ (some 16) rfl rfl Try.func58 (by kernel_rfl) rfl #[.agg #[.slice A0_0 l0_0.length c0_0], .int .i64 x4_1] rfl (by (try simp only [List.map_toArray, List.map_cons, List.map_nil]); first | done | rfl | (simp only [List.length_drop, List.length_take]; rfl)) ?_; (with_reducible refine (impl_ThirdParts.calls k1 _ _ l0_0 x4_1 t253 _ ?side1 ?side2 A10.out).mono ?_); (case side1 => repeat (first | exact (Kd.C_below HR0_0.out HB.out) | (with_reducible refine Kd.C_alloc ?_ _) | (with_reducible refine Kd.C_drewN ?_ _) | (with_reducible refine Kd.C_drew ?_))); (case side2 => exact HC0_0.out); rintro e w13 ⟨rfl, hb⟩; refine ⟨_, rfl, ?_⟩; have n0_ := Aside0.mk (Kd.R_below (by (with_reducible repeat (first | apply Kd.R_alloc | apply Kd.R_drewN | apply Kd.R_drew)); exact HO_3.out) hb); have n1_ := Aside0.mk (blk_below (g := gb248) (o := .cells #[.slice A0_0 l0_0.length c0_0] 29 (0, 0)) (by (with_reducible repeat (first | refine blk_drewN ?_ _ | refine blk_drew ?_ | refine blk_alloc ?_ _)); exact BK248.out) hb); have n2_ := Aside0.mk (below_step (by repeat (first | (with_reducible first | exact HB.out | apply below_alloc | apply pw_below_drewN | apply below_drew1 | refine below_set ?_ GE248.out) | exact HB.out)) hb); clear HO_3; clear BK248; clear HB; have HO_3 := n0_; have BK248 := n1_; have HB := n2_; clear n0_ n1_ n2_; (try clear hb); (try clear hb2); (try clear hk); (try clear hi)) | ((with_reducible refine gate_builtin (b := .append) (xs := #[.tmp 13, .tmp 17]) rfl ?_); at_builtin; refine Kd.R_append (Kd.int .i64) (w0 := w) w.heap.size rfl (.tmp 13) (.tmp 17) 24 3 (.int .i64 0) 8 rfl Try.underlying24 info3 rfl (by decide) (by omega) u3 x3_1 t253 [.int .i64 t253] (fun _ => True) (fun _ => False) rfl rfl ?aP (fun _ hk => hk.elim) ?aF ?aO ?aB ?aS ?aL ?_; (case aP => exact rfl); (case aB => exact (by repeat (first | (with_reducible first | exact HB.out | apply below_alloc | apply pw_below_drewN | apply below_drew1 | refine below_set ?_ GE248.out) | exact HB.out))); (case aF => exact (fun _ _ => trivial)); (case aO => exact (by (with_reducible repeat (first | apply Kd.R_alloc | apply Kd.R_drewN | apply Kd.R_drew)); exact HO_3.out)); (case aS => exact (below_size (by repeat (first | (with_reducible first | exact HB.out | apply below_alloc | apply pw_below_drewN | apply below_drew1 | refine below_set ?_ GE248.out) | exact HB.out)))); (case aL => have := LMc11.out; omega); intro v255 w14 ho hb hg hat; rw [← Ny254.out] at ho; have n0_ := Aside0.mk (blk_grown (g := gb248) (o := .cells #[.slice A0_0 l0_0.length c0_0] 29 (0, 0)) (by (with_reducible repeat (first | refine blk_drewN ?_ _ | refine blk_drew ?_ | refine blk_alloc ?_ _)); exact BK248.out) hg (Kd.R_ne HO_3.out BK248.out (by decide))); have n1_ := Aside0.mk (hb); have n2_ := Aside0.mk (ho); clear BK248; clear HB; clear HO_3; have BK248 := n0_; have HB := n1_; have HO256 := n2_; clear n0_ n1_ n2_; clear ho hb hg hat))
            go_roundg k1
            case measure => have := HK1.out; omega
            case rel => exact ⟨(y254), (wrap64 (x4_1 + 1)), (by first | rfl | (simp; done) | (simp [*]; done)), H', ⟨by have := HK1.out; omega⟩, ⟨by (with_reducible repeat (first | apply Kd.R_alloc | apply Kd.R_drewN | apply Kd.R_drew)); exact HO256.out⟩, ⟨by (with_reducible repeat (first | refine blk_drewN ?_ _ | refine blk_drew ?_ | refine blk_alloc ?_ _)); exact BK248.out⟩, ⟨by repeat (first | (with_reducible first | exact HB.out | apply below_alloc | apply pw_below_drewN | apply below_drew1 | refine below_set ?_ GE248.out) | exact HB.out)⟩⟩
          · rw [if_neg c11] at H
            exact absurd H (by simp)
        · rw [if_neg c9] at H
          have c9b0 : decide (x4_1 < 12) = false := decide_eq_false c9
          clear c9
          obtain rfl := Option.some.inj H
          go_wp2
          go_ret
          exact ⟨_, by first | rfl | (simp [errW_none, errW_some] <;> rfl) | (simp [*, errW_none, errW_some] <;> rfl), by (with_reducible repeat (first | apply Kd.R_alloc | apply Kd.R_drewN | apply Kd.R_drew)); exact HO_3.out, by repeat (first | (with_reducible first | exact HB.out | apply below_alloc | apply pw_below_drewN | apply below_drew1 | refine below_set ?_ GE248.out) | exact HB.out)⟩
  · replace c3 := Bool.eq_false_iff.mpr c3
    subst c3
    have H1 : (some ([] : List Int)) = some r := by rw [if_neg (show ¬ (false = true) by decide)] at H; exact H
    clear H
    have H := H1
    clear H1
    obtain rfl := Option.some.inj H
    go_enter Try.func25, Try.ntmps25
    go_wp2_with (first | ((with_reducible refine gate_dst (N := 1) rfl ?_); refine box_event ?hg (N := 1) ?hd (cs := #[.slice A0_0 l0_0.length c0_0]) (t := 29) ?hr ?_; (case hd => rfl); (case hg => rfl); (case hr => first | (go_simp; done) | (go_simp; rfl)); intro gb248 hg w15 hbox hb; have n0_ := Aside0.mk (below_step (by repeat (first | (with_reducible first | exact HB.out | apply below_alloc | apply pw_below_drewN | apply below_drew1) | exact HB.out)) hb); have n1_ := Aside0.mk (hbox); have n2_ := Aside0.mk ((by rw [hg]; exact (below_size (by repeat (first | (with_reducible first | exact HB.out | apply below_alloc | apply pw_below_drewN | apply below_drew1) | exact HB.out))) : w.heap.size ≤ gb248)); have n3_ := Aside0.mk ((by rw [hg]; exact (below_size (by repeat (first | (with_reducible first | exact HB.out | apply below_alloc | apply pw_below_drewN | apply below_drew1) | exact HB.out))) : w.heap.size ≤ gb248)); clear HB; have HB := n0_; have BK248 := n1_; have GW248 := n2_; have GE248 := n3_; clear n0_ n1_ n2_ n3_; clear hb hbox hg; have hcz16_0 : w15.cell? ⟨gb248, 0, none⟩ = some (.slice A0_0 l0_0.length c0_0) := (blk_cell BK248.out 0).trans rfl; have hfz16_0 := blk_frozen BK248.out 0) | ((with_reducible refine gate_callee (f := 15) rfl ?_); refine goesL_ (some 6) rfl rfl Try.func15 (by kernel_rfl) rfl #[.agg #[.slice A0_0 l0_0.length c0_0]] rfl (by (try simp only [List.map_toArray, List.map_cons, List.map_nil]); first | done | rfl | (simp only [List.length_drop, List.length_take]; rfl)) ?_; (with_reducible refine (impl_CircleOk.calls k _ _ l0_0 false _ ?side1 ?side2 A2.out).mono ?_); (case side1 => repeat (first | exact (Kd.C_below HR0_0.out HB.out) | (with_reducible refine Kd.C_alloc ?_ _) | (with_reducible refine Kd.C_drewN ?_ _) | (with_reducible refine Kd.C_drew ?_))); (case side2 => exact HC0_0.out); rintro e w17 ⟨rfl, hb⟩; refine ⟨_, rfl, ?_⟩; have n0_ := Aside0.mk (blk_below (g := gb248) (o := .cells #[.slice A0_0 l0_0.length c0_0] 29 (0, 0)) (by (with_reducible repeat (first | refine blk_drewN ?_ _ | refine blk_drew ?_ | refine blk_alloc ?_ _)); exact BK248.out) hb); have n1_ := Aside0.mk (below_step (by repeat (first | (with_reducible first | exact HB.out | apply below_alloc | apply pw_below_drewN | apply below_drew1 | refine below_set ?_ GE248.out) | exact HB.out)) hb); clear BK248; clear HB; have BK248 := n0_; have HB := n1_; clear n0_ n1_; (try clear hb); (try clear hb2); (try clear hk); (try clear hi)))
    go_ret
    exact ⟨_, by first | rfl | (simp [errW_none, errW_some] <;> rfl) | (simp [*, errW_none, errW_some] <;> rfl), by first | exact Kd.R_nil _ _ _ _ _ | exact Kd.N_nil _ _ _ _ _ | exact Kd.V_nil _ _ _ _ _ | exact Kd.Q_nil _ _ _ _ _ | exact Kd.S_nil _ _ _ _ _, by repeat (first | (with_reducible first | exact HB.out | apply below_alloc | apply pw_below_drewN | apply below_drew1 | refine below_set ?_ GE248.out) | exact HB.out)⟩

/-! ### spec_l15Same: function 66 -/
def spec_l15Same.l0 : Nat → List Int → List Int → Int → Option (Bool)
  | 0, _, _, _ => none
  | k + 1, x0, x1, x5 => if x5 < (x0.length : Int) then (if 0 ≤ x5 then (if x5 < (x1.length : Int) then (if (rd x0 x5) = (rd x1 x5) then (spec_l15Same.l0 k x0 x1 (wrap64 (x5 + 1))) else (some false)) else (none)) else (none)) else (some true)
def spec_l15Same.f (k : Nat) (l0 : List Int) (l1 : List Int) : Option (Bool) := if (l0.length : Int) = (l1.length : Int) then (spec_l15Same.l0 k l0 l1 0) else (some false)
theorem spec_l15Same.mono_l : ∀ k, (∀ y0 y1 y2, LeO (spec_l15Same.l0 k y0 y1 y2) (spec_l15Same.l0 (k + 1) y0 y1 y2))
  | 0 => fun _ _ _ r h => by simp [spec_l15Same.l0] at h
  | k + 1 => by
    have ih0 := spec_l15Same.mono_l k
    · intro y0 y1 y2
      unfold spec_l15Same.l0
      repeat' first
      | (with_reducible exact ih0 _ _ _)
      | (with_reducible exact LeO.refl _)
      | (with_reducible exact LeO.none _)
      | (with_reducible refine LeO.ite ?_ ?_)
      | (with_reducible refine LeO.bind ?_ (fun _ => ?_))
      | exact ih0 _ _ _
      | exact LeO.none _
      | refine LeO.ite ?_ ?_
      | refine LeO.bind ?_ (fun _ => ?_)
theorem spec_l15Same.mono : ∀ a0 a1 k, LeO (spec_l15Same.f k a0 a1) (spec_l15Same.f (k + 1) a0 a1) := by
  intro a0 a1 k
  have ih0 := spec_l15Same.mono_l k
  unfold spec_l15Same.f
  repeat' first
      | (with_reducible exact ih0 _ _ _)
      | (with_reducible exact LeO.refl _)
      | (with_reducible exact LeO.none _)
      | (with_reducible refine LeO.ite ?_ ?_)
      | (with_reducible refine LeO.bind ?_ (fun _ => ?_))
      | exact ih0 _ _ _
      | exact LeO.none _
      | refine LeO.ite ?_ ?_
      | refine LeO.bind ?_ (fun _ => ?_)
set_option maxHeartbeats 8000000 in
set_option maxRecDepth 100000 in
theorem spec_l15Same.calls (k : Nat) (A0 : Option Addr) (c0 : Nat) (l0 : List Int) (A1 : Option Addr) (c1 : Nat) (l1 : List Int) (r : Bool) (w : World) (hr0 : Kd.C (Kd.int .i64) w A0 l0.length l0) (hc0 : l0.length ≤ c0) (hr1 : Kd.C (Kd.int .i64) w A1 l1.length l1) (hc1 : l1.length ≤ c1) (h : spec_l15Same.f k l0 l1 = some r) :
    Calls Try.prog 66 #[.slice A0 l0.length c0, .slice A1 l1.length c1] w fun e w' => e = .returned (.bool r) ∧ Drawn0 w w' := by
  have HR0 := Aside0.mk hr0
  have HC0 := Aside0.mk hc0
  clear hr0 hc0
  have HR1 := Aside0.mk hr1
  have HC1 := Aside0.mk hc1
  clear hr1 hc1
  have H : (if (l0.length : Int) = (l1.length : Int) then (spec_l15Same.l0 k l0 l1 0) else (some false)) = some r := h
  clear h
  by_cases c3 : (l0.length : Int) = (l1.length : Int)
  · rw [if_pos c3] at H
    have c3b0 : ((l0.length : Int) == (l1.length : Int)) = true := beq_iff_eq.mpr c3
    have c3b1 : ((l0.length : Int) != (l1.length : Int)) = false := bne_eq_false_iff_eq.mpr c3
    have c3b2 : (l0.length == l1.length) = true := by first | simpa using c3 | (simp at c3 ⊢; omega)
    clear c3
    have H' := Aside0.mk H
    clear H
    go_enter Try.func66, Try.ntmps66
    go_wp2
    repeat (go_quiet (fail); try go_wp2)
    go_loopg [5] k (fun kq v5 w' => ∃ (x5_1 : Int), v5 = .int .i64 x5_1 ∧ Aside0 (spec_l15Same.l0 kq l0 l1 x5_1 = some r) ∧ Aside0 (kq ≤ k) ∧ Drawn0 w w')
    case atStart => exact ⟨(0), (by first | rfl | (simp; done) | (simp [*]; done)), H', ⟨Nat.le_refl _⟩, by repeat (first | exact Drawn0.refl _ | apply Drawn0.step)⟩
    case round =>
      clear H'
      try clear c1
      try clear p2
      try clear c3
      try clear c3b0
      try clear c3b1
      try clear c3b2
      obtain ⟨x5_1, rfl, HA, HK1, ⟨m1, rfl⟩⟩ := hrel
      cases gk with
      | zero => exact absurd HA.out (by simp [spec_l15Same.l0])
      | succ k1 =>
        have H := HA.out
        clear HA
        simp only [spec_l15Same.l0] at H
        by_cases c4 : x5_1 < (l0.length : Int)
        · rw [if_pos c4] at H
          have c4b0 : decide (x5_1 < (l0.length : Int)) = true := decide_eq_true c4
          clear c4
          by_cases c5 : 0 ≤ x5_1
          · rw [if_pos c5] at H
            have c5b0 : decide (0 ≤ x5_1) = true := decide_eq_true c5
            clear c5
            by_cases c6 : x5_1 < (l1.length : Int)
            · rw [if_pos c6] at H
              have c6b0 : decide (x5_1 < (l1.length : Int)) = true := decide_eq_true c6
              clear c6
              by_cases c7 : (rd l0 x5_1) = (rd l1 x5_1)
              · rw [if_pos c7] at H
                have c7b0 : ((rd l0 x5_1) == (rd l1 x5_1)) = true := beq_iff_eq.mpr c7
                have c7b1 : ((rd l0 x5_1) != (rd l1 x5_1)) = false := bne_eq_false_iff_eq.mpr c7
                clear c7
                have H' := Aside0.mk H
                clear H
                have p257 : 0 ≤ (x5_1 : Int) := of_decide_eq_true (by first | (with_reducible assumption) | assumption)
                have q257 : x5_1 < (l0.length : Int) := of_decide_eq_true (by first | (with_reducible assumption) | assumption)
                obtain ⟨ad257, e257, hx257_0⟩ := Kd.at_int HR0.out x5_1 p257 q257
                cases e257
                replace p257 := eq_true p257
                replace q257 := eq_true q257
                have p258 : 0 ≤ (x5_1 : Int) := of_decide_eq_true (by first | (with_reducible assumption) | assumption)
                have q258 : x5_1 < (l1.length : Int) := of_decide_eq_true (by first | (with_reducible assumption) | assumption)
                obtain ⟨ad258, e258, hx258_0⟩ := Kd.at_int HR1.out x5_1 p258 q258
                cases e258
                replace p258 := eq_true p258
                replace q258 := eq_true q258
                go_wp2
                repeat (go_quiet (fail); try go_wp2)
                go_roundg k1
                case measure => have := HK1.out; omega
                case rel => exact ⟨(wrap64 (x5_1 + 1)), (by first | rfl | (simp; done) | (simp [*]; done)), H', ⟨by have := HK1.out; omega⟩, by repeat (first | exact Drawn0.refl _ | apply Drawn0.step)⟩
              · rw [if_neg c7] at H
                have c7b0 : ((rd l0 x5_1) == (rd l1 x5_1)) = false := beq_eq_false_iff_ne.mpr c7
                have c7b1 : ((rd l0 x5_1) != (rd l1 x5_1)) = true := bne_iff_ne.mpr c7
                obtain rfl := Option.some.inj H
                have p257 : 0 ≤ (x5_1 : Int) := of_decide_eq_true (by first | (with_reducible assumption) | assumption)
                have q257 : x5_1 < (l0.length : Int) := of_decide_eq_true (by first | (with_reducible assumption) | assumption)
                obtain ⟨ad257, e257, hx257_0⟩ := Kd.at_int HR0.out x5_1 p257 q257
                cases e257
                replace p257 := eq_true p257
                replace q257 := eq_true q257
                have p258 : 0 ≤ (x5_1 : Int) := of_decide_eq_true (by first | (with_reducible assumption) | assumption)
                have q258 : x5_1 < (l1.length : Int) := of_decide_eq_true (by first | (with_reducible assumption) | assumption)
                obtain ⟨ad258, e258, hx258_0⟩ := Kd.at_int HR1.out x5_1 p258 q258
                cases e258
                replace p258 := eq_true p258
                replace q258 := eq_true q258
                go_wp2
                repeat (go_quiet (fail); try go_wp2)
                go_ret
                exact ⟨by first | rfl | (simp; done) | (simp [*]; done), by repeat (first | exact Drawn0.refl _ | apply Drawn0.step)⟩
            · rw [if_neg c6] at H
              exact absurd H (by simp)
          · rw [if_neg c5] at H
            exact absurd H (by simp)
        · rw [if_neg c4] at H
          have c4b0 : decide (x5_1 < (l0.length : Int)) = false := decide_eq_false c4
          clear c4
          obtain rfl := Option.some.inj H
          go_wp2
          repeat (go_quiet (fail); try go_wp2)
          go_ret
          exact ⟨by first | rfl | (simp; done) | (simp [*]; done), by repeat (first | exact Drawn0.refl _ | apply Drawn0.step)⟩
  · rw [if_neg c3] at H
    have c3b0 : ((l0.length : Int) == (l1.length : Int)) = false := beq_eq_false_iff_ne.mpr c3
    have c3b1 : ((l0.length : Int) != (l1.length : Int)) = true := bne_iff_ne.mpr c3
    have c3b2 : (l0.length == l1.length) = false := by first | simpa using c3 | (simp at c3 ⊢; omega)
    obtain rfl := Option.some.inj H
    go_enter Try.func66, Try.ntmps66
    go_wp2
    repeat (go_quiet (fail); try go_wp2)
    go_ret
    exact ⟨by first | rfl | (simp; done) | (simp [*]; done), by repeat (first | exact Drawn0.refl _ | apply Drawn0.step)⟩

/-! ### impl_CirclesHeard: function 22 (by hand) -/
def heard_same (t l1 : List Int) (n : Nat) : Bool := (List.range n).all (fun i => rd t (i : Int) == rd l1 (i : Int))
theorem heard_succ (t l1 : List Int) (n : Nat) : heard_same t l1 (n + 1) = (heard_same t l1 n && (rd t (n : Int) == rd l1 (n : Int))) := by
  unfold heard_same; rw [List.range_succ, List.all_append]; simp
def heard_l (k : Nat) (l1 : List Int) : List S29 → List S29 → Option (List S29)
  | [], out => some out
  | c :: cs, out => (impl_ThirdsOf.f k c.f0).bind fun t => if l1.length < t.length then none else if heard_same t l1 t.length = true then (if out.length < 5864062014805 then heard_l k l1 cs (out ++ [c]) else none) else heard_l k l1 cs out
def impl_CirclesHeard.f (k : Nat) (a0 : Int) (l1 : List Int) : Option (List S29) := if ¬ l1.length = 12 then some [] else (impl_FamilyOf.f k a0).bind fun fam => if 1000000 < fam.length then none else heard_l k l1 fam []
theorem heard_l.mono (l1 : List Int) (k : Nat) : ∀ cs out, LeO (heard_l k l1 cs out) (heard_l (k + 1) l1 cs out) := by
  intro cs
  induction cs with
  | nil => intro out; exact LeO.refl _
  | cons c cs ih =>
    intro out
    rw [heard_l, heard_l]
    exact LeO.bind (impl_ThirdsOf.mono _ _) (fun t => LeO.ite (LeO.none _) (LeO.ite (LeO.ite (ih _) (LeO.none _)) (ih _)))
theorem impl_CirclesHeard.mono : ∀ a0 a1 k, LeO (impl_CirclesHeard.f k a0 a1) (impl_CirclesHeard.f (k + 1) a0 a1) := by
  intro a0 a1 k
  unfold impl_CirclesHeard.f
  exact LeO.ite (LeO.refl _) (LeO.bind (impl_FamilyOf.mono _ _) (fun fam => LeO.ite (LeO.none _) (heard_l.mono _ _ _ _)))
theorem heard_drop (l : List S29) (i : Nat) (h : i < l.length) : l.drop i = rd_T29 l (i : Int) :: l.drop (i + 1) := by
  rw [List.drop_eq_getElem_cons h]; simp [rd_T29, h]
theorem heard_new (w : World) (o : Obj) : (w.alloc o).heap[w.heap.size]? = some o := by
  unfold World.alloc
  simp
/-- What the loop keeps. -/
structure HeardAt (w wr : World) (u : Value) (Af : Option Addr) (cf : Nat) (fam out : List S29) : Prop where
  hO : Kd.N k29 29 wr w.heap.size (fun k => w.heap.size ≤ k ∧ some k ≠ (Value.slice Af fam.length cf).ownBlock) u out
  hF : Kd.N k29 29 wr w.heap.size (fun k => w.heap.size ≤ k ∧ some k ≠ u.ownBlock) (.slice Af fam.length cf) fam
  hB : Below w.heap.size w wr
theorem HeardAt.below {w wr w2 : World} {u : Value} {Af : Option Addr} {cf : Nat} {fam out : List S29} (h : HeardAt w wr u Af cf fam out) (hb : Below wr.heap.size wr w2) : HeardAt w w2 u Af cf fam out :=
  ⟨Kd.N_below h.hO hb, Kd.N_below h.hF hb, below_step h.hB hb⟩
theorem HeardAt.alloc {w wr : World} {u : Value} {Af : Option Addr} {cf : Nat} {fam out : List S29} (h : HeardAt w wr u Af cf fam out) (o : Obj) : HeardAt w (wr.alloc o) u Af cf fam out :=
  h.below (below_alloc (Below.refl _ _) o)
theorem HeardAt.at {w wr : World} {u : Value} {Af : Option Addr} {cf : Nat} {fam out : List S29} (h : HeardAt w wr u Af cf fam out) (i : Nat) (hi : i < fam.length) :
    ∃ ad A c, Af = some ad ∧ wr.cell? (ad.add i) = some (.slice A (rd_T29 fam i).f0.length c) ∧ (rd_T29 fam i).f0.length ≤ c ∧ (Kd.int .i64).C wr A (rd_T29 fam i).f0.length (rd_T29 fam i).f0 ∧ Kd.V (Kd.int .i64) 3 wr w.heap.size (fun k => (w.heap.size ≤ k ∧ some k ≠ (Value.slice Af fam.length cf).ownBlock) ∧ some k ≠ u.ownBlock) (.slice A (rd_T29 fam i).f0.length c) (rd_T29 fam i).f0 := by
  obtain ⟨ad, A, c, e, hx, hl, hi2⟩ := at_T29 (Kd.N_reads' h.hF).2.2 (i : Int) (by omega) (by omega)
  subst e
  obtain ⟨ce, hce, hM, hcc⟩ := Kd.N_get h.hF z29 (i : Int) (by omega) (by omega)
  obtain ⟨ua, uc, rfl, ul, ge⟩ := k29_openF hM
  have hv := hcc 0 _ rfl
  rw [Nat.add_zero, show (k29).sz = 1 from rfl, Nat.mul_one] at hv
  replace hv := Option.some.inj (hv.symm.trans hx)
  injection hv with h1 h2 h3
  subst h1 h3
  rw [Int.toNat_natCast] at hx
  exact ⟨ad, ua, uc, rfl, hx, hl, hi2, Kd.V_mono (Kd.V_mk ul ge) (fun k hk => ⟨⟨hk.1.1, hk.2⟩, hk.1.2⟩)⟩
set_option maxHeartbeats 4000000 in
set_option maxRecDepth 100000 in
theorem impl_CirclesHeard.calls (k : Nat) (a0 : Int) (A1 : Option Addr) (c1 : Nat) (l1 : List Int) (r : List (S29)) (w : World) (hr1 : Kd.C (Kd.int .i64) w A1 l1.length l1) (hc1 : l1.length ≤ c1) (h : impl_CirclesHeard.f k a0 l1 = some r) :
    Calls Try.prog 22 #[.int .i64 a0, .slice A1 l1.length c1] w fun e w' => ∃ v0_ : Value, e = .returned (v0_) ∧ Kd.N k29 29 w' w.heap.size (fun k_ => (w.heap.size ≤ k_)) v0_ r ∧ Below w.heap.size w w' := by
  have hu29 := Try.underlying29
  have HR1 := Aside0.mk hr1
  clear hr1
  unfold impl_CirclesHeard.f at h
  by_cases h12 : l1.length = 12
  case neg =>
    rw [if_pos h12] at h
    obtain rfl := Option.some.inj h
    have hy : ((l1.length : Int) != 12) = true := by simp; omega
    clear h12
    go_enter Try.func22, Try.ntmps22
    go_wp2
    go_ret
    exact ⟨_, rfl, Kd.N_nil _ _ _ _ _, Below.refl _ _⟩
  rw [if_neg (by omega)] at h
  obtain ⟨fam, hfam, h⟩ := Option.bind_eq_some_iff.mp h
  have HF := Aside0.mk hfam
  by_cases hbig : 1000000 < fam.length
  · rw [if_pos hbig] at h; cases h
  rw [if_neg hbig] at h
  have HBIG := Aside0.mk (show fam.length ≤ 1000000 by omega)
  have hy : ((l1.length : Int) != 12) = false := by simp; omega
  have H12 := Aside0.mk h12
  have HH := Aside0.mk h
  clear h h12 hbig hfam
  go_enter Try.func22, Try.ntmps22
  go_wp2_with (first | ((with_reducible refine gate_dst (N := 14) rfl ?_); (try (refine gate_guard (by rfl) ?_; dsimp only)); refine Kd.N_lit k29 _ 29 ?hg (N' := 14) ?hd (xs := ([] : List (S29))) (inner := []) (ok := (fun k_ => (w.heap.size ≤ k_))) (okp := (fun k_ => (w.heap.size ≤ k_))) ?hr ?hp (fun _ hk => hk) ((show ∀ k_, w.heap.size ≤ k_ → (fun k_ => (w.heap.size ≤ k_)) k_ from fun k_ hk => hk) _ (Nat.le_refl _)) (Below.refl _ _) (Nat.le_refl _) (by simp) ?_; (case hd => rfl); (case hg => rfl); (case hr => first | (go_simp; done) | (go_simp; rfl)); (case hp => exact (Reps.none _ _)); intro v4 w4 ho5 hb hg_ hnew_; clear hg_ hnew_; have HO4 := Aside0.mk ho5; have HB4 := Aside0.mk hb; clear ho5 hb) | ((with_reducible refine gate_callee (f := 14) rfl ?_); refine goesL_ (some 16) rfl rfl Try.func14 (by kernel_rfl) rfl #[.int .i64 a0] rfl (by (try simp only [List.map_toArray, List.map_cons, List.map_nil]); first | done | rfl) ?_; refine (impl_FamilyOf.calls k a0 fam _ HF.out).mono ?_; rintro e w6 ⟨v6, rfl, ho0, hb⟩; refine ⟨_, rfl, ?_⟩; obtain ⟨Af, cf, ef⟩ := Kd.S_slice ho0; subst ef; have hN6 := Kd.R_N (Kd.S_R (Kd.S_mono (Kd.S_bound ho0) (fun k_ hk_ => (show w4.heap.size ≤ k_ from hk_.2.1)))); have HA6 := Aside0.mk (HeardAt.mk (w := w) (wr := w6) (u := v4) (Af := Af) (cf := cf) (fam := fam) (out := ([] : List S29)) (Kd.N_elder' HO4.out (Kd.N_base hN6) hb) (Kd.N_lower (Kd.N_mono hN6 (fun k_ hk_ => ⟨Nat.le_trans HB4.out.size hk_, Kd.fresh' (Kd.N_lt HO4.out) k_ hk_⟩)) HB4.out.size) (below_step HB4.out hb)); clear hN6 ho0 hb HO4 HB4))
  go_loopw [5, 18] (fun u vi w' => ∃ (i : Nat) (out : List S29), i ≤ fam.length ∧ vi = .int .i64 i ∧ Aside0 (heard_l k l1 (fam.drop i) out = some r) ∧ Aside0 (HeardAt w w' u Af cf fam out))
    (fun _ vi _ => fam.length - (intOf vi).toNat)
  case atStart => exact ⟨0, [], by omega, rfl, ⟨by rw [List.drop_zero]; exact HH.out⟩, HA6⟩
  case round =>
    clear HA6 HH
    obtain ⟨i, out, hi, rfl, HH, HA⟩ := hrel
    have hi2 : i ≤ 1000000 := by have := HBIG.out; omega
    by_cases hlt : i < fam.length
    · obtain ⟨ad2, A, n, e, hx2, hlc, hCc, hVc⟩ := HA.out.at i hlt
      subst e
      have hh := HH.out
      rw [heard_drop fam i hlt, heard_l] at hh
      obtain ⟨t, ht, hh⟩ := Option.bind_eq_some_iff.mp hh
      by_cases htl : l1.length < t.length
      · rw [if_pos htl] at hh; cases hh
      rw [if_neg htl] at hh
      generalize hrc : rd_T29 fam (i : Int) = c at hx2 hlc hCc hVc hh ht
      have HLc := Aside0.mk hlc
      have HCc := Aside0.mk hCc
      have HVc := Aside0.mk hVc
      have HT1 := Aside0.mk ht
      have HH2 := Aside0.mk hh
      have HTL := Aside0.mk (show t.length ≤ l1.length by omega)
      clear hlc hCc hVc ht hh HH htl
      go_wp2_with (first | ((with_reducible refine gate_callee (f := 25) rfl ?_); refine goesL_ (some 23) rfl rfl Try.func25 (by kernel_rfl) rfl #[.agg #[.slice A c.f0.length n]] rfl (by (try simp only [List.map_toArray, List.map_cons, List.map_nil]); first | done | rfl) ?_; (refine (impl_ThirdsOf.calls k A n c.f0 t _ (Kd.C_alloc HCc.out _) HLc.out HT1.out).mono ?_); rintro e w6 ⟨v6, rfl, ho6, hb6⟩; refine ⟨_, rfl, ?_⟩; have HB6 := Aside0.mk hb6; obtain ⟨A6, c6, e6⟩ := Kd.R_slice ho6; subst e6; have HO6 := Aside0.mk ho6; clear ho6 hb6))
      have HA7 := Aside0.mk ((HA.out.alloc (.cells #[.slice A c.f0.length n] 29)).below HB6.out)
      have HV7 := Aside0.mk (Kd.V_below (Kd.V_alloc HVc.out (.cells #[.slice A c.f0.length n] 29)) HB6.out)
      have hc7 : w6.cell? ⟨wr.heap.size, 0, none⟩ = some (.slice A c.f0.length n) := (blk_cell (blk_below (heard_new wr (.cells #[.slice A c.f0.length n] 29)) HB6.out) 0).trans rfl
      have HC1 := Aside0.mk (Kd.C_below HR1.out HA7.out.hB)
      clear HB6 HA HVc HCc hx2
      generalize wr.heap.size = g7 at hc7 ⊢
      go_loopw [8, 25] (fun vs vj w' => ∃ j : Nat, j ≤ t.length ∧ vs = .bool (heard_same t l1 j) ∧ vj = .int .i64 j ∧ w' = w6)
        (fun _ vj _ => t.length - (intOf vj).toNat)
      case atStart => exact ⟨0, by omega, rfl, rfl, rfl⟩
      case round =>
        obtain ⟨j, hj, rfl, rfl, hw⟩ := hrel
        subst hw
        have hj12 : j ≤ 12 := by have := HTL.out; have := H12.out; omega
        by_cases hlt2 : j < t.length
        · have hp : (0 : Int) ≤ (j : Int) := by omega
          have q1 : (j : Int) < (t.length : Int) := by omega
          have q2 : (j : Int) < (l1.length : Int) := by have := HTL.out; omega
          obtain ⟨ad1, e1, hx1⟩ := Kd.at_int (Kd.R_reads' HO6.out).2.2 (j : Int) hp q1
          obtain ⟨ad3, e3, hx3⟩ := Kd.at_int HC1.out (j : Int) hp q2
          subst e1
          subst e3
          rw [Int.toNat_natCast] at hx1 hx3
          have hs := heard_succ t l1 j
          generalize hb : heard_same t l1 j = b at hs ⊢
          generalize rd t (j : Int) = x at hx1 hs
          generalize rd l1 (j : Int) = y at hx3 hs
          have HS := Aside0.mk hs
          clear hs hb
          cases b with
          | false =>
            go_wp2
            go_roundw
            case rel => exact ⟨j + 1, by omega, by rw [HS.out]; rfl, by go_num, by first | rfl | trivial⟩
            case measure => simp [intOf]; omega
          | true =>
            go_wp2
            go_roundw
            case rel => exact ⟨j + 1, by omega, by rw [HS.out]; simp, by go_num, by first | rfl | trivial⟩
            case measure => simp [intOf]; omega
        · obtain rfl : j = t.length := by omega
          have hh := HH2.out
          generalize hs : heard_same t l1 t.length = b at hh ⊢
          clear hs
          cases b with
          | true =>
            rw [if_pos rfl] at hh
            by_cases hlm : out.length < 5864062014805
            case neg => rw [if_neg hlm] at hh; cases hh
            rw [if_pos hlm] at hh
            have LM := Aside0.mk hlm
            have HH3 := Aside0.mk hh
            clear hlm hh HH2
            go_wp2_with (first | ((with_reducible refine gate_builtin (b := .append) (xs := #[.tmp 41, .tmp 43]) rfl ?_); (try (refine gate_guard (by rfl) ?_; dsimp only)); at_builtin; refine Kd.N_append k29 (w0 := w) w.heap.size rfl (.tmp 41) (.tmp 43) 26 29 (.agg #[(.slice none 0 0)]) 24 rfl Try.underlying26 info29 rfl (by decide) (by omega) u5 out c [.slice A c.f0.length n] (fun k_ => w.heap.size ≤ k_ ∧ some k_ ≠ (Value.slice (some ad2) fam.length cf).ownBlock) (fun k_ => (w.heap.size ≤ k_ ∧ some k_ ≠ (Value.slice (some ad2) fam.length cf).ownBlock) ∧ some k_ ≠ u5.ownBlock) rfl rfl ?aP (fun _ hk => hk) ?aF ?aO ?aB ?aS ?aL ?_; (case aP => exact k29_mkF _ _ c HLc.out (Kd.V_F HV7.out)); (case aB => exact HA7.out.hB); (case aF => exact (fun k_ hk => ⟨Nat.le_trans HA7.out.hB.size hk, Kd.fresh' (Kd.N_lt HA7.out.hF) k_ hk⟩)); (case aO => exact HA7.out.hO); (case aS => exact HA7.out.hB.size); (case aL => have := LM.out; omega); intro v8 w8 ho hb hg hat; have HA8 := Aside0.mk (HeardAt.mk ho (Kd.N_afterv (ok := fun k_ => w.heap.size ≤ k_) HA7.out.hF hg hat) hb); clear ho hb hg hat))
            go_roundw
            case rel => exact ⟨i + 1, out ++ [c], by omega, by go_num, HH3, HA8⟩
            case measure => simp [intOf]; omega
          | false =>
            rw [if_neg (by decide)] at hh
            have HH3 := Aside0.mk hh
            clear hh HH2
            go_wp2
            go_roundw
            case rel => exact ⟨i + 1, out, by omega, by go_num, HH3, HA7⟩
            case measure => simp [intOf]; omega
    · have q := HH.out
      rw [List.drop_eq_nil_of_le (by omega), heard_l] at q
      obtain rfl := Option.some.inj q
      go_wp2
      go_ret
      exact ⟨_, rfl, Kd.N_mono HA.out.hO (fun _ hk => hk.1), HA.out.hB⟩

/-! ### impl_distance: function 57 -/
def impl_distance.l0 : Nat → List Int → List Int → Int → Int → Int → Option (Int)
  | 0, _, _, _, _, _ => none
  | k + 1, x0, x1, x5, x8, x9 => if x9 < x8 then (if 0 ≤ x9 then (if x9 < (x0.length : Int) then (if x9 < (x1.length : Int) then (impl_distance.l0 k x0 x1 (wrap64 (x5 + (mx (wrap64 ((rd x0 x9) - (rd x1 x9))) (wrap64 ((rd x1 x9) - (rd x0 x9)))))) x8 (wrap64 (x9 + 1))) else (none)) else (none)) else (none)) else (some x5)
def impl_distance.f (k : Nat) (l0 : List Int) (l1 : List Int) : Option (Int) := impl_distance.l0 k l0 l1 0 (l0.length : Int) 0
theorem impl_distance.mono_l : ∀ k, (∀ y0 y1 y2 y3 y4, LeO (impl_distance.l0 k y0 y1 y2 y3 y4) (impl_distance.l0 (k + 1) y0 y1 y2 y3 y4))
  | 0 => fun _ _ _ _ _ r h => by simp [impl_distance.l0] at h
  | k + 1 => by
    have ih0 := impl_distance.mono_l k
    · intro y0 y1 y2 y3 y4
      unfold impl_distance.l0
      repeat' first
      | (with_reducible exact ih0 _ _ _ _ _)
      | (with_reducible exact LeO.refl _)
      | (with_reducible exact LeO.none _)
      | (with_reducible refine LeO.ite ?_ ?_)
      | (with_reducible refine LeO.bind ?_ (fun _ => ?_))
      | exact ih0 _ _ _ _ _
      | exact LeO.none _
      | refine LeO.ite ?_ ?_
      | refine LeO.bind ?_ (fun _ => ?_)
theorem impl_distance.mono : ∀ a0 a1 k, LeO (impl_distance.f k a0 a1) (impl_distance.f (k + 1) a0 a1) := by
  intro a0 a1 k
  have ih0 := impl_distance.mono_l k
  unfold impl_distance.f
  repeat' first
      | (with_reducible exact ih0 _ _ _ _ _)
      | (with_reducible exact LeO.refl _)
      | (with_reducible exact LeO.none _)
      | (with_reducible refine LeO.ite ?_ ?_)
      | (with_reducible refine LeO.bind ?_ (fun _ => ?_))
      | exact ih0 _ _ _ _ _
      | exact LeO.none _
      | refine LeO.ite ?_ ?_
      | refine LeO.bind ?_ (fun _ => ?_)
set_option maxHeartbeats 8000000 in
set_option maxRecDepth 100000 in
theorem impl_distance.calls (k : Nat) (A0 : Option Addr) (c0 : Nat) (l0 : List Int) (A1 : Option Addr) (c1 : Nat) (l1 : List Int) (r : Int) (w : World) (hr0 : Kd.C (Kd.int .i64) w A0 l0.length l0) (hc0 : l0.length ≤ c0) (hr1 : Kd.C (Kd.int .i64) w A1 l1.length l1) (hc1 : l1.length ≤ c1) (h : impl_distance.f k l0 l1 = some r) :
    Calls Try.prog 57 #[.slice A0 l0.length c0, .slice A1 l1.length c1] w fun e w' => e = .returned (.int .i64 r) ∧ Below w.heap.size w w' := by
  have HR0 := Aside0.mk hr0
  have HC0 := Aside0.mk hc0
  clear hr0 hc0
  have HR1 := Aside0.mk hr1
  have HC1 := Aside0.mk hc1
  clear hr1 hc1
  have HB := Aside0.mk (Below.refl w.heap.size w)
  have H : (impl_distance.l0 k l0 l1 0 (l0.length : Int) 0) = some r := h
  clear h
  have H' := Aside0.mk H
  clear H
  go_enter Try.func57, Try.ntmps57
  go_wp2
  repeat (go_quiet (fail); try go_wp2)
  go_loopg [5, 9] k (fun kq v5 v9 w' => ∃ (x5_1 : Int) (x9_1 : Int), v5 = .int .i64 x5_1 ∧ v9 = .int .i64 x9_1 ∧ Aside0 (impl_distance.l0 kq l0 l1 x5_1 (l0.length : Int) x9_1 = some r) ∧ Aside0 (kq ≤ k) ∧ Aside0 (Below w.heap.size w w'))
  case atStart => exact ⟨(0), (0), (by first | rfl | (simp; done) | (simp [*]; done)), (by first | rfl | (simp; done) | (simp [*]; done)), H', ⟨Nat.le_refl _⟩, ⟨by repeat (first | (with_reducible first | exact HB.out | apply below_alloc | apply pw_below_drewN | apply below_drew1) | exact HB.out)⟩⟩
  case round =>
    clear H'
    try clear c1
    try clear p2
    obtain ⟨x5_1, x9_1, rfl, rfl, HA, HK1, HB⟩ := hrel
    cases gk with
    | zero => exact absurd HA.out (by simp [impl_distance.l0])
    | succ k1 =>
      have H := HA.out
      clear HA
      simp only [impl_distance.l0] at H
      by_cases c3 : x9_1 < (l0.length : Int)
      · rw [if_pos c3] at H
        have c3b0 : decide (x9_1 < (l0.length : Int)) = true := decide_eq_true c3
        clear c3
        by_cases c4 : 0 ≤ x9_1
        · rw [if_pos c4] at H
          have c4b0 : decide (0 ≤ x9_1) = true := decide_eq_true c4
          clear c4
          by_cases c5 : x9_1 < (l0.length : Int)
          · rw [if_pos c5] at H
            have c5b0 : decide (x9_1 < (l0.length : Int)) = true := decide_eq_true c5
            clear c5
            by_cases c6 : x9_1 < (l1.length : Int)
            · rw [if_pos c6] at H
              have c6b0 : decide (x9_1 < (l1.length : Int)) = true := decide_eq_true c6
              clear c6
              obtain ⟨ji7, hji7⟩ : ∃ j_ : Int, (mx (wrap64 ((rd l0 x9_1) - (rd l1 x9_1))) (wrap64 ((rd l1 x9_1) - (rd l0 x9_1)))) = j_ := ⟨_, rfl⟩
              replace H : (impl_distance.l0 k1 l0 l1 (wrap64 (x5_1 + (ji7))) (l0.length : Int) (wrap64 (x9_1 + 1))) = some r := by first | (rw [hji7] at H; exact H) | (simp only [hji7] at H ⊢; exact H)
              have hji7_ : (if (wrap64 ((rd l0 x9_1) - (rd l1 x9_1))) < (wrap64 ((rd l1 x9_1) - (rd l0 x9_1))) then (wrap64 ((rd l1 x9_1) - (rd l0 x9_1))) else (wrap64 ((rd l0 x9_1) - (rd l1 x9_1)))) = ji7 := hji7
              have H' := Aside0.mk H
              clear H
              have p274 : 0 ≤ (x9_1 : Int) := of_decide_eq_true (by first | (with_reducible assumption) | assumption)
              have q274 : x9_1 < (l0.length : Int) := of_decide_eq_true (by first | (with_reducible assumption) | assumption)
              obtain ⟨ad274, e274, hx274_0⟩ := Kd.at_int HR0.out x9_1 p274 q274
              cases e274
              replace hx274_0 := (HB.out.cell (World.block_lt_of_cell? w _ hx274_0)).trans hx274_0
              replace p274 := eq_true p274
              replace q274 := eq_true q274
              have p275 : 0 ≤ (x9_1 : Int) := of_decide_eq_true (by first | (with_reducible assumption) | assumption)
              have q275 : x9_1 < (l1.length : Int) := of_decide_eq_true (by first | (with_reducible assumption) | assumption)
              obtain ⟨ad275, e275, hx275_0⟩ := Kd.at_int HR1.out x9_1 p275 q275
              cases e275
              replace hx275_0 := (HB.out.cell (World.block_lt_of_cell? w _ hx275_0)).trans hx275_0
              replace p275 := eq_true p275
              replace q275 := eq_true q275
              have p276 : 0 ≤ (x9_1 : Int) := of_decide_eq_true (by first | (with_reducible assumption) | assumption)
              have q276 : x9_1 < (l1.length : Int) := of_decide_eq_true (by first | (with_reducible assumption) | assumption)
              obtain ⟨ad276, e276, hx276_0⟩ := Kd.at_int HR1.out x9_1 p276 q276
              obtain rfl : ad275 = ad276 := (by injection e276)
              replace hx276_0 := (HB.out.cell (World.block_lt_of_cell? w _ hx276_0)).trans hx276_0
              replace p276 := eq_true p276
              replace q276 := eq_true q276
              have p277 : 0 ≤ (x9_1 : Int) := of_decide_eq_true (by first | (with_reducible assumption) | assumption)
              have q277 : x9_1 < (l0.length : Int) := of_decide_eq_true (by first | (with_reducible assumption) | assumption)
              obtain ⟨ad277, e277, hx277_0⟩ := Kd.at_int HR0.out x9_1 p277 q277
              obtain rfl : ad274 = ad277 := (by injection e277)
              replace hx277_0 := (HB.out.cell (World.block_lt_of_cell? w _ hx277_0)).trans hx277_0
              replace p277 := eq_true p277
              replace q277 := eq_true q277
              go_wp2
              repeat (go_quiet (fail); try go_wp2)
              go_roundg k1
              case measure => have := HK1.out; omega
              case rel => exact ⟨(wrap64 (x5_1 + (ji7))), (wrap64 (x9_1 + 1)), (by first | rfl | (simp; done) | (simp only [← hji7] <;> (first | rfl | simp)) | (simp [*]; done)), (by first | rfl | (simp; done) | (simp [*]; done)), H', ⟨by have := HK1.out; omega⟩, ⟨by repeat (first | (with_reducible first | exact HB.out | apply below_alloc | apply pw_below_drewN | apply below_drew1) | exact HB.out)⟩⟩
            · rw [if_neg c6] at H
              exact absurd H (by simp)
          · rw [if_neg c5] at H
            exact absurd H (by simp)
        · rw [if_neg c4] at H
          exact absurd H (by simp)
      · rw [if_neg c3] at H
        have c3b0 : decide (x9_1 < (l0.length : Int)) = false := decide_eq_false c3
        clear c3
        obtain rfl := Option.some.inj H
        go_wp2
        repeat (go_quiet (fail); try go_wp2)
        go_ret
        exact ⟨by first | rfl | (simp [errW_none, errW_some] <;> rfl) | (simp [*, errW_none, errW_some] <;> rfl), by repeat (first | (with_reducible first | exact HB.out | apply below_alloc | apply pw_below_drewN | apply below_drew1) | exact HB.out)⟩

/-! ### impl_NearestHeard: function 23 (by hand) -/
def near_dst (k : Nat) (l1 c : List Int) : Option Int := (impl_ThirdsOf.f k c).bind fun t => impl_distance.f k t l1
def near_l (k : Nat) (l1 : List Int) : List S29 → List Int → Int → Option (List Int × Int × Bool)
  | [], b, d => some (b, d, true)
  | c :: cs, b, d => (near_dst k l1 c.f0).bind fun e => if e < d then near_l k l1 cs c.f0 e else near_l k l1 cs b d
def near_in (n : Int) : Bool := decide (-200 ≤ n ∧ n ≤ 200)
def near_f (k : Nat) (a0 : Int) (l1 : List Int) : Option (List Int × Int × Bool) := (impl_FamilyOf.f k a0).bind fun fam => if 1000000 < fam.length then none else
  if fam.length = 0 ∨ ¬ l1.length = 12 then some ([], 0, false) else if l1.all near_in = true then (near_dst k l1 (rd_T29 fam 0).f0).bind fun d => near_l k l1 fam (rd_T29 fam 0).f0 d else some ([], 0, false)
def impl_NearestHeard.f (a0 : Int) (l1 : List Int) : Option (List Int × Int × Bool) := near_f 1048700 a0 l1
theorem near_new (w : World) (o : Obj) : (w.alloc o).heap[w.heap.size]? = some o := by
  first
    | exact Below.heap_alloc_new w o
    | (rw [World.alloc_eq]; simp; done)
    | (simp [World.alloc_eq]; done)
    | (unfold World.alloc; simp; done)
    | (simp; done)
theorem near_within (n : Int) : impl_within.f n (-200) 200 = some (near_in n) := by
  unfold impl_within.f near_in
  by_cases h : -200 ≤ n <;> simp [h]
theorem near_drop (l : List S29) (i : Nat) (h : i < l.length) : l.drop i = rd_T29 l (i : Int) :: l.drop (i + 1) := by
  rw [List.drop_eq_getElem_cons h]; simp [rd_T29, h]
/-- What the second loop keeps. -/
structure NearAt (w wr : World) (g4 g10 : Nat) (Af : Option Addr) (cf : Nat) (fam : List S29) (Ab : Option Addr) (cb : Nat) (b : List Int) : Prop where
  hS : Kd.S k29 29 wr w.heap.size (fun k => k ≠ g4 ∧ k ≠ g10) (.slice Af fam.length cf) fam
  h4 : wr.heap[g4]? = some (.cells #[.slice none 0 0] 29 (0, 0))
  h10 : wr.heap[g10]? = some (.cells #[.slice Ab b.length cb] 29 (0, 0))
  hR : Kd.R (Kd.int .i64) 3 wr w.heap.size (fun _ => True) (.slice Ab b.length cb) b
  hB : Below w.heap.size w wr
theorem NearAt.below {w wr w2 : World} {g4 g10 : Nat} {Af : Option Addr} {cf : Nat} {fam : List S29} {Ab : Option Addr} {cb : Nat} {b : List Int} (h : NearAt w wr g4 g10 Af cf fam Ab cb b) (hb : Below wr.heap.size wr w2) : NearAt w w2 g4 g10 Af cf fam Ab cb b :=
  ⟨Kd.S_below h.hS hb, blk_below h.h4 hb, blk_below h.h10 hb, Kd.R_below h.hR hb, below_step h.hB hb⟩
theorem NearAt.alloc {w wr : World} {g4 g10 : Nat} {Af : Option Addr} {cf : Nat} {fam : List S29} {Ab : Option Addr} {cb : Nat} {b : List Int} (h : NearAt w wr g4 g10 Af cf fam Ab cb b) (o : Obj) : NearAt w (wr.alloc o) g4 g10 Af cf fam Ab cb b :=
  h.below (below_alloc (Below.refl _ _) o)
/-- Another circle is stored as the best. -/
theorem NearAt.put {w wr : World} {g4 g10 : Nat} {Af : Option Addr} {cf : Nat} {fam : List S29} {Ab : Option Addr} {cb : Nat} {b : List Int} (h : NearAt w wr g4 g10 Af cf fam Ab cb b) (hn : g4 ≠ g10) (hg : w.heap.size ≤ g10)
    {A : Option Addr} {n : Nat} {c : List Int} (hc : Kd.R (Kd.int .i64) 3 wr w.heap.size (fun _ => True) (.slice A c.length n) c) : NearAt w (wr.setCell ⟨g10, 0, none⟩ (.slice A c.length n)) g4 g10 Af cf fam A n c :=
  ⟨Kd.S_far h.hS (fun k hk => hk.2) _, (Below.heap_setCell wr ⟨g10, 0, none⟩ _ g4 hn).trans h.h4, blk_put h.h10 0 _ rfl, Kd.R_mono (Kd.R_far (Kd.R_types hc h.h10 (by decide)) (fun k hk => hk.2) _) (fun _ hk => hk.1), below_set h.hB hg⟩
/-- The circle at i, read. -/
theorem NearAt.at {w wr : World} {g4 g10 : Nat} {Af : Option Addr} {cf : Nat} {fam : List S29} {Ab : Option Addr} {cb : Nat} {b : List Int} (h : NearAt w wr g4 g10 Af cf fam Ab cb b) (i : Nat) (hi : i < fam.length) :
    ∃ ad A c, Af = some ad ∧ wr.cell? (ad.add i) = some (.slice A (rd_T29 fam i).f0.length c) ∧ (rd_T29 fam i).f0.length ≤ c ∧ Kd.R (Kd.int .i64) 3 wr w.heap.size (fun _ => True) (.slice A (rd_T29 fam i).f0.length c) (rd_T29 fam i).f0 := by
  obtain ⟨ad, A, c, e, hx, hl, hi2⟩ := at_T29 (Kd.S_reads' h.hS).2.2 (i : Int) (by omega) (by omega)
  subst e
  obtain ⟨ce, hce, hM, hcc⟩ := Kd.S_get h.hS z29 (i : Int) (by omega) (by omega)
  obtain ⟨v, rfl, hR⟩ := k29_openM hM
  have hv := hcc 0 _ rfl
  rw [Nat.add_zero, show (k29).sz = 1 from rfl, Nat.mul_one] at hv
  replace hv := Option.some.inj (hv.symm.trans hx)
  rw [hv] at hR
  rw [Int.toNat_natCast] at hx
  exact ⟨ad, A, c, rfl, hx, hl, Kd.R_mono hR (fun _ _ => trivial)⟩
set_option maxHeartbeats 4000000 in
set_option maxRecDepth 100000 in
theorem near_calls (k : Nat) (a0 : Int) (A1 : Option Addr) (c1 : Nat) (l1 : List Int) (r1 : List Int) (r2 : Int) (r3 : Bool) (w : World) (hr1 : Kd.C (Kd.int .i64) w A1 l1.length l1) (hc1 : l1.length ≤ c1) (h : near_f k a0 l1 = some (r1, r2, r3)) :
    Calls Try.prog 23 #[.int .i64 a0, .slice A1 l1.length c1] w fun e w' => ∃ v0_ : Value, e = .returned (.tuple #[.agg #[v0_], .int .i64 r2, .bool r3]) ∧ Kd.R (Kd.int .i64) 3 w' w.heap.size (fun _ => True) v0_ r1 ∧ Below w.heap.size w w' := by
  have hu29 := Try.underlying29
  have HR1 := Aside0.mk hr1
  clear hr1
  unfold near_f at h
  obtain ⟨fam, hfam, h⟩ := Option.bind_eq_some_iff.mp h
  have HF := Aside0.mk hfam
  clear hfam
  by_cases hbig : 1000000 < fam.length
  · rw [if_pos hbig] at h; cases h
  rw [if_neg hbig] at h
  have HBIG := Aside0.mk (show fam.length ≤ 1000000 by omega)
  clear hbig
  by_cases h0 : fam.length = 0
  · rw [if_pos (.inl h0)] at h
    simp only [Option.some.injEq, Prod.mk.injEq] at h
    obtain ⟨rfl, rfl, rfl⟩ := h
    have hz : ((fam.length : Int) == 0) = true := by rw [h0]; rfl
    clear h0
    go_enter Try.func23, Try.ntmps23
    go_wp2_with (first | ((with_reducible refine gate_dst (N := 4) rfl ?_); refine box_event ?hg (N := 4) ?hd (cs := #[.slice none 0 0]) (t := 29) ?hr ?_; (case hd => rfl); (case hg => rfl); (case hr => first | (go_simp; done) | (go_simp; rfl)); intro g4 hg w4 hbox hb; have BK4 := Aside0.mk hbox; have HB4 := Aside0.mk (show Below w.heap.size w w4 from hb); have GE4 := Aside0.mk (show w.heap.size ≤ g4 from Nat.le_of_eq hg.symm); clear hb hbox hg) | ((with_reducible refine gate_callee (f := 14) rfl ?_); refine goesL_ (some 16) rfl rfl Try.func14 (by kernel_rfl) rfl #[.int .i64 a0] rfl (by (try simp only [List.map_toArray, List.map_cons, List.map_nil]); first | done | rfl) ?_; refine (impl_FamilyOf.calls k a0 fam _ HF.out).mono ?_; rintro e w5 ⟨v5, rfl, ho0, hb⟩; refine ⟨_, rfl, ?_⟩; obtain ⟨Af, cf, ef⟩ := Kd.S_slice ho0; subst ef; have HS5 := Aside0.mk (Kd.S_mono (Kd.S_lower (Kd.S_newB ho0 BK4.out) HB4.out.size) (fun _ hk => hk.2)); have BK5 := Aside0.mk (blk_below BK4.out hb); have HB5 := Aside0.mk (below_step HB4.out hb); clear ho0 hb BK4 HB4; have hc4 : w5.cell? ⟨g4, 0, none⟩ = some (.slice none 0 0) := (blk_cell BK5.out 0).trans rfl; have hf4 := blk_frozen BK5.out 0))
    (refine bodyPost_ret (results_ctt rfl _ _ g4 29 #[.slice none 0 0] (0, 0) _ rfl (by (with_reducible repeat (first | refine blk_drewN ?_ _ | refine blk_drew ?_ | refine blk_alloc ?_ _)); refine blk_put (cs := #[.slice none 0 0]) ?_ 0 _ rfl; (with_reducible repeat (first | refine blk_drewN ?_ _ | refine blk_drew ?_ | refine blk_alloc ?_ _)); exact BK5.out) Try.underlying29 rfl (by kernel_rfl)) rfl ?_; exact ⟨_, by first | rfl | (simp; done), Kd.R_nil _ _ _ _ _, below_set HB5.out GE4.out⟩)
  have hz : ((fam.length : Int) == 0) = false := by simp; intro e; rw [e] at h0; exact h0 rfl
  by_cases h12 : l1.length = 12
  case neg =>
    rw [if_pos (.inr h12)] at h
    simp only [Option.some.injEq, Prod.mk.injEq] at h
    obtain ⟨rfl, rfl, rfl⟩ := h
    have hy : ((l1.length : Int) != 12) = true := by simp; omega
    clear h0 h12
    go_enter Try.func23, Try.ntmps23
    go_wp2_with (first | ((with_reducible refine gate_dst (N := 4) rfl ?_); refine box_event ?hg (N := 4) ?hd (cs := #[.slice none 0 0]) (t := 29) ?hr ?_; (case hd => rfl); (case hg => rfl); (case hr => first | (go_simp; done) | (go_simp; rfl)); intro g4 hg w4 hbox hb; have BK4 := Aside0.mk hbox; have HB4 := Aside0.mk (show Below w.heap.size w w4 from hb); have GE4 := Aside0.mk (show w.heap.size ≤ g4 from Nat.le_of_eq hg.symm); clear hb hbox hg) | ((with_reducible refine gate_callee (f := 14) rfl ?_); refine goesL_ (some 16) rfl rfl Try.func14 (by kernel_rfl) rfl #[.int .i64 a0] rfl (by (try simp only [List.map_toArray, List.map_cons, List.map_nil]); first | done | rfl) ?_; refine (impl_FamilyOf.calls k a0 fam _ HF.out).mono ?_; rintro e w5 ⟨v5, rfl, ho0, hb⟩; refine ⟨_, rfl, ?_⟩; obtain ⟨Af, cf, ef⟩ := Kd.S_slice ho0; subst ef; have HS5 := Aside0.mk (Kd.S_mono (Kd.S_lower (Kd.S_newB ho0 BK4.out) HB4.out.size) (fun _ hk => hk.2)); have BK5 := Aside0.mk (blk_below BK4.out hb); have HB5 := Aside0.mk (below_step HB4.out hb); clear ho0 hb BK4 HB4; have hc4 : w5.cell? ⟨g4, 0, none⟩ = some (.slice none 0 0) := (blk_cell BK5.out 0).trans rfl; have hf4 := blk_frozen BK5.out 0))
    (refine bodyPost_ret (results_ctt rfl _ _ g4 29 #[.slice none 0 0] (0, 0) _ rfl (by (with_reducible repeat (first | refine blk_drewN ?_ _ | refine blk_drew ?_ | refine blk_alloc ?_ _)); refine blk_put (cs := #[.slice none 0 0]) ?_ 0 _ rfl; (with_reducible repeat (first | refine blk_drewN ?_ _ | refine blk_drew ?_ | refine blk_alloc ?_ _)); exact BK5.out) Try.underlying29 rfl (by kernel_rfl)) rfl ?_; exact ⟨_, by first | rfl | (simp; done), Kd.R_nil _ _ _ _ _, below_set HB5.out GE4.out⟩)
  have hy : ((l1.length : Int) != 12) = false := by simp; omega
  rw [if_neg (by omega)] at h
  have HNE := Aside0.mk (show 0 < fam.length by omega)
  have H12 := Aside0.mk h12
  clear h0 h12
  have HH := Aside0.mk h
  clear h
  go_enter Try.func23, Try.ntmps23
  go_wp2_with (first | ((with_reducible refine gate_dst (N := 4) rfl ?_); refine box_event ?hg (N := 4) ?hd (cs := #[.slice none 0 0]) (t := 29) ?hr ?_; (case hd => rfl); (case hg => rfl); (case hr => first | (go_simp; done) | (go_simp; rfl)); intro g4 hg w4 hbox hb; have BK4 := Aside0.mk hbox; have HB4 := Aside0.mk (show Below w.heap.size w w4 from hb); have GE4 := Aside0.mk (show w.heap.size ≤ g4 from Nat.le_of_eq hg.symm); clear hb hbox hg) | ((with_reducible refine gate_callee (f := 14) rfl ?_); refine goesL_ (some 16) rfl rfl Try.func14 (by kernel_rfl) rfl #[.int .i64 a0] rfl (by (try simp only [List.map_toArray, List.map_cons, List.map_nil]); first | done | rfl) ?_; refine (impl_FamilyOf.calls k a0 fam _ HF.out).mono ?_; rintro e w5 ⟨v5, rfl, ho0, hb⟩; refine ⟨_, rfl, ?_⟩; obtain ⟨Af, cf, ef⟩ := Kd.S_slice ho0; subst ef; have HS5 := Aside0.mk (Kd.S_mono (Kd.S_lower (Kd.S_newB ho0 BK4.out) HB4.out.size) (fun _ hk => hk.2)); have BK5 := Aside0.mk (blk_below BK4.out hb); have HB5 := Aside0.mk (below_step HB4.out hb); clear ho0 hb BK4 HB4; have hc4 : w5.cell? ⟨g4, 0, none⟩ = some (.slice none 0 0) := (blk_cell BK5.out 0).trans rfl; have hf4 := blk_frozen BK5.out 0))
  clear hc4 hf4
  go_loopw [28] (fun i w' => ∃ j : Nat, j ≤ l1.length ∧ i = .int .i64 j ∧ Aside0 (∀ m : Nat, m < j → near_in (rd l1 m) = true) ∧ Aside0 (Kd.S k29 29 w' w.heap.size (fun k => k ≠ g4) (.slice Af fam.length cf) fam) ∧ Aside0 (w'.heap[g4]? = some (.cells #[.slice none 0 0] 29 (0, 0))) ∧ Aside0 (Below w.heap.size w w'))
    (fun i _ => l1.length - (intOf i).toNat)
  case atStart => exact ⟨0, by omega, rfl, ⟨fun m hm => by omega⟩, HS5, BK5, HB5⟩
  case round =>
    clear HS5 BK5 HB5
    obtain ⟨j, hj, rfl, HI, HS, BK, HB⟩ := hrel
    have hj12 : j ≤ 12 := by have := H12.out; omega
    by_cases hlt : j < l1.length
    · have hp : (0 : Int) ≤ (j : Int) := by omega
      have hq : (j : Int) < (l1.length : Int) := by omega
      obtain ⟨ad, e, hx0⟩ := Kd.at_int (Kd.C_below HR1.out HB.out) (j : Int) hp hq
      subst e
      rw [Int.toNat_natCast] at hx0
      generalize hrx : rd l1 (j : Int) = x at hx0
      have HRX := Aside0.mk hrx
      clear hrx
      have HJ := Aside0.mk (show j < l1.length from hlt)
      by_cases hn : near_in x = true
      · have HX := Aside0.mk (show impl_within.f x (-200) 200 = some true by rw [near_within, hn])
        have HN := Aside0.mk hn
        clear hn
        go_wp2_with (first | ((with_reducible refine gate_callee (f := 51) rfl ?_); refine goesL_ (some 33) rfl rfl Try.func51 (by kernel_rfl) rfl #[.int .i64 x, .int .i64 (-200), .int .i64 200] rfl (by (try simp only [List.map_toArray, List.map_cons, List.map_nil]); first | done | rfl) ?_; (refine (impl_within.calls x (-200) 200 true _ HX.out).mono ?_); rintro e w' ⟨rfl, ⟨nd, rfl⟩⟩; refine ⟨_, rfl, ?_⟩))
        go_roundw
        case rel => exact ⟨j + 1, by omega, by go_num, ⟨fun m hm => by rcases Nat.lt_succ_iff_lt_or_eq.1 hm with h | rfl; exact HI.out m h; rw [HRX.out]; exact HN.out⟩, ⟨Kd.S_drewN HS.out _⟩, ⟨blk_drewN BK.out _⟩, ⟨pw_below_drewN HB.out _⟩⟩
        case measure => simp [intOf]; omega
      · have HX := Aside0.mk (show impl_within.f x (-200) 200 = some false by rw [near_within, Bool.eq_false_iff.2 hn])
        have hall : ¬ l1.all near_in = true := by
          intro q
          rw [List.all_eq_true] at q
          refine hn (q x ?_)
          rw [← HRX.out]; unfold rd
          rw [Int.toNat_natCast, List.getD_eq_getElem?_getD, List.getElem?_eq_getElem hlt]
          exact List.getElem_mem _
        have h := HH.out
        rw [if_neg hall] at h
        simp only [Option.some.injEq, Prod.mk.injEq] at h
        obtain ⟨rfl, rfl, rfl⟩ := h
        clear hn hall
        have hc4 : wr.cell? ⟨g4, 0, none⟩ = some (.slice none 0 0) := (blk_cell BK.out 0).trans rfl
        have hf4 := blk_frozen BK.out 0
        go_wp2_with (first | ((with_reducible refine gate_callee (f := 51) rfl ?_); refine goesL_ (some 33) rfl rfl Try.func51 (by kernel_rfl) rfl #[.int .i64 x, .int .i64 (-200), .int .i64 200] rfl (by (try simp only [List.map_toArray, List.map_cons, List.map_nil]); first | done | rfl) ?_; (refine (impl_within.calls x (-200) 200 false _ HX.out).mono ?_); rintro e w' ⟨rfl, ⟨nd, rfl⟩⟩; refine ⟨_, rfl, ?_⟩))
        (refine bodyPost_ret (results_ctt rfl _ _ g4 29 #[.slice none 0 0] (0, 0) _ rfl (by (with_reducible repeat (first | refine blk_drewN ?_ _ | refine blk_drew ?_ | refine blk_alloc ?_ _)); refine blk_put (cs := #[.slice none 0 0]) ?_ 0 _ rfl; (with_reducible repeat (first | refine blk_drewN ?_ _ | refine blk_drew ?_ | refine blk_alloc ?_ _)); exact BK.out) Try.underlying29 rfl (by kernel_rfl)) rfl ?_; exact ⟨_, by first | rfl | (simp; done), Kd.R_nil _ _ _ _ _, below_set (pw_below_drewN HB.out _) GE4.out⟩)
    · have hall : l1.all near_in = true := by
        rw [List.all_eq_true]
        intro x hx
        obtain ⟨m, hm, rfl⟩ := List.getElem_of_mem hx
        have := HI.out m (by omega)
        unfold rd at this
        rw [Int.toNat_natCast, List.getD_eq_getElem?_getD, List.getElem?_eq_getElem hm] at this
        exact this
      have h := HH.out
      rw [if_pos hall] at h
      clear hall HI HH
      obtain ⟨d0, hd0, h⟩ := Option.bind_eq_some_iff.mp h
      obtain ⟨t0, ht0, hd0⟩ := Option.bind_eq_some_iff.mp hd0
      have HH := Aside0.mk h
      have HT0 := Aside0.mk ht0
      have HD0 := Aside0.mk hd0
      clear h ht0 hd0
      obtain rfl : j = l1.length := by omega
      have hq0 : (0 : Int) < (fam.length : Int) := by have := HNE.out; omega
      obtain ⟨ad, Ab, cb, e, hx, hl, hi2⟩ := at_T29 (Kd.S_reads' HS.out).2.2 (0 : Int) (by omega) hq0
      subst e
      obtain ⟨ce, hce, hM, hcc⟩ := Kd.S_get HS.out z29 (0 : Int) (by omega) hq0
      obtain ⟨v, rfl, hR⟩ := k29_openM hM
      have hv := hcc 0 _ rfl
      rw [Nat.add_zero, show (k29).sz = 1 from rfl, Nat.mul_one] at hv
      replace hv := Option.some.inj (hv.symm.trans hx)
      rw [hv] at hR
      clear hv hcc hM hce hi2
      rw [show ((0 : Int)).toNat = 0 from rfl] at hx
      have had : ad.add 0 = ad := by first | rfl | exact Addr.add_zero _ | (cases ad; simp [Addr.add])
      rw [had] at hx
      clear had
      replace hR : Kd.R (Kd.int .i64) 3 wr w.heap.size _ (.slice Ab (rd_T29 fam (0 : Int)).f0.length cb) (rd_T29 fam (0 : Int)).f0 := hR
      generalize hrb : (rd_T29 fam (0 : Int)).f0 = b at hx hl hR HH HT0
      have HL := Aside0.mk hl
      have HRb := Aside0.mk (Kd.R_mono hR (fun _ _ => trivial) : Kd.R (Kd.int .i64) 3 wr w.heap.size (fun _ => True) (.slice Ab b.length cb) b)
      clear hl hR
      have HNW := Aside0.mk (NearAt.mk (w := w) (wr := wr.alloc (.cells #[.slice Ab b.length cb] 29)) (g4 := g4) (g10 := wr.heap.size) (Kd.S_alloc (Kd.S_elderB HS.out wr.heap.size (Nat.le_refl _)) _) (blk_alloc BK.out _) (near_new _ _) (Kd.R_alloc HRb.out _) (below_alloc HB.out _))
      have NE := Aside0.mk (show g4 ≠ wr.heap.size from Nat.ne_of_lt (blk_lt BK.out))
      have GE10 := Aside0.mk (show w.heap.size ≤ wr.heap.size from HB.out.size)
      clear HS BK HB HRb
      have hcell : (wr.alloc (.cells #[.slice Ab b.length cb] 29)).cell? ⟨wr.heap.size, 0, none⟩ = some (.slice Ab b.length cb) := (blk_cell HNW.out.h10 0).trans rfl
      go_wp2_with (first | ((with_reducible refine gate_callee (f := 25) rfl ?_); refine goesL_ (some 41) rfl rfl Try.func25 (by kernel_rfl) rfl #[.agg #[.slice Ab b.length cb]] rfl (by (try simp only [List.map_toArray, List.map_cons, List.map_nil]); first | done | rfl) ?_; (refine (impl_ThirdsOf.calls k Ab cb b t0 _ (Kd.R_reads' HNW.out.hR).2.2 HL.out HT0.out).mono ?_); rintro e w6 ⟨v6, rfl, ho6, hb6⟩; refine ⟨_, rfl, ?_⟩; have HB6 := Aside0.mk hb6; obtain ⟨A6, c6, e6⟩ := Kd.R_slice ho6; subst e6; have HO6 := Aside0.mk ho6; clear ho6 hb6) | ((with_reducible refine gate_callee (f := 57) rfl ?_); refine goesL_ (some 43) rfl rfl Try.func57 (by kernel_rfl) rfl #[.slice A6 t0.length c6, .slice A1 l1.length c1] rfl (by (try simp only [List.map_toArray, List.map_cons, List.map_nil]); first | done | rfl) ?_; (refine (impl_distance.calls k A6 c6 t0 A1 c1 l1 d0 _ (Kd.R_reads' HO6.out).2.2 (Kd.R_reads' HO6.out).2.1 (Kd.C_below HR1.out (below_step HNW.out.hB HB6.out)) hc1 HD0.out).mono ?_); rintro e w7 ⟨rfl, hb7⟩; refine ⟨_, rfl, ?_⟩; have HB7 := Aside0.mk hb7; clear hb7))
      have HN7 := Aside0.mk ((HNW.out.below HB6.out).below HB7.out)
      clear HNW HB6 HB7 HO6 hcell
      generalize wr.heap.size = g10 at HN7 NE GE10 ⊢
      go_loopw [11, 46] (fun vd vi w' => ∃ (i : Nat) (b2 : List Int) (A2 : Option Addr) (c2 : Nat) (d2 : Int), i ≤ fam.length ∧ vd = .int .i64 d2 ∧ vi = .int .i64 i ∧ Aside0 (near_l k l1 (fam.drop i) b2 d2 = some (r1, r2, r3)) ∧ Aside0 (NearAt w w' g4 g10 (some ad) cf fam A2 c2 b2))
        (fun _ vi _ => fam.length - (intOf vi).toNat)
      case atStart => exact ⟨0, b, Ab, cb, d0, by omega, rfl, rfl, ⟨by rw [List.drop_zero]; exact HH.out⟩, HN7⟩
      case round =>
        clear HN7 HH
        obtain ⟨i, b2, A2, c2, d2, hi, rfl, rfl, HH, HNW⟩ := hrel
        have hi2 : i ≤ 1000000 := by have := HBIG.out; omega
        by_cases hlt : i < fam.length
        · obtain ⟨ad2, A, n, e, hx2, hlc, hRc⟩ := HNW.out.at i hlt
          obtain rfl := Option.some.inj e
          have hh := HH.out
          rw [near_drop fam i hlt, near_l] at hh
          obtain ⟨d1, hd1, hh⟩ := Option.bind_eq_some_iff.mp hh
          obtain ⟨t1, ht1, hd1⟩ := Option.bind_eq_some_iff.mp hd1
          generalize hrc : rd_T29 fam (i : Int) = c at hx2 hlc hRc hh ht1
          have HLc := Aside0.mk hlc
          have HRc := Aside0.mk hRc
          have HT1 := Aside0.mk ht1
          have HD1 := Aside0.mk hd1
          have HH2 := Aside0.mk hh
          clear hlc hRc ht1 hd1 hh HH
          by_cases hd : d1 < d2
          · go_wp2_with (first | ((with_reducible refine gate_callee (f := 25) rfl ?_); refine goesL_ (some 51) rfl rfl Try.func25 (by kernel_rfl) rfl #[.agg #[.slice A c.f0.length n]] rfl (by (try simp only [List.map_toArray, List.map_cons, List.map_nil]); first | done | rfl) ?_; (refine (impl_ThirdsOf.calls k A n c.f0 t1 _ (Kd.R_reads' (Kd.R_alloc HRc.out _)).2.2 HLc.out HT1.out).mono ?_); rintro e w6 ⟨v6, rfl, ho6, hb6⟩; refine ⟨_, rfl, ?_⟩; have HB6 := Aside0.mk hb6; obtain ⟨A6, c6, e6⟩ := Kd.R_slice ho6; subst e6; have HO6 := Aside0.mk ho6; clear ho6 hb6) | ((with_reducible refine gate_callee (f := 57) rfl ?_); refine goesL_ (some 53) rfl rfl Try.func57 (by kernel_rfl) rfl #[.slice A6 t1.length c6, .slice A1 l1.length c1] rfl (by (try simp only [List.map_toArray, List.map_cons, List.map_nil]); first | done | rfl) ?_; (refine (impl_distance.calls k A6 c6 t1 A1 c1 l1 d1 _ (Kd.R_reads' HO6.out).2.2 (Kd.R_reads' HO6.out).2.1 (Kd.C_below HR1.out (below_step (below_alloc HNW.out.hB _) HB6.out)) hc1 HD1.out).mono ?_); rintro e w7 ⟨rfl, hb7⟩; refine ⟨_, rfl, ?_⟩; have HB7 := Aside0.mk hb7; clear hb7; have hc13 : w7.cell? ⟨wr.heap.size, 0, none⟩ = some (.slice A c.f0.length n) := (blk_cell (blk_below (blk_below (near_new wr (.cells #[.slice A c.f0.length n] 29)) HB6.out) HB7.out) 0).trans rfl; have hc10 : w7.cell? ⟨g10, 0, none⟩ = some (.slice A2 b2.length c2) := (blk_cell (blk_below (blk_below (blk_alloc HNW.out.h10 _) HB6.out) HB7.out) 0).trans rfl; have hf10 := blk_frozen (blk_below (blk_below (blk_alloc HNW.out.h10 (.cells #[.slice A c.f0.length n] 29)) HB6.out) HB7.out) 0))
            have HN7 := Aside0.mk (((HNW.out.alloc (.cells #[.slice A c.f0.length n] 29)).below HB6.out).below HB7.out); have HR7 := Aside0.mk (Kd.R_below (Kd.R_below (Kd.R_alloc HRc.out (.cells #[.slice A c.f0.length n] 29)) HB6.out) HB7.out)
            go_roundw
            case rel => exact ⟨i + 1, c.f0, A, n, d1, by omega, rfl, by go_num, ⟨by have q := HH2.out; rw [if_pos hd] at q; exact q⟩, ⟨HN7.out.put NE.out GE10.out HR7.out⟩⟩
            case measure => simp [intOf]; omega
          · go_wp2_with (first | ((with_reducible refine gate_callee (f := 25) rfl ?_); refine goesL_ (some 51) rfl rfl Try.func25 (by kernel_rfl) rfl #[.agg #[.slice A c.f0.length n]] rfl (by (try simp only [List.map_toArray, List.map_cons, List.map_nil]); first | done | rfl) ?_; (refine (impl_ThirdsOf.calls k A n c.f0 t1 _ (Kd.R_reads' (Kd.R_alloc HRc.out _)).2.2 HLc.out HT1.out).mono ?_); rintro e w6 ⟨v6, rfl, ho6, hb6⟩; refine ⟨_, rfl, ?_⟩; have HB6 := Aside0.mk hb6; obtain ⟨A6, c6, e6⟩ := Kd.R_slice ho6; subst e6; have HO6 := Aside0.mk ho6; clear ho6 hb6) | ((with_reducible refine gate_callee (f := 57) rfl ?_); refine goesL_ (some 53) rfl rfl Try.func57 (by kernel_rfl) rfl #[.slice A6 t1.length c6, .slice A1 l1.length c1] rfl (by (try simp only [List.map_toArray, List.map_cons, List.map_nil]); first | done | rfl) ?_; (refine (impl_distance.calls k A6 c6 t1 A1 c1 l1 d1 _ (Kd.R_reads' HO6.out).2.2 (Kd.R_reads' HO6.out).2.1 (Kd.C_below HR1.out (below_step (below_alloc HNW.out.hB _) HB6.out)) hc1 HD1.out).mono ?_); rintro e w7 ⟨rfl, hb7⟩; refine ⟨_, rfl, ?_⟩; have HB7 := Aside0.mk hb7; clear hb7; have hc13 : w7.cell? ⟨wr.heap.size, 0, none⟩ = some (.slice A c.f0.length n) := (blk_cell (blk_below (blk_below (near_new wr (.cells #[.slice A c.f0.length n] 29)) HB6.out) HB7.out) 0).trans rfl; have hc10 : w7.cell? ⟨g10, 0, none⟩ = some (.slice A2 b2.length c2) := (blk_cell (blk_below (blk_below (blk_alloc HNW.out.h10 _) HB6.out) HB7.out) 0).trans rfl; have hf10 := blk_frozen (blk_below (blk_below (blk_alloc HNW.out.h10 (.cells #[.slice A c.f0.length n] 29)) HB6.out) HB7.out) 0))
            have HN7 := Aside0.mk (((HNW.out.alloc (.cells #[.slice A c.f0.length n] 29)).below HB6.out).below HB7.out); have HR7 := Aside0.mk (Kd.R_below (Kd.R_below (Kd.R_alloc HRc.out (.cells #[.slice A c.f0.length n] 29)) HB6.out) HB7.out)
            go_roundw
            case rel => exact ⟨i + 1, b2, A2, c2, d2, by omega, rfl, by go_num, ⟨by have q := HH2.out; rw [if_neg hd] at q; exact q⟩, HN7⟩
            case measure => simp [intOf]; omega
        · have q := HH.out
          rw [List.drop_eq_nil_of_le (by omega), near_l] at q
          simp only [Option.some.injEq, Prod.mk.injEq] at q
          obtain ⟨rfl, rfl, rfl⟩ := q
          have hc10 : wr.cell? ⟨g10, 0, none⟩ = some (.slice A2 b2.length c2) := (blk_cell HNW.out.h10 0).trans rfl
          have hc4 : wr.cell? ⟨g4, 0, none⟩ = some (.slice none 0 0) := (blk_cell HNW.out.h4 0).trans rfl
          have hf4 := blk_frozen HNW.out.h4 0
          go_wp2
          refine bodyPost_ret (results_ctt rfl _ _ g4 29 #[.slice A2 b2.length c2] (0, 0) _ rfl (blk_put (cs := #[.slice none 0 0]) HNW.out.h4 0 _ rfl) Try.underlying29 rfl (by kernel_rfl)) rfl ?_
          exact ⟨_, by first | rfl | (simp; done), Kd.R_mono (Kd.R_far (Kd.R_types HNW.out.hR HNW.out.h4 (by decide)) (fun _ hk => hk.2) _) (fun _ _ => trivial), below_set HNW.out.hB GE4.out⟩
theorem impl_NearestHeard.calls (a0 : Int) (A1 : Option Addr) (c1 : Nat) (l1 : List Int) (r1 : List Int) (r2 : Int) (r3 : Bool) (w : World) (hr1 : Kd.C (Kd.int .i64) w A1 l1.length l1) (hc1 : l1.length ≤ c1) (h : impl_NearestHeard.f a0 l1 = some (r1, r2, r3)) :
    Calls Try.prog 23 #[.int .i64 a0, .slice A1 l1.length c1] w fun e w' => ∃ v0_ : Value, e = .returned (.tuple #[.agg #[v0_], .int .i64 r2, .bool r3]) ∧ Kd.R (Kd.int .i64) 3 w' w.heap.size (fun _ => True) v0_ r1 ∧ Below w.heap.size w w' := by
  unfold impl_NearestHeard.f at h
  exact near_calls _ a0 A1 c1 l1 r1 r2 r3 w hr1 hc1 h

end Go.Proofs.Ytdcpbnddnbeofaa.PFnHeard
