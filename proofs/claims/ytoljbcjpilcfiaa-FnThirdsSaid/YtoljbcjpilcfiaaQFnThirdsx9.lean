/- Functions that the law FnThirds reaches, each as a Lean function with the proof that the Go code comes to its answers. Conditions: none. Printed by the kit's print, repaired by a program of this session. -/
import Derived.Test.YtoljbcjpilcfiaaQFnThirdsx0
import Derived.Test.YtoljbcjpilcfiaaQFnThirdsx1
import Derived.Test.YtoljbcjpilcfiaaQFnThirdsx2
import Derived.Test.YtoljbcjpilcfiaaQFnThirdsx5
import Derived.Test.YtoljbcjpilcfiaaQFnThirdsx6
import Derived.Test.YtoljbcjpilcfiaaQFnThirdsx7
import Derived.Test.YtoljbcjpilcfiaaQFnThirdsx8
namespace Go.Proofs.Ytoljbcjpilcfiaa.PFnThirds
open Go.RowKit Go.Proofs.YtoljbcjpilcfiaaW.PrintWords Go.Proofs.YtoljbcjpilcfiaaW.PrintLast Go.Proofs.YtoljbcjpilcfiaaW.PrintMore
attribute [local go_sem] max2_int min2_int max_two min_two max_three min_three max_four min_four   -- for this text's walks alone
set_option linter.unusedVariables false
set_option linter.unusedSimpArgs false

attribute [local go_sem high] eqA29
/-! ### laws_FnThirds: function 5 -/
def laws_FnThirds.l0 : Nat → Int → Int → List Int → Int → Int → Int → Int → Option (Bool)
  | 0, _, _, _, _, _, _, _ => none
  | k + 1, x4, x6, x340000, x346000, x346001, x346002, x346003 => if x6 < 4 then ((impl_FifthAt.f k x340000 (Int.tmod (wrap64 (x4 + x6)) 12)).bind fun bt346 => ((impl_AddIntervals.f k x346000 x346001 x346002 x346003 bt346.1 bt346.2.1 bt346.2.2.1 bt346.2.2.2).bind fun bt350 => (if bt350.2.2.2.2 = true then (laws_FnThirds.l0 k x4 (wrap64 (x6 + 1)) x340000 bt350.1 bt350.2.1 bt350.2.2.1 bt350.2.2.2.1) else (some false)))) else ((impl_PureOf.f 2 0 (-1)).bind fun bt356 => ((impl_AddIntervals.f k x346000 x346001 x346002 x346003 bt356.1 bt356.2.1 bt356.2.2.1 bt356.2.2.2).bind fun bt360 => ((impl_IsWideThird.f k x340000 x4).bind fun t366 => ((impl_SmallThirdParts.f k x340000 x4).bind fun t367 => ((impl_ThirdAt.f k x340000 x4).bind fun bt368 => (if (x346000 == bt368.1 && (x346001 == bt368.2.1 && (x346002 == bt368.2.2.1 && (x346003 == bt368.2.2.2)))) = true then (if bt360.2.2.2.2 = true then ((impl_ThirdError.f k x340000 x4).bind fun bt372 => (if (bt360.1 == bt372.1 && (bt360.2.1 == bt372.2.1 && (bt360.2.2.1 == bt372.2.2.1 && (bt360.2.2.2.1 == bt372.2.2.2)))) = true then ((impl_ThirdParts.f k x340000 x4).bind fun t376 => (if (t366 == (decide (t376 < 12))) = true then ((impl_SignOf.f k bt360.1 bt360.2.1 bt360.2.2.1 bt360.2.2.2.1).bind fun t377 => (if (t366 == (decide (t377 > 0))) = true then (if 0 ≤ (Int.tmod (wrap64 (x4 + 9)) 12) then (if (Int.tmod (wrap64 (x4 + 9)) 12) < (x340000.length : Int) then (if 0 ≤ (Int.tmod (wrap64 (x4 + 10)) 12) then (if (Int.tmod (wrap64 (x4 + 10)) 12) < (x340000.length : Int) then (if 0 ≤ (Int.tmod (wrap64 (x4 + 11)) 12) then (if (Int.tmod (wrap64 (x4 + 11)) 12) < (x340000.length : Int) then (some ((wrap64 (12 - t367)) == (wrap64 ((wrap64 ((rd x340000 (Int.tmod (wrap64 (x4 + 9)) 12)) + (rd x340000 (Int.tmod (wrap64 (x4 + 10)) 12)))) + (rd x340000 (Int.tmod (wrap64 (x4 + 11)) 12)))))) else (none)) else (none)) else (none)) else (none)) else (none)) else (none)) else (some false))) else (some false))) else (some false))) else (some false)) else (some false)))))))
def laws_FnThirds.f (k : Nat) (l0 : List Int) : Option (Bool) := (laws_big.f l0).bind fun t335 => (if t335 = true then (some true) else ((spec_DrawCircle.f k l0).bind fun t336 => ((laws_at.f l0 0).bind fun t340 => ((impl_PureOf.f (-2) 0 0).bind fun bt341 => (laws_FnThirds.l0 k (Int.tmod t340 12) 0 t336 bt341.1 bt341.2.1 bt341.2.2.1 bt341.2.2.2)))))
theorem laws_FnThirds.mono_l : ∀ k, (∀ y0 y1 y2 y3 y4 y5 y6, LeO (laws_FnThirds.l0 k y0 y1 y2 y3 y4 y5 y6) (laws_FnThirds.l0 (k + 1) y0 y1 y2 y3 y4 y5 y6))
  | 0 => fun _ _ _ _ _ _ _ r h => by simp [laws_FnThirds.l0] at h
  | k + 1 => by
    have ih0 := laws_FnThirds.mono_l k
    · intro y0 y1 y2 y3 y4 y5 y6
      unfold laws_FnThirds.l0
      repeat' first
      | (with_reducible exact ih0 _ _ _ _ _ _ _)
      | (with_reducible exact impl_AddIntervals.mono _ _ _ _ _ _ _ _ _)
      | (with_reducible exact impl_FifthAt.mono _ _ _)
      | (with_reducible exact impl_IsWideThird.mono _ _ _)
      | (with_reducible exact impl_SignOf.mono _ _ _ _ _)
      | (with_reducible exact impl_SmallThirdParts.mono _ _ _)
      | (with_reducible exact impl_ThirdAt.mono _ _ _)
      | (with_reducible exact impl_ThirdError.mono _ _ _)
      | (with_reducible exact impl_ThirdParts.mono _ _ _)
      | (with_reducible exact spec_DrawCircle.mono _ _)
      | (with_reducible exact LeO.refl _)
      | (with_reducible exact LeO.none _)
      | (with_reducible refine LeO.ite ?_ ?_)
      | (with_reducible refine LeO.bind ?_ (fun _ => ?_))
      | exact ih0 _ _ _ _ _ _ _
      | exact impl_AddIntervals.mono _ _ _ _ _ _ _ _ _
      | exact impl_FifthAt.mono _ _ _
      | exact impl_IsWideThird.mono _ _ _
      | exact impl_SignOf.mono _ _ _ _ _
      | exact impl_SmallThirdParts.mono _ _ _
      | exact impl_ThirdAt.mono _ _ _
      | exact impl_ThirdError.mono _ _ _
      | exact impl_ThirdParts.mono _ _ _
      | exact spec_DrawCircle.mono _ _
      | exact LeO.none _
      | refine LeO.ite ?_ ?_
      | refine LeO.bind ?_ (fun _ => ?_)
theorem laws_FnThirds.mono : ∀ a0 k, LeO (laws_FnThirds.f k a0) (laws_FnThirds.f (k + 1) a0) := by
  intro a0 k
  have ih0 := laws_FnThirds.mono_l k
  unfold laws_FnThirds.f
  repeat' first
      | (with_reducible exact ih0 _ _ _ _ _ _ _)
      | (with_reducible exact impl_AddIntervals.mono _ _ _ _ _ _ _ _ _)
      | (with_reducible exact impl_FifthAt.mono _ _ _)
      | (with_reducible exact impl_IsWideThird.mono _ _ _)
      | (with_reducible exact impl_SignOf.mono _ _ _ _ _)
      | (with_reducible exact impl_SmallThirdParts.mono _ _ _)
      | (with_reducible exact impl_ThirdAt.mono _ _ _)
      | (with_reducible exact impl_ThirdError.mono _ _ _)
      | (with_reducible exact impl_ThirdParts.mono _ _ _)
      | (with_reducible exact spec_DrawCircle.mono _ _)
      | (with_reducible exact LeO.refl _)
      | (with_reducible exact LeO.none _)
      | (with_reducible refine LeO.ite ?_ ?_)
      | (with_reducible refine LeO.bind ?_ (fun _ => ?_))
      | exact ih0 _ _ _ _ _ _ _
      | exact impl_AddIntervals.mono _ _ _ _ _ _ _ _ _
      | exact impl_FifthAt.mono _ _ _
      | exact impl_IsWideThird.mono _ _ _
      | exact impl_SignOf.mono _ _ _ _ _
      | exact impl_SmallThirdParts.mono _ _ _
      | exact impl_ThirdAt.mono _ _ _
      | exact impl_ThirdError.mono _ _ _
      | exact impl_ThirdParts.mono _ _ _
      | exact spec_DrawCircle.mono _ _
      | exact LeO.none _
      | refine LeO.ite ?_ ?_
      | refine LeO.bind ?_ (fun _ => ?_)
def laws_FnThirds.T9 : Bool × List (List Nat × List Nat) := (true, [([], []), ([], []), ([], []), ([], []), ([2, 3], [2, 3]), ([4], [4]), ([1, 5], [1, 5]), ([0, 6, 6], [0, 6]), ([7], [7]), ([8], [8]), ([8], [8]), ([], []), ([11, 9, 7, 0, 1, 2, 3, 4, 5, 6, 7, 8, 9, 11], [9, 11]), ([10, 12, 0, 1, 2, 3, 4, 5, 6, 7, 8, 9, 10, 11, 12], [10])])
def laws_FnThirds.B9 : List Nat := [0, 0, 0, 0, 12, 28, 62, 127, 255, 511, 511, 0, 3071, 8191]
theorem laws_FnThirds.tab9 : rtab .any (opsOf Try.f5 9) = laws_FnThirds.T9 := by kernel_rfl
theorem laws_FnThirds.bits9 : waitsOk laws_FnThirds.T9.2 laws_FnThirds.B9 = true := by kernel_rfl
def laws_FnThirds.T13 : Bool × List (List Nat × List Nat) := (true, [([], []), ([], []), ([0, 1, 1], [0, 1]), ([2], [2]), ([3], [3]), ([3], [3]), ([], []), ([6, 4, 2, 0, 1, 2, 3, 4, 6], [4, 6]), ([5, 7, 0, 1, 2, 3, 4, 5, 6, 7], [5])])
def laws_FnThirds.B13 : List Nat := [0, 0, 3, 7, 15, 15, 0, 95, 255]
theorem laws_FnThirds.tab13 : rtab .any (opsOf Try.f5 13) = laws_FnThirds.T13 := by kernel_rfl
theorem laws_FnThirds.bits13 : waitsOk laws_FnThirds.T13.2 laws_FnThirds.B13 = true := by kernel_rfl
def laws_FnThirds.T16 : Bool × List (List Nat × List Nat) := (true, [([], []), ([], []), ([], []), ([1, 2], [1, 2]), ([0, 3], [0, 3]), ([4, 3], [4]), ([5], [5]), ([5, 6], [5, 6]), ([7, 5], [7]), ([8], [8]), ([8], [8]), ([8], [8]), ([10, 11, 8, 8], [8, 10, 11]), ([9, 12, 8], [8, 9, 12]), ([8, 13], [8, 13]), ([14, 12], [14]), ([15], [15]), ([15], [15]), ([15], [15]), ([17, 18, 15, 15], [15, 17, 18]), ([19, 15], [15, 19]), ([16, 20, 15], [15, 16, 20]), ([15, 21], [15, 21]), ([22, 19], [22]), ([23], [23]), ([23], [23]), ([25, 23, 23], [23, 25]), ([26, 23], [23, 26]), ([24, 27, 23], [23, 24, 27]), ([23, 28], [23, 28]), ([29, 26], [29]), ([30], [30]), ([30], [30]), ([32, 30], [30, 32]), ([30], [30]), ([34, 30], [30, 34]), ([35, 30], [30, 35]), ([33, 36, 30], [30, 33, 36]), ([37, 30], [30, 37]), ([30], [30]), ([39, 30], [30, 39]), ([30], [30]), ([41, 30], [30, 41]), ([42, 30], [30, 42]), ([40, 43, 30], [30, 40, 43]), ([44, 30], [30, 44]), ([38, 45, 30], [30, 38, 45]), ([30], [30]), ([47, 30], [30, 47]), ([30], [30]), ([49, 30], [30, 49]), ([50, 30], [30, 50]), ([48, 51, 30], [30, 48, 51]), ([52, 30], [30, 52]), ([46, 53, 30], [30, 46, 53]), ([31, 54, 30], [30, 31, 54]), ([30, 55], [30, 55]), ([56, 30, 0, 1, 2, 3, 4, 5, 6, 7, 8, 9, 10, 11, 12, 13, 14, 15, 16, 17, 18, 19, 20, 21, 22, 23, 24, 25, 26, 27, 28, 29, 30, 31, 32, 33, 34, 35, 36, 37, 38, 39, 40, 41, 42, 43, 44, 45, 46, 47, 48, 49, 50, 51, 52, 53, 54, 55, 56], [56])])
def laws_FnThirds.B16 : List Nat := [0, 0, 0, 6, 15, 31, 63, 127, 255, 511, 511, 511, 3583, 8191, 16383, 32767, 65535, 65535, 65535, 458751, 983039, 2097151, 4194303, 8388607, 16777215, 16777215, 50331647, 117440511, 268435455, 536870911, 1073741823, 2147483647, 2147483647, 6442450943, 2147483647, 19327352831, 53687091199, 135291469823, 272730423295, 2147483647, 551903297535, 2147483647, 2201170739199, 6599217250303, 17044577714175, 34636763758591, 70366596694015, 2147483647, 140739635838975, 2147483647, 562952100904959, 1688852007747583, 4362864286498815, 8866463913869311, 18014396361998335, 36028797018963967, 72057594037927935, 144115188075855871]
theorem laws_FnThirds.tab16 : rtab .any (opsOf Try.f5 16) = laws_FnThirds.T16 := by kernel_rfl
theorem laws_FnThirds.bits16 : waitsOk laws_FnThirds.T16.2 laws_FnThirds.B16 = true := by kernel_rfl
set_option maxHeartbeats 60000000 in
set_option maxRecDepth 100000 in
theorem laws_FnThirds.calls (k : Nat) (A0 : Option Addr) (c0 : Nat) (l0 : List Int) (w : World) (hr0 : Kd.C (Kd.int .u8) w A0 l0.length l0) (hc0 : l0.length ≤ c0) (h : laws_FnThirds.f k l0 = some true) :
    Calls Try.prog 5 #[.slice A0 l0.length c0] w fun e w' => e = .returned (.bool true) ∧ Below w.heap.size w w' := by
  have hu49 := Try.underlying49
  have hu29 := Try.underlying29
  have HR0 := Aside0.mk hr0
  have HC0 := Aside0.mk hc0
  clear hr0 hc0
  have HB := Aside0.mk (Below.refl w.heap.size w)
  have H : ((laws_big.f l0).bind fun t335 => (if t335 = true then (some true) else ((spec_DrawCircle.f k l0).bind fun t336 => ((laws_at.f l0 0).bind fun t340 => ((impl_PureOf.f (-2) 0 0).bind fun bt341 => (laws_FnThirds.l0 k (Int.tmod t340 12) 0 t336 bt341.1 bt341.2.1 bt341.2.2.1 bt341.2.2.2)))))) = some true := h
  clear h
  replace H := Option.bind_eq_some_iff.mp H
  obtain ⟨t335, A20, H⟩ := H
  replace H : (if t335 = true then (some true) else ((spec_DrawCircle.f k l0).bind fun t336 => ((laws_at.f l0 0).bind fun t340 => ((impl_PureOf.f (-2) 0 0).bind fun bt341 => (laws_FnThirds.l0 k (Int.tmod t340 12) 0 t336 bt341.1 bt341.2.1 bt341.2.2.1 bt341.2.2.2))))) = some true := H
  have A2 := Aside0.mk A20
  clear A20
  by_cases c3 : t335 = true
  · subst c3
    have H1 : (some true) = some true := by first | (rw [if_pos rfl] at H; exact H) | rfl
    clear H
    have H := H1
    clear H1
    have Hq_ := Aside0.mk (Option.some.inj H)
    clear H
    go_enter Try.func5, Try.ntmps5
    go_wp2_with (first | ((with_reducible refine gate_callee (f := 14) rfl ?_); refine goesL_ (some 14) rfl rfl Try.func14 (by kernel_rfl) rfl #[.slice A0 l0.length c0] rfl (by (try simp only [List.map_toArray, List.map_cons, List.map_nil]); first | done | rfl | (simp only [List.length_drop, List.length_take]; rfl)) ?_; (with_reducible refine (laws_big.calls _ _ l0 true _ ?side1 ?side2 A2.out).mono ?_); (case side1 => repeat (first | exact HR0.out | (with_reducible refine Kd.C_alloc ?_ _) | (with_reducible refine Kd.C_drewN ?_ _) | (with_reducible refine Kd.C_drew ?_))); (case side2 => exact HC0.out); rintro e w' ⟨rfl, ⟨nd, rfl⟩⟩; refine ⟨_, rfl, ?_⟩))
    go_ret
    exact ⟨by first | rfl | exact congrArg (fun b_ => Ending.returned (Value.bool b_)) Hq_.out | (simp [errW_none, errW_some]; exact beq_iff_eq.1 Hq_.out) | (simp [errW_none, errW_some]; exact Hq_.out) | (simp [errW_none, errW_some] <;> rfl) | (simp [*, errW_none, errW_some] <;> rfl), by repeat (first | (with_reducible first | exact HB.out | apply below_alloc | apply pw_below_drewN | apply below_drew1) | exact HB.out)⟩
  · replace c3 := Bool.eq_false_iff.mpr c3
    subst c3
    have H1 : ((spec_DrawCircle.f k l0).bind fun t336 => ((laws_at.f l0 0).bind fun t340 => ((impl_PureOf.f (-2) 0 0).bind fun bt341 => (laws_FnThirds.l0 k (Int.tmod t340 12) 0 t336 bt341.1 bt341.2.1 bt341.2.2.1 bt341.2.2.2)))) = some true := by first | (rw [if_neg (show ¬ (false = true) by decide)] at H; exact H) | rfl
    clear H
    have H := H1
    clear H1
    replace H := Option.bind_eq_some_iff.mp H
    obtain ⟨t336, A40, H⟩ := H
    replace H : ((laws_at.f l0 0).bind fun t340 => ((impl_PureOf.f (-2) 0 0).bind fun bt341 => (laws_FnThirds.l0 k (Int.tmod t340 12) 0 t336 bt341.1 bt341.2.1 bt341.2.2.1 bt341.2.2.2))) = some true := H
    have A4 := Aside0.mk A40
    clear A40
    replace H := Option.bind_eq_some_iff.mp H
    obtain ⟨t340, A50, H⟩ := H
    replace H : ((impl_PureOf.f (-2) 0 0).bind fun bt341 => (laws_FnThirds.l0 k (Int.tmod t340 12) 0 t336 bt341.1 bt341.2.1 bt341.2.2.1 bt341.2.2.2)) = some true := H
    have A5 := Aside0.mk A50
    clear A50
    replace H := Option.bind_eq_some_iff.mp H
    obtain ⟨⟨t341, t342, t343, t344⟩, A60, H⟩ := H
    replace H : (laws_FnThirds.l0 k (Int.tmod t340 12) 0 t336 t341 t342 t343 t344) = some true := H
    have A6 := Aside0.mk A60
    clear A60
    have H' := Aside0.mk H
    clear H
    go_enter Try.func5, Try.ntmps5
    go_wp2_with (first | ((with_reducible refine gate_callee (f := 14) rfl ?_); refine goesL_ (some 14) rfl rfl Try.func14 (by kernel_rfl) rfl #[.slice A0 l0.length c0] rfl (by (try simp only [List.map_toArray, List.map_cons, List.map_nil]); first | done | rfl | (simp only [List.length_drop, List.length_take]; rfl)) ?_; (with_reducible refine (laws_big.calls _ _ l0 false _ ?side1 ?side2 A2.out).mono ?_); (case side1 => repeat (first | exact HR0.out | (with_reducible refine Kd.C_alloc ?_ _) | (with_reducible refine Kd.C_drewN ?_ _) | (with_reducible refine Kd.C_drew ?_))); (case side2 => exact HC0.out); rintro e w' ⟨rfl, ⟨nd, rfl⟩⟩; refine ⟨_, rfl, ?_⟩) | ((with_reducible refine gate_callee (f := 28) rfl ?_); refine goesL_ (some 16) rfl rfl Try.func28 (by kernel_rfl) rfl #[.slice A0 l0.length c0] rfl (by (try simp only [List.map_toArray, List.map_cons, List.map_nil]); first | done | rfl | (simp only [List.length_drop, List.length_take]; rfl)) ?_; (with_reducible refine (spec_DrawCircle.calls k _ _ l0 t336 _ ?side1 ?side2 A4.out).mono ?_); (case side1 => repeat (first | exact HR0.out | (with_reducible refine Kd.C_alloc ?_ _) | (with_reducible refine Kd.C_drewN ?_ _) | (with_reducible refine Kd.C_drew ?_))); (case side2 => exact HC0.out); rintro e w7 ⟨v337, rfl, ho0, hb⟩; refine ⟨_, rfl, ?_⟩; have n0_ := Aside0.mk (Kd.R_lower ho0 (below_size (by repeat (first | (with_reducible first | exact HB.out | apply below_alloc | apply pw_below_drewN | apply below_drew1) | exact HB.out)))); have n1_ := Aside0.mk (below_step (by repeat (first | (with_reducible first | exact HB.out | apply below_alloc | apply pw_below_drewN | apply below_drew1) | exact HB.out)) hb); clear HB; have HO338 := n0_; have HB := n1_; clear n0_ n1_; (try clear hb); (try clear hb2); (try clear hk); (try clear hi); (try clear ho0)) | ((with_reducible refine gate_dst (N := 3) rfl ?_); refine box_event ?hg (N := 3) ?hd (cs := #[.slice none 0 0]) (t := 49) ?hr ?_; (case hd => rfl); (case hg => rfl); (case hr => first | (go_simp; done) | (go_simp; rfl)); intro gb339 hg w8 hbox hb; have n0_ := Aside0.mk (Kd.R_below (by (with_reducible repeat (first | apply Kd.R_alloc | apply Kd.R_drewN | apply Kd.R_drew)); exact HO338.out) hb); have n1_ := Aside0.mk (below_step (by repeat (first | (with_reducible first | exact HB.out | apply below_alloc | apply pw_below_drewN | apply below_drew1) | exact HB.out)) hb); have n2_ := Aside0.mk (hbox); have n3_ := Aside0.mk ((by rw [hg]; exact (below_size (by repeat (first | (with_reducible first | exact HB.out | apply below_alloc | apply pw_below_drewN | apply below_drew1) | exact HB.out))) : w.heap.size ≤ gb339)); have n4_ := Aside0.mk ((by rw [hg]; exact (below_size (by repeat (first | (with_reducible first | exact HB.out | apply below_alloc | apply pw_below_drewN | apply below_drew1) | exact HB.out))) : w.heap.size ≤ gb339)); clear HO338; clear HB; have HO338 := n0_; have HB := n1_; have BK339 := n2_; have GW339 := n3_; have GE339 := n4_; clear n0_ n1_ n2_ n3_ n4_; clear hb hbox hg; obtain ⟨Ao9, co9, eo9⟩ := Kd.R_slice HO338.out; subst eo9; have hcz10_0 : w8.cell? ⟨gb339, 0, none⟩ = some (.slice none 0 0) := (blk_cell BK339.out 0).trans rfl; have hfz10_0 := blk_frozen BK339.out 0) | ((with_reducible refine gate_callee (f := 21) rfl ?_); refine goesL_ (some 18) rfl rfl Try.func21 (by kernel_rfl) rfl #[.slice A0 l0.length c0, .int .i64 0] rfl (by (try simp only [List.map_toArray, List.map_cons, List.map_nil]); first | done | rfl | (simp only [List.length_drop, List.length_take]; rfl)) ?_; (with_reducible refine (laws_at.calls _ _ l0 0 t340 _ ?side1 ?side2 A5.out).mono ?_); (case side1 => exact Kd.C_below HR0.out (by repeat (first | (with_reducible first | exact HB.out | apply below_alloc | apply pw_below_drewN | apply below_drew1 | refine below_set ?_ GE339.out) | exact HB.out))); (case side2 => exact HC0.out); rintro e w' ⟨rfl, ⟨nd, rfl⟩⟩; refine ⟨_, rfl, ?_⟩) | ((with_reducible refine gate_callee (f := 29) rfl ?_); refine goesL_ (some 20) rfl rfl Try.func29 (by kernel_rfl) rfl #[.int .i64 (-2), .int .i64 0, .int .i64 0] rfl (by (try simp only [List.map_toArray, List.map_cons, List.map_nil]); first | done | rfl | (simp only [List.length_drop, List.length_take]; rfl)) ?_; (with_reducible refine (impl_PureOf.calls (-2) 0 0 t341 t342 t343 t344 _ A6.out).mono ?_); rintro e w11 ⟨rfl, hb⟩; refine ⟨_, rfl, ?_⟩; have n0_ := Aside0.mk (Kd.R_below (by (with_reducible repeat (first | apply Kd.R_alloc | apply Kd.R_drewN | apply Kd.R_drew)); exact (Kd.R_mono (Kd.R_far (p := ⟨gb339, 0, none⟩) (Kd.R_types HO338.out BK339.out (by decide)) (fun _ hk => hk.2) (.slice Ao9 t336.length co9)) (fun _ h_ => h_.1))) hb); have n1_ := Aside0.mk (blk_below (g := gb339) (o := .cells #[.slice Ao9 t336.length co9] 49 (0, 0)) (by (with_reducible repeat (first | refine blk_drewN ?_ _ | refine blk_drew ?_ | refine blk_alloc ?_ _)); refine blk_put (cs := #[.slice none 0 0]) ?_ 0 _ rfl; (with_reducible repeat (first | refine blk_drewN ?_ _ | refine blk_drew ?_ | refine blk_alloc ?_ _)); exact BK339.out) hb); have n2_ := Aside0.mk (below_step (by repeat (first | (with_reducible first | exact HB.out | apply below_alloc | apply pw_below_drewN | apply below_drew1 | refine below_set ?_ GE339.out) | exact HB.out)) hb); clear HO338; clear BK339; clear HB; have HO338 := n0_; have BK339 := n1_; have HB := n2_; clear n0_ n1_ n2_; (try clear hb); (try clear hb2); (try clear hk); (try clear hi)) | ((with_reducible refine gate_dst (N := 5) rfl ?_); refine box_event ?hg (N := 5) ?hd (cs := #[.int .i64 0, .int .i64 0, .int .i64 0, .int .i64 0]) (t := 29) ?hr ?_; (case hd => rfl); (case hg => rfl); (case hr => first | (go_simp; done) | (go_simp; rfl)); intro gb345 hg w12 hbox hb; have n0_ := Aside0.mk (Kd.R_below (by (with_reducible repeat (first | apply Kd.R_alloc | apply Kd.R_drewN | apply Kd.R_drew)); exact HO338.out) hb); have n1_ := Aside0.mk (blk_below (g := gb339) (o := .cells #[.slice Ao9 t336.length co9] 49 (0, 0)) (by (with_reducible repeat (first | refine blk_drewN ?_ _ | refine blk_drew ?_ | refine blk_alloc ?_ _)); exact BK339.out) hb); have n2_ := Aside0.mk (below_step (by repeat (first | (with_reducible first | exact HB.out | apply below_alloc | apply pw_below_drewN | apply below_drew1 | refine below_set ?_ GE339.out) | exact HB.out)) hb); have n3_ := Aside0.mk (hbox); have n4_ := Aside0.mk ((by rw [hg]; exact (below_size (by repeat (first | (with_reducible first | exact HB.out | apply below_alloc | apply pw_below_drewN | apply below_drew1 | refine below_set ?_ GE339.out) | exact HB.out))) : w.heap.size ≤ gb345)); have n5_ := Aside0.mk ((by rw [hg]; exact (below_size (by repeat (first | (with_reducible first | exact HB.out | apply below_alloc | apply pw_below_drewN | apply below_drew1 | refine below_set ?_ GE339.out) | exact HB.out))) : w.heap.size ≤ gb345)); have n6_ := Aside0.mk ((by rw [hg]; exact Nat.ne_of_lt (blk_lt (g := gb339) (o := .cells #[.slice Ao9 t336.length co9] 49 (0, 0)) (by (with_reducible repeat (first | refine blk_drewN ?_ _ | refine blk_drew ?_ | refine blk_alloc ?_ _)); exact BK339.out)) : gb339 ≠ gb345)); have n7_ := Aside0.mk ((by rw [hg]; exact Nat.ne_of_gt (blk_lt (g := gb339) (o := .cells #[.slice Ao9 t336.length co9] 49 (0, 0)) (by (with_reducible repeat (first | refine blk_drewN ?_ _ | refine blk_drew ?_ | refine blk_alloc ?_ _)); exact BK339.out)) : gb345 ≠ gb339)); clear HO338; clear BK339; clear HB; have HO338 := n0_; have BK339 := n1_; have HB := n2_; have BK345 := n3_; have GW345 := n4_; have GE345 := n5_; have NB339_345 := n6_; have NB345_339 := n7_; clear n0_ n1_ n2_ n3_ n4_ n5_ n6_ n7_; clear hb hbox hg; have hnb13 := NB345_339.out; have hnc13 := NB339_345.out; have hcz14_0 : w12.cell? ⟨gb345, 0, none⟩ = some (.int .i64 0) := (blk_cell BK345.out 0).trans rfl; have hcz14_1 : w12.cell? ⟨gb345, 1, none⟩ = some (.int .i64 0) := (blk_cell BK345.out 1).trans rfl; have hcz14_2 : w12.cell? ⟨gb345, 2, none⟩ = some (.int .i64 0) := (blk_cell BK345.out 2).trans rfl; have hcz14_3 : w12.cell? ⟨gb345, 3, none⟩ = some (.int .i64 0) := (blk_cell BK345.out 3).trans rfl; have hfz14_0 := blk_frozen BK345.out 0; have hfz14_1 := blk_frozen BK345.out 1; have hfz14_2 := blk_frozen BK345.out 2; have hfz14_3 := blk_frozen BK345.out 3))
    go_loopg [6] k (fun kq v6 w' => ∃ (x6_1 : Int) (x346000_1 : Int) (x346001_1 : Int) (x346002_1 : Int) (x346003_1 : Int), v6 = .int .i64 x6_1 ∧ Aside0 (laws_FnThirds.l0 kq (Int.tmod t340 12) x6_1 t336 x346000_1 x346001_1 x346002_1 x346003_1 = some true) ∧ Aside0 (kq ≤ k) ∧ Aside0 (Kd.R (Kd.int .i64) 3 w' w.heap.size (fun _ => True) (.slice Ao9 t336.length co9) t336) ∧ Aside0 (w'.heap[gb339]? = some (.cells #[(.slice Ao9 t336.length co9)] 49 (0, 0))) ∧ Aside0 (w'.heap[gb345]? = some (.cells #[.int .i64 x346000_1, .int .i64 x346001_1, .int .i64 x346002_1, .int .i64 x346003_1] 29 (0, 0))) ∧ Aside0 (Below w.heap.size w w'))
    case atStart => exact ⟨(0), (t341), (t342), (t343), (t344), (by first | rfl | (simp; done) | (simp [*]; done)), H', ⟨Nat.le_refl _⟩, ⟨by (with_reducible repeat (first | apply Kd.R_alloc | apply Kd.R_drewN | apply Kd.R_drew)); exact Kd.R_mono (Kd.R_far (p := ⟨gb345, 3, none⟩) (Kd.R_far (p := ⟨gb345, 2, none⟩) (Kd.R_far (p := ⟨gb345, 1, none⟩) (Kd.R_far (p := ⟨gb345, 0, none⟩) (Kd.R_types HO338.out BK345.out (by decide)) (fun _ hk => hk.2) (.int .i64 t341)) (fun _ hk => hk.2) (.int .i64 t342)) (fun _ hk => hk.2) (.int .i64 t343)) (fun _ hk => hk.2) (.int .i64 t344)) (fun _ hk => trivial)⟩, ⟨by (with_reducible repeat (first | refine blk_drewN ?_ _ | refine blk_drew ?_ | refine blk_alloc ?_ _)); refine blk_far ?_ NB339_345.out _; (with_reducible repeat (first | refine blk_drewN ?_ _ | refine blk_drew ?_ | refine blk_alloc ?_ _)); refine blk_far ?_ NB339_345.out _; (with_reducible repeat (first | refine blk_drewN ?_ _ | refine blk_drew ?_ | refine blk_alloc ?_ _)); refine blk_far ?_ NB339_345.out _; (with_reducible repeat (first | refine blk_drewN ?_ _ | refine blk_drew ?_ | refine blk_alloc ?_ _)); refine blk_far ?_ NB339_345.out _; (with_reducible repeat (first | refine blk_drewN ?_ _ | refine blk_drew ?_ | refine blk_alloc ?_ _)); exact BK339.out⟩, ⟨by (with_reducible repeat (first | refine blk_drewN ?_ _ | refine blk_drew ?_ | refine blk_alloc ?_ _)); refine blk_put (cs := #[.int .i64 t341, .int .i64 t342, .int .i64 t343, .int .i64 0]) ?_ 3 _ rfl; (with_reducible repeat (first | refine blk_drewN ?_ _ | refine blk_drew ?_ | refine blk_alloc ?_ _)); refine blk_put (cs := #[.int .i64 t341, .int .i64 t342, .int .i64 0, .int .i64 0]) ?_ 2 _ rfl; (with_reducible repeat (first | refine blk_drewN ?_ _ | refine blk_drew ?_ | refine blk_alloc ?_ _)); refine blk_put (cs := #[.int .i64 t341, .int .i64 0, .int .i64 0, .int .i64 0]) ?_ 1 _ rfl; (with_reducible repeat (first | refine blk_drewN ?_ _ | refine blk_drew ?_ | refine blk_alloc ?_ _)); refine blk_put (cs := #[.int .i64 0, .int .i64 0, .int .i64 0, .int .i64 0]) ?_ 0 _ rfl; (with_reducible repeat (first | refine blk_drewN ?_ _ | refine blk_drew ?_ | refine blk_alloc ?_ _)); exact BK345.out⟩, ⟨by repeat (first | (with_reducible first | exact HB.out | apply below_alloc | apply pw_below_drewN | apply below_drew1 | refine below_set ?_ GE339.out | refine below_set ?_ GE345.out) | exact HB.out)⟩⟩
    case round =>
      clear H'
      try clear c1
      try clear c2
      try clear p2
      try clear c3
      try clear c5
      try clear c13
      try clear c14
      try clear hcz10_0
      try clear hcz14_0
      try clear hcz14_1
      try clear hcz14_2
      try clear hcz14_3
      try clear hfz10_0
      try clear hfz14_0
      try clear hfz14_1
      try clear hfz14_2
      try clear hfz14_3
      obtain ⟨x6_1, x346000_1, x346001_1, x346002_1, x346003_1, rfl, HA, HK1, HO_340000, BK339, BK345, HB⟩ := hrel
      cases gk with
      | zero => exact absurd HA.out (by simp [laws_FnThirds.l0])
      | succ k1 =>
        have H := HA.out
        clear HA
        simp only [laws_FnThirds.l0] at H
        by_cases c15 : x6_1 < 4
        · rw [if_pos c15] at H
          have c15b0 : decide (x6_1 < 4) = true := decide_eq_true c15
          clear c15
          replace H := Option.bind_eq_some_iff.mp H
          obtain ⟨⟨t346, t347, t348, t349⟩, A160, H⟩ := H
          replace H : ((impl_AddIntervals.f k1 x346000_1 x346001_1 x346002_1 x346003_1 t346 t347 t348 t349).bind fun bt350 => (if bt350.2.2.2.2 = true then (laws_FnThirds.l0 k1 (Int.tmod t340 12) (wrap64 (x6_1 + 1)) t336 bt350.1 bt350.2.1 bt350.2.2.1 bt350.2.2.2.1) else (some false))) = some true := H
          have A16 := Aside0.mk A160
          clear A160
          replace H := Option.bind_eq_some_iff.mp H
          obtain ⟨⟨t350, t351, t352, t353, t354⟩, A170, H⟩ := H
          replace H : (if t354 = true then (laws_FnThirds.l0 k1 (Int.tmod t340 12) (wrap64 (x6_1 + 1)) t336 t350 t351 t352 t353) else (some false)) = some true := H
          have A17 := Aside0.mk A170
          clear A170
          by_cases c18 : t354 = true
          · subst c18
            have H1 : (laws_FnThirds.l0 k1 (Int.tmod t340 12) (wrap64 (x6_1 + 1)) t336 t350 t351 t352 t353) = some true := by first | (rw [if_pos rfl] at H; exact H) | rfl
            clear H
            have H := H1
            clear H1
            have H' := Aside0.mk H
            clear H
            try go_wp2
            have n0_ := Aside0.mk (Kd.R_drew HO_340000.out)
            have n1_ := Aside0.mk (blk_drew BK339.out)
            have n2_ := Aside0.mk (blk_drew BK345.out)
            have n3_ := Aside0.mk (below_drew1 HB.out)
            clear HO_340000
            clear BK339
            clear BK345
            clear HB
            have HO_340000 := n0_
            have BK339 := n1_
            have BK345 := n2_
            have HB := n3_
            clear n0_ n1_ n2_ n3_
            refine start_ (n := 14) (S := fun w' => w'.cell? ⟨gb345, 0, none⟩ = some (.int .i64 x346000_1) ∧ w'.cell? ⟨gb345, 1, none⟩ = some (.int .i64 x346001_1) ∧ w'.cell? ⟨gb345, 2, none⟩ = some (.int .i64 x346002_1) ∧ w'.cell? ⟨gb345, 3, none⟩ = some (.int .i64 x346003_1) ∧ w'.cell? ⟨gb339, 0, none⟩ = some (.slice Ao9 t336.length co9)) (ds := []) #[false, false, false, false, false, false, false, false, false, false, false, false, false, false] (by kernel_rfl) rfl rfl ⟨(blk_cell BK345.out 0).trans rfl, (blk_cell BK345.out 1).trans rfl, (blk_cell BK345.out 2).trans rfl, (blk_cell BK345.out 3).trans rfl, (blk_cell BK339.out 0).trans rfl⟩ (fun hHeld => ?_); refine with_tabW laws_FnThirds.tab9 laws_FnThirds.bits9 (fun HT_ HW_ => ?_)
            generalize wr.drew = w19 at HO_340000 BK339 BK345 HB hHeld ⊢
            refine pure_ (i := 2) (N := some 28) (v := ?_) (a' := ?_) #[false, false, true, false, false, false, false, false, false, false, false, false, false, false] rfl rfl (any_of HT_.out (by kernel_rfl)) (fun _ _ _ h => h) (Or.inl ⟨by rfl, ?_⟩) ?_ ?_
            rotate_left
            · intro w'
              go_simp
              with_reducible rfl
            rotate_left
            · simp only [Act.put, List.setIfInBounds_toArray, List.set_cons_zero, List.set_cons_succ, i64_w, i32_w]
              rfl
            refine pure_ (i := 3) (N := some 29) (v := ?_) (a' := ?_) #[false, false, true, true, false, false, false, false, false, false, false, false, false, false] rfl rfl (any_of HT_.out (by kernel_rfl)) (fun _ _ _ h => h) (Or.inl ⟨by rfl, ?_⟩) ?_ ?_
            rotate_left
            · intro w'
              go_simp
              with_reducible rfl
            rotate_left
            · simp only [Act.put, List.setIfInBounds_toArray, List.set_cons_zero, List.set_cons_succ, i64_w, i32_w]
              rfl
            refine pure_ (i := 4) (N := some 30) (v := ?_) (a' := ?_) #[false, false, true, true, true, false, false, false, false, false, false, false, false, false] rfl rfl (any_of HT_.out (by kernel_rfl)) (fun _ _ _ h => h) (Or.inl ⟨by rfl, ?_⟩) ?_ ?_
            rotate_left
            · intro w'
              go_simp
              with_reducible rfl
            rotate_left
            · simp only [Act.put, List.setIfInBounds_toArray, List.set_cons_zero, List.set_cons_succ, i64_w, i32_w]
              rfl
            refine pure_ (i := 5) (N := some 31) (v := ?_) (a' := ?_) #[false, false, true, true, true, true, false, false, false, false, false, false, false, false] rfl rfl (any_of HT_.out (by kernel_rfl)) (fun _ _ _ h => h) (Or.inl ⟨by rfl, ?_⟩) ?_ ?_
            rotate_left
            · intro w'
              go_simp
              with_reducible rfl
            rotate_left
            · simp only [Act.put, List.setIfInBounds_toArray, List.set_cons_zero, List.set_cons_succ, i64_w, i32_w]
              rfl
            refine take_ (i := 0) (N := some 26) (v := ?_) (a' := ?_) #[true, false, true, true, true, true, false, false, false, false, false, false, false, false] rfl rfl (take_ofW HT_.out HW_.out (by kernel_rfl)) (fun _ _ _ h => h) (Or.inl ⟨by rfl, ?_⟩) hHeld ?_ ?_
            rotate_left
            · rintro w' ⟨s0, s1, s2, s3, s4⟩
              go_simp
              with_reducible rfl
            rotate_left
            · simp only [Act.put, List.setIfInBounds_toArray, List.set_cons_zero, List.set_cons_succ, i64_w, i32_w]
              rfl
            refine take_ (i := 1) (N := some 27) (v := ?_) (a' := ?_) #[true, true, true, true, true, true, false, false, false, false, false, false, false, false] rfl rfl (take_ofW HT_.out HW_.out (by kernel_rfl)) (fun _ _ _ h => h) (Or.inl ⟨by rfl, ?_⟩) hHeld ?_ ?_
            rotate_left
            · rintro w' ⟨s0, s1, s2, s3, s4⟩
              go_simp
              with_reducible rfl
            rotate_left
            · simp only [Act.put, List.setIfInBounds_toArray, List.set_cons_zero, List.set_cons_succ, i64_w, i32_w]
              rfl
            refine join_ (σ := Nat) 2 #[true, true, true, true, true, true, true, true, true, true, true, true, false, false] (fun s_ => [(32, .agg #[.int .i64 t346, .int .i64 t347, .int .i64 t348, .int .i64 t349]), (33, .tuple #[.agg #[.int .i64 t350, .int .i64 t351, .int .i64 t352, .int .i64 t353], .bool true]), (7, .pointer (some ⟨s_, 0, none⟩)), (25, .tuple #[.agg #[.int .i64 t350, .int .i64 t351, .int .i64 t352, .int .i64 t353], .bool true]), (34, .agg #[.int .i64 t350, .int .i64 t351, .int .i64 t352, .int .i64 t353]), (35, .bool true)]) (fun s_ w' => (w'.cell? ⟨gb345, 0, none⟩ = some (.int .i64 x346000_1) ∧ w'.cell? ⟨gb345, 1, none⟩ = some (.int .i64 x346001_1) ∧ w'.cell? ⟨gb345, 2, none⟩ = some (.int .i64 x346002_1) ∧ w'.cell? ⟨gb345, 3, none⟩ = some (.int .i64 x346003_1) ∧ w'.cell? ⟨gb339, 0, none⟩ = some (.slice Ao9 t336.length co9)) ∧ (Kd.R (Kd.int .i64) 3 w' w.heap.size (fun _ => True) (.slice Ao9 t336.length co9) t336) ∧ (w'.heap[gb339]? = some (.cells #[.slice Ao9 t336.length co9] 49 (0, 0))) ∧ (w'.heap[gb345]? = some (.cells #[.int .i64 x346000_1, .int .i64 x346001_1, .int .i64 x346002_1, .int .i64 x346003_1] 29 (0, 0))) ∧ (w'.heap[s_]? = some (.cells #[.int .i64 0, .int .i64 0, .int .i64 0, .int .i64 0] 29 (0, 0))) ∧ (w.heap.size ≤ s_) ∧ (w.heap.size ≤ s_) ∧ (gb339 ≠ s_) ∧ (s_ ≠ gb339) ∧ (gb345 ≠ s_) ∧ (s_ ≠ gb345) ∧ (Below w.heap.size w w')) ?_ ?_
            rotate_left
            · intro hCont
              refine two_ (i := 6) (j := 11) (Ni := some 32) (Nj := some 7) #[true, true, true, true, true, true, true, false, false, false, false, false, false, false] #[true, true, true, true, true, true, false, false, false, false, false, true, false, false] rfl rfl rfl rfl (two_of HT_.out (by kernel_rfl)) (by decide) (by decide) (fun K hK => ?_) (fun K hK => ?_)
              · skip
                refine goes_ Try.func30 (by kernel_rfl) rfl #[.agg #[.slice Ao9 t336.length co9], .int .i64 (Int.tmod (wrap64 ((Int.tmod t340 12) + x6_1)) 12)] (by rfl) rfl rfl (by (try simp only [List.map_toArray, List.map_cons, List.map_nil]); first | done | rfl | (simp only [List.length_drop, List.length_take]; rfl)) ?_
                with_reducible refine (impl_FifthAt.calls k1 _ _ t336 (Int.tmod (wrap64 ((Int.tmod t340 12) + x6_1)) 12) t346 t347 t348 t349 _ ?side1 ?side2 A16.out).mono ?_
                (case side1 => repeat (first | exact (Kd.R_reads' HO_340000.out).2.2 | (with_reducible refine Kd.C_alloc ?_ _) | (with_reducible refine Kd.C_drewN ?_ _) | (with_reducible refine Kd.C_drew ?_)))
                (case side2 => exact (Kd.R_reads' HO_340000.out).2.1)
                rintro e w20 ⟨rfl, hb⟩
                refine ⟨_, rfl, ?_⟩
                have n0_ := Aside0.mk (Kd.R_below (by (with_reducible repeat (first | apply Kd.R_alloc | apply Kd.R_drewN | apply Kd.R_drew)); exact HO_340000.out) hb)
                have n1_ := Aside0.mk (blk_below (g := gb339) (o := .cells #[.slice Ao9 t336.length co9] 49 (0, 0)) (by (with_reducible repeat (first | refine blk_drewN ?_ _ | refine blk_drew ?_ | refine blk_alloc ?_ _)); exact BK339.out) hb)
                have n2_ := Aside0.mk (blk_below (g := gb345) (o := .cells #[.int .i64 x346000_1, .int .i64 x346001_1, .int .i64 x346002_1, .int .i64 x346003_1] 29 (0, 0)) (by (with_reducible repeat (first | refine blk_drewN ?_ _ | refine blk_drew ?_ | refine blk_alloc ?_ _)); exact BK345.out) hb)
                have n3_ := Aside0.mk (below_step (by repeat (first | (with_reducible first | exact HB.out | apply below_alloc | apply pw_below_drewN | apply below_drew1 | refine below_set ?_ GE339.out | refine below_set ?_ GE345.out) | exact HB.out)) hb)
                clear HO_340000
                clear BK339
                clear BK345
                clear HB
                have HO_340000 := n0_
                have BK339 := n1_
                have BK345 := n2_
                have HB := n3_
                clear n0_ n1_ n2_ n3_
                (try clear hb)
                (try clear hb2)
                (try clear hk)
                (try clear hi)
                refine hK.out _ _ ⟨(blk_cell BK345.out 0).trans rfl, (blk_cell BK345.out 1).trans rfl, (blk_cell BK345.out 2).trans rfl, (blk_cell BK345.out 3).trans rfl, (blk_cell BK339.out 0).trans rfl⟩ (fun hHeld => ?_)
                clear hK K
                refine norm_ (a' := ?_) ?_ ?_
                rotate_left
                · show Act.put _ (some 32) _ = _
                  simp only [Act.put, List.setIfInBounds_toArray, List.set_cons_zero, List.set_cons_succ, i64_w, i32_w]
                  rfl
                refine two_ (i := 7) (j := 11) (Ni := some 33) (Nj := some 7) #[true, true, true, true, true, true, true, true, false, false, false, false, false, false] #[true, true, true, true, true, true, true, false, false, false, false, true, false, false] rfl rfl rfl rfl (two_of HT_.out (by kernel_rfl)) (by decide) (by decide) (fun K hK => ?_) (fun K hK => ?_)
                · skip
                  refine goes_ Try.func17 (by kernel_rfl) rfl #[.agg #[.int .i64 x346000_1, .int .i64 x346001_1, .int .i64 x346002_1, .int .i64 x346003_1], .agg #[.int .i64 t346, .int .i64 t347, .int .i64 t348, .int .i64 t349]] (by rfl) rfl rfl (by (try simp only [List.map_toArray, List.map_cons, List.map_nil]); first | done | rfl | (simp only [List.length_drop, List.length_take]; rfl)) ?_
                  with_reducible refine (impl_AddIntervals.calls k1 x346000_1 x346001_1 x346002_1 x346003_1 t346 t347 t348 t349 t350 t351 t352 t353 true _ A17.out).mono ?_
                  rintro e w21 ⟨rfl, hb⟩
                  refine ⟨_, rfl, ?_⟩
                  have n0_ := Aside0.mk (Kd.R_below (by (with_reducible repeat (first | apply Kd.R_alloc | apply Kd.R_drewN | apply Kd.R_drew)); exact HO_340000.out) hb)
                  have n1_ := Aside0.mk (blk_below (g := gb339) (o := .cells #[.slice Ao9 t336.length co9] 49 (0, 0)) (by (with_reducible repeat (first | refine blk_drewN ?_ _ | refine blk_drew ?_ | refine blk_alloc ?_ _)); exact BK339.out) hb)
                  have n2_ := Aside0.mk (blk_below (g := gb345) (o := .cells #[.int .i64 x346000_1, .int .i64 x346001_1, .int .i64 x346002_1, .int .i64 x346003_1] 29 (0, 0)) (by (with_reducible repeat (first | refine blk_drewN ?_ _ | refine blk_drew ?_ | refine blk_alloc ?_ _)); exact BK345.out) hb)
                  have n3_ := Aside0.mk (below_step (by repeat (first | (with_reducible first | exact HB.out | apply below_alloc | apply pw_below_drewN | apply below_drew1 | refine below_set ?_ GE339.out | refine below_set ?_ GE345.out) | exact HB.out)) hb)
                  clear HO_340000
                  clear BK339
                  clear BK345
                  clear HB
                  have HO_340000 := n0_
                  have BK339 := n1_
                  have BK345 := n2_
                  have HB := n3_
                  clear n0_ n1_ n2_ n3_
                  (try clear hb)
                  (try clear hb2)
                  (try clear hk)
                  (try clear hi)
                  refine hK.out _ _ ⟨(blk_cell BK345.out 0).trans rfl, (blk_cell BK345.out 1).trans rfl, (blk_cell BK345.out 2).trans rfl, (blk_cell BK345.out 3).trans rfl, (blk_cell BK339.out 0).trans rfl⟩ (fun hHeld => ?_)
                  clear hK K
                  refine norm_ (a' := ?_) ?_ ?_
                  rotate_left
                  · show Act.put _ (some 33) _ = _
                    simp only [Act.put, List.setIfInBounds_toArray, List.set_cons_zero, List.set_cons_succ, i64_w, i32_w]
                    rfl
                  refine pure_ (i := 8) (N := some 25) (v := ?_) (a' := ?_) #[true, true, true, true, true, true, true, true, true, false, false, false, false, false] rfl rfl (any_of HT_.out (by kernel_rfl)) (fun _ _ _ h => h) (Or.inl ⟨by rfl, ?_⟩) ?_ ?_
                  rotate_left
                  · intro w'
                    go_simp
                    with_reducible rfl
                  rotate_left
                  · simp only [Act.put, List.setIfInBounds_toArray, List.set_cons_zero, List.set_cons_succ, i64_w, i32_w]
                    rfl
                  refine pure_ (i := 9) (N := some 34) (v := ?_) (a' := ?_) #[true, true, true, true, true, true, true, true, true, true, false, false, false, false] rfl rfl (any_of HT_.out (by kernel_rfl)) (fun _ _ _ h => h) (Or.inl ⟨by rfl, ?_⟩) ?_ ?_
                  rotate_left
                  · intro w'
                    go_simp
                    with_reducible rfl
                  rotate_left
                  · simp only [Act.put, List.setIfInBounds_toArray, List.set_cons_zero, List.set_cons_succ, i64_w, i32_w]
                    rfl
                  refine pure_ (i := 10) (N := some 35) (v := ?_) (a' := ?_) #[true, true, true, true, true, true, true, true, true, true, true, false, false, false] rfl rfl (any_of HT_.out (by kernel_rfl)) (fun _ _ _ h => h) (Or.inl ⟨by rfl, ?_⟩) ?_ ?_
                  rotate_left
                  · intro w'
                    go_simp
                    with_reducible rfl
                  rotate_left
                  · simp only [Act.put, List.setIfInBounds_toArray, List.set_cons_zero, List.set_cons_succ, i64_w, i32_w]
                    rfl
                  refine one_ (i := 11) (N := some 7) #[true, true, true, true, true, true, true, true, true, true, true, true, false, false] rfl rfl (one_of HT_.out (by kernel_rfl)) (by decide) (fun K hK => ?_)
                  refine box_step ?hg (N := 7) ?hd (cs := #[.int .i64 0, .int .i64 0, .int .i64 0, .int .i64 0]) (t := 29) ?hr ?_; (case hd => rfl); (case hg => rfl); (case hr => first | (go_simp; done) | (go_simp; rfl))
                  intro gb355 hg w22 hbox hb
                  have n0_ := Aside0.mk (Kd.R_below (by (with_reducible repeat (first | apply Kd.R_alloc | apply Kd.R_drewN | apply Kd.R_drew)); exact HO_340000.out) hb)
                  have n1_ := Aside0.mk (blk_below (g := gb339) (o := .cells #[.slice Ao9 t336.length co9] 49 (0, 0)) (by (with_reducible repeat (first | refine blk_drewN ?_ _ | refine blk_drew ?_ | refine blk_alloc ?_ _)); exact BK339.out) hb)
                  have n2_ := Aside0.mk (blk_below (g := gb345) (o := .cells #[.int .i64 x346000_1, .int .i64 x346001_1, .int .i64 x346002_1, .int .i64 x346003_1] 29 (0, 0)) (by (with_reducible repeat (first | refine blk_drewN ?_ _ | refine blk_drew ?_ | refine blk_alloc ?_ _)); exact BK345.out) hb)
                  have n3_ := Aside0.mk (below_step (by repeat (first | (with_reducible first | exact HB.out | apply below_alloc | apply pw_below_drewN | apply below_drew1 | refine below_set ?_ GE339.out | refine below_set ?_ GE345.out) | exact HB.out)) hb)
                  have n4_ := Aside0.mk (hbox)
                  have n5_ := Aside0.mk ((by rw [hg]; exact (below_size (by repeat (first | (with_reducible first | exact HB.out | apply below_alloc | apply pw_below_drewN | apply below_drew1 | refine below_set ?_ GE339.out | refine below_set ?_ GE345.out) | exact HB.out))) : w.heap.size ≤ gb355))
                  have n6_ := Aside0.mk ((by rw [hg]; exact (below_size (by repeat (first | (with_reducible first | exact HB.out | apply below_alloc | apply pw_below_drewN | apply below_drew1 | refine below_set ?_ GE339.out | refine below_set ?_ GE345.out) | exact HB.out))) : w.heap.size ≤ gb355))
                  have n7_ := Aside0.mk ((by rw [hg]; exact Nat.ne_of_lt (blk_lt (g := gb339) (o := .cells #[.slice Ao9 t336.length co9] 49 (0, 0)) (by (with_reducible repeat (first | refine blk_drewN ?_ _ | refine blk_drew ?_ | refine blk_alloc ?_ _)); exact BK339.out)) : gb339 ≠ gb355))
                  have n8_ := Aside0.mk ((by rw [hg]; exact Nat.ne_of_gt (blk_lt (g := gb339) (o := .cells #[.slice Ao9 t336.length co9] 49 (0, 0)) (by (with_reducible repeat (first | refine blk_drewN ?_ _ | refine blk_drew ?_ | refine blk_alloc ?_ _)); exact BK339.out)) : gb355 ≠ gb339))
                  have n9_ := Aside0.mk ((by rw [hg]; exact Nat.ne_of_lt (blk_lt (g := gb345) (o := .cells #[.int .i64 x346000_1, .int .i64 x346001_1, .int .i64 x346002_1, .int .i64 x346003_1] 29 (0, 0)) (by (with_reducible repeat (first | refine blk_drewN ?_ _ | refine blk_drew ?_ | refine blk_alloc ?_ _)); exact BK345.out)) : gb345 ≠ gb355))
                  have n10_ := Aside0.mk ((by rw [hg]; exact Nat.ne_of_gt (blk_lt (g := gb345) (o := .cells #[.int .i64 x346000_1, .int .i64 x346001_1, .int .i64 x346002_1, .int .i64 x346003_1] 29 (0, 0)) (by (with_reducible repeat (first | refine blk_drewN ?_ _ | refine blk_drew ?_ | refine blk_alloc ?_ _)); exact BK345.out)) : gb355 ≠ gb345))
                  clear HO_340000
                  clear BK339
                  clear BK345
                  clear HB
                  have HO_340000 := n0_
                  have BK339 := n1_
                  have BK345 := n2_
                  have HB := n3_
                  have BK355 := n4_
                  have GW355 := n5_
                  have GE355 := n6_
                  have NB339_355 := n7_
                  have NB355_339 := n8_
                  have NB345_355 := n9_
                  have NB355_345 := n10_
                  clear n0_ n1_ n2_ n3_ n4_ n5_ n6_ n7_ n8_ n9_ n10_
                  clear hb hbox hg
                  refine hK.out _ _ ⟨(blk_cell BK345.out 0).trans rfl, (blk_cell BK345.out 1).trans rfl, (blk_cell BK345.out 2).trans rfl, (blk_cell BK345.out 3).trans rfl, (blk_cell BK339.out 0).trans rfl⟩ (fun hHeld => ?_)
                  clear hK K
                  refine norm_ (a' := ?_) ?_ ?_
                  rotate_left
                  · show Act.put _ (some 7) _ = _
                    simp only [Act.put, List.setIfInBounds_toArray, List.set_cons_zero, List.set_cons_succ, i64_w, i32_w]
                    rfl
                  exact norm_ (by simp only [putAll, Act.put, List.setIfInBounds_toArray, List.set_cons_zero, List.set_cons_succ]) (hCont (gb355) _ ⟨hHeld, (by (with_reducible repeat (first | apply Kd.R_alloc | apply Kd.R_drewN | apply Kd.R_drew)); exact HO_340000.out), (by (with_reducible repeat (first | refine blk_drewN ?_ _ | refine blk_drew ?_ | refine blk_alloc ?_ _)); exact BK339.out), (by (with_reducible repeat (first | refine blk_drewN ?_ _ | refine blk_drew ?_ | refine blk_alloc ?_ _)); exact BK345.out), (by (with_reducible repeat (first | refine blk_drewN ?_ _ | refine blk_drew ?_ | refine blk_alloc ?_ _)); exact BK355.out), GW355.out, GE355.out, NB339_355.out, NB355_339.out, NB345_355.out, NB355_345.out, (by repeat (first | (with_reducible first | exact HB.out | apply below_alloc | apply pw_below_drewN | apply below_drew1 | refine below_set ?_ GE339.out | refine below_set ?_ GE345.out | refine below_set ?_ GE355.out) | exact HB.out))⟩)
                · skip
                  refine box_step ?hg (N := 7) ?hd (cs := #[.int .i64 0, .int .i64 0, .int .i64 0, .int .i64 0]) (t := 29) ?hr ?_; (case hd => rfl); (case hg => rfl); (case hr => first | (go_simp; done) | (go_simp; rfl))
                  intro gb355 hg w21 hbox hb
                  have n0_ := Aside0.mk (Kd.R_below (by (with_reducible repeat (first | apply Kd.R_alloc | apply Kd.R_drewN | apply Kd.R_drew)); exact HO_340000.out) hb)
                  have n1_ := Aside0.mk (blk_below (g := gb339) (o := .cells #[.slice Ao9 t336.length co9] 49 (0, 0)) (by (with_reducible repeat (first | refine blk_drewN ?_ _ | refine blk_drew ?_ | refine blk_alloc ?_ _)); exact BK339.out) hb)
                  have n2_ := Aside0.mk (blk_below (g := gb345) (o := .cells #[.int .i64 x346000_1, .int .i64 x346001_1, .int .i64 x346002_1, .int .i64 x346003_1] 29 (0, 0)) (by (with_reducible repeat (first | refine blk_drewN ?_ _ | refine blk_drew ?_ | refine blk_alloc ?_ _)); exact BK345.out) hb)
                  have n3_ := Aside0.mk (below_step (by repeat (first | (with_reducible first | exact HB.out | apply below_alloc | apply pw_below_drewN | apply below_drew1 | refine below_set ?_ GE339.out | refine below_set ?_ GE345.out) | exact HB.out)) hb)
                  have n4_ := Aside0.mk (hbox)
                  have n5_ := Aside0.mk ((by rw [hg]; exact (below_size (by repeat (first | (with_reducible first | exact HB.out | apply below_alloc | apply pw_below_drewN | apply below_drew1 | refine below_set ?_ GE339.out | refine below_set ?_ GE345.out) | exact HB.out))) : w.heap.size ≤ gb355))
                  have n6_ := Aside0.mk ((by rw [hg]; exact (below_size (by repeat (first | (with_reducible first | exact HB.out | apply below_alloc | apply pw_below_drewN | apply below_drew1 | refine below_set ?_ GE339.out | refine below_set ?_ GE345.out) | exact HB.out))) : w.heap.size ≤ gb355))
                  have n7_ := Aside0.mk ((by rw [hg]; exact Nat.ne_of_lt (blk_lt (g := gb339) (o := .cells #[.slice Ao9 t336.length co9] 49 (0, 0)) (by (with_reducible repeat (first | refine blk_drewN ?_ _ | refine blk_drew ?_ | refine blk_alloc ?_ _)); exact BK339.out)) : gb339 ≠ gb355))
                  have n8_ := Aside0.mk ((by rw [hg]; exact Nat.ne_of_gt (blk_lt (g := gb339) (o := .cells #[.slice Ao9 t336.length co9] 49 (0, 0)) (by (with_reducible repeat (first | refine blk_drewN ?_ _ | refine blk_drew ?_ | refine blk_alloc ?_ _)); exact BK339.out)) : gb355 ≠ gb339))
                  have n9_ := Aside0.mk ((by rw [hg]; exact Nat.ne_of_lt (blk_lt (g := gb345) (o := .cells #[.int .i64 x346000_1, .int .i64 x346001_1, .int .i64 x346002_1, .int .i64 x346003_1] 29 (0, 0)) (by (with_reducible repeat (first | refine blk_drewN ?_ _ | refine blk_drew ?_ | refine blk_alloc ?_ _)); exact BK345.out)) : gb345 ≠ gb355))
                  have n10_ := Aside0.mk ((by rw [hg]; exact Nat.ne_of_gt (blk_lt (g := gb345) (o := .cells #[.int .i64 x346000_1, .int .i64 x346001_1, .int .i64 x346002_1, .int .i64 x346003_1] 29 (0, 0)) (by (with_reducible repeat (first | refine blk_drewN ?_ _ | refine blk_drew ?_ | refine blk_alloc ?_ _)); exact BK345.out)) : gb355 ≠ gb345))
                  clear HO_340000
                  clear BK339
                  clear BK345
                  clear HB
                  have HO_340000 := n0_
                  have BK339 := n1_
                  have BK345 := n2_
                  have HB := n3_
                  have BK355 := n4_
                  have GW355 := n5_
                  have GE355 := n6_
                  have NB339_355 := n7_
                  have NB355_339 := n8_
                  have NB345_355 := n9_
                  have NB355_345 := n10_
                  clear n0_ n1_ n2_ n3_ n4_ n5_ n6_ n7_ n8_ n9_ n10_
                  clear hb hbox hg
                  refine hK.out _ _ ⟨(blk_cell BK345.out 0).trans rfl, (blk_cell BK345.out 1).trans rfl, (blk_cell BK345.out 2).trans rfl, (blk_cell BK345.out 3).trans rfl, (blk_cell BK339.out 0).trans rfl⟩ (fun hHeld => ?_)
                  clear hK K
                  refine norm_ (a' := ?_) ?_ ?_
                  rotate_left
                  · show Act.put _ (some 7) _ = _
                    simp only [Act.put, List.setIfInBounds_toArray, List.set_cons_zero, List.set_cons_succ, i64_w, i32_w]
                    rfl
                  refine one_ (i := 7) (N := some 33) #[true, true, true, true, true, true, true, true, false, false, false, true, false, false] rfl rfl (one_of HT_.out (by kernel_rfl)) (by decide) (fun K hK => ?_)
                  refine goes_ Try.func17 (by kernel_rfl) rfl #[.agg #[.int .i64 x346000_1, .int .i64 x346001_1, .int .i64 x346002_1, .int .i64 x346003_1], .agg #[.int .i64 t346, .int .i64 t347, .int .i64 t348, .int .i64 t349]] (by rfl) rfl rfl (by (try simp only [List.map_toArray, List.map_cons, List.map_nil]); first | done | rfl | (simp only [List.length_drop, List.length_take]; rfl)) ?_
                  with_reducible refine (impl_AddIntervals.calls k1 x346000_1 x346001_1 x346002_1 x346003_1 t346 t347 t348 t349 t350 t351 t352 t353 true _ A17.out).mono ?_
                  rintro e w22 ⟨rfl, hb⟩
                  refine ⟨_, rfl, ?_⟩
                  have n0_ := Aside0.mk (Kd.R_below (by (with_reducible repeat (first | apply Kd.R_alloc | apply Kd.R_drewN | apply Kd.R_drew)); exact HO_340000.out) hb)
                  have n1_ := Aside0.mk (blk_below (g := gb339) (o := .cells #[.slice Ao9 t336.length co9] 49 (0, 0)) (by (with_reducible repeat (first | refine blk_drewN ?_ _ | refine blk_drew ?_ | refine blk_alloc ?_ _)); exact BK339.out) hb)
                  have n2_ := Aside0.mk (blk_below (g := gb345) (o := .cells #[.int .i64 x346000_1, .int .i64 x346001_1, .int .i64 x346002_1, .int .i64 x346003_1] 29 (0, 0)) (by (with_reducible repeat (first | refine blk_drewN ?_ _ | refine blk_drew ?_ | refine blk_alloc ?_ _)); exact BK345.out) hb)
                  have n3_ := Aside0.mk (blk_below (g := gb355) (o := .cells #[.int .i64 0, .int .i64 0, .int .i64 0, .int .i64 0] 29 (0, 0)) (by (with_reducible repeat (first | refine blk_drewN ?_ _ | refine blk_drew ?_ | refine blk_alloc ?_ _)); exact BK355.out) hb)
                  have n4_ := Aside0.mk (below_step (by repeat (first | (with_reducible first | exact HB.out | apply below_alloc | apply pw_below_drewN | apply below_drew1 | refine below_set ?_ GE339.out | refine below_set ?_ GE345.out | refine below_set ?_ GE355.out) | exact HB.out)) hb)
                  clear HO_340000
                  clear BK339
                  clear BK345
                  clear BK355
                  clear HB
                  have HO_340000 := n0_
                  have BK339 := n1_
                  have BK345 := n2_
                  have BK355 := n3_
                  have HB := n4_
                  clear n0_ n1_ n2_ n3_ n4_
                  (try clear hb)
                  (try clear hb2)
                  (try clear hk)
                  (try clear hi)
                  refine hK.out _ _ ⟨(blk_cell BK345.out 0).trans rfl, (blk_cell BK345.out 1).trans rfl, (blk_cell BK345.out 2).trans rfl, (blk_cell BK345.out 3).trans rfl, (blk_cell BK339.out 0).trans rfl⟩ (fun hHeld => ?_)
                  clear hK K
                  refine norm_ (a' := ?_) ?_ ?_
                  rotate_left
                  · show Act.put _ (some 33) _ = _
                    simp only [Act.put, List.setIfInBounds_toArray, List.set_cons_zero, List.set_cons_succ, i64_w, i32_w]
                    rfl
                  refine pure_ (i := 8) (N := some 25) (v := ?_) (a' := ?_) #[true, true, true, true, true, true, true, true, true, false, false, true, false, false] rfl rfl (any_of HT_.out (by kernel_rfl)) (fun _ _ _ h => h) (Or.inl ⟨by rfl, ?_⟩) ?_ ?_
                  rotate_left
                  · intro w'
                    go_simp
                    with_reducible rfl
                  rotate_left
                  · simp only [Act.put, List.setIfInBounds_toArray, List.set_cons_zero, List.set_cons_succ, i64_w, i32_w]
                    rfl
                  refine pure_ (i := 9) (N := some 34) (v := ?_) (a' := ?_) #[true, true, true, true, true, true, true, true, true, true, false, true, false, false] rfl rfl (any_of HT_.out (by kernel_rfl)) (fun _ _ _ h => h) (Or.inl ⟨by rfl, ?_⟩) ?_ ?_
                  rotate_left
                  · intro w'
                    go_simp
                    with_reducible rfl
                  rotate_left
                  · simp only [Act.put, List.setIfInBounds_toArray, List.set_cons_zero, List.set_cons_succ, i64_w, i32_w]
                    rfl
                  refine pure_ (i := 10) (N := some 35) (v := ?_) (a' := ?_) #[true, true, true, true, true, true, true, true, true, true, true, true, false, false] rfl rfl (any_of HT_.out (by kernel_rfl)) (fun _ _ _ h => h) (Or.inl ⟨by rfl, ?_⟩) ?_ ?_
                  rotate_left
                  · intro w'
                    go_simp
                    with_reducible rfl
                  rotate_left
                  · simp only [Act.put, List.setIfInBounds_toArray, List.set_cons_zero, List.set_cons_succ, i64_w, i32_w]
                    rfl
                  exact norm_ (by simp only [putAll, Act.put, List.setIfInBounds_toArray, List.set_cons_zero, List.set_cons_succ]) (hCont (gb355) _ ⟨hHeld, (by (with_reducible repeat (first | apply Kd.R_alloc | apply Kd.R_drewN | apply Kd.R_drew)); exact HO_340000.out), (by (with_reducible repeat (first | refine blk_drewN ?_ _ | refine blk_drew ?_ | refine blk_alloc ?_ _)); exact BK339.out), (by (with_reducible repeat (first | refine blk_drewN ?_ _ | refine blk_drew ?_ | refine blk_alloc ?_ _)); exact BK345.out), (by (with_reducible repeat (first | refine blk_drewN ?_ _ | refine blk_drew ?_ | refine blk_alloc ?_ _)); exact BK355.out), GW355.out, GE355.out, NB339_355.out, NB355_339.out, NB345_355.out, NB355_345.out, (by repeat (first | (with_reducible first | exact HB.out | apply below_alloc | apply pw_below_drewN | apply below_drew1 | refine below_set ?_ GE339.out | refine below_set ?_ GE345.out | refine below_set ?_ GE355.out) | exact HB.out))⟩)
              · skip
                refine box_step ?hg (N := 7) ?hd (cs := #[.int .i64 0, .int .i64 0, .int .i64 0, .int .i64 0]) (t := 29) ?hr ?_; (case hd => rfl); (case hg => rfl); (case hr => first | (go_simp; done) | (go_simp; rfl))
                intro gb355 hg w20 hbox hb
                have n0_ := Aside0.mk (Kd.R_below (by (with_reducible repeat (first | apply Kd.R_alloc | apply Kd.R_drewN | apply Kd.R_drew)); exact HO_340000.out) hb)
                have n1_ := Aside0.mk (blk_below (g := gb339) (o := .cells #[.slice Ao9 t336.length co9] 49 (0, 0)) (by (with_reducible repeat (first | refine blk_drewN ?_ _ | refine blk_drew ?_ | refine blk_alloc ?_ _)); exact BK339.out) hb)
                have n2_ := Aside0.mk (blk_below (g := gb345) (o := .cells #[.int .i64 x346000_1, .int .i64 x346001_1, .int .i64 x346002_1, .int .i64 x346003_1] 29 (0, 0)) (by (with_reducible repeat (first | refine blk_drewN ?_ _ | refine blk_drew ?_ | refine blk_alloc ?_ _)); exact BK345.out) hb)
                have n3_ := Aside0.mk (below_step (by repeat (first | (with_reducible first | exact HB.out | apply below_alloc | apply pw_below_drewN | apply below_drew1 | refine below_set ?_ GE339.out | refine below_set ?_ GE345.out) | exact HB.out)) hb)
                have n4_ := Aside0.mk (hbox)
                have n5_ := Aside0.mk ((by rw [hg]; exact (below_size (by repeat (first | (with_reducible first | exact HB.out | apply below_alloc | apply pw_below_drewN | apply below_drew1 | refine below_set ?_ GE339.out | refine below_set ?_ GE345.out) | exact HB.out))) : w.heap.size ≤ gb355))
                have n6_ := Aside0.mk ((by rw [hg]; exact (below_size (by repeat (first | (with_reducible first | exact HB.out | apply below_alloc | apply pw_below_drewN | apply below_drew1 | refine below_set ?_ GE339.out | refine below_set ?_ GE345.out) | exact HB.out))) : w.heap.size ≤ gb355))
                have n7_ := Aside0.mk ((by rw [hg]; exact Nat.ne_of_lt (blk_lt (g := gb339) (o := .cells #[.slice Ao9 t336.length co9] 49 (0, 0)) (by (with_reducible repeat (first | refine blk_drewN ?_ _ | refine blk_drew ?_ | refine blk_alloc ?_ _)); exact BK339.out)) : gb339 ≠ gb355))
                have n8_ := Aside0.mk ((by rw [hg]; exact Nat.ne_of_gt (blk_lt (g := gb339) (o := .cells #[.slice Ao9 t336.length co9] 49 (0, 0)) (by (with_reducible repeat (first | refine blk_drewN ?_ _ | refine blk_drew ?_ | refine blk_alloc ?_ _)); exact BK339.out)) : gb355 ≠ gb339))
                have n9_ := Aside0.mk ((by rw [hg]; exact Nat.ne_of_lt (blk_lt (g := gb345) (o := .cells #[.int .i64 x346000_1, .int .i64 x346001_1, .int .i64 x346002_1, .int .i64 x346003_1] 29 (0, 0)) (by (with_reducible repeat (first | refine blk_drewN ?_ _ | refine blk_drew ?_ | refine blk_alloc ?_ _)); exact BK345.out)) : gb345 ≠ gb355))
                have n10_ := Aside0.mk ((by rw [hg]; exact Nat.ne_of_gt (blk_lt (g := gb345) (o := .cells #[.int .i64 x346000_1, .int .i64 x346001_1, .int .i64 x346002_1, .int .i64 x346003_1] 29 (0, 0)) (by (with_reducible repeat (first | refine blk_drewN ?_ _ | refine blk_drew ?_ | refine blk_alloc ?_ _)); exact BK345.out)) : gb355 ≠ gb345))
                clear HO_340000
                clear BK339
                clear BK345
                clear HB
                have HO_340000 := n0_
                have BK339 := n1_
                have BK345 := n2_
                have HB := n3_
                have BK355 := n4_
                have GW355 := n5_
                have GE355 := n6_
                have NB339_355 := n7_
                have NB355_339 := n8_
                have NB345_355 := n9_
                have NB355_345 := n10_
                clear n0_ n1_ n2_ n3_ n4_ n5_ n6_ n7_ n8_ n9_ n10_
                clear hb hbox hg
                refine hK.out _ _ ⟨(blk_cell BK345.out 0).trans rfl, (blk_cell BK345.out 1).trans rfl, (blk_cell BK345.out 2).trans rfl, (blk_cell BK345.out 3).trans rfl, (blk_cell BK339.out 0).trans rfl⟩ (fun hHeld => ?_)
                clear hK K
                refine norm_ (a' := ?_) ?_ ?_
                rotate_left
                · show Act.put _ (some 7) _ = _
                  simp only [Act.put, List.setIfInBounds_toArray, List.set_cons_zero, List.set_cons_succ, i64_w, i32_w]
                  rfl
                refine one_ (i := 6) (N := some 32) #[true, true, true, true, true, true, true, false, false, false, false, true, false, false] rfl rfl (one_of HT_.out (by kernel_rfl)) (by decide) (fun K hK => ?_)
                refine goes_ Try.func30 (by kernel_rfl) rfl #[.agg #[.slice Ao9 t336.length co9], .int .i64 (Int.tmod (wrap64 ((Int.tmod t340 12) + x6_1)) 12)] (by rfl) rfl rfl (by (try simp only [List.map_toArray, List.map_cons, List.map_nil]); first | done | rfl | (simp only [List.length_drop, List.length_take]; rfl)) ?_
                with_reducible refine (impl_FifthAt.calls k1 _ _ t336 (Int.tmod (wrap64 ((Int.tmod t340 12) + x6_1)) 12) t346 t347 t348 t349 _ ?side1 ?side2 A16.out).mono ?_
                (case side1 => repeat (first | exact (Kd.R_reads' HO_340000.out).2.2 | (with_reducible refine Kd.C_alloc ?_ _) | (with_reducible refine Kd.C_drewN ?_ _) | (with_reducible refine Kd.C_drew ?_)))
                (case side2 => exact (Kd.R_reads' HO_340000.out).2.1)
                rintro e w21 ⟨rfl, hb⟩
                refine ⟨_, rfl, ?_⟩
                have n0_ := Aside0.mk (Kd.R_below (by (with_reducible repeat (first | apply Kd.R_alloc | apply Kd.R_drewN | apply Kd.R_drew)); exact HO_340000.out) hb)
                have n1_ := Aside0.mk (blk_below (g := gb339) (o := .cells #[.slice Ao9 t336.length co9] 49 (0, 0)) (by (with_reducible repeat (first | refine blk_drewN ?_ _ | refine blk_drew ?_ | refine blk_alloc ?_ _)); exact BK339.out) hb)
                have n2_ := Aside0.mk (blk_below (g := gb345) (o := .cells #[.int .i64 x346000_1, .int .i64 x346001_1, .int .i64 x346002_1, .int .i64 x346003_1] 29 (0, 0)) (by (with_reducible repeat (first | refine blk_drewN ?_ _ | refine blk_drew ?_ | refine blk_alloc ?_ _)); exact BK345.out) hb)
                have n3_ := Aside0.mk (blk_below (g := gb355) (o := .cells #[.int .i64 0, .int .i64 0, .int .i64 0, .int .i64 0] 29 (0, 0)) (by (with_reducible repeat (first | refine blk_drewN ?_ _ | refine blk_drew ?_ | refine blk_alloc ?_ _)); exact BK355.out) hb)
                have n4_ := Aside0.mk (below_step (by repeat (first | (with_reducible first | exact HB.out | apply below_alloc | apply pw_below_drewN | apply below_drew1 | refine below_set ?_ GE339.out | refine below_set ?_ GE345.out | refine below_set ?_ GE355.out) | exact HB.out)) hb)
                clear HO_340000
                clear BK339
                clear BK345
                clear BK355
                clear HB
                have HO_340000 := n0_
                have BK339 := n1_
                have BK345 := n2_
                have BK355 := n3_
                have HB := n4_
                clear n0_ n1_ n2_ n3_ n4_
                (try clear hb)
                (try clear hb2)
                (try clear hk)
                (try clear hi)
                refine hK.out _ _ ⟨(blk_cell BK345.out 0).trans rfl, (blk_cell BK345.out 1).trans rfl, (blk_cell BK345.out 2).trans rfl, (blk_cell BK345.out 3).trans rfl, (blk_cell BK339.out 0).trans rfl⟩ (fun hHeld => ?_)
                clear hK K
                refine norm_ (a' := ?_) ?_ ?_
                rotate_left
                · show Act.put _ (some 32) _ = _
                  simp only [Act.put, List.setIfInBounds_toArray, List.set_cons_zero, List.set_cons_succ, i64_w, i32_w]
                  rfl
                refine one_ (i := 7) (N := some 33) #[true, true, true, true, true, true, true, true, false, false, false, true, false, false] rfl rfl (one_of HT_.out (by kernel_rfl)) (by decide) (fun K hK => ?_)
                refine goes_ Try.func17 (by kernel_rfl) rfl #[.agg #[.int .i64 x346000_1, .int .i64 x346001_1, .int .i64 x346002_1, .int .i64 x346003_1], .agg #[.int .i64 t346, .int .i64 t347, .int .i64 t348, .int .i64 t349]] (by rfl) rfl rfl (by (try simp only [List.map_toArray, List.map_cons, List.map_nil]); first | done | rfl | (simp only [List.length_drop, List.length_take]; rfl)) ?_
                with_reducible refine (impl_AddIntervals.calls k1 x346000_1 x346001_1 x346002_1 x346003_1 t346 t347 t348 t349 t350 t351 t352 t353 true _ A17.out).mono ?_
                rintro e w22 ⟨rfl, hb⟩
                refine ⟨_, rfl, ?_⟩
                have n0_ := Aside0.mk (Kd.R_below (by (with_reducible repeat (first | apply Kd.R_alloc | apply Kd.R_drewN | apply Kd.R_drew)); exact HO_340000.out) hb)
                have n1_ := Aside0.mk (blk_below (g := gb339) (o := .cells #[.slice Ao9 t336.length co9] 49 (0, 0)) (by (with_reducible repeat (first | refine blk_drewN ?_ _ | refine blk_drew ?_ | refine blk_alloc ?_ _)); exact BK339.out) hb)
                have n2_ := Aside0.mk (blk_below (g := gb345) (o := .cells #[.int .i64 x346000_1, .int .i64 x346001_1, .int .i64 x346002_1, .int .i64 x346003_1] 29 (0, 0)) (by (with_reducible repeat (first | refine blk_drewN ?_ _ | refine blk_drew ?_ | refine blk_alloc ?_ _)); exact BK345.out) hb)
                have n3_ := Aside0.mk (blk_below (g := gb355) (o := .cells #[.int .i64 0, .int .i64 0, .int .i64 0, .int .i64 0] 29 (0, 0)) (by (with_reducible repeat (first | refine blk_drewN ?_ _ | refine blk_drew ?_ | refine blk_alloc ?_ _)); exact BK355.out) hb)
                have n4_ := Aside0.mk (below_step (by repeat (first | (with_reducible first | exact HB.out | apply below_alloc | apply pw_below_drewN | apply below_drew1 | refine below_set ?_ GE339.out | refine below_set ?_ GE345.out | refine below_set ?_ GE355.out) | exact HB.out)) hb)
                clear HO_340000
                clear BK339
                clear BK345
                clear BK355
                clear HB
                have HO_340000 := n0_
                have BK339 := n1_
                have BK345 := n2_
                have BK355 := n3_
                have HB := n4_
                clear n0_ n1_ n2_ n3_ n4_
                (try clear hb)
                (try clear hb2)
                (try clear hk)
                (try clear hi)
                refine hK.out _ _ ⟨(blk_cell BK345.out 0).trans rfl, (blk_cell BK345.out 1).trans rfl, (blk_cell BK345.out 2).trans rfl, (blk_cell BK345.out 3).trans rfl, (blk_cell BK339.out 0).trans rfl⟩ (fun hHeld => ?_)
                clear hK K
                refine norm_ (a' := ?_) ?_ ?_
                rotate_left
                · show Act.put _ (some 33) _ = _
                  simp only [Act.put, List.setIfInBounds_toArray, List.set_cons_zero, List.set_cons_succ, i64_w, i32_w]
                  rfl
                refine pure_ (i := 8) (N := some 25) (v := ?_) (a' := ?_) #[true, true, true, true, true, true, true, true, true, false, false, true, false, false] rfl rfl (any_of HT_.out (by kernel_rfl)) (fun _ _ _ h => h) (Or.inl ⟨by rfl, ?_⟩) ?_ ?_
                rotate_left
                · intro w'
                  go_simp
                  with_reducible rfl
                rotate_left
                · simp only [Act.put, List.setIfInBounds_toArray, List.set_cons_zero, List.set_cons_succ, i64_w, i32_w]
                  rfl
                refine pure_ (i := 9) (N := some 34) (v := ?_) (a' := ?_) #[true, true, true, true, true, true, true, true, true, true, false, true, false, false] rfl rfl (any_of HT_.out (by kernel_rfl)) (fun _ _ _ h => h) (Or.inl ⟨by rfl, ?_⟩) ?_ ?_
                rotate_left
                · intro w'
                  go_simp
                  with_reducible rfl
                rotate_left
                · simp only [Act.put, List.setIfInBounds_toArray, List.set_cons_zero, List.set_cons_succ, i64_w, i32_w]
                  rfl
                refine pure_ (i := 10) (N := some 35) (v := ?_) (a' := ?_) #[true, true, true, true, true, true, true, true, true, true, true, true, false, false] rfl rfl (any_of HT_.out (by kernel_rfl)) (fun _ _ _ h => h) (Or.inl ⟨by rfl, ?_⟩) ?_ ?_
                rotate_left
                · intro w'
                  go_simp
                  with_reducible rfl
                rotate_left
                · simp only [Act.put, List.setIfInBounds_toArray, List.set_cons_zero, List.set_cons_succ, i64_w, i32_w]
                  rfl
                exact norm_ (by simp only [putAll, Act.put, List.setIfInBounds_toArray, List.set_cons_zero, List.set_cons_succ]) (hCont (gb355) _ ⟨hHeld, (by (with_reducible repeat (first | apply Kd.R_alloc | apply Kd.R_drewN | apply Kd.R_drew)); exact HO_340000.out), (by (with_reducible repeat (first | refine blk_drewN ?_ _ | refine blk_drew ?_ | refine blk_alloc ?_ _)); exact BK339.out), (by (with_reducible repeat (first | refine blk_drewN ?_ _ | refine blk_drew ?_ | refine blk_alloc ?_ _)); exact BK345.out), (by (with_reducible repeat (first | refine blk_drewN ?_ _ | refine blk_drew ?_ | refine blk_alloc ?_ _)); exact BK355.out), GW355.out, GE355.out, NB339_355.out, NB355_339.out, NB345_355.out, NB355_345.out, (by repeat (first | (with_reducible first | exact HB.out | apply below_alloc | apply pw_below_drewN | apply below_drew1 | refine below_set ?_ GE339.out | refine below_set ?_ GE345.out | refine below_set ?_ GE355.out) | exact HB.out))⟩)
            rintro gb355 w23 ⟨hS_, h0_, h1_, h2_, h3_, h4_, h5_, h6_, h7_, h8_, h9_, h10_⟩
            have n0_ : Aside0 (Kd.R (Kd.int .i64) 3 w23 w.heap.size (fun _ => True) (.slice Ao9 t336.length co9) t336) := ⟨h0_⟩
            have n1_ : Aside0 (w23.heap[gb339]? = some (.cells #[.slice Ao9 t336.length co9] 49 (0, 0))) := ⟨h1_⟩
            have n2_ : Aside0 (w23.heap[gb345]? = some (.cells #[.int .i64 x346000_1, .int .i64 x346001_1, .int .i64 x346002_1, .int .i64 x346003_1] 29 (0, 0))) := ⟨h2_⟩
            have n3_ : Aside0 (w23.heap[gb355]? = some (.cells #[.int .i64 0, .int .i64 0, .int .i64 0, .int .i64 0] 29 (0, 0))) := ⟨h3_⟩
            have n4_ : Aside0 (w.heap.size ≤ gb355) := ⟨h4_⟩
            have n5_ : Aside0 (w.heap.size ≤ gb355) := ⟨h5_⟩
            have n6_ : Aside0 (gb339 ≠ gb355) := ⟨h6_⟩
            have n7_ : Aside0 (gb355 ≠ gb339) := ⟨h7_⟩
            have n8_ : Aside0 (gb345 ≠ gb355) := ⟨h8_⟩
            have n9_ : Aside0 (gb355 ≠ gb345) := ⟨h9_⟩
            have n10_ : Aside0 (Below w.heap.size w w23) := ⟨h10_⟩
            clear HO_340000
            clear BK339
            clear BK345
            clear HB
            clear h0_ h1_ h2_ h3_ h4_ h5_ h6_ h7_ h8_ h9_ h10_
            have HO_340000 := n0_
            have BK339 := n1_
            have BK345 := n2_
            have BK355 := n3_
            have GW355 := n4_
            have GE355 := n5_
            have NB339_355 := n6_
            have NB355_339 := n7_
            have NB345_355 := n8_
            have NB355_345 := n9_
            have HB := n10_
            clear n0_ n1_ n2_ n3_ n4_ n5_ n6_ n7_ n8_ n9_ n10_
            have hHeld : w23.cell? ⟨gb345, 0, none⟩ = some (.int .i64 x346000_1) ∧ w23.cell? ⟨gb345, 1, none⟩ = some (.int .i64 x346001_1) ∧ w23.cell? ⟨gb345, 2, none⟩ = some (.int .i64 x346002_1) ∧ w23.cell? ⟨gb345, 3, none⟩ = some (.int .i64 x346003_1) ∧ w23.cell? ⟨gb339, 0, none⟩ = some (.slice Ao9 t336.length co9) := hS_
            refine norm_ (a' := ?_) ?_ ?_
            rotate_left
            · simp only [putAll, Act.put, List.setIfInBounds_toArray, List.set_cons_zero, List.set_cons_succ]
              rfl
            refine one_ (i := 12) (N := none) #[true, true, true, true, true, true, true, true, true, true, true, true, true, false] rfl rfl (one_of HT_.out (by kernel_rfl)) (by decide) (fun K hK => ?_)
            have hs24 : w23.cell? ⟨gb355, 0, none⟩ = some (.int .i64 0) := (blk_cell BK355.out 0).trans rfl
            have hfs24 := blk_frozen BK355.out 0
            have hns24_0 := NB339_355.out
            have hns24_1 := NB345_355.out
            have hms24_0 := NB355_339.out
            have hms24_1 := NB355_345.out
            have hs25 : w23.cell? ⟨gb355, 1, none⟩ = some (.int .i64 0) := (blk_cell BK355.out 1).trans rfl
            have hfs25 := blk_frozen BK355.out 1
            have hns25_0 := NB339_355.out
            have hns25_1 := NB345_355.out
            have hms25_0 := NB355_339.out
            have hms25_1 := NB355_345.out
            have hs26 : w23.cell? ⟨gb355, 2, none⟩ = some (.int .i64 0) := (blk_cell BK355.out 2).trans rfl
            have hfs26 := blk_frozen BK355.out 2
            have hns26_0 := NB339_355.out
            have hns26_1 := NB345_355.out
            have hms26_0 := NB355_339.out
            have hms26_1 := NB355_345.out
            have hs27 : w23.cell? ⟨gb355, 3, none⟩ = some (.int .i64 0) := (blk_cell BK355.out 3).trans rfl
            have hfs27 := blk_frozen BK355.out 3
            have hns27_0 := NB339_355.out
            have hns27_1 := NB345_355.out
            have hms27_0 := NB355_339.out
            have hms27_1 := NB355_345.out
            refine skip_ (w1 := ?_) (by rfl) rfl ?_ ?_
            rotate_left
            · go_simp
              rfl
            refine hK.out _ _ ⟨((cell_far (p := ⟨gb355, _, none⟩) NB345_355.out _).trans (((cell_far (p := ⟨gb355, _, none⟩) NB345_355.out _).trans (((cell_far (p := ⟨gb355, _, none⟩) NB345_355.out _).trans (((cell_far (p := ⟨gb355, _, none⟩) NB345_355.out _).trans (hHeld.1)))))))), ((cell_far (p := ⟨gb355, _, none⟩) NB345_355.out _).trans (((cell_far (p := ⟨gb355, _, none⟩) NB345_355.out _).trans (((cell_far (p := ⟨gb355, _, none⟩) NB345_355.out _).trans (((cell_far (p := ⟨gb355, _, none⟩) NB345_355.out _).trans (hHeld.2.1)))))))), ((cell_far (p := ⟨gb355, _, none⟩) NB345_355.out _).trans (((cell_far (p := ⟨gb355, _, none⟩) NB345_355.out _).trans (((cell_far (p := ⟨gb355, _, none⟩) NB345_355.out _).trans (((cell_far (p := ⟨gb355, _, none⟩) NB345_355.out _).trans (hHeld.2.2.1)))))))), ((cell_far (p := ⟨gb355, _, none⟩) NB345_355.out _).trans (((cell_far (p := ⟨gb355, _, none⟩) NB345_355.out _).trans (((cell_far (p := ⟨gb355, _, none⟩) NB345_355.out _).trans (((cell_far (p := ⟨gb355, _, none⟩) NB345_355.out _).trans (hHeld.2.2.2.1)))))))), ((cell_far (p := ⟨gb355, _, none⟩) NB339_355.out _).trans (((cell_far (p := ⟨gb355, _, none⟩) NB339_355.out _).trans (((cell_far (p := ⟨gb355, _, none⟩) NB339_355.out _).trans (((cell_far (p := ⟨gb355, _, none⟩) NB339_355.out _).trans (hHeld.2.2.2.2))))))))⟩ (fun hHeld => ?_)
            clear hK K
            refine pure_ (i := 13) (N := some 8) (v := ?_) (a' := ?_) #[true, true, true, true, true, true, true, true, true, true, true, true, true, true] rfl rfl (any_of HT_.out (by kernel_rfl)) (fun _ _ _ h => h) (Or.inl ⟨by rfl, ?_⟩) ?_ ?_
            rotate_left
            · intro w'
              go_simp
              with_reducible rfl
            rotate_left
            · simp only [Act.put, List.setIfInBounds_toArray, List.set_cons_zero, List.set_cons_succ, i64_w, i32_w]
              rfl
            refine done_ (done_of HT_.out (by kernel_rfl)) ?_
            have hnb28 := NB355_339.out
            have hnc28 := NB339_355.out
            have hnb29 := NB355_345.out
            have hnc29 := NB345_355.out
            have hcz30_0 : w23.cell? ⟨gb355, 0, none⟩ = some (.int .i64 0) := (blk_cell BK355.out 0).trans rfl
            have hcz30_1 : w23.cell? ⟨gb355, 1, none⟩ = some (.int .i64 0) := (blk_cell BK355.out 1).trans rfl
            have hcz30_2 : w23.cell? ⟨gb355, 2, none⟩ = some (.int .i64 0) := (blk_cell BK355.out 2).trans rfl
            have hcz30_3 : w23.cell? ⟨gb355, 3, none⟩ = some (.int .i64 0) := (blk_cell BK355.out 3).trans rfl
            have hfz30_0 := blk_frozen BK355.out 0
            have hfz30_1 := blk_frozen BK355.out 1
            have hfz30_2 := blk_frozen BK355.out 2
            have hfz30_3 := blk_frozen BK355.out 3
            have hnb31 := NB345_339.out
            have hnc31 := NB339_345.out
            have hcz32_0 : w23.cell? ⟨gb345, 0, none⟩ = some (.int .i64 x346000_1) := (blk_cell BK345.out 0).trans rfl
            have hcz32_1 : w23.cell? ⟨gb345, 1, none⟩ = some (.int .i64 x346001_1) := (blk_cell BK345.out 1).trans rfl
            have hcz32_2 : w23.cell? ⟨gb345, 2, none⟩ = some (.int .i64 x346002_1) := (blk_cell BK345.out 2).trans rfl
            have hcz32_3 : w23.cell? ⟨gb345, 3, none⟩ = some (.int .i64 x346003_1) := (blk_cell BK345.out 3).trans rfl
            have hfz32_0 := blk_frozen BK345.out 0
            have hfz32_1 := blk_frozen BK345.out 1
            have hfz32_2 := blk_frozen BK345.out 2
            have hfz32_3 := blk_frozen BK345.out 3
            try go_wp2
            go_roundg k1
            case measure => have := HK1.out; omega
            case rel => exact ⟨(wrap64 (x6_1 + 1)), (t350), (t351), (t352), (t353), (by first | rfl | (simp; done) | (simp [*]; done)), H', ⟨by have := HK1.out; omega⟩, ⟨by (with_reducible repeat (first | apply Kd.R_alloc | apply Kd.R_drewN | apply Kd.R_drew)); exact Kd.R_mono (Kd.R_far (p := ⟨gb345, 3, none⟩) (Kd.R_far (p := ⟨gb345, 2, none⟩) (Kd.R_far (p := ⟨gb345, 1, none⟩) (Kd.R_far (p := ⟨gb345, 0, none⟩) (Kd.R_far (p := ⟨gb355, 3, none⟩) (Kd.R_far (p := ⟨gb355, 2, none⟩) (Kd.R_far (p := ⟨gb355, 1, none⟩) (Kd.R_far (p := ⟨gb355, 0, none⟩) (Kd.R_types (Kd.R_types HO_340000.out BK355.out (by decide)) BK345.out (by decide)) (fun _ hk => hk.1.2) (.int .i64 t350)) (fun _ hk => hk.1.2) (.int .i64 t351)) (fun _ hk => hk.1.2) (.int .i64 t352)) (fun _ hk => hk.1.2) (.int .i64 t353)) (fun _ hk => hk.2) (.int .i64 t350)) (fun _ hk => hk.2) (.int .i64 t351)) (fun _ hk => hk.2) (.int .i64 t352)) (fun _ hk => hk.2) (.int .i64 t353)) (fun _ hk => trivial)⟩, ⟨by (with_reducible repeat (first | refine blk_drewN ?_ _ | refine blk_drew ?_ | refine blk_alloc ?_ _)); refine blk_far ?_ NB339_345.out _; (with_reducible repeat (first | refine blk_drewN ?_ _ | refine blk_drew ?_ | refine blk_alloc ?_ _)); refine blk_far ?_ NB339_345.out _; (with_reducible repeat (first | refine blk_drewN ?_ _ | refine blk_drew ?_ | refine blk_alloc ?_ _)); refine blk_far ?_ NB339_345.out _; (with_reducible repeat (first | refine blk_drewN ?_ _ | refine blk_drew ?_ | refine blk_alloc ?_ _)); refine blk_far ?_ NB339_345.out _; (with_reducible repeat (first | refine blk_drewN ?_ _ | refine blk_drew ?_ | refine blk_alloc ?_ _)); refine blk_far ?_ NB339_355.out _; (with_reducible repeat (first | refine blk_drewN ?_ _ | refine blk_drew ?_ | refine blk_alloc ?_ _)); refine blk_far ?_ NB339_355.out _; (with_reducible repeat (first | refine blk_drewN ?_ _ | refine blk_drew ?_ | refine blk_alloc ?_ _)); refine blk_far ?_ NB339_355.out _; (with_reducible repeat (first | refine blk_drewN ?_ _ | refine blk_drew ?_ | refine blk_alloc ?_ _)); refine blk_far ?_ NB339_355.out _; (with_reducible repeat (first | refine blk_drewN ?_ _ | refine blk_drew ?_ | refine blk_alloc ?_ _)); exact BK339.out⟩, ⟨by (with_reducible repeat (first | refine blk_drewN ?_ _ | refine blk_drew ?_ | refine blk_alloc ?_ _)); refine blk_put (cs := #[.int .i64 t350, .int .i64 t351, .int .i64 t352, .int .i64 x346003_1]) ?_ 3 _ rfl; (with_reducible repeat (first | refine blk_drewN ?_ _ | refine blk_drew ?_ | refine blk_alloc ?_ _)); refine blk_put (cs := #[.int .i64 t350, .int .i64 t351, .int .i64 x346002_1, .int .i64 x346003_1]) ?_ 2 _ rfl; (with_reducible repeat (first | refine blk_drewN ?_ _ | refine blk_drew ?_ | refine blk_alloc ?_ _)); refine blk_put (cs := #[.int .i64 t350, .int .i64 x346001_1, .int .i64 x346002_1, .int .i64 x346003_1]) ?_ 1 _ rfl; (with_reducible repeat (first | refine blk_drewN ?_ _ | refine blk_drew ?_ | refine blk_alloc ?_ _)); refine blk_put (cs := #[.int .i64 x346000_1, .int .i64 x346001_1, .int .i64 x346002_1, .int .i64 x346003_1]) ?_ 0 _ rfl; (with_reducible repeat (first | refine blk_drewN ?_ _ | refine blk_drew ?_ | refine blk_alloc ?_ _)); refine blk_far ?_ NB345_355.out _; (with_reducible repeat (first | refine blk_drewN ?_ _ | refine blk_drew ?_ | refine blk_alloc ?_ _)); refine blk_far ?_ NB345_355.out _; (with_reducible repeat (first | refine blk_drewN ?_ _ | refine blk_drew ?_ | refine blk_alloc ?_ _)); refine blk_far ?_ NB345_355.out _; (with_reducible repeat (first | refine blk_drewN ?_ _ | refine blk_drew ?_ | refine blk_alloc ?_ _)); refine blk_far ?_ NB345_355.out _; (with_reducible repeat (first | refine blk_drewN ?_ _ | refine blk_drew ?_ | refine blk_alloc ?_ _)); exact BK345.out⟩, ⟨by repeat (first | (with_reducible first | exact HB.out | apply below_alloc | apply pw_below_drewN | apply below_drew1 | refine below_set ?_ GE339.out | refine below_set ?_ GE345.out | refine below_set ?_ GE355.out) | exact HB.out)⟩⟩
          · replace c18 := Bool.eq_false_iff.mpr c18
            subst c18
            have H1 : (some false) = some true := by first | (rw [if_neg (show ¬ (false = true) by decide)] at H; exact H) | rfl
            clear H
            have H := H1
            clear H1
            exact absurd (Option.some.inj H) (by decide)
        · rw [if_neg c15] at H
          have c15b0 : decide (x6_1 < 4) = false := decide_eq_false c15
          clear c15
          replace H := Option.bind_eq_some_iff.mp H
          obtain ⟨⟨t356, t357, t358, t359⟩, A420, H⟩ := H
          replace H : ((impl_AddIntervals.f k1 x346000_1 x346001_1 x346002_1 x346003_1 t356 t357 t358 t359).bind fun bt360 => ((impl_IsWideThird.f k1 t336 (Int.tmod t340 12)).bind fun t366 => ((impl_SmallThirdParts.f k1 t336 (Int.tmod t340 12)).bind fun t367 => ((impl_ThirdAt.f k1 t336 (Int.tmod t340 12)).bind fun bt368 => (if (x346000_1 == bt368.1 && (x346001_1 == bt368.2.1 && (x346002_1 == bt368.2.2.1 && (x346003_1 == bt368.2.2.2)))) = true then (if bt360.2.2.2.2 = true then ((impl_ThirdError.f k1 t336 (Int.tmod t340 12)).bind fun bt372 => (if (bt360.1 == bt372.1 && (bt360.2.1 == bt372.2.1 && (bt360.2.2.1 == bt372.2.2.1 && (bt360.2.2.2.1 == bt372.2.2.2)))) = true then ((impl_ThirdParts.f k1 t336 (Int.tmod t340 12)).bind fun t376 => (if (t366 == (decide (t376 < 12))) = true then ((impl_SignOf.f k1 bt360.1 bt360.2.1 bt360.2.2.1 bt360.2.2.2.1).bind fun t377 => (if (t366 == (decide (t377 > 0))) = true then (if 0 ≤ (Int.tmod (wrap64 ((Int.tmod t340 12) + 9)) 12) then (if (Int.tmod (wrap64 ((Int.tmod t340 12) + 9)) 12) < (t336.length : Int) then (if 0 ≤ (Int.tmod (wrap64 ((Int.tmod t340 12) + 10)) 12) then (if (Int.tmod (wrap64 ((Int.tmod t340 12) + 10)) 12) < (t336.length : Int) then (if 0 ≤ (Int.tmod (wrap64 ((Int.tmod t340 12) + 11)) 12) then (if (Int.tmod (wrap64 ((Int.tmod t340 12) + 11)) 12) < (t336.length : Int) then (some ((wrap64 (12 - t367)) == (wrap64 ((wrap64 ((rd t336 (Int.tmod (wrap64 ((Int.tmod t340 12) + 9)) 12)) + (rd t336 (Int.tmod (wrap64 ((Int.tmod t340 12) + 10)) 12)))) + (rd t336 (Int.tmod (wrap64 ((Int.tmod t340 12) + 11)) 12)))))) else (none)) else (none)) else (none)) else (none)) else (none)) else (none)) else (some false))) else (some false))) else (some false))) else (some false)) else (some false)))))) = some true := H
          have A42 := Aside0.mk A420
          clear A420
          replace H := Option.bind_eq_some_iff.mp H
          obtain ⟨⟨t360, t361, t362, t363, t364⟩, A430, H⟩ := H
          replace H : ((impl_IsWideThird.f k1 t336 (Int.tmod t340 12)).bind fun t366 => ((impl_SmallThirdParts.f k1 t336 (Int.tmod t340 12)).bind fun t367 => ((impl_ThirdAt.f k1 t336 (Int.tmod t340 12)).bind fun bt368 => (if (x346000_1 == bt368.1 && (x346001_1 == bt368.2.1 && (x346002_1 == bt368.2.2.1 && (x346003_1 == bt368.2.2.2)))) = true then (if t364 = true then ((impl_ThirdError.f k1 t336 (Int.tmod t340 12)).bind fun bt372 => (if (t360 == bt372.1 && (t361 == bt372.2.1 && (t362 == bt372.2.2.1 && (t363 == bt372.2.2.2)))) = true then ((impl_ThirdParts.f k1 t336 (Int.tmod t340 12)).bind fun t376 => (if (t366 == (decide (t376 < 12))) = true then ((impl_SignOf.f k1 t360 t361 t362 t363).bind fun t377 => (if (t366 == (decide (t377 > 0))) = true then (if 0 ≤ (Int.tmod (wrap64 ((Int.tmod t340 12) + 9)) 12) then (if (Int.tmod (wrap64 ((Int.tmod t340 12) + 9)) 12) < (t336.length : Int) then (if 0 ≤ (Int.tmod (wrap64 ((Int.tmod t340 12) + 10)) 12) then (if (Int.tmod (wrap64 ((Int.tmod t340 12) + 10)) 12) < (t336.length : Int) then (if 0 ≤ (Int.tmod (wrap64 ((Int.tmod t340 12) + 11)) 12) then (if (Int.tmod (wrap64 ((Int.tmod t340 12) + 11)) 12) < (t336.length : Int) then (some ((wrap64 (12 - t367)) == (wrap64 ((wrap64 ((rd t336 (Int.tmod (wrap64 ((Int.tmod t340 12) + 9)) 12)) + (rd t336 (Int.tmod (wrap64 ((Int.tmod t340 12) + 10)) 12)))) + (rd t336 (Int.tmod (wrap64 ((Int.tmod t340 12) + 11)) 12)))))) else (none)) else (none)) else (none)) else (none)) else (none)) else (none)) else (some false))) else (some false))) else (some false))) else (some false)) else (some false))))) = some true := H
          have A43 := Aside0.mk A430
          clear A430
          replace H := Option.bind_eq_some_iff.mp H
          obtain ⟨t366, A440, H⟩ := H
          replace H : ((impl_SmallThirdParts.f k1 t336 (Int.tmod t340 12)).bind fun t367 => ((impl_ThirdAt.f k1 t336 (Int.tmod t340 12)).bind fun bt368 => (if (x346000_1 == bt368.1 && (x346001_1 == bt368.2.1 && (x346002_1 == bt368.2.2.1 && (x346003_1 == bt368.2.2.2)))) = true then (if t364 = true then ((impl_ThirdError.f k1 t336 (Int.tmod t340 12)).bind fun bt372 => (if (t360 == bt372.1 && (t361 == bt372.2.1 && (t362 == bt372.2.2.1 && (t363 == bt372.2.2.2)))) = true then ((impl_ThirdParts.f k1 t336 (Int.tmod t340 12)).bind fun t376 => (if (t366 == (decide (t376 < 12))) = true then ((impl_SignOf.f k1 t360 t361 t362 t363).bind fun t377 => (if (t366 == (decide (t377 > 0))) = true then (if 0 ≤ (Int.tmod (wrap64 ((Int.tmod t340 12) + 9)) 12) then (if (Int.tmod (wrap64 ((Int.tmod t340 12) + 9)) 12) < (t336.length : Int) then (if 0 ≤ (Int.tmod (wrap64 ((Int.tmod t340 12) + 10)) 12) then (if (Int.tmod (wrap64 ((Int.tmod t340 12) + 10)) 12) < (t336.length : Int) then (if 0 ≤ (Int.tmod (wrap64 ((Int.tmod t340 12) + 11)) 12) then (if (Int.tmod (wrap64 ((Int.tmod t340 12) + 11)) 12) < (t336.length : Int) then (some ((wrap64 (12 - t367)) == (wrap64 ((wrap64 ((rd t336 (Int.tmod (wrap64 ((Int.tmod t340 12) + 9)) 12)) + (rd t336 (Int.tmod (wrap64 ((Int.tmod t340 12) + 10)) 12)))) + (rd t336 (Int.tmod (wrap64 ((Int.tmod t340 12) + 11)) 12)))))) else (none)) else (none)) else (none)) else (none)) else (none)) else (none)) else (some false))) else (some false))) else (some false))) else (some false)) else (some false)))) = some true := H
          have A44 := Aside0.mk A440
          clear A440
          replace H := Option.bind_eq_some_iff.mp H
          obtain ⟨t367, A450, H⟩ := H
          replace H : ((impl_ThirdAt.f k1 t336 (Int.tmod t340 12)).bind fun bt368 => (if (x346000_1 == bt368.1 && (x346001_1 == bt368.2.1 && (x346002_1 == bt368.2.2.1 && (x346003_1 == bt368.2.2.2)))) = true then (if t364 = true then ((impl_ThirdError.f k1 t336 (Int.tmod t340 12)).bind fun bt372 => (if (t360 == bt372.1 && (t361 == bt372.2.1 && (t362 == bt372.2.2.1 && (t363 == bt372.2.2.2)))) = true then ((impl_ThirdParts.f k1 t336 (Int.tmod t340 12)).bind fun t376 => (if (t366 == (decide (t376 < 12))) = true then ((impl_SignOf.f k1 t360 t361 t362 t363).bind fun t377 => (if (t366 == (decide (t377 > 0))) = true then (if 0 ≤ (Int.tmod (wrap64 ((Int.tmod t340 12) + 9)) 12) then (if (Int.tmod (wrap64 ((Int.tmod t340 12) + 9)) 12) < (t336.length : Int) then (if 0 ≤ (Int.tmod (wrap64 ((Int.tmod t340 12) + 10)) 12) then (if (Int.tmod (wrap64 ((Int.tmod t340 12) + 10)) 12) < (t336.length : Int) then (if 0 ≤ (Int.tmod (wrap64 ((Int.tmod t340 12) + 11)) 12) then (if (Int.tmod (wrap64 ((Int.tmod t340 12) + 11)) 12) < (t336.length : Int) then (some ((wrap64 (12 - t367)) == (wrap64 ((wrap64 ((rd t336 (Int.tmod (wrap64 ((Int.tmod t340 12) + 9)) 12)) + (rd t336 (Int.tmod (wrap64 ((Int.tmod t340 12) + 10)) 12)))) + (rd t336 (Int.tmod (wrap64 ((Int.tmod t340 12) + 11)) 12)))))) else (none)) else (none)) else (none)) else (none)) else (none)) else (none)) else (some false))) else (some false))) else (some false))) else (some false)) else (some false))) = some true := H
          have A45 := Aside0.mk A450
          clear A450
          replace H := Option.bind_eq_some_iff.mp H
          obtain ⟨⟨t368, t369, t370, t371⟩, A460, H⟩ := H
          replace H : (if (x346000_1 == t368 && (x346001_1 == t369 && (x346002_1 == t370 && (x346003_1 == t371)))) = true then (if t364 = true then ((impl_ThirdError.f k1 t336 (Int.tmod t340 12)).bind fun bt372 => (if (t360 == bt372.1 && (t361 == bt372.2.1 && (t362 == bt372.2.2.1 && (t363 == bt372.2.2.2)))) = true then ((impl_ThirdParts.f k1 t336 (Int.tmod t340 12)).bind fun t376 => (if (t366 == (decide (t376 < 12))) = true then ((impl_SignOf.f k1 t360 t361 t362 t363).bind fun t377 => (if (t366 == (decide (t377 > 0))) = true then (if 0 ≤ (Int.tmod (wrap64 ((Int.tmod t340 12) + 9)) 12) then (if (Int.tmod (wrap64 ((Int.tmod t340 12) + 9)) 12) < (t336.length : Int) then (if 0 ≤ (Int.tmod (wrap64 ((Int.tmod t340 12) + 10)) 12) then (if (Int.tmod (wrap64 ((Int.tmod t340 12) + 10)) 12) < (t336.length : Int) then (if 0 ≤ (Int.tmod (wrap64 ((Int.tmod t340 12) + 11)) 12) then (if (Int.tmod (wrap64 ((Int.tmod t340 12) + 11)) 12) < (t336.length : Int) then (some ((wrap64 (12 - t367)) == (wrap64 ((wrap64 ((rd t336 (Int.tmod (wrap64 ((Int.tmod t340 12) + 9)) 12)) + (rd t336 (Int.tmod (wrap64 ((Int.tmod t340 12) + 10)) 12)))) + (rd t336 (Int.tmod (wrap64 ((Int.tmod t340 12) + 11)) 12)))))) else (none)) else (none)) else (none)) else (none)) else (none)) else (none)) else (some false))) else (some false))) else (some false))) else (some false)) else (some false)) = some true := H
          have A46 := Aside0.mk A460
          clear A460
          by_cases c47 : (x346000_1 == t368 && (x346001_1 == t369 && (x346002_1 == t370 && (x346003_1 == t371)))) = true
          · rw [if_pos c47] at H
            have c47b0 : (x346000_1 == t368 && (x346001_1 == t369 && (x346002_1 == t370 && (x346003_1 == t371)))) = true := c47
            (try (have c47b1 : decide (x346000_1 = t368 && (x346001_1 == t369 && (x346002_1 == t370 && (x346003_1 == t371)))) = true := by simpa using c47))
            (try (have c47b2 : (x346000_1 == t368 && (x346001_1 == t369 && (x346002_1 == t370 && (x346003_1 == t371)))) = true := by simpa using c47))
            clear c47
            by_cases c48 : t364 = true
            · subst c48
              have H1 : ((impl_ThirdError.f k1 t336 (Int.tmod t340 12)).bind fun bt372 => (if (t360 == bt372.1 && (t361 == bt372.2.1 && (t362 == bt372.2.2.1 && (t363 == bt372.2.2.2)))) = true then ((impl_ThirdParts.f k1 t336 (Int.tmod t340 12)).bind fun t376 => (if (t366 == (decide (t376 < 12))) = true then ((impl_SignOf.f k1 t360 t361 t362 t363).bind fun t377 => (if (t366 == (decide (t377 > 0))) = true then (if 0 ≤ (Int.tmod (wrap64 ((Int.tmod t340 12) + 9)) 12) then (if (Int.tmod (wrap64 ((Int.tmod t340 12) + 9)) 12) < (t336.length : Int) then (if 0 ≤ (Int.tmod (wrap64 ((Int.tmod t340 12) + 10)) 12) then (if (Int.tmod (wrap64 ((Int.tmod t340 12) + 10)) 12) < (t336.length : Int) then (if 0 ≤ (Int.tmod (wrap64 ((Int.tmod t340 12) + 11)) 12) then (if (Int.tmod (wrap64 ((Int.tmod t340 12) + 11)) 12) < (t336.length : Int) then (some ((wrap64 (12 - t367)) == (wrap64 ((wrap64 ((rd t336 (Int.tmod (wrap64 ((Int.tmod t340 12) + 9)) 12)) + (rd t336 (Int.tmod (wrap64 ((Int.tmod t340 12) + 10)) 12)))) + (rd t336 (Int.tmod (wrap64 ((Int.tmod t340 12) + 11)) 12)))))) else (none)) else (none)) else (none)) else (none)) else (none)) else (none)) else (some false))) else (some false))) else (some false))) = some true := by first | (rw [if_pos rfl] at H; exact H) | rfl
              clear H
              have H := H1
              clear H1
              replace H := Option.bind_eq_some_iff.mp H
              obtain ⟨⟨t372, t373, t374, t375⟩, A490, H⟩ := H
              replace H : (if (t360 == t372 && (t361 == t373 && (t362 == t374 && (t363 == t375)))) = true then ((impl_ThirdParts.f k1 t336 (Int.tmod t340 12)).bind fun t376 => (if (t366 == (decide (t376 < 12))) = true then ((impl_SignOf.f k1 t360 t361 t362 t363).bind fun t377 => (if (t366 == (decide (t377 > 0))) = true then (if 0 ≤ (Int.tmod (wrap64 ((Int.tmod t340 12) + 9)) 12) then (if (Int.tmod (wrap64 ((Int.tmod t340 12) + 9)) 12) < (t336.length : Int) then (if 0 ≤ (Int.tmod (wrap64 ((Int.tmod t340 12) + 10)) 12) then (if (Int.tmod (wrap64 ((Int.tmod t340 12) + 10)) 12) < (t336.length : Int) then (if 0 ≤ (Int.tmod (wrap64 ((Int.tmod t340 12) + 11)) 12) then (if (Int.tmod (wrap64 ((Int.tmod t340 12) + 11)) 12) < (t336.length : Int) then (some ((wrap64 (12 - t367)) == (wrap64 ((wrap64 ((rd t336 (Int.tmod (wrap64 ((Int.tmod t340 12) + 9)) 12)) + (rd t336 (Int.tmod (wrap64 ((Int.tmod t340 12) + 10)) 12)))) + (rd t336 (Int.tmod (wrap64 ((Int.tmod t340 12) + 11)) 12)))))) else (none)) else (none)) else (none)) else (none)) else (none)) else (none)) else (some false))) else (some false))) else (some false)) = some true := H
              have A49 := Aside0.mk A490
              clear A490
              by_cases c50 : (t360 == t372 && (t361 == t373 && (t362 == t374 && (t363 == t375)))) = true
              · rw [if_pos c50] at H
                have c50b0 : (t360 == t372 && (t361 == t373 && (t362 == t374 && (t363 == t375)))) = true := c50
                (try (have c50b1 : decide (t360 = t372 && (t361 == t373 && (t362 == t374 && (t363 == t375)))) = true := by simpa using c50))
                (try (have c50b2 : (t360 == t372 && (t361 == t373 && (t362 == t374 && (t363 == t375)))) = true := by simpa using c50))
                clear c50
                replace H := Option.bind_eq_some_iff.mp H
                obtain ⟨t376, A510, H⟩ := H
                replace H : (if (t366 == (decide (t376 < 12))) = true then ((impl_SignOf.f k1 t360 t361 t362 t363).bind fun t377 => (if (t366 == (decide (t377 > 0))) = true then (if 0 ≤ (Int.tmod (wrap64 ((Int.tmod t340 12) + 9)) 12) then (if (Int.tmod (wrap64 ((Int.tmod t340 12) + 9)) 12) < (t336.length : Int) then (if 0 ≤ (Int.tmod (wrap64 ((Int.tmod t340 12) + 10)) 12) then (if (Int.tmod (wrap64 ((Int.tmod t340 12) + 10)) 12) < (t336.length : Int) then (if 0 ≤ (Int.tmod (wrap64 ((Int.tmod t340 12) + 11)) 12) then (if (Int.tmod (wrap64 ((Int.tmod t340 12) + 11)) 12) < (t336.length : Int) then (some ((wrap64 (12 - t367)) == (wrap64 ((wrap64 ((rd t336 (Int.tmod (wrap64 ((Int.tmod t340 12) + 9)) 12)) + (rd t336 (Int.tmod (wrap64 ((Int.tmod t340 12) + 10)) 12)))) + (rd t336 (Int.tmod (wrap64 ((Int.tmod t340 12) + 11)) 12)))))) else (none)) else (none)) else (none)) else (none)) else (none)) else (none)) else (some false))) else (some false)) = some true := H
                have A51 := Aside0.mk A510
                clear A510
                by_cases c52 : (t366 == (decide (t376 < 12))) = true
                · rw [if_pos c52] at H
                  have c52b0 : (t366 == (decide (t376 < 12))) = true := c52
                  (try (have c52b1 : decide (t366 = (decide (t376 < 12))) = true := by simpa using c52))
                  (try (have c52b2 : (t366 == (decide (t376 < 12))) = true := by simpa using c52))
                  clear c52
                  replace H := Option.bind_eq_some_iff.mp H
                  obtain ⟨t377, A530, H⟩ := H
                  replace H : (if (t366 == (decide (t377 > 0))) = true then (if 0 ≤ (Int.tmod (wrap64 ((Int.tmod t340 12) + 9)) 12) then (if (Int.tmod (wrap64 ((Int.tmod t340 12) + 9)) 12) < (t336.length : Int) then (if 0 ≤ (Int.tmod (wrap64 ((Int.tmod t340 12) + 10)) 12) then (if (Int.tmod (wrap64 ((Int.tmod t340 12) + 10)) 12) < (t336.length : Int) then (if 0 ≤ (Int.tmod (wrap64 ((Int.tmod t340 12) + 11)) 12) then (if (Int.tmod (wrap64 ((Int.tmod t340 12) + 11)) 12) < (t336.length : Int) then (some ((wrap64 (12 - t367)) == (wrap64 ((wrap64 ((rd t336 (Int.tmod (wrap64 ((Int.tmod t340 12) + 9)) 12)) + (rd t336 (Int.tmod (wrap64 ((Int.tmod t340 12) + 10)) 12)))) + (rd t336 (Int.tmod (wrap64 ((Int.tmod t340 12) + 11)) 12)))))) else (none)) else (none)) else (none)) else (none)) else (none)) else (none)) else (some false)) = some true := H
                  have A53 := Aside0.mk A530
                  clear A530
                  by_cases c54 : (t366 == (decide (t377 > 0))) = true
                  · rw [if_pos c54] at H
                    have c54b0 : (t366 == (decide (t377 > 0))) = true := c54
                    (try (have c54b1 : decide (t366 = (decide (t377 > 0))) = true := by simpa using c54))
                    (try (have c54b2 : (t366 == (decide (t377 > 0))) = true := by simpa using c54))
                    clear c54
                    obtain ⟨ji55, hji55⟩ : ∃ j_ : Int, (Int.tmod (wrap64 ((Int.tmod t340 12) + 9)) 12) = j_ := ⟨_, rfl⟩
                    replace H : (if 0 ≤ (ji55) then (if (ji55) < (t336.length : Int) then (if 0 ≤ (Int.tmod (wrap64 ((Int.tmod t340 12) + 10)) 12) then (if (Int.tmod (wrap64 ((Int.tmod t340 12) + 10)) 12) < (t336.length : Int) then (if 0 ≤ (Int.tmod (wrap64 ((Int.tmod t340 12) + 11)) 12) then (if (Int.tmod (wrap64 ((Int.tmod t340 12) + 11)) 12) < (t336.length : Int) then (some ((wrap64 (12 - t367)) == (wrap64 ((wrap64 ((rd t336 (ji55)) + (rd t336 (Int.tmod (wrap64 ((Int.tmod t340 12) + 10)) 12)))) + (rd t336 (Int.tmod (wrap64 ((Int.tmod t340 12) + 11)) 12)))))) else (none)) else (none)) else (none)) else (none)) else (none)) else (none)) = some true := by first | (rw [hji55] at H; exact H) | (simp only [hji55] at H ⊢; exact H)
                    (try rw [hji55] at A42)
                    (try rw [hji55] at A43)
                    (try rw [hji55] at A44)
                    (try rw [hji55] at A45)
                    (try rw [hji55] at A46)
                    (try rw [hji55] at A49)
                    (try rw [hji55] at A51)
                    (try rw [hji55] at A53)
                    by_cases c56 : 0 ≤ (ji55)
                    · rw [if_pos c56] at H
                      have c56b0 : decide (0 ≤ (ji55)) = true := decide_eq_true c56
                      clear c56
                      by_cases c57 : (ji55) < (t336.length : Int)
                      · rw [if_pos c57] at H
                        have c57b0 : decide ((ji55) < (t336.length : Int)) = true := decide_eq_true c57
                        clear c57
                        obtain ⟨ji58, hji58⟩ : ∃ j_ : Int, (Int.tmod (wrap64 ((Int.tmod t340 12) + 10)) 12) = j_ := ⟨_, rfl⟩
                        replace H : (if 0 ≤ (ji58) then (if (ji58) < (t336.length : Int) then (if 0 ≤ (Int.tmod (wrap64 ((Int.tmod t340 12) + 11)) 12) then (if (Int.tmod (wrap64 ((Int.tmod t340 12) + 11)) 12) < (t336.length : Int) then (some ((wrap64 (12 - t367)) == (wrap64 ((wrap64 ((rd t336 (ji55)) + (rd t336 (ji58)))) + (rd t336 (Int.tmod (wrap64 ((Int.tmod t340 12) + 11)) 12)))))) else (none)) else (none)) else (none)) else (none)) = some true := by first | (rw [hji58] at H; exact H) | (simp only [hji58] at H ⊢; exact H)
                        (try rw [hji58] at A42)
                        (try rw [hji58] at A43)
                        (try rw [hji58] at A44)
                        (try rw [hji58] at A45)
                        (try rw [hji58] at A46)
                        (try rw [hji58] at A49)
                        (try rw [hji58] at A51)
                        (try rw [hji58] at A53)
                        by_cases c59 : 0 ≤ (ji58)
                        · rw [if_pos c59] at H
                          have c59b0 : decide (0 ≤ (ji58)) = true := decide_eq_true c59
                          clear c59
                          by_cases c60 : (ji58) < (t336.length : Int)
                          · rw [if_pos c60] at H
                            have c60b0 : decide ((ji58) < (t336.length : Int)) = true := decide_eq_true c60
                            clear c60
                            obtain ⟨ji61, hji61⟩ : ∃ j_ : Int, (Int.tmod (wrap64 ((Int.tmod t340 12) + 11)) 12) = j_ := ⟨_, rfl⟩
                            replace H : (if 0 ≤ (ji61) then (if (ji61) < (t336.length : Int) then (some ((wrap64 (12 - t367)) == (wrap64 ((wrap64 ((rd t336 (ji55)) + (rd t336 (ji58)))) + (rd t336 (ji61)))))) else (none)) else (none)) = some true := by first | (rw [hji61] at H; exact H) | (simp only [hji61] at H ⊢; exact H)
                            (try rw [hji61] at A42)
                            (try rw [hji61] at A43)
                            (try rw [hji61] at A44)
                            (try rw [hji61] at A45)
                            (try rw [hji61] at A46)
                            (try rw [hji61] at A49)
                            (try rw [hji61] at A51)
                            (try rw [hji61] at A53)
                            by_cases c62 : 0 ≤ (ji61)
                            · rw [if_pos c62] at H
                              have c62b0 : decide (0 ≤ (ji61)) = true := decide_eq_true c62
                              clear c62
                              by_cases c63 : (ji61) < (t336.length : Int)
                              · rw [if_pos c63] at H
                                have c63b0 : decide ((ji61) < (t336.length : Int)) = true := decide_eq_true c63
                                clear c63
                                have Hq_ := Aside0.mk (Option.some.inj H)
                                clear H
                                try go_wp2
                                have n0_ := Aside0.mk (Kd.R_drew HO_340000.out)
                                have n1_ := Aside0.mk (blk_drew BK339.out)
                                have n2_ := Aside0.mk (blk_drew BK345.out)
                                have n3_ := Aside0.mk (below_drew1 HB.out)
                                clear HO_340000
                                clear BK339
                                clear BK345
                                clear HB
                                have HO_340000 := n0_
                                have BK339 := n1_
                                have BK345 := n2_
                                have HB := n3_
                                clear n0_ n1_ n2_ n3_
                                refine start_ (n := 9) (S := fun w' => w'.cell? ⟨gb345, 0, none⟩ = some (.int .i64 x346000_1) ∧ w'.cell? ⟨gb345, 1, none⟩ = some (.int .i64 x346001_1) ∧ w'.cell? ⟨gb345, 2, none⟩ = some (.int .i64 x346002_1) ∧ w'.cell? ⟨gb345, 3, none⟩ = some (.int .i64 x346003_1)) (ds := []) #[false, false, false, false, false, false, false, false, false] (by kernel_rfl) rfl rfl ⟨(blk_cell BK345.out 0).trans rfl, (blk_cell BK345.out 1).trans rfl, (blk_cell BK345.out 2).trans rfl, (blk_cell BK345.out 3).trans rfl⟩ (fun hHeld => ?_); refine with_tabW laws_FnThirds.tab13 laws_FnThirds.bits13 (fun HT_ HW_ => ?_)
                                generalize wr.drew = w64 at HO_340000 BK339 BK345 HB hHeld ⊢
                                refine take_ (i := 0) (N := some 40) (v := ?_) (a' := ?_) #[true, false, false, false, false, false, false, false, false] rfl rfl (take_ofW HT_.out HW_.out (by kernel_rfl)) (fun _ _ _ h => h) (Or.inl ⟨by rfl, ?_⟩) hHeld ?_ ?_
                                rotate_left
                                · rintro w' ⟨s0, s1, s2, s3⟩
                                  go_simp
                                  with_reducible rfl
                                rotate_left
                                · simp only [Act.put, List.setIfInBounds_toArray, List.set_cons_zero, List.set_cons_succ, i64_w, i32_w]
                                  rfl
                                refine join_ (σ := Nat) 2 #[true, true, true, true, true, true, true, false, false] (fun s_ => [(41, .agg #[.int .i64 t356, .int .i64 t357, .int .i64 t358, .int .i64 t359]), (42, .tuple #[.agg #[.int .i64 t360, .int .i64 t361, .int .i64 t362, .int .i64 t363], .bool true]), (9, .pointer (some ⟨s_, 0, none⟩)), (39, .tuple #[.agg #[.int .i64 t360, .int .i64 t361, .int .i64 t362, .int .i64 t363], .bool true]), (43, .agg #[.int .i64 t360, .int .i64 t361, .int .i64 t362, .int .i64 t363]), (44, .bool true)]) (fun s_ w' => (w'.cell? ⟨gb345, 0, none⟩ = some (.int .i64 x346000_1) ∧ w'.cell? ⟨gb345, 1, none⟩ = some (.int .i64 x346001_1) ∧ w'.cell? ⟨gb345, 2, none⟩ = some (.int .i64 x346002_1) ∧ w'.cell? ⟨gb345, 3, none⟩ = some (.int .i64 x346003_1)) ∧ (Kd.R (Kd.int .i64) 3 w' w.heap.size (fun _ => True) (.slice Ao9 t336.length co9) t336) ∧ (w'.heap[gb339]? = some (.cells #[.slice Ao9 t336.length co9] 49 (0, 0))) ∧ (w'.heap[gb345]? = some (.cells #[.int .i64 x346000_1, .int .i64 x346001_1, .int .i64 x346002_1, .int .i64 x346003_1] 29 (0, 0))) ∧ (w'.heap[s_]? = some (.cells #[.int .i64 0, .int .i64 0, .int .i64 0, .int .i64 0] 29 (0, 0))) ∧ (w.heap.size ≤ s_) ∧ (w.heap.size ≤ s_) ∧ (gb339 ≠ s_) ∧ (s_ ≠ gb339) ∧ (gb345 ≠ s_) ∧ (s_ ≠ gb345) ∧ (Below w.heap.size w w')) ?_ ?_
                                rotate_left
                                · intro hCont
                                  refine two_ (i := 1) (j := 6) (Ni := some 41) (Nj := some 9) #[true, true, false, false, false, false, false, false, false] #[true, false, false, false, false, false, true, false, false] rfl rfl rfl rfl (two_of HT_.out (by kernel_rfl)) (by decide) (by decide) (fun K hK => ?_) (fun K hK => ?_)
                                  · skip
                                    refine goes_ Try.func29 (by kernel_rfl) rfl #[.int .i64 2, .int .i64 0, .int .i64 (-1)] (by rfl) rfl rfl (by (try simp only [List.map_toArray, List.map_cons, List.map_nil]); first | done | rfl | (simp only [List.length_drop, List.length_take]; rfl)) ?_
                                    with_reducible refine (impl_PureOf.calls 2 0 (-1) t356 t357 t358 t359 _ A42.out).mono ?_
                                    rintro e w65 ⟨rfl, hb⟩
                                    refine ⟨_, rfl, ?_⟩
                                    have n0_ := Aside0.mk (Kd.R_below (by (with_reducible repeat (first | apply Kd.R_alloc | apply Kd.R_drewN | apply Kd.R_drew)); exact HO_340000.out) hb)
                                    have n1_ := Aside0.mk (blk_below (g := gb339) (o := .cells #[.slice Ao9 t336.length co9] 49 (0, 0)) (by (with_reducible repeat (first | refine blk_drewN ?_ _ | refine blk_drew ?_ | refine blk_alloc ?_ _)); exact BK339.out) hb)
                                    have n2_ := Aside0.mk (blk_below (g := gb345) (o := .cells #[.int .i64 x346000_1, .int .i64 x346001_1, .int .i64 x346002_1, .int .i64 x346003_1] 29 (0, 0)) (by (with_reducible repeat (first | refine blk_drewN ?_ _ | refine blk_drew ?_ | refine blk_alloc ?_ _)); exact BK345.out) hb)
                                    have n3_ := Aside0.mk (below_step (by repeat (first | (with_reducible first | exact HB.out | apply below_alloc | apply pw_below_drewN | apply below_drew1 | refine below_set ?_ GE339.out | refine below_set ?_ GE345.out) | exact HB.out)) hb)
                                    clear HO_340000
                                    clear BK339
                                    clear BK345
                                    clear HB
                                    have HO_340000 := n0_
                                    have BK339 := n1_
                                    have BK345 := n2_
                                    have HB := n3_
                                    clear n0_ n1_ n2_ n3_
                                    (try clear hb)
                                    (try clear hb2)
                                    (try clear hk)
                                    (try clear hi)
                                    refine hK.out _ _ ⟨(blk_cell BK345.out 0).trans rfl, (blk_cell BK345.out 1).trans rfl, (blk_cell BK345.out 2).trans rfl, (blk_cell BK345.out 3).trans rfl⟩ (fun hHeld => ?_)
                                    clear hK K
                                    refine norm_ (a' := ?_) ?_ ?_
                                    rotate_left
                                    · show Act.put _ (some 41) _ = _
                                      simp only [Act.put, List.setIfInBounds_toArray, List.set_cons_zero, List.set_cons_succ, i64_w, i32_w]
                                      rfl
                                    refine two_ (i := 2) (j := 6) (Ni := some 42) (Nj := some 9) #[true, true, true, false, false, false, false, false, false] #[true, true, false, false, false, false, true, false, false] rfl rfl rfl rfl (two_of HT_.out (by kernel_rfl)) (by decide) (by decide) (fun K hK => ?_) (fun K hK => ?_)
                                    · skip
                                      refine goes_ Try.func17 (by kernel_rfl) rfl #[.agg #[.int .i64 x346000_1, .int .i64 x346001_1, .int .i64 x346002_1, .int .i64 x346003_1], .agg #[.int .i64 t356, .int .i64 t357, .int .i64 t358, .int .i64 t359]] (by rfl) rfl rfl (by (try simp only [List.map_toArray, List.map_cons, List.map_nil]); first | done | rfl | (simp only [List.length_drop, List.length_take]; rfl)) ?_
                                      with_reducible refine (impl_AddIntervals.calls k1 x346000_1 x346001_1 x346002_1 x346003_1 t356 t357 t358 t359 t360 t361 t362 t363 true _ A43.out).mono ?_
                                      rintro e w66 ⟨rfl, hb⟩
                                      refine ⟨_, rfl, ?_⟩
                                      have n0_ := Aside0.mk (Kd.R_below (by (with_reducible repeat (first | apply Kd.R_alloc | apply Kd.R_drewN | apply Kd.R_drew)); exact HO_340000.out) hb)
                                      have n1_ := Aside0.mk (blk_below (g := gb339) (o := .cells #[.slice Ao9 t336.length co9] 49 (0, 0)) (by (with_reducible repeat (first | refine blk_drewN ?_ _ | refine blk_drew ?_ | refine blk_alloc ?_ _)); exact BK339.out) hb)
                                      have n2_ := Aside0.mk (blk_below (g := gb345) (o := .cells #[.int .i64 x346000_1, .int .i64 x346001_1, .int .i64 x346002_1, .int .i64 x346003_1] 29 (0, 0)) (by (with_reducible repeat (first | refine blk_drewN ?_ _ | refine blk_drew ?_ | refine blk_alloc ?_ _)); exact BK345.out) hb)
                                      have n3_ := Aside0.mk (below_step (by repeat (first | (with_reducible first | exact HB.out | apply below_alloc | apply pw_below_drewN | apply below_drew1 | refine below_set ?_ GE339.out | refine below_set ?_ GE345.out) | exact HB.out)) hb)
                                      clear HO_340000
                                      clear BK339
                                      clear BK345
                                      clear HB
                                      have HO_340000 := n0_
                                      have BK339 := n1_
                                      have BK345 := n2_
                                      have HB := n3_
                                      clear n0_ n1_ n2_ n3_
                                      (try clear hb)
                                      (try clear hb2)
                                      (try clear hk)
                                      (try clear hi)
                                      refine hK.out _ _ ⟨(blk_cell BK345.out 0).trans rfl, (blk_cell BK345.out 1).trans rfl, (blk_cell BK345.out 2).trans rfl, (blk_cell BK345.out 3).trans rfl⟩ (fun hHeld => ?_)
                                      clear hK K
                                      refine norm_ (a' := ?_) ?_ ?_
                                      rotate_left
                                      · show Act.put _ (some 42) _ = _
                                        simp only [Act.put, List.setIfInBounds_toArray, List.set_cons_zero, List.set_cons_succ, i64_w, i32_w]
                                        rfl
                                      refine pure_ (i := 3) (N := some 39) (v := ?_) (a' := ?_) #[true, true, true, true, false, false, false, false, false] rfl rfl (any_of HT_.out (by kernel_rfl)) (fun _ _ _ h => h) (Or.inl ⟨by rfl, ?_⟩) ?_ ?_
                                      rotate_left
                                      · intro w'
                                        go_simp
                                        with_reducible rfl
                                      rotate_left
                                      · simp only [Act.put, List.setIfInBounds_toArray, List.set_cons_zero, List.set_cons_succ, i64_w, i32_w]
                                        rfl
                                      refine pure_ (i := 4) (N := some 43) (v := ?_) (a' := ?_) #[true, true, true, true, true, false, false, false, false] rfl rfl (any_of HT_.out (by kernel_rfl)) (fun _ _ _ h => h) (Or.inl ⟨by rfl, ?_⟩) ?_ ?_
                                      rotate_left
                                      · intro w'
                                        go_simp
                                        with_reducible rfl
                                      rotate_left
                                      · simp only [Act.put, List.setIfInBounds_toArray, List.set_cons_zero, List.set_cons_succ, i64_w, i32_w]
                                        rfl
                                      refine pure_ (i := 5) (N := some 44) (v := ?_) (a' := ?_) #[true, true, true, true, true, true, false, false, false] rfl rfl (any_of HT_.out (by kernel_rfl)) (fun _ _ _ h => h) (Or.inl ⟨by rfl, ?_⟩) ?_ ?_
                                      rotate_left
                                      · intro w'
                                        go_simp
                                        with_reducible rfl
                                      rotate_left
                                      · simp only [Act.put, List.setIfInBounds_toArray, List.set_cons_zero, List.set_cons_succ, i64_w, i32_w]
                                        rfl
                                      refine one_ (i := 6) (N := some 9) #[true, true, true, true, true, true, true, false, false] rfl rfl (one_of HT_.out (by kernel_rfl)) (by decide) (fun K hK => ?_)
                                      refine box_step ?hg (N := 9) ?hd (cs := #[.int .i64 0, .int .i64 0, .int .i64 0, .int .i64 0]) (t := 29) ?hr ?_; (case hd => rfl); (case hg => rfl); (case hr => first | (go_simp; done) | (go_simp; rfl))
                                      intro gb365 hg w67 hbox hb
                                      have n0_ := Aside0.mk (Kd.R_below (by (with_reducible repeat (first | apply Kd.R_alloc | apply Kd.R_drewN | apply Kd.R_drew)); exact HO_340000.out) hb)
                                      have n1_ := Aside0.mk (blk_below (g := gb339) (o := .cells #[.slice Ao9 t336.length co9] 49 (0, 0)) (by (with_reducible repeat (first | refine blk_drewN ?_ _ | refine blk_drew ?_ | refine blk_alloc ?_ _)); exact BK339.out) hb)
                                      have n2_ := Aside0.mk (blk_below (g := gb345) (o := .cells #[.int .i64 x346000_1, .int .i64 x346001_1, .int .i64 x346002_1, .int .i64 x346003_1] 29 (0, 0)) (by (with_reducible repeat (first | refine blk_drewN ?_ _ | refine blk_drew ?_ | refine blk_alloc ?_ _)); exact BK345.out) hb)
                                      have n3_ := Aside0.mk (below_step (by repeat (first | (with_reducible first | exact HB.out | apply below_alloc | apply pw_below_drewN | apply below_drew1 | refine below_set ?_ GE339.out | refine below_set ?_ GE345.out) | exact HB.out)) hb)
                                      have n4_ := Aside0.mk (hbox)
                                      have n5_ := Aside0.mk ((by rw [hg]; exact (below_size (by repeat (first | (with_reducible first | exact HB.out | apply below_alloc | apply pw_below_drewN | apply below_drew1 | refine below_set ?_ GE339.out | refine below_set ?_ GE345.out) | exact HB.out))) : w.heap.size ≤ gb365))
                                      have n6_ := Aside0.mk ((by rw [hg]; exact (below_size (by repeat (first | (with_reducible first | exact HB.out | apply below_alloc | apply pw_below_drewN | apply below_drew1 | refine below_set ?_ GE339.out | refine below_set ?_ GE345.out) | exact HB.out))) : w.heap.size ≤ gb365))
                                      have n7_ := Aside0.mk ((by rw [hg]; exact Nat.ne_of_lt (blk_lt (g := gb339) (o := .cells #[.slice Ao9 t336.length co9] 49 (0, 0)) (by (with_reducible repeat (first | refine blk_drewN ?_ _ | refine blk_drew ?_ | refine blk_alloc ?_ _)); exact BK339.out)) : gb339 ≠ gb365))
                                      have n8_ := Aside0.mk ((by rw [hg]; exact Nat.ne_of_gt (blk_lt (g := gb339) (o := .cells #[.slice Ao9 t336.length co9] 49 (0, 0)) (by (with_reducible repeat (first | refine blk_drewN ?_ _ | refine blk_drew ?_ | refine blk_alloc ?_ _)); exact BK339.out)) : gb365 ≠ gb339))
                                      have n9_ := Aside0.mk ((by rw [hg]; exact Nat.ne_of_lt (blk_lt (g := gb345) (o := .cells #[.int .i64 x346000_1, .int .i64 x346001_1, .int .i64 x346002_1, .int .i64 x346003_1] 29 (0, 0)) (by (with_reducible repeat (first | refine blk_drewN ?_ _ | refine blk_drew ?_ | refine blk_alloc ?_ _)); exact BK345.out)) : gb345 ≠ gb365))
                                      have n10_ := Aside0.mk ((by rw [hg]; exact Nat.ne_of_gt (blk_lt (g := gb345) (o := .cells #[.int .i64 x346000_1, .int .i64 x346001_1, .int .i64 x346002_1, .int .i64 x346003_1] 29 (0, 0)) (by (with_reducible repeat (first | refine blk_drewN ?_ _ | refine blk_drew ?_ | refine blk_alloc ?_ _)); exact BK345.out)) : gb365 ≠ gb345))
                                      clear HO_340000
                                      clear BK339
                                      clear BK345
                                      clear HB
                                      have HO_340000 := n0_
                                      have BK339 := n1_
                                      have BK345 := n2_
                                      have HB := n3_
                                      have BK365 := n4_
                                      have GW365 := n5_
                                      have GE365 := n6_
                                      have NB339_365 := n7_
                                      have NB365_339 := n8_
                                      have NB345_365 := n9_
                                      have NB365_345 := n10_
                                      clear n0_ n1_ n2_ n3_ n4_ n5_ n6_ n7_ n8_ n9_ n10_
                                      clear hb hbox hg
                                      refine hK.out _ _ ⟨(blk_cell BK345.out 0).trans rfl, (blk_cell BK345.out 1).trans rfl, (blk_cell BK345.out 2).trans rfl, (blk_cell BK345.out 3).trans rfl⟩ (fun hHeld => ?_)
                                      clear hK K
                                      refine norm_ (a' := ?_) ?_ ?_
                                      rotate_left
                                      · show Act.put _ (some 9) _ = _
                                        simp only [Act.put, List.setIfInBounds_toArray, List.set_cons_zero, List.set_cons_succ, i64_w, i32_w]
                                        rfl
                                      exact norm_ (by simp only [putAll, Act.put, List.setIfInBounds_toArray, List.set_cons_zero, List.set_cons_succ]) (hCont (gb365) _ ⟨hHeld, (by (with_reducible repeat (first | apply Kd.R_alloc | apply Kd.R_drewN | apply Kd.R_drew)); exact HO_340000.out), (by (with_reducible repeat (first | refine blk_drewN ?_ _ | refine blk_drew ?_ | refine blk_alloc ?_ _)); exact BK339.out), (by (with_reducible repeat (first | refine blk_drewN ?_ _ | refine blk_drew ?_ | refine blk_alloc ?_ _)); exact BK345.out), (by (with_reducible repeat (first | refine blk_drewN ?_ _ | refine blk_drew ?_ | refine blk_alloc ?_ _)); exact BK365.out), GW365.out, GE365.out, NB339_365.out, NB365_339.out, NB345_365.out, NB365_345.out, (by repeat (first | (with_reducible first | exact HB.out | apply below_alloc | apply pw_below_drewN | apply below_drew1 | refine below_set ?_ GE339.out | refine below_set ?_ GE345.out | refine below_set ?_ GE365.out) | exact HB.out))⟩)
                                    · skip
                                      refine box_step ?hg (N := 9) ?hd (cs := #[.int .i64 0, .int .i64 0, .int .i64 0, .int .i64 0]) (t := 29) ?hr ?_; (case hd => rfl); (case hg => rfl); (case hr => first | (go_simp; done) | (go_simp; rfl))
                                      intro gb365 hg w66 hbox hb
                                      have n0_ := Aside0.mk (Kd.R_below (by (with_reducible repeat (first | apply Kd.R_alloc | apply Kd.R_drewN | apply Kd.R_drew)); exact HO_340000.out) hb)
                                      have n1_ := Aside0.mk (blk_below (g := gb339) (o := .cells #[.slice Ao9 t336.length co9] 49 (0, 0)) (by (with_reducible repeat (first | refine blk_drewN ?_ _ | refine blk_drew ?_ | refine blk_alloc ?_ _)); exact BK339.out) hb)
                                      have n2_ := Aside0.mk (blk_below (g := gb345) (o := .cells #[.int .i64 x346000_1, .int .i64 x346001_1, .int .i64 x346002_1, .int .i64 x346003_1] 29 (0, 0)) (by (with_reducible repeat (first | refine blk_drewN ?_ _ | refine blk_drew ?_ | refine blk_alloc ?_ _)); exact BK345.out) hb)
                                      have n3_ := Aside0.mk (below_step (by repeat (first | (with_reducible first | exact HB.out | apply below_alloc | apply pw_below_drewN | apply below_drew1 | refine below_set ?_ GE339.out | refine below_set ?_ GE345.out) | exact HB.out)) hb)
                                      have n4_ := Aside0.mk (hbox)
                                      have n5_ := Aside0.mk ((by rw [hg]; exact (below_size (by repeat (first | (with_reducible first | exact HB.out | apply below_alloc | apply pw_below_drewN | apply below_drew1 | refine below_set ?_ GE339.out | refine below_set ?_ GE345.out) | exact HB.out))) : w.heap.size ≤ gb365))
                                      have n6_ := Aside0.mk ((by rw [hg]; exact (below_size (by repeat (first | (with_reducible first | exact HB.out | apply below_alloc | apply pw_below_drewN | apply below_drew1 | refine below_set ?_ GE339.out | refine below_set ?_ GE345.out) | exact HB.out))) : w.heap.size ≤ gb365))
                                      have n7_ := Aside0.mk ((by rw [hg]; exact Nat.ne_of_lt (blk_lt (g := gb339) (o := .cells #[.slice Ao9 t336.length co9] 49 (0, 0)) (by (with_reducible repeat (first | refine blk_drewN ?_ _ | refine blk_drew ?_ | refine blk_alloc ?_ _)); exact BK339.out)) : gb339 ≠ gb365))
                                      have n8_ := Aside0.mk ((by rw [hg]; exact Nat.ne_of_gt (blk_lt (g := gb339) (o := .cells #[.slice Ao9 t336.length co9] 49 (0, 0)) (by (with_reducible repeat (first | refine blk_drewN ?_ _ | refine blk_drew ?_ | refine blk_alloc ?_ _)); exact BK339.out)) : gb365 ≠ gb339))
                                      have n9_ := Aside0.mk ((by rw [hg]; exact Nat.ne_of_lt (blk_lt (g := gb345) (o := .cells #[.int .i64 x346000_1, .int .i64 x346001_1, .int .i64 x346002_1, .int .i64 x346003_1] 29 (0, 0)) (by (with_reducible repeat (first | refine blk_drewN ?_ _ | refine blk_drew ?_ | refine blk_alloc ?_ _)); exact BK345.out)) : gb345 ≠ gb365))
                                      have n10_ := Aside0.mk ((by rw [hg]; exact Nat.ne_of_gt (blk_lt (g := gb345) (o := .cells #[.int .i64 x346000_1, .int .i64 x346001_1, .int .i64 x346002_1, .int .i64 x346003_1] 29 (0, 0)) (by (with_reducible repeat (first | refine blk_drewN ?_ _ | refine blk_drew ?_ | refine blk_alloc ?_ _)); exact BK345.out)) : gb365 ≠ gb345))
                                      clear HO_340000
                                      clear BK339
                                      clear BK345
                                      clear HB
                                      have HO_340000 := n0_
                                      have BK339 := n1_
                                      have BK345 := n2_
                                      have HB := n3_
                                      have BK365 := n4_
                                      have GW365 := n5_
                                      have GE365 := n6_
                                      have NB339_365 := n7_
                                      have NB365_339 := n8_
                                      have NB345_365 := n9_
                                      have NB365_345 := n10_
                                      clear n0_ n1_ n2_ n3_ n4_ n5_ n6_ n7_ n8_ n9_ n10_
                                      clear hb hbox hg
                                      refine hK.out _ _ ⟨(blk_cell BK345.out 0).trans rfl, (blk_cell BK345.out 1).trans rfl, (blk_cell BK345.out 2).trans rfl, (blk_cell BK345.out 3).trans rfl⟩ (fun hHeld => ?_)
                                      clear hK K
                                      refine norm_ (a' := ?_) ?_ ?_
                                      rotate_left
                                      · show Act.put _ (some 9) _ = _
                                        simp only [Act.put, List.setIfInBounds_toArray, List.set_cons_zero, List.set_cons_succ, i64_w, i32_w]
                                        rfl
                                      refine one_ (i := 2) (N := some 42) #[true, true, true, false, false, false, true, false, false] rfl rfl (one_of HT_.out (by kernel_rfl)) (by decide) (fun K hK => ?_)
                                      refine goes_ Try.func17 (by kernel_rfl) rfl #[.agg #[.int .i64 x346000_1, .int .i64 x346001_1, .int .i64 x346002_1, .int .i64 x346003_1], .agg #[.int .i64 t356, .int .i64 t357, .int .i64 t358, .int .i64 t359]] (by rfl) rfl rfl (by (try simp only [List.map_toArray, List.map_cons, List.map_nil]); first | done | rfl | (simp only [List.length_drop, List.length_take]; rfl)) ?_
                                      with_reducible refine (impl_AddIntervals.calls k1 x346000_1 x346001_1 x346002_1 x346003_1 t356 t357 t358 t359 t360 t361 t362 t363 true _ A43.out).mono ?_
                                      rintro e w67 ⟨rfl, hb⟩
                                      refine ⟨_, rfl, ?_⟩
                                      have n0_ := Aside0.mk (Kd.R_below (by (with_reducible repeat (first | apply Kd.R_alloc | apply Kd.R_drewN | apply Kd.R_drew)); exact HO_340000.out) hb)
                                      have n1_ := Aside0.mk (blk_below (g := gb339) (o := .cells #[.slice Ao9 t336.length co9] 49 (0, 0)) (by (with_reducible repeat (first | refine blk_drewN ?_ _ | refine blk_drew ?_ | refine blk_alloc ?_ _)); exact BK339.out) hb)
                                      have n2_ := Aside0.mk (blk_below (g := gb345) (o := .cells #[.int .i64 x346000_1, .int .i64 x346001_1, .int .i64 x346002_1, .int .i64 x346003_1] 29 (0, 0)) (by (with_reducible repeat (first | refine blk_drewN ?_ _ | refine blk_drew ?_ | refine blk_alloc ?_ _)); exact BK345.out) hb)
                                      have n3_ := Aside0.mk (blk_below (g := gb365) (o := .cells #[.int .i64 0, .int .i64 0, .int .i64 0, .int .i64 0] 29 (0, 0)) (by (with_reducible repeat (first | refine blk_drewN ?_ _ | refine blk_drew ?_ | refine blk_alloc ?_ _)); exact BK365.out) hb)
                                      have n4_ := Aside0.mk (below_step (by repeat (first | (with_reducible first | exact HB.out | apply below_alloc | apply pw_below_drewN | apply below_drew1 | refine below_set ?_ GE339.out | refine below_set ?_ GE345.out | refine below_set ?_ GE365.out) | exact HB.out)) hb)
                                      clear HO_340000
                                      clear BK339
                                      clear BK345
                                      clear BK365
                                      clear HB
                                      have HO_340000 := n0_
                                      have BK339 := n1_
                                      have BK345 := n2_
                                      have BK365 := n3_
                                      have HB := n4_
                                      clear n0_ n1_ n2_ n3_ n4_
                                      (try clear hb)
                                      (try clear hb2)
                                      (try clear hk)
                                      (try clear hi)
                                      refine hK.out _ _ ⟨(blk_cell BK345.out 0).trans rfl, (blk_cell BK345.out 1).trans rfl, (blk_cell BK345.out 2).trans rfl, (blk_cell BK345.out 3).trans rfl⟩ (fun hHeld => ?_)
                                      clear hK K
                                      refine norm_ (a' := ?_) ?_ ?_
                                      rotate_left
                                      · show Act.put _ (some 42) _ = _
                                        simp only [Act.put, List.setIfInBounds_toArray, List.set_cons_zero, List.set_cons_succ, i64_w, i32_w]
                                        rfl
                                      refine pure_ (i := 3) (N := some 39) (v := ?_) (a' := ?_) #[true, true, true, true, false, false, true, false, false] rfl rfl (any_of HT_.out (by kernel_rfl)) (fun _ _ _ h => h) (Or.inl ⟨by rfl, ?_⟩) ?_ ?_
                                      rotate_left
                                      · intro w'
                                        go_simp
                                        with_reducible rfl
                                      rotate_left
                                      · simp only [Act.put, List.setIfInBounds_toArray, List.set_cons_zero, List.set_cons_succ, i64_w, i32_w]
                                        rfl
                                      refine pure_ (i := 4) (N := some 43) (v := ?_) (a' := ?_) #[true, true, true, true, true, false, true, false, false] rfl rfl (any_of HT_.out (by kernel_rfl)) (fun _ _ _ h => h) (Or.inl ⟨by rfl, ?_⟩) ?_ ?_
                                      rotate_left
                                      · intro w'
                                        go_simp
                                        with_reducible rfl
                                      rotate_left
                                      · simp only [Act.put, List.setIfInBounds_toArray, List.set_cons_zero, List.set_cons_succ, i64_w, i32_w]
                                        rfl
                                      refine pure_ (i := 5) (N := some 44) (v := ?_) (a' := ?_) #[true, true, true, true, true, true, true, false, false] rfl rfl (any_of HT_.out (by kernel_rfl)) (fun _ _ _ h => h) (Or.inl ⟨by rfl, ?_⟩) ?_ ?_
                                      rotate_left
                                      · intro w'
                                        go_simp
                                        with_reducible rfl
                                      rotate_left
                                      · simp only [Act.put, List.setIfInBounds_toArray, List.set_cons_zero, List.set_cons_succ, i64_w, i32_w]
                                        rfl
                                      exact norm_ (by simp only [putAll, Act.put, List.setIfInBounds_toArray, List.set_cons_zero, List.set_cons_succ]) (hCont (gb365) _ ⟨hHeld, (by (with_reducible repeat (first | apply Kd.R_alloc | apply Kd.R_drewN | apply Kd.R_drew)); exact HO_340000.out), (by (with_reducible repeat (first | refine blk_drewN ?_ _ | refine blk_drew ?_ | refine blk_alloc ?_ _)); exact BK339.out), (by (with_reducible repeat (first | refine blk_drewN ?_ _ | refine blk_drew ?_ | refine blk_alloc ?_ _)); exact BK345.out), (by (with_reducible repeat (first | refine blk_drewN ?_ _ | refine blk_drew ?_ | refine blk_alloc ?_ _)); exact BK365.out), GW365.out, GE365.out, NB339_365.out, NB365_339.out, NB345_365.out, NB365_345.out, (by repeat (first | (with_reducible first | exact HB.out | apply below_alloc | apply pw_below_drewN | apply below_drew1 | refine below_set ?_ GE339.out | refine below_set ?_ GE345.out | refine below_set ?_ GE365.out) | exact HB.out))⟩)
                                  · skip
                                    refine box_step ?hg (N := 9) ?hd (cs := #[.int .i64 0, .int .i64 0, .int .i64 0, .int .i64 0]) (t := 29) ?hr ?_; (case hd => rfl); (case hg => rfl); (case hr => first | (go_simp; done) | (go_simp; rfl))
                                    intro gb365 hg w65 hbox hb
                                    have n0_ := Aside0.mk (Kd.R_below (by (with_reducible repeat (first | apply Kd.R_alloc | apply Kd.R_drewN | apply Kd.R_drew)); exact HO_340000.out) hb)
                                    have n1_ := Aside0.mk (blk_below (g := gb339) (o := .cells #[.slice Ao9 t336.length co9] 49 (0, 0)) (by (with_reducible repeat (first | refine blk_drewN ?_ _ | refine blk_drew ?_ | refine blk_alloc ?_ _)); exact BK339.out) hb)
                                    have n2_ := Aside0.mk (blk_below (g := gb345) (o := .cells #[.int .i64 x346000_1, .int .i64 x346001_1, .int .i64 x346002_1, .int .i64 x346003_1] 29 (0, 0)) (by (with_reducible repeat (first | refine blk_drewN ?_ _ | refine blk_drew ?_ | refine blk_alloc ?_ _)); exact BK345.out) hb)
                                    have n3_ := Aside0.mk (below_step (by repeat (first | (with_reducible first | exact HB.out | apply below_alloc | apply pw_below_drewN | apply below_drew1 | refine below_set ?_ GE339.out | refine below_set ?_ GE345.out) | exact HB.out)) hb)
                                    have n4_ := Aside0.mk (hbox)
                                    have n5_ := Aside0.mk ((by rw [hg]; exact (below_size (by repeat (first | (with_reducible first | exact HB.out | apply below_alloc | apply pw_below_drewN | apply below_drew1 | refine below_set ?_ GE339.out | refine below_set ?_ GE345.out) | exact HB.out))) : w.heap.size ≤ gb365))
                                    have n6_ := Aside0.mk ((by rw [hg]; exact (below_size (by repeat (first | (with_reducible first | exact HB.out | apply below_alloc | apply pw_below_drewN | apply below_drew1 | refine below_set ?_ GE339.out | refine below_set ?_ GE345.out) | exact HB.out))) : w.heap.size ≤ gb365))
                                    have n7_ := Aside0.mk ((by rw [hg]; exact Nat.ne_of_lt (blk_lt (g := gb339) (o := .cells #[.slice Ao9 t336.length co9] 49 (0, 0)) (by (with_reducible repeat (first | refine blk_drewN ?_ _ | refine blk_drew ?_ | refine blk_alloc ?_ _)); exact BK339.out)) : gb339 ≠ gb365))
                                    have n8_ := Aside0.mk ((by rw [hg]; exact Nat.ne_of_gt (blk_lt (g := gb339) (o := .cells #[.slice Ao9 t336.length co9] 49 (0, 0)) (by (with_reducible repeat (first | refine blk_drewN ?_ _ | refine blk_drew ?_ | refine blk_alloc ?_ _)); exact BK339.out)) : gb365 ≠ gb339))
                                    have n9_ := Aside0.mk ((by rw [hg]; exact Nat.ne_of_lt (blk_lt (g := gb345) (o := .cells #[.int .i64 x346000_1, .int .i64 x346001_1, .int .i64 x346002_1, .int .i64 x346003_1] 29 (0, 0)) (by (with_reducible repeat (first | refine blk_drewN ?_ _ | refine blk_drew ?_ | refine blk_alloc ?_ _)); exact BK345.out)) : gb345 ≠ gb365))
                                    have n10_ := Aside0.mk ((by rw [hg]; exact Nat.ne_of_gt (blk_lt (g := gb345) (o := .cells #[.int .i64 x346000_1, .int .i64 x346001_1, .int .i64 x346002_1, .int .i64 x346003_1] 29 (0, 0)) (by (with_reducible repeat (first | refine blk_drewN ?_ _ | refine blk_drew ?_ | refine blk_alloc ?_ _)); exact BK345.out)) : gb365 ≠ gb345))
                                    clear HO_340000
                                    clear BK339
                                    clear BK345
                                    clear HB
                                    have HO_340000 := n0_
                                    have BK339 := n1_
                                    have BK345 := n2_
                                    have HB := n3_
                                    have BK365 := n4_
                                    have GW365 := n5_
                                    have GE365 := n6_
                                    have NB339_365 := n7_
                                    have NB365_339 := n8_
                                    have NB345_365 := n9_
                                    have NB365_345 := n10_
                                    clear n0_ n1_ n2_ n3_ n4_ n5_ n6_ n7_ n8_ n9_ n10_
                                    clear hb hbox hg
                                    refine hK.out _ _ ⟨(blk_cell BK345.out 0).trans rfl, (blk_cell BK345.out 1).trans rfl, (blk_cell BK345.out 2).trans rfl, (blk_cell BK345.out 3).trans rfl⟩ (fun hHeld => ?_)
                                    clear hK K
                                    refine norm_ (a' := ?_) ?_ ?_
                                    rotate_left
                                    · show Act.put _ (some 9) _ = _
                                      simp only [Act.put, List.setIfInBounds_toArray, List.set_cons_zero, List.set_cons_succ, i64_w, i32_w]
                                      rfl
                                    refine one_ (i := 1) (N := some 41) #[true, true, false, false, false, false, true, false, false] rfl rfl (one_of HT_.out (by kernel_rfl)) (by decide) (fun K hK => ?_)
                                    refine goes_ Try.func29 (by kernel_rfl) rfl #[.int .i64 2, .int .i64 0, .int .i64 (-1)] (by rfl) rfl rfl (by (try simp only [List.map_toArray, List.map_cons, List.map_nil]); first | done | rfl | (simp only [List.length_drop, List.length_take]; rfl)) ?_
                                    with_reducible refine (impl_PureOf.calls 2 0 (-1) t356 t357 t358 t359 _ A42.out).mono ?_
                                    rintro e w66 ⟨rfl, hb⟩
                                    refine ⟨_, rfl, ?_⟩
                                    have n0_ := Aside0.mk (Kd.R_below (by (with_reducible repeat (first | apply Kd.R_alloc | apply Kd.R_drewN | apply Kd.R_drew)); exact HO_340000.out) hb)
                                    have n1_ := Aside0.mk (blk_below (g := gb339) (o := .cells #[.slice Ao9 t336.length co9] 49 (0, 0)) (by (with_reducible repeat (first | refine blk_drewN ?_ _ | refine blk_drew ?_ | refine blk_alloc ?_ _)); exact BK339.out) hb)
                                    have n2_ := Aside0.mk (blk_below (g := gb345) (o := .cells #[.int .i64 x346000_1, .int .i64 x346001_1, .int .i64 x346002_1, .int .i64 x346003_1] 29 (0, 0)) (by (with_reducible repeat (first | refine blk_drewN ?_ _ | refine blk_drew ?_ | refine blk_alloc ?_ _)); exact BK345.out) hb)
                                    have n3_ := Aside0.mk (blk_below (g := gb365) (o := .cells #[.int .i64 0, .int .i64 0, .int .i64 0, .int .i64 0] 29 (0, 0)) (by (with_reducible repeat (first | refine blk_drewN ?_ _ | refine blk_drew ?_ | refine blk_alloc ?_ _)); exact BK365.out) hb)
                                    have n4_ := Aside0.mk (below_step (by repeat (first | (with_reducible first | exact HB.out | apply below_alloc | apply pw_below_drewN | apply below_drew1 | refine below_set ?_ GE339.out | refine below_set ?_ GE345.out | refine below_set ?_ GE365.out) | exact HB.out)) hb)
                                    clear HO_340000
                                    clear BK339
                                    clear BK345
                                    clear BK365
                                    clear HB
                                    have HO_340000 := n0_
                                    have BK339 := n1_
                                    have BK345 := n2_
                                    have BK365 := n3_
                                    have HB := n4_
                                    clear n0_ n1_ n2_ n3_ n4_
                                    (try clear hb)
                                    (try clear hb2)
                                    (try clear hk)
                                    (try clear hi)
                                    refine hK.out _ _ ⟨(blk_cell BK345.out 0).trans rfl, (blk_cell BK345.out 1).trans rfl, (blk_cell BK345.out 2).trans rfl, (blk_cell BK345.out 3).trans rfl⟩ (fun hHeld => ?_)
                                    clear hK K
                                    refine norm_ (a' := ?_) ?_ ?_
                                    rotate_left
                                    · show Act.put _ (some 41) _ = _
                                      simp only [Act.put, List.setIfInBounds_toArray, List.set_cons_zero, List.set_cons_succ, i64_w, i32_w]
                                      rfl
                                    refine one_ (i := 2) (N := some 42) #[true, true, true, false, false, false, true, false, false] rfl rfl (one_of HT_.out (by kernel_rfl)) (by decide) (fun K hK => ?_)
                                    refine goes_ Try.func17 (by kernel_rfl) rfl #[.agg #[.int .i64 x346000_1, .int .i64 x346001_1, .int .i64 x346002_1, .int .i64 x346003_1], .agg #[.int .i64 t356, .int .i64 t357, .int .i64 t358, .int .i64 t359]] (by rfl) rfl rfl (by (try simp only [List.map_toArray, List.map_cons, List.map_nil]); first | done | rfl | (simp only [List.length_drop, List.length_take]; rfl)) ?_
                                    with_reducible refine (impl_AddIntervals.calls k1 x346000_1 x346001_1 x346002_1 x346003_1 t356 t357 t358 t359 t360 t361 t362 t363 true _ A43.out).mono ?_
                                    rintro e w67 ⟨rfl, hb⟩
                                    refine ⟨_, rfl, ?_⟩
                                    have n0_ := Aside0.mk (Kd.R_below (by (with_reducible repeat (first | apply Kd.R_alloc | apply Kd.R_drewN | apply Kd.R_drew)); exact HO_340000.out) hb)
                                    have n1_ := Aside0.mk (blk_below (g := gb339) (o := .cells #[.slice Ao9 t336.length co9] 49 (0, 0)) (by (with_reducible repeat (first | refine blk_drewN ?_ _ | refine blk_drew ?_ | refine blk_alloc ?_ _)); exact BK339.out) hb)
                                    have n2_ := Aside0.mk (blk_below (g := gb345) (o := .cells #[.int .i64 x346000_1, .int .i64 x346001_1, .int .i64 x346002_1, .int .i64 x346003_1] 29 (0, 0)) (by (with_reducible repeat (first | refine blk_drewN ?_ _ | refine blk_drew ?_ | refine blk_alloc ?_ _)); exact BK345.out) hb)
                                    have n3_ := Aside0.mk (blk_below (g := gb365) (o := .cells #[.int .i64 0, .int .i64 0, .int .i64 0, .int .i64 0] 29 (0, 0)) (by (with_reducible repeat (first | refine blk_drewN ?_ _ | refine blk_drew ?_ | refine blk_alloc ?_ _)); exact BK365.out) hb)
                                    have n4_ := Aside0.mk (below_step (by repeat (first | (with_reducible first | exact HB.out | apply below_alloc | apply pw_below_drewN | apply below_drew1 | refine below_set ?_ GE339.out | refine below_set ?_ GE345.out | refine below_set ?_ GE365.out) | exact HB.out)) hb)
                                    clear HO_340000
                                    clear BK339
                                    clear BK345
                                    clear BK365
                                    clear HB
                                    have HO_340000 := n0_
                                    have BK339 := n1_
                                    have BK345 := n2_
                                    have BK365 := n3_
                                    have HB := n4_
                                    clear n0_ n1_ n2_ n3_ n4_
                                    (try clear hb)
                                    (try clear hb2)
                                    (try clear hk)
                                    (try clear hi)
                                    refine hK.out _ _ ⟨(blk_cell BK345.out 0).trans rfl, (blk_cell BK345.out 1).trans rfl, (blk_cell BK345.out 2).trans rfl, (blk_cell BK345.out 3).trans rfl⟩ (fun hHeld => ?_)
                                    clear hK K
                                    refine norm_ (a' := ?_) ?_ ?_
                                    rotate_left
                                    · show Act.put _ (some 42) _ = _
                                      simp only [Act.put, List.setIfInBounds_toArray, List.set_cons_zero, List.set_cons_succ, i64_w, i32_w]
                                      rfl
                                    refine pure_ (i := 3) (N := some 39) (v := ?_) (a' := ?_) #[true, true, true, true, false, false, true, false, false] rfl rfl (any_of HT_.out (by kernel_rfl)) (fun _ _ _ h => h) (Or.inl ⟨by rfl, ?_⟩) ?_ ?_
                                    rotate_left
                                    · intro w'
                                      go_simp
                                      with_reducible rfl
                                    rotate_left
                                    · simp only [Act.put, List.setIfInBounds_toArray, List.set_cons_zero, List.set_cons_succ, i64_w, i32_w]
                                      rfl
                                    refine pure_ (i := 4) (N := some 43) (v := ?_) (a' := ?_) #[true, true, true, true, true, false, true, false, false] rfl rfl (any_of HT_.out (by kernel_rfl)) (fun _ _ _ h => h) (Or.inl ⟨by rfl, ?_⟩) ?_ ?_
                                    rotate_left
                                    · intro w'
                                      go_simp
                                      with_reducible rfl
                                    rotate_left
                                    · simp only [Act.put, List.setIfInBounds_toArray, List.set_cons_zero, List.set_cons_succ, i64_w, i32_w]
                                      rfl
                                    refine pure_ (i := 5) (N := some 44) (v := ?_) (a' := ?_) #[true, true, true, true, true, true, true, false, false] rfl rfl (any_of HT_.out (by kernel_rfl)) (fun _ _ _ h => h) (Or.inl ⟨by rfl, ?_⟩) ?_ ?_
                                    rotate_left
                                    · intro w'
                                      go_simp
                                      with_reducible rfl
                                    rotate_left
                                    · simp only [Act.put, List.setIfInBounds_toArray, List.set_cons_zero, List.set_cons_succ, i64_w, i32_w]
                                      rfl
                                    exact norm_ (by simp only [putAll, Act.put, List.setIfInBounds_toArray, List.set_cons_zero, List.set_cons_succ]) (hCont (gb365) _ ⟨hHeld, (by (with_reducible repeat (first | apply Kd.R_alloc | apply Kd.R_drewN | apply Kd.R_drew)); exact HO_340000.out), (by (with_reducible repeat (first | refine blk_drewN ?_ _ | refine blk_drew ?_ | refine blk_alloc ?_ _)); exact BK339.out), (by (with_reducible repeat (first | refine blk_drewN ?_ _ | refine blk_drew ?_ | refine blk_alloc ?_ _)); exact BK345.out), (by (with_reducible repeat (first | refine blk_drewN ?_ _ | refine blk_drew ?_ | refine blk_alloc ?_ _)); exact BK365.out), GW365.out, GE365.out, NB339_365.out, NB365_339.out, NB345_365.out, NB365_345.out, (by repeat (first | (with_reducible first | exact HB.out | apply below_alloc | apply pw_below_drewN | apply below_drew1 | refine below_set ?_ GE339.out | refine below_set ?_ GE345.out | refine below_set ?_ GE365.out) | exact HB.out))⟩)
                                rintro gb365 w68 ⟨hS_, h0_, h1_, h2_, h3_, h4_, h5_, h6_, h7_, h8_, h9_, h10_⟩
                                have n0_ : Aside0 (Kd.R (Kd.int .i64) 3 w68 w.heap.size (fun _ => True) (.slice Ao9 t336.length co9) t336) := ⟨h0_⟩
                                have n1_ : Aside0 (w68.heap[gb339]? = some (.cells #[.slice Ao9 t336.length co9] 49 (0, 0))) := ⟨h1_⟩
                                have n2_ : Aside0 (w68.heap[gb345]? = some (.cells #[.int .i64 x346000_1, .int .i64 x346001_1, .int .i64 x346002_1, .int .i64 x346003_1] 29 (0, 0))) := ⟨h2_⟩
                                have n3_ : Aside0 (w68.heap[gb365]? = some (.cells #[.int .i64 0, .int .i64 0, .int .i64 0, .int .i64 0] 29 (0, 0))) := ⟨h3_⟩
                                have n4_ : Aside0 (w.heap.size ≤ gb365) := ⟨h4_⟩
                                have n5_ : Aside0 (w.heap.size ≤ gb365) := ⟨h5_⟩
                                have n6_ : Aside0 (gb339 ≠ gb365) := ⟨h6_⟩
                                have n7_ : Aside0 (gb365 ≠ gb339) := ⟨h7_⟩
                                have n8_ : Aside0 (gb345 ≠ gb365) := ⟨h8_⟩
                                have n9_ : Aside0 (gb365 ≠ gb345) := ⟨h9_⟩
                                have n10_ : Aside0 (Below w.heap.size w w68) := ⟨h10_⟩
                                clear HO_340000
                                clear BK339
                                clear BK345
                                clear HB
                                clear h0_ h1_ h2_ h3_ h4_ h5_ h6_ h7_ h8_ h9_ h10_
                                have HO_340000 := n0_
                                have BK339 := n1_
                                have BK345 := n2_
                                have BK365 := n3_
                                have GW365 := n4_
                                have GE365 := n5_
                                have NB339_365 := n6_
                                have NB365_339 := n7_
                                have NB345_365 := n8_
                                have NB365_345 := n9_
                                have HB := n10_
                                clear n0_ n1_ n2_ n3_ n4_ n5_ n6_ n7_ n8_ n9_ n10_
                                have hHeld : w68.cell? ⟨gb345, 0, none⟩ = some (.int .i64 x346000_1) ∧ w68.cell? ⟨gb345, 1, none⟩ = some (.int .i64 x346001_1) ∧ w68.cell? ⟨gb345, 2, none⟩ = some (.int .i64 x346002_1) ∧ w68.cell? ⟨gb345, 3, none⟩ = some (.int .i64 x346003_1) := hS_
                                refine norm_ (a' := ?_) ?_ ?_
                                rotate_left
                                · simp only [putAll, Act.put, List.setIfInBounds_toArray, List.set_cons_zero, List.set_cons_succ]
                                  rfl
                                refine one_ (i := 7) (N := none) #[true, true, true, true, true, true, true, true, false] rfl rfl (one_of HT_.out (by kernel_rfl)) (by decide) (fun K hK => ?_)
                                have hs69 : w68.cell? ⟨gb365, 0, none⟩ = some (.int .i64 0) := (blk_cell BK365.out 0).trans rfl
                                have hfs69 := blk_frozen BK365.out 0
                                have hns69_0 := NB339_365.out
                                have hns69_1 := NB345_365.out
                                have hms69_0 := NB365_339.out
                                have hms69_1 := NB365_345.out
                                have hs70 : w68.cell? ⟨gb365, 1, none⟩ = some (.int .i64 0) := (blk_cell BK365.out 1).trans rfl
                                have hfs70 := blk_frozen BK365.out 1
                                have hns70_0 := NB339_365.out
                                have hns70_1 := NB345_365.out
                                have hms70_0 := NB365_339.out
                                have hms70_1 := NB365_345.out
                                have hs71 : w68.cell? ⟨gb365, 2, none⟩ = some (.int .i64 0) := (blk_cell BK365.out 2).trans rfl
                                have hfs71 := blk_frozen BK365.out 2
                                have hns71_0 := NB339_365.out
                                have hns71_1 := NB345_365.out
                                have hms71_0 := NB365_339.out
                                have hms71_1 := NB365_345.out
                                have hs72 : w68.cell? ⟨gb365, 3, none⟩ = some (.int .i64 0) := (blk_cell BK365.out 3).trans rfl
                                have hfs72 := blk_frozen BK365.out 3
                                have hns72_0 := NB339_365.out
                                have hns72_1 := NB345_365.out
                                have hms72_0 := NB365_339.out
                                have hms72_1 := NB365_345.out
                                refine skip_ (w1 := ?_) (by rfl) rfl ?_ ?_
                                rotate_left
                                · go_simp
                                  rfl
                                refine hK.out _ _ ⟨((cell_far (p := ⟨gb365, _, none⟩) NB345_365.out _).trans (((cell_far (p := ⟨gb365, _, none⟩) NB345_365.out _).trans (((cell_far (p := ⟨gb365, _, none⟩) NB345_365.out _).trans (((cell_far (p := ⟨gb365, _, none⟩) NB345_365.out _).trans (hHeld.1)))))))), ((cell_far (p := ⟨gb365, _, none⟩) NB345_365.out _).trans (((cell_far (p := ⟨gb365, _, none⟩) NB345_365.out _).trans (((cell_far (p := ⟨gb365, _, none⟩) NB345_365.out _).trans (((cell_far (p := ⟨gb365, _, none⟩) NB345_365.out _).trans (hHeld.2.1)))))))), ((cell_far (p := ⟨gb365, _, none⟩) NB345_365.out _).trans (((cell_far (p := ⟨gb365, _, none⟩) NB345_365.out _).trans (((cell_far (p := ⟨gb365, _, none⟩) NB345_365.out _).trans (((cell_far (p := ⟨gb365, _, none⟩) NB345_365.out _).trans (hHeld.2.2.1)))))))), ((cell_far (p := ⟨gb365, _, none⟩) NB345_365.out _).trans (((cell_far (p := ⟨gb365, _, none⟩) NB345_365.out _).trans (((cell_far (p := ⟨gb365, _, none⟩) NB345_365.out _).trans (((cell_far (p := ⟨gb365, _, none⟩) NB345_365.out _).trans (hHeld.2.2.2))))))))⟩ (fun hHeld => ?_)
                                clear hK K
                                refine pure_ (i := 8) (N := some 10) (v := ?_) (a' := ?_) #[true, true, true, true, true, true, true, true, true] rfl rfl (any_of HT_.out (by kernel_rfl)) (fun _ _ _ h => h) (Or.inl ⟨by rfl, ?_⟩) ?_ ?_
                                rotate_left
                                · intro w'
                                  go_simp
                                  with_reducible rfl
                                rotate_left
                                · simp only [Act.put, List.setIfInBounds_toArray, List.set_cons_zero, List.set_cons_succ, i64_w, i32_w]
                                  rfl
                                refine done_ (done_of HT_.out (by kernel_rfl)) ?_
                                have hnb73 := NB339_345.out
                                have hnc73 := NB345_339.out
                                have hnb74 := NB339_365.out
                                have hnc74 := NB365_339.out
                                have hcz75_0 : w68.cell? ⟨gb339, 0, none⟩ = some (.slice Ao9 t336.length co9) := (blk_cell BK339.out 0).trans rfl
                                have hfz75_0 := blk_frozen BK339.out 0
                                try go_wp2_with (first | ((with_reducible refine gate_callee (f := 31) rfl ?_); refine goesL_ (some 47) rfl rfl Try.func31 (by kernel_rfl) rfl #[.agg #[.slice Ao9 t336.length co9], .int .i64 (Int.tmod t340 12)] rfl (by (try simp only [List.map_toArray, List.map_cons, List.map_nil]); first | done | rfl | (simp only [List.length_drop, List.length_take]; rfl)) ?_; (with_reducible refine (impl_IsWideThird.calls k1 _ _ t336 (Int.tmod t340 12) t366 _ ?side1 ?side2 A44.out).mono ?_); (case side1 => refine (Kd.R_reads' (e := 3) (base := w.heap.size) (ok := fun k_ => True) (n := t336.length) (c := co9) ?_).2.2; exact (by (with_reducible repeat (first | apply Kd.R_alloc | apply Kd.R_drewN | apply Kd.R_drew)); exact (Kd.R_mono (Kd.R_far (p := ⟨gb365, 3, none⟩) (Kd.R_far (p := ⟨gb365, 2, none⟩) (Kd.R_far (p := ⟨gb365, 1, none⟩) (Kd.R_far (p := ⟨gb365, 0, none⟩) (Kd.R_types HO_340000.out BK365.out (by decide)) (fun _ hk => hk.2) (.int .i64 t360)) (fun _ hk => hk.2) (.int .i64 t361)) (fun _ hk => hk.2) (.int .i64 t362)) (fun _ hk => hk.2) (.int .i64 t363)) (fun _ h_ => h_.1)))); (case side2 => exact (Kd.R_reads' HO_340000.out).2.1); rintro e w76 ⟨rfl, hb⟩; refine ⟨_, rfl, ?_⟩; have n0_ := Aside0.mk (Kd.R_below (by (with_reducible repeat (first | apply Kd.R_alloc | apply Kd.R_drewN | apply Kd.R_drew)); exact (Kd.R_mono (Kd.R_far (p := ⟨gb365, 3, none⟩) (Kd.R_far (p := ⟨gb365, 2, none⟩) (Kd.R_far (p := ⟨gb365, 1, none⟩) (Kd.R_far (p := ⟨gb365, 0, none⟩) (Kd.R_types HO_340000.out BK365.out (by decide)) (fun _ hk => hk.2) (.int .i64 t360)) (fun _ hk => hk.2) (.int .i64 t361)) (fun _ hk => hk.2) (.int .i64 t362)) (fun _ hk => hk.2) (.int .i64 t363)) (fun _ h_ => h_.1))) hb); have n1_ := Aside0.mk (blk_below (g := gb339) (o := .cells #[.slice Ao9 t336.length co9] 49 (0, 0)) (by (with_reducible repeat (first | refine blk_drewN ?_ _ | refine blk_drew ?_ | refine blk_alloc ?_ _)); refine blk_far ?_ NB339_365.out _; (with_reducible repeat (first | refine blk_drewN ?_ _ | refine blk_drew ?_ | refine blk_alloc ?_ _)); refine blk_far ?_ NB339_365.out _; (with_reducible repeat (first | refine blk_drewN ?_ _ | refine blk_drew ?_ | refine blk_alloc ?_ _)); refine blk_far ?_ NB339_365.out _; (with_reducible repeat (first | refine blk_drewN ?_ _ | refine blk_drew ?_ | refine blk_alloc ?_ _)); refine blk_far ?_ NB339_365.out _; (with_reducible repeat (first | refine blk_drewN ?_ _ | refine blk_drew ?_ | refine blk_alloc ?_ _)); exact BK339.out) hb); have n2_ := Aside0.mk (blk_below (g := gb345) (o := .cells #[.int .i64 x346000_1, .int .i64 x346001_1, .int .i64 x346002_1, .int .i64 x346003_1] 29 (0, 0)) (by (with_reducible repeat (first | refine blk_drewN ?_ _ | refine blk_drew ?_ | refine blk_alloc ?_ _)); refine blk_far ?_ NB345_365.out _; (with_reducible repeat (first | refine blk_drewN ?_ _ | refine blk_drew ?_ | refine blk_alloc ?_ _)); refine blk_far ?_ NB345_365.out _; (with_reducible repeat (first | refine blk_drewN ?_ _ | refine blk_drew ?_ | refine blk_alloc ?_ _)); refine blk_far ?_ NB345_365.out _; (with_reducible repeat (first | refine blk_drewN ?_ _ | refine blk_drew ?_ | refine blk_alloc ?_ _)); refine blk_far ?_ NB345_365.out _; (with_reducible repeat (first | refine blk_drewN ?_ _ | refine blk_drew ?_ | refine blk_alloc ?_ _)); exact BK345.out) hb); have n3_ := Aside0.mk (blk_below (g := gb365) (o := .cells #[.int .i64 t360, .int .i64 t361, .int .i64 t362, .int .i64 t363] 29 (0, 0)) (by (with_reducible repeat (first | refine blk_drewN ?_ _ | refine blk_drew ?_ | refine blk_alloc ?_ _)); refine blk_put (cs := #[.int .i64 t360, .int .i64 t361, .int .i64 t362, .int .i64 0]) ?_ 3 _ rfl; (with_reducible repeat (first | refine blk_drewN ?_ _ | refine blk_drew ?_ | refine blk_alloc ?_ _)); refine blk_put (cs := #[.int .i64 t360, .int .i64 t361, .int .i64 0, .int .i64 0]) ?_ 2 _ rfl; (with_reducible repeat (first | refine blk_drewN ?_ _ | refine blk_drew ?_ | refine blk_alloc ?_ _)); refine blk_put (cs := #[.int .i64 t360, .int .i64 0, .int .i64 0, .int .i64 0]) ?_ 1 _ rfl; (with_reducible repeat (first | refine blk_drewN ?_ _ | refine blk_drew ?_ | refine blk_alloc ?_ _)); refine blk_put (cs := #[.int .i64 0, .int .i64 0, .int .i64 0, .int .i64 0]) ?_ 0 _ rfl; (with_reducible repeat (first | refine blk_drewN ?_ _ | refine blk_drew ?_ | refine blk_alloc ?_ _)); exact BK365.out) hb); have n4_ := Aside0.mk (below_step (by repeat (first | (with_reducible first | exact HB.out | apply below_alloc | apply pw_below_drewN | apply below_drew1 | refine below_set ?_ GE339.out | refine below_set ?_ GE345.out | refine below_set ?_ GE365.out) | exact HB.out)) hb); clear HO_340000; clear BK339; clear BK345; clear BK365; clear HB; have HO_340000 := n0_; have BK339 := n1_; have BK345 := n2_; have BK365 := n3_; have HB := n4_; clear n0_ n1_ n2_ n3_ n4_; (try clear hb); (try clear hb2); (try clear hk); (try clear hi); have hcz77_0 : w76.cell? ⟨gb339, 0, none⟩ = some (.slice Ao9 t336.length co9) := (blk_cell BK339.out 0).trans rfl; have hfz77_0 := blk_frozen BK339.out 0) | ((with_reducible refine gate_callee (f := 32) rfl ?_); refine goesL_ (some 50) rfl rfl Try.func32 (by kernel_rfl) rfl #[.agg #[.slice Ao9 t336.length co9], .int .i64 (Int.tmod t340 12)] rfl (by (try simp only [List.map_toArray, List.map_cons, List.map_nil]); first | done | rfl | (simp only [List.length_drop, List.length_take]; rfl)) ?_; (with_reducible refine (impl_SmallThirdParts.calls k1 _ _ t336 (Int.tmod t340 12) t367 _ ?side1 ?side2 A45.out).mono ?_); (case side1 => repeat (first | exact (Kd.R_reads' HO_340000.out).2.2 | (with_reducible refine Kd.C_alloc ?_ _) | (with_reducible refine Kd.C_drewN ?_ _) | (with_reducible refine Kd.C_drew ?_))); (case side2 => exact (Kd.R_reads' HO_340000.out).2.1); rintro e w78 ⟨rfl, hb⟩; refine ⟨_, rfl, ?_⟩; have n0_ := Aside0.mk (Kd.R_below (by (with_reducible repeat (first | apply Kd.R_alloc | apply Kd.R_drewN | apply Kd.R_drew)); exact HO_340000.out) hb); have n1_ := Aside0.mk (blk_below (g := gb339) (o := .cells #[.slice Ao9 t336.length co9] 49 (0, 0)) (by (with_reducible repeat (first | refine blk_drewN ?_ _ | refine blk_drew ?_ | refine blk_alloc ?_ _)); exact BK339.out) hb); have n2_ := Aside0.mk (blk_below (g := gb345) (o := .cells #[.int .i64 x346000_1, .int .i64 x346001_1, .int .i64 x346002_1, .int .i64 x346003_1] 29 (0, 0)) (by (with_reducible repeat (first | refine blk_drewN ?_ _ | refine blk_drew ?_ | refine blk_alloc ?_ _)); exact BK345.out) hb); have n3_ := Aside0.mk (blk_below (g := gb365) (o := .cells #[.int .i64 t360, .int .i64 t361, .int .i64 t362, .int .i64 t363] 29 (0, 0)) (by (with_reducible repeat (first | refine blk_drewN ?_ _ | refine blk_drew ?_ | refine blk_alloc ?_ _)); exact BK365.out) hb); have n4_ := Aside0.mk (below_step (by repeat (first | (with_reducible first | exact HB.out | apply below_alloc | apply pw_below_drewN | apply below_drew1 | refine below_set ?_ GE339.out | refine below_set ?_ GE345.out | refine below_set ?_ GE365.out) | exact HB.out)) hb); clear HO_340000; clear BK339; clear BK345; clear BK365; clear HB; have HO_340000 := n0_; have BK339 := n1_; have BK345 := n2_; have BK365 := n3_; have HB := n4_; clear n0_ n1_ n2_ n3_ n4_; (try clear hb); (try clear hb2); (try clear hk); (try clear hi)))
                                have n0_ := Aside0.mk (Kd.R_drew HO_340000.out)
                                have n1_ := Aside0.mk (blk_drew BK339.out)
                                have n2_ := Aside0.mk (blk_drew BK345.out)
                                have n3_ := Aside0.mk (blk_drew BK365.out)
                                have n4_ := Aside0.mk (below_drew1 HB.out)
                                clear HO_340000
                                clear BK339
                                clear BK345
                                clear BK365
                                clear HB
                                have HO_340000 := n0_
                                have BK339 := n1_
                                have BK345 := n2_
                                have BK365 := n3_
                                have HB := n4_
                                clear n0_ n1_ n2_ n3_ n4_
                                have p378 : 0 ≤ ((ji55) : Int) := of_decide_eq_true (by first | (with_reducible assumption) | assumption)
                                have q378 : (ji55) < (t336.length : Int) := of_decide_eq_true (by first | (with_reducible assumption) | assumption)
                                obtain ⟨ad378, e378, hx378_0⟩ := Kd.at_int (Kd.R_reads' HO_340000.out).2.2 (ji55) p378 q378
                                cases e378
                                replace p378 := eq_true p378
                                replace q378 := eq_true q378
                                have p379 : 0 ≤ ((ji58) : Int) := of_decide_eq_true (by first | (with_reducible assumption) | assumption)
                                have q379 : (ji58) < (t336.length : Int) := of_decide_eq_true (by first | (with_reducible assumption) | assumption)
                                obtain ⟨ad379, e379, hx379_0⟩ := Kd.at_int (Kd.R_reads' HO_340000.out).2.2 (ji58) p379 q379
                                obtain rfl : ad378 = ad379 := (by injection e379)
                                replace p379 := eq_true p379
                                replace q379 := eq_true q379
                                have p380 : 0 ≤ ((ji61) : Int) := of_decide_eq_true (by first | (with_reducible assumption) | assumption)
                                have q380 : (ji61) < (t336.length : Int) := of_decide_eq_true (by first | (with_reducible assumption) | assumption)
                                obtain ⟨ad380, e380, hx380_0⟩ := Kd.at_int (Kd.R_reads' HO_340000.out).2.2 (ji61) p380 q380
                                obtain rfl : ad378 = ad380 := (by injection e380)
                                replace p380 := eq_true p380
                                replace q380 := eq_true q380
                                refine start_ (n := 58) (S := fun w' => w'.cell? ⟨gb345, 0, none⟩ = some (.int .i64 x346000_1) ∧ w'.cell? ⟨gb345, 1, none⟩ = some (.int .i64 x346001_1) ∧ w'.cell? ⟨gb345, 2, none⟩ = some (.int .i64 x346002_1) ∧ w'.cell? ⟨gb345, 3, none⟩ = some (.int .i64 x346003_1) ∧ w'.cell? ⟨gb339, 0, none⟩ = some (.slice (some ad378) t336.length co9) ∧ w'.cell? ⟨gb365, 0, none⟩ = some (.int .i64 t360) ∧ w'.cell? ⟨gb365, 1, none⟩ = some (.int .i64 t361) ∧ w'.cell? ⟨gb365, 2, none⟩ = some (.int .i64 t362) ∧ w'.cell? ⟨gb365, 3, none⟩ = some (.int .i64 t363) ∧ w'.cell? (ad378.add ((ji55)).toNat) = some (.int .i64 (rd t336 (ji55))) ∧ w'.cell? (ad378.add ((ji58)).toNat) = some (.int .i64 (rd t336 (ji58))) ∧ w'.cell? (ad378.add ((ji61)).toNat) = some (.int .i64 (rd t336 (ji61)))) (ds := []) #[false, false, false, false, false, false, false, false, false, false, false, false, false, false, false, false, false, false, false, false, false, false, false, false, false, false, false, false, false, false, false, false, false, false, false, false, false, false, false, false, false, false, false, false, false, false, false, false, false, false, false, false, false, false, false, false, false, false] (by kernel_rfl) rfl rfl ⟨(blk_cell BK345.out 0).trans rfl, (blk_cell BK345.out 1).trans rfl, (blk_cell BK345.out 2).trans rfl, (blk_cell BK345.out 3).trans rfl, (blk_cell BK339.out 0).trans rfl, (blk_cell BK365.out 0).trans rfl, (blk_cell BK365.out 1).trans rfl, (blk_cell BK365.out 2).trans rfl, (blk_cell BK365.out 3).trans rfl, hx378_0, hx379_0, hx380_0⟩ (fun hHeld => ?_); refine with_tabW laws_FnThirds.tab16 laws_FnThirds.bits16 (fun HT_ HW_ => ?_)
                                generalize w78.drew = w79 at HO_340000 BK339 BK345 BK365 HB hx378_0 hx379_0 hx380_0 hHeld ⊢
                                refine pure_ (i := 2) (N := some 54) (v := ?_) (a' := ?_) #[false, false, true, false, false, false, false, false, false, false, false, false, false, false, false, false, false, false, false, false, false, false, false, false, false, false, false, false, false, false, false, false, false, false, false, false, false, false, false, false, false, false, false, false, false, false, false, false, false, false, false, false, false, false, false, false, false, false] rfl rfl (any_of HT_.out (by kernel_rfl)) (fun _ _ _ h => h) (Or.inl ⟨by rfl, ?_⟩) ?_ ?_
                                rotate_left
                                · intro w'
                                  go_simp
                                  with_reducible rfl
                                rotate_left
                                · simp only [Act.put, List.setIfInBounds_toArray, List.set_cons_zero, List.set_cons_succ, i64_w, i32_w]
                                  rfl
                                refine take_ (i := 0) (N := some 52) (v := ?_) (a' := ?_) #[true, false, true, false, false, false, false, false, false, false, false, false, false, false, false, false, false, false, false, false, false, false, false, false, false, false, false, false, false, false, false, false, false, false, false, false, false, false, false, false, false, false, false, false, false, false, false, false, false, false, false, false, false, false, false, false, false, false] rfl rfl (take_ofW HT_.out HW_.out (by kernel_rfl)) (fun _ _ _ h => h) (Or.inl ⟨by rfl, ?_⟩) hHeld ?_ ?_
                                rotate_left
                                · rintro w' ⟨s0, s1, s2, s3, s4, s5, s6, s7, s8, s9, s10, s11⟩
                                  go_simp
                                  with_reducible rfl
                                rotate_left
                                · simp only [Act.put, List.setIfInBounds_toArray, List.set_cons_zero, List.set_cons_succ, i64_w, i32_w]
                                  rfl
                                refine take_ (i := 1) (N := some 53) (v := ?_) (a' := ?_) #[true, true, true, false, false, false, false, false, false, false, false, false, false, false, false, false, false, false, false, false, false, false, false, false, false, false, false, false, false, false, false, false, false, false, false, false, false, false, false, false, false, false, false, false, false, false, false, false, false, false, false, false, false, false, false, false, false, false] rfl rfl (take_ofW HT_.out HW_.out (by kernel_rfl)) (fun _ _ _ h => h) (Or.inl ⟨by rfl, ?_⟩) hHeld ?_ ?_
                                rotate_left
                                · rintro w' ⟨s0, s1, s2, s3, s4, s5, s6, s7, s8, s9, s10, s11⟩
                                  go_simp
                                  with_reducible rfl
                                rotate_left
                                · simp only [Act.put, List.setIfInBounds_toArray, List.set_cons_zero, List.set_cons_succ, i64_w, i32_w]
                                  rfl
                                refine one_ (i := 3) (N := some 55) #[true, true, true, true, false, false, false, false, false, false, false, false, false, false, false, false, false, false, false, false, false, false, false, false, false, false, false, false, false, false, false, false, false, false, false, false, false, false, false, false, false, false, false, false, false, false, false, false, false, false, false, false, false, false, false, false, false, false] rfl rfl (one_of HT_.out (by kernel_rfl)) (by decide) (fun K hK => ?_)
                                refine goes_ Try.func33 (by kernel_rfl) rfl #[.agg #[.slice (some ad378) t336.length co9], .int .i64 (Int.tmod t340 12)] (by rfl) rfl rfl (by (try simp only [List.map_toArray, List.map_cons, List.map_nil]); first | done | rfl | (simp only [List.length_drop, List.length_take]; rfl)) ?_
                                with_reducible refine (impl_ThirdAt.calls k1 _ _ t336 (Int.tmod t340 12) t368 t369 t370 t371 _ ?side1 ?side2 A46.out).mono ?_
                                (case side1 => repeat (first | exact (Kd.R_reads' HO_340000.out).2.2 | (with_reducible refine Kd.C_alloc ?_ _) | (with_reducible refine Kd.C_drewN ?_ _) | (with_reducible refine Kd.C_drew ?_)))
                                (case side2 => exact (Kd.R_reads' HO_340000.out).2.1)
                                rintro e w80 ⟨rfl, hb⟩
                                have HS9_ := (hb.cell (World.block_lt_of_cell? _ _ (hHeld.2.2.2.2.2.2.2.2.2.1))).trans (hHeld.2.2.2.2.2.2.2.2.2.1)
                                have HS10_ := (hb.cell (World.block_lt_of_cell? _ _ (hHeld.2.2.2.2.2.2.2.2.2.2.1))).trans (hHeld.2.2.2.2.2.2.2.2.2.2.1)
                                have HS11_ := (hb.cell (World.block_lt_of_cell? _ _ (hHeld.2.2.2.2.2.2.2.2.2.2.2))).trans (hHeld.2.2.2.2.2.2.2.2.2.2.2)
                                refine ⟨_, rfl, ?_⟩
                                have n0_ := Aside0.mk (Kd.R_below (by (with_reducible repeat (first | apply Kd.R_alloc | apply Kd.R_drewN | apply Kd.R_drew)); exact HO_340000.out) hb)
                                have n1_ := Aside0.mk (blk_below (g := gb339) (o := .cells #[.slice (some ad378) t336.length co9] 49 (0, 0)) (by (with_reducible repeat (first | refine blk_drewN ?_ _ | refine blk_drew ?_ | refine blk_alloc ?_ _)); exact BK339.out) hb)
                                have n2_ := Aside0.mk (blk_below (g := gb345) (o := .cells #[.int .i64 x346000_1, .int .i64 x346001_1, .int .i64 x346002_1, .int .i64 x346003_1] 29 (0, 0)) (by (with_reducible repeat (first | refine blk_drewN ?_ _ | refine blk_drew ?_ | refine blk_alloc ?_ _)); exact BK345.out) hb)
                                have n3_ := Aside0.mk (blk_below (g := gb365) (o := .cells #[.int .i64 t360, .int .i64 t361, .int .i64 t362, .int .i64 t363] 29 (0, 0)) (by (with_reducible repeat (first | refine blk_drewN ?_ _ | refine blk_drew ?_ | refine blk_alloc ?_ _)); exact BK365.out) hb)
                                have n4_ := Aside0.mk (below_step (by repeat (first | (with_reducible first | exact HB.out | apply below_alloc | apply pw_below_drewN | apply below_drew1 | refine below_set ?_ GE339.out | refine below_set ?_ GE345.out | refine below_set ?_ GE365.out) | exact HB.out)) hb)
                                clear HO_340000
                                clear BK339
                                clear BK345
                                clear BK365
                                clear HB
                                have HO_340000 := n0_
                                have BK339 := n1_
                                have BK345 := n2_
                                have BK365 := n3_
                                have HB := n4_
                                clear n0_ n1_ n2_ n3_ n4_
                                (try clear hb)
                                (try clear hb2)
                                (try clear hk)
                                (try clear hi)
                                refine hK.out _ _ ⟨(blk_cell BK345.out 0).trans rfl, (blk_cell BK345.out 1).trans rfl, (blk_cell BK345.out 2).trans rfl, (blk_cell BK345.out 3).trans rfl, (blk_cell BK339.out 0).trans rfl, (blk_cell BK365.out 0).trans rfl, (blk_cell BK365.out 1).trans rfl, (blk_cell BK365.out 2).trans rfl, (blk_cell BK365.out 3).trans rfl, HS9_, HS10_, HS11_⟩ (fun hHeld => ?_)
                                clear hK K
                                refine norm_ (a' := ?_) ?_ ?_
                                rotate_left
                                · show Act.put _ (some 55) _ = _
                                  simp only [Act.put, List.setIfInBounds_toArray, List.set_cons_zero, List.set_cons_succ, i64_w, i32_w]
                                  rfl
                                refine pure_ (i := 4) (N := some 56) (v := ?_) (a' := ?_) #[true, true, true, true, true, false, false, false, false, false, false, false, false, false, false, false, false, false, false, false, false, false, false, false, false, false, false, false, false, false, false, false, false, false, false, false, false, false, false, false, false, false, false, false, false, false, false, false, false, false, false, false, false, false, false, false, false, false] rfl rfl (any_of HT_.out (by kernel_rfl)) (fun _ _ _ h => h) (Or.inl ⟨by rfl, ?_⟩) ?_ ?_
                                rotate_left
                                · intro w'
                                  go_simp
                                  with_reducible rfl
                                rotate_left
                                · simp only [Act.put, List.setIfInBounds_toArray, List.set_cons_zero, List.set_cons_succ, i64_w, i32_w]
                                  rfl
                                refine pure_ (i := 5) (N := some 57) (v := ?_) (a' := ?_) #[true, true, true, true, true, true, false, false, false, false, false, false, false, false, false, false, false, false, false, false, false, false, false, false, false, false, false, false, false, false, false, false, false, false, false, false, false, false, false, false, false, false, false, false, false, false, false, false, false, false, false, false, false, false, false, false, false, false] rfl rfl (any_of HT_.out (by kernel_rfl)) (fun _ _ _ h => h) (Or.inl ⟨by rfl, ?_⟩) ?_ ?_
                                rotate_left
                                · intro w'
                                  go_simp
                                  with_reducible rfl
                                rotate_left
                                · simp only [Act.put, List.setIfInBounds_toArray, List.set_cons_zero, List.set_cons_succ, i64_w, i32_w]
                                  rfl
                                refine pure_ (i := 6) (N := some 58) (v := ?_) (a' := ?_) #[true, true, true, true, true, true, true, false, false, false, false, false, false, false, false, false, false, false, false, false, false, false, false, false, false, false, false, false, false, false, false, false, false, false, false, false, false, false, false, false, false, false, false, false, false, false, false, false, false, false, false, false, false, false, false, false, false, false] rfl rfl (any_of HT_.out (by kernel_rfl)) (fun _ _ _ h => h) (Or.inl ⟨by rfl, ?_⟩) ?_ ?_
                                rotate_left
                                · intro w'
                                  go_simp
                                  with_reducible rfl
                                rotate_left
                                · simp only [Act.put, List.setIfInBounds_toArray, List.set_cons_zero, List.set_cons_succ, i64_w, i32_w]
                                  rfl
                                refine pure_ (i := 7) (N := some 59) (v := ?_) (a' := ?_) #[true, true, true, true, true, true, true, true, false, false, false, false, false, false, false, false, false, false, false, false, false, false, false, false, false, false, false, false, false, false, false, false, false, false, false, false, false, false, false, false, false, false, false, false, false, false, false, false, false, false, false, false, false, false, false, false, false, false] rfl rfl (any_of HT_.out (by kernel_rfl)) (fun _ _ _ h => h) (Or.inl ⟨by rfl, ?_⟩) ?_ ?_
                                rotate_left
                                · intro w'
                                  go_simp
                                  with_reducible rfl
                                rotate_left
                                · simp only [Act.put, List.setIfInBounds_toArray, List.set_cons_zero, List.set_cons_succ, i64_w, i32_w]
                                  rfl
                                refine pure_ (i := 8) (N := some 60) (v := ?_) (a' := ?_) #[true, true, true, true, true, true, true, true, true, false, false, false, false, false, false, false, false, false, false, false, false, false, false, false, false, false, false, false, false, false, false, false, false, false, false, false, false, false, false, false, false, false, false, false, false, false, false, false, false, false, false, false, false, false, false, false, false, false] rfl rfl (any_of HT_.out (by kernel_rfl)) (fun _ _ _ h => h) (Or.inl ⟨by rfl, ?_⟩) ?_ ?_
                                rotate_left
                                · intro w'
                                  go_simp
                                  with_reducible rfl
                                rotate_left
                                · simp only [Act.put, List.setIfInBounds_toArray, List.set_cons_zero, List.set_cons_succ, i64_w, i32_w]
                                  rfl
                                refine pure_ (i := 11) (N := some 63) (v := ?_) (a' := ?_) #[true, true, true, true, true, true, true, true, true, false, false, true, false, false, false, false, false, false, false, false, false, false, false, false, false, false, false, false, false, false, false, false, false, false, false, false, false, false, false, false, false, false, false, false, false, false, false, false, false, false, false, false, false, false, false, false, false, false] rfl rfl (any_of HT_.out (by kernel_rfl)) (fun _ _ _ h => h) (Or.inl ⟨by rfl, ?_⟩) ?_ ?_
                                rotate_left
                                · intro w'
                                  go_simp
                                  with_reducible rfl
                                rotate_left
                                · simp only [Act.put, List.setIfInBounds_toArray, List.set_cons_zero, List.set_cons_succ, i64_w, i32_w]
                                  rfl
                                refine take_ (i := 9) (N := some 61) (v := ?_) (a' := ?_) #[true, true, true, true, true, true, true, true, true, true, false, true, false, false, false, false, false, false, false, false, false, false, false, false, false, false, false, false, false, false, false, false, false, false, false, false, false, false, false, false, false, false, false, false, false, false, false, false, false, false, false, false, false, false, false, false, false, false] rfl rfl (take_ofW HT_.out HW_.out (by kernel_rfl)) (fun _ _ _ h => h) (Or.inl ⟨by rfl, ?_⟩) hHeld ?_ ?_
                                rotate_left
                                · rintro w' ⟨s0, s1, s2, s3, s4, s5, s6, s7, s8, s9, s10, s11⟩
                                  go_simp
                                  with_reducible rfl
                                rotate_left
                                · simp only [Act.put, List.setIfInBounds_toArray, List.set_cons_zero, List.set_cons_succ, i64_w, i32_w]
                                  rfl
                                refine take_ (i := 10) (N := some 62) (v := ?_) (a' := ?_) #[true, true, true, true, true, true, true, true, true, true, true, true, false, false, false, false, false, false, false, false, false, false, false, false, false, false, false, false, false, false, false, false, false, false, false, false, false, false, false, false, false, false, false, false, false, false, false, false, false, false, false, false, false, false, false, false, false, false] rfl rfl (take_ofW HT_.out HW_.out (by kernel_rfl)) (fun _ _ _ h => h) (Or.inl ⟨by rfl, ?_⟩) hHeld ?_ ?_
                                rotate_left
                                · rintro w' ⟨s0, s1, s2, s3, s4, s5, s6, s7, s8, s9, s10, s11⟩
                                  go_simp
                                  with_reducible rfl
                                rotate_left
                                · simp only [Act.put, List.setIfInBounds_toArray, List.set_cons_zero, List.set_cons_succ, i64_w, i32_w]
                                  rfl
                                refine one_ (i := 12) (N := some 64) #[true, true, true, true, true, true, true, true, true, true, true, true, true, false, false, false, false, false, false, false, false, false, false, false, false, false, false, false, false, false, false, false, false, false, false, false, false, false, false, false, false, false, false, false, false, false, false, false, false, false, false, false, false, false, false, false, false, false] rfl rfl (one_of HT_.out (by kernel_rfl)) (by decide) (fun K hK => ?_)
                                refine goes_ Try.func34 (by kernel_rfl) rfl #[.agg #[.slice (some ad378) t336.length co9], .int .i64 (Int.tmod t340 12)] (by rfl) rfl rfl (by (try simp only [List.map_toArray, List.map_cons, List.map_nil]); first | done | rfl | (simp only [List.length_drop, List.length_take]; rfl)) ?_
                                with_reducible refine (impl_ThirdError.calls k1 _ _ t336 (Int.tmod t340 12) t372 t373 t374 t375 _ ?side1 ?side2 A49.out).mono ?_
                                (case side1 => repeat (first | exact (Kd.R_reads' HO_340000.out).2.2 | (with_reducible refine Kd.C_alloc ?_ _) | (with_reducible refine Kd.C_drewN ?_ _) | (with_reducible refine Kd.C_drew ?_)))
                                (case side2 => exact (Kd.R_reads' HO_340000.out).2.1)
                                rintro e w81 ⟨rfl, hb⟩
                                have HS9_ := (hb.cell (World.block_lt_of_cell? _ _ (hHeld.2.2.2.2.2.2.2.2.2.1))).trans (hHeld.2.2.2.2.2.2.2.2.2.1)
                                have HS10_ := (hb.cell (World.block_lt_of_cell? _ _ (hHeld.2.2.2.2.2.2.2.2.2.2.1))).trans (hHeld.2.2.2.2.2.2.2.2.2.2.1)
                                have HS11_ := (hb.cell (World.block_lt_of_cell? _ _ (hHeld.2.2.2.2.2.2.2.2.2.2.2))).trans (hHeld.2.2.2.2.2.2.2.2.2.2.2)
                                refine ⟨_, rfl, ?_⟩
                                have n0_ := Aside0.mk (Kd.R_below (by (with_reducible repeat (first | apply Kd.R_alloc | apply Kd.R_drewN | apply Kd.R_drew)); exact HO_340000.out) hb)
                                have n1_ := Aside0.mk (blk_below (g := gb339) (o := .cells #[.slice (some ad378) t336.length co9] 49 (0, 0)) (by (with_reducible repeat (first | refine blk_drewN ?_ _ | refine blk_drew ?_ | refine blk_alloc ?_ _)); exact BK339.out) hb)
                                have n2_ := Aside0.mk (blk_below (g := gb345) (o := .cells #[.int .i64 x346000_1, .int .i64 x346001_1, .int .i64 x346002_1, .int .i64 x346003_1] 29 (0, 0)) (by (with_reducible repeat (first | refine blk_drewN ?_ _ | refine blk_drew ?_ | refine blk_alloc ?_ _)); exact BK345.out) hb)
                                have n3_ := Aside0.mk (blk_below (g := gb365) (o := .cells #[.int .i64 t360, .int .i64 t361, .int .i64 t362, .int .i64 t363] 29 (0, 0)) (by (with_reducible repeat (first | refine blk_drewN ?_ _ | refine blk_drew ?_ | refine blk_alloc ?_ _)); exact BK365.out) hb)
                                have n4_ := Aside0.mk (below_step (by repeat (first | (with_reducible first | exact HB.out | apply below_alloc | apply pw_below_drewN | apply below_drew1 | refine below_set ?_ GE339.out | refine below_set ?_ GE345.out | refine below_set ?_ GE365.out) | exact HB.out)) hb)
                                clear HO_340000
                                clear BK339
                                clear BK345
                                clear BK365
                                clear HB
                                have HO_340000 := n0_
                                have BK339 := n1_
                                have BK345 := n2_
                                have BK365 := n3_
                                have HB := n4_
                                clear n0_ n1_ n2_ n3_ n4_
                                (try clear hb)
                                (try clear hb2)
                                (try clear hk)
                                (try clear hi)
                                refine hK.out _ _ ⟨(blk_cell BK345.out 0).trans rfl, (blk_cell BK345.out 1).trans rfl, (blk_cell BK345.out 2).trans rfl, (blk_cell BK345.out 3).trans rfl, (blk_cell BK339.out 0).trans rfl, (blk_cell BK365.out 0).trans rfl, (blk_cell BK365.out 1).trans rfl, (blk_cell BK365.out 2).trans rfl, (blk_cell BK365.out 3).trans rfl, HS9_, HS10_, HS11_⟩ (fun hHeld => ?_)
                                clear hK K
                                refine norm_ (a' := ?_) ?_ ?_
                                rotate_left
                                · show Act.put _ (some 64) _ = _
                                  simp only [Act.put, List.setIfInBounds_toArray, List.set_cons_zero, List.set_cons_succ, i64_w, i32_w]
                                  rfl
                                refine pure_ (i := 13) (N := some 65) (v := ?_) (a' := ?_) #[true, true, true, true, true, true, true, true, true, true, true, true, true, true, false, false, false, false, false, false, false, false, false, false, false, false, false, false, false, false, false, false, false, false, false, false, false, false, false, false, false, false, false, false, false, false, false, false, false, false, false, false, false, false, false, false, false, false] rfl rfl (any_of HT_.out (by kernel_rfl)) (fun _ _ _ h => h) (Or.inl ⟨by rfl, ?_⟩) ?_ ?_
                                rotate_left
                                · intro w'
                                  go_simp
                                  with_reducible rfl
                                rotate_left
                                · simp only [Act.put, List.setIfInBounds_toArray, List.set_cons_zero, List.set_cons_succ, i64_w, i32_w]
                                  rfl
                                refine pure_ (i := 14) (N := some 66) (v := ?_) (a' := ?_) #[true, true, true, true, true, true, true, true, true, true, true, true, true, true, true, false, false, false, false, false, false, false, false, false, false, false, false, false, false, false, false, false, false, false, false, false, false, false, false, false, false, false, false, false, false, false, false, false, false, false, false, false, false, false, false, false, false, false] rfl rfl (any_of HT_.out (by kernel_rfl)) (fun _ _ _ h => h) (Or.inl ⟨by rfl, ?_⟩) ?_ ?_
                                rotate_left
                                · intro w'
                                  go_simp
                                  with_reducible rfl
                                rotate_left
                                · simp only [Act.put, List.setIfInBounds_toArray, List.set_cons_zero, List.set_cons_succ, i64_w, i32_w]
                                  rfl
                                refine pure_ (i := 15) (N := some 67) (v := ?_) (a' := ?_) #[true, true, true, true, true, true, true, true, true, true, true, true, true, true, true, true, false, false, false, false, false, false, false, false, false, false, false, false, false, false, false, false, false, false, false, false, false, false, false, false, false, false, false, false, false, false, false, false, false, false, false, false, false, false, false, false, false, false] rfl rfl (any_of HT_.out (by kernel_rfl)) (fun _ _ _ h => h) (Or.inl ⟨by rfl, ?_⟩) ?_ ?_
                                rotate_left
                                · intro w'
                                  go_simp
                                  with_reducible rfl
                                rotate_left
                                · simp only [Act.put, List.setIfInBounds_toArray, List.set_cons_zero, List.set_cons_succ, i64_w, i32_w]
                                  rfl
                                refine pure_ (i := 16) (N := some 68) (v := ?_) (a' := ?_) #[true, true, true, true, true, true, true, true, true, true, true, true, true, true, true, true, true, false, false, false, false, false, false, false, false, false, false, false, false, false, false, false, false, false, false, false, false, false, false, false, false, false, false, false, false, false, false, false, false, false, false, false, false, false, false, false, false, false] rfl rfl (any_of HT_.out (by kernel_rfl)) (fun _ _ _ h => h) (Or.inl ⟨by rfl, ?_⟩) ?_ ?_
                                rotate_left
                                · intro w'
                                  go_simp
                                  with_reducible rfl
                                rotate_left
                                · simp only [Act.put, List.setIfInBounds_toArray, List.set_cons_zero, List.set_cons_succ, i64_w, i32_w]
                                  rfl
                                refine pure_ (i := 18) (N := some 70) (v := ?_) (a' := ?_) #[true, true, true, true, true, true, true, true, true, true, true, true, true, true, true, true, true, false, true, false, false, false, false, false, false, false, false, false, false, false, false, false, false, false, false, false, false, false, false, false, false, false, false, false, false, false, false, false, false, false, false, false, false, false, false, false, false, false] rfl rfl (any_of HT_.out (by kernel_rfl)) (fun _ _ _ h => h) (Or.inl ⟨by rfl, ?_⟩) ?_ ?_
                                rotate_left
                                · intro w'
                                  go_simp
                                  with_reducible rfl
                                rotate_left
                                · simp only [Act.put, List.setIfInBounds_toArray, List.set_cons_zero, List.set_cons_succ, i64_w, i32_w]
                                  rfl
                                refine take_ (i := 17) (N := some 69) (v := ?_) (a' := ?_) #[true, true, true, true, true, true, true, true, true, true, true, true, true, true, true, true, true, true, true, false, false, false, false, false, false, false, false, false, false, false, false, false, false, false, false, false, false, false, false, false, false, false, false, false, false, false, false, false, false, false, false, false, false, false, false, false, false, false] rfl rfl (take_ofW HT_.out HW_.out (by kernel_rfl)) (fun _ _ _ h => h) (Or.inl ⟨by rfl, ?_⟩) hHeld ?_ ?_
                                rotate_left
                                · rintro w' ⟨s0, s1, s2, s3, s4, s5, s6, s7, s8, s9, s10, s11⟩
                                  go_simp
                                  with_reducible rfl
                                rotate_left
                                · simp only [Act.put, List.setIfInBounds_toArray, List.set_cons_zero, List.set_cons_succ, i64_w, i32_w]
                                  rfl
                                refine one_ (i := 19) (N := some 71) #[true, true, true, true, true, true, true, true, true, true, true, true, true, true, true, true, true, true, true, true, false, false, false, false, false, false, false, false, false, false, false, false, false, false, false, false, false, false, false, false, false, false, false, false, false, false, false, false, false, false, false, false, false, false, false, false, false, false] rfl rfl (one_of HT_.out (by kernel_rfl)) (by decide) (fun K hK => ?_)
                                refine goes_ Try.func35 (by kernel_rfl) rfl #[.agg #[.slice (some ad378) t336.length co9], .int .i64 (Int.tmod t340 12)] (by rfl) rfl rfl (by (try simp only [List.map_toArray, List.map_cons, List.map_nil]); first | done | rfl | (simp only [List.length_drop, List.length_take]; rfl)) ?_
                                with_reducible refine (impl_ThirdParts.calls k1 _ _ t336 (Int.tmod t340 12) t376 _ ?side1 ?side2 A51.out).mono ?_
                                (case side1 => repeat (first | exact (Kd.R_reads' HO_340000.out).2.2 | (with_reducible refine Kd.C_alloc ?_ _) | (with_reducible refine Kd.C_drewN ?_ _) | (with_reducible refine Kd.C_drew ?_)))
                                (case side2 => exact (Kd.R_reads' HO_340000.out).2.1)
                                rintro e w82 ⟨rfl, hb⟩
                                have HS9_ := (hb.cell (World.block_lt_of_cell? _ _ (hHeld.2.2.2.2.2.2.2.2.2.1))).trans (hHeld.2.2.2.2.2.2.2.2.2.1)
                                have HS10_ := (hb.cell (World.block_lt_of_cell? _ _ (hHeld.2.2.2.2.2.2.2.2.2.2.1))).trans (hHeld.2.2.2.2.2.2.2.2.2.2.1)
                                have HS11_ := (hb.cell (World.block_lt_of_cell? _ _ (hHeld.2.2.2.2.2.2.2.2.2.2.2))).trans (hHeld.2.2.2.2.2.2.2.2.2.2.2)
                                refine ⟨_, rfl, ?_⟩
                                have n0_ := Aside0.mk (Kd.R_below (by (with_reducible repeat (first | apply Kd.R_alloc | apply Kd.R_drewN | apply Kd.R_drew)); exact HO_340000.out) hb)
                                have n1_ := Aside0.mk (blk_below (g := gb339) (o := .cells #[.slice (some ad378) t336.length co9] 49 (0, 0)) (by (with_reducible repeat (first | refine blk_drewN ?_ _ | refine blk_drew ?_ | refine blk_alloc ?_ _)); exact BK339.out) hb)
                                have n2_ := Aside0.mk (blk_below (g := gb345) (o := .cells #[.int .i64 x346000_1, .int .i64 x346001_1, .int .i64 x346002_1, .int .i64 x346003_1] 29 (0, 0)) (by (with_reducible repeat (first | refine blk_drewN ?_ _ | refine blk_drew ?_ | refine blk_alloc ?_ _)); exact BK345.out) hb)
                                have n3_ := Aside0.mk (blk_below (g := gb365) (o := .cells #[.int .i64 t360, .int .i64 t361, .int .i64 t362, .int .i64 t363] 29 (0, 0)) (by (with_reducible repeat (first | refine blk_drewN ?_ _ | refine blk_drew ?_ | refine blk_alloc ?_ _)); exact BK365.out) hb)
                                have n4_ := Aside0.mk (below_step (by repeat (first | (with_reducible first | exact HB.out | apply below_alloc | apply pw_below_drewN | apply below_drew1 | refine below_set ?_ GE339.out | refine below_set ?_ GE345.out | refine below_set ?_ GE365.out) | exact HB.out)) hb)
                                clear HO_340000
                                clear BK339
                                clear BK345
                                clear BK365
                                clear HB
                                have HO_340000 := n0_
                                have BK339 := n1_
                                have BK345 := n2_
                                have BK365 := n3_
                                have HB := n4_
                                clear n0_ n1_ n2_ n3_ n4_
                                (try clear hb)
                                (try clear hb2)
                                (try clear hk)
                                (try clear hi)
                                refine hK.out _ _ ⟨(blk_cell BK345.out 0).trans rfl, (blk_cell BK345.out 1).trans rfl, (blk_cell BK345.out 2).trans rfl, (blk_cell BK345.out 3).trans rfl, (blk_cell BK339.out 0).trans rfl, (blk_cell BK365.out 0).trans rfl, (blk_cell BK365.out 1).trans rfl, (blk_cell BK365.out 2).trans rfl, (blk_cell BK365.out 3).trans rfl, HS9_, HS10_, HS11_⟩ (fun hHeld => ?_)
                                clear hK K
                                refine norm_ (a' := ?_) ?_ ?_
                                rotate_left
                                · show Act.put _ (some 71) _ = _
                                  simp only [Act.put, List.setIfInBounds_toArray, List.set_cons_zero, List.set_cons_succ, i64_w, i32_w]
                                  rfl
                                refine pure_ (i := 20) (N := some 72) (v := ?_) (a' := ?_) #[true, true, true, true, true, true, true, true, true, true, true, true, true, true, true, true, true, true, true, true, true, false, false, false, false, false, false, false, false, false, false, false, false, false, false, false, false, false, false, false, false, false, false, false, false, false, false, false, false, false, false, false, false, false, false, false, false, false] rfl rfl (any_of HT_.out (by kernel_rfl)) (fun _ _ _ h => h) (Or.inl ⟨by rfl, ?_⟩) ?_ ?_
                                rotate_left
                                · intro w'
                                  go_simp
                                  with_reducible rfl
                                rotate_left
                                · simp only [Act.put, List.setIfInBounds_toArray, List.set_cons_zero, List.set_cons_succ, i64_w, i32_w]
                                  rfl
                                refine pure_ (i := 21) (N := some 73) (v := ?_) (a' := ?_) #[true, true, true, true, true, true, true, true, true, true, true, true, true, true, true, true, true, true, true, true, true, true, false, false, false, false, false, false, false, false, false, false, false, false, false, false, false, false, false, false, false, false, false, false, false, false, false, false, false, false, false, false, false, false, false, false, false, false] rfl rfl (any_of HT_.out (by kernel_rfl)) (fun _ _ _ h => h) (Or.inl ⟨by rfl, ?_⟩) ?_ ?_
                                rotate_left
                                · intro w'
                                  go_simp
                                  with_reducible rfl
                                rotate_left
                                · simp only [Act.put, List.setIfInBounds_toArray, List.set_cons_zero, List.set_cons_succ, i64_w, i32_w]
                                  rfl
                                refine pure_ (i := 22) (N := some 74) (v := ?_) (a' := ?_) #[true, true, true, true, true, true, true, true, true, true, true, true, true, true, true, true, true, true, true, true, true, true, true, false, false, false, false, false, false, false, false, false, false, false, false, false, false, false, false, false, false, false, false, false, false, false, false, false, false, false, false, false, false, false, false, false, false, false] rfl rfl (any_of HT_.out (by kernel_rfl)) (fun _ _ _ h => h) (Or.inl ⟨by rfl, ?_⟩) ?_ ?_
                                rotate_left
                                · intro w'
                                  go_simp
                                  with_reducible rfl
                                rotate_left
                                · simp only [Act.put, List.setIfInBounds_toArray, List.set_cons_zero, List.set_cons_succ, i64_w, i32_w]
                                  rfl
                                refine pure_ (i := 23) (N := some 75) (v := ?_) (a' := ?_) #[true, true, true, true, true, true, true, true, true, true, true, true, true, true, true, true, true, true, true, true, true, true, true, true, false, false, false, false, false, false, false, false, false, false, false, false, false, false, false, false, false, false, false, false, false, false, false, false, false, false, false, false, false, false, false, false, false, false] rfl rfl (any_of HT_.out (by kernel_rfl)) (fun _ _ _ h => h) (Or.inl ⟨by rfl, ?_⟩) ?_ ?_
                                rotate_left
                                · intro w'
                                  go_simp
                                  with_reducible rfl
                                rotate_left
                                · simp only [Act.put, List.setIfInBounds_toArray, List.set_cons_zero, List.set_cons_succ, i64_w, i32_w]
                                  rfl
                                refine pure_ (i := 24) (N := some 76) (v := ?_) (a' := ?_) #[true, true, true, true, true, true, true, true, true, true, true, true, true, true, true, true, true, true, true, true, true, true, true, true, true, false, false, false, false, false, false, false, false, false, false, false, false, false, false, false, false, false, false, false, false, false, false, false, false, false, false, false, false, false, false, false, false, false] rfl rfl (any_of HT_.out (by kernel_rfl)) (fun _ _ _ h => h) (Or.inl ⟨by rfl, ?_⟩) ?_ ?_
                                rotate_left
                                · intro w'
                                  go_simp
                                  with_reducible rfl
                                rotate_left
                                · simp only [Act.put, List.setIfInBounds_toArray, List.set_cons_zero, List.set_cons_succ, i64_w, i32_w]
                                  rfl
                                refine take_ (i := 25) (N := some 77) (v := ?_) (a' := ?_) #[true, true, true, true, true, true, true, true, true, true, true, true, true, true, true, true, true, true, true, true, true, true, true, true, true, true, false, false, false, false, false, false, false, false, false, false, false, false, false, false, false, false, false, false, false, false, false, false, false, false, false, false, false, false, false, false, false, false] rfl rfl (take_ofW HT_.out HW_.out (by kernel_rfl)) (fun _ _ _ h => h) (Or.inl ⟨by rfl, ?_⟩) hHeld ?_ ?_
                                rotate_left
                                · rintro w' ⟨s0, s1, s2, s3, s4, s5, s6, s7, s8, s9, s10, s11⟩
                                  go_simp
                                  with_reducible rfl
                                rotate_left
                                · simp only [Act.put, List.setIfInBounds_toArray, List.set_cons_zero, List.set_cons_succ, i64_w, i32_w]
                                  rfl
                                refine one_ (i := 26) (N := some 78) #[true, true, true, true, true, true, true, true, true, true, true, true, true, true, true, true, true, true, true, true, true, true, true, true, true, true, true, false, false, false, false, false, false, false, false, false, false, false, false, false, false, false, false, false, false, false, false, false, false, false, false, false, false, false, false, false, false, false] rfl rfl (one_of HT_.out (by kernel_rfl)) (by decide) (fun K hK => ?_)
                                refine goes_ Try.func36 (by kernel_rfl) rfl #[.agg #[.int .i64 t360, .int .i64 t361, .int .i64 t362, .int .i64 t363]] (by rfl) rfl rfl (by (try simp only [List.map_toArray, List.map_cons, List.map_nil]); first | done | rfl | (simp only [List.length_drop, List.length_take]; rfl)) ?_
                                with_reducible refine (impl_SignOf.calls k1 t360 t361 t362 t363 t377 _ A53.out).mono ?_
                                rintro e w83 ⟨rfl, hb⟩
                                have HS9_ := (hb.cell (World.block_lt_of_cell? _ _ (hHeld.2.2.2.2.2.2.2.2.2.1))).trans (hHeld.2.2.2.2.2.2.2.2.2.1)
                                have HS10_ := (hb.cell (World.block_lt_of_cell? _ _ (hHeld.2.2.2.2.2.2.2.2.2.2.1))).trans (hHeld.2.2.2.2.2.2.2.2.2.2.1)
                                have HS11_ := (hb.cell (World.block_lt_of_cell? _ _ (hHeld.2.2.2.2.2.2.2.2.2.2.2))).trans (hHeld.2.2.2.2.2.2.2.2.2.2.2)
                                refine ⟨_, rfl, ?_⟩
                                have n0_ := Aside0.mk (Kd.R_below (by (with_reducible repeat (first | apply Kd.R_alloc | apply Kd.R_drewN | apply Kd.R_drew)); exact HO_340000.out) hb)
                                have n1_ := Aside0.mk (blk_below (g := gb339) (o := .cells #[.slice (some ad378) t336.length co9] 49 (0, 0)) (by (with_reducible repeat (first | refine blk_drewN ?_ _ | refine blk_drew ?_ | refine blk_alloc ?_ _)); exact BK339.out) hb)
                                have n2_ := Aside0.mk (blk_below (g := gb345) (o := .cells #[.int .i64 x346000_1, .int .i64 x346001_1, .int .i64 x346002_1, .int .i64 x346003_1] 29 (0, 0)) (by (with_reducible repeat (first | refine blk_drewN ?_ _ | refine blk_drew ?_ | refine blk_alloc ?_ _)); exact BK345.out) hb)
                                have n3_ := Aside0.mk (blk_below (g := gb365) (o := .cells #[.int .i64 t360, .int .i64 t361, .int .i64 t362, .int .i64 t363] 29 (0, 0)) (by (with_reducible repeat (first | refine blk_drewN ?_ _ | refine blk_drew ?_ | refine blk_alloc ?_ _)); exact BK365.out) hb)
                                have n4_ := Aside0.mk (below_step (by repeat (first | (with_reducible first | exact HB.out | apply below_alloc | apply pw_below_drewN | apply below_drew1 | refine below_set ?_ GE339.out | refine below_set ?_ GE345.out | refine below_set ?_ GE365.out) | exact HB.out)) hb)
                                clear HO_340000
                                clear BK339
                                clear BK345
                                clear BK365
                                clear HB
                                have HO_340000 := n0_
                                have BK339 := n1_
                                have BK345 := n2_
                                have BK365 := n3_
                                have HB := n4_
                                clear n0_ n1_ n2_ n3_ n4_
                                (try clear hb)
                                (try clear hb2)
                                (try clear hk)
                                (try clear hi)
                                refine hK.out _ _ ⟨(blk_cell BK345.out 0).trans rfl, (blk_cell BK345.out 1).trans rfl, (blk_cell BK345.out 2).trans rfl, (blk_cell BK345.out 3).trans rfl, (blk_cell BK339.out 0).trans rfl, (blk_cell BK365.out 0).trans rfl, (blk_cell BK365.out 1).trans rfl, (blk_cell BK365.out 2).trans rfl, (blk_cell BK365.out 3).trans rfl, HS9_, HS10_, HS11_⟩ (fun hHeld => ?_)
                                clear hK K
                                refine norm_ (a' := ?_) ?_ ?_
                                rotate_left
                                · show Act.put _ (some 78) _ = _
                                  simp only [Act.put, List.setIfInBounds_toArray, List.set_cons_zero, List.set_cons_succ, i64_w, i32_w]
                                  rfl
                                refine pure_ (i := 27) (N := some 79) (v := ?_) (a' := ?_) #[true, true, true, true, true, true, true, true, true, true, true, true, true, true, true, true, true, true, true, true, true, true, true, true, true, true, true, true, false, false, false, false, false, false, false, false, false, false, false, false, false, false, false, false, false, false, false, false, false, false, false, false, false, false, false, false, false, false] rfl rfl (any_of HT_.out (by kernel_rfl)) (fun _ _ _ h => h) (Or.inl ⟨by rfl, ?_⟩) ?_ ?_
                                rotate_left
                                · intro w'
                                  go_simp
                                  with_reducible rfl
                                rotate_left
                                · simp only [Act.put, List.setIfInBounds_toArray, List.set_cons_zero, List.set_cons_succ, i64_w, i32_w]
                                  rfl
                                refine pure_ (i := 28) (N := some 80) (v := ?_) (a' := ?_) #[true, true, true, true, true, true, true, true, true, true, true, true, true, true, true, true, true, true, true, true, true, true, true, true, true, true, true, true, true, false, false, false, false, false, false, false, false, false, false, false, false, false, false, false, false, false, false, false, false, false, false, false, false, false, false, false, false, false] rfl rfl (any_of HT_.out (by kernel_rfl)) (fun _ _ _ h => h) (Or.inl ⟨by rfl, ?_⟩) ?_ ?_
                                rotate_left
                                · intro w'
                                  go_simp
                                  with_reducible rfl
                                rotate_left
                                · simp only [Act.put, List.setIfInBounds_toArray, List.set_cons_zero, List.set_cons_succ, i64_w, i32_w]
                                  rfl
                                refine pure_ (i := 29) (N := some 81) (v := ?_) (a' := ?_) #[true, true, true, true, true, true, true, true, true, true, true, true, true, true, true, true, true, true, true, true, true, true, true, true, true, true, true, true, true, true, false, false, false, false, false, false, false, false, false, false, false, false, false, false, false, false, false, false, false, false, false, false, false, false, false, false, false, false] rfl rfl (any_of HT_.out (by kernel_rfl)) (fun _ _ _ h => h) (Or.inl ⟨by rfl, ?_⟩) ?_ ?_
                                rotate_left
                                · intro w'
                                  go_simp
                                  with_reducible rfl
                                rotate_left
                                · simp only [Act.put, List.setIfInBounds_toArray, List.set_cons_zero, List.set_cons_succ, i64_w, i32_w]
                                  rfl
                                refine pure_ (i := 30) (N := some 82) (v := ?_) (a' := ?_) #[true, true, true, true, true, true, true, true, true, true, true, true, true, true, true, true, true, true, true, true, true, true, true, true, true, true, true, true, true, true, true, false, false, false, false, false, false, false, false, false, false, false, false, false, false, false, false, false, false, false, false, false, false, false, false, false, false, false] rfl rfl (any_of HT_.out (by kernel_rfl)) (fun _ _ _ h => h) (Or.inl ⟨by rfl, ?_⟩) ?_ ?_
                                rotate_left
                                · intro w'
                                  go_simp
                                  with_reducible rfl
                                rotate_left
                                · simp only [Act.put, List.setIfInBounds_toArray, List.set_cons_zero, List.set_cons_succ, i64_w, i32_w]
                                  rfl
                                refine pure_ (i := 31) (N := some 83) (v := ?_) (a' := ?_) #[true, true, true, true, true, true, true, true, true, true, true, true, true, true, true, true, true, true, true, true, true, true, true, true, true, true, true, true, true, true, true, true, false, false, false, false, false, false, false, false, false, false, false, false, false, false, false, false, false, false, false, false, false, false, false, false, false, false] rfl rfl (any_of HT_.out (by kernel_rfl)) (fun _ _ _ h => h) (Or.inl ⟨by rfl, ?_⟩) ?_ ?_
                                rotate_left
                                · intro w'
                                  go_simp
                                  with_reducible rfl
                                rotate_left
                                · simp only [Act.put, List.setIfInBounds_toArray, List.set_cons_zero, List.set_cons_succ, i64_w, i32_w]
                                  rfl
                                refine pure_ (i := 32) (N := some 84) (v := ?_) (a' := ?_) #[true, true, true, true, true, true, true, true, true, true, true, true, true, true, true, true, true, true, true, true, true, true, true, true, true, true, true, true, true, true, true, true, true, false, false, false, false, false, false, false, false, false, false, false, false, false, false, false, false, false, false, false, false, false, false, false, false, false] rfl rfl (any_of HT_.out (by kernel_rfl)) (fun _ _ _ h => h) (Or.inl ⟨by rfl, ?_⟩) ?_ ?_
                                rotate_left
                                · intro w'
                                  go_simp
                                  with_reducible rfl
                                rotate_left
                                · simp only [Act.put, List.setIfInBounds_toArray, List.set_cons_zero, List.set_cons_succ, i64_w, i32_w]
                                  rfl
                                refine pure_ (i := 34) (N := some 86) (v := ?_) (a' := ?_) #[true, true, true, true, true, true, true, true, true, true, true, true, true, true, true, true, true, true, true, true, true, true, true, true, true, true, true, true, true, true, true, true, true, false, true, false, false, false, false, false, false, false, false, false, false, false, false, false, false, false, false, false, false, false, false, false, false, false] rfl rfl (any_of HT_.out (by kernel_rfl)) (fun _ _ _ h => h) (Or.inl ⟨by rfl, ?_⟩) ?_ ?_
                                rotate_left
                                · intro w'
                                  go_simp
                                  with_reducible rfl
                                rotate_left
                                · simp only [Act.put, List.setIfInBounds_toArray, List.set_cons_zero, List.set_cons_succ, i64_w, i32_w]
                                  rfl
                                refine pure_ (i := 35) (N := some 87) (v := ?_) (a' := ?_) #[true, true, true, true, true, true, true, true, true, true, true, true, true, true, true, true, true, true, true, true, true, true, true, true, true, true, true, true, true, true, true, true, true, false, true, true, false, false, false, false, false, false, false, false, false, false, false, false, false, false, false, false, false, false, false, false, false, false] rfl rfl (any_of HT_.out (by kernel_rfl)) (fun _ _ _ h => h) (Or.inl ⟨by rfl, ?_⟩) ?_ ?_
                                rotate_left
                                · intro w'
                                  go_simp
                                  with_reducible rfl
                                rotate_left
                                · simp only [Act.put, List.setIfInBounds_toArray, List.set_cons_zero, List.set_cons_succ, i64_w, i32_w]
                                  rfl
                                refine pure_ (i := 36) (N := some 88) (v := ?_) (a' := ?_) #[true, true, true, true, true, true, true, true, true, true, true, true, true, true, true, true, true, true, true, true, true, true, true, true, true, true, true, true, true, true, true, true, true, false, true, true, true, false, false, false, false, false, false, false, false, false, false, false, false, false, false, false, false, false, false, false, false, false] rfl rfl (any_of HT_.out (by kernel_rfl)) (fun _ _ _ h => h) (Or.inl ⟨by rfl, ?_⟩) ?_ ?_
                                rotate_left
                                · intro w'
                                  go_simp
                                  with_reducible rfl
                                rotate_left
                                · simp only [Act.put, List.setIfInBounds_toArray, List.set_cons_zero, List.set_cons_succ, i64_w, i32_w]
                                  rfl
                                refine pure_ (i := 39) (N := some 91) (v := ?_) (a' := ?_) #[true, true, true, true, true, true, true, true, true, true, true, true, true, true, true, true, true, true, true, true, true, true, true, true, true, true, true, true, true, true, true, true, true, false, true, true, true, false, false, true, false, false, false, false, false, false, false, false, false, false, false, false, false, false, false, false, false, false] rfl rfl (any_of HT_.out (by kernel_rfl)) (fun _ _ _ h => h) (Or.inl ⟨by rfl, ?_⟩) ?_ ?_
                                rotate_left
                                · intro w'
                                  go_simp
                                  with_reducible rfl
                                rotate_left
                                · simp only [Act.put, List.setIfInBounds_toArray, List.set_cons_zero, List.set_cons_succ, i64_w, i32_w]
                                  rfl
                                refine pure_ (i := 41) (N := some 93) (v := ?_) (a' := ?_) #[true, true, true, true, true, true, true, true, true, true, true, true, true, true, true, true, true, true, true, true, true, true, true, true, true, true, true, true, true, true, true, true, true, false, true, true, true, false, false, true, false, true, false, false, false, false, false, false, false, false, false, false, false, false, false, false, false, false] rfl rfl (any_of HT_.out (by kernel_rfl)) (fun _ _ _ h => h) (Or.inl ⟨by rfl, ?_⟩) ?_ ?_
                                rotate_left
                                · intro w'
                                  go_simp
                                  with_reducible rfl
                                rotate_left
                                · simp only [Act.put, List.setIfInBounds_toArray, List.set_cons_zero, List.set_cons_succ, i64_w, i32_w]
                                  rfl
                                refine pure_ (i := 42) (N := some 94) (v := ?_) (a' := ?_) #[true, true, true, true, true, true, true, true, true, true, true, true, true, true, true, true, true, true, true, true, true, true, true, true, true, true, true, true, true, true, true, true, true, false, true, true, true, false, false, true, false, true, true, false, false, false, false, false, false, false, false, false, false, false, false, false, false, false] rfl rfl (any_of HT_.out (by kernel_rfl)) (fun _ _ _ h => h) (Or.inl ⟨by rfl, ?_⟩) ?_ ?_
                                rotate_left
                                · intro w'
                                  go_simp
                                  with_reducible rfl
                                rotate_left
                                · simp only [Act.put, List.setIfInBounds_toArray, List.set_cons_zero, List.set_cons_succ, i64_w, i32_w]
                                  rfl
                                refine pure_ (i := 43) (N := some 95) (v := ?_) (a' := ?_) #[true, true, true, true, true, true, true, true, true, true, true, true, true, true, true, true, true, true, true, true, true, true, true, true, true, true, true, true, true, true, true, true, true, false, true, true, true, false, false, true, false, true, true, true, false, false, false, false, false, false, false, false, false, false, false, false, false, false] rfl rfl (any_of HT_.out (by kernel_rfl)) (fun _ _ _ h => h) (Or.inl ⟨by rfl, ?_⟩) ?_ ?_
                                rotate_left
                                · intro w'
                                  go_simp
                                  with_reducible rfl
                                rotate_left
                                · simp only [Act.put, List.setIfInBounds_toArray, List.set_cons_zero, List.set_cons_succ, i64_w, i32_w]
                                  rfl
                                refine pure_ (i := 47) (N := some 99) (v := ?_) (a' := ?_) #[true, true, true, true, true, true, true, true, true, true, true, true, true, true, true, true, true, true, true, true, true, true, true, true, true, true, true, true, true, true, true, true, true, false, true, true, true, false, false, true, false, true, true, true, false, false, false, true, false, false, false, false, false, false, false, false, false, false] rfl rfl (any_of HT_.out (by kernel_rfl)) (fun _ _ _ h => h) (Or.inl ⟨by rfl, ?_⟩) ?_ ?_
                                rotate_left
                                · intro w'
                                  go_simp
                                  with_reducible rfl
                                rotate_left
                                · simp only [Act.put, List.setIfInBounds_toArray, List.set_cons_zero, List.set_cons_succ, i64_w, i32_w]
                                  rfl
                                refine pure_ (i := 49) (N := some 101) (v := ?_) (a' := ?_) #[true, true, true, true, true, true, true, true, true, true, true, true, true, true, true, true, true, true, true, true, true, true, true, true, true, true, true, true, true, true, true, true, true, false, true, true, true, false, false, true, false, true, true, true, false, false, false, true, false, true, false, false, false, false, false, false, false, false] rfl rfl (any_of HT_.out (by kernel_rfl)) (fun _ _ _ h => h) (Or.inl ⟨by rfl, ?_⟩) ?_ ?_
                                rotate_left
                                · intro w'
                                  go_simp
                                  with_reducible rfl
                                rotate_left
                                · simp only [Act.put, List.setIfInBounds_toArray, List.set_cons_zero, List.set_cons_succ, i64_w, i32_w]
                                  rfl
                                refine pure_ (i := 50) (N := some 102) (v := ?_) (a' := ?_) #[true, true, true, true, true, true, true, true, true, true, true, true, true, true, true, true, true, true, true, true, true, true, true, true, true, true, true, true, true, true, true, true, true, false, true, true, true, false, false, true, false, true, true, true, false, false, false, true, false, true, true, false, false, false, false, false, false, false] rfl rfl (any_of HT_.out (by kernel_rfl)) (fun _ _ _ h => h) (Or.inl ⟨by rfl, ?_⟩) ?_ ?_
                                rotate_left
                                · intro w'
                                  go_simp
                                  with_reducible rfl
                                rotate_left
                                · simp only [Act.put, List.setIfInBounds_toArray, List.set_cons_zero, List.set_cons_succ, i64_w, i32_w]
                                  rfl
                                refine pure_ (i := 51) (N := some 103) (v := ?_) (a' := ?_) #[true, true, true, true, true, true, true, true, true, true, true, true, true, true, true, true, true, true, true, true, true, true, true, true, true, true, true, true, true, true, true, true, true, false, true, true, true, false, false, true, false, true, true, true, false, false, false, true, false, true, true, true, false, false, false, false, false, false] rfl rfl (any_of HT_.out (by kernel_rfl)) (fun _ _ _ h => h) (Or.inl ⟨by rfl, ?_⟩) ?_ ?_
                                rotate_left
                                · intro w'
                                  go_simp
                                  with_reducible rfl
                                rotate_left
                                · simp only [Act.put, List.setIfInBounds_toArray, List.set_cons_zero, List.set_cons_succ, i64_w, i32_w]
                                  rfl
                                refine take_ (i := 33) (N := some 85) (v := ?_) (a' := ?_) #[true, true, true, true, true, true, true, true, true, true, true, true, true, true, true, true, true, true, true, true, true, true, true, true, true, true, true, true, true, true, true, true, true, true, true, true, true, false, false, true, false, true, true, true, false, false, false, true, false, true, true, true, false, false, false, false, false, false] rfl rfl (take_ofW HT_.out HW_.out (by kernel_rfl)) (fun _ _ _ h => h) (Or.inl ⟨by rfl, ?_⟩) hHeld ?_ ?_
                                rotate_left
                                · rintro w' ⟨s0, s1, s2, s3, s4, s5, s6, s7, s8, s9, s10, s11⟩
                                  go_simp
                                  with_reducible rfl
                                rotate_left
                                · simp only [Act.put, List.setIfInBounds_toArray, List.set_cons_zero, List.set_cons_succ, i64_w, i32_w]
                                  rfl
                                refine pure_ (i := 37) (N := some 89) (v := ?_) (a' := ?_) #[true, true, true, true, true, true, true, true, true, true, true, true, true, true, true, true, true, true, true, true, true, true, true, true, true, true, true, true, true, true, true, true, true, true, true, true, true, true, false, true, false, true, true, true, false, false, false, true, false, true, true, true, false, false, false, false, false, false] rfl rfl (any_of HT_.out (by kernel_rfl)) (fun _ _ _ h => h) (Or.inl ⟨by rfl, ?_⟩) ?_ ?_
                                rotate_left
                                · intro w'
                                  go_simp
                                  with_reducible rfl
                                rotate_left
                                · simp only [Act.put, List.setIfInBounds_toArray, List.set_cons_zero, List.set_cons_succ, i64_w, i32_w]
                                  rfl
                                refine take_ (i := 38) (N := some 90) (v := ?_) (a' := ?_) #[true, true, true, true, true, true, true, true, true, true, true, true, true, true, true, true, true, true, true, true, true, true, true, true, true, true, true, true, true, true, true, true, true, true, true, true, true, true, true, true, false, true, true, true, false, false, false, true, false, true, true, true, false, false, false, false, false, false] rfl rfl (take_ofW HT_.out HW_.out (by kernel_rfl)) (fun _ _ _ h => h) (Or.inl ⟨by rfl, ?_⟩) hHeld ?_ ?_
                                rotate_left
                                · rintro w' ⟨s0, s1, s2, s3, s4, s5, s6, s7, s8, s9, s10, s11⟩
                                  go_simp
                                  with_reducible rfl
                                rotate_left
                                · simp only [Act.put, List.setIfInBounds_toArray, List.set_cons_zero, List.set_cons_succ, i64_w, i32_w]
                                  rfl
                                refine take_ (i := 40) (N := some 92) (v := ?_) (a' := ?_) #[true, true, true, true, true, true, true, true, true, true, true, true, true, true, true, true, true, true, true, true, true, true, true, true, true, true, true, true, true, true, true, true, true, true, true, true, true, true, true, true, true, true, true, true, false, false, false, true, false, true, true, true, false, false, false, false, false, false] rfl rfl (take_ofW HT_.out HW_.out (by kernel_rfl)) (fun _ _ _ h => h) (Or.inl ⟨by rfl, ?_⟩) hHeld ?_ ?_
                                rotate_left
                                · rintro w' ⟨s0, s1, s2, s3, s4, s5, s6, s7, s8, s9, s10, s11⟩
                                  go_simp
                                  with_reducible rfl
                                rotate_left
                                · simp only [Act.put, List.setIfInBounds_toArray, List.set_cons_zero, List.set_cons_succ, i64_w, i32_w]
                                  rfl
                                refine pure_ (i := 44) (N := some 96) (v := ?_) (a' := ?_) #[true, true, true, true, true, true, true, true, true, true, true, true, true, true, true, true, true, true, true, true, true, true, true, true, true, true, true, true, true, true, true, true, true, true, true, true, true, true, true, true, true, true, true, true, true, false, false, true, false, true, true, true, false, false, false, false, false, false] rfl rfl (any_of HT_.out (by kernel_rfl)) (fun _ _ _ h => h) (Or.inl ⟨by rfl, ?_⟩) ?_ ?_
                                rotate_left
                                · intro w'
                                  go_simp
                                  with_reducible rfl
                                rotate_left
                                · simp only [Act.put, List.setIfInBounds_toArray, List.set_cons_zero, List.set_cons_succ, i64_w, i32_w]
                                  rfl
                                refine take_ (i := 45) (N := some 97) (v := ?_) (a' := ?_) #[true, true, true, true, true, true, true, true, true, true, true, true, true, true, true, true, true, true, true, true, true, true, true, true, true, true, true, true, true, true, true, true, true, true, true, true, true, true, true, true, true, true, true, true, true, true, false, true, false, true, true, true, false, false, false, false, false, false] rfl rfl (take_ofW HT_.out HW_.out (by kernel_rfl)) (fun _ _ _ h => h) (Or.inl ⟨by rfl, ?_⟩) hHeld ?_ ?_
                                rotate_left
                                · rintro w' ⟨s0, s1, s2, s3, s4, s5, s6, s7, s8, s9, s10, s11⟩
                                  go_simp
                                  with_reducible rfl
                                rotate_left
                                · simp only [Act.put, List.setIfInBounds_toArray, List.set_cons_zero, List.set_cons_succ, i64_w, i32_w]
                                  rfl
                                refine pure_ (i := 46) (N := some 98) (v := ?_) (a' := ?_) #[true, true, true, true, true, true, true, true, true, true, true, true, true, true, true, true, true, true, true, true, true, true, true, true, true, true, true, true, true, true, true, true, true, true, true, true, true, true, true, true, true, true, true, true, true, true, true, true, false, true, true, true, false, false, false, false, false, false] rfl rfl (any_of HT_.out (by kernel_rfl)) (fun _ _ _ h => h) (Or.inl ⟨by rfl, ?_⟩) ?_ ?_
                                rotate_left
                                · intro w'
                                  go_simp
                                  with_reducible rfl
                                rotate_left
                                · simp only [Act.put, List.setIfInBounds_toArray, List.set_cons_zero, List.set_cons_succ, i64_w, i32_w]
                                  rfl
                                refine take_ (i := 48) (N := some 100) (v := ?_) (a' := ?_) #[true, true, true, true, true, true, true, true, true, true, true, true, true, true, true, true, true, true, true, true, true, true, true, true, true, true, true, true, true, true, true, true, true, true, true, true, true, true, true, true, true, true, true, true, true, true, true, true, true, true, true, true, false, false, false, false, false, false] rfl rfl (take_ofW HT_.out HW_.out (by kernel_rfl)) (fun _ _ _ h => h) (Or.inl ⟨by rfl, ?_⟩) hHeld ?_ ?_
                                rotate_left
                                · rintro w' ⟨s0, s1, s2, s3, s4, s5, s6, s7, s8, s9, s10, s11⟩
                                  go_simp
                                  with_reducible rfl
                                rotate_left
                                · simp only [Act.put, List.setIfInBounds_toArray, List.set_cons_zero, List.set_cons_succ, i64_w, i32_w]
                                  rfl
                                refine pure_ (i := 52) (N := some 104) (v := ?_) (a' := ?_) #[true, true, true, true, true, true, true, true, true, true, true, true, true, true, true, true, true, true, true, true, true, true, true, true, true, true, true, true, true, true, true, true, true, true, true, true, true, true, true, true, true, true, true, true, true, true, true, true, true, true, true, true, true, false, false, false, false, false] rfl rfl (any_of HT_.out (by kernel_rfl)) (fun _ _ _ h => h) (Or.inl ⟨by rfl, ?_⟩) ?_ ?_
                                rotate_left
                                · intro w'
                                  go_simp
                                  with_reducible rfl
                                rotate_left
                                · simp only [Act.put, List.setIfInBounds_toArray, List.set_cons_zero, List.set_cons_succ, i64_w, i32_w]
                                  rfl
                                refine take_ (i := 53) (N := some 105) (v := ?_) (a' := ?_) #[true, true, true, true, true, true, true, true, true, true, true, true, true, true, true, true, true, true, true, true, true, true, true, true, true, true, true, true, true, true, true, true, true, true, true, true, true, true, true, true, true, true, true, true, true, true, true, true, true, true, true, true, true, true, false, false, false, false] rfl rfl (take_ofW HT_.out HW_.out (by kernel_rfl)) (fun _ _ _ h => h) (Or.inl ⟨by rfl, ?_⟩) hHeld ?_ ?_
                                rotate_left
                                · rintro w' ⟨s0, s1, s2, s3, s4, s5, s6, s7, s8, s9, s10, s11⟩
                                  go_simp
                                  with_reducible rfl
                                rotate_left
                                · simp only [Act.put, List.setIfInBounds_toArray, List.set_cons_zero, List.set_cons_succ, i64_w, i32_w]
                                  rfl
                                refine pure_ (i := 54) (N := some 106) (v := ?_) (a' := ?_) #[true, true, true, true, true, true, true, true, true, true, true, true, true, true, true, true, true, true, true, true, true, true, true, true, true, true, true, true, true, true, true, true, true, true, true, true, true, true, true, true, true, true, true, true, true, true, true, true, true, true, true, true, true, true, true, false, false, false] rfl rfl (any_of HT_.out (by kernel_rfl)) (fun _ _ _ h => h) (Or.inl ⟨by rfl, ?_⟩) ?_ ?_
                                rotate_left
                                · intro w'
                                  go_simp
                                  with_reducible rfl
                                rotate_left
                                · simp only [Act.put, List.setIfInBounds_toArray, List.set_cons_zero, List.set_cons_succ, i64_w, i32_w]
                                  rfl
                                refine pure_ (i := 55) (N := some 107) (v := ?_) (a' := ?_) #[true, true, true, true, true, true, true, true, true, true, true, true, true, true, true, true, true, true, true, true, true, true, true, true, true, true, true, true, true, true, true, true, true, true, true, true, true, true, true, true, true, true, true, true, true, true, true, true, true, true, true, true, true, true, true, true, false, false] rfl rfl (any_of HT_.out (by kernel_rfl)) (fun _ _ _ h => h) (Or.inl ⟨by rfl, ?_⟩) ?_ ?_
                                rotate_left
                                · intro w'
                                  go_simp
                                  with_reducible rfl
                                rotate_left
                                · simp only [Act.put, List.setIfInBounds_toArray, List.set_cons_zero, List.set_cons_succ, i64_w, i32_w]
                                  rfl
                                refine pure_ (i := 56) (N := some 108) (v := ?_) (a' := ?_) #[true, true, true, true, true, true, true, true, true, true, true, true, true, true, true, true, true, true, true, true, true, true, true, true, true, true, true, true, true, true, true, true, true, true, true, true, true, true, true, true, true, true, true, true, true, true, true, true, true, true, true, true, true, true, true, true, true, false] rfl rfl (any_of HT_.out (by kernel_rfl)) (fun _ _ _ h => h) (Or.inl ⟨by rfl, ?_⟩) ?_ ?_
                                rotate_left
                                · intro w'
                                  go_simp
                                  with_reducible rfl
                                rotate_left
                                · simp only [Act.put, List.setIfInBounds_toArray, List.set_cons_zero, List.set_cons_succ, i64_w, i32_w]
                                  rfl
                                refine pure_ (i := 57) (N := some 2) (v := ?_) (a' := ?_) #[true, true, true, true, true, true, true, true, true, true, true, true, true, true, true, true, true, true, true, true, true, true, true, true, true, true, true, true, true, true, true, true, true, true, true, true, true, true, true, true, true, true, true, true, true, true, true, true, true, true, true, true, true, true, true, true, true, true] rfl rfl (any_of HT_.out (by kernel_rfl)) (fun _ _ _ h => h) (Or.inl ⟨by rfl, ?_⟩) ?_ ?_
                                rotate_left
                                · intro w'
                                  go_simp
                                  with_reducible rfl
                                rotate_left
                                · simp only [Act.put, List.setIfInBounds_toArray, List.set_cons_zero, List.set_cons_succ, i64_w, i32_w]
                                  rfl
                                refine done_ (done_of HT_.out (by kernel_rfl)) ?_
                                try go_wp2
                                go_ret
                                exact ⟨by first | rfl | exact congrArg (fun b_ => Ending.returned (Value.bool b_)) Hq_.out | (simp [errW_none, errW_some]; exact beq_iff_eq.1 Hq_.out) | (simp [errW_none, errW_some]; exact Hq_.out) | (simp [errW_none, errW_some] <;> rfl) | (simp only [← hji55, ← hji58, ← hji61]; first | rfl | (simp [errW_none, errW_some] <;> rfl)) | (simp [*, errW_none, errW_some] <;> rfl), by repeat (first | (with_reducible first | exact HB.out | apply below_alloc | apply pw_below_drewN | apply below_drew1 | refine below_set ?_ GE339.out | refine below_set ?_ GE345.out | refine below_set ?_ GE365.out) | exact HB.out)⟩
                              · rw [if_neg c63] at H
                                exact absurd H (by simp)
                            · rw [if_neg c62] at H
                              exact absurd H (by simp)
                          · rw [if_neg c60] at H
                            exact absurd H (by simp)
                        · rw [if_neg c59] at H
                          exact absurd H (by simp)
                      · rw [if_neg c57] at H
                        exact absurd H (by simp)
                    · rw [if_neg c56] at H
                      exact absurd H (by simp)
                  · rw [if_neg c54] at H
                    have c54b0 : (t366 == (decide (t377 > 0))) = false := by simpa using c54
                    (try (have c54b1 : decide (t366 = (decide (t377 > 0))) = false := by simpa using c54))
                    (try (have c54b2 : (t366 == (decide (t377 > 0))) = false := by simpa using c54))
                    (try (have c54b3 : ¬ (t366 = (decide (t377 > 0))) := by simpa using c54))
                    clear c54
                    exact absurd (Option.some.inj H) (by decide)
                · rw [if_neg c52] at H
                  have c52b0 : (t366 == (decide (t376 < 12))) = false := by simpa using c52
                  (try (have c52b1 : decide (t366 = (decide (t376 < 12))) = false := by simpa using c52))
                  (try (have c52b2 : (t366 == (decide (t376 < 12))) = false := by simpa using c52))
                  (try (have c52b3 : ¬ (t366 = (decide (t376 < 12))) := by simpa using c52))
                  clear c52
                  exact absurd (Option.some.inj H) (by decide)
              · rw [if_neg c50] at H
                have c50b0 : (t360 == t372 && (t361 == t373 && (t362 == t374 && (t363 == t375)))) = false := by simpa using c50
                (try (have c50b1 : decide (t360 = t372 && (t361 == t373 && (t362 == t374 && (t363 == t375)))) = false := by simpa using c50))
                (try (have c50b2 : (t360 == t372 && (t361 == t373 && (t362 == t374 && (t363 == t375)))) = false := by simpa using c50))
                (try (have c50b3 : ¬ (t360 = t372 && (t361 == t373 && (t362 == t374 && (t363 == t375)))) := by simpa using c50))
                clear c50
                exact absurd (Option.some.inj H) (by decide)
            · replace c48 := Bool.eq_false_iff.mpr c48
              subst c48
              have H1 : (some false) = some true := by first | (rw [if_neg (show ¬ (false = true) by decide)] at H; exact H) | rfl
              clear H
              have H := H1
              clear H1
              exact absurd (Option.some.inj H) (by decide)
          · rw [if_neg c47] at H
            have c47b0 : (x346000_1 == t368 && (x346001_1 == t369 && (x346002_1 == t370 && (x346003_1 == t371)))) = false := by simpa using c47
            (try (have c47b1 : decide (x346000_1 = t368 && (x346001_1 == t369 && (x346002_1 == t370 && (x346003_1 == t371)))) = false := by simpa using c47))
            (try (have c47b2 : (x346000_1 == t368 && (x346001_1 == t369 && (x346002_1 == t370 && (x346003_1 == t371)))) = false := by simpa using c47))
            (try (have c47b3 : ¬ (x346000_1 = t368 && (x346001_1 == t369 && (x346002_1 == t370 && (x346003_1 == t371)))) := by simpa using c47))
            clear c47
            exact absurd (Option.some.inj H) (by decide)

/-- THE ONE PURE STATEMENT of laws_FnThirds: yours. -/
def laws_FnThirds.Pure : Prop := ∀ (l0 : List Int), l0.length ≤ maxLen → l0.length * 1 ≤ 140737488351232 → (∀ x ∈ l0, (Lit.int .u8 x).wf = true) → ∃ k, laws_FnThirds.f k l0 = some true
theorem laws_FnThirds.walk (P : laws_FnThirds.Pure) (a0 : Option Addr) (len0 cap0 : Nat) (z0 : List Int) (w : World) (w0 : (a0 = none ∧ len0 = 0 ∧ cap0 = 0 ∧ z0 = []) ∨ ∃ x, a0 = some x ∧ len0 ≤ cap0 ∧ cap0 ≤ maxLen ∧ z0.length = cap0 ∧ (∀ i, i < z0.length → w.cell? (x.add i) = some (.int .u8 (z0.getD i 0))) ∧ ∀ n ∈ z0, (Lit.int .u8 n).wf = true) (y0 : len0 * 1 ≤ 140737488351232) :
    Calls Try.prog 5 #[.slice a0 len0 cap0] w fun e w' => e = .returned (.bool true) ∧ Below w.heap.size w w' := by
  obtain ⟨l0, rfl, hr0, hm0, hw0, hc0⟩ := ReadsInt.ofRowC w0
  obtain ⟨k, h⟩ := P l0 hm0 y0 hw0
  refine (laws_FnThirds.calls k _ _ l0 w (Kd.C_of_reads (d := (0 : Int)) (h1 := fun _ => rfl) hr0) hc0 h).mono ?_
  rintro e w' ⟨rfl, hd⟩
  exact ⟨rfl, hd⟩

end Go.Proofs.Ytoljbcjpilcfiaa.PFnThirds
