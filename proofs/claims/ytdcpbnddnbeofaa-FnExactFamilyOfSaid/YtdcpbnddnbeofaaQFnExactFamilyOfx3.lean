/- Functions that the law FnExactFamilyOf reaches, each as a Lean function with the proof that the Go code comes to its answers. Conditions: none. Printed by the kit's print, repaired by a program of this session. -/
import Derived.Test.YtdcpbnddnbeofaaQFnExactFamilyOfx0
import Derived.Test.YtdcpbnddnbeofaaQFnExactFamilyOfx1
import Derived.Test.YtdcpbnddnbeofaaQFnExactFamilyOfx2
namespace Go.Proofs.Ytdcpbnddnbeofaa.PFnExactFamilyOf
open Go.RowKit Go.Proofs.YtdcpbnddnbeofaaW.PrintWords Go.Proofs.YtdcpbnddnbeofaaW.PrintLast Go.Proofs.YtdcpbnddnbeofaaW.PrintMore
attribute [local go_sem] max2_int min2_int max_two min_two max_three min_three max_four min_four   -- for this text's walks alone
set_option linter.unusedVariables false
set_option linter.unusedSimpArgs false

/-! ### laws_FnExactFamilyOf: function 4 (by hand) -/
def laws_FnExactFamilyOf.f (k : Nat) (a0 : Int) : Option (Bool) := (spec_FamilyOf.f k a0).bind fun tw => (impl_FamilyOf.f k a0).bind fun tg => (laws_eqCircleS.f k tg tw).bind fun t => if t = true then (laws_markCircleS.f k tg 1).bind fun p => (laws_heldCircleS.f k p.2 1).bind fun q => if q < 0 then some false else if q = p.1 then some true else some false else some false
set_option maxHeartbeats 8000000 in
set_option maxRecDepth 100000 in
/-- Walked where it answers true: the second call of the program's function gives the same list as the first, in rows of its own. -/
theorem laws_FnExactFamilyOf.calls (k : Nat) (a0 : Int) (w : World) (h : laws_FnExactFamilyOf.f k a0 = some true) :
    Calls Try.prog 4 #[.int .i64 a0] w fun e w' => e = .returned (.bool true) ∧ Below w.heap.size w w' := by
  unfold laws_FnExactFamilyOf.f at h
  obtain ⟨tw, hw, h⟩ := Option.bind_eq_some_iff.mp h
  obtain ⟨tg, hg, h⟩ := Option.bind_eq_some_iff.mp h
  obtain ⟨t, he, h⟩ := Option.bind_eq_some_iff.mp h
  by_cases ht : t = true
  case neg => rw [if_neg ht] at h; exact absurd (Option.some.inj h) (by decide)
  rw [if_pos ht] at h
  subst ht
  obtain ⟨⟨m, gm⟩, hm, h⟩ := Option.bind_eq_some_iff.mp h
  obtain ⟨q, hh, h⟩ := Option.bind_eq_some_iff.mp h
  by_cases hq : q < 0
  · rw [if_pos hq] at h; exact absurd (Option.some.inj h) (by decide)
  rw [if_neg hq] at h
  by_cases hqm : q = m
  case neg => rw [if_neg hqm] at h; exact absurd (Option.some.inj h) (by decide)
  subst hqm
  have c1 : decide (q < 0) = false := decide_eq_false hq
  have HW := Aside0.mk hw
  have HG := Aside0.mk hg
  have HE := Aside0.mk he
  have HM := Aside0.mk hm
  have HH := Aside0.mk hh
  clear h hw hg he hm hh hq
  go_enter Try.func4, Try.ntmps4
  go_wp2_with (first | ((with_reducible refine gate_callee (f := 17) rfl ?_); refine goesL_ (some 9) rfl rfl Try.func17 (by kernel_rfl) rfl #[.int .i64 a0] rfl (by (try simp only [List.map_toArray, List.map_cons, List.map_nil]); first | done | rfl) ?_; refine (spec_FamilyOf.calls k a0 tw _ HW.out).mono ?_; rintro e w1 ⟨v1, rfl, ho1, hb1⟩; refine ⟨_, rfl, ?_⟩; have HB1 := Aside0.mk hb1; have HO1 := Aside0.mk (Kd.N_mono (ok' := fun k_ => k_ < w1.heap.size) (Kd.N_bound ho1) (fun _ hk => hk.2)); obtain ⟨A1, c1, e1⟩ := Kd.N_slice HO1.out; subst e1; clear ho1 hb1) | ((with_reducible refine gate_callee (f := 14) rfl ?_); refine goesL_ (some 11) rfl rfl Try.func14 (by kernel_rfl) rfl #[.int .i64 a0] rfl (by (try simp only [List.map_toArray, List.map_cons, List.map_nil]); first | done | rfl) ?_; refine (impl_FamilyOf.calls k a0 tg _ HG.out).mono ?_; rintro e w2 ⟨v2, rfl, ho2, hb2⟩; refine ⟨_, rfl, ?_⟩; have HB2 := Aside0.mk hb2; have HO2 := Aside0.mk (Kd.S_mono (ok' := fun k_ => w1.heap.size ≤ k_) (Kd.S_bound ho2) (fun _ hk => hk.2.1)); have HO1b := Aside0.mk (Kd.N_below HO1.out hb2); obtain ⟨A2, c2, e2⟩ := Kd.S_slice HO2.out; subst e2; clear HO1 ho2 hb2) | ((with_reducible refine gate_callee (f := 18) rfl ?_); refine goesL_ (some 14) rfl rfl Try.func18 (by kernel_rfl) rfl #[.slice A2 tg.length c2, .slice A1 tw.length c1] rfl (by (try simp only [List.map_toArray, List.map_cons, List.map_nil]); first | done | rfl) ?_; refine (laws_eqCircleS.calls k A2 c2 tg A1 c1 tw true _ (Kd.S_reads' HO2.out).2.2 (Kd.S_reads' HO2.out).2.1 (Kd.N_reads' HO1b.out).2.2 (Kd.N_reads' HO1b.out).2.1 HE.out).mono ?_; rintro e w3 ⟨rfl, hb3⟩; refine ⟨_, rfl, ?_⟩; have HB3 := Aside0.mk (below_step HB2.out hb3); have HO3 := Aside0.mk (Kd.S_below HO2.out hb3); have HO1c := Aside0.mk (Kd.N_below HO1b.out hb3); clear HO2 HO1b HB2 hb3) | ((with_reducible refine gate_callee (f := 19) rfl ?_); refine goesL_ (some 18) rfl rfl Try.func19 (by kernel_rfl) rfl #[.slice A2 tg.length c2, .int .i64 1] rfl (by (try simp only [List.map_toArray, List.map_cons, List.map_nil]); first | done | rfl) ?_; refine (laws_markCircleS.calls k (fun k_ => w1.heap.size ≤ k_) (.slice A2 tg.length c2) tg 1 q gm w1 _ HB3.out HO3.out HM.out).mono ?_; rintro e w4 ⟨rfl, ho4, hb4, hk4⟩; refine ⟨_, rfl, ?_⟩; have HB4 := Aside0.mk hb4; have HO4 := Aside0.mk ho4; have HO1d := Aside0.mk (Kd.N_kept HO1c.out hk4 (fun k_ h1 h2 => by omega)); have HLg := Aside0.mk (Kd.S_reads' ho4).1; clear HO1c HO3 HB3 ho4 hb4 hk4) | ((with_reducible refine gate_callee (f := 20) rfl ?_); refine goesL_ (some 21) rfl rfl Try.func20 (by kernel_rfl) rfl #[.slice A2 tg.length c2, .int .i64 1] rfl (by (try simp only [List.map_toArray, List.map_cons, List.map_nil]); first | done | rfl) ?_; have q_ := laws_heldCircleS.calls k A2 c2 gm 1 q _ (Kd.S_reads' HO4.out).2.2 (by rw [← HLg.out]; exact (Kd.S_reads' HO4.out).2.1) HH.out; rw [← HLg.out] at q_; refine q_.mono ?_; clear q_; rintro e w5 ⟨rfl, hd5⟩; refine ⟨_, rfl, ?_⟩; have hb5 := hd5.below; have HB5 := Aside0.mk (below_step HB4.out hb5); have HO5 := Aside0.mk (Kd.S_below HO4.out hb5); have HO1e := Aside0.mk (Kd.N_below HO1d.out hb5); clear HB4 HO4 HO1d hb5 hd5) | ((with_reducible refine gate_callee (f := 14) rfl ?_); refine goesL_ (some 28) rfl rfl Try.func14 (by kernel_rfl) rfl #[.int .i64 a0] rfl (by (try simp only [List.map_toArray, List.map_cons, List.map_nil]); first | done | rfl) ?_; refine (impl_FamilyOf.calls k a0 tg _ HG.out).mono ?_; rintro e w6 ⟨v6, rfl, ho6, hb6⟩; refine ⟨_, rfl, ?_⟩; have HB6 := Aside0.mk (below_step HB5.out hb6); have HH6 := Aside0.mk ho6; have HO6 := Aside0.mk (Kd.S_below HO5.out hb6); have HO1f := Aside0.mk (Kd.N_below HO1e.out hb6); obtain ⟨A6, c6, e6⟩ := Kd.S_slice HH6.out; subst e6; clear HB5 HO5 HO1e ho6 hb6) | ((with_reducible refine gate_callee (f := 18) rfl ?_); refine goesL_ (some 31) rfl rfl Try.func18 (by kernel_rfl) rfl #[.slice A6 tg.length c6, .slice A1 tw.length c1] rfl (by (try simp only [List.map_toArray, List.map_cons, List.map_nil]); first | done | rfl) ?_; refine (laws_eqCircleS.calls k A6 c6 tg A1 c1 tw true _ (Kd.S_reads' HH6.out).2.2 (Kd.S_reads' HH6.out).2.1 (Kd.N_reads' HO1f.out).2.2 (Kd.N_reads' HO1f.out).2.1 HE.out).mono ?_; rintro e w7 ⟨rfl, hb7⟩; refine ⟨_, rfl, ?_⟩; have HB7 := Aside0.mk (below_step HB6.out hb7); have HO7 := Aside0.mk (Kd.S_below HO6.out hb7); clear HO6 HO1f HB6 HH6 hb7) | ((with_reducible refine gate_callee (f := 20) rfl ?_); refine goesL_ (some 35) rfl rfl Try.func20 (by kernel_rfl) rfl #[.slice A2 tg.length c2, .int .i64 1] rfl (by (try simp only [List.map_toArray, List.map_cons, List.map_nil]); first | done | rfl) ?_; have q_ := laws_heldCircleS.calls k A2 c2 gm 1 q _ (Kd.S_reads' HO7.out).2.2 (by rw [← HLg.out]; exact (Kd.S_reads' HO7.out).2.1) HH.out; rw [← HLg.out] at q_; refine q_.mono ?_; clear q_; rintro e w8 ⟨rfl, hd8⟩; refine ⟨_, rfl, ?_⟩; have HB8 := Aside0.mk (below_step HB7.out hd8.below); clear HB7 HO7 hd8))
  go_ret
  exact ⟨rfl, below_step HB1.out HB8.out⟩
/-- THE ONE PURE STATEMENT of laws_FnExactFamilyOf. -/
def laws_FnExactFamilyOf.Pure : Prop := ∀ (a0 : Int), (Lit.int .i64 a0).wf = true → ∃ k, laws_FnExactFamilyOf.f k a0 = some true
theorem laws_FnExactFamilyOf.walk (P : laws_FnExactFamilyOf.Pure) (a0 : Int) (w : World) (w0 : (Lit.int .i64 a0).wf = true) :
    Calls Try.prog 4 #[.int .i64 a0] w fun e w' => e = .returned (.bool true) ∧ Below w.heap.size w w' := by
  obtain ⟨k, h⟩ := P a0 w0
  exact laws_FnExactFamilyOf.calls k a0 w h

end Go.Proofs.Ytdcpbnddnbeofaa.PFnExactFamilyOf
