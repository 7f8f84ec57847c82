/- Functions that the law FnExactCirclesHeard reaches, each as a Lean function with the proof that the Go code comes to its answers. Conditions: none. Printed by the kit's print, repaired by a program of this session. -/
import Derived.Test.YtdcpbnddnbeofaaQFnExactCirclesHeardx0
import Derived.Test.YtdcpbnddnbeofaaQFnExactCirclesHeardx1
import Derived.Test.YtdcpbnddnbeofaaQFnExactCirclesHeardx2
import Derived.Test.YtdcpbnddnbeofaaQFnExactCirclesHeardx4
namespace Go.Proofs.Ytdcpbnddnbeofaa.PFnExactCirclesHeard
open Go.RowKit Go.Proofs.YtdcpbnddnbeofaaW.PrintWords Go.Proofs.YtdcpbnddnbeofaaW.PrintLast Go.Proofs.YtdcpbnddnbeofaaW.PrintMore
attribute [local go_sem] max2_int min2_int max_two min_two max_three min_three max_four min_four   -- for this text's walks alone
set_option linter.unusedVariables false
set_option linter.unusedSimpArgs false

/-! ### laws_FnExactCirclesHeard: function 9 (by hand) -/
def laws_FnExactCirclesHeard.f (k : Nat) (a0 : Int) (l : List Int) : Option (Bool) := if (l.length : Int) > 1048576 then some true else (laws_toIntS.f k l).bind fun y => (spec_CirclesHeard.f k a0 y).bind fun tw => (impl_CirclesHeard.f k a0 y).bind fun tg => (laws_eqCircleS.f k tg tw).bind fun t => if t = true then (laws_eqIntS.f k y y).bind fun t2 => if t2 = true then (laws_markIntS.f k y 1).bind fun pk => if pk.1 < 0 then some false else (laws_markCircleS.f k tg 1).bind fun p => (laws_heldCircleS.f k p.2 1).bind fun q => if q < 0 then some false else if q = p.1 then some true else some false else some false else some false
set_option maxHeartbeats 8000000 in
set_option maxRecDepth 100000 in
/-- Walked where it answers true: the second call of the program's function gives the same list as the first, in rows of its own; the argument's copy is marked in between. -/
theorem laws_FnExactCirclesHeard.calls (k : Nat) (a0 : Int) (A1 : Option Addr) (c1 : Nat) (l : List Int) (w : World) (hr1 : Kd.C (Kd.int .i64) w A1 l.length l) (hc1 : l.length ≤ c1) (h : laws_FnExactCirclesHeard.f k a0 l = some true) :
    Calls Try.prog 9 #[.int .i64 a0, .slice A1 l.length c1] w fun e w' => e = .returned (.bool true) ∧ Below w.heap.size w w' := by
  unfold laws_FnExactCirclesHeard.f at h
  have HC := Aside0.mk hr1
  have HCC := Aside0.mk hc1
  clear hr1 hc1
  by_cases hbig : (l.length : Int) > 1048576
  · have c0 : decide ((1048576 : Int) < (l.length : Int)) = true := decide_eq_true hbig
    clear h
    go_enter Try.func9, Try.ntmps9
    go_wp2
    go_ret
    exact ⟨rfl, Below.refl _ _⟩
  rw [if_neg hbig] at h
  have c0 : decide ((1048576 : Int) < (l.length : Int)) = false := decide_eq_false hbig
  clear hbig
  obtain ⟨y, hy, h⟩ := Option.bind_eq_some_iff.mp h
  obtain ⟨tw, hw, h⟩ := Option.bind_eq_some_iff.mp h
  obtain ⟨tg, hg, h⟩ := Option.bind_eq_some_iff.mp h
  obtain ⟨t, he, h⟩ := Option.bind_eq_some_iff.mp h
  by_cases ht : t = true
  case neg => rw [if_neg ht] at h; exact absurd (Option.some.inj h) (by decide)
  rw [if_pos ht] at h
  subst ht
  obtain ⟨t2, hi, h⟩ := Option.bind_eq_some_iff.mp h
  by_cases ht2 : t2 = true
  case neg => rw [if_neg ht2] at h; exact absurd (Option.some.inj h) (by decide)
  rw [if_pos ht2] at h
  subst ht2
  obtain ⟨⟨pk, py⟩, hk, h⟩ := Option.bind_eq_some_iff.mp h
  by_cases hpk : pk < 0
  · rw [if_pos hpk] at h; exact absurd (Option.some.inj h) (by decide)
  rw [if_neg hpk] at h
  obtain ⟨⟨m, gm⟩, hm, h⟩ := Option.bind_eq_some_iff.mp h
  obtain ⟨q, hh, h⟩ := Option.bind_eq_some_iff.mp h
  by_cases hq : q < 0
  · rw [if_pos hq] at h; exact absurd (Option.some.inj h) (by decide)
  rw [if_neg hq] at h
  by_cases hqm : q = m
  case neg => rw [if_neg hqm] at h; exact absurd (Option.some.inj h) (by decide)
  subst hqm
  have c2 : decide (pk < 0) = false := decide_eq_false hpk
  have c3 : decide (q < 0) = false := decide_eq_false hq
  have HT := Aside0.mk hy
  have HW := Aside0.mk hw
  have HG := Aside0.mk hg
  have HE := Aside0.mk he
  have HI := Aside0.mk hi
  have HK := Aside0.mk hk
  have HM := Aside0.mk hm
  have HH := Aside0.mk hh
  clear h hy hw hg he hi hk hm hh hq hpk
  go_enter Try.func9, Try.ntmps9
  go_wp2_with (first | ((with_reducible refine gate_callee (f := 42) rfl ?_); refine goesL_ (some 17) rfl rfl Try.func42 (by kernel_rfl) rfl #[.slice A1 l.length c1] rfl (by (try simp only [List.map_toArray, List.map_cons, List.map_nil]); first | done | rfl) ?_; refine (laws_toIntS.calls k A1 c1 l y _ HC.out HCC.out HT.out).mono ?_; rintro e w1 ⟨v1, rfl, ho1, hb1⟩; refine ⟨_, rfl, ?_⟩; have HB1 := Aside0.mk hb1; have HY1 := Aside0.mk ho1; obtain ⟨A3, c3, e3⟩ := Kd.R_slice HY1.out; subst e3; clear ho1 hb1) | ((with_reducible refine gate_callee (f := 41) rfl ?_); refine goesL_ (some 18) rfl rfl Try.func41 (by kernel_rfl) rfl #[.int .i64 a0, .slice A3 y.length c3] rfl (by (try simp only [List.map_toArray, List.map_cons, List.map_nil]); first | done | rfl) ?_; refine (spec_CirclesHeard.calls k a0 A3 c3 y tw _ (Kd.R_reads' HY1.out).2.2 (Kd.R_reads' HY1.out).2.1 HW.out).mono ?_; rintro e w2 ⟨v2, rfl, ho2, hb2⟩; refine ⟨_, rfl, ?_⟩; have HB2 := Aside0.mk (below_step HB1.out hb2); have HO2 := Aside0.mk (Kd.N_mono (ok' := fun k_ => k_ < w2.heap.size) (Kd.N_bound ho2) (fun _ hk => hk.2)); obtain ⟨A4, c4, e4⟩ := Kd.N_slice HO2.out; subst e4; clear HB1 HY1 ho2 hb2) | ((with_reducible refine gate_callee (f := 42) rfl ?_); refine goesL_ (some 20) rfl rfl Try.func42 (by kernel_rfl) rfl #[.slice A1 l.length c1] rfl (by (try simp only [List.map_toArray, List.map_cons, List.map_nil]); first | done | rfl) ?_; refine (laws_toIntS.calls k A1 c1 l y _ (Kd.C_below HC.out HB2.out) HCC.out HT.out).mono ?_; rintro e w3 ⟨v3, rfl, ho3, hb3⟩; refine ⟨_, rfl, ?_⟩; have HQ3 := Aside0.mk hb3; have HLE := Aside0.mk (show w2.heap.size ≤ w3.heap.size from hb3.size); have HX3 := Aside0.mk (Kd.R_mono (ok' := fun k_ => w2.heap.size ≤ k_ ∧ k_ < w3.heap.size) (Kd.R_bound ho3) (fun _ hk => ⟨hk.2.1, hk.2.2.1⟩)); have HO3 := Aside0.mk (Kd.N_below HO2.out hb3); obtain ⟨A5, c5, e5⟩ := Kd.R_slice HX3.out; subst e5; clear HO2 ho3 hb3) | ((with_reducible refine gate_callee (f := 22) rfl ?_); refine goesL_ (some 23) rfl rfl Try.func22 (by kernel_rfl) rfl #[.int .i64 a0, .slice A5 y.length c5] rfl (by (try simp only [List.map_toArray, List.map_cons, List.map_nil]); first | done | rfl) ?_; refine (impl_CirclesHeard.calls k a0 A5 c5 y tg _ (Kd.R_reads' HX3.out).2.2 (Kd.R_reads' HX3.out).2.1 HG.out).mono ?_; rintro e w4 ⟨v4, rfl, ho4, hb4⟩; refine ⟨_, rfl, ?_⟩; have HS4 := Aside0.mk (Kd.S_lower (Kd.S_mono (ok' := fun k_ => w3.heap.size ≤ k_) (Kd.S_bound ho4) (fun _ hk => hk.2.1)) HLE.out); have HQ4 := Aside0.mk (below_step HQ3.out hb4); have HX4 := Aside0.mk (Kd.R_below HX3.out hb4); have HO4 := Aside0.mk (Kd.N_below HO3.out hb4); obtain ⟨A6, c6, e6⟩ := Kd.S_slice HS4.out; subst e6; clear HQ3 HX3 HO3 ho4 hb4) | ((with_reducible refine gate_callee (f := 18) rfl ?_); refine goesL_ (some 26) rfl rfl Try.func18 (by kernel_rfl) rfl #[.slice A6 tg.length c6, .slice A4 tw.length c4] rfl (by (try simp only [List.map_toArray, List.map_cons, List.map_nil]); first | done | rfl) ?_; refine (laws_eqCircleS.calls k A6 c6 tg A4 c4 tw true _ (Kd.S_reads' HS4.out).2.2 (Kd.S_reads' HS4.out).2.1 (Kd.N_reads' HO4.out).2.2 (Kd.N_reads' HO4.out).2.1 HE.out).mono ?_; rintro e w5 ⟨rfl, hb5⟩; refine ⟨_, rfl, ?_⟩; have HQ5 := Aside0.mk (below_step HQ4.out hb5); have HS5 := Aside0.mk (Kd.S_below HS4.out hb5); have HX5 := Aside0.mk (Kd.R_below HX4.out hb5); have HO5 := Aside0.mk (Kd.N_below HO4.out hb5); clear HQ4 HS4 HX4 HO4 hb5) | ((with_reducible refine gate_callee (f := 42) rfl ?_); refine goesL_ (some 30) rfl rfl Try.func42 (by kernel_rfl) rfl #[.slice A1 l.length c1] rfl (by (try simp only [List.map_toArray, List.map_cons, List.map_nil]); first | done | rfl) ?_; refine (laws_toIntS.calls k A1 c1 l y _ (Kd.C_below HC.out (below_step HB2.out HQ5.out)) HCC.out HT.out).mono ?_; rintro e w6 ⟨v6, rfl, ho6, hb6⟩; refine ⟨_, rfl, ?_⟩; have HY6 := Aside0.mk ho6; obtain ⟨A7, c7, e7⟩ := Kd.R_slice HY6.out; subst e7; have HQ6 := Aside0.mk (below_step HQ5.out hb6); have HS6 := Aside0.mk (Kd.S_below HS5.out hb6); have HX6 := Aside0.mk (Kd.R_below HX5.out hb6); have HO6 := Aside0.mk (Kd.N_below HO5.out hb6); clear HQ5 HS5 HX5 HO5 ho6 hb6) | ((with_reducible refine gate_callee (f := 43) rfl ?_); refine goesL_ (some 31) rfl rfl Try.func43 (by kernel_rfl) rfl #[.slice A5 y.length c5, .slice A7 y.length c7] rfl (by (try simp only [List.map_toArray, List.map_cons, List.map_nil]); first | done | rfl) ?_; refine (laws_eqIntS.calls k A5 c5 y A7 c7 y true _ (Kd.R_reads' HX6.out).2.2 (Kd.R_reads' HX6.out).2.1 (Kd.R_reads' HY6.out).2.2 (Kd.R_reads' HY6.out).2.1 HI.out).mono ?_; rintro e w7 ⟨rfl, hd7⟩; refine ⟨_, rfl, ?_⟩; have hb7 := hd7.below; have HQ7 := Aside0.mk (below_step HQ6.out hb7); have HS7 := Aside0.mk (Kd.S_below HS6.out hb7); have HX7 := Aside0.mk (Kd.R_below HX6.out hb7); have HO7 := Aside0.mk (Kd.N_below HO6.out hb7); clear HQ6 HS6 HX6 HO6 HY6 hd7 hb7) | ((with_reducible refine gate_callee (f := 44) rfl ?_); refine goesL_ (some 35) rfl rfl Try.func44 (by kernel_rfl) rfl #[.slice A5 y.length c5, .int .i64 1] rfl (by (try simp only [List.map_toArray, List.map_cons, List.map_nil]); first | done | rfl) ?_; refine (laws_markIntS.calls k (fun k_ => w2.heap.size ≤ k_ ∧ k_ < w3.heap.size) (.slice A5 y.length c5) y 1 pk py w2 _ HQ7.out HX7.out HK.out).mono ?_; rintro e w8 ⟨rfl, ho8, hb8, hk8⟩; refine ⟨_, rfl, ?_⟩; have HQ8 := Aside0.mk hb8; have HS8 := Aside0.mk (Kd.S_kept HS7.out hk8 (fun k_ h1 h2 => by have h3 := h2.2; omega)); have HO8 := Aside0.mk (Kd.N_kept HO7.out hk8 (fun k_ h1 h2 => by have h3 := h2.1; omega)); clear HQ7 HS7 HX7 HO7 ho8 hb8 hk8) | ((with_reducible refine gate_callee (f := 19) rfl ?_); refine goesL_ (some 46) rfl rfl Try.func19 (by kernel_rfl) rfl #[.slice A6 tg.length c6, .int .i64 1] rfl (by (try simp only [List.map_toArray, List.map_cons, List.map_nil]); first | done | rfl) ?_; refine (laws_markCircleS.calls k (fun k_ => w3.heap.size ≤ k_) (.slice A6 tg.length c6) tg 1 q gm w2 _ HQ9.out HS9.out HM.out).mono ?_; rintro e w10 ⟨rfl, ho10, hb10, hk10⟩; refine ⟨_, rfl, ?_⟩; have HQ10 := Aside0.mk hb10; have HS10 := Aside0.mk ho10; have HO10 := Aside0.mk (Kd.N_kept HO9.out hk10 (fun k_ h1 h2 => by have h3 := HLE.out; omega)); have HLg := Aside0.mk (Kd.S_reads' ho10).1; clear HQ9 HS9 HO9 ho10 hb10 hk10) | ((with_reducible refine gate_callee (f := 20) rfl ?_); refine goesL_ (some 49) rfl rfl Try.func20 (by kernel_rfl) rfl #[.slice A6 tg.length c6, .int .i64 1] rfl (by (try simp only [List.map_toArray, List.map_cons, List.map_nil]); first | done | rfl) ?_; have q_ := laws_heldCircleS.calls k A6 c6 gm 1 q _ (Kd.S_reads' HS10.out).2.2 (by rw [← HLg.out]; exact (Kd.S_reads' HS10.out).2.1) HH.out; rw [← HLg.out] at q_; refine q_.mono ?_; clear q_; rintro e w11 ⟨rfl, hd11⟩; refine ⟨_, rfl, ?_⟩; have hb11 := hd11.below; have HQ11 := Aside0.mk (below_step HQ10.out hb11); have HS11 := Aside0.mk (Kd.S_below HS10.out hb11); have HO11 := Aside0.mk (Kd.N_below HO10.out hb11); clear HQ10 HS10 HO10 hd11 hb11) | ((with_reducible refine gate_callee (f := 42) rfl ?_); refine goesL_ (some 57) rfl rfl Try.func42 (by kernel_rfl) rfl #[.slice A1 l.length c1] rfl (by (try simp only [List.map_toArray, List.map_cons, List.map_nil]); first | done | rfl) ?_; refine (laws_toIntS.calls k A1 c1 l y _ (Kd.C_below HC.out (below_step HB2.out HQ11.out)) HCC.out HT.out).mono ?_; rintro e w12 ⟨v12, rfl, ho12, hb12⟩; refine ⟨_, rfl, ?_⟩; have HY12 := Aside0.mk ho12; obtain ⟨A8, c8, e8⟩ := Kd.R_slice HY12.out; subst e8; have HQ12 := Aside0.mk (below_step HQ11.out hb12); have HS12 := Aside0.mk (Kd.S_below HS11.out hb12); have HO12 := Aside0.mk (Kd.N_below HO11.out hb12); clear HQ11 HS11 HO11 ho12 hb12) | ((with_reducible refine gate_callee (f := 22) rfl ?_); refine goesL_ (some 58) rfl rfl Try.func22 (by kernel_rfl) rfl #[.int .i64 a0, .slice A8 y.length c8] rfl (by (try simp only [List.map_toArray, List.map_cons, List.map_nil]); first | done | rfl) ?_; refine (impl_CirclesHeard.calls k a0 A8 c8 y tg _ (Kd.R_reads' HY12.out).2.2 (Kd.R_reads' HY12.out).2.1 HG.out).mono ?_; rintro e w13 ⟨v13, rfl, ho13, hb13⟩; refine ⟨_, rfl, ?_⟩; have HH13 := Aside0.mk ho13; obtain ⟨A9, c9, e9⟩ := Kd.S_slice HH13.out; subst e9; have HQ13 := Aside0.mk (below_step HQ12.out hb13); have HS13 := Aside0.mk (Kd.S_below HS12.out hb13); have HO13 := Aside0.mk (Kd.N_below HO12.out hb13); clear HQ12 HS12 HO12 HY12 ho13 hb13) | ((with_reducible refine gate_callee (f := 18) rfl ?_); refine goesL_ (some 61) rfl rfl Try.func18 (by kernel_rfl) rfl #[.slice A9 tg.length c9, .slice A4 tw.length c4] rfl (by (try simp only [List.map_toArray, List.map_cons, List.map_nil]); first | done | rfl) ?_; refine (laws_eqCircleS.calls k A9 c9 tg A4 c4 tw true _ (Kd.S_reads' HH13.out).2.2 (Kd.S_reads' HH13.out).2.1 (Kd.N_reads' HO13.out).2.2 (Kd.N_reads' HO13.out).2.1 HE.out).mono ?_; rintro e w14 ⟨rfl, hb14⟩; refine ⟨_, rfl, ?_⟩; have HQ14 := Aside0.mk (below_step HQ13.out hb14); have HS14 := Aside0.mk (Kd.S_below HS13.out hb14); clear HQ13 HS13 HO13 HH13 hb14) | ((with_reducible refine gate_callee (f := 20) rfl ?_); refine goesL_ (some 65) rfl rfl Try.func20 (by kernel_rfl) rfl #[.slice A6 tg.length c6, .int .i64 1] rfl (by (try simp only [List.map_toArray, List.map_cons, List.map_nil]); first | done | rfl) ?_; have q_ := laws_heldCircleS.calls k A6 c6 gm 1 q _ (Kd.S_reads' HS14.out).2.2 (by rw [← HLg.out]; exact (Kd.S_reads' HS14.out).2.1) HH.out; rw [← HLg.out] at q_; refine q_.mono ?_; clear q_; rintro e w15 ⟨rfl, hd15⟩; refine ⟨_, rfl, ?_⟩; have HQ15 := Aside0.mk (below_step HQ14.out hd15.below); clear HQ14 HS14 hd15) | (go_at_call 18; refine (laws_eqCircleS.calls k A6 c6 tg A4 c4 tw true _ (Kd.S_reads' HS8.out).2.2 (Kd.S_reads' HS8.out).2.1 (Kd.N_reads' HO8.out).2.2 (Kd.N_reads' HO8.out).2.1 HE.out).mono ?_; rintro e w9 ⟨rfl, hb9⟩; have HQ9 := Aside0.mk (below_step HQ8.out hb9); have HS9 := Aside0.mk (Kd.S_below HS8.out hb9); have HO9 := Aside0.mk (Kd.N_below HO8.out hb9); clear HQ8 HS8 HO8 hb9))
  go_ret
  exact ⟨rfl, below_step HB2.out HQ15.out⟩
/-- THE ONE PURE STATEMENT of laws_FnExactCirclesHeard. -/
def laws_FnExactCirclesHeard.Pure : Prop := ∀ (a0 : Int) (l1 : List Int), (Lit.int .i64 a0).wf = true → l1.length ≤ maxLen → l1.length * 8 ≤ 140737488351232 → (∀ x ∈ l1, (Lit.int .i64 x).wf = true) → ∃ k, laws_FnExactCirclesHeard.f k a0 l1 = some true
theorem laws_FnExactCirclesHeard.walk (P : laws_FnExactCirclesHeard.Pure) (a0 : Int) (a1 : Option Addr) (len1 cap1 : Nat) (z1 : List Int) (w : World) (w0 : (Lit.int .i64 a0).wf = true) (w1 : (a1 = none ∧ len1 = 0 ∧ cap1 = 0 ∧ z1 = []) ∨ ∃ x, a1 = some x ∧ len1 ≤ cap1 ∧ cap1 ≤ maxLen ∧ z1.length = cap1 ∧ (∀ i, i < z1.length → w.cell? (x.add i) = some (.int .i64 (z1.getD i 0))) ∧ ∀ n ∈ z1, (Lit.int .i64 n).wf = true) (y1 : len1 * 8 ≤ 140737488351232) :
    Calls Try.prog 9 #[.int .i64 a0, .slice a1 len1 cap1] w fun e w' => e = .returned (.bool true) ∧ Below w.heap.size w w' := by
  obtain ⟨l1, rfl, hr1, hm1, hw1, hc1⟩ := ReadsInt.ofRowC w1
  obtain ⟨k, h⟩ := P a0 l1 w0 hm1 y1 hw1
  exact laws_FnExactCirclesHeard.calls k a0 _ _ l1 w (Kd.C_of_reads (d := (0 : Int)) (h1 := fun _ => rfl) hr1) hc1 h

end Go.Proofs.Ytdcpbnddnbeofaa.PFnExactCirclesHeard
