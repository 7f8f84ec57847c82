/- Functions that the law FnExactCirclesHeard reaches, each as a Lean function with the proof that the Go code comes to its answers. Conditions: none. Printed by the kit's print, repaired by a program of this session. -/
import Derived.Test.YtdcpbnddnbeofaaQFnExactCirclesHeardx0
import Derived.Test.YtdcpbnddnbeofaaQFnExactCirclesHeardx2
import Derived.Test.YtdcpbnddnbeofaaQFnExactCirclesHeardx3
namespace Go.Proofs.Ytdcpbnddnbeofaa.PFnExactCirclesHeard
open Go.RowKit Go.Proofs.YtdcpbnddnbeofaaW.PrintWords Go.Proofs.YtdcpbnddnbeofaaW.PrintLast Go.Proofs.YtdcpbnddnbeofaaW.PrintMore
attribute [local go_sem] max2_int min2_int max_two min_two max_three min_three max_four min_four   -- for this text's walks alone
set_option linter.unusedVariables false
set_option linter.unusedSimpArgs false

/-! ### impl_CirclesHeard: function 22 (by hand) -/
def heard_same (t l1 : List Int) (n : Nat) : Bool := (List.range n).all (fun i => rd t (i : Int) == rd l1 (i : Int))
theorem heard_succ (t l1 : List Int) (n : Nat) : heard_same t l1 (n + 1) = (heard_same t l1 n && (rd t (n : Int) == rd l1 (n : Int))) := by
  unfold heard_same; rw [List.range_succ, List.all_append]; simp
def heard_l (k : Nat) (l1 : List Int) : List S29 → List S29 → Option (List S29)
  | [], out => some out
  | c :: cs, out => (impl_ThirdsOf.f k c.f0).bind fun t => if l1.length < t.length then none else if heard_same t l1 t.length = true then (if out.length < 5864062014805 then heard_l k l1 cs (out ++ [c]) else none) else heard_l k l1 cs out
def impl_CirclesHeard.f (k : Nat) (a0 : Int) (l1 : List Int) : Option (List S29) := if ¬ l1.length = 12 then some [] else (impl_FamilyOf.f k a0).bind fun fam => if 1000000 < fam.length then none else heard_l k l1 fam []
theorem heard_l.mono (l1 : List Int) (k : Nat) : ∀ cs out, LeO (heard_l k l1 cs out) (heard_l (k + 1) l1 cs out) := by
  intro cs
  induction cs with
  | nil => intro out; exact LeO.refl _
  | cons c cs ih =>
    intro out
    rw [heard_l, heard_l]
    exact LeO.bind (impl_ThirdsOf.mono _ _) (fun t => LeO.ite (LeO.none _) (LeO.ite (LeO.ite (ih _) (LeO.none _)) (ih _)))
theorem impl_CirclesHeard.mono : ∀ a0 a1 k, LeO (impl_CirclesHeard.f k a0 a1) (impl_CirclesHeard.f (k + 1) a0 a1) := by
  intro a0 a1 k
  unfold impl_CirclesHeard.f
  exact LeO.ite (LeO.refl _) (LeO.bind (impl_FamilyOf.mono _ _) (fun fam => LeO.ite (LeO.none _) (heard_l.mono _ _ _ _)))
theorem heard_drop (l : List S29) (i : Nat) (h : i < l.length) : l.drop i = rd_T29 l (i : Int) :: l.drop (i + 1) := by
  rw [List.drop_eq_getElem_cons h]; simp [rd_T29, h]
theorem heard_new (w : World) (o : Obj) : (w.alloc o).heap[w.heap.size]? = some o := by
  unfold World.alloc
  simp
/-- What the loop keeps: the family's circles lie apart (f says whose a block is); what has been taken over so far is theirs below i. -/
structure HeardS (w wr : World) (n4 n6 : Nat) (f : Nat → Nat) (u : Value) (Af : Option Addr) (cf : Nat) (fam out : List S29) (i : Nat) : Prop where
  hO : Kd.S k29 29 wr w.heap.size (fun k => ¬ ((n4 ≤ k ∧ k < n6) ∧ i ≤ f k)) u out
  hU : ∀ k, u.ownBlock = some k → ¬ (n4 ≤ k ∧ k < n6)
  hF : (Kd.tag f k29).R 29 wr n4 (fun k => n4 ≤ k ∧ k < n6) (.slice Af fam.length cf) fam.zipIdx
  hB : Below w.heap.size w wr
  hn : n6 ≤ wr.heap.size
  hm : w.heap.size ≤ n4
theorem HeardS.below {w wr w2 : World} {n4 n6 : Nat} {f : Nat → Nat} {u : Value} {Af : Option Addr} {cf : Nat} {fam out : List S29} {i : Nat} (h : HeardS w wr n4 n6 f u Af cf fam out i) (hb : Below wr.heap.size wr w2) : HeardS w w2 n4 n6 f u Af cf fam out i :=
  ⟨Kd.S_below h.hO hb, h.hU, Kd.R_below h.hF hb, below_step h.hB hb, Nat.le_trans h.hn hb.size, h.hm⟩
theorem HeardS.alloc {w wr : World} {n4 n6 : Nat} {f : Nat → Nat} {u : Value} {Af : Option Addr} {cf : Nat} {fam out : List S29} {i : Nat} (h : HeardS w wr n4 n6 f u Af cf fam out i) (o : Obj) : HeardS w (wr.alloc o) n4 n6 f u Af cf fam out i :=
  h.below (below_alloc (Below.refl _ _) o)
theorem HeardS.next {w wr : World} {n4 n6 : Nat} {f : Nat → Nat} {u : Value} {Af : Option Addr} {cf : Nat} {fam out : List S29} {i : Nat} (h : HeardS w wr n4 n6 f u Af cf fam out i) : HeardS w wr n4 n6 f u Af cf fam out (i + 1) :=
  ⟨Kd.S_mono h.hO (fun k hk hx => hk ⟨hx.1, by omega⟩), h.hU, h.hF, h.hB, h.hn, h.hm⟩
/-- Circle i of the family: its cell, and its row, which is none but its own. -/
theorem HeardS.at {w wr : World} {n4 n6 : Nat} {f : Nat → Nat} {u : Value} {Af : Option Addr} {cf : Nat} {fam out : List S29} {j : Nat} (h : HeardS w wr n4 n6 f u Af cf fam out j) (i : Nat) (hi : i < fam.length) :
    ∃ ad A c, Af = some ad ∧ wr.cell? (ad.add i) = some (.slice A (rd_T29 fam i).f0.length c) ∧ (rd_T29 fam i).f0.length ≤ c ∧ (Kd.int .i64).C wr A (rd_T29 fam i).f0.length (rd_T29 fam i).f0 ∧ Kd.R (Kd.int .i64) 3 wr n4 (fun k => (n4 ≤ k ∧ k < n6) ∧ f k = i) (.slice A (rd_T29 fam i).f0.length c) (rd_T29 fam i).f0 := by
  have hl : (fam.zipIdx).length = fam.length := List.length_zipIdx
  have hF := h.hF
  rw [← hl] at hF
  obtain ⟨g, cap, hv, _, _, _⟩ := Kd.R_form hF (by omega)
  injection hv with h1 h2 h3
  subst h1
  obtain ⟨c1, hcl, hM, hcc⟩ := Kd.R_getA hF (z29, 0) (i : Int) (by omega) (by omega)
  have hz : fam.zipIdx.getD i (z29, 0) = (rd_T29 fam (i : Int), i) := by
    unfold rd_T29
    rw [Int.toNat_natCast, List.getD_eq_getElem?_getD, List.getD_eq_getElem?_getD, List.getElem?_zipIdx, List.getElem?_eq_getElem hi, Nat.zero_add]
    rfl
  rw [Int.toNat_natCast, hz] at hM
  change k29.M wr n4 _ (rd_T29 fam (i : Int)) c1 at hM
  obtain ⟨v0, rfl, hR⟩ := k29_openM hM
  obtain ⟨A, cc, rfl⟩ := Kd.R_slice hR
  have hx := hcc 0 _ rfl
  rw [Int.toNat_natCast, show (Kd.tag f k29).sz = 1 from rfl, Nat.mul_one, Nat.add_zero] at hx
  exact ⟨_, A, cc, rfl, hx, (Kd.R_reads' hR).2.1, (Kd.R_reads' hR).2.2, Kd.R_mono hR (fun k hk => ⟨hk.1.1, hk.2⟩)⟩
set_option maxHeartbeats 4000000 in
set_option maxRecDepth 100000 in
theorem impl_CirclesHeard.calls (k : Nat) (a0 : Int) (A1 : Option Addr) (c1 : Nat) (l1 : List Int) (r : List (S29)) (w : World) (hr1 : Kd.C (Kd.int .i64) w A1 l1.length l1) (hc1 : l1.length ≤ c1) (h : impl_CirclesHeard.f k a0 l1 = some r) :
    Calls Try.prog 22 #[.int .i64 a0, .slice A1 l1.length c1] w fun e w' => ∃ v0_ : Value, e = .returned (v0_) ∧ Kd.S k29 29 w' w.heap.size (fun _ => True) v0_ r ∧ Below w.heap.size w w' := by
  have hu29 := Try.underlying29
  have HR1 := Aside0.mk hr1
  clear hr1
  unfold impl_CirclesHeard.f at h
  by_cases h12 : l1.length = 12
  case neg =>
    rw [if_pos h12] at h
    obtain rfl := Option.some.inj h
    have hy : ((l1.length : Int) != 12) = true := by simp; omega
    clear h12
    go_enter Try.func22, Try.ntmps22
    go_wp2
    go_ret
    exact ⟨_, rfl, Kd.S_nil _ _ _ _ _, Below.refl _ _⟩
  rw [if_neg (by omega)] at h
  obtain ⟨fam, hfam, h⟩ := Option.bind_eq_some_iff.mp h
  have HF := Aside0.mk hfam
  by_cases hbig : 1000000 < fam.length
  · rw [if_pos hbig] at h; cases h
  rw [if_neg hbig] at h
  have HBIG := Aside0.mk (show fam.length ≤ 1000000 by omega)
  have hy : ((l1.length : Int) != 12) = false := by simp; omega
  have H12 := Aside0.mk h12
  have HH := Aside0.mk h
  clear h h12 hbig hfam
  go_enter Try.func22, Try.ntmps22
  go_wp2_with (first | ((with_reducible refine gate_dst (N := 14) rfl ?_); (try (refine gate_guard (by rfl) ?_; dsimp only)); refine Kd.S_lit k29 _ 29 ?hg (N := 14) ?hd (xs := ([] : List (S29))) (inner := []) (ok := (fun k_ => w.heap.size ≤ k_)) (okp := (fun k_ => (w.heap.size ≤ k_))) ?hr ?hp (fun _ hk => hk) ((show ∀ k_, w.heap.size ≤ k_ → (fun k_ => (w.heap.size ≤ k_)) k_ from fun k_ hk => hk) _ (Nat.le_refl _)) (Below.refl _ _) (Nat.le_refl _) (by simp) ?_; (case hd => rfl); (case hg => rfl); (case hr => first | (go_simp; done) | (go_simp; rfl)); (case hp => exact (Reps.none _ _)); intro v4 w4 ho5 hb hg_ hnew_; clear hg_ hnew_; have HO4 := Aside0.mk ho5; have HB4 := Aside0.mk hb; clear ho5 hb) | ((with_reducible refine gate_callee (f := 14) rfl ?_); refine goesL_ (some 16) rfl rfl Try.func14 (by kernel_rfl) rfl #[.int .i64 a0] rfl (by (try simp only [List.map_toArray, List.map_cons, List.map_nil]); first | done | rfl) ?_; refine (impl_FamilyOf.calls k a0 fam _ HF.out).mono ?_; rintro e w6 ⟨v6, rfl, ho0, hb⟩; refine ⟨_, rfl, ?_⟩; obtain ⟨Af, cf, ef⟩ := Kd.S_slice ho0; subst ef; obtain ⟨f, hf⟩ := Kd.S_mono (ok' := fun k_ => w4.heap.size ≤ k_ ∧ k_ < w6.heap.size) (Kd.S_bound ho0) (fun k_ hk_ => ⟨hk_.2.1, hk_.2.2.1⟩); have HA6 := Aside0.mk (HeardS.mk (w := w) (wr := w6) (n4 := w4.heap.size) (n6 := w6.heap.size) (f := f) (u := v4) (Af := Af) (cf := cf) (fam := fam) (out := ([] : List S29)) (i := 0) (Kd.S_below (Kd.S_mono (Kd.S_bound HO4.out) (fun k_ hk_ hx_ => Nat.lt_irrefl _ (Nat.lt_of_lt_of_le hk_.2.2.1 hx_.1.1))) hb) (fun k_ hk_ hx_ => Nat.lt_irrefl _ (Nat.lt_of_lt_of_le (Kd.S_lt HO4.out k_ hk_) hx_.1)) hf (below_step HB4.out hb) (Nat.le_refl _) HB4.out.size); obtain ⟨n4, hn4⟩ : ∃ n_, n_ = w4.heap.size := ⟨_, rfl⟩; obtain ⟨n6, hn6⟩ : ∃ n_, n_ = w6.heap.size := ⟨_, rfl⟩; rw [← hn4, ← hn6] at HA6; clear hf ho0 hb HO4 HB4 hn4 hn6))
  go_loopw [5, 18] (fun u vi w' => ∃ (i : Nat) (out : List S29), i ≤ fam.length ∧ vi = .int .i64 i ∧ Aside0 (heard_l k l1 (fam.drop i) out = some r) ∧ Aside0 (HeardS w w' n4 n6 f u Af cf fam out i))
    (fun _ vi _ => fam.length - (intOf vi).toNat)
  case atStart => exact ⟨0, [], by omega, rfl, ⟨by rw [List.drop_zero]; exact HH.out⟩, HA6⟩
  case round =>
    clear HA6 HH
    obtain ⟨i, out, hi, rfl, HH, HA⟩ := hrel
    have hi2 : i ≤ 1000000 := by have := HBIG.out; omega
    by_cases hlt : i < fam.length
    · obtain ⟨ad2, A, n, e, hx2, hlc, hCc, hVc⟩ := HA.out.at i hlt
      subst e
      have hh := HH.out
      rw [heard_drop fam i hlt, heard_l] at hh
      obtain ⟨t, ht, hh⟩ := Option.bind_eq_some_iff.mp hh
      by_cases htl : l1.length < t.length
      · rw [if_pos htl] at hh; cases hh
      rw [if_neg htl] at hh
      generalize hrc : rd_T29 fam (i : Int) = c at hx2 hlc hCc hVc hh ht
      have HLc := Aside0.mk hlc
      have HCc := Aside0.mk hCc
      have HVc := Aside0.mk hVc
      have HT1 := Aside0.mk ht
      have HH2 := Aside0.mk hh
      have HTL := Aside0.mk (show t.length ≤ l1.length by omega)
      clear hlc hCc hVc ht hh HH htl
      go_wp2_with (first | ((with_reducible refine gate_callee (f := 25) rfl ?_); refine goesL_ (some 23) rfl rfl Try.func25 (by kernel_rfl) rfl #[.agg #[.slice A c.f0.length n]] rfl (by (try simp only [List.map_toArray, List.map_cons, List.map_nil]); first | done | rfl) ?_; (refine (impl_ThirdsOf.calls k A n c.f0 t _ (Kd.C_alloc HCc.out _) HLc.out HT1.out).mono ?_); rintro e w6 ⟨v6, rfl, ho6, hb6⟩; refine ⟨_, rfl, ?_⟩; have HB6 := Aside0.mk hb6; obtain ⟨A6, c6, e6⟩ := Kd.R_slice ho6; subst e6; have HO6 := Aside0.mk ho6; clear ho6 hb6))
      have HA7 := Aside0.mk ((HA.out.alloc (.cells #[.slice A c.f0.length n] 29)).below HB6.out)
      have HV7 := Aside0.mk (Kd.R_below (Kd.R_alloc HVc.out (.cells #[.slice A c.f0.length n] 29)) HB6.out)
      have hc7 : w6.cell? ⟨wr.heap.size, 0, none⟩ = some (.slice A c.f0.length n) := (blk_cell (blk_below (heard_new wr (.cells #[.slice A c.f0.length n] 29)) HB6.out) 0).trans rfl
      have HC1 := Aside0.mk (Kd.C_below HR1.out HA7.out.hB)
      clear HB6 HA HVc HCc hx2
      generalize wr.heap.size = g7 at hc7 ⊢
      go_loopw [8, 25] (fun vs vj w' => ∃ j : Nat, j ≤ t.length ∧ vs = .bool (heard_same t l1 j) ∧ vj = .int .i64 j ∧ w' = w6)
        (fun _ vj _ => t.length - (intOf vj).toNat)
      case atStart => exact ⟨0, by omega, rfl, rfl, rfl⟩
      case round =>
        obtain ⟨j, hj, rfl, rfl, hw⟩ := hrel
        subst hw
        have hj12 : j ≤ 12 := by have := HTL.out; have := H12.out; omega
        by_cases hlt2 : j < t.length
        · have hp : (0 : Int) ≤ (j : Int) := by omega
          have q1 : (j : Int) < (t.length : Int) := by omega
          have q2 : (j : Int) < (l1.length : Int) := by have := HTL.out; omega
          obtain ⟨ad1, e1, hx1⟩ := Kd.at_int (Kd.R_reads' HO6.out).2.2 (j : Int) hp q1
          obtain ⟨ad3, e3, hx3⟩ := Kd.at_int HC1.out (j : Int) hp q2
          subst e1
          subst e3
          rw [Int.toNat_natCast] at hx1 hx3
          have hs := heard_succ t l1 j
          generalize hb : heard_same t l1 j = b at hs ⊢
          generalize rd t (j : Int) = x at hx1 hs
          generalize rd l1 (j : Int) = y at hx3 hs
          have HS := Aside0.mk hs
          clear hs hb
          cases b with
          | false =>
            go_wp2
            go_roundw
            case rel => exact ⟨j + 1, by omega, by rw [HS.out]; rfl, by go_num, by first | rfl | trivial⟩
            case measure => simp [intOf]; omega
          | true =>
            go_wp2
            go_roundw
            case rel => exact ⟨j + 1, by omega, by rw [HS.out]; simp, by go_num, by first | rfl | trivial⟩
            case measure => simp [intOf]; omega
        · obtain rfl : j = t.length := by omega
          have hh := HH2.out
          generalize hs : heard_same t l1 t.length = b at hh ⊢
          clear hs
          cases b with
          | true =>
            rw [if_pos rfl] at hh
            by_cases hlm : out.length < 5864062014805
            case neg => rw [if_neg hlm] at hh; cases hh
            rw [if_pos hlm] at hh
            have LM := Aside0.mk hlm
            have HH3 := Aside0.mk hh
            clear hlm hh HH2
            go_wp2_with (first | ((with_reducible refine gate_builtin (b := .append) (xs := #[.tmp 41, .tmp 43]) rfl ?_); (try (refine gate_guard (by rfl) ?_; dsimp only)); at_builtin; refine Kd.S_append k29 (w0 := w) w.heap.size rfl (.tmp 41) (.tmp 43) 26 29 (.agg #[(.slice none 0 0)]) 24 rfl Try.underlying26 info29 rfl (by decide) (by omega) u5 out c [.slice A c.f0.length n] (fun k_ => ¬ ((n4 ≤ k_ ∧ k_ < n6) ∧ i + 1 ≤ f k_)) (fun k_ => (n4 ≤ k_ ∧ k_ < n6) ∧ f k_ = i) rfl rfl ?aP ?aQ ?aF ?aO ?aB ?aS ?aL ?_; (case aP => exact k29_mkM _ _ _ c (Kd.R_lower HV7.out HA7.out.hm)); (case aQ => exact (fun k_ hk => ⟨fun hx => by have h1_ := hx.2; have h2_ := hk.2; omega, fun he => HA7.out.hU k_ he.symm hk.1⟩)); (case aF => exact (fun k_ hk hx => by have h1_ := HA7.out.hn; have h2_ := hx.1.2; omega)); (case aB => exact HA7.out.hB); (case aO => exact Kd.S_mono HA7.out.hO (fun k_ hk => ⟨fun hx => hk ⟨hx.1, by have h1_ := hx.2; omega⟩, fun hx => hk ⟨hx.1, by have h1_ := hx.2; omega⟩⟩)); (case aS => exact HA7.out.hB.size); (case aL => have := LM.out; omega); intro v8 w8 ho hb hg hat; have HA8 := Aside0.mk (HeardS.mk (i := i + 1) ho (fun k_ hk_ hx_ => by rcases hat with hat | ⟨b_, hb_, hle_⟩; (· exact HA7.out.hU k_ (hat ▸ hk_) hx_); (· rw [hb_] at hk_; injection hk_ with hk_; have h1_ := HA7.out.hn; have h2_ := hx_.2; omega)) (Kd.R_grown HA7.out.hF hg (fun k_ hk_ he_ => HA7.out.hU k_ he_.symm hk_)) hb (Nat.le_trans HA7.out.hn hg.size) HA7.out.hm); clear ho hb hg hat))
            go_roundw
            case rel => exact ⟨i + 1, out ++ [c], by omega, by go_num, HH3, HA8⟩
            case measure => simp [intOf]; omega
          | false =>
            rw [if_neg (by decide)] at hh
            have HH3 := Aside0.mk hh
            clear hh HH2
            go_wp2
            go_roundw
            case rel => exact ⟨i + 1, out, by omega, by go_num, HH3, ⟨HA7.out.next⟩⟩
            case measure => simp [intOf]; omega
    · have q := HH.out
      rw [List.drop_eq_nil_of_le (by omega), heard_l] at q
      obtain rfl := Option.some.inj q
      go_wp2
      go_ret
      exact ⟨_, rfl, Kd.S_mono HA.out.hO (fun _ _ => trivial), HA.out.hB⟩

/-! ### spec_CirclesHeard: function 41 -/
mutual
def spec_CirclesHeard.l0 : Nat → List Int → List (S29) → List (S29) → Int → Option ((List (S29)))
  | 0, _, _, _, _ => none
  | k + 1, x1, x5, x6, x7 => if x7 < (x6.length : Int) then (spec_CirclesHeard.j1 k x1 x5 x6 x7 ((x1.length : Int) == 12)) else (spec_CirclesHeard.j1 k x1 x5 x6 x7 false)
def spec_CirclesHeard.j1 : Nat → List Int → List (S29) → List (S29) → Int → Bool → Option ((List (S29)))
  | 0, _, _, _, _, _ => none
  | k + 1, x1, x5, x6, x7, x19 => if x19 = true then (if 0 ≤ x7 then (if x7 < (x6.length : Int) then ((spec_ThirdsOf.f k ((rd_T29 x6 x7).f0)).bind fun t232 => ((spec_l15Same.f k t232 x1).bind fun t235 => (if t235 = true then (if x5.length < 5864062014805 then (spec_CirclesHeard.l0 k x1 (x5 ++ [(⟨(rd_T29 x6 x7).f0⟩ : S29)]) x6 (wrap64 (x7 + 1))) else (none)) else (spec_CirclesHeard.l0 k x1 x5 x6 (wrap64 (x7 + 1)))))) else (none)) else (none)) else (some x5)
end
def spec_CirclesHeard.f (k : Nat) (a0 : Int) (l1 : List Int) : Option ((List (S29))) := (spec_FamilyOf.f k a0).bind fun t228 => (spec_CirclesHeard.l0 k l1 (([] : List (S29))) t228 0)
theorem spec_CirclesHeard.mono_l : ∀ k, (∀ y0 y1 y2 y3, LeO (spec_CirclesHeard.l0 k y0 y1 y2 y3) (spec_CirclesHeard.l0 (k + 1) y0 y1 y2 y3)) ∧ (∀ y0 y1 y2 y3 y4, LeO (spec_CirclesHeard.j1 k y0 y1 y2 y3 y4) (spec_CirclesHeard.j1 (k + 1) y0 y1 y2 y3 y4))
  | 0 => ⟨fun _ _ _ _ r h => by simp [spec_CirclesHeard.l0] at h, fun _ _ _ _ _ r h => by simp [spec_CirclesHeard.j1] at h⟩
  | k + 1 => by
    obtain ⟨ih0, ih1⟩ := spec_CirclesHeard.mono_l k
    refine ⟨?_, ?_⟩
    · intro y0 y1 y2 y3
      unfold spec_CirclesHeard.l0
      repeat' first
      | (with_reducible exact ih0 _ _ _ _)
      | (with_reducible exact ih1 _ _ _ _ _)
      | (with_reducible exact spec_FamilyOf.mono _ _)
      | (with_reducible exact spec_ThirdsOf.mono _ _)
      | (with_reducible exact spec_l15Same.mono _ _ _)
      | (with_reducible exact LeO.refl _)
      | (with_reducible exact LeO.none _)
      | (with_reducible refine LeO.ite ?_ ?_)
      | (with_reducible refine LeO.bind ?_ (fun _ => ?_))
      | exact ih0 _ _ _ _
      | exact ih1 _ _ _ _ _
      | exact spec_FamilyOf.mono _ _
      | exact spec_ThirdsOf.mono _ _
      | exact spec_l15Same.mono _ _ _
      | exact LeO.none _
      | refine LeO.ite ?_ ?_
      | refine LeO.bind ?_ (fun _ => ?_)
    · intro y0 y1 y2 y3 y4
      unfold spec_CirclesHeard.j1
      repeat' first
      | (with_reducible exact ih0 _ _ _ _)
      | (with_reducible exact ih1 _ _ _ _ _)
      | (with_reducible exact spec_FamilyOf.mono _ _)
      | (with_reducible exact spec_ThirdsOf.mono _ _)
      | (with_reducible exact spec_l15Same.mono _ _ _)
      | (with_reducible exact LeO.refl _)
      | (with_reducible exact LeO.none _)
      | (with_reducible refine LeO.ite ?_ ?_)
      | (with_reducible refine LeO.bind ?_ (fun _ => ?_))
      | exact ih0 _ _ _ _
      | exact ih1 _ _ _ _ _
      | exact spec_FamilyOf.mono _ _
      | exact spec_ThirdsOf.mono _ _
      | exact spec_l15Same.mono _ _ _
      | exact LeO.none _
      | refine LeO.ite ?_ ?_
      | refine LeO.bind ?_ (fun _ => ?_)
theorem spec_CirclesHeard.mono : ∀ a0 a1 k, LeO (spec_CirclesHeard.f k a0 a1) (spec_CirclesHeard.f (k + 1) a0 a1) := by
  intro a0 a1 k
  obtain ⟨ih0, ih1⟩ := spec_CirclesHeard.mono_l k
  unfold spec_CirclesHeard.f
  repeat' first
      | (with_reducible exact ih0 _ _ _ _)
      | (with_reducible exact ih1 _ _ _ _ _)
      | (with_reducible exact spec_FamilyOf.mono _ _)
      | (with_reducible exact spec_ThirdsOf.mono _ _)
      | (with_reducible exact spec_l15Same.mono _ _ _)
      | (with_reducible exact LeO.refl _)
      | (with_reducible exact LeO.none _)
      | (with_reducible refine LeO.ite ?_ ?_)
      | (with_reducible refine LeO.bind ?_ (fun _ => ?_))
      | exact ih0 _ _ _ _
      | exact ih1 _ _ _ _ _
      | exact spec_FamilyOf.mono _ _
      | exact spec_ThirdsOf.mono _ _
      | exact spec_l15Same.mono _ _ _
      | exact LeO.none _
      | refine LeO.ite ?_ ?_
      | refine LeO.bind ?_ (fun _ => ?_)
set_option maxHeartbeats 8000000 in
set_option maxRecDepth 100000 in
theorem spec_CirclesHeard.calls (k : Nat) (a0 : Int) (A1 : Option Addr) (c1 : Nat) (l1 : List Int) (r : List (S29)) (w : World) (hr1 : Kd.C (Kd.int .i64) w A1 l1.length l1) (hc1 : l1.length ≤ c1) (h : spec_CirclesHeard.f k a0 l1 = some r) :
    Calls Try.prog 41 #[.int .i64 a0, .slice A1 l1.length c1] w fun e w' => ∃ v0_ : Value, e = .returned (v0_) ∧ Kd.N k29 29 w' w.heap.size (fun k_ => (w.heap.size ≤ k_)) v0_ r ∧ Below w.heap.size w w' := by
  have hu29 := Try.underlying29
  have HR1 := Aside0.mk hr1
  have HC1 := Aside0.mk hc1
  clear hr1 hc1
  have HB := Aside0.mk (Below.refl w.heap.size w)
  have H : ((spec_FamilyOf.f k a0).bind fun t228 => (spec_CirclesHeard.l0 k l1 (([] : List (S29))) t228 0)) = some r := h
  clear h
  obtain ⟨y225, hy225⟩ : ∃ y_ : List (S29), y_ = (([] : List (S29))) := ⟨_, rfl⟩
  replace H : ((spec_FamilyOf.f k a0).bind fun t228 => (spec_CirclesHeard.l0 k l1 y225 t228 0)) = some r := by first | (rw [hy225]; with_reducible exact H) | (have H2_ := (Option.bind_some _ _).symm.trans H; rw [hy225]; with_reducible exact H2_) | (have H2_ := (Option.bind_some _ _).symm.trans H; with_reducible exact H2_) | with_reducible exact H | (rw [hy225]; exact H) | exact H
  have Ny225 := Aside0.mk hy225
  clear hy225
  replace H := Option.bind_eq_some_iff.mp H
  obtain ⟨t228, A30, H⟩ := H
  replace H : (spec_CirclesHeard.l0 k l1 y225 t228 0) = some r := H
  have A3 := Aside0.mk A30
  clear A30
  have H' := Aside0.mk H
  clear H
  go_enter Try.func41, Try.ntmps41
  go_wp2_with (first | ((with_reducible refine gate_dst (N := 8) rfl ?_); (try (refine gate_guard (by rfl) ?_; dsimp only)); refine Kd.N_lit k29 _ 29 ?hg (N' := 8) ?hd (xs := ([] : List (S29))) (inner := []) (ok := (fun k_ => (w.heap.size ≤ k_))) (okp := (fun k_ => (w.heap.size ≤ k_))) ?hr ?hp (fun _ hk => hk) ((show ∀ k_, w.heap.size ≤ k_ → (fun k_ => (w.heap.size ≤ k_)) k_ from fun k_ hk => (Nat.le_trans (below_size (by repeat (first | (with_reducible first | exact HB.out | apply below_alloc | apply pw_below_drewN | apply below_drew1) | exact HB.out))) hk)) _ (Nat.le_refl _)) (Below.refl _ _) (Nat.le_refl _) (by simp) ?_; (case hd => rfl); (case hg => rfl); (case hr => first | (go_simp; done) | (go_simp; rfl)); (case hp => exact (Reps.none _ _)); intro v226 w4 ho5 hb hg_ hnew_; clear hg_ hnew_; (first | rw [← Ny225.out] at ho5 | (simp only [Int.reduceToNat] at ho5; rw [← Ny225.out] at ho5)); have n0_ := Aside0.mk (Kd.N_lower ho5 (below_size (by repeat (first | (with_reducible first | exact HB.out | apply below_alloc | apply pw_below_drewN | apply below_drew1) | exact HB.out)))); have n1_ := Aside0.mk (below_step (by repeat (first | (with_reducible first | exact HB.out | apply below_alloc | apply pw_below_drewN | apply below_drew1) | exact HB.out)) hb); clear HB; have HO227 := n0_; have HB := n1_; clear n0_ n1_; clear hb ho5) | ((with_reducible refine gate_callee (f := 17) rfl ?_); refine goesL_ (some 10) rfl rfl Try.func17 (by kernel_rfl) rfl #[.int .i64 a0] rfl (by (try simp only [List.map_toArray, List.map_cons, List.map_nil]); first | done | rfl | (simp only [List.length_drop, List.length_take]; rfl)) ?_; (with_reducible refine (spec_FamilyOf.calls k a0 t228 _ A3.out).mono ?_); rintro e w6 ⟨v229, rfl, ho0, hb⟩; refine ⟨_, rfl, ?_⟩; have n0_ := Aside0.mk (Kd.N_elder' (by (with_reducible repeat (first | apply Kd.N_alloc | apply Kd.N_drewN | apply Kd.N_drew)); exact HO227.out) (Kd.N_base ho0) hb); have n1_ := Aside0.mk (Kd.N_lower (Kd.N_mono (ok' := fun k_ => (w.heap.size ≤ k_) ∧ some k_ ≠ (v226 : Value).ownBlock) ho0 (fun k_ hk_ => ⟨(Nat.le_trans (below_size (by repeat (first | (with_reducible first | exact HB.out | apply below_alloc | apply pw_below_drewN | apply below_drew1) | exact HB.out))) hk_), (Kd.fresh' (Kd.N_lt (by (with_reducible repeat (first | apply Kd.N_alloc | apply Kd.N_drewN | apply Kd.N_drew)); exact HO227.out)) k_ hk_)⟩)) (below_size (by repeat (first | (with_reducible first | exact HB.out | apply below_alloc | apply pw_below_drewN | apply below_drew1) | exact HB.out)))); have n2_ := Aside0.mk (below_step (by repeat (first | (with_reducible first | exact HB.out | apply below_alloc | apply pw_below_drewN | apply below_drew1) | exact HB.out)) hb); clear HO227; clear HB; have HO227 := n0_; have HO230 := n1_; have HB := n2_; clear n0_ n1_ n2_; (try clear hb); (try clear hb2); (try clear hk); (try clear hi); (try clear ho0)))
  go_loopg [5, 7] k (fun kq v5 v7 w' => ∃ (x5_1 : List (S29)) (x7_1 : Int), v7 = .int .i64 x7_1 ∧ Aside0 (spec_CirclesHeard.l0 kq l1 x5_1 t228 x7_1 = some r) ∧ Aside0 (kq ≤ k) ∧ Aside0 (Kd.N k29 29 w' w.heap.size (fun k_ => (w.heap.size ≤ k_) ∧ some k_ ≠ (v229 : Value).ownBlock) v5 x5_1) ∧ Aside0 (Kd.N k29 29 w' w.heap.size (fun k_ => (w.heap.size ≤ k_) ∧ some k_ ≠ (v5 : Value).ownBlock) v229 t228) ∧ Aside0 (Below w.heap.size w w'))
  case atStart => exact ⟨(y225), (0), (by first | rfl | (simp; done) | (simp [*]; done)), H', ⟨Nat.le_refl _⟩, ⟨by (with_reducible repeat (first | apply Kd.N_alloc | apply Kd.N_drewN | apply Kd.N_drew)); exact HO227.out⟩, ⟨by (with_reducible repeat (first | apply Kd.N_alloc | apply Kd.N_drewN | apply Kd.N_drew)); exact HO230.out⟩, ⟨by repeat (first | (with_reducible first | exact HB.out | apply below_alloc | apply pw_below_drewN | apply below_drew1) | exact HB.out)⟩⟩
  case round =>
    clear H'
    try clear c1
    try clear p2
    try clear c4
    obtain ⟨x5_1, x7_1, rfl, HA, HK1, HO_5, HO_6, HB⟩ := hrel
    cases gk with
    | zero => exact absurd HA.out (by simp [spec_CirclesHeard.l0])
    | succ k1 =>
      have H := HA.out
      clear HA
      simp only [spec_CirclesHeard.l0] at H
      have HC7 := Aside0.mk H
      clear H
      go_upto_region 4 with (fail)
      go_cut [19] (fun v19 wc => ∃ (kq : Nat) (x19_6 : Bool), v19 = .bool x19_6 ∧ Aside0 (spec_CirclesHeard.j1 kq l1 x5_1 t228 x7_1 x19_6 = some r) ∧ Aside0 (kq ≤ k1) ∧ Aside0 (Kd.N k29 29 wc w.heap.size (fun k_ => (w.heap.size ≤ k_) ∧ some k_ ≠ (v229 : Value).ownBlock) u5 x5_1) ∧ Aside0 (Kd.N k29 29 wc w.heap.size (fun k_ => (w.heap.size ≤ k_) ∧ some k_ ≠ (u5 : Value).ownBlock) v229 t228) ∧ Aside0 (Below w.heap.size w wc))
      case first =>
        have H := HC7.out
        clear HC7
        by_cases c8 : x7_1 < (t228.length : Int)
        · rw [if_pos c8] at H
          have c8b0 : decide (x7_1 < (t228.length : Int)) = true := decide_eq_true c8
          clear c8
          (first | rw [c8b0] | (simp only [i64_w, i32_w]; rw [c8b0]) | skip)
          have H' := Aside0.mk H
          clear H
          obtain ⟨Ao9, co9, eo9⟩ := Kd.N_slice HO_6.out
          subst eo9
          go_wp2
          go_meet
          case rel => exact ⟨_, (((l1.length : Int) == 12)), (by first | rfl | (simp; done) | (simp [*]; done)), H', ⟨by have := HK1.out; first | omega | exact Nat.le_refl _⟩, ⟨by (with_reducible repeat (first | apply Kd.N_alloc | apply Kd.N_drewN | apply Kd.N_drew)); exact HO_5.out⟩, ⟨by (with_reducible repeat (first | apply Kd.N_alloc | apply Kd.N_drewN | apply Kd.N_drew)); exact HO_6.out⟩, ⟨by repeat (first | (with_reducible first | exact HB.out | apply below_alloc | apply pw_below_drewN | apply below_drew1) | exact HB.out)⟩⟩
        · rw [if_neg c8] at H
          have c8b0 : decide (x7_1 < (t228.length : Int)) = false := decide_eq_false c8
          clear c8
          (first | rw [c8b0] | (simp only [i64_w, i32_w]; rw [c8b0]) | skip)
          have H' := Aside0.mk H
          clear H
          obtain ⟨Ao10, co10, eo10⟩ := Kd.N_slice HO_6.out
          subst eo10
          go_wp2
          go_meet
          case rel => exact ⟨_, (false), (by first | rfl | (simp; done) | (simp [*]; done)), H', ⟨by have := HK1.out; first | omega | exact Nat.le_refl _⟩, ⟨by (with_reducible repeat (first | apply Kd.N_alloc | apply Kd.N_drewN | apply Kd.N_drew)); exact HO_5.out⟩, ⟨by (with_reducible repeat (first | apply Kd.N_alloc | apply Kd.N_drewN | apply Kd.N_drew)); exact HO_6.out⟩, ⟨by repeat (first | (with_reducible first | exact HB.out | apply below_alloc | apply pw_below_drewN | apply below_drew1) | exact HB.out)⟩⟩
      case rest =>
        clear HC7
        try clear c1
        try clear p2
        try clear c4
        try clear c8
        try clear c8b0
        try clear p2
        obtain ⟨kq, x19_6, rfl, HA, HJ6, HO_5, HO_6, HB⟩ := hcut
        cases kq with
        | zero => exact absurd HA.out (by simp [spec_CirclesHeard.j1])
        | succ kj6 =>
          have H := HA.out
          clear HA
          simp only [spec_CirclesHeard.j1] at H
          by_cases c11 : x19_6 = true
          · subst c11
            have H1 : (if 0 ≤ x7_1 then (if x7_1 < (t228.length : Int) then ((spec_ThirdsOf.f kj6 ((rd_T29 t228 x7_1).f0)).bind fun t232 => ((spec_l15Same.f kj6 t232 l1).bind fun t235 => (if t235 = true then (if x5_1.length < 5864062014805 then (spec_CirclesHeard.l0 kj6 l1 (x5_1 ++ [(⟨(rd_T29 t228 x7_1).f0⟩ : S29)]) t228 (wrap64 (x7_1 + 1))) else (none)) else (spec_CirclesHeard.l0 kj6 l1 x5_1 t228 (wrap64 (x7_1 + 1)))))) else (none)) else (none)) = some r := by rw [if_pos rfl] at H; exact H
            clear H
            have H := H1
            clear H1
            by_cases c12 : 0 ≤ x7_1
            · rw [if_pos c12] at H
              have c12b0 : decide (0 ≤ x7_1) = true := decide_eq_true c12
              clear c12
              by_cases c13 : x7_1 < (t228.length : Int)
              · rw [if_pos c13] at H
                have c13b0 : decide (x7_1 < (t228.length : Int)) = true := decide_eq_true c13
                clear c13
                replace H := Option.bind_eq_some_iff.mp H
                obtain ⟨t232, A140, H⟩ := H
                replace H : ((spec_l15Same.f kj6 t232 l1).bind fun t235 => (if t235 = true then (if x5_1.length < 5864062014805 then (spec_CirclesHeard.l0 kj6 l1 (x5_1 ++ [(⟨(rd_T29 t228 x7_1).f0⟩ : S29)]) t228 (wrap64 (x7_1 + 1))) else (none)) else (spec_CirclesHeard.l0 kj6 l1 x5_1 t228 (wrap64 (x7_1 + 1))))) = some r := H
                have A14 := Aside0.mk A140
                clear A140
                replace H := Option.bind_eq_some_iff.mp H
                obtain ⟨t235, A150, H⟩ := H
                replace H : (if t235 = true then (if x5_1.length < 5864062014805 then (spec_CirclesHeard.l0 kj6 l1 (x5_1 ++ [(⟨(rd_T29 t228 x7_1).f0⟩ : S29)]) t228 (wrap64 (x7_1 + 1))) else (none)) else (spec_CirclesHeard.l0 kj6 l1 x5_1 t228 (wrap64 (x7_1 + 1)))) = some r := H
                have A15 := Aside0.mk A150
                clear A150
                by_cases c16 : t235 = true
                · subst c16
                  have H1 : (if x5_1.length < 5864062014805 then (spec_CirclesHeard.l0 kj6 l1 (x5_1 ++ [(⟨(rd_T29 t228 x7_1).f0⟩ : S29)]) t228 (wrap64 (x7_1 + 1))) else (none)) = some r := by rw [if_pos rfl] at H; exact H
                  clear H
                  have H := H1
                  clear H1
                  by_cases c17 : x5_1.length < 5864062014805
                  · rw [if_pos c17] at H
                    have LMc17 := Aside0.mk c17
                    clear c17
                    obtain ⟨y237, hy237⟩ : ∃ y_ : List (S29), y_ = (x5_1 ++ [(⟨(rd_T29 t228 x7_1).f0⟩ : S29)]) := ⟨_, rfl⟩
                    replace H : (spec_CirclesHeard.l0 kj6 l1 y237 t228 (wrap64 (x7_1 + 1))) = some r := by first | (rw [hy237]; with_reducible exact H) | (have H2_ := (Option.bind_some _ _).symm.trans H; rw [hy237]; with_reducible exact H2_) | (have H2_ := (Option.bind_some _ _).symm.trans H; with_reducible exact H2_) | with_reducible exact H | (rw [hy237]; exact H) | exact H
                    have Ny237 := Aside0.mk hy237
                    clear hy237
                    have H' := Aside0.mk H
                    clear H
                    obtain ⟨Ao18, co18, eo18⟩ := Kd.N_slice HO_6.out
                    subst eo18
                    have p231 : 0 ≤ (x7_1 : Int) := of_decide_eq_true (by first | (with_reducible assumption) | assumption)
                    have q231 : x7_1 < (t228.length : Int) := of_decide_eq_true (by first | (with_reducible assumption) | assumption)
                    obtain ⟨ad231, A231_0, c231_0, e231, hx231_0, hl231_0, hi231_0⟩ := at_T29 (Kd.N_reads' HO_6.out).2.2 x7_1 p231 q231
                    cases e231
                    obtain ⟨ce231, hce231, hMe231, hcc231⟩ := Kd.N_get HO_6.out z29 x7_1 p231 (by first | exact q231 | exact of_decide_eq_true (by first | (with_reducible assumption) | assumption) | (have e_ := (Kd.N_reads' HO_6.out).1; omega))
                    obtain ⟨ua231_0, uc231_0, rfl, ul231_0, ge231_0⟩ := k29_openF hMe231
                    have hv231_0 := hcc231 0 _ rfl
                    rw [Nat.add_zero, show (k29).sz = 1 from rfl, Nat.mul_one] at hv231_0
                    replace hv231_0 := Option.some.inj (hv231_0.symm.trans hx231_0)
                    injection hv231_0 with hva_ hvn_ hvc_
                    rw [hva_] at ge231_0
                    rw [hvc_] at ul231_0
                    have HL231_0 := Aside0.mk (show Kd.V (Kd.int .i64) 3 _ w.heap.size _ _ ((rd_T29 t228 x7_1).f0) from Kd.V_mk ul231_0 ge231_0)
                    clear hva_ hvn_ hvc_ ge231_0 ul231_0
                    clear hcc231 hce231
                    have HR231_0 := Aside0.mk hi231_0
                    have HC231_0 := Aside0.mk hl231_0
                    clear hi231_0 hl231_0
                    replace p231 := eq_true p231
                    replace q231 := eq_true q231
                    go_wp2_with (first | ((with_reducible refine gate_callee (f := 67) rfl ?_); refine goesL_ (some 26) rfl rfl Try.func67 (by kernel_rfl) rfl #[.agg #[.slice A231_0 ((rd_T29 t228 x7_1).f0).length c231_0]] rfl (by (try simp only [List.map_toArray, List.map_cons, List.map_nil]); first | done | rfl | (simp only [List.length_drop, List.length_take]; rfl)) ?_; (with_reducible refine (spec_ThirdsOf.calls kj6 _ _ ((rd_T29 t228 x7_1).f0) t232 _ ?side1 ?side2 A14.out).mono ?_); (case side1 => repeat (first | exact (by repeat (first | (with_reducible exact HR231_0.out) | (with_reducible refine Kd.C_alloc ?_ _) | (with_reducible refine Kd.C_drewN ?_ _) | (with_reducible refine Kd.C_drew ?_) | exact HR231_0.out)) | (with_reducible refine Kd.C_alloc ?_ _) | (with_reducible refine Kd.C_drewN ?_ _) | (with_reducible refine Kd.C_drew ?_))); (case side2 => exact HC231_0.out); rintro e w19 ⟨v233, rfl, ho0, hb⟩; refine ⟨_, rfl, ?_⟩; have n0_ := Aside0.mk (Kd.N_elder' (by (with_reducible repeat (first | apply Kd.N_alloc | apply Kd.N_drewN | apply Kd.N_drew)); exact HO_5.out) (Kd.R_base ho0) hb); have n1_ := Aside0.mk (Kd.N_elder' (by (with_reducible repeat (first | apply Kd.N_alloc | apply Kd.N_drewN | apply Kd.N_drew)); exact HO_6.out) (Kd.R_base ho0) hb); have n2_ := Aside0.mk (Kd.V_elder' (by (with_reducible repeat (first | apply Kd.V_alloc | apply Kd.V_drewN | apply Kd.V_drew)); exact HL231_0.out) (Kd.R_base ho0) hb); have n3_ := Aside0.mk (Kd.R_lower (Kd.R_newM (M := fun k_ => (w.heap.size ≤ k_)) ho0 (below_size (by repeat (first | (with_reducible first | exact HB.out | apply below_alloc | apply pw_below_drewN | apply below_drew1) | exact HB.out))) (fun k_ h_ => h_)) (below_size (by repeat (first | (with_reducible first | exact HB.out | apply below_alloc | apply pw_below_drewN | apply below_drew1) | exact HB.out)))); have n4_ := Aside0.mk (Kd.C_below (by repeat (first | (with_reducible exact HR231_0.out) | (with_reducible refine Kd.C_alloc ?_ _) | (with_reducible refine Kd.C_drewN ?_ _) | (with_reducible refine Kd.C_drew ?_) | exact HR231_0.out)) hb); have n5_ := Aside0.mk (below_step (by repeat (first | (with_reducible first | exact HB.out | apply below_alloc | apply pw_below_drewN | apply below_drew1) | exact HB.out)) hb); clear HO_5; clear HO_6; clear HL231_0; clear HR231_0; clear HB; have HO_5 := n0_; have HO_6 := n1_; have HL231_0 := n2_; have HO234 := n3_; have HR231_0 := n4_; have HB := n5_; clear n0_ n1_ n2_ n3_ n4_ n5_; (try clear hb); (try clear hb2); (try clear hk); (try clear hi); (try clear ho0); obtain ⟨Ao20, co20, eo20⟩ := Kd.R_slice HO234.out; subst eo20) | ((with_reducible refine gate_callee (f := 66) rfl ?_); refine goesL_ (some 28) rfl rfl Try.func66 (by kernel_rfl) rfl #[.slice Ao20 t232.length co20, .slice A1 l1.length c1] rfl (by (try simp only [List.map_toArray, List.map_cons, List.map_nil]); first | done | rfl | (simp only [List.length_drop, List.length_take]; rfl)) ?_; (with_reducible refine (spec_l15Same.calls kj6 _ _ t232 _ _ l1 true _ ?side1 ?side2 ?side3 ?side4 A15.out).mono ?_); (case side1 => repeat (first | exact (Kd.R_reads' HO234.out).2.2 | (with_reducible refine Kd.C_alloc ?_ _) | (with_reducible refine Kd.C_drewN ?_ _) | (with_reducible refine Kd.C_drew ?_))); (case side2 => exact (Kd.R_reads' HO234.out).2.1); (case side3 => repeat (first | exact (Kd.C_below HR1.out HB.out) | (with_reducible refine Kd.C_alloc ?_ _) | (with_reducible refine Kd.C_drewN ?_ _) | (with_reducible refine Kd.C_drew ?_))); (case side4 => exact HC1.out); rintro e w' ⟨rfl, ⟨nd, rfl⟩⟩; refine ⟨_, rfl, ?_⟩; have p236 : 0 ≤ (x7_1 : Int) := of_decide_eq_true (by first | (with_reducible assumption) | assumption); have q236 : x7_1 < (t228.length : Int) := of_decide_eq_true (by first | (with_reducible assumption) | assumption); obtain ⟨ad236, A236_0, c236_0, e236, hx236_0, hl236_0, hi236_0⟩ := at_T29 (Kd.N_reads' HO_6.out).2.2 x7_1 p236 q236; obtain rfl : ad231 = ad236 := (by injection e236); obtain ⟨ce236, hce236, hMe236, hcc236⟩ := Kd.N_get HO_6.out z29 x7_1 p236 (by first | exact q236 | exact of_decide_eq_true (by first | (with_reducible assumption) | assumption) | (have e_ := (Kd.N_reads' HO_6.out).1; omega)); obtain ⟨ua236_0, uc236_0, rfl, ul236_0, ge236_0⟩ := k29_openF hMe236; have hv236_0 := hcc236 0 _ rfl; rw [Nat.add_zero, show (k29).sz = 1 from rfl, Nat.mul_one] at hv236_0; replace hv236_0 := Option.some.inj (hv236_0.symm.trans hx236_0); injection hv236_0 with hva_ hvn_ hvc_; rw [hva_] at ge236_0; rw [hvc_] at ul236_0; have HL236_0 := Aside0.mk (show Kd.V (Kd.int .i64) 3 _ w.heap.size _ _ ((rd_T29 t228 x7_1).f0) from Kd.V_mk ul236_0 ge236_0); clear hva_ hvn_ hvc_ ge236_0 ul236_0; clear hcc236 hce236; have HR236_0 := Aside0.mk hi236_0; have HC236_0 := Aside0.mk hl236_0; clear hi236_0 hl236_0; replace p236 := eq_true p236; replace q236 := eq_true q236) | ((with_reducible refine gate_builtin (b := .append) (xs := #[.tmp 29, .tmp 34]) rfl ?_); (try (refine gate_guard (by rfl) ?_; dsimp only)); at_builtin; refine Kd.N_append k29 (w0 := w) w.heap.size rfl (.tmp 29) (.tmp 34) 26 29 (.agg #[(.slice none 0 0)]) 24 rfl Try.underlying26 info29 rfl (by decide) (by omega) u5 x5_1 (⟨(rd_T29 t228 x7_1).f0⟩ : S29) [.slice A236_0 ((rd_T29 t228 x7_1).f0).length c236_0] (fun k_ => (w.heap.size ≤ k_) ∧ some k_ ≠ (.slice (some ad231) t228.length co18 : Value).ownBlock ∧ some k_ ≠ (.slice Ao20 t232.length co20 : Value).ownBlock) (fun k_ => ((fun k_ => (w.heap.size ≤ k_) ∧ some k_ ≠ (.slice (some ad231) t228.length co18 : Value).ownBlock ∧ some k_ ≠ (.slice Ao20 t232.length co20 : Value).ownBlock)) k_ ∧ some k_ ≠ (u5 : Value).ownBlock) rfl rfl ?aP (fun _ hk => hk) ?aF ?aO ?aB ?aS ?aL ?_; (case aP => exact (k29_mkF _ _ (⟨(rd_T29 t228 x7_1).f0⟩ : S29) (Kd.V_reads' (Kd.V_mono (ok' := (fun k_ => ((fun k_ => (w.heap.size ≤ k_) ∧ some k_ ≠ (.slice (some ad231) t228.length co18 : Value).ownBlock ∧ some k_ ≠ (.slice Ao20 t232.length co20 : Value).ownBlock)) k_ ∧ some k_ ≠ (u5 : Value).ownBlock)) (Kd.V_drewN HL236_0.out nd) (fun k_ hk => ⟨⟨hk.1.1.1, ⟨hk.2, hk.1.2⟩⟩, hk.1.1.2⟩))).2.1 (Kd.V_F (Kd.V_mono (ok' := (fun k_ => ((fun k_ => (w.heap.size ≤ k_) ∧ some k_ ≠ (.slice (some ad231) t228.length co18 : Value).ownBlock ∧ some k_ ≠ (.slice Ao20 t232.length co20 : Value).ownBlock)) k_ ∧ some k_ ≠ (u5 : Value).ownBlock)) (Kd.V_drewN HL236_0.out nd) (fun k_ hk => ⟨⟨hk.1.1.1, ⟨hk.2, hk.1.2⟩⟩, hk.1.1.2⟩))))); (case aB => exact (by repeat (first | (with_reducible first | exact HB.out | apply below_alloc | apply pw_below_drewN | apply below_drew1) | exact HB.out))); (case aF => exact (fun k_ hk => ⟨(Nat.le_trans (below_size (by repeat (first | (with_reducible first | exact HB.out | apply below_alloc | apply pw_below_drewN | apply below_drew1) | exact HB.out))) hk), Kd.fresh' (Kd.N_lt (by (with_reducible repeat (first | apply Kd.N_alloc | apply Kd.N_drewN | apply Kd.N_drew)); exact HO_6.out)) k_ hk, Kd.fresh' (Kd.R_lt (by (with_reducible repeat (first | apply Kd.R_alloc | apply Kd.R_drewN | apply Kd.R_drew)); exact HO234.out)) k_ hk⟩)); (case aO => exact (by (with_reducible repeat (first | apply Kd.N_alloc | apply Kd.N_drewN | apply Kd.N_drew)); exact Kd.N_mono HO_5.out (fun _ hk => ⟨hk.1.1, ⟨hk.1.2, hk.2⟩⟩))); (case aS => exact (below_size (by repeat (first | (with_reducible first | exact HB.out | apply below_alloc | apply pw_below_drewN | apply below_drew1) | exact HB.out)))); (case aL => have := LMc17.out; omega); intro v238 w21 ho hb hg hat; rw [← Ny237.out] at ho; have n0_ := Aside0.mk (Kd.N_afterv (ok := (fun k_ => (w.heap.size ≤ k_) ∧ some k_ ≠ (.slice Ao20 t232.length co20 : Value).ownBlock)) (by (with_reducible repeat (first | apply Kd.N_alloc | apply Kd.N_drewN | apply Kd.N_drew)); exact Kd.N_mono HO_6.out (fun _ hk => ⟨⟨hk.1.1, hk.2⟩, hk.1.2⟩)) hg hat); have n1_ := Aside0.mk (Kd.V_afterv (ok := (fun k_ => (w.heap.size ≤ k_) ∧ some k_ ≠ (.slice (some ad231) t228.length co18 : Value).ownBlock ∧ some k_ ≠ (.slice Ao20 t232.length co20 : Value).ownBlock)) (by (with_reducible repeat (first | apply Kd.V_alloc | apply Kd.V_drewN | apply Kd.V_drew)); exact Kd.V_mono HL231_0.out (fun _ hk => ⟨⟨hk.1.1.1, ⟨hk.1.2, hk.2⟩⟩, hk.1.1.2⟩)) hg hat); have n2_ := Aside0.mk (Kd.R_over' (by (with_reducible repeat (first | apply Kd.R_alloc | apply Kd.R_drewN | apply Kd.R_drew)); exact HO234.out) (Kd.N_typed (by (with_reducible repeat (first | apply Kd.N_alloc | apply Kd.N_drewN | apply Kd.N_drew)); exact HO_5.out)) (by decide) hg); have n3_ := Aside0.mk (Kd.V_afterv (ok := (fun k_ => (w.heap.size ≤ k_) ∧ some k_ ≠ (.slice (some ad231) t228.length co18 : Value).ownBlock ∧ some k_ ≠ (.slice Ao20 t232.length co20 : Value).ownBlock)) (by (with_reducible repeat (first | apply Kd.V_alloc | apply Kd.V_drewN | apply Kd.V_drew)); exact Kd.V_mono HL236_0.out (fun _ hk => ⟨⟨hk.1.1.1, ⟨hk.2, hk.1.2⟩⟩, hk.1.1.2⟩)) hg hat); have n4_ := Aside0.mk (hb); have n5_ := Aside0.mk (ho); clear HO_6; clear HL231_0; clear HO234; clear HL236_0; clear HB; clear HO_5; have HO_6 := n0_; have HL231_0 := n1_; have HO234 := n2_; have HL236_0 := n3_; have HB := n4_; have HO239 := n5_; clear n0_ n1_ n2_ n3_ n4_ n5_; clear ho hb hg hat))
                    go_roundg kj6
                    case measure => have := HK1.out; have := HJ6.out; omega
                    case rel => exact ⟨(y237), (wrap64 (x7_1 + 1)), (by first | rfl | (simp; done) | (simp [*]; done)), H', ⟨by have := HK1.out; have := HJ6.out; omega⟩, ⟨by (with_reducible repeat (first | apply Kd.N_alloc | apply Kd.N_drewN | apply Kd.N_drew)); exact Kd.N_mono HO239.out (fun _ hk => ⟨hk.1, hk.2.1⟩)⟩, ⟨by (with_reducible repeat (first | apply Kd.N_alloc | apply Kd.N_drewN | apply Kd.N_drew)); exact Kd.N_mono HO_6.out (fun _ hk => ⟨hk.1.1, hk.2⟩)⟩, ⟨by repeat (first | (with_reducible first | exact HB.out | apply below_alloc | apply pw_below_drewN | apply below_drew1) | exact HB.out)⟩⟩
                  · rw [if_neg c17] at H
                    exact absurd H (by simp)
                · replace c16 := Bool.eq_false_iff.mpr c16
                  subst c16
                  have H1 : (spec_CirclesHeard.l0 kj6 l1 x5_1 t228 (wrap64 (x7_1 + 1))) = some r := by rw [if_neg (show ¬ (false = true) by decide)] at H; exact H
                  clear H
                  have H := H1
                  clear H1
                  have H' := Aside0.mk H
                  clear H
                  obtain ⟨Ao22, co22, eo22⟩ := Kd.N_slice HO_6.out
                  subst eo22
                  have p231 : 0 ≤ (x7_1 : Int) := of_decide_eq_true (by first | (with_reducible assumption) | assumption)
                  have q231 : x7_1 < (t228.length : Int) := of_decide_eq_true (by first | (with_reducible assumption) | assumption)
                  obtain ⟨ad231, A231_0, c231_0, e231, hx231_0, hl231_0, hi231_0⟩ := at_T29 (Kd.N_reads' HO_6.out).2.2 x7_1 p231 q231
                  cases e231
                  obtain ⟨ce231, hce231, hMe231, hcc231⟩ := Kd.N_get HO_6.out z29 x7_1 p231 (by first | exact q231 | exact of_decide_eq_true (by first | (with_reducible assumption) | assumption) | (have e_ := (Kd.N_reads' HO_6.out).1; omega))
                  obtain ⟨ua231_0, uc231_0, rfl, ul231_0, ge231_0⟩ := k29_openF hMe231
                  have hv231_0 := hcc231 0 _ rfl
                  rw [Nat.add_zero, show (k29).sz = 1 from rfl, Nat.mul_one] at hv231_0
                  replace hv231_0 := Option.some.inj (hv231_0.symm.trans hx231_0)
                  injection hv231_0 with hva_ hvn_ hvc_
                  rw [hva_] at ge231_0
                  rw [hvc_] at ul231_0
                  have HL231_0 := Aside0.mk (show Kd.V (Kd.int .i64) 3 _ w.heap.size _ _ ((rd_T29 t228 x7_1).f0) from Kd.V_mk ul231_0 ge231_0)
                  clear hva_ hvn_ hvc_ ge231_0 ul231_0
                  clear hcc231 hce231
                  have HR231_0 := Aside0.mk hi231_0
                  have HC231_0 := Aside0.mk hl231_0
                  clear hi231_0 hl231_0
                  replace p231 := eq_true p231
                  replace q231 := eq_true q231
                  go_wp2_with (first | ((with_reducible refine gate_callee (f := 67) rfl ?_); refine goesL_ (some 26) rfl rfl Try.func67 (by kernel_rfl) rfl #[.agg #[.slice A231_0 ((rd_T29 t228 x7_1).f0).length c231_0]] rfl (by (try simp only [List.map_toArray, List.map_cons, List.map_nil]); first | done | rfl | (simp only [List.length_drop, List.length_take]; rfl)) ?_; (with_reducible refine (spec_ThirdsOf.calls kj6 _ _ ((rd_T29 t228 x7_1).f0) t232 _ ?side1 ?side2 A14.out).mono ?_); (case side1 => repeat (first | exact (by repeat (first | (with_reducible exact HR231_0.out) | (with_reducible refine Kd.C_alloc ?_ _) | (with_reducible refine Kd.C_drewN ?_ _) | (with_reducible refine Kd.C_drew ?_) | exact HR231_0.out)) | (with_reducible refine Kd.C_alloc ?_ _) | (with_reducible refine Kd.C_drewN ?_ _) | (with_reducible refine Kd.C_drew ?_))); (case side2 => exact HC231_0.out); rintro e w23 ⟨v233, rfl, ho0, hb⟩; refine ⟨_, rfl, ?_⟩; have n0_ := Aside0.mk (Kd.N_elder' (by (with_reducible repeat (first | apply Kd.N_alloc | apply Kd.N_drewN | apply Kd.N_drew)); exact HO_5.out) (Kd.R_base ho0) hb); have n1_ := Aside0.mk (Kd.N_elder' (by (with_reducible repeat (first | apply Kd.N_alloc | apply Kd.N_drewN | apply Kd.N_drew)); exact HO_6.out) (Kd.R_base ho0) hb); have n2_ := Aside0.mk (Kd.V_elder' (by (with_reducible repeat (first | apply Kd.V_alloc | apply Kd.V_drewN | apply Kd.V_drew)); exact HL231_0.out) (Kd.R_base ho0) hb); have n3_ := Aside0.mk (Kd.R_lower (Kd.R_newM (M := fun k_ => (w.heap.size ≤ k_)) ho0 (below_size (by repeat (first | (with_reducible first | exact HB.out | apply below_alloc | apply pw_below_drewN | apply below_drew1) | exact HB.out))) (fun k_ h_ => h_)) (below_size (by repeat (first | (with_reducible first | exact HB.out | apply below_alloc | apply pw_below_drewN | apply below_drew1) | exact HB.out)))); have n4_ := Aside0.mk (Kd.C_below (by repeat (first | (with_reducible exact HR231_0.out) | (with_reducible refine Kd.C_alloc ?_ _) | (with_reducible refine Kd.C_drewN ?_ _) | (with_reducible refine Kd.C_drew ?_) | exact HR231_0.out)) hb); have n5_ := Aside0.mk (below_step (by repeat (first | (with_reducible first | exact HB.out | apply below_alloc | apply pw_below_drewN | apply below_drew1) | exact HB.out)) hb); clear HO_5; clear HO_6; clear HL231_0; clear HR231_0; clear HB; have HO_5 := n0_; have HO_6 := n1_; have HL231_0 := n2_; have HO234 := n3_; have HR231_0 := n4_; have HB := n5_; clear n0_ n1_ n2_ n3_ n4_ n5_; (try clear hb); (try clear hb2); (try clear hk); (try clear hi); (try clear ho0); obtain ⟨Ao24, co24, eo24⟩ := Kd.R_slice HO234.out; subst eo24) | ((with_reducible refine gate_callee (f := 66) rfl ?_); refine goesL_ (some 28) rfl rfl Try.func66 (by kernel_rfl) rfl #[.slice Ao24 t232.length co24, .slice A1 l1.length c1] rfl (by (try simp only [List.map_toArray, List.map_cons, List.map_nil]); first | done | rfl | (simp only [List.length_drop, List.length_take]; rfl)) ?_; (with_reducible refine (spec_l15Same.calls kj6 _ _ t232 _ _ l1 false _ ?side1 ?side2 ?side3 ?side4 A15.out).mono ?_); (case side1 => repeat (first | exact (Kd.R_reads' HO234.out).2.2 | (with_reducible refine Kd.C_alloc ?_ _) | (with_reducible refine Kd.C_drewN ?_ _) | (with_reducible refine Kd.C_drew ?_))); (case side2 => exact (Kd.R_reads' HO234.out).2.1); (case side3 => repeat (first | exact (Kd.C_below HR1.out HB.out) | (with_reducible refine Kd.C_alloc ?_ _) | (with_reducible refine Kd.C_drewN ?_ _) | (with_reducible refine Kd.C_drew ?_))); (case side4 => exact HC1.out); rintro e w' ⟨rfl, ⟨nd, rfl⟩⟩; refine ⟨_, rfl, ?_⟩))
                  go_roundg kj6
                  case measure => have := HK1.out; have := HJ6.out; omega
                  case rel => exact ⟨(x5_1), (wrap64 (x7_1 + 1)), (by first | rfl | (simp; done) | (simp [*]; done)), H', ⟨by have := HK1.out; have := HJ6.out; omega⟩, ⟨by (with_reducible repeat (first | apply Kd.N_alloc | apply Kd.N_drewN | apply Kd.N_drew)); exact Kd.N_mono HO_5.out (fun _ hk => ⟨hk.1.1, hk.1.2⟩)⟩, ⟨by (with_reducible repeat (first | apply Kd.N_alloc | apply Kd.N_drewN | apply Kd.N_drew)); exact Kd.N_mono HO_6.out (fun _ hk => ⟨hk.1.1, hk.1.2⟩)⟩, ⟨by repeat (first | (with_reducible first | exact HB.out | apply below_alloc | apply pw_below_drewN | apply below_drew1) | exact HB.out)⟩⟩
              · rw [if_neg c13] at H
                exact absurd H (by simp)
            · rw [if_neg c12] at H
              exact absurd H (by simp)
          · replace c11 := Bool.eq_false_iff.mpr c11
            subst c11
            have H1 : (some x5_1) = some r := by rw [if_neg (show ¬ (false = true) by decide)] at H; exact H
            clear H
            have H := H1
            clear H1
            obtain rfl := Option.some.inj H
            go_wp2
            go_ret
            exact ⟨_, by first | rfl | (simp [errW_none, errW_some] <;> rfl) | (simp [*, errW_none, errW_some] <;> rfl), by (with_reducible repeat (first | apply Kd.N_alloc | apply Kd.N_drewN | apply Kd.N_drew)); exact Kd.N_mono HO_5.out (fun _ hk => hk.1), by repeat (first | (with_reducible first | exact HB.out | apply below_alloc | apply pw_below_drewN | apply below_drew1) | exact HB.out)⟩

/-! ### laws_toIntS: function 42 -/
def laws_toIntS.l0 : Nat → List Int → List Int → Int → Option (List Int)
  | 0, _, _, _ => none
  | k + 1, x0, x3, x4 => if x4 < (x0.length : Int) then (if 0 ≤ x4 then (if x4 < (x3.length : Int) then (laws_toIntS.l0 k x0 (x3.set (x4 : Int).toNat (rd x0 x4)) (wrap64 (x4 + 1))) else (none)) else (none)) else (some x3)
def laws_toIntS.f (k : Nat) (l0 : List Int) : Option (List Int) := if 0 ≤ (l0.length : Int) then (if ((l0.length : Int) : Int).toNat ≤ 35184372088832 then (laws_toIntS.l0 k l0 (List.replicate ((l0.length : Int) : Int).toNat 0) 0) else (none)) else (none)
theorem laws_toIntS.mono_l : ∀ k, (∀ y0 y1 y2, LeO (laws_toIntS.l0 k y0 y1 y2) (laws_toIntS.l0 (k + 1) y0 y1 y2))
  | 0 => fun _ _ _ r h => by simp [laws_toIntS.l0] at h
  | k + 1 => by
    have ih0 := laws_toIntS.mono_l k
    · intro y0 y1 y2
      unfold laws_toIntS.l0
      repeat' first
      | (with_reducible exact ih0 _ _ _)
      | (with_reducible exact LeO.refl _)
      | (with_reducible exact LeO.none _)
      | (with_reducible refine LeO.ite ?_ ?_)
      | (with_reducible refine LeO.bind ?_ (fun _ => ?_))
      | exact ih0 _ _ _
      | exact LeO.none _
      | refine LeO.ite ?_ ?_
      | refine LeO.bind ?_ (fun _ => ?_)
theorem laws_toIntS.mono : ∀ a0 k, LeO (laws_toIntS.f k a0) (laws_toIntS.f (k + 1) a0) := by
  intro a0 k
  have ih0 := laws_toIntS.mono_l k
  unfold laws_toIntS.f
  repeat' first
      | (with_reducible exact ih0 _ _ _)
      | (with_reducible exact LeO.refl _)
      | (with_reducible exact LeO.none _)
      | (with_reducible refine LeO.ite ?_ ?_)
      | (with_reducible refine LeO.bind ?_ (fun _ => ?_))
      | exact ih0 _ _ _
      | exact LeO.none _
      | refine LeO.ite ?_ ?_
      | refine LeO.bind ?_ (fun _ => ?_)
set_option maxHeartbeats 8000000 in
set_option maxRecDepth 100000 in
theorem laws_toIntS.calls (k : Nat) (A0 : Option Addr) (c0 : Nat) (l0 : List Int) (r : List Int) (w : World) (hr0 : Kd.C (Kd.int .i64) w A0 l0.length l0) (hc0 : l0.length ≤ c0) (h : laws_toIntS.f k l0 = some r) :
    Calls Try.prog 42 #[.slice A0 l0.length c0] w fun e w' => ∃ v0_ : Value, e = .returned (v0_) ∧ Kd.R (Kd.int .i64) 3 w' w.heap.size (fun _ => True) v0_ r ∧ Below w.heap.size w w' := by
  have HR0 := Aside0.mk hr0
  have HC0 := Aside0.mk hc0
  clear hr0 hc0
  have HB := Aside0.mk (Below.refl w.heap.size w)
  have H : (if 0 ≤ (l0.length : Int) then (if ((l0.length : Int) : Int).toNat ≤ 35184372088832 then (laws_toIntS.l0 k l0 (List.replicate ((l0.length : Int) : Int).toNat 0) 0) else (none)) else (none)) = some r := h
  clear h
  by_cases c2 : 0 ≤ (l0.length : Int)
  · rw [if_pos c2] at H
    have c2b0 := eq_true c2
    have c2b1 : decide (0 ≤ (l0.length : Int)) = true := decide_eq_true c2
    clear c2
    by_cases c3 : ((l0.length : Int) : Int).toNat ≤ 35184372088832
    · rw [if_pos c3] at H
      have c3b0 := eq_true c3
      have c3b1 : decide (((l0.length : Int) : Int).toNat ≤ 35184372088832) = true := decide_eq_true c3
      clear c3
      obtain ⟨y240, hy240⟩ : ∃ y_ : List Int, y_ = (List.replicate ((l0.length : Int) : Int).toNat 0) := ⟨_, rfl⟩
      replace H : (laws_toIntS.l0 k l0 y240 0) = some r := by first | (rw [hy240]; with_reducible exact H) | (have H2_ := (Option.bind_some _ _).symm.trans H; rw [hy240]; with_reducible exact H2_) | (have H2_ := (Option.bind_some _ _).symm.trans H; with_reducible exact H2_) | with_reducible exact H | (rw [hy240]; exact H) | exact H
      have Ny240 := Aside0.mk hy240
      clear hy240
      have H' := Aside0.mk H
      clear H
      go_enter Try.func42, Try.ntmps42
      go_wp2_with (first | ((with_reducible refine gate_dst (N := 7) rfl ?_); refine Kd.R_make (Kd.int .i64) _ 3 rfl (N := 7) rfl 24 _ _ rfl (l0.length : Int) rfl rfl Try.underlying24 (.int .i64 0) 8 info3 rfl (by decide) (by omega) 0 (ok := fun _ => True) (okp := fun _ => True) rfl (fun _ hk => hk) trivial (of_decide_eq_true (by first | (with_reducible assumption) | assumption)) (Nat.le_trans (Nat.mul_le_mul_right _ (of_decide_eq_true (by first | (with_reducible assumption) | assumption) : (l0.length : Int).toNat ≤ 35184372088832)) (by omega)) (Below.refl _ _) (Nat.le_refl _) ?_; intro v241 w4 ho5 hb hg_ hnew_; clear hg_ hnew_; (first | rw [← Ny240.out] at ho5 | (simp only [Int.reduceToNat] at ho5; rw [← Ny240.out] at ho5)); have n0_ := Aside0.mk (Kd.R_lower ho5 (below_size (by repeat (first | (with_reducible first | exact HB.out | apply below_alloc | apply pw_below_drewN | apply below_drew1) | exact HB.out)))); have n1_ := Aside0.mk (below_step (by repeat (first | (with_reducible first | exact HB.out | apply below_alloc | apply pw_below_drewN | apply below_drew1) | exact HB.out)) hb); clear HB; have HO242 := n0_; have HB := n1_; clear n0_ n1_; clear hb ho5))
      go_loopg [4] k (fun kq v4 w' => ∃ (x3_1 : List Int) (x4_1 : Int), v4 = .int .i64 x4_1 ∧ Aside0 (laws_toIntS.l0 kq l0 x3_1 x4_1 = some r) ∧ Aside0 (kq ≤ k) ∧ Aside0 (Kd.R (Kd.int .i64) 3 w' w.heap.size (fun _ => True) v241 x3_1) ∧ Aside0 (Below w.heap.size w w'))
      case atStart => exact ⟨(y240), (0), (by first | rfl | (simp; done) | (simp [*]; done)), H', ⟨Nat.le_refl _⟩, ⟨by (with_reducible repeat (first | apply Kd.R_alloc | apply Kd.R_drewN | apply Kd.R_drew)); exact HO242.out⟩, ⟨by repeat (first | (with_reducible first | exact HB.out | apply below_alloc | apply pw_below_drewN | apply below_drew1) | exact HB.out)⟩⟩
      case round =>
        clear H'
        try clear c2
        try clear c2b0
        try clear c2b1
        try clear p2
        try clear c3
        try clear c3b0
        try clear c3b1
        try clear c4
        obtain ⟨x3_1, x4_1, rfl, HA, HK1, HO_3, HB⟩ := hrel
        cases gk with
        | zero => exact absurd HA.out (by simp [laws_toIntS.l0])
        | succ k1 =>
          have H := HA.out
          clear HA
          simp only [laws_toIntS.l0] at H
          by_cases c6 : x4_1 < (l0.length : Int)
          · rw [if_pos c6] at H
            have c6b0 : decide (x4_1 < (l0.length : Int)) = true := decide_eq_true c6
            clear c6
            by_cases c7 : 0 ≤ x4_1
            · rw [if_pos c7] at H
              have c7b0 : decide (0 ≤ x4_1) = true := decide_eq_true c7
              clear c7
              by_cases c8 : x4_1 < (x3_1.length : Int)
              · rw [if_pos c8] at H
                have c8b0 : decide (x4_1 < (x3_1.length : Int)) = true := decide_eq_true c8
                clear c8
                obtain ⟨y244, hy244⟩ : ∃ y_ : List Int, y_ = (x3_1.set (x4_1 : Int).toNat (rd l0 x4_1)) := ⟨_, rfl⟩
                replace H : (laws_toIntS.l0 k1 l0 y244 (wrap64 (x4_1 + 1))) = some r := by first | (rw [hy244]; with_reducible exact H) | (have H2_ := (Option.bind_some _ _).symm.trans H; rw [hy244]; with_reducible exact H2_) | (have H2_ := (Option.bind_some _ _).symm.trans H; with_reducible exact H2_) | with_reducible exact H | (rw [hy244]; exact H) | exact H
                have Ny244 := Aside0.mk hy244
                clear hy244
                have H' := Aside0.mk H
                clear H
                have p243 : 0 ≤ (x4_1 : Int) := of_decide_eq_true (by first | (with_reducible assumption) | assumption)
                have q243 : x4_1 < (l0.length : Int) := of_decide_eq_true (by first | (with_reducible assumption) | assumption)
                obtain ⟨ad243, e243, hx243_0⟩ := Kd.at_int HR0.out x4_1 p243 q243
                cases e243
                replace hx243_0 := (HB.out.cell (World.block_lt_of_cell? w _ hx243_0)).trans hx243_0
                replace p243 := eq_true p243
                replace q243 := eq_true q243
                have p9 : 0 ≤ (x4_1 : Int) := of_decide_eq_true (by first | (with_reducible assumption) | assumption)
                have q9 : (x4_1 : Int) < ((x3_1.length : Int) : Int) := of_decide_eq_true (by first | (with_reducible assumption) | assumption)
                obtain ⟨go9, co9, eo9, gb9, gl9, cl9, HG9⟩ := Kd.R_form HO_3.out (by omega)
                (first | cases eo9 | (injection eo9 with ea_ en_ ec_; (first | subst ea_ | (injection ea_ with ea_; subst ea_)); subst ec_; clear en_))
                have GB9 := Aside0.mk gb9
                have GG9 := Aside0.mk HG9
                clear gb9 gl9 HG9
                obtain ⟨hx9_0, hf9_0⟩ := Kd.R_celln 0 HO_3.out (x4_1 : Int) p9 q9
                replace p9 := eq_true p9
                replace q9 := eq_true q9
                have HP10 := Kd.R_putg HO_3.out (x4_1 : Int) (rd l0 x4_1)
                go_wp2_with (first | ((with_reducible refine gate_store (t := 3) (p := 20) rfl ?_); refine store_event (t := 3) (p := 20) (v := ?vo_w11) (w1 := (wr.setCell ⟨go9, (x4_1 : Int).toNat, none⟩ (.int .i64 (rd l0 x4_1)))) ?hg ?ho ?hn ?hr ?_; (case ho => rfl); (case hg => rfl); (case hn => rfl); (case hr => first | (go_simp; done) | (go_simp; rfl)); intro w11 hw; have hg : wr.grownBy w11 (some go9) := (by rw [hw]; exact HP10.2); have hp_ : Kd.R (Kd.int .i64) 3 w11 w.heap.size (fun _ => True) (.slice (some ⟨go9, 0, none⟩) x3_1.length co9) y244 := (by rw [hw, Ny244.out]; exact HP10.1); clear HP10; have n0_ := Aside0.mk (hp_); have n1_ := Aside0.mk ((by rw [hw]; exact below_set (HB.out) GB9.out : Below w.heap.size w w11)); clear HO_3; clear HB; have HO_3 := n0_; have HB := n1_; clear n0_ n1_; clear hg hw hp_))
                go_roundg k1
                case measure => have := HK1.out; omega
                case rel => exact ⟨(y244), (wrap64 (x4_1 + 1)), (by first | rfl | (simp; done) | (simp [*]; done)), H', ⟨by have := HK1.out; omega⟩, ⟨by (with_reducible repeat (first | apply Kd.R_alloc | apply Kd.R_drewN | apply Kd.R_drew)); exact HO_3.out⟩, ⟨by repeat (first | (with_reducible first | exact HB.out | apply below_alloc | apply pw_below_drewN | apply below_drew1) | exact HB.out)⟩⟩
              · rw [if_neg c8] at H
                exact absurd H (by simp)
            · rw [if_neg c7] at H
              exact absurd H (by simp)
          · rw [if_neg c6] at H
            have c6b0 : decide (x4_1 < (l0.length : Int)) = false := decide_eq_false c6
            clear c6
            obtain rfl := Option.some.inj H
            go_wp2
            go_ret
            exact ⟨_, by first | rfl | (simp [errW_none, errW_some] <;> rfl) | (simp [*, errW_none, errW_some] <;> rfl), by (with_reducible repeat (first | apply Kd.R_alloc | apply Kd.R_drewN | apply Kd.R_drew)); exact HO_3.out, by repeat (first | (with_reducible first | exact HB.out | apply below_alloc | apply pw_below_drewN | apply below_drew1) | exact HB.out)⟩
    · rw [if_neg c3] at H
      exact absurd H (by simp)
  · rw [if_neg c2] at H
    exact absurd H (by simp)

end Go.Proofs.Ytdcpbnddnbeofaa.PFnExactCirclesHeard
