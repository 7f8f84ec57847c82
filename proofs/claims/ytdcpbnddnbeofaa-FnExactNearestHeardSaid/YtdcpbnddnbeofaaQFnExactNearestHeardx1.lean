/- Functions that the law FnExactNearestHeard reaches, each as a Lean function with the proof that the Go code comes to its answers. Conditions: none. Printed by the kit's print, repaired by a program of this session. -/
import Derived.Test.YtdcpbnddnbeofaaQFnExactNearestHeardx0
namespace Go.Proofs.Ytdcpbnddnbeofaa.PFnExactNearestHeard
open Go.RowKit Go.Proofs.YtdcpbnddnbeofaaW.PrintWords Go.Proofs.YtdcpbnddnbeofaaW.PrintLast Go.Proofs.YtdcpbnddnbeofaaW.PrintMore
attribute [local go_sem] max2_int min2_int max_two min_two max_three min_three max_four min_four   -- for this text's walks alone
set_option linter.unusedVariables false
set_option linter.unusedSimpArgs false

/-! ### impl_spread: function 50 (by hand) -/
def impl_spread.f : Nat → List Int → Int → Int → List (S29) → Option (List (S29))
  | 0, _, _, _, _ => none
  | k + 1, l1, a2, a3, xs => if (l1.length : Int) = 12 then (if a2 = 0 then (if xs.length < 1000000 then some (xs ++ [(⟨l1⟩ : S29)]) else none) else some xs) else (if 12 - (l1.length : Int) < a2 then some xs else ((impl_spread.f k (l1 ++ [0]) a2 a3 xs).bind fun t => (if 0 < a2 then impl_spread.f k (l1 ++ [a3]) (a2 - 1) a3 t else some t)))
/-- What a call of spread leaves: the slice behind the pointer reads as r; but for the pointer's block and the slice's own nothing that was there has changed. -/
def SpreadEnd (g : Nat) (v : Value) (w0 w : World) (r : List (S29)) (w' : World) : Prop :=
  ∃ v' : Value, w'.heap[g]? = some (.cells #[v'] 26 (0, 0)) ∧ Kd.S k29 29 w' w0.heap.size (fun k_ => w0.heap.size ≤ k_ ∧ k_ ≠ g) v' r ∧ Below w0.heap.size w0 w' ∧ Kept w w' (fun k_ => k_ = g ∨ some k_ = v.ownBlock) ∧ (v'.ownBlock = v.ownBlock ∨ ∃ b, v'.ownBlock = some b ∧ w.heap.size ≤ b)
theorem below_on {w0 w w' : World} (hB : Below w0.heap.size w0 w) (hW : Below w.heap.size w w') : Below w0.heap.size w0 w' :=
  hB.trans ⟨hW.os, hW.tape, hW.output, hW.size, fun i hi => hW.block i (Nat.lt_of_lt_of_le hi hB.size)⟩
theorem SpreadEnd.same {g : Nat} {v : Value} {w0 w w' : World} {xs : List (S29)} (hg : w.heap[g]? = some (.cells #[v] 26 (0, 0))) (hN : Kd.S k29 29 w w0.heap.size (fun k_ => w0.heap.size ≤ k_ ∧ k_ ≠ g) v xs) (hB : Below w0.heap.size w0 w) (hW : Below w.heap.size w w') : SpreadEnd g v w0 w xs w' :=
  ⟨v, blk_below hg hW, Kd.S_below hN hW, below_on hB hW, Kept.of_below hW _, .inl rfl⟩
theorem SpreadEnd.seq {g : Nat} {v v' : Value} {w0 w W1 W2 W3 W4 : World} {r : List (S29)} (hW1 : Below w.heap.size w W1) (k1 : Kept W1 W2 (fun k_ => k_ = g ∨ some k_ = v.ownBlock)) (at1 : v'.ownBlock = v.ownBlock ∨ ∃ b, v'.ownBlock = some b ∧ W1.heap.size ≤ b)
    (hW3 : Below W2.heap.size W2 W3) (E2 : SpreadEnd g v' w0 W3 r W4) : SpreadEnd g v w0 w r W4 := by
  obtain ⟨v2, h1, h2, h3, h4, h5⟩ := E2
  have s1 : w.heap.size ≤ W1.heap.size := hW1.size
  have s2 : W1.heap.size ≤ W2.heap.size := k1.1
  have s3 : W2.heap.size ≤ W3.heap.size := hW3.size
  have ka : Kept w W3 (fun k_ => k_ = g ∨ some k_ = v.ownBlock) := ((Kept.of_below hW1 (fun k_ => k_ = g ∨ some k_ = v.ownBlock)).then_ k1 (fun k hk => .inl hk)).below hW3
  refine ⟨v2, h1, h2, h3, ka.then_ h4 (fun k hk => ?_), ?_⟩
  · rcases hk with hk | hk
    · exact .inl (.inl hk)
    · rcases at1 with h | ⟨b, hb, hle⟩
      · exact .inl (.inr (hk.trans h))
      · rw [hb] at hk; injection hk with hk; right; omega
  · rcases h5 with h | ⟨b, hb, hle⟩
    · rcases at1 with h' | ⟨b, hb, hle⟩
      · exact .inl (h.trans h')
      · exact .inr ⟨b, h.trans hb, by omega⟩
    · exact .inr ⟨b, hb, by omega⟩
theorem SpreadEnd.at {g : Nat} {v : Value} {w0 w W1 W2 : World} {r : List (S29)} (hW1 : Below w.heap.size w W1) (E : SpreadEnd g v w0 W1 r W2) : SpreadEnd g v w0 w r W2 := by
  obtain ⟨v2, h1, h2, h3, h4, h5⟩ := E
  have s1 : w.heap.size ≤ W1.heap.size := hW1.size
  refine ⟨v2, h1, h2, h3, (Kept.of_below hW1 (fun k_ => k_ = g ∨ some k_ = v.ownBlock)).then_ h4 (fun k hk => .inl hk), ?_⟩
  rcases h5 with h | ⟨b, hb, hle⟩
  · exact .inl h
  · exact .inr ⟨b, hb, by omega⟩
theorem infoC : (Try.prog.info? 29).map (fun i => (i.zero, i.size, i.bytes)) = some (some (.agg #[(.slice none 0 0)]), 1, 24) := by kernel_rfl
theorem infoI : (Try.prog.info? 3).map (fun i => (i.zero, i.size, i.bytes)) = some (some (.int .i64 0), 1, 8) := by kernel_rfl
set_option maxHeartbeats 8000000 in
set_option maxRecDepth 100000 in
/-- The last place: the list is whole; it is appended if nothing is left to spread. -/
theorem impl_spread.leaf (g : Nat) (A1 : Option Addr) (c1 : Nat) (l1 : List Int) (a3 : Int) (v : Value) (xs : List (S29)) (w0 w : World) (ok1 : Nat → Prop)
    (hg : w.heap[g]? = some (.cells #[v] 26 (0, 0))) (hgb : w0.heap.size ≤ g) (hN : Kd.S k29 29 w w0.heap.size (fun k_ => w0.heap.size ≤ k_ ∧ k_ ≠ g) v xs) (hB : Below w0.heap.size w0 w)
    (hr1 : Kd.F (Kd.int .i64) w ok1 A1 l1.length l1) (hc1 : l1.length ≤ c1) (hl1 : l1.length = 12) (hxs : xs.length < 1000000) :
    Calls Try.prog 50 #[.pointer (some ⟨g, 0, none⟩), .slice A1 l1.length c1, .int .i64 0, .int .i64 a3] w fun e w' => e = .returned (.tuple #[]) ∧ SpreadEnd g v w0 w (xs ++ [(⟨l1⟩ : S29)]) w' := by
  have hu29 := Try.underlying29
  have HG := Aside0.mk hg
  have HN := Aside0.mk hN
  have HF := Aside0.mk hr1
  have HC := Aside0.mk hc1
  have HB := Aside0.mk hB
  have HW := Aside0.mk (Below.refl w.heap.size w)
  have HGB := Aside0.mk hgb
  have HX := Aside0.mk hxs
  obtain ⟨ye, hye⟩ : ∃ y_ : List Int, y_ = ([] : List Int) := ⟨_, rfl⟩
  have Nye := Aside0.mk hye
  clear hye
  obtain ⟨yl, hyl⟩ : ∃ y_ : List Int, y_ = ye ++ l1 := ⟨_, rfl⟩
  have Nyl := Aside0.mk hyl
  clear hyl
  have c4b0 : ((l1.length : Int) == 12) = true := beq_iff_eq.mpr (by omega)
  have HL := Aside0.mk hl1
  have hglt := Aside0.mk (blk_lt hg)
  clear hg hN hr1 hc1 hB hgb hxs hl1
  go_enter Try.func50, Try.ntmps50
  go_wp2
  refine start_ (n := 12) (S := fun w' => w'.cell? ⟨g, 0, none⟩ = some v) (ds := [11]) #[false, false, false, false, false, false, false, false, false, false, false, false] (by kernel_rfl) rfl rfl ((blk_cell HG.out 0).trans rfl) (fun hHeld => ?_)
  generalize hwd : w.drew = wd at hHeld ⊢
  have HWd : Aside0 (Below w.heap.size w wd) := ⟨hwd ▸ below_drew1 HW.out⟩
  have HGd : Aside0 (wd.heap[g]? = some (.cells #[v] 26 (0, 0))) := ⟨blk_below HG.out HWd.out⟩
  clear hwd
  refine pure_ (i := 0) (N := some 14) (v := ?_) (a' := ?_) #[true, false, false, false, false, false, false, false, false, false, false, false] rfl rfl (by kernel_rfl) (fun _ _ _ h => h) (Or.inl ⟨by rfl, ?_⟩) ?_ ?_
  rotate_left
  · intro w'
    go_simp
    with_reducible rfl
  rotate_left
  · simp only [Act.put, List.setIfInBounds_toArray, List.set_cons_zero, List.set_cons_succ, i64_w, i32_w]
    rfl
  refine pure_ (i := 1) (N := some 15) (v := ?_) (a' := ?_) #[true, true, false, false, false, false, false, false, false, false, false, false] rfl rfl (by kernel_rfl) (fun _ _ _ h => h) (Or.inl ⟨by rfl, ?_⟩) ?_ ?_
  rotate_left
  · intro w'
    go_simp
    with_reducible rfl
  rotate_left
  · simp only [Act.put, List.setIfInBounds_toArray, List.set_cons_zero, List.set_cons_succ, i64_w, i32_w]
    rfl
  refine pure_ (i := 5) (N := some 19) (v := ?_) (a' := ?_) #[true, true, false, false, false, true, false, false, false, false, false, false] rfl rfl (by kernel_rfl) (fun _ _ _ h => h) (Or.inl ⟨by rfl, ?_⟩) ?_ ?_
  rotate_left
  · intro w'
    go_simp
    with_reducible rfl
  rotate_left
  · simp only [Act.put, List.setIfInBounds_toArray, List.set_cons_zero, List.set_cons_succ, i64_w, i32_w]
    rfl
  refine pure_ (i := 2) (N := some 16) (v := ?_) (a' := ?_) #[true, true, true, false, false, true, false, false, false, false, false, false] rfl rfl (by kernel_rfl) (fun _ _ _ h => h) (Or.inl ⟨by rfl, ?_⟩) ?_ ?_
  rotate_left
  · intro w'
    go_simp
    with_reducible rfl
  rotate_left
  · simp only [Act.put, List.setIfInBounds_toArray, List.set_cons_zero, List.set_cons_succ, i64_w, i32_w]
    rfl
  refine take_ (i := 3) (N := some 17) (v := ?_) (a' := ?_) #[true, true, true, true, false, true, false, false, false, false, false, false] rfl rfl (by kernel_rfl) (fun _ _ _ h => h) (Or.inl ⟨by rfl, ?_⟩) hHeld ?_ ?_
  rotate_left
  · rintro w' s0
    go_simp
    with_reducible rfl
  rotate_left
  · simp only [Act.put, List.setIfInBounds_toArray, List.set_cons_zero, List.set_cons_succ, i64_w, i32_w]
    rfl
  refine one_ (i := 4) (N := some 18) #[true, true, true, true, true, true, false, false, false, false, false, false] rfl rfl (by kernel_rfl) (by decide) (fun K hK => ?_)
  refine Kd.R_lit_step (Kd.int .i64) _ 3 ?hg (N := 18) ?hd (xs := ([] : List Int)) (inner := []) (ok := fun _ => True) (okp := fun _ => True) ?hr ?hp (fun _ hk => hk) trivial (Below.refl _ _) (Nat.le_refl _) (by simp) ?_; (case hd => rfl); (case hg => rfl); (case hr => first | (go_simp; done) | (go_simp; rfl)); (case hp => exact (Reps.none _ _))
  intro v18 w18 ho hb hg_ hnew_
  clear hg_ hnew_
  (first | rw [← Nye.out] at ho | (simp only [Int.reduceToNat] at ho; rw [← Nye.out] at ho))
  have n0_ := Aside0.mk (Kd.R_lower ho HWd.out.size)
  have n1_ := Aside0.mk (below_step HWd.out hb)
  clear hb ho
  have HO1 := n0_
  have HW1 := n1_
  clear n0_ n1_
  have hc1_ := (blk_cell (blk_below HG.out HW1.out) 0).trans rfl
  refine hK.out _ _ hc1_ (fun hHeld => ?_)
  clear hK K
  refine norm_ (a' := ?_) ?_ ?_
  rotate_left
  · show Act.put _ (some 18) _ = _
    simp only [Act.put, List.setIfInBounds_toArray, List.set_cons_zero, List.set_cons_succ, i64_w, i32_w]
    rfl
  refine one_ (i := 6) (N := some 20) #[true, true, true, true, true, true, true, false, false, false, false, false] rfl rfl (by kernel_rfl) (by decide) (fun K hK => ?_)
  refine Kd.R_append_rows_step (Kd.int .i64) (w0 := w) w.heap.size (by rfl) (.tmp 18) (.tmp 19) 24 3 (.int .i64 0) 8 rfl Try.underlying24 infoI rfl (by decide) (by omega) v18 ye l1 _ _ _ (fun _ => True) (fun _ => False) rfl rfl ?aO ?aR (fun _ _ h => h) (fun _ h => h.elim) ?aF ?aB ?aS ?aL ?_
  (case aR => exact Kd.C_below (Kd.F_now HF.out) HW1.out)
  (case aB => exact HW1.out)
  (case aF => exact (fun _ _ => trivial))
  (case aO => exact HO1.out)
  (case aS => exact HW1.out.size)
  (case aL => have h1_ := HL.out; have h2_ := Nye.out; rw [h2_]; simp only [List.length_nil]; omega)
  intro v20 w20 ho hb hg hat
  rw [← Nyl.out] at ho
  have HW2 := Aside0.mk hb
  have HO2 := Aside0.mk ho
  clear ho hb hg hat
  obtain ⟨A2, c2, e2⟩ := Kd.R_slice HO2.out
  subst e2
  have hc2_ := (blk_cell (blk_below HG.out HW2.out) 0).trans rfl
  refine hK.out _ _ hc2_ (fun hHeld => ?_)
  clear hK K
  refine norm_ (a' := ?_) ?_ ?_
  rotate_left
  · show Act.put _ (some 20) _ = _
    simp only [Act.put, List.setIfInBounds_toArray, List.set_cons_zero, List.set_cons_succ, i64_w, i32_w]
    rfl
  refine pure_ (i := 7) (N := some 21) (v := ?_) (a' := ?_) #[true, true, true, true, true, true, true, true, false, false, false, false] rfl rfl (by kernel_rfl) (fun _ _ _ h => h) (Or.inl ⟨by rfl, ?_⟩) ?_ ?_
  rotate_left
  · intro w'
    go_simp
    with_reducible rfl
  rotate_left
  · simp only [Act.put, List.setIfInBounds_toArray, List.set_cons_zero, List.set_cons_succ, i64_w, i32_w]
    rfl
  refine one_ (i := 8) (N := some 22) #[true, true, true, true, true, true, true, true, true, false, false, false] rfl rfl (by kernel_rfl) (by decide) (fun K hK => ?_)
  refine value_ (w1 := ?_) (v := ?_) (by rfl) rfl ?_ ?_
  rotate_left 2
  · go_simp
    constructor
    · rfl
    · rfl
  have hc3_ := (blk_cell (blk_alloc (blk_below HG.out HW2.out) (.cells #[.slice A2 yl.length c2] 29 (0, 0))) 0).trans rfl
  refine hK.out _ _ hc3_ (fun hHeld => ?_)
  clear hK K
  refine norm_ (a' := ?_) ?_ ?_
  rotate_left
  · show Act.put _ (some 22) _ = _
    simp only [Act.put, List.setIfInBounds_toArray, List.set_cons_zero, List.set_cons_succ, i64_w, i32_w]
    rfl
  refine one_ (i := 9) (N := some 23) #[true, true, true, true, true, true, true, true, true, true, false, false] rfl rfl (by kernel_rfl) (by decide) (fun K hK => ?_)
  have hNl := Kd.S_lt HN.out
  have hBs := HB.out.size
  have hgl := hglt.out
  have hokp : ∀ k_, w.heap.size ≤ k_ → (w0.heap.size ≤ k_ ∧ k_ ≠ g) ∧ some k_ ≠ v.ownBlock := fun k_ hk => ⟨⟨Nat.le_trans hBs hk, by omega⟩, fun he => by have := hNl k_ he.symm; omega⟩
  have HP := Aside0.mk hokp
  clear hNl hBs hgl hokp
  refine Kd.S_append_step k29 (w0 := w0) w0.heap.size (by rfl) (.tmp 17) (.tmp 22) 26 29 (.agg #[(.slice none 0 0)]) 24 rfl Try.underlying26 infoC rfl (by decide) (by omega) v xs (⟨yl⟩ : S29) [.slice A2 yl.length c2] (fun k_ => w0.heap.size ≤ k_ ∧ k_ ≠ g) (fun k_ => w.heap.size ≤ k_) rfl rfl ?aP HP.out ?aF ?aO ?aB ?aS ?aL ?_
  (case aP => exact k29_mkM _ _ _ (⟨yl⟩ : S29) (Kd.R_lower (Kd.R_mono (ok' := (fun k_ => w.heap.size ≤ k_)) (Kd.R_bound HO2.out) (fun _ hk => hk.2.1)) HB.out.size))
  (case aF => exact fun k_ hk => (HP.out k_ (Nat.le_trans HW2.out.size hk)).1)
  (case aO => exact Kd.S_below (Kd.S_mono (Kd.S_bound HN.out) (fun k_ hk => ⟨hk.1, Nat.not_le.2 hk.2.2.1⟩)) HW2.out)
  (case aB => exact below_on HB.out HW2.out)
  (case aS => exact Nat.le_trans HB.out.size HW2.out.size)
  (case aL => have h1_ := HX.out; omega)
  intro v23 w23 ho hb hg hat
  have HO3 := Aside0.mk ho
  have HB3 := Aside0.mk hb
  have HG3 := Aside0.mk (blk_grown (blk_below HG.out HW2.out) hg (Kd.S_away HN.out (fun k_ hk => hk.2)))
  have HK3 := Aside0.mk (Kept.of_grown (S := fun k_ => k_ = g ∨ some k_ = v.ownBlock) hg (Kept.of_below HW2.out _) (fun k_ hk => .inl (.inr hk.symm)))
  have HT3 : Aside0 (v23.ownBlock = v.ownBlock ∨ ∃ b, v23.ownBlock = some b ∧ w.heap.size ≤ b) := ⟨hat.imp_right (fun ⟨b, h1, h2⟩ => ⟨b, h1, Nat.le_trans HW2.out.size h2⟩)⟩
  clear ho hb hg hat
  obtain ⟨A3, c3, e3⟩ := Kd.S_slice HO3.out
  subst e3
  have hc4_ := (blk_cell HG3.out 0).trans rfl
  refine hK.out _ _ hc4_ (fun hHeld => ?_)
  clear hK K
  refine norm_ (a' := ?_) ?_ ?_
  rotate_left
  · show Act.put _ (some 23) _ = _
    simp only [Act.put, List.setIfInBounds_toArray, List.set_cons_zero, List.set_cons_succ, i64_w, i32_w]
    rfl
  refine pure_ (i := 10) (N := some 24) (v := ?_) (a' := ?_) #[true, true, true, true, true, true, true, true, true, true, true, false] rfl rfl (by kernel_rfl) (fun _ _ _ h => h) (Or.inl ⟨by rfl, ?_⟩) ?_ ?_
  rotate_left
  · intro w'
    go_simp
    with_reducible rfl
  rotate_left
  · simp only [Act.put, List.setIfInBounds_toArray, List.set_cons_zero, List.set_cons_succ, i64_w, i32_w]
    rfl
  refine last_ (i := 11) (N := none) #[true, true, true, true, true, true, true, true, true, true, true, true] rfl rfl (by kernel_rfl) (by decide) (fun K hK => ?_)
  have hs_ : w23.cell? ⟨g, 0, none⟩ = some v := (blk_cell HG3.out 0).trans rfl
  have hfs_ := blk_frozen HG3.out 0
  refine skip_ (w1 := ?_) (by rfl) rfl ?_ ?_
  rotate_left
  · go_simp
    rfl
  refine hK.out _ _ ?_
  clear hK K
  refine done_ (by kernel_rfl) ?_
  try go_wp2
  refine bodyPost_ret (results_none rfl _ _ _) rfl ?_
  rw [show xs.length + 1 = (xs ++ [(⟨yl⟩ : S29)]).length by simp]
  refine ⟨rfl, _, blk_put (cs := #[v]) HG3.out 0 _ rfl, ?_, Below.setCell HB3.out (p := ⟨g, 0, none⟩) HGB.out _, Kept.setCell HK3.out (p := ⟨g, 0, none⟩) (.inl (.inl rfl)) _, HT3.out⟩
  have hyl : yl = l1 := by rw [Nyl.out, Nye.out]; rfl
  rw [← hyl]
  exact Kd.S_far (p := ⟨g, 0, none⟩) HO3.out (fun k_ hk => hk.2) _

set_option maxHeartbeats 8000000 in
set_option maxRecDepth 100000 in
theorem impl_spread.none12 (g : Nat) (A1 : Option Addr) (c1 : Nat) (l1 : List Int) (a2 a3 : Int) (v : Value) (xs : List (S29)) (w0 w : World) (ok1 : Nat → Prop)
    (hg : w.heap[g]? = some (.cells #[v] 26 (0, 0))) (hgb : w0.heap.size ≤ g) (hN : Kd.S k29 29 w w0.heap.size (fun k_ => w0.heap.size ≤ k_ ∧ k_ ≠ g) v xs) (hB : Below w0.heap.size w0 w)
    (hr1 : Kd.F (Kd.int .i64) w ok1 A1 l1.length l1) (hok1 : ∀ k_, ok1 k_ → k_ ≠ g ∧ some k_ ≠ v.ownBlock) (hc1 : l1.length ≤ c1) (hl1 : l1.length = 12) (h2 : ¬ a2 = 0) :
    Calls Try.prog 50 #[.pointer (some ⟨g, 0, none⟩), .slice A1 l1.length c1, .int .i64 a2, .int .i64 a3] w fun e w' => e = .returned (.tuple #[]) ∧ SpreadEnd g v w0 w xs w' := by
  have c4b0 : ((l1.length : Int) == 12) = true := beq_iff_eq.mpr (by omega)
  have c5b0 : (a2 == 0) = false := beq_eq_false_iff_ne.mpr h2
  have HG := Aside0.mk hg
  have HN := Aside0.mk hN
  have HF := Aside0.mk hr1
  have HK := Aside0.mk hok1
  have HC := Aside0.mk hc1
  have HB := Aside0.mk hB
  have HGB := Aside0.mk hgb
  have HW := Aside0.mk (Below.refl w.heap.size w)
  clear hg hN hr1 hok1 hc1 hB hgb
  clear hl1 h2
  go_enter Try.func50, Try.ntmps50
  go_wp2
  refine bodyPost_ret (results_none rfl _ _ _) rfl ?_
  exact ⟨rfl, SpreadEnd.same HG.out HN.out HB.out (by repeat (first | (with_reducible first | exact HW.out | apply below_alloc | apply pw_below_drewN | apply below_drew1) | exact HW.out))⟩

set_option maxHeartbeats 8000000 in
set_option maxRecDepth 100000 in
theorem impl_spread.many (g : Nat) (A1 : Option Addr) (c1 : Nat) (l1 : List Int) (a2 a3 : Int) (v : Value) (xs : List (S29)) (w0 w : World) (ok1 : Nat → Prop)
    (hg : w.heap[g]? = some (.cells #[v] 26 (0, 0))) (hgb : w0.heap.size ≤ g) (hN : Kd.S k29 29 w w0.heap.size (fun k_ => w0.heap.size ≤ k_ ∧ k_ ≠ g) v xs) (hB : Below w0.heap.size w0 w)
    (hr1 : Kd.F (Kd.int .i64) w ok1 A1 l1.length l1) (hok1 : ∀ k_, ok1 k_ → k_ ≠ g ∧ some k_ ≠ v.ownBlock) (hc1 : l1.length ≤ c1) (hl1 : l1.length ≤ 12) (hl2 : ¬ (l1.length : Int) = 12) (h2 : 12 - (l1.length : Int) < a2) (h2' : a2 ≤ 12) :
    Calls Try.prog 50 #[.pointer (some ⟨g, 0, none⟩), .slice A1 l1.length c1, .int .i64 a2, .int .i64 a3] w fun e w' => e = .returned (.tuple #[]) ∧ SpreadEnd g v w0 w xs w' := by
  have c4b0 : ((l1.length : Int) == 12) = false := beq_eq_false_iff_ne.mpr hl2
  have c5b0 : decide (12 - (l1.length : Int) < a2) = true := decide_eq_true h2
  have HG := Aside0.mk hg
  have HN := Aside0.mk hN
  have HF := Aside0.mk hr1
  have HK := Aside0.mk hok1
  have HC := Aside0.mk hc1
  have HB := Aside0.mk hB
  have HGB := Aside0.mk hgb
  have HW := Aside0.mk (Below.refl w.heap.size w)
  clear hg hN hr1 hok1 hc1 hB hgb
  have hlz : (l1.length : Int) ≤ 12 := by omega
  clear hl2 h2
  go_enter Try.func50, Try.ntmps50
  go_wp2
  refine bodyPost_ret (results_none rfl _ _ _) rfl ?_
  exact ⟨rfl, SpreadEnd.same HG.out HN.out HB.out (by repeat (first | (with_reducible first | exact HW.out | apply below_alloc | apply pw_below_drewN | apply below_drew1) | exact HW.out))⟩

set_option maxHeartbeats 8000000 in
set_option maxRecDepth 100000 in
theorem impl_spread.one (g : Nat) (A1 : Option Addr) (c1 : Nat) (l1 : List Int) (a2 a3 : Int) (v : Value) (xs : List (S29)) (w0 w : World) (ok1 : Nat → Prop)
    (hg : w.heap[g]? = some (.cells #[v] 26 (0, 0))) (hgb : w0.heap.size ≤ g) (hN : Kd.S k29 29 w w0.heap.size (fun k_ => w0.heap.size ≤ k_ ∧ k_ ≠ g) v xs) (hB : Below w0.heap.size w0 w)
    (hr1 : Kd.F (Kd.int .i64) w ok1 A1 l1.length l1) (hok1 : ∀ k_, ok1 k_ → k_ ≠ g ∧ some k_ ≠ v.ownBlock) (hc1 : l1.length ≤ c1) (hl1 : l1.length < 12) (h2 : ¬ 12 - (l1.length : Int) < a2) (h0 : 0 ≤ a2) (h2' : a2 ≤ 12) (t : List (S29))
    (ih1 : ∀ (W : World) (A : Option Addr) (c : Nat) (ok : Nat → Prop) (y : List Int), y = l1 ++ [0] → W.heap[g]? = some (.cells #[v] 26 (0, 0)) → Kd.S k29 29 W w0.heap.size (fun k_ => w0.heap.size ≤ k_ ∧ k_ ≠ g) v xs → Below w0.heap.size w0 W →
      Kd.F (Kd.int .i64) W ok A y.length y → (∀ k_, ok k_ → k_ ≠ g ∧ some k_ ≠ v.ownBlock) → y.length ≤ c → Calls Try.prog 50 #[.pointer (some ⟨g, 0, none⟩), .slice A y.length c, .int .i64 a2, .int .i64 a3] W fun e w' => e = .returned (.tuple #[]) ∧ SpreadEnd g v w0 W t w') (h3 : ¬ 0 < a2) :
    Calls Try.prog 50 #[.pointer (some ⟨g, 0, none⟩), .slice A1 l1.length c1, .int .i64 a2, .int .i64 a3] w fun e w' => e = .returned (.tuple #[]) ∧ SpreadEnd g v w0 w t w' := by
  have c4b0 : ((l1.length : Int) == 12) = false := beq_eq_false_iff_ne.mpr (by omega)
  have c5b0 : decide (12 - (l1.length : Int) < a2) = false := decide_eq_false h2
  have c6b0 : decide (0 < a2) = false := decide_eq_false h3
  have HG := Aside0.mk hg
  have HN := Aside0.mk hN
  have HF := Aside0.mk hr1
  have HK := Aside0.mk hok1
  have HC := Aside0.mk hc1
  have HB := Aside0.mk hB
  have HGB := Aside0.mk hgb
  have HW := Aside0.mk (Below.refl w.heap.size w)
  clear hg hN hr1 hok1 hc1 hB hgb
  have HL := Aside0.mk hl1
  have hlz : (l1.length : Int) ≤ 12 := by omega
  have IH1 := Aside0.mk ih1
  clear h3
  have hgl := blk_lt HG.out
  have hNl := Kd.S_lt HN.out
  have hok0 : ∀ k_, w.heap.size ≤ k_ → k_ ≠ g ∧ some k_ ≠ v.ownBlock := fun k_ hk => ⟨by omega, fun he => by have := hNl k_ he.symm; omega⟩
  have HP := Aside0.mk hok0
  clear hgl hNl hok0 hl1 h2 ih1
  obtain ⟨ye, hye⟩ : ∃ y_ : List Int, y_ = ([] : List Int) := ⟨_, rfl⟩
  have Nye := Aside0.mk hye
  clear hye
  obtain ⟨yl, hyl⟩ : ∃ y_ : List Int, y_ = ye ++ l1 := ⟨_, rfl⟩
  have Nyl := Aside0.mk hyl
  have HYL : Aside0 (yl.length = l1.length) := ⟨by rw [hyl, Nye.out]; rfl⟩
  have Nyq : Aside0 (yl = l1) := ⟨by rw [hyl, Nye.out]; rfl⟩
  clear hyl
  obtain ⟨y0, hy0⟩ : ∃ y_ : List Int, y_ = yl ++ [0] := ⟨_, rfl⟩
  have Ny0 := Aside0.mk hy0
  clear hy0
  go_enter Try.func50, Try.ntmps50
  go_wp2_with (first | ((with_reducible refine gate_dst (N := 30) rfl ?_); refine Kd.R_lit (Kd.int .i64) _ 3 ?hg (N := 30) ?hd (xs := ([] : List Int)) (inner := []) (ok := fun _ => True) (okp := fun _ => True) ?hr ?hp (fun _ hk => hk) trivial (Below.refl _ _) (Nat.le_refl _) (by simp) ?_; (case hd => rfl); (case hg => rfl); (case hr => first | (go_simp; done) | (go_simp; rfl)); (case hp => exact (Reps.none _ _)); intro v30 w30 ho hb hg_ hnew_; clear hg_ hnew_; (first | rw [← Nye.out] at ho | (simp only [Int.reduceToNat] at ho; rw [← Nye.out] at ho)); have n0_ := Aside0.mk (Kd.R_lower ho (below_size (by repeat (first | (with_reducible first | exact HW.out | apply below_alloc | apply pw_below_drewN | apply below_drew1) | exact HW.out)))); have n1_ := Aside0.mk (below_step (by repeat (first | (with_reducible first | exact HW.out | apply below_alloc | apply pw_below_drewN | apply below_drew1) | exact HW.out)) hb); clear HW; have HO := n0_; have HW := n1_; clear n0_ n1_; clear hb ho) | ((with_reducible refine gate_builtin (b := .append) (xs := #[.tmp 30, .tmp 31]) rfl ?_); at_builtin; refine Kd.R_append_rows (Kd.int .i64) (w0 := w) w.heap.size rfl (.tmp 30) (.tmp 31) 24 3 (.int .i64 0) 8 rfl Try.underlying24 infoI rfl (by decide) (by omega) v30 ye l1 _ _ _ (fun _ => True) (fun _ => False) rfl rfl ?aO ?aR (fun _ _ h => h) (fun _ h => h.elim) ?aF ?aB ?aS ?aL ?_; (case aR => exact Kd.C_below (Kd.F_now HF.out) (by repeat (first | (with_reducible first | exact HW.out | apply below_alloc | apply pw_below_drewN | apply below_drew1) | exact HW.out))); (case aB => exact (by repeat (first | (with_reducible first | exact HW.out | apply below_alloc | apply pw_below_drewN | apply below_drew1) | exact HW.out))); (case aF => exact (fun _ _ => trivial)); (case aO => exact (by (with_reducible repeat (first | apply Kd.R_alloc | apply Kd.R_drewN | apply Kd.R_drew)); exact HO.out)); (case aS => exact (below_size (by repeat (first | (with_reducible first | exact HW.out | apply below_alloc | apply pw_below_drewN | apply below_drew1) | exact HW.out)))); (case aL => have h1_ := HL.out; have h2_ := Nye.out; rw [h2_]; simp only [List.length_nil]; omega); intro v32 w32 ho hb hg hat; rw [← Nyl.out] at ho; clear HW; clear HO; have HW := Aside0.mk hb; have HO := Aside0.mk ho; clear ho hb hg hat) | ((with_reducible refine gate_builtin (b := .append) (xs := #[.tmp 34, .tmp 35]) rfl ?_); at_builtin; refine Kd.R_append (Kd.int .i64) (w0 := w) w.heap.size rfl (.tmp 34) (.tmp 35) 24 3 (.int .i64 0) 8 rfl Try.underlying24 infoI rfl (by decide) (by omega) v32 yl 0 [.int .i64 0] (fun _ => True) (fun _ => False) rfl rfl ?aP (fun _ hk => hk.elim) ?aF ?aO ?aB ?aS ?aL ?_; (case aP => exact rfl); (case aB => exact (by repeat (first | (with_reducible first | exact HW.out | apply below_alloc | apply pw_below_drewN | apply below_drew1) | exact HW.out))); (case aF => exact (fun _ _ => trivial)); (case aO => exact (by (with_reducible repeat (first | apply Kd.R_alloc | apply Kd.R_drewN | apply Kd.R_drew)); exact HO.out)); (case aS => exact (below_size (by repeat (first | (with_reducible first | exact HW.out | apply below_alloc | apply pw_below_drewN | apply below_drew1) | exact HW.out)))); (case aL => have h1_ := HL.out; have h3_ := HYL.out; omega); intro v36 w36 ho hb hg hat; rw [← Ny0.out] at ho; clear HW; clear HO; have HW := Aside0.mk hb; have HO := Aside0.mk ho; clear ho hb hg hat; obtain ⟨A36, c36, e36⟩ := Kd.R_slice HO.out; subst e36))
  refine (IH1.out _ _ _ (fun k_ => w.heap.size ≤ k_) y0 (by rw [Ny0.out, Nyq.out]) (blk_below HG.out (by repeat (first | (with_reducible first | exact HW.out | apply below_alloc | apply pw_below_drewN | apply below_drew1) | exact HW.out))) (Kd.S_below HN.out (by repeat (first | (with_reducible first | exact HW.out | apply below_alloc | apply pw_below_drewN | apply below_drew1) | exact HW.out))) (below_on HB.out (by repeat (first | (with_reducible first | exact HW.out | apply below_alloc | apply pw_below_drewN | apply below_drew1) | exact HW.out))) ?_ HP.out ?_).mono ?_
  · exact Kd.R_F (Kd.R_mono (ok' := (fun k_ => w.heap.size ≤ k_)) (Kd.R_bound (by (with_reducible repeat (first | apply Kd.R_alloc | apply Kd.R_drewN | apply Kd.R_drew)); exact HO.out)) (fun _ hk => hk.2.1))
  · exact (Kd.R_reads' HO.out).2.1
  rintro e w2 ⟨rfl, hE⟩
  have HE := Aside0.mk hE
  clear hE
  go_wp2
  go_end0
  exact ⟨rfl, SpreadEnd.at (by repeat (first | (with_reducible first | exact HW.out | apply below_alloc | apply pw_below_drewN | apply below_drew1) | exact HW.out)) HE.out⟩

set_option maxHeartbeats 8000000 in
set_option maxRecDepth 100000 in
theorem impl_spread.two (g : Nat) (A1 : Option Addr) (c1 : Nat) (l1 : List Int) (a2 a3 : Int) (v : Value) (xs : List (S29)) (w0 w : World) (ok1 : Nat → Prop)
    (hg : w.heap[g]? = some (.cells #[v] 26 (0, 0))) (hgb : w0.heap.size ≤ g) (hN : Kd.S k29 29 w w0.heap.size (fun k_ => w0.heap.size ≤ k_ ∧ k_ ≠ g) v xs) (hB : Below w0.heap.size w0 w)
    (hr1 : Kd.F (Kd.int .i64) w ok1 A1 l1.length l1) (hok1 : ∀ k_, ok1 k_ → k_ ≠ g ∧ some k_ ≠ v.ownBlock) (hc1 : l1.length ≤ c1) (hl1 : l1.length < 12) (h2 : ¬ 12 - (l1.length : Int) < a2) (h0 : 0 ≤ a2) (h2' : a2 ≤ 12) (t : List (S29))
    (ih1 : ∀ (W : World) (A : Option Addr) (c : Nat) (ok : Nat → Prop) (y : List Int), y = l1 ++ [0] → W.heap[g]? = some (.cells #[v] 26 (0, 0)) → Kd.S k29 29 W w0.heap.size (fun k_ => w0.heap.size ≤ k_ ∧ k_ ≠ g) v xs → Below w0.heap.size w0 W →
      Kd.F (Kd.int .i64) W ok A y.length y → (∀ k_, ok k_ → k_ ≠ g ∧ some k_ ≠ v.ownBlock) → y.length ≤ c → Calls Try.prog 50 #[.pointer (some ⟨g, 0, none⟩), .slice A y.length c, .int .i64 a2, .int .i64 a3] W fun e w' => e = .returned (.tuple #[]) ∧ SpreadEnd g v w0 W t w') (h3 : 0 < a2) (r : List (S29))
    (ih2 : ∀ (W : World) (A : Option Addr) (c : Nat) (ok : Nat → Prop) (v2 : Value) (y : List Int), y = l1 ++ [a3] → W.heap[g]? = some (.cells #[v2] 26 (0, 0)) → Kd.S k29 29 W w0.heap.size (fun k_ => w0.heap.size ≤ k_ ∧ k_ ≠ g) v2 t → Below w0.heap.size w0 W →
      Kd.F (Kd.int .i64) W ok A y.length y → (∀ k_, ok k_ → k_ ≠ g ∧ some k_ ≠ v2.ownBlock) → y.length ≤ c → Calls Try.prog 50 #[.pointer (some ⟨g, 0, none⟩), .slice A y.length c, .int .i64 (a2 - 1), .int .i64 a3] W fun e w' => e = .returned (.tuple #[]) ∧ SpreadEnd g v2 w0 W r w') :
    Calls Try.prog 50 #[.pointer (some ⟨g, 0, none⟩), .slice A1 l1.length c1, .int .i64 a2, .int .i64 a3] w fun e w' => e = .returned (.tuple #[]) ∧ SpreadEnd g v w0 w r w' := by
  have c4b0 : ((l1.length : Int) == 12) = false := beq_eq_false_iff_ne.mpr (by omega)
  have c5b0 : decide (12 - (l1.length : Int) < a2) = false := decide_eq_false h2
  have c6b0 : decide (0 < a2) = true := decide_eq_true h3
  have HG := Aside0.mk hg
  have HN := Aside0.mk hN
  have HF := Aside0.mk hr1
  have HK := Aside0.mk hok1
  have HC := Aside0.mk hc1
  have HB := Aside0.mk hB
  have HGB := Aside0.mk hgb
  have HW := Aside0.mk (Below.refl w.heap.size w)
  clear hg hN hr1 hok1 hc1 hB hgb
  have HL := Aside0.mk hl1
  have hlz : (l1.length : Int) ≤ 12 := by omega
  have IH1 := Aside0.mk ih1
  have IH2 := Aside0.mk ih2
  clear ih2
  have hgl := blk_lt HG.out
  have hNl := Kd.S_lt HN.out
  have hok0 : ∀ k_, w.heap.size ≤ k_ → k_ ≠ g ∧ some k_ ≠ v.ownBlock := fun k_ hk => ⟨by omega, fun he => by have := hNl k_ he.symm; omega⟩
  have HP := Aside0.mk hok0
  clear hgl hNl hok0 hl1 h2 ih1
  obtain ⟨ye, hye⟩ : ∃ y_ : List Int, y_ = ([] : List Int) := ⟨_, rfl⟩
  have Nye := Aside0.mk hye
  clear hye
  obtain ⟨yl, hyl⟩ : ∃ y_ : List Int, y_ = ye ++ l1 := ⟨_, rfl⟩
  have Nyl := Aside0.mk hyl
  have HYL : Aside0 (yl.length = l1.length) := ⟨by rw [hyl, Nye.out]; rfl⟩
  have Nyq : Aside0 (yl = l1) := ⟨by rw [hyl, Nye.out]; rfl⟩
  clear hyl
  obtain ⟨y0, hy0⟩ : ∃ y_ : List Int, y_ = yl ++ [0] := ⟨_, rfl⟩
  have Ny0 := Aside0.mk hy0
  clear hy0
  obtain ⟨y3, hy3⟩ : ∃ y_ : List Int, y_ = yl ++ [a3] := ⟨_, rfl⟩
  have Ny3 := Aside0.mk hy3
  clear hy3
  go_enter Try.func50, Try.ntmps50
  go_wp2_with (first | ((with_reducible refine gate_dst (N := 30) rfl ?_); refine Kd.R_lit (Kd.int .i64) _ 3 ?hg (N := 30) ?hd (xs := ([] : List Int)) (inner := []) (ok := fun _ => True) (okp := fun _ => True) ?hr ?hp (fun _ hk => hk) trivial (Below.refl _ _) (Nat.le_refl _) (by simp) ?_; (case hd => rfl); (case hg => rfl); (case hr => first | (go_simp; done) | (go_simp; rfl)); (case hp => exact (Reps.none _ _)); intro v30 w30 ho hb hg_ hnew_; clear hg_ hnew_; (first | rw [← Nye.out] at ho | (simp only [Int.reduceToNat] at ho; rw [← Nye.out] at ho)); have n0_ := Aside0.mk (Kd.R_lower ho (below_size (by repeat (first | (with_reducible first | exact HW.out | apply below_alloc | apply pw_below_drewN | apply below_drew1) | exact HW.out)))); have n1_ := Aside0.mk (below_step (by repeat (first | (with_reducible first | exact HW.out | apply below_alloc | apply pw_below_drewN | apply below_drew1) | exact HW.out)) hb); clear HW; have HO := n0_; have HW := n1_; clear n0_ n1_; clear hb ho) | ((with_reducible refine gate_builtin (b := .append) (xs := #[.tmp 30, .tmp 31]) rfl ?_); at_builtin; refine Kd.R_append_rows (Kd.int .i64) (w0 := w) w.heap.size rfl (.tmp 30) (.tmp 31) 24 3 (.int .i64 0) 8 rfl Try.underlying24 infoI rfl (by decide) (by omega) v30 ye l1 _ _ _ (fun _ => True) (fun _ => False) rfl rfl ?aO ?aR (fun _ _ h => h) (fun _ h => h.elim) ?aF ?aB ?aS ?aL ?_; (case aR => exact Kd.C_below (Kd.F_now HF.out) (by repeat (first | (with_reducible first | exact HW.out | apply below_alloc | apply pw_below_drewN | apply below_drew1) | exact HW.out))); (case aB => exact (by repeat (first | (with_reducible first | exact HW.out | apply below_alloc | apply pw_below_drewN | apply below_drew1) | exact HW.out))); (case aF => exact (fun _ _ => trivial)); (case aO => exact (by (with_reducible repeat (first | apply Kd.R_alloc | apply Kd.R_drewN | apply Kd.R_drew)); exact HO.out)); (case aS => exact (below_size (by repeat (first | (with_reducible first | exact HW.out | apply below_alloc | apply pw_below_drewN | apply below_drew1) | exact HW.out)))); (case aL => have h1_ := HL.out; have h2_ := Nye.out; rw [h2_]; simp only [List.length_nil]; omega); intro v32 w32 ho hb hg hat; rw [← Nyl.out] at ho; clear HW; clear HO; have HW := Aside0.mk hb; have HO := Aside0.mk ho; clear ho hb hg hat) | ((with_reducible refine gate_builtin (b := .append) (xs := #[.tmp 34, .tmp 35]) rfl ?_); at_builtin; refine Kd.R_append (Kd.int .i64) (w0 := w) w.heap.size rfl (.tmp 34) (.tmp 35) 24 3 (.int .i64 0) 8 rfl Try.underlying24 infoI rfl (by decide) (by omega) v32 yl 0 [.int .i64 0] (fun _ => True) (fun _ => False) rfl rfl ?aP (fun _ hk => hk.elim) ?aF ?aO ?aB ?aS ?aL ?_; (case aP => exact rfl); (case aB => exact (by repeat (first | (with_reducible first | exact HW.out | apply below_alloc | apply pw_below_drewN | apply below_drew1) | exact HW.out))); (case aF => exact (fun _ _ => trivial)); (case aO => exact (by (with_reducible repeat (first | apply Kd.R_alloc | apply Kd.R_drewN | apply Kd.R_drew)); exact HO.out)); (case aS => exact (below_size (by repeat (first | (with_reducible first | exact HW.out | apply below_alloc | apply pw_below_drewN | apply below_drew1) | exact HW.out)))); (case aL => have h1_ := HL.out; have h3_ := HYL.out; omega); intro v36 w36 ho hb hg hat; rw [← Ny0.out] at ho; clear HW; clear HO; have HW := Aside0.mk hb; have HO := Aside0.mk ho; clear ho hb hg hat; obtain ⟨A36, c36, e36⟩ := Kd.R_slice HO.out; subst e36))
  refine (IH1.out _ _ _ (fun k_ => w.heap.size ≤ k_) y0 (by rw [Ny0.out, Nyq.out]) (blk_below HG.out (by repeat (first | (with_reducible first | exact HW.out | apply below_alloc | apply pw_below_drewN | apply below_drew1) | exact HW.out))) (Kd.S_below HN.out (by repeat (first | (with_reducible first | exact HW.out | apply below_alloc | apply pw_below_drewN | apply below_drew1) | exact HW.out))) (below_on HB.out (by repeat (first | (with_reducible first | exact HW.out | apply below_alloc | apply pw_below_drewN | apply below_drew1) | exact HW.out))) ?_ HP.out ?_).mono ?_
  · exact Kd.R_F (Kd.R_mono (ok' := (fun k_ => w.heap.size ≤ k_)) (Kd.R_bound (by (with_reducible repeat (first | apply Kd.R_alloc | apply Kd.R_drewN | apply Kd.R_drew)); exact HO.out)) (fun _ hk => hk.2.1))
  · exact (Kd.R_reads' HO.out).2.1
  rintro e w2 ⟨rfl, hE⟩
  have HE := Aside0.mk hE
  clear hE
  obtain ⟨v2, e1, e2, e3, e4, e5⟩ := HE.out
  have HF2 := Aside0.mk (Kd.F_kept (Kd.F_below HF.out (by repeat (first | (with_reducible first | exact HW.out | apply below_alloc | apply pw_below_drewN | apply below_drew1) | exact HW.out))) e4 (fun k_ hk hs => hs.elim (HK.out k_ hk).1 (HK.out k_ hk).2))
  have HG2 := Aside0.mk e1
  have HN2 := Aside0.mk e2
  have HB2 := Aside0.mk e3
  have HK2 := Aside0.mk e4
  have HT2 := Aside0.mk e5
  have HW1 := Aside0.mk (show Below w.heap.size w _ from (by repeat (first | (with_reducible first | exact HW.out | apply below_alloc | apply pw_below_drewN | apply below_drew1) | exact HW.out)))
  have hgl := blk_lt e1
  have hNl := Kd.S_lt e2
  have hok0 : ∀ k_, w2.heap.size ≤ k_ → k_ ≠ g ∧ some k_ ≠ v2.ownBlock := fun k_ hk => ⟨by omega, fun he => by have := hNl k_ he.symm; omega⟩
  have HP2 := Aside0.mk hok0
  have HV := Aside0.mk (Below.refl w2.heap.size w2)
  clear hgl hNl hok0 e1 e2 e3 e4 e5 HE
  go_wp2_with (first | ((with_reducible refine gate_dst (N := 43) rfl ?_); refine Kd.R_lit (Kd.int .i64) _ 3 ?hg (N := 43) ?hd (xs := ([] : List Int)) (inner := []) (ok := fun _ => True) (okp := fun _ => True) ?hr ?hp (fun _ hk => hk) trivial (Below.refl _ _) (Nat.le_refl _) (by simp) ?_; (case hd => rfl); (case hg => rfl); (case hr => first | (go_simp; done) | (go_simp; rfl)); (case hp => exact (Reps.none _ _)); intro v43 w43 ho hb hg_ hnew_; clear hg_ hnew_; (first | rw [← Nye.out] at ho | (simp only [Int.reduceToNat] at ho; rw [← Nye.out] at ho)); have n0_ := Aside0.mk (Kd.R_lower ho (below_size (by repeat (first | (with_reducible first | exact HV.out | apply below_alloc | apply pw_below_drewN | apply below_drew1) | exact HV.out)))); have n1_ := Aside0.mk (below_step (by repeat (first | (with_reducible first | exact HV.out | apply below_alloc | apply pw_below_drewN | apply below_drew1) | exact HV.out)) hb); clear HV; have HQ := n0_; have HV := n1_; clear n0_ n1_; clear hb ho) | ((with_reducible refine gate_builtin (b := .append) (xs := #[.tmp 43, .tmp 44]) rfl ?_); at_builtin; refine Kd.R_append_rows (Kd.int .i64) (w0 := w2) w2.heap.size rfl (.tmp 43) (.tmp 44) 24 3 (.int .i64 0) 8 rfl Try.underlying24 infoI rfl (by decide) (by omega) v43 ye l1 _ _ _ (fun _ => True) (fun _ => False) rfl rfl ?aO ?aR (fun _ _ h => h) (fun _ h => h.elim) ?aF ?aB ?aS ?aL ?_; (case aR => exact Kd.C_below (Kd.F_now HF2.out) (by repeat (first | (with_reducible first | exact HV.out | apply below_alloc | apply pw_below_drewN | apply below_drew1) | exact HV.out))); (case aB => exact (by repeat (first | (with_reducible first | exact HV.out | apply below_alloc | apply pw_below_drewN | apply below_drew1) | exact HV.out))); (case aF => exact (fun _ _ => trivial)); (case aO => exact (by (with_reducible repeat (first | apply Kd.R_alloc | apply Kd.R_drewN | apply Kd.R_drew)); exact HQ.out)); (case aS => exact (below_size (by repeat (first | (with_reducible first | exact HV.out | apply below_alloc | apply pw_below_drewN | apply below_drew1) | exact HV.out)))); (case aL => have h1_ := HL.out; have h2_ := Nye.out; rw [h2_]; simp only [List.length_nil]; omega); intro v45 w45 ho hb hg hat; rw [← Nyl.out] at ho; clear HV; clear HQ; have HV := Aside0.mk hb; have HQ := Aside0.mk ho; clear ho hb hg hat) | ((with_reducible refine gate_builtin (b := .append) (xs := #[.tmp 45, .tmp 47]) rfl ?_); at_builtin; refine Kd.R_append (Kd.int .i64) (w0 := w2) w2.heap.size rfl (.tmp 45) (.tmp 47) 24 3 (.int .i64 0) 8 rfl Try.underlying24 infoI rfl (by decide) (by omega) v45 yl a3 [.int .i64 a3] (fun _ => True) (fun _ => False) rfl rfl ?aP (fun _ hk => hk.elim) ?aF ?aO ?aB ?aS ?aL ?_; (case aP => exact rfl); (case aB => exact (by repeat (first | (with_reducible first | exact HV.out | apply below_alloc | apply pw_below_drewN | apply below_drew1) | exact HV.out))); (case aF => exact (fun _ _ => trivial)); (case aO => exact (by (with_reducible repeat (first | apply Kd.R_alloc | apply Kd.R_drewN | apply Kd.R_drew)); exact HQ.out)); (case aS => exact (below_size (by repeat (first | (with_reducible first | exact HV.out | apply below_alloc | apply pw_below_drewN | apply below_drew1) | exact HV.out)))); (case aL => have h1_ := HL.out; have h3_ := HYL.out; omega); intro v48 w48 ho hb hg hat; rw [← Ny3.out] at ho; clear HV; clear HQ; have HV := Aside0.mk hb; have HQ := Aside0.mk ho; clear ho hb hg hat; obtain ⟨A48, c48, e48⟩ := Kd.R_slice HQ.out; subst e48))
  refine (IH2.out _ _ _ (fun k_ => w2.heap.size ≤ k_) v2 y3 (by rw [Ny3.out, Nyq.out]) (blk_below HG2.out (by repeat (first | (with_reducible first | exact HV.out | apply below_alloc | apply pw_below_drewN | apply below_drew1) | exact HV.out))) (Kd.S_below HN2.out (by repeat (first | (with_reducible first | exact HV.out | apply below_alloc | apply pw_below_drewN | apply below_drew1) | exact HV.out))) (below_on HB2.out (by repeat (first | (with_reducible first | exact HV.out | apply below_alloc | apply pw_below_drewN | apply below_drew1) | exact HV.out))) ?_ HP2.out ?_).mono ?_
  · exact Kd.R_F (Kd.R_mono (ok' := (fun k_ => w2.heap.size ≤ k_)) (Kd.R_bound (by (with_reducible repeat (first | apply Kd.R_alloc | apply Kd.R_drewN | apply Kd.R_drew)); exact HQ.out)) (fun _ hk => hk.2.1))
  · exact (Kd.R_reads' HQ.out).2.1
  rintro e w4 ⟨rfl, hE⟩
  have HE := Aside0.mk hE
  clear hE
  go_wp2
  go_end0
  exact ⟨rfl, SpreadEnd.seq HW1.out HK2.out HT2.out (by repeat (first | (with_reducible first | exact HV.out | apply below_alloc | apply pw_below_drewN | apply below_drew1) | exact HV.out)) HE.out⟩

theorem impl_spread.calls (k : Nat) : ∀ (g : Nat) (A1 : Option Addr) (c1 : Nat) (l1 : List Int) (a2 a3 : Int) (v : Value) (xs r : List (S29)) (w0 w : World) (ok1 : Nat → Prop)
    (hg : w.heap[g]? = some (.cells #[v] 26 (0, 0))) (hgb : w0.heap.size ≤ g) (hN : Kd.S k29 29 w w0.heap.size (fun k_ => w0.heap.size ≤ k_ ∧ k_ ≠ g) v xs) (hB : Below w0.heap.size w0 w)
    (hr1 : Kd.F (Kd.int .i64) w ok1 A1 l1.length l1) (hok1 : ∀ k_, ok1 k_ → k_ ≠ g ∧ some k_ ≠ v.ownBlock) (hc1 : l1.length ≤ c1) (hl1 : l1.length ≤ 12) (h0 : 0 ≤ a2) (h2 : a2 ≤ 12) (h : impl_spread.f k l1 a2 a3 xs = some r),
    Calls Try.prog 50 #[.pointer (some ⟨g, 0, none⟩), .slice A1 l1.length c1, .int .i64 a2, .int .i64 a3] w fun e w' => e = .returned (.tuple #[]) ∧ SpreadEnd g v w0 w r w' := by
  induction k with
  | zero => intro g A1 c1 l1 a2 a3 v xs r w0 w ok1 hg hgb hN hB hr1 hok1 hc1 hl1 h0 h2 h; exact absurd h (by simp [impl_spread.f])
  | succ k ih =>
    intro g A1 c1 l1 a2 a3 v xs r w0 w ok1 hg hgb hN hB hr1 hok1 hc1 hl1 h0 h2 h
    simp only [impl_spread.f] at h
    by_cases c4 : (l1.length : Int) = 12
    · rw [if_pos c4] at h
      by_cases c5 : a2 = 0
      · rw [if_pos c5] at h
        subst c5
        by_cases c6 : xs.length < 1000000
        · rw [if_pos c6] at h
          obtain rfl := Option.some.inj h
          exact impl_spread.leaf g A1 c1 l1 a3 v xs w0 w ok1 hg hgb hN hB hr1 hc1 (by omega) c6
        · rw [if_neg c6] at h; exact absurd h (by simp)
      · rw [if_neg c5] at h
        obtain rfl := Option.some.inj h
        exact impl_spread.none12 g A1 c1 l1 a2 a3 v xs w0 w ok1 hg hgb hN hB hr1 hok1 hc1 (by omega) c5
    · rw [if_neg c4] at h
      by_cases c7 : 12 - (l1.length : Int) < a2
      · rw [if_pos c7] at h
        obtain rfl := Option.some.inj h
        exact impl_spread.many g A1 c1 l1 a2 a3 v xs w0 w ok1 hg hgb hN hB hr1 hok1 hc1 hl1 c4 c7 h2
      · rw [if_neg c7] at h
        obtain ⟨t, h1, h⟩ := Option.bind_eq_some_iff.mp h
        have hll : (l1 ++ [0]).length ≤ 12 := by simp; omega
        by_cases c8 : 0 < a2
        · rw [if_pos c8] at h
          exact impl_spread.two g A1 c1 l1 a2 a3 v xs w0 w ok1 hg hgb hN hB hr1 hok1 hc1 (by omega) c7 h0 h2 t (fun W A c ok y hy p1 p2 p3 p4 p5 p6 => by subst hy; exact ih g A c (l1 ++ [0]) a2 a3 v xs t w0 W ok p1 hgb p2 p3 p4 p5 p6 hll h0 h2 h1) c8 r
            (fun W A c ok v2 y hy p1 p2 p3 p4 p5 p6 => by subst hy; exact ih g A c (l1 ++ [a3]) (a2 - 1) a3 v2 t r w0 W ok p1 hgb p2 p3 p4 p5 p6 (by simp; omega) (by omega) (by omega) h)
        · rw [if_neg c8] at h
          obtain rfl := Option.some.inj h
          exact impl_spread.one g A1 c1 l1 a2 a3 v xs w0 w ok1 hg hgb hN hB hr1 hok1 hc1 (by omega) c7 h0 h2 t (fun W A c ok y hy p1 p2 p3 p4 p5 p6 => by subst hy; exact ih g A c (l1 ++ [0]) a2 a3 v xs t w0 W ok p1 hgb p2 p3 p4 p5 p6 hll h0 h2 h1) c8
theorem R_empty {α : Type} (d : Kd α) (W : World) (base e : Nat) (ok : Nat → Prop) (hfresh : ok W.heap.size) (hbase : base ≤ W.heap.size) : d.R e (W.alloc (.cells #[] e)) base ok (.slice (some ⟨W.heap.size, 0, none⟩) 0 0) ([] : List α) := by
  refine ⟨fun k hk => ?_, [], ?_, Reps.none _ _⟩
  · have : W.heap.size = k := by simpa [Value.ownBlock] using hk
    subst this
    exact hfresh
  · have h2 := World.ownsRow_lit (base := base) (e := e) (size := d.sz) W #[] 0 hbase (by simp [maxLen]) (by simp)
    simpa using h2
def impl_FamilyOf.f (k : Nat) (a0 : Int) : Option (List (S29)) := if a0 = 2 ∨ a0 = 3 ∨ a0 = 4 ∨ a0 = 6 ∨ a0 = 12 then impl_spread.f k [] (Int.tdiv 12 a0) a0 [] else some []
theorem impl_spread.mono : ∀ k l a b xs, LeO (impl_spread.f k l a b xs) (impl_spread.f (k + 1) l a b xs) := by
  intro k
  induction k with
  | zero => intro l a b xs r h; simp [impl_spread.f] at h
  | succ k ih =>
    intro l a b xs
    rw [impl_spread.f, impl_spread.f]
    refine LeO.ite (LeO.refl _) (LeO.ite (LeO.refl _) (LeO.bind (ih _ _ _ _) (fun t => LeO.ite (ih _ _ _ _) (LeO.refl _))))
theorem impl_FamilyOf.mono : ∀ a0 k, LeO (impl_FamilyOf.f k a0) (impl_FamilyOf.f (k + 1) a0) := by
  intro a0 k
  unfold impl_FamilyOf.f
  exact LeO.ite (impl_spread.mono _ _ _ _ _) (LeO.refl _)
set_option maxHeartbeats 8000000 in
set_option maxRecDepth 100000 in
theorem impl_FamilyOf.at (k : Nat) (n a0 : Int) (r : List (S29)) (w : World) (hn : n = Int.tdiv 12 a0) (h1 : (a0 = 2 ∧ n = 6) ∨ (a0 = 3 ∧ n = 4) ∨ (a0 = 4 ∧ n = 3) ∨ (a0 = 6 ∧ n = 2) ∨ (a0 = 12 ∧ n = 1)) (h : impl_spread.f k [] n a0 [] = some r) :
    Calls Try.prog 14 #[.int .i64 a0] w fun e w' => ∃ v0_ : Value, e = .returned (v0_) ∧ Kd.S k29 29 w' w.heap.size (fun _ => True) v0_ r ∧ Below w.heap.size w w' := by
  have hsp := impl_spread.calls k (w.heap.size + 1) (some ⟨w.heap.size + 1 + 1, 0, none⟩) 0 [] n a0 (.slice (some ⟨w.heap.size, 0, none⟩) 0 0) [] r w (((w.alloc (.cells #[] 29)).alloc (.cells #[.slice (some ⟨w.heap.size, 0, none⟩) 0 0] 26)).alloc (.cells #[] 3)) (fun k_ => w.heap.size + 1 + 1 ≤ k_)
    (blk_alloc (by have e_ : (w.alloc (.cells #[] 29)).heap.size = w.heap.size + 1 := by simp
                   rw [← e_]; exact blk_new _ _) _) (by omega)
    (Kd.S_alloc (Kd.S_alloc (show Kd.S k29 29 _ w.heap.size _ _ [] from ⟨fun _ => 0, R_empty (Kd.tag (fun _ => 0) k29) w w.heap.size 29 (fun k_ => w.heap.size ≤ k_ ∧ k_ ≠ w.heap.size + 1) ⟨Nat.le_refl _, by omega⟩ (Nat.le_refl _)⟩) _) _)
    (below_alloc (below_alloc (below_alloc (Below.refl _ _) _) _) _)
    (by have h0 := Kd.R_F (R_empty (Kd.int .i64) ((w.alloc (.cells #[] 29)).alloc (.cells #[.slice (some ⟨w.heap.size, 0, none⟩) 0 0] 26)) w.heap.size 3 (fun k_ => w.heap.size + 1 + 1 ≤ k_) (by simp) (by simp; omega)); simpa using h0)
    (fun k_ hk => ⟨by omega, by simp [Value.ownBlock]; omega⟩) (Nat.zero_le _) (by simp) (by omega) (by omega) h
  have HSP := Aside0.mk hsp
  clear hsp h hn
  rcases h1 with ⟨rfl, rfl⟩ | ⟨rfl, rfl⟩ | ⟨rfl, rfl⟩ | ⟨rfl, rfl⟩ | ⟨rfl, rfl⟩
  all_goals
    go_enter Try.func14, Try.ntmps14
    go_wp2_with (first | (go_at_call 50; refine HSP.out.mono ?_; rintro e w' ⟨rfl, v', e1, e2, e3, e4, e5⟩; have hc_ := (blk_cell e1 0).trans rfl))
    go_ret
    exact ⟨_, rfl, Kd.S_mono e2 (fun _ _ => trivial), e3⟩
set_option maxHeartbeats 8000000 in
set_option maxRecDepth 100000 in
theorem impl_FamilyOf.none_ (a0 : Int) (w : World) (h1 : ¬ (a0 = 2 ∨ a0 = 3 ∨ a0 = 4 ∨ a0 = 6 ∨ a0 = 12)) :
    Calls Try.prog 14 #[.int .i64 a0] w fun e w' => ∃ v0_ : Value, e = .returned (v0_) ∧ Kd.S k29 29 w' w.heap.size (fun _ => True) v0_ [] ∧ Below w.heap.size w w' := by
  have c1 : (a0 == 2) = false := beq_eq_false_iff_ne.mpr (fun h => h1 (.inl h))
  have c2 : (a0 == 3) = false := beq_eq_false_iff_ne.mpr (fun h => h1 (.inr (.inl h)))
  have c3 : (a0 == 4) = false := beq_eq_false_iff_ne.mpr (fun h => h1 (.inr (.inr (.inl h))))
  have c4 : (a0 == 6) = false := beq_eq_false_iff_ne.mpr (fun h => h1 (.inr (.inr (.inr (.inl h)))))
  have c5 : (a0 == 12) = false := beq_eq_false_iff_ne.mpr (fun h => h1 (.inr (.inr (.inr (.inr h)))))
  have d1 : (a0 != 2) = true := bne_iff_ne.mpr (fun h => h1 (.inl h))
  have d2 : (a0 != 3) = true := bne_iff_ne.mpr (fun h => h1 (.inr (.inl h)))
  have d3 : (a0 != 4) = true := bne_iff_ne.mpr (fun h => h1 (.inr (.inr (.inl h))))
  have d4 : (a0 != 6) = true := bne_iff_ne.mpr (fun h => h1 (.inr (.inr (.inr (.inl h)))))
  have d5 : (a0 != 12) = true := bne_iff_ne.mpr (fun h => h1 (.inr (.inr (.inr (.inr h)))))
  clear h1
  go_enter Try.func14, Try.ntmps14
  go_wp2
  go_ret
  exact ⟨_, rfl, Kd.S_nil _ _ _ _ _, by repeat (first | exact Below.refl _ _ | apply below_alloc | apply pw_below_drewN | apply below_drew1)⟩
theorem impl_FamilyOf.calls (k : Nat) (a0 : Int) (r : List (S29)) (w : World) (h : impl_FamilyOf.f k a0 = some r) :
    Calls Try.prog 14 #[.int .i64 a0] w fun e w' => ∃ v0_ : Value, e = .returned (v0_) ∧ Kd.S k29 29 w' w.heap.size (fun _ => True) v0_ r ∧ Below w.heap.size w w' := by
  unfold impl_FamilyOf.f at h
  by_cases h1 : a0 = 2 ∨ a0 = 3 ∨ a0 = 4 ∨ a0 = 6 ∨ a0 = 12
  · rw [if_pos h1] at h
    refine impl_FamilyOf.at k (Int.tdiv 12 a0) a0 r w rfl ?_ h
    rcases h1 with rfl | rfl | rfl | rfl | rfl <;> decide
  · rw [if_neg h1] at h
    obtain rfl := Option.some.inj h
    exact impl_FamilyOf.none_ a0 w h1

/-! ### impl_within: function 51 -/
def impl_within.f (a0 : Int) (a1 : Int) (a2 : Int) : Option (Bool) := if a1 ≤ a0 then (some (decide (a0 ≤ a2))) else (some false)
set_option maxHeartbeats 8000000 in
set_option maxRecDepth 100000 in
theorem impl_within.calls (a0 : Int) (a1 : Int) (a2 : Int) (r : Bool) (w : World) (h : impl_within.f a0 a1 a2 = some r) :
    Calls Try.prog 51 #[.int .i64 a0, .int .i64 a1, .int .i64 a2] w fun e w' => e = .returned (.bool r) ∧ Drawn0 w w' := by
  have H : (if a1 ≤ a0 then (some (decide (a0 ≤ a2))) else (some false)) = some r := h
  clear h
  by_cases c4 : a1 ≤ a0
  · rw [if_pos c4] at H
    have c4b0 : decide (a1 ≤ a0) = true := decide_eq_true c4
    clear c4
    obtain rfl := Option.some.inj H
    go_enter Try.func51, Try.ntmps51
    go_wp2
    go_ret
    exact ⟨by first | rfl | (simp; done) | (simp [*]; done), by repeat (first | exact Drawn0.refl _ | apply Drawn0.step)⟩
  · rw [if_neg c4] at H
    have c4b0 : decide (a1 ≤ a0) = false := decide_eq_false c4
    clear c4
    obtain rfl := Option.some.inj H
    go_enter Try.func51, Try.ntmps51
    go_wp2
    go_ret
    exact ⟨by first | rfl | (simp; done) | (simp [*]; done), by repeat (first | exact Drawn0.refl _ | apply Drawn0.step)⟩

/-! ### impl_CircleOk: function 15 -/
def impl_CircleOk.l0 : Nat → Int → List Int → Int → Int → List Int → Option (Bool)
  | 0, _, _, _, _, _ => none
  | k + 1, x3, x7, x8, x9, x111000 => if x9 < x8 then (if 0 ≤ x9 then (if x9 < (x7.length : Int) then ((impl_within.f (rd x7 x9) 0 12).bind fun t112 => (if t112 = true then (impl_CircleOk.l0 k (wrap64 (x3 + (rd x7 x9))) x7 x8 (wrap64 (x9 + 1)) x111000) else (some false))) else (none)) else (none)) else (if (x111000.length : Int) = 12 then (some (x3 == 12)) else (some false))
def impl_CircleOk.f (k : Nat) (l0_0 : List Int) : Option (Bool) := impl_CircleOk.l0 k 0 l0_0 (l0_0.length : Int) 0 l0_0
theorem impl_CircleOk.mono_l : ∀ k, (∀ y0 y1 y2 y3 y4, LeO (impl_CircleOk.l0 k y0 y1 y2 y3 y4) (impl_CircleOk.l0 (k + 1) y0 y1 y2 y3 y4))
  | 0 => fun _ _ _ _ _ r h => by simp [impl_CircleOk.l0] at h
  | k + 1 => by
    have ih0 := impl_CircleOk.mono_l k
    · intro y0 y1 y2 y3 y4
      unfold impl_CircleOk.l0
      repeat' first
      | (with_reducible exact ih0 _ _ _ _ _)
      | (with_reducible exact LeO.refl _)
      | (with_reducible exact LeO.none _)
      | (with_reducible refine LeO.ite ?_ ?_)
      | (with_reducible refine LeO.bind ?_ (fun _ => ?_))
      | exact ih0 _ _ _ _ _
      | exact LeO.none _
      | refine LeO.ite ?_ ?_
      | refine LeO.bind ?_ (fun _ => ?_)
theorem impl_CircleOk.mono : ∀ a0 k, LeO (impl_CircleOk.f k a0) (impl_CircleOk.f (k + 1) a0) := by
  intro a0 k
  have ih0 := impl_CircleOk.mono_l k
  unfold impl_CircleOk.f
  repeat' first
      | (with_reducible exact ih0 _ _ _ _ _)
      | (with_reducible exact LeO.refl _)
      | (with_reducible exact LeO.none _)
      | (with_reducible refine LeO.ite ?_ ?_)
      | (with_reducible refine LeO.bind ?_ (fun _ => ?_))
      | exact ih0 _ _ _ _ _
      | exact LeO.none _
      | refine LeO.ite ?_ ?_
      | refine LeO.bind ?_ (fun _ => ?_)
set_option maxHeartbeats 8000000 in
set_option maxRecDepth 100000 in
theorem impl_CircleOk.calls (k : Nat) (A0_0 : Option Addr) (c0_0 : Nat) (l0_0 : List Int) (r : Bool) (w : World) (hr0_0 : Kd.C (Kd.int .i64) w A0_0 l0_0.length l0_0) (hc0_0 : l0_0.length ≤ c0_0) (h : impl_CircleOk.f k l0_0 = some r) :
    Calls Try.prog 15 #[.agg #[.slice A0_0 l0_0.length c0_0]] w fun e w' => e = .returned (.bool r) ∧ Below w.heap.size w w' := by
  have hu29 := Try.underlying29
  have HR0_0 := Aside0.mk hr0_0
  have HC0_0 := Aside0.mk hc0_0
  clear hr0_0 hc0_0
  have HB := Aside0.mk (Below.refl w.heap.size w)
  have H : (impl_CircleOk.l0 k 0 l0_0 (l0_0.length : Int) 0 l0_0) = some r := h
  clear h
  have H' := Aside0.mk H
  clear H
  go_enter Try.func15, Try.ntmps15
  go_wp2_with (first | ((with_reducible refine gate_dst (N := 1) rfl ?_); refine box_event ?hg (N := 1) ?hd (cs := #[.slice A0_0 l0_0.length c0_0]) (t := 29) ?hr ?_; (case hd => rfl); (case hg => rfl); (case hr => first | (go_simp; done) | (go_simp; rfl)); intro gb110 hg w2 hbox hb; have n0_ := Aside0.mk (below_step (by repeat (first | (with_reducible first | exact HB.out | apply below_alloc | apply pw_below_drewN | apply below_drew1) | exact HB.out)) hb); have n1_ := Aside0.mk (hbox); have n2_ := Aside0.mk ((by rw [hg]; exact (below_size (by repeat (first | (with_reducible first | exact HB.out | apply below_alloc | apply pw_below_drewN | apply below_drew1) | exact HB.out))) : w.heap.size ≤ gb110)); have n3_ := Aside0.mk ((by rw [hg]; exact (below_size (by repeat (first | (with_reducible first | exact HB.out | apply below_alloc | apply pw_below_drewN | apply below_drew1) | exact HB.out))) : w.heap.size ≤ gb110)); clear HB; have HB := n0_; have BK110 := n1_; have GW110 := n2_; have GE110 := n3_; clear n0_ n1_ n2_ n3_; clear hb hbox hg; have hcz3_0 : w2.cell? ⟨gb110, 0, none⟩ = some (.slice A0_0 l0_0.length c0_0) := (blk_cell BK110.out 0).trans rfl; have hfz3_0 := blk_frozen BK110.out 0))
  go_loopg [3, 9] k (fun kq v3 v9 w' => ∃ (x3_1 : Int) (x9_1 : Int), v3 = .int .i64 x3_1 ∧ v9 = .int .i64 x9_1 ∧ Aside0 (impl_CircleOk.l0 kq x3_1 l0_0 (l0_0.length : Int) x9_1 l0_0 = some r) ∧ Aside0 (kq ≤ k) ∧ Aside0 (w'.heap[gb110]? = some (.cells #[(.slice A0_0 l0_0.length c0_0)] 29 (0, 0))) ∧ Aside0 (Below w.heap.size w w'))
  case atStart => exact ⟨(0), (0), (by first | rfl | (simp; done) | (simp [*]; done)), (by first | rfl | (simp; done) | (simp [*]; done)), H', ⟨Nat.le_refl _⟩, ⟨by (with_reducible repeat (first | refine blk_drewN ?_ _ | refine blk_drew ?_ | refine blk_alloc ?_ _)); exact BK110.out⟩, ⟨by repeat (first | (with_reducible first | exact HB.out | apply below_alloc | apply pw_below_drewN | apply below_drew1 | refine below_set ?_ GE110.out) | exact HB.out)⟩⟩
  case round =>
    clear H'
    try clear c1
    try clear p2
    try clear hcz3_0
    try clear hfz3_0
    obtain ⟨x3_1, x9_1, rfl, rfl, HA, HK1, BK110, HB⟩ := hrel
    cases gk with
    | zero => exact absurd HA.out (by simp [impl_CircleOk.l0])
    | succ k1 =>
      have H := HA.out
      clear HA
      simp only [impl_CircleOk.l0] at H
      by_cases c4 : x9_1 < (l0_0.length : Int)
      · rw [if_pos c4] at H
        have c4b0 : decide (x9_1 < (l0_0.length : Int)) = true := decide_eq_true c4
        clear c4
        by_cases c5 : 0 ≤ x9_1
        · rw [if_pos c5] at H
          have c5b0 : decide (0 ≤ x9_1) = true := decide_eq_true c5
          clear c5
          by_cases c6 : x9_1 < (l0_0.length : Int)
          · rw [if_pos c6] at H
            have c6b0 : decide (x9_1 < (l0_0.length : Int)) = true := decide_eq_true c6
            clear c6
            replace H := Option.bind_eq_some_iff.mp H
            obtain ⟨t112, A70, H⟩ := H
            replace H : (if t112 = true then (impl_CircleOk.l0 k1 (wrap64 (x3_1 + (rd l0_0 x9_1))) l0_0 (l0_0.length : Int) (wrap64 (x9_1 + 1)) l0_0) else (some false)) = some r := H
            have A7 := Aside0.mk A70
            clear A70
            by_cases c8 : t112 = true
            · subst c8
              have H1 : (impl_CircleOk.l0 k1 (wrap64 (x3_1 + (rd l0_0 x9_1))) l0_0 (l0_0.length : Int) (wrap64 (x9_1 + 1)) l0_0) = some r := by rw [if_pos rfl] at H; exact H
              clear H
              have H := H1
              clear H1
              have H' := Aside0.mk H
              clear H
              have p111 : 0 ≤ (x9_1 : Int) := of_decide_eq_true (by first | (with_reducible assumption) | assumption)
              have q111 : x9_1 < (l0_0.length : Int) := of_decide_eq_true (by first | (with_reducible assumption) | assumption)
              obtain ⟨ad111, e111, hx111_0⟩ := Kd.at_int HR0_0.out x9_1 p111 q111
              cases e111
              replace hx111_0 := (HB.out.cell (World.block_lt_of_cell? w _ hx111_0)).trans hx111_0
              replace p111 := eq_true p111
              replace q111 := eq_true q111
              go_wp2_with (first | ((with_reducible refine gate_callee (f := 51) rfl ?_); refine goesL_ (some 14) rfl rfl Try.func51 (by kernel_rfl) rfl #[.int .i64 (rd l0_0 x9_1), .int .i64 0, .int .i64 12] rfl (by (try simp only [List.map_toArray, List.map_cons, List.map_nil]); first | done | rfl | (simp only [List.length_drop, List.length_take]; rfl)) ?_; (with_reducible refine (impl_within.calls (rd l0_0 x9_1) 0 12 true _ A7.out).mono ?_); rintro e w' ⟨rfl, ⟨nd, rfl⟩⟩; refine ⟨_, rfl, ?_⟩))
              go_roundg k1
              case measure => have := HK1.out; omega
              case rel => exact ⟨(wrap64 (x3_1 + (rd l0_0 x9_1))), (wrap64 (x9_1 + 1)), (by first | rfl | (simp; done) | (simp [*]; done)), (by first | rfl | (simp; done) | (simp [*]; done)), H', ⟨by have := HK1.out; omega⟩, ⟨by (with_reducible repeat (first | refine blk_drewN ?_ _ | refine blk_drew ?_ | refine blk_alloc ?_ _)); exact BK110.out⟩, ⟨by repeat (first | (with_reducible first | exact HB.out | apply below_alloc | apply pw_below_drewN | apply below_drew1 | refine below_set ?_ GE110.out) | exact HB.out)⟩⟩
            · replace c8 := Bool.eq_false_iff.mpr c8
              subst c8
              have H1 : (some false) = some r := by rw [if_neg (show ¬ (false = true) by decide)] at H; exact H
              clear H
              have H := H1
              clear H1
              obtain rfl := Option.some.inj H
              have p111 : 0 ≤ (x9_1 : Int) := of_decide_eq_true (by first | (with_reducible assumption) | assumption)
              have q111 : x9_1 < (l0_0.length : Int) := of_decide_eq_true (by first | (with_reducible assumption) | assumption)
              obtain ⟨ad111, e111, hx111_0⟩ := Kd.at_int HR0_0.out x9_1 p111 q111
              cases e111
              replace hx111_0 := (HB.out.cell (World.block_lt_of_cell? w _ hx111_0)).trans hx111_0
              replace p111 := eq_true p111
              replace q111 := eq_true q111
              go_wp2_with (first | ((with_reducible refine gate_callee (f := 51) rfl ?_); refine goesL_ (some 14) rfl rfl Try.func51 (by kernel_rfl) rfl #[.int .i64 (rd l0_0 x9_1), .int .i64 0, .int .i64 12] rfl (by (try simp only [List.map_toArray, List.map_cons, List.map_nil]); first | done | rfl | (simp only [List.length_drop, List.length_take]; rfl)) ?_; (with_reducible refine (impl_within.calls (rd l0_0 x9_1) 0 12 false _ A7.out).mono ?_); rintro e w' ⟨rfl, ⟨nd, rfl⟩⟩; refine ⟨_, rfl, ?_⟩))
              go_ret
              exact ⟨by first | rfl | (simp [errW_none, errW_some] <;> rfl) | (simp [*, errW_none, errW_some] <;> rfl), by repeat (first | (with_reducible first | exact HB.out | apply below_alloc | apply pw_below_drewN | apply below_drew1 | refine below_set ?_ GE110.out) | exact HB.out)⟩
          · rw [if_neg c6] at H
            exact absurd H (by simp)
        · rw [if_neg c5] at H
          exact absurd H (by simp)
      · rw [if_neg c4] at H
        have c4b0 : decide (x9_1 < (l0_0.length : Int)) = false := decide_eq_false c4
        clear c4
        by_cases c9 : (l0_0.length : Int) = 12
        · rw [if_pos c9] at H
          have c9b0 : ((l0_0.length : Int) == 12) = true := beq_iff_eq.mpr c9
          have c9b1 : ((l0_0.length : Int) != 12) = false := bne_eq_false_iff_eq.mpr c9
          clear c9
          obtain rfl := Option.some.inj H
          have hcz10_0 : wr.cell? ⟨gb110, 0, none⟩ = some (.slice A0_0 l0_0.length c0_0) := (blk_cell BK110.out 0).trans rfl
          have hfz10_0 := blk_frozen BK110.out 0
          go_wp2
          go_ret
          exact ⟨by first | rfl | (simp [errW_none, errW_some] <;> rfl) | (simp [*, errW_none, errW_some] <;> rfl), by repeat (first | (with_reducible first | exact HB.out | apply below_alloc | apply pw_below_drewN | apply below_drew1 | refine below_set ?_ GE110.out) | exact HB.out)⟩
        · rw [if_neg c9] at H
          have c9b0 : ((l0_0.length : Int) == 12) = false := beq_eq_false_iff_ne.mpr c9
          have c9b1 : ((l0_0.length : Int) != 12) = true := bne_iff_ne.mpr c9
          obtain rfl := Option.some.inj H
          have hcz11_0 : wr.cell? ⟨gb110, 0, none⟩ = some (.slice A0_0 l0_0.length c0_0) := (blk_cell BK110.out 0).trans rfl
          have hfz11_0 := blk_frozen BK110.out 0
          go_wp2
          go_ret
          exact ⟨by first | rfl | (simp [errW_none, errW_some] <;> rfl) | (simp [*, errW_none, errW_some] <;> rfl), by repeat (first | (with_reducible first | exact HB.out | apply below_alloc | apply pw_below_drewN | apply below_drew1 | refine below_set ?_ GE110.out) | exact HB.out)⟩

/-! ### impl_isKey: function 75 -/
def impl_isKey.f (k : Nat) (l0_0 : List Int) (a1 : Int) : Option (Bool) := (impl_CircleOk.f k l0_0).bind fun t114 => (if t114 = true then ((impl_within.f a1 0 11).bind fun t115 => (some t115)) else (some false))
theorem impl_isKey.mono : ∀ a0 a1 k, LeO (impl_isKey.f k a0 a1) (impl_isKey.f (k + 1) a0 a1) := by
  intro a0 a1 k
  unfold impl_isKey.f
  repeat' first
      | (with_reducible exact impl_CircleOk.mono _ _)
      | (with_reducible exact LeO.refl _)
      | (with_reducible exact LeO.none _)
      | (with_reducible refine LeO.ite ?_ ?_)
      | (with_reducible refine LeO.bind ?_ (fun _ => ?_))
      | exact impl_CircleOk.mono _ _
      | exact LeO.none _
      | refine LeO.ite ?_ ?_
      | refine LeO.bind ?_ (fun _ => ?_)
set_option maxHeartbeats 8000000 in
set_option maxRecDepth 100000 in
theorem impl_isKey.calls (k : Nat) (A0_0 : Option Addr) (c0_0 : Nat) (l0_0 : List Int) (a1 : Int) (r : Bool) (w : World) (hr0_0 : Kd.C (Kd.int .i64) w A0_0 l0_0.length l0_0) (hc0_0 : l0_0.length ≤ c0_0) (h : impl_isKey.f k l0_0 a1 = some r) :
    Calls Try.prog 75 #[.agg #[.slice A0_0 l0_0.length c0_0], .int .i64 a1] w fun e w' => e = .returned (.bool r) ∧ Below w.heap.size w w' := by
  have hu29 := Try.underlying29
  have HR0_0 := Aside0.mk hr0_0
  have HC0_0 := Aside0.mk hc0_0
  clear hr0_0 hc0_0
  have HB := Aside0.mk (Below.refl w.heap.size w)
  have H : ((impl_CircleOk.f k l0_0).bind fun t114 => (if t114 = true then ((impl_within.f a1 0 11).bind fun t115 => (some t115)) else (some false))) = some r := h
  clear h
  replace H := Option.bind_eq_some_iff.mp H
  obtain ⟨t114, A30, H⟩ := H
  replace H : (if t114 = true then ((impl_within.f a1 0 11).bind fun t115 => (some t115)) else (some false)) = some r := H
  have A3 := Aside0.mk A30
  clear A30
  by_cases c4 : t114 = true
  · subst c4
    have H1 : ((impl_within.f a1 0 11).bind fun t115 => (some t115)) = some r := by rw [if_pos rfl] at H; exact H
    clear H
    have H := H1
    clear H1
    replace H := Option.bind_eq_some_iff.mp H
    obtain ⟨t115, A50, H⟩ := H
    replace H : (some t115) = some r := H
    have A5 := Aside0.mk A50
    clear A50
    obtain rfl := Option.some.inj H
    go_enter Try.func75, Try.ntmps75
    go_wp2_with (first | ((with_reducible refine gate_dst (N := 2) rfl ?_); refine box_event ?hg (N := 2) ?hd (cs := #[.slice A0_0 l0_0.length c0_0]) (t := 29) ?hr ?_; (case hd => rfl); (case hg => rfl); (case hr => first | (go_simp; done) | (go_simp; rfl)); intro gb113 hg w6 hbox hb; have n0_ := Aside0.mk (below_step (by repeat (first | (with_reducible first | exact HB.out | apply below_alloc | apply pw_below_drewN | apply below_drew1) | exact HB.out)) hb); have n1_ := Aside0.mk (hbox); have n2_ := Aside0.mk ((by rw [hg]; exact (below_size (by repeat (first | (with_reducible first | exact HB.out | apply below_alloc | apply pw_below_drewN | apply below_drew1) | exact HB.out))) : w.heap.size ≤ gb113)); have n3_ := Aside0.mk ((by rw [hg]; exact (below_size (by repeat (first | (with_reducible first | exact HB.out | apply below_alloc | apply pw_below_drewN | apply below_drew1) | exact HB.out))) : w.heap.size ≤ gb113)); clear HB; have HB := n0_; have BK113 := n1_; have GW113 := n2_; have GE113 := n3_; clear n0_ n1_ n2_ n3_; clear hb hbox hg; have hcz7_0 : w6.cell? ⟨gb113, 0, none⟩ = some (.slice A0_0 l0_0.length c0_0) := (blk_cell BK113.out 0).trans rfl; have hfz7_0 := blk_frozen BK113.out 0) | ((with_reducible refine gate_callee (f := 15) rfl ?_); refine goesL_ (some 6) rfl rfl Try.func15 (by kernel_rfl) rfl #[.agg #[.slice A0_0 l0_0.length c0_0]] rfl (by (try simp only [List.map_toArray, List.map_cons, List.map_nil]); first | done | rfl | (simp only [List.length_drop, List.length_take]; rfl)) ?_; (with_reducible refine (impl_CircleOk.calls k _ _ l0_0 true _ ?side1 ?side2 A3.out).mono ?_); (case side1 => repeat (first | exact (Kd.C_below HR0_0.out HB.out) | (with_reducible refine Kd.C_alloc ?_ _) | (with_reducible refine Kd.C_drewN ?_ _) | (with_reducible refine Kd.C_drew ?_))); (case side2 => exact HC0_0.out); rintro e w8 ⟨rfl, hb⟩; refine ⟨_, rfl, ?_⟩; have n0_ := Aside0.mk (blk_below (g := gb113) (o := .cells #[.slice A0_0 l0_0.length c0_0] 29 (0, 0)) (by (with_reducible repeat (first | refine blk_drewN ?_ _ | refine blk_drew ?_ | refine blk_alloc ?_ _)); exact BK113.out) hb); have n1_ := Aside0.mk (below_step (by repeat (first | (with_reducible first | exact HB.out | apply below_alloc | apply pw_below_drewN | apply below_drew1 | refine below_set ?_ GE113.out) | exact HB.out)) hb); clear BK113; clear HB; have BK113 := n0_; have HB := n1_; clear n0_ n1_; (try clear hb); (try clear hb2); (try clear hk); (try clear hi)) | (go_at_call 51; (with_reducible refine (impl_within.calls a1 0 11 t115 _ A5.out).mono ?_); rintro e w' ⟨rfl, ⟨nd, rfl⟩⟩))
    go_ret
    exact ⟨by first | rfl | (simp [errW_none, errW_some] <;> rfl) | (simp [*, errW_none, errW_some] <;> rfl), by repeat (first | (with_reducible first | exact HB.out | apply below_alloc | apply pw_below_drewN | apply below_drew1 | refine below_set ?_ GE113.out) | exact HB.out)⟩
  · replace c4 := Bool.eq_false_iff.mpr c4
    subst c4
    have H1 : (some false) = some r := by rw [if_neg (show ¬ (false = true) by decide)] at H; exact H
    clear H
    have H := H1
    clear H1
    obtain rfl := Option.some.inj H
    go_enter Try.func75, Try.ntmps75
    go_wp2_with (first | ((with_reducible refine gate_dst (N := 2) rfl ?_); refine box_event ?hg (N := 2) ?hd (cs := #[.slice A0_0 l0_0.length c0_0]) (t := 29) ?hr ?_; (case hd => rfl); (case hg => rfl); (case hr => first | (go_simp; done) | (go_simp; rfl)); intro gb113 hg w9 hbox hb; have n0_ := Aside0.mk (below_step (by repeat (first | (with_reducible first | exact HB.out | apply below_alloc | apply pw_below_drewN | apply below_drew1) | exact HB.out)) hb); have n1_ := Aside0.mk (hbox); have n2_ := Aside0.mk ((by rw [hg]; exact (below_size (by repeat (first | (with_reducible first | exact HB.out | apply below_alloc | apply pw_below_drewN | apply below_drew1) | exact HB.out))) : w.heap.size ≤ gb113)); have n3_ := Aside0.mk ((by rw [hg]; exact (below_size (by repeat (first | (with_reducible first | exact HB.out | apply below_alloc | apply pw_below_drewN | apply below_drew1) | exact HB.out))) : w.heap.size ≤ gb113)); clear HB; have HB := n0_; have BK113 := n1_; have GW113 := n2_; have GE113 := n3_; clear n0_ n1_ n2_ n3_; clear hb hbox hg; have hcz10_0 : w9.cell? ⟨gb113, 0, none⟩ = some (.slice A0_0 l0_0.length c0_0) := (blk_cell BK113.out 0).trans rfl; have hfz10_0 := blk_frozen BK113.out 0) | ((with_reducible refine gate_callee (f := 15) rfl ?_); refine goesL_ (some 6) rfl rfl Try.func15 (by kernel_rfl) rfl #[.agg #[.slice A0_0 l0_0.length c0_0]] rfl (by (try simp only [List.map_toArray, List.map_cons, List.map_nil]); first | done | rfl | (simp only [List.length_drop, List.length_take]; rfl)) ?_; (with_reducible refine (impl_CircleOk.calls k _ _ l0_0 false _ ?side1 ?side2 A3.out).mono ?_); (case side1 => repeat (first | exact (Kd.C_below HR0_0.out HB.out) | (with_reducible refine Kd.C_alloc ?_ _) | (with_reducible refine Kd.C_drewN ?_ _) | (with_reducible refine Kd.C_drew ?_))); (case side2 => exact HC0_0.out); rintro e w11 ⟨rfl, hb⟩; refine ⟨_, rfl, ?_⟩; have n0_ := Aside0.mk (blk_below (g := gb113) (o := .cells #[.slice A0_0 l0_0.length c0_0] 29 (0, 0)) (by (with_reducible repeat (first | refine blk_drewN ?_ _ | refine blk_drew ?_ | refine blk_alloc ?_ _)); exact BK113.out) hb); have n1_ := Aside0.mk (below_step (by repeat (first | (with_reducible first | exact HB.out | apply below_alloc | apply pw_below_drewN | apply below_drew1 | refine below_set ?_ GE113.out) | exact HB.out)) hb); clear BK113; clear HB; have BK113 := n0_; have HB := n1_; clear n0_ n1_; (try clear hb); (try clear hb2); (try clear hk); (try clear hi)))
    go_ret
    exact ⟨by first | rfl | (simp [errW_none, errW_some] <;> rfl) | (simp [*, errW_none, errW_some] <;> rfl), by repeat (first | (with_reducible first | exact HB.out | apply below_alloc | apply pw_below_drewN | apply below_drew1 | refine below_set ?_ GE113.out) | exact HB.out)⟩

/-! ### impl_partsFrom: function 73 -/
def impl_partsFrom.l0 : Nat → Int → Int → Int → Int → List Int → Option (Int)
  | 0, _, _, _, _, _ => none
  | k + 1, x1, x2, x7, x8, x117000 => if x8 < x2 then (if 0 ≤ (Int.tmod (wrap64 (x1 + x8)) 12) then (if (Int.tmod (wrap64 (x1 + x8)) 12) < (x117000.length : Int) then (impl_partsFrom.l0 k x1 x2 (wrap64 (x7 + (rd x117000 (Int.tmod (wrap64 (x1 + x8)) 12)))) (wrap64 (x8 + 1)) x117000) else (none)) else (none)) else (some x7)
def impl_partsFrom.f (k : Nat) (l0_0 : List Int) (a1 : Int) (a2 : Int) : Option (Int) := (impl_isKey.f k l0_0 a1).bind fun t117 => (if t117 = true then (impl_partsFrom.l0 k a1 a2 0 0 l0_0) else (some 0))
theorem impl_partsFrom.mono_l : ∀ k, (∀ y0 y1 y2 y3 y4, LeO (impl_partsFrom.l0 k y0 y1 y2 y3 y4) (impl_partsFrom.l0 (k + 1) y0 y1 y2 y3 y4))
  | 0 => fun _ _ _ _ _ r h => by simp [impl_partsFrom.l0] at h
  | k + 1 => by
    have ih0 := impl_partsFrom.mono_l k
    · intro y0 y1 y2 y3 y4
      unfold impl_partsFrom.l0
      repeat' first
      | (with_reducible exact ih0 _ _ _ _ _)
      | (with_reducible exact impl_isKey.mono _ _ _)
      | (with_reducible exact LeO.refl _)
      | (with_reducible exact LeO.none _)
      | (with_reducible refine LeO.ite ?_ ?_)
      | (with_reducible refine LeO.bind ?_ (fun _ => ?_))
      | exact ih0 _ _ _ _ _
      | exact impl_isKey.mono _ _ _
      | exact LeO.none _
      | refine LeO.ite ?_ ?_
      | refine LeO.bind ?_ (fun _ => ?_)
theorem impl_partsFrom.mono : ∀ a0 a1 a2 k, LeO (impl_partsFrom.f k a0 a1 a2) (impl_partsFrom.f (k + 1) a0 a1 a2) := by
  intro a0 a1 a2 k
  have ih0 := impl_partsFrom.mono_l k
  unfold impl_partsFrom.f
  repeat' first
      | (with_reducible exact ih0 _ _ _ _ _)
      | (with_reducible exact impl_isKey.mono _ _ _)
      | (with_reducible exact LeO.refl _)
      | (with_reducible exact LeO.none _)
      | (with_reducible refine LeO.ite ?_ ?_)
      | (with_reducible refine LeO.bind ?_ (fun _ => ?_))
      | exact ih0 _ _ _ _ _
      | exact impl_isKey.mono _ _ _
      | exact LeO.none _
      | refine LeO.ite ?_ ?_
      | refine LeO.bind ?_ (fun _ => ?_)
set_option maxHeartbeats 8000000 in
set_option maxRecDepth 100000 in
theorem impl_partsFrom.calls (k : Nat) (A0_0 : Option Addr) (c0_0 : Nat) (l0_0 : List Int) (a1 : Int) (a2 : Int) (r : Int) (w : World) (hr0_0 : Kd.C (Kd.int .i64) w A0_0 l0_0.length l0_0) (hc0_0 : l0_0.length ≤ c0_0) (h : impl_partsFrom.f k l0_0 a1 a2 = some r) :
    Calls Try.prog 73 #[.agg #[.slice A0_0 l0_0.length c0_0], .int .i64 a1, .int .i64 a2] w fun e w' => e = .returned (.int .i64 r) ∧ Below w.heap.size w w' := by
  have hu29 := Try.underlying29
  have HR0_0 := Aside0.mk hr0_0
  have HC0_0 := Aside0.mk hc0_0
  clear hr0_0 hc0_0
  have HB := Aside0.mk (Below.refl w.heap.size w)
  have H : ((impl_isKey.f k l0_0 a1).bind fun t117 => (if t117 = true then (impl_partsFrom.l0 k a1 a2 0 0 l0_0) else (some 0))) = some r := h
  clear h
  replace H := Option.bind_eq_some_iff.mp H
  obtain ⟨t117, A40, H⟩ := H
  replace H : (if t117 = true then (impl_partsFrom.l0 k a1 a2 0 0 l0_0) else (some 0)) = some r := H
  have A4 := Aside0.mk A40
  clear A40
  by_cases c5 : t117 = true
  · subst c5
    have H1 : (impl_partsFrom.l0 k a1 a2 0 0 l0_0) = some r := by rw [if_pos rfl] at H; exact H
    clear H
    have H := H1
    clear H1
    have H' := Aside0.mk H
    clear H
    go_enter Try.func73, Try.ntmps73
    go_wp2_with (first | ((with_reducible refine gate_dst (N := 3) rfl ?_); refine box_event ?hg (N := 3) ?hd (cs := #[.slice A0_0 l0_0.length c0_0]) (t := 29) ?hr ?_; (case hd => rfl); (case hg => rfl); (case hr => first | (go_simp; done) | (go_simp; rfl)); intro gb116 hg w6 hbox hb; have n0_ := Aside0.mk (below_step (by repeat (first | (with_reducible first | exact HB.out | apply below_alloc | apply pw_below_drewN | apply below_drew1) | exact HB.out)) hb); have n1_ := Aside0.mk (hbox); have n2_ := Aside0.mk ((by rw [hg]; exact (below_size (by repeat (first | (with_reducible first | exact HB.out | apply below_alloc | apply pw_below_drewN | apply below_drew1) | exact HB.out))) : w.heap.size ≤ gb116)); have n3_ := Aside0.mk ((by rw [hg]; exact (below_size (by repeat (first | (with_reducible first | exact HB.out | apply below_alloc | apply pw_below_drewN | apply below_drew1) | exact HB.out))) : w.heap.size ≤ gb116)); clear HB; have HB := n0_; have BK116 := n1_; have GW116 := n2_; have GE116 := n3_; clear n0_ n1_ n2_ n3_; clear hb hbox hg; have hcz7_0 : w6.cell? ⟨gb116, 0, none⟩ = some (.slice A0_0 l0_0.length c0_0) := (blk_cell BK116.out 0).trans rfl; have hfz7_0 := blk_frozen BK116.out 0) | ((with_reducible refine gate_callee (f := 75) rfl ?_); refine goesL_ (some 11) rfl rfl Try.func75 (by kernel_rfl) rfl #[.agg #[.slice A0_0 l0_0.length c0_0], .int .i64 a1] rfl (by (try simp only [List.map_toArray, List.map_cons, List.map_nil]); first | done | rfl | (simp only [List.length_drop, List.length_take]; rfl)) ?_; (with_reducible refine (impl_isKey.calls k _ _ l0_0 a1 true _ ?side1 ?side2 A4.out).mono ?_); (case side1 => repeat (first | exact (Kd.C_below HR0_0.out HB.out) | (with_reducible refine Kd.C_alloc ?_ _) | (with_reducible refine Kd.C_drewN ?_ _) | (with_reducible refine Kd.C_drew ?_))); (case side2 => exact HC0_0.out); rintro e w8 ⟨rfl, hb⟩; refine ⟨_, rfl, ?_⟩; have n0_ := Aside0.mk (blk_below (g := gb116) (o := .cells #[.slice A0_0 l0_0.length c0_0] 29 (0, 0)) (by (with_reducible repeat (first | refine blk_drewN ?_ _ | refine blk_drew ?_ | refine blk_alloc ?_ _)); exact BK116.out) hb); have n1_ := Aside0.mk (below_step (by repeat (first | (with_reducible first | exact HB.out | apply below_alloc | apply pw_below_drewN | apply below_drew1 | refine below_set ?_ GE116.out) | exact HB.out)) hb); clear BK116; clear HB; have BK116 := n0_; have HB := n1_; clear n0_ n1_; (try clear hb); (try clear hb2); (try clear hk); (try clear hi)))
    go_loopg [7, 8] k (fun kq v7 v8 w' => ∃ (x7_1 : Int) (x8_1 : Int), v7 = .int .i64 x7_1 ∧ v8 = .int .i64 x8_1 ∧ Aside0 (impl_partsFrom.l0 kq a1 a2 x7_1 x8_1 l0_0 = some r) ∧ Aside0 (kq ≤ k) ∧ Aside0 (w'.heap[gb116]? = some (.cells #[(.slice A0_0 l0_0.length c0_0)] 29 (0, 0))) ∧ Aside0 (Below w.heap.size w w'))
    case atStart => exact ⟨(0), (0), (by first | rfl | (simp; done) | (simp [*]; done)), (by first | rfl | (simp; done) | (simp [*]; done)), H', ⟨Nat.le_refl _⟩, ⟨by (with_reducible repeat (first | refine blk_drewN ?_ _ | refine blk_drew ?_ | refine blk_alloc ?_ _)); exact BK116.out⟩, ⟨by repeat (first | (with_reducible first | exact HB.out | apply below_alloc | apply pw_below_drewN | apply below_drew1 | refine below_set ?_ GE116.out) | exact HB.out)⟩⟩
    case round =>
      clear H'
      try clear p2
      try clear c5
      try clear c7
      try clear hcz7_0
      try clear hfz7_0
      obtain ⟨x7_1, x8_1, rfl, rfl, HA, HK1, BK116, HB⟩ := hrel
      cases gk with
      | zero => exact absurd HA.out (by simp [impl_partsFrom.l0])
      | succ k1 =>
        have H := HA.out
        clear HA
        simp only [impl_partsFrom.l0] at H
        by_cases c9 : x8_1 < a2
        · rw [if_pos c9] at H
          have c9b0 : decide (x8_1 < a2) = true := decide_eq_true c9
          clear c9
          obtain ⟨ji10, hji10⟩ : ∃ j_ : Int, (Int.tmod (wrap64 (a1 + x8_1)) 12) = j_ := ⟨_, rfl⟩
          replace H : (if 0 ≤ (ji10) then (if (ji10) < (l0_0.length : Int) then (impl_partsFrom.l0 k1 a1 a2 (wrap64 (x7_1 + (rd l0_0 (ji10)))) (wrap64 (x8_1 + 1)) l0_0) else (none)) else (none)) = some r := by first | (rw [hji10] at H; exact H) | (simp only [hji10] at H ⊢; exact H)
          by_cases c11 : 0 ≤ (ji10)
          · rw [if_pos c11] at H
            have c11b0 : decide (0 ≤ (ji10)) = true := decide_eq_true c11
            clear c11
            by_cases c12 : (ji10) < (l0_0.length : Int)
            · rw [if_pos c12] at H
              have c12b0 : decide ((ji10) < (l0_0.length : Int)) = true := decide_eq_true c12
              clear c12
              have H' := Aside0.mk H
              clear H
              have hcz13_0 : wr.cell? ⟨gb116, 0, none⟩ = some (.slice A0_0 l0_0.length c0_0) := (blk_cell BK116.out 0).trans rfl
              have hfz13_0 := blk_frozen BK116.out 0
              have p118 : 0 ≤ ((ji10) : Int) := of_decide_eq_true (by first | (with_reducible assumption) | assumption)
              have q118 : (ji10) < (l0_0.length : Int) := of_decide_eq_true (by first | (with_reducible assumption) | assumption)
              obtain ⟨ad118, e118, hx118_0⟩ := Kd.at_int HR0_0.out (ji10) p118 q118
              cases e118
              replace hx118_0 := (HB.out.cell (World.block_lt_of_cell? w _ hx118_0)).trans hx118_0
              replace p118 := eq_true p118
              replace q118 := eq_true q118
              go_wp2
              go_roundg k1
              case measure => have := HK1.out; omega
              case rel => exact ⟨(wrap64 (x7_1 + (rd l0_0 (ji10)))), (wrap64 (x8_1 + 1)), (by first | rfl | (simp; done) | (simp only [← hji10] <;> (first | rfl | simp)) | (simp [*]; done)), (by first | rfl | (simp; done) | (simp [*]; done)), H', ⟨by have := HK1.out; omega⟩, ⟨by (with_reducible repeat (first | refine blk_drewN ?_ _ | refine blk_drew ?_ | refine blk_alloc ?_ _)); exact BK116.out⟩, ⟨by repeat (first | (with_reducible first | exact HB.out | apply below_alloc | apply pw_below_drewN | apply below_drew1 | refine below_set ?_ GE116.out) | exact HB.out)⟩⟩
            · rw [if_neg c12] at H
              exact absurd H (by simp)
          · rw [if_neg c11] at H
            exact absurd H (by simp)
        · rw [if_neg c9] at H
          have c9b0 : decide (x8_1 < a2) = false := decide_eq_false c9
          clear c9
          obtain rfl := Option.some.inj H
          go_wp2
          go_ret
          exact ⟨by first | rfl | (simp [errW_none, errW_some] <;> rfl) | (simp [*, errW_none, errW_some] <;> rfl), by repeat (first | (with_reducible first | exact HB.out | apply below_alloc | apply pw_below_drewN | apply below_drew1 | refine below_set ?_ GE116.out) | exact HB.out)⟩
  · replace c5 := Bool.eq_false_iff.mpr c5
    subst c5
    have H1 : (some 0) = some r := by rw [if_neg (show ¬ (false = true) by decide)] at H; exact H
    clear H
    have H := H1
    clear H1
    obtain rfl := Option.some.inj H
    go_enter Try.func73, Try.ntmps73
    go_wp2_with (first | ((with_reducible refine gate_dst (N := 3) rfl ?_); refine box_event ?hg (N := 3) ?hd (cs := #[.slice A0_0 l0_0.length c0_0]) (t := 29) ?hr ?_; (case hd => rfl); (case hg => rfl); (case hr => first | (go_simp; done) | (go_simp; rfl)); intro gb116 hg w14 hbox hb; have n0_ := Aside0.mk (below_step (by repeat (first | (with_reducible first | exact HB.out | apply below_alloc | apply pw_below_drewN | apply below_drew1) | exact HB.out)) hb); have n1_ := Aside0.mk (hbox); have n2_ := Aside0.mk ((by rw [hg]; exact (below_size (by repeat (first | (with_reducible first | exact HB.out | apply below_alloc | apply pw_below_drewN | apply below_drew1) | exact HB.out))) : w.heap.size ≤ gb116)); have n3_ := Aside0.mk ((by rw [hg]; exact (below_size (by repeat (first | (with_reducible first | exact HB.out | apply below_alloc | apply pw_below_drewN | apply below_drew1) | exact HB.out))) : w.heap.size ≤ gb116)); clear HB; have HB := n0_; have BK116 := n1_; have GW116 := n2_; have GE116 := n3_; clear n0_ n1_ n2_ n3_; clear hb hbox hg; have hcz15_0 : w14.cell? ⟨gb116, 0, none⟩ = some (.slice A0_0 l0_0.length c0_0) := (blk_cell BK116.out 0).trans rfl; have hfz15_0 := blk_frozen BK116.out 0) | ((with_reducible refine gate_callee (f := 75) rfl ?_); refine goesL_ (some 11) rfl rfl Try.func75 (by kernel_rfl) rfl #[.agg #[.slice A0_0 l0_0.length c0_0], .int .i64 a1] rfl (by (try simp only [List.map_toArray, List.map_cons, List.map_nil]); first | done | rfl | (simp only [List.length_drop, List.length_take]; rfl)) ?_; (with_reducible refine (impl_isKey.calls k _ _ l0_0 a1 false _ ?side1 ?side2 A4.out).mono ?_); (case side1 => repeat (first | exact (Kd.C_below HR0_0.out HB.out) | (with_reducible refine Kd.C_alloc ?_ _) | (with_reducible refine Kd.C_drewN ?_ _) | (with_reducible refine Kd.C_drew ?_))); (case side2 => exact HC0_0.out); rintro e w16 ⟨rfl, hb⟩; refine ⟨_, rfl, ?_⟩; have n0_ := Aside0.mk (blk_below (g := gb116) (o := .cells #[.slice A0_0 l0_0.length c0_0] 29 (0, 0)) (by (with_reducible repeat (first | refine blk_drewN ?_ _ | refine blk_drew ?_ | refine blk_alloc ?_ _)); exact BK116.out) hb); have n1_ := Aside0.mk (below_step (by repeat (first | (with_reducible first | exact HB.out | apply below_alloc | apply pw_below_drewN | apply below_drew1 | refine below_set ?_ GE116.out) | exact HB.out)) hb); clear BK116; clear HB; have BK116 := n0_; have HB := n1_; clear n0_ n1_; (try clear hb); (try clear hb2); (try clear hk); (try clear hi)))
    go_ret
    exact ⟨by first | rfl | (simp [errW_none, errW_some] <;> rfl) | (simp [*, errW_none, errW_some] <;> rfl), by repeat (first | (with_reducible first | exact HB.out | apply below_alloc | apply pw_below_drewN | apply below_drew1 | refine below_set ?_ GE116.out) | exact HB.out)⟩

/-! ### impl_ThirdParts: function 58 -/
def impl_ThirdParts.f (k : Nat) (l0_0 : List Int) (a1 : Int) : Option (Int) := (impl_partsFrom.f k l0_0 a1 4).bind fun t120 => (some t120)
theorem impl_ThirdParts.mono : ∀ a0 a1 k, LeO (impl_ThirdParts.f k a0 a1) (impl_ThirdParts.f (k + 1) a0 a1) := by
  intro a0 a1 k
  unfold impl_ThirdParts.f
  repeat' first
      | (with_reducible exact impl_partsFrom.mono _ _ _ _)
      | (with_reducible exact LeO.refl _)
      | (with_reducible exact LeO.none _)
      | (with_reducible refine LeO.ite ?_ ?_)
      | (with_reducible refine LeO.bind ?_ (fun _ => ?_))
      | exact impl_partsFrom.mono _ _ _ _
      | exact LeO.none _
      | refine LeO.ite ?_ ?_
      | refine LeO.bind ?_ (fun _ => ?_)
set_option maxHeartbeats 8000000 in
set_option maxRecDepth 100000 in
theorem impl_ThirdParts.calls (k : Nat) (A0_0 : Option Addr) (c0_0 : Nat) (l0_0 : List Int) (a1 : Int) (r : Int) (w : World) (hr0_0 : Kd.C (Kd.int .i64) w A0_0 l0_0.length l0_0) (hc0_0 : l0_0.length ≤ c0_0) (h : impl_ThirdParts.f k l0_0 a1 = some r) :
    Calls Try.prog 58 #[.agg #[.slice A0_0 l0_0.length c0_0], .int .i64 a1] w fun e w' => e = .returned (.int .i64 r) ∧ Below w.heap.size w w' := by
  have hu29 := Try.underlying29
  have HR0_0 := Aside0.mk hr0_0
  have HC0_0 := Aside0.mk hc0_0
  clear hr0_0 hc0_0
  have HB := Aside0.mk (Below.refl w.heap.size w)
  have H : ((impl_partsFrom.f k l0_0 a1 4).bind fun t120 => (some t120)) = some r := h
  clear h
  replace H := Option.bind_eq_some_iff.mp H
  obtain ⟨t120, A30, H⟩ := H
  replace H : (some t120) = some r := H
  have A3 := Aside0.mk A30
  clear A30
  obtain rfl := Option.some.inj H
  go_enter Try.func58, Try.ntmps58
  go_wp2_with (first | ((with_reducible refine gate_dst (N := 2) rfl ?_); refine box_event ?hg (N := 2) ?hd (cs := #[.slice A0_0 l0_0.length c0_0]) (t := 29) ?hr ?_; (case hd => rfl); (case hg => rfl); (case hr => first | (go_simp; done) | (go_simp; rfl)); intro gb119 hg w4 hbox hb; have n0_ := Aside0.mk (below_step (by repeat (first | (with_reducible first | exact HB.out | apply below_alloc | apply pw_below_drewN | apply below_drew1) | exact HB.out)) hb); have n1_ := Aside0.mk (hbox); have n2_ := Aside0.mk ((by rw [hg]; exact (below_size (by repeat (first | (with_reducible first | exact HB.out | apply below_alloc | apply pw_below_drewN | apply below_drew1) | exact HB.out))) : w.heap.size ≤ gb119)); have n3_ := Aside0.mk ((by rw [hg]; exact (below_size (by repeat (first | (with_reducible first | exact HB.out | apply below_alloc | apply pw_below_drewN | apply below_drew1) | exact HB.out))) : w.heap.size ≤ gb119)); clear HB; have HB := n0_; have BK119 := n1_; have GW119 := n2_; have GE119 := n3_; clear n0_ n1_ n2_ n3_; clear hb hbox hg; have hcz5_0 : w4.cell? ⟨gb119, 0, none⟩ = some (.slice A0_0 l0_0.length c0_0) := (blk_cell BK119.out 0).trans rfl; have hfz5_0 := blk_frozen BK119.out 0) | ((with_reducible refine gate_callee (f := 73) rfl ?_); refine goesL_ (some 7) rfl rfl Try.func73 (by kernel_rfl) rfl #[.agg #[.slice A0_0 l0_0.length c0_0], .int .i64 a1, .int .i64 4] rfl (by (try simp only [List.map_toArray, List.map_cons, List.map_nil]); first | done | rfl | (simp only [List.length_drop, List.length_take]; rfl)) ?_; (with_reducible refine (impl_partsFrom.calls k _ _ l0_0 a1 4 t120 _ ?side1 ?side2 A3.out).mono ?_); (case side1 => repeat (first | exact (Kd.C_below HR0_0.out HB.out) | (with_reducible refine Kd.C_alloc ?_ _) | (with_reducible refine Kd.C_drewN ?_ _) | (with_reducible refine Kd.C_drew ?_))); (case side2 => exact HC0_0.out); rintro e w6 ⟨rfl, hb⟩; refine ⟨_, rfl, ?_⟩; have n0_ := Aside0.mk (blk_below (g := gb119) (o := .cells #[.slice A0_0 l0_0.length c0_0] 29 (0, 0)) (by (with_reducible repeat (first | refine blk_drewN ?_ _ | refine blk_drew ?_ | refine blk_alloc ?_ _)); exact BK119.out) hb); have n1_ := Aside0.mk (below_step (by repeat (first | (with_reducible first | exact HB.out | apply below_alloc | apply pw_below_drewN | apply below_drew1 | refine below_set ?_ GE119.out) | exact HB.out)) hb); clear BK119; clear HB; have BK119 := n0_; have HB := n1_; clear n0_ n1_; (try clear hb); (try clear hb2); (try clear hk); (try clear hi)))
  go_ret
  exact ⟨by first | rfl | (simp [errW_none, errW_some] <;> rfl) | (simp [*, errW_none, errW_some] <;> rfl), by repeat (first | (with_reducible first | exact HB.out | apply below_alloc | apply pw_below_drewN | apply below_drew1 | refine below_set ?_ GE119.out) | exact HB.out)⟩

/-! ### impl_ThirdsOf: function 25 -/
def impl_ThirdsOf.l0 : Nat → List Int → Int → List Int → Option (List Int)
  | 0, _, _, _ => none
  | k + 1, x3, x4, x122000 => if x4 < 12 then ((impl_ThirdParts.f k x122000 x4).bind fun t126 => (if x3.length < 17592186044416 then (impl_ThirdsOf.l0 k (x3 ++ [t126]) (wrap64 (x4 + 1)) x122000) else (none))) else (some x3)
def impl_ThirdsOf.f (k : Nat) (l0_0 : List Int) : Option (List Int) := (impl_CircleOk.f k l0_0).bind fun t122 => (if t122 = true then (impl_ThirdsOf.l0 k (([] : List Int)) 0 l0_0) else (some ([] : List Int)))
theorem impl_ThirdsOf.mono_l : ∀ k, (∀ y0 y1 y2, LeO (impl_ThirdsOf.l0 k y0 y1 y2) (impl_ThirdsOf.l0 (k + 1) y0 y1 y2))
  | 0 => fun _ _ _ r h => by simp [impl_ThirdsOf.l0] at h
  | k + 1 => by
    have ih0 := impl_ThirdsOf.mono_l k
    · intro y0 y1 y2
      unfold impl_ThirdsOf.l0
      repeat' first
      | (with_reducible exact ih0 _ _ _)
      | (with_reducible exact impl_CircleOk.mono _ _)
      | (with_reducible exact impl_ThirdParts.mono _ _ _)
      | (with_reducible exact LeO.refl _)
      | (with_reducible exact LeO.none _)
      | (with_reducible refine LeO.ite ?_ ?_)
      | (with_reducible refine LeO.bind ?_ (fun _ => ?_))
      | exact ih0 _ _ _
      | exact impl_CircleOk.mono _ _
      | exact impl_ThirdParts.mono _ _ _
      | exact LeO.none _
      | refine LeO.ite ?_ ?_
      | refine LeO.bind ?_ (fun _ => ?_)
theorem impl_ThirdsOf.mono : ∀ a0 k, LeO (impl_ThirdsOf.f k a0) (impl_ThirdsOf.f (k + 1) a0) := by
  intro a0 k
  have ih0 := impl_ThirdsOf.mono_l k
  unfold impl_ThirdsOf.f
  repeat' first
      | (with_reducible exact ih0 _ _ _)
      | (with_reducible exact impl_CircleOk.mono _ _)
      | (with_reducible exact impl_ThirdParts.mono _ _ _)
      | (with_reducible exact LeO.refl _)
      | (with_reducible exact LeO.none _)
      | (with_reducible refine LeO.ite ?_ ?_)
      | (with_reducible refine LeO.bind ?_ (fun _ => ?_))
      | exact ih0 _ _ _
      | exact impl_CircleOk.mono _ _
      | exact impl_ThirdParts.mono _ _ _
      | exact LeO.none _
      | refine LeO.ite ?_ ?_
      | refine LeO.bind ?_ (fun _ => ?_)
set_option maxHeartbeats 8000000 in
set_option maxRecDepth 100000 in
theorem impl_ThirdsOf.calls (k : Nat) (A0_0 : Option Addr) (c0_0 : Nat) (l0_0 : List Int) (r : List Int) (w : World) (hr0_0 : Kd.C (Kd.int .i64) w A0_0 l0_0.length l0_0) (hc0_0 : l0_0.length ≤ c0_0) (h : impl_ThirdsOf.f k l0_0 = some r) :
    Calls Try.prog 25 #[.agg #[.slice A0_0 l0_0.length c0_0]] w fun e w' => ∃ v0_ : Value, e = .returned (v0_) ∧ Kd.R (Kd.int .i64) 3 w' w.heap.size (fun _ => True) v0_ r ∧ Below w.heap.size w w' := by
  have hu29 := Try.underlying29
  have HR0_0 := Aside0.mk hr0_0
  have HC0_0 := Aside0.mk hc0_0
  clear hr0_0 hc0_0
  have HB := Aside0.mk (Below.refl w.heap.size w)
  have H : ((impl_CircleOk.f k l0_0).bind fun t122 => (if t122 = true then (impl_ThirdsOf.l0 k (([] : List Int)) 0 l0_0) else (some ([] : List Int)))) = some r := h
  clear h
  replace H := Option.bind_eq_some_iff.mp H
  obtain ⟨t122, A20, H⟩ := H
  replace H : (if t122 = true then (impl_ThirdsOf.l0 k (([] : List Int)) 0 l0_0) else (some ([] : List Int))) = some r := H
  have A2 := Aside0.mk A20
  clear A20
  by_cases c3 : t122 = true
  · subst c3
    have H1 : (impl_ThirdsOf.l0 k (([] : List Int)) 0 l0_0) = some r := by rw [if_pos rfl] at H; exact H
    clear H
    have H := H1
    clear H1
    obtain ⟨y123, hy123⟩ : ∃ y_ : List Int, y_ = (([] : List Int)) := ⟨_, rfl⟩
    replace H : (impl_ThirdsOf.l0 k y123 0 l0_0) = some r := by first | (rw [hy123]; with_reducible exact H) | (have H2_ := (Option.bind_some _ _).symm.trans H; rw [hy123]; with_reducible exact H2_) | (have H2_ := (Option.bind_some _ _).symm.trans H; with_reducible exact H2_) | with_reducible exact H | (rw [hy123]; exact H) | exact H
    have Ny123 := Aside0.mk hy123
    clear hy123
    have H' := Aside0.mk H
    clear H
    go_enter Try.func25, Try.ntmps25
    go_wp2_with (first | ((with_reducible refine gate_dst (N := 1) rfl ?_); refine box_event ?hg (N := 1) ?hd (cs := #[.slice A0_0 l0_0.length c0_0]) (t := 29) ?hr ?_; (case hd => rfl); (case hg => rfl); (case hr => first | (go_simp; done) | (go_simp; rfl)); intro gb121 hg w4 hbox hb; have n0_ := Aside0.mk (below_step (by repeat (first | (with_reducible first | exact HB.out | apply below_alloc | apply pw_below_drewN | apply below_drew1) | exact HB.out)) hb); have n1_ := Aside0.mk (hbox); have n2_ := Aside0.mk ((by rw [hg]; exact (below_size (by repeat (first | (with_reducible first | exact HB.out | apply below_alloc | apply pw_below_drewN | apply below_drew1) | exact HB.out))) : w.heap.size ≤ gb121)); have n3_ := Aside0.mk ((by rw [hg]; exact (below_size (by repeat (first | (with_reducible first | exact HB.out | apply below_alloc | apply pw_below_drewN | apply below_drew1) | exact HB.out))) : w.heap.size ≤ gb121)); clear HB; have HB := n0_; have BK121 := n1_; have GW121 := n2_; have GE121 := n3_; clear n0_ n1_ n2_ n3_; clear hb hbox hg; have hcz5_0 : w4.cell? ⟨gb121, 0, none⟩ = some (.slice A0_0 l0_0.length c0_0) := (blk_cell BK121.out 0).trans rfl; have hfz5_0 := blk_frozen BK121.out 0) | ((with_reducible refine gate_callee (f := 15) rfl ?_); refine goesL_ (some 6) rfl rfl Try.func15 (by kernel_rfl) rfl #[.agg #[.slice A0_0 l0_0.length c0_0]] rfl (by (try simp only [List.map_toArray, List.map_cons, List.map_nil]); first | done | rfl | (simp only [List.length_drop, List.length_take]; rfl)) ?_; (with_reducible refine (impl_CircleOk.calls k _ _ l0_0 true _ ?side1 ?side2 A2.out).mono ?_); (case side1 => repeat (first | exact (Kd.C_below HR0_0.out HB.out) | (with_reducible refine Kd.C_alloc ?_ _) | (with_reducible refine Kd.C_drewN ?_ _) | (with_reducible refine Kd.C_drew ?_))); (case side2 => exact HC0_0.out); rintro e w6 ⟨rfl, hb⟩; refine ⟨_, rfl, ?_⟩; have n0_ := Aside0.mk (blk_below (g := gb121) (o := .cells #[.slice A0_0 l0_0.length c0_0] 29 (0, 0)) (by (with_reducible repeat (first | refine blk_drewN ?_ _ | refine blk_drew ?_ | refine blk_alloc ?_ _)); exact BK121.out) hb); have n1_ := Aside0.mk (below_step (by repeat (first | (with_reducible first | exact HB.out | apply below_alloc | apply pw_below_drewN | apply below_drew1 | refine below_set ?_ GE121.out) | exact HB.out)) hb); clear BK121; clear HB; have BK121 := n0_; have HB := n1_; clear n0_ n1_; (try clear hb); (try clear hb2); (try clear hk); (try clear hi)) | ((with_reducible refine gate_dst (N := 8) rfl ?_); refine Kd.R_lit (Kd.int .i64) _ 3 ?hg (N := 8) ?hd (xs := ([] : List Int)) (inner := []) (ok := fun _ => True) (okp := fun _ => True) ?hr ?hp (fun _ hk => hk) trivial (Below.refl _ _) (Nat.le_refl _) (by simp) ?_; (case hd => rfl); (case hg => rfl); (case hr => first | (go_simp; done) | (go_simp; rfl)); (case hp => exact (Reps.none _ _)); intro v124 w7 ho8 hb hg_ hnew_; clear hg_ hnew_; (first | rw [← Ny123.out] at ho8 | (simp only [Int.reduceToNat] at ho8; rw [← Ny123.out] at ho8)); have n0_ := Aside0.mk (Kd.R_lower ho8 (below_size (by repeat (first | (with_reducible first | exact HB.out | apply below_alloc | apply pw_below_drewN | apply below_drew1 | refine below_set ?_ GE121.out) | exact HB.out)))); have n1_ := Aside0.mk (blk_below (g := gb121) (o := .cells #[.slice A0_0 l0_0.length c0_0] 29 (0, 0)) (by (with_reducible repeat (first | refine blk_drewN ?_ _ | refine blk_drew ?_ | refine blk_alloc ?_ _)); exact BK121.out) hb); have n2_ := Aside0.mk (below_step (by repeat (first | (with_reducible first | exact HB.out | apply below_alloc | apply pw_below_drewN | apply below_drew1 | refine below_set ?_ GE121.out) | exact HB.out)) hb); clear BK121; clear HB; have HO125 := n0_; have BK121 := n1_; have HB := n2_; clear n0_ n1_ n2_; clear hb ho8))
    go_loopg [3, 4] k (fun kq v3 v4 w' => ∃ (x3_1 : List Int) (x4_1 : Int), v4 = .int .i64 x4_1 ∧ Aside0 (impl_ThirdsOf.l0 kq x3_1 x4_1 l0_0 = some r) ∧ Aside0 (kq ≤ k) ∧ Aside0 (Kd.R (Kd.int .i64) 3 w' w.heap.size (fun _ => True) v3 x3_1) ∧ Aside0 (w'.heap[gb121]? = some (.cells #[(.slice A0_0 l0_0.length c0_0)] 29 (0, 0))) ∧ Aside0 (Below w.heap.size w w'))
    case atStart => exact ⟨(y123), (0), (by first | rfl | (simp; done) | (simp [*]; done)), H', ⟨Nat.le_refl _⟩, ⟨by (with_reducible repeat (first | apply Kd.R_alloc | apply Kd.R_drewN | apply Kd.R_drew)); exact HO125.out⟩, ⟨by (with_reducible repeat (first | refine blk_drewN ?_ _ | refine blk_drew ?_ | refine blk_alloc ?_ _)); exact BK121.out⟩, ⟨by repeat (first | (with_reducible first | exact HB.out | apply below_alloc | apply pw_below_drewN | apply below_drew1 | refine below_set ?_ GE121.out) | exact HB.out)⟩⟩
    case round =>
      clear H'
      try clear c1
      try clear c2
      try clear p2
      try clear c3
      try clear hcz5_0
      try clear hfz5_0
      obtain ⟨x3_1, x4_1, rfl, HA, HK1, HO_3, BK121, HB⟩ := hrel
      cases gk with
      | zero => exact absurd HA.out (by simp [impl_ThirdsOf.l0])
      | succ k1 =>
        have H := HA.out
        clear HA
        simp only [impl_ThirdsOf.l0] at H
        by_cases c9 : x4_1 < 12
        · rw [if_pos c9] at H
          have c9b0 : decide (x4_1 < 12) = true := decide_eq_true c9
          clear c9
          replace H := Option.bind_eq_some_iff.mp H
          obtain ⟨t126, A100, H⟩ := H
          replace H : (if x3_1.length < 17592186044416 then (impl_ThirdsOf.l0 k1 (x3_1 ++ [t126]) (wrap64 (x4_1 + 1)) l0_0) else (none)) = some r := H
          have A10 := Aside0.mk A100
          clear A100
          by_cases c11 : x3_1.length < 17592186044416
          · rw [if_pos c11] at H
            have LMc11 := Aside0.mk c11
            clear c11
            obtain ⟨y127, hy127⟩ : ∃ y_ : List Int, y_ = (x3_1 ++ [t126]) := ⟨_, rfl⟩
            replace H : (impl_ThirdsOf.l0 k1 y127 (wrap64 (x4_1 + 1)) l0_0) = some r := by first | (rw [hy127]; with_reducible exact H) | (have H2_ := (Option.bind_some _ _).symm.trans H; rw [hy127]; with_reducible exact H2_) | (have H2_ := (Option.bind_some _ _).symm.trans H; with_reducible exact H2_) | with_reducible exact H | (rw [hy127]; exact H) | exact H
            have Ny127 := Aside0.mk hy127
            clear hy127
            have H' := Aside0.mk H
            clear H
            have hcz12_0 : wr.cell? ⟨gb121, 0, none⟩ = some (.slice A0_0 l0_0.length c0_0) := (blk_cell BK121.out 0).trans rfl
            have hfz12_0 := blk_frozen BK121.out 0
            go_wp2_with (first | ((with_reducible refine gate_callee (f := 58) rfl ?_); refine goesL_ (some 16) rfl rfl Try.func58 (by kernel_rfl) rfl #[.agg #[.slice A0_0 l0_0.length c0_0], .int .i64 x4_1] rfl (by (try simp only [List.map_toArray, List.map_cons, List.map_nil]); first | done | rfl | (simp only [List.length_drop, List.length_take]; rfl)) ?_; (with_reducible refine (impl_ThirdParts.calls k1 _ _ l0_0 x4_1 t126 _ ?side1 ?side2 A10.out).mono ?_); (case side1 => repeat (first | exact (Kd.C_below HR0_0.out HB.out) | (with_reducible refine Kd.C_alloc ?_ _) | (with_reducible refine Kd.C_drewN ?_ _) | (with_reducible refine Kd.C_drew ?_))); (case side2 => exact HC0_0.out); rintro e w13 ⟨rfl, hb⟩; refine ⟨_, rfl, ?_⟩; have n0_ := Aside0.mk (Kd.R_below (by (with_reducible repeat (first | apply Kd.R_alloc | apply Kd.R_drewN | apply Kd.R_drew)); exact HO_3.out) hb); have n1_ := Aside0.mk (blk_below (g := gb121) (o := .cells #[.slice A0_0 l0_0.length c0_0] 29 (0, 0)) (by (with_reducible repeat (first | refine blk_drewN ?_ _ | refine blk_drew ?_ | refine blk_alloc ?_ _)); exact BK121.out) hb); have n2_ := Aside0.mk (below_step (by repeat (first | (with_reducible first | exact HB.out | apply below_alloc | apply pw_below_drewN | apply below_drew1 | refine below_set ?_ GE121.out) | exact HB.out)) hb); clear HO_3; clear BK121; clear HB; have HO_3 := n0_; have BK121 := n1_; have HB := n2_; clear n0_ n1_ n2_; (try clear hb); (try clear hb2); (try clear hk); (try clear hi)) | ((with_reducible refine gate_builtin (b := .append) (xs := #[.tmp 13, .tmp 17]) rfl ?_); at_builtin; refine Kd.R_append (Kd.int .i64) (w0 := w) w.heap.size rfl (.tmp 13) (.tmp 17) 24 3 (.int .i64 0) 8 rfl Try.underlying24 info3 rfl (by decide) (by omega) u3 x3_1 t126 [.int .i64 t126] (fun _ => True) (fun _ => False) rfl rfl ?aP (fun _ hk => hk.elim) ?aF ?aO ?aB ?aS ?aL ?_; (case aP => exact rfl); (case aB => exact (by repeat (first | (with_reducible first | exact HB.out | apply below_alloc | apply pw_below_drewN | apply below_drew1 | refine below_set ?_ GE121.out) | exact HB.out))); (case aF => exact (fun _ _ => trivial)); (case aO => exact (by (with_reducible repeat (first | apply Kd.R_alloc | apply Kd.R_drewN | apply Kd.R_drew)); exact HO_3.out)); (case aS => exact (below_size (by repeat (first | (with_reducible first | exact HB.out | apply below_alloc | apply pw_below_drewN | apply below_drew1 | refine below_set ?_ GE121.out) | exact HB.out)))); (case aL => have := LMc11.out; omega); intro v128 w14 ho hb hg hat; rw [← Ny127.out] at ho; have n0_ := Aside0.mk (blk_grown (g := gb121) (o := .cells #[.slice A0_0 l0_0.length c0_0] 29 (0, 0)) (by (with_reducible repeat (first | refine blk_drewN ?_ _ | refine blk_drew ?_ | refine blk_alloc ?_ _)); exact BK121.out) hg (Kd.R_ne HO_3.out BK121.out (by decide))); have n1_ := Aside0.mk (hb); have n2_ := Aside0.mk (ho); clear BK121; clear HB; clear HO_3; have BK121 := n0_; have HB := n1_; have HO129 := n2_; clear n0_ n1_ n2_; clear ho hb hg hat))
            go_roundg k1
            case measure => have := HK1.out; omega
            case rel => exact ⟨(y127), (wrap64 (x4_1 + 1)), (by first | rfl | (simp; done) | (simp [*]; done)), H', ⟨by have := HK1.out; omega⟩, ⟨by (with_reducible repeat (first | apply Kd.R_alloc | apply Kd.R_drewN | apply Kd.R_drew)); exact HO129.out⟩, ⟨by (with_reducible repeat (first | refine blk_drewN ?_ _ | refine blk_drew ?_ | refine blk_alloc ?_ _)); exact BK121.out⟩, ⟨by repeat (first | (with_reducible first | exact HB.out | apply below_alloc | apply pw_below_drewN | apply below_drew1 | refine below_set ?_ GE121.out) | exact HB.out)⟩⟩
          · rw [if_neg c11] at H
            exact absurd H (by simp)
        · rw [if_neg c9] at H
          have c9b0 : decide (x4_1 < 12) = false := decide_eq_false c9
          clear c9
          obtain rfl := Option.some.inj H
          go_wp2
          go_ret
          exact ⟨_, by first | rfl | (simp [errW_none, errW_some] <;> rfl) | (simp [*, errW_none, errW_some] <;> rfl), by (with_reducible repeat (first | apply Kd.R_alloc | apply Kd.R_drewN | apply Kd.R_drew)); exact HO_3.out, by repeat (first | (with_reducible first | exact HB.out | apply below_alloc | apply pw_below_drewN | apply below_drew1 | refine below_set ?_ GE121.out) | exact HB.out)⟩
  · replace c3 := Bool.eq_false_iff.mpr c3
    subst c3
    have H1 : (some ([] : List Int)) = some r := by rw [if_neg (show ¬ (false = true) by decide)] at H; exact H
    clear H
    have H := H1
    clear H1
    obtain rfl := Option.some.inj H
    go_enter Try.func25, Try.ntmps25
    go_wp2_with (first | ((with_reducible refine gate_dst (N := 1) rfl ?_); refine box_event ?hg (N := 1) ?hd (cs := #[.slice A0_0 l0_0.length c0_0]) (t := 29) ?hr ?_; (case hd => rfl); (case hg => rfl); (case hr => first | (go_simp; done) | (go_simp; rfl)); intro gb121 hg w15 hbox hb; have n0_ := Aside0.mk (below_step (by repeat (first | (with_reducible first | exact HB.out | apply below_alloc | apply pw_below_drewN | apply below_drew1) | exact HB.out)) hb); have n1_ := Aside0.mk (hbox); have n2_ := Aside0.mk ((by rw [hg]; exact (below_size (by repeat (first | (with_reducible first | exact HB.out | apply below_alloc | apply pw_below_drewN | apply below_drew1) | exact HB.out))) : w.heap.size ≤ gb121)); have n3_ := Aside0.mk ((by rw [hg]; exact (below_size (by repeat (first | (with_reducible first | exact HB.out | apply below_alloc | apply pw_below_drewN | apply below_drew1) | exact HB.out))) : w.heap.size ≤ gb121)); clear HB; have HB := n0_; have BK121 := n1_; have GW121 := n2_; have GE121 := n3_; clear n0_ n1_ n2_ n3_; clear hb hbox hg; have hcz16_0 : w15.cell? ⟨gb121, 0, none⟩ = some (.slice A0_0 l0_0.length c0_0) := (blk_cell BK121.out 0).trans rfl; have hfz16_0 := blk_frozen BK121.out 0) | ((with_reducible refine gate_callee (f := 15) rfl ?_); refine goesL_ (some 6) rfl rfl Try.func15 (by kernel_rfl) rfl #[.agg #[.slice A0_0 l0_0.length c0_0]] rfl (by (try simp only [List.map_toArray, List.map_cons, List.map_nil]); first | done | rfl | (simp only [List.length_drop, List.length_take]; rfl)) ?_; (with_reducible refine (impl_CircleOk.calls k _ _ l0_0 false _ ?side1 ?side2 A2.out).mono ?_); (case side1 => repeat (first | exact (Kd.C_below HR0_0.out HB.out) | (with_reducible refine Kd.C_alloc ?_ _) | (with_reducible refine Kd.C_drewN ?_ _) | (with_reducible refine Kd.C_drew ?_))); (case side2 => exact HC0_0.out); rintro e w17 ⟨rfl, hb⟩; refine ⟨_, rfl, ?_⟩; have n0_ := Aside0.mk (blk_below (g := gb121) (o := .cells #[.slice A0_0 l0_0.length c0_0] 29 (0, 0)) (by (with_reducible repeat (first | refine blk_drewN ?_ _ | refine blk_drew ?_ | refine blk_alloc ?_ _)); exact BK121.out) hb); have n1_ := Aside0.mk (below_step (by repeat (first | (with_reducible first | exact HB.out | apply below_alloc | apply pw_below_drewN | apply below_drew1 | refine below_set ?_ GE121.out) | exact HB.out)) hb); clear BK121; clear HB; have BK121 := n0_; have HB := n1_; clear n0_ n1_; (try clear hb); (try clear hb2); (try clear hk); (try clear hi)))
    go_ret
    exact ⟨_, by first | rfl | (simp [errW_none, errW_some] <;> rfl) | (simp [*, errW_none, errW_some] <;> rfl), by first | exact Kd.R_nil _ _ _ _ _ | exact Kd.N_nil _ _ _ _ _ | exact Kd.V_nil _ _ _ _ _ | exact Kd.Q_nil _ _ _ _ _ | exact Kd.S_nil _ _ _ _ _, by repeat (first | (with_reducible first | exact HB.out | apply below_alloc | apply pw_below_drewN | apply below_drew1 | refine below_set ?_ GE121.out) | exact HB.out)⟩

/-! ### impl_distance: function 57 -/
def impl_distance.l0 : Nat → List Int → List Int → Int → Int → Int → Option (Int)
  | 0, _, _, _, _, _ => none
  | k + 1, x0, x1, x5, x8, x9 => if x9 < x8 then (if 0 ≤ x9 then (if x9 < (x0.length : Int) then (if x9 < (x1.length : Int) then (impl_distance.l0 k x0 x1 (wrap64 (x5 + (mx (wrap64 ((rd x0 x9) - (rd x1 x9))) (wrap64 ((rd x1 x9) - (rd x0 x9)))))) x8 (wrap64 (x9 + 1))) else (none)) else (none)) else (none)) else (some x5)
def impl_distance.f (k : Nat) (l0 : List Int) (l1 : List Int) : Option (Int) := impl_distance.l0 k l0 l1 0 (l0.length : Int) 0
theorem impl_distance.mono_l : ∀ k, (∀ y0 y1 y2 y3 y4, LeO (impl_distance.l0 k y0 y1 y2 y3 y4) (impl_distance.l0 (k + 1) y0 y1 y2 y3 y4))
  | 0 => fun _ _ _ _ _ r h => by simp [impl_distance.l0] at h
  | k + 1 => by
    have ih0 := impl_distance.mono_l k
    · intro y0 y1 y2 y3 y4
      unfold impl_distance.l0
      repeat' first
      | (with_reducible exact ih0 _ _ _ _ _)
      | (with_reducible exact LeO.refl _)
      | (with_reducible exact LeO.none _)
      | (with_reducible refine LeO.ite ?_ ?_)
      | (with_reducible refine LeO.bind ?_ (fun _ => ?_))
      | exact ih0 _ _ _ _ _
      | exact LeO.none _
      | refine LeO.ite ?_ ?_
      | refine LeO.bind ?_ (fun _ => ?_)
theorem impl_distance.mono : ∀ a0 a1 k, LeO (impl_distance.f k a0 a1) (impl_distance.f (k + 1) a0 a1) := by
  intro a0 a1 k
  have ih0 := impl_distance.mono_l k
  unfold impl_distance.f
  repeat' first
      | (with_reducible exact ih0 _ _ _ _ _)
      | (with_reducible exact LeO.refl _)
      | (with_reducible exact LeO.none _)
      | (with_reducible refine LeO.ite ?_ ?_)
      | (with_reducible refine LeO.bind ?_ (fun _ => ?_))
      | exact ih0 _ _ _ _ _
      | exact LeO.none _
      | refine LeO.ite ?_ ?_
      | refine LeO.bind ?_ (fun _ => ?_)
set_option maxHeartbeats 8000000 in
set_option maxRecDepth 100000 in
theorem impl_distance.calls (k : Nat) (A0 : Option Addr) (c0 : Nat) (l0 : List Int) (A1 : Option Addr) (c1 : Nat) (l1 : List Int) (r : Int) (w : World) (hr0 : Kd.C (Kd.int .i64) w A0 l0.length l0) (hc0 : l0.length ≤ c0) (hr1 : Kd.C (Kd.int .i64) w A1 l1.length l1) (hc1 : l1.length ≤ c1) (h : impl_distance.f k l0 l1 = some r) :
    Calls Try.prog 57 #[.slice A0 l0.length c0, .slice A1 l1.length c1] w fun e w' => e = .returned (.int .i64 r) ∧ Below w.heap.size w w' := by
  have HR0 := Aside0.mk hr0
  have HC0 := Aside0.mk hc0
  clear hr0 hc0
  have HR1 := Aside0.mk hr1
  have HC1 := Aside0.mk hc1
  clear hr1 hc1
  have HB := Aside0.mk (Below.refl w.heap.size w)
  have H : (impl_distance.l0 k l0 l1 0 (l0.length : Int) 0) = some r := h
  clear h
  have H' := Aside0.mk H
  clear H
  go_enter Try.func57, Try.ntmps57
  go_wp2
  repeat (go_quiet (fail); try go_wp2)
  go_loopg [5, 9] k (fun kq v5 v9 w' => ∃ (x5_1 : Int) (x9_1 : Int), v5 = .int .i64 x5_1 ∧ v9 = .int .i64 x9_1 ∧ Aside0 (impl_distance.l0 kq l0 l1 x5_1 (l0.length : Int) x9_1 = some r) ∧ Aside0 (kq ≤ k) ∧ Aside0 (Below w.heap.size w w'))
  case atStart => exact ⟨(0), (0), (by first | rfl | (simp; done) | (simp [*]; done)), (by first | rfl | (simp; done) | (simp [*]; done)), H', ⟨Nat.le_refl _⟩, ⟨by repeat (first | (with_reducible first | exact HB.out | apply below_alloc | apply pw_below_drewN | apply below_drew1) | exact HB.out)⟩⟩
  case round =>
    clear H'
    try clear c1
    try clear p2
    obtain ⟨x5_1, x9_1, rfl, rfl, HA, HK1, HB⟩ := hrel
    cases gk with
    | zero => exact absurd HA.out (by simp [impl_distance.l0])
    | succ k1 =>
      have H := HA.out
      clear HA
      simp only [impl_distance.l0] at H
      by_cases c3 : x9_1 < (l0.length : Int)
      · rw [if_pos c3] at H
        have c3b0 : decide (x9_1 < (l0.length : Int)) = true := decide_eq_true c3
        clear c3
        by_cases c4 : 0 ≤ x9_1
        · rw [if_pos c4] at H
          have c4b0 : decide (0 ≤ x9_1) = true := decide_eq_true c4
          clear c4
          by_cases c5 : x9_1 < (l0.length : Int)
          · rw [if_pos c5] at H
            have c5b0 : decide (x9_1 < (l0.length : Int)) = true := decide_eq_true c5
            clear c5
            by_cases c6 : x9_1 < (l1.length : Int)
            · rw [if_pos c6] at H
              have c6b0 : decide (x9_1 < (l1.length : Int)) = true := decide_eq_true c6
              clear c6
              obtain ⟨ji7, hji7⟩ : ∃ j_ : Int, (mx (wrap64 ((rd l0 x9_1) - (rd l1 x9_1))) (wrap64 ((rd l1 x9_1) - (rd l0 x9_1)))) = j_ := ⟨_, rfl⟩
              replace H : (impl_distance.l0 k1 l0 l1 (wrap64 (x5_1 + (ji7))) (l0.length : Int) (wrap64 (x9_1 + 1))) = some r := by first | (rw [hji7] at H; exact H) | (simp only [hji7] at H ⊢; exact H)
              have hji7_ : (if (wrap64 ((rd l0 x9_1) - (rd l1 x9_1))) < (wrap64 ((rd l1 x9_1) - (rd l0 x9_1))) then (wrap64 ((rd l1 x9_1) - (rd l0 x9_1))) else (wrap64 ((rd l0 x9_1) - (rd l1 x9_1)))) = ji7 := hji7
              have H' := Aside0.mk H
              clear H
              have p130 : 0 ≤ (x9_1 : Int) := of_decide_eq_true (by first | (with_reducible assumption) | assumption)
              have q130 : x9_1 < (l0.length : Int) := of_decide_eq_true (by first | (with_reducible assumption) | assumption)
              obtain ⟨ad130, e130, hx130_0⟩ := Kd.at_int HR0.out x9_1 p130 q130
              cases e130
              replace hx130_0 := (HB.out.cell (World.block_lt_of_cell? w _ hx130_0)).trans hx130_0
              replace p130 := eq_true p130
              replace q130 := eq_true q130
              have p131 : 0 ≤ (x9_1 : Int) := of_decide_eq_true (by first | (with_reducible assumption) | assumption)
              have q131 : x9_1 < (l1.length : Int) := of_decide_eq_true (by first | (with_reducible assumption) | assumption)
              obtain ⟨ad131, e131, hx131_0⟩ := Kd.at_int HR1.out x9_1 p131 q131
              cases e131
              replace hx131_0 := (HB.out.cell (World.block_lt_of_cell? w _ hx131_0)).trans hx131_0
              replace p131 := eq_true p131
              replace q131 := eq_true q131
              have p132 : 0 ≤ (x9_1 : Int) := of_decide_eq_true (by first | (with_reducible assumption) | assumption)
              have q132 : x9_1 < (l1.length : Int) := of_decide_eq_true (by first | (with_reducible assumption) | assumption)
              obtain ⟨ad132, e132, hx132_0⟩ := Kd.at_int HR1.out x9_1 p132 q132
              obtain rfl : ad131 = ad132 := (by injection e132)
              replace hx132_0 := (HB.out.cell (World.block_lt_of_cell? w _ hx132_0)).trans hx132_0
              replace p132 := eq_true p132
              replace q132 := eq_true q132
              have p133 : 0 ≤ (x9_1 : Int) := of_decide_eq_true (by first | (with_reducible assumption) | assumption)
              have q133 : x9_1 < (l0.length : Int) := of_decide_eq_true (by first | (with_reducible assumption) | assumption)
              obtain ⟨ad133, e133, hx133_0⟩ := Kd.at_int HR0.out x9_1 p133 q133
              obtain rfl : ad130 = ad133 := (by injection e133)
              replace hx133_0 := (HB.out.cell (World.block_lt_of_cell? w _ hx133_0)).trans hx133_0
              replace p133 := eq_true p133
              replace q133 := eq_true q133
              go_wp2
              repeat (go_quiet (fail); try go_wp2)
              go_roundg k1
              case measure => have := HK1.out; omega
              case rel => exact ⟨(wrap64 (x5_1 + (ji7))), (wrap64 (x9_1 + 1)), (by first | rfl | (simp; done) | (simp only [← hji7] <;> (first | rfl | simp)) | (simp [*]; done)), (by first | rfl | (simp; done) | (simp [*]; done)), H', ⟨by have := HK1.out; omega⟩, ⟨by repeat (first | (with_reducible first | exact HB.out | apply below_alloc | apply pw_below_drewN | apply below_drew1) | exact HB.out)⟩⟩
            · rw [if_neg c6] at H
              exact absurd H (by simp)
          · rw [if_neg c5] at H
            exact absurd H (by simp)
        · rw [if_neg c4] at H
          exact absurd H (by simp)
      · rw [if_neg c3] at H
        have c3b0 : decide (x9_1 < (l0.length : Int)) = false := decide_eq_false c3
        clear c3
        obtain rfl := Option.some.inj H
        go_wp2
        repeat (go_quiet (fail); try go_wp2)
        go_ret
        exact ⟨by first | rfl | (simp [errW_none, errW_some] <;> rfl) | (simp [*, errW_none, errW_some] <;> rfl), by repeat (first | (with_reducible first | exact HB.out | apply below_alloc | apply pw_below_drewN | apply below_drew1) | exact HB.out)⟩

/-! ### impl_NearestHeard: function 23 (by hand) -/
def near_dst (k : Nat) (l1 c : List Int) : Option Int := (impl_ThirdsOf.f k c).bind fun t => impl_distance.f k t l1
def near_l (k : Nat) (l1 : List Int) : List S29 → List Int → Int → Option (List Int × Int × Bool)
  | [], b, d => some (b, d, true)
  | c :: cs, b, d => (near_dst k l1 c.f0).bind fun e => if e < d then near_l k l1 cs c.f0 e else near_l k l1 cs b d
def near_in (n : Int) : Bool := decide (-200 ≤ n ∧ n ≤ 200)
def near_f (k : Nat) (a0 : Int) (l1 : List Int) : Option (List Int × Int × Bool) := (impl_FamilyOf.f k a0).bind fun fam => if 1000000 < fam.length then none else
  if fam.length = 0 ∨ ¬ l1.length = 12 then some ([], 0, false) else if l1.all near_in = true then (near_dst k l1 (rd_T29 fam 0).f0).bind fun d => near_l k l1 fam (rd_T29 fam 0).f0 d else some ([], 0, false)
def impl_NearestHeard.f (a0 : Int) (l1 : List Int) : Option (List Int × Int × Bool) := near_f 1048700 a0 l1
theorem near_new (w : World) (o : Obj) : (w.alloc o).heap[w.heap.size]? = some o := by
  first
    | exact Below.heap_alloc_new w o
    | (rw [World.alloc_eq]; simp; done)
    | (simp [World.alloc_eq]; done)
    | (unfold World.alloc; simp; done)
    | (simp; done)
theorem near_within (n : Int) : impl_within.f n (-200) 200 = some (near_in n) := by
  unfold impl_within.f near_in
  by_cases h : -200 ≤ n <;> simp [h]
theorem near_drop (l : List S29) (i : Nat) (h : i < l.length) : l.drop i = rd_T29 l (i : Int) :: l.drop (i + 1) := by
  rw [List.drop_eq_getElem_cons h]; simp [rd_T29, h]
/-- What the second loop keeps. -/
structure NearAt (w wr : World) (g4 g10 : Nat) (Af : Option Addr) (cf : Nat) (fam : List S29) (Ab : Option Addr) (cb : Nat) (b : List Int) : Prop where
  hS : Kd.S k29 29 wr w.heap.size (fun k => k ≠ g4 ∧ k ≠ g10) (.slice Af fam.length cf) fam
  h4 : wr.heap[g4]? = some (.cells #[.slice none 0 0] 29 (0, 0))
  h10 : wr.heap[g10]? = some (.cells #[.slice Ab b.length cb] 29 (0, 0))
  hR : Kd.R (Kd.int .i64) 3 wr w.heap.size (fun _ => True) (.slice Ab b.length cb) b
  hB : Below w.heap.size w wr
theorem NearAt.below {w wr w2 : World} {g4 g10 : Nat} {Af : Option Addr} {cf : Nat} {fam : List S29} {Ab : Option Addr} {cb : Nat} {b : List Int} (h : NearAt w wr g4 g10 Af cf fam Ab cb b) (hb : Below wr.heap.size wr w2) : NearAt w w2 g4 g10 Af cf fam Ab cb b :=
  ⟨Kd.S_below h.hS hb, blk_below h.h4 hb, blk_below h.h10 hb, Kd.R_below h.hR hb, below_step h.hB hb⟩
theorem NearAt.alloc {w wr : World} {g4 g10 : Nat} {Af : Option Addr} {cf : Nat} {fam : List S29} {Ab : Option Addr} {cb : Nat} {b : List Int} (h : NearAt w wr g4 g10 Af cf fam Ab cb b) (o : Obj) : NearAt w (wr.alloc o) g4 g10 Af cf fam Ab cb b :=
  h.below (below_alloc (Below.refl _ _) o)
/-- Another circle is stored as the best. -/
theorem NearAt.put {w wr : World} {g4 g10 : Nat} {Af : Option Addr} {cf : Nat} {fam : List S29} {Ab : Option Addr} {cb : Nat} {b : List Int} (h : NearAt w wr g4 g10 Af cf fam Ab cb b) (hn : g4 ≠ g10) (hg : w.heap.size ≤ g10)
    {A : Option Addr} {n : Nat} {c : List Int} (hc : Kd.R (Kd.int .i64) 3 wr w.heap.size (fun _ => True) (.slice A c.length n) c) : NearAt w (wr.setCell ⟨g10, 0, none⟩ (.slice A c.length n)) g4 g10 Af cf fam A n c :=
  ⟨Kd.S_far h.hS (fun k hk => hk.2) _, (Below.heap_setCell wr ⟨g10, 0, none⟩ _ g4 hn).trans h.h4, blk_put h.h10 0 _ rfl, Kd.R_mono (Kd.R_far (Kd.R_types hc h.h10 (by decide)) (fun k hk => hk.2) _) (fun _ hk => hk.1), below_set h.hB hg⟩
/-- The circle at i, read. -/
theorem NearAt.at {w wr : World} {g4 g10 : Nat} {Af : Option Addr} {cf : Nat} {fam : List S29} {Ab : Option Addr} {cb : Nat} {b : List Int} (h : NearAt w wr g4 g10 Af cf fam Ab cb b) (i : Nat) (hi : i < fam.length) :
    ∃ ad A c, Af = some ad ∧ wr.cell? (ad.add i) = some (.slice A (rd_T29 fam i).f0.length c) ∧ (rd_T29 fam i).f0.length ≤ c ∧ Kd.R (Kd.int .i64) 3 wr w.heap.size (fun _ => True) (.slice A (rd_T29 fam i).f0.length c) (rd_T29 fam i).f0 := by
  obtain ⟨ad, A, c, e, hx, hl, hi2⟩ := at_T29 (Kd.S_reads' h.hS).2.2 (i : Int) (by omega) (by omega)
  subst e
  obtain ⟨ce, hce, hM, hcc⟩ := Kd.S_get h.hS z29 (i : Int) (by omega) (by omega)
  obtain ⟨v, rfl, hR⟩ := k29_openM hM
  have hv := hcc 0 _ rfl
  rw [Nat.add_zero, show (k29).sz = 1 from rfl, Nat.mul_one] at hv
  replace hv := Option.some.inj (hv.symm.trans hx)
  rw [hv] at hR
  rw [Int.toNat_natCast] at hx
  exact ⟨ad, A, c, rfl, hx, hl, Kd.R_mono hR (fun _ _ => trivial)⟩
set_option maxHeartbeats 4000000 in
set_option maxRecDepth 100000 in
theorem near_calls (k : Nat) (a0 : Int) (A1 : Option Addr) (c1 : Nat) (l1 : List Int) (r1 : List Int) (r2 : Int) (r3 : Bool) (w : World) (hr1 : Kd.C (Kd.int .i64) w A1 l1.length l1) (hc1 : l1.length ≤ c1) (h : near_f k a0 l1 = some (r1, r2, r3)) :
    Calls Try.prog 23 #[.int .i64 a0, .slice A1 l1.length c1] w fun e w' => ∃ v0_ : Value, e = .returned (.tuple #[.agg #[v0_], .int .i64 r2, .bool r3]) ∧ Kd.R (Kd.int .i64) 3 w' w.heap.size (fun _ => True) v0_ r1 ∧ Below w.heap.size w w' := by
  have hu29 := Try.underlying29
  have HR1 := Aside0.mk hr1
  clear hr1
  unfold near_f at h
  obtain ⟨fam, hfam, h⟩ := Option.bind_eq_some_iff.mp h
  have HF := Aside0.mk hfam
  clear hfam
  by_cases hbig : 1000000 < fam.length
  · rw [if_pos hbig] at h; cases h
  rw [if_neg hbig] at h
  have HBIG := Aside0.mk (show fam.length ≤ 1000000 by omega)
  clear hbig
  by_cases h0 : fam.length = 0
  · rw [if_pos (.inl h0)] at h
    simp only [Option.some.injEq, Prod.mk.injEq] at h
    obtain ⟨rfl, rfl, rfl⟩ := h
    have hz : ((fam.length : Int) == 0) = true := by rw [h0]; rfl
    clear h0
    go_enter Try.func23, Try.ntmps23
    go_wp2_with (first | ((with_reducible refine gate_dst (N := 4) rfl ?_); refine box_event ?hg (N := 4) ?hd (cs := #[.slice none 0 0]) (t := 29) ?hr ?_; (case hd => rfl); (case hg => rfl); (case hr => first | (go_simp; done) | (go_simp; rfl)); intro g4 hg w4 hbox hb; have BK4 := Aside0.mk hbox; have HB4 := Aside0.mk (show Below w.heap.size w w4 from hb); have GE4 := Aside0.mk (show w.heap.size ≤ g4 from Nat.le_of_eq hg.symm); clear hb hbox hg) | ((with_reducible refine gate_callee (f := 14) rfl ?_); refine goesL_ (some 16) rfl rfl Try.func14 (by kernel_rfl) rfl #[.int .i64 a0] rfl (by (try simp only [List.map_toArray, List.map_cons, List.map_nil]); first | done | rfl) ?_; refine (impl_FamilyOf.calls k a0 fam _ HF.out).mono ?_; rintro e w5 ⟨v5, rfl, ho0, hb⟩; refine ⟨_, rfl, ?_⟩; obtain ⟨Af, cf, ef⟩ := Kd.S_slice ho0; subst ef; have HS5 := Aside0.mk (Kd.S_mono (Kd.S_lower (Kd.S_newB ho0 BK4.out) HB4.out.size) (fun _ hk => hk.2)); have BK5 := Aside0.mk (blk_below BK4.out hb); have HB5 := Aside0.mk (below_step HB4.out hb); clear ho0 hb BK4 HB4; have hc4 : w5.cell? ⟨g4, 0, none⟩ = some (.slice none 0 0) := (blk_cell BK5.out 0).trans rfl; have hf4 := blk_frozen BK5.out 0))
    (refine bodyPost_ret (results_ctt rfl _ _ g4 29 #[.slice none 0 0] (0, 0) _ rfl (by (with_reducible repeat (first | refine blk_drewN ?_ _ | refine blk_drew ?_ | refine blk_alloc ?_ _)); refine blk_put (cs := #[.slice none 0 0]) ?_ 0 _ rfl; (with_reducible repeat (first | refine blk_drewN ?_ _ | refine blk_drew ?_ | refine blk_alloc ?_ _)); exact BK5.out) Try.underlying29 rfl (by kernel_rfl)) rfl ?_; exact ⟨_, by first | rfl | (simp; done), Kd.R_nil _ _ _ _ _, below_set HB5.out GE4.out⟩)
  have hz : ((fam.length : Int) == 0) = false := by simp; intro e; rw [e] at h0; exact h0 rfl
  by_cases h12 : l1.length = 12
  case neg =>
    rw [if_pos (.inr h12)] at h
    simp only [Option.some.injEq, Prod.mk.injEq] at h
    obtain ⟨rfl, rfl, rfl⟩ := h
    have hy : ((l1.length : Int) != 12) = true := by simp; omega
    clear h0 h12
    go_enter Try.func23, Try.ntmps23
    go_wp2_with (first | ((with_reducible refine gate_dst (N := 4) rfl ?_); refine box_event ?hg (N := 4) ?hd (cs := #[.slice none 0 0]) (t := 29) ?hr ?_; (case hd => rfl); (case hg => rfl); (case hr => first | (go_simp; done) | (go_simp; rfl)); intro g4 hg w4 hbox hb; have BK4 := Aside0.mk hbox; have HB4 := Aside0.mk (show Below w.heap.size w w4 from hb); have GE4 := Aside0.mk (show w.heap.size ≤ g4 from Nat.le_of_eq hg.symm); clear hb hbox hg) | ((with_reducible refine gate_callee (f := 14) rfl ?_); refine goesL_ (some 16) rfl rfl Try.func14 (by kernel_rfl) rfl #[.int .i64 a0] rfl (by (try simp only [List.map_toArray, List.map_cons, List.map_nil]); first | done | rfl) ?_; refine (impl_FamilyOf.calls k a0 fam _ HF.out).mono ?_; rintro e w5 ⟨v5, rfl, ho0, hb⟩; refine ⟨_, rfl, ?_⟩; obtain ⟨Af, cf, ef⟩ := Kd.S_slice ho0; subst ef; have HS5 := Aside0.mk (Kd.S_mono (Kd.S_lower (Kd.S_newB ho0 BK4.out) HB4.out.size) (fun _ hk => hk.2)); have BK5 := Aside0.mk (blk_below BK4.out hb); have HB5 := Aside0.mk (below_step HB4.out hb); clear ho0 hb BK4 HB4; have hc4 : w5.cell? ⟨g4, 0, none⟩ = some (.slice none 0 0) := (blk_cell BK5.out 0).trans rfl; have hf4 := blk_frozen BK5.out 0))
    (refine bodyPost_ret (results_ctt rfl _ _ g4 29 #[.slice none 0 0] (0, 0) _ rfl (by (with_reducible repeat (first | refine blk_drewN ?_ _ | refine blk_drew ?_ | refine blk_alloc ?_ _)); refine blk_put (cs := #[.slice none 0 0]) ?_ 0 _ rfl; (with_reducible repeat (first | refine blk_drewN ?_ _ | refine blk_drew ?_ | refine blk_alloc ?_ _)); exact BK5.out) Try.underlying29 rfl (by kernel_rfl)) rfl ?_; exact ⟨_, by first | rfl | (simp; done), Kd.R_nil _ _ _ _ _, below_set HB5.out GE4.out⟩)
  have hy : ((l1.length : Int) != 12) = false := by simp; omega
  rw [if_neg (by omega)] at h
  have HNE := Aside0.mk (show 0 < fam.length by omega)
  have H12 := Aside0.mk h12
  clear h0 h12
  have HH := Aside0.mk h
  clear h
  go_enter Try.func23, Try.ntmps23
  go_wp2_with (first | ((with_reducible refine gate_dst (N := 4) rfl ?_); refine box_event ?hg (N := 4) ?hd (cs := #[.slice none 0 0]) (t := 29) ?hr ?_; (case hd => rfl); (case hg => rfl); (case hr => first | (go_simp; done) | (go_simp; rfl)); intro g4 hg w4 hbox hb; have BK4 := Aside0.mk hbox; have HB4 := Aside0.mk (show Below w.heap.size w w4 from hb); have GE4 := Aside0.mk (show w.heap.size ≤ g4 from Nat.le_of_eq hg.symm); clear hb hbox hg) | ((with_reducible refine gate_callee (f := 14) rfl ?_); refine goesL_ (some 16) rfl rfl Try.func14 (by kernel_rfl) rfl #[.int .i64 a0] rfl (by (try simp only [List.map_toArray, List.map_cons, List.map_nil]); first | done | rfl) ?_; refine (impl_FamilyOf.calls k a0 fam _ HF.out).mono ?_; rintro e w5 ⟨v5, rfl, ho0, hb⟩; refine ⟨_, rfl, ?_⟩; obtain ⟨Af, cf, ef⟩ := Kd.S_slice ho0; subst ef; have HS5 := Aside0.mk (Kd.S_mono (Kd.S_lower (Kd.S_newB ho0 BK4.out) HB4.out.size) (fun _ hk => hk.2)); have BK5 := Aside0.mk (blk_below BK4.out hb); have HB5 := Aside0.mk (below_step HB4.out hb); clear ho0 hb BK4 HB4; have hc4 : w5.cell? ⟨g4, 0, none⟩ = some (.slice none 0 0) := (blk_cell BK5.out 0).trans rfl; have hf4 := blk_frozen BK5.out 0))
  clear hc4 hf4
  go_loopw [28] (fun i w' => ∃ j : Nat, j ≤ l1.length ∧ i = .int .i64 j ∧ Aside0 (∀ m : Nat, m < j → near_in (rd l1 m) = true) ∧ Aside0 (Kd.S k29 29 w' w.heap.size (fun k => k ≠ g4) (.slice Af fam.length cf) fam) ∧ Aside0 (w'.heap[g4]? = some (.cells #[.slice none 0 0] 29 (0, 0))) ∧ Aside0 (Below w.heap.size w w'))
    (fun i _ => l1.length - (intOf i).toNat)
  case atStart => exact ⟨0, by omega, rfl, ⟨fun m hm => by omega⟩, HS5, BK5, HB5⟩
  case round =>
    clear HS5 BK5 HB5
    obtain ⟨j, hj, rfl, HI, HS, BK, HB⟩ := hrel
    have hj12 : j ≤ 12 := by have := H12.out; omega
    by_cases hlt : j < l1.length
    · have hp : (0 : Int) ≤ (j : Int) := by omega
      have hq : (j : Int) < (l1.length : Int) := by omega
      obtain ⟨ad, e, hx0⟩ := Kd.at_int (Kd.C_below HR1.out HB.out) (j : Int) hp hq
      subst e
      rw [Int.toNat_natCast] at hx0
      generalize hrx : rd l1 (j : Int) = x at hx0
      have HRX := Aside0.mk hrx
      clear hrx
      have HJ := Aside0.mk (show j < l1.length from hlt)
      by_cases hn : near_in x = true
      · have HX := Aside0.mk (show impl_within.f x (-200) 200 = some true by rw [near_within, hn])
        have HN := Aside0.mk hn
        clear hn
        go_wp2_with (first | ((with_reducible refine gate_callee (f := 51) rfl ?_); refine goesL_ (some 33) rfl rfl Try.func51 (by kernel_rfl) rfl #[.int .i64 x, .int .i64 (-200), .int .i64 200] rfl (by (try simp only [List.map_toArray, List.map_cons, List.map_nil]); first | done | rfl) ?_; (refine (impl_within.calls x (-200) 200 true _ HX.out).mono ?_); rintro e w' ⟨rfl, ⟨nd, rfl⟩⟩; refine ⟨_, rfl, ?_⟩))
        go_roundw
        case rel => exact ⟨j + 1, by omega, by go_num, ⟨fun m hm => by rcases Nat.lt_succ_iff_lt_or_eq.1 hm with h | rfl; exact HI.out m h; rw [HRX.out]; exact HN.out⟩, ⟨Kd.S_drewN HS.out _⟩, ⟨blk_drewN BK.out _⟩, ⟨pw_below_drewN HB.out _⟩⟩
        case measure => simp [intOf]; omega
      · have HX := Aside0.mk (show impl_within.f x (-200) 200 = some false by rw [near_within, Bool.eq_false_iff.2 hn])
        have hall : ¬ l1.all near_in = true := by
          intro q
          rw [List.all_eq_true] at q
          refine hn (q x ?_)
          rw [← HRX.out]; unfold rd
          rw [Int.toNat_natCast, List.getD_eq_getElem?_getD, List.getElem?_eq_getElem hlt]
          exact List.getElem_mem _
        have h := HH.out
        rw [if_neg hall] at h
        simp only [Option.some.injEq, Prod.mk.injEq] at h
        obtain ⟨rfl, rfl, rfl⟩ := h
        clear hn hall
        have hc4 : wr.cell? ⟨g4, 0, none⟩ = some (.slice none 0 0) := (blk_cell BK.out 0).trans rfl
        have hf4 := blk_frozen BK.out 0
        go_wp2_with (first | ((with_reducible refine gate_callee (f := 51) rfl ?_); refine goesL_ (some 33) rfl rfl Try.func51 (by kernel_rfl) rfl #[.int .i64 x, .int .i64 (-200), .int .i64 200] rfl (by (try simp only [List.map_toArray, List.map_cons, List.map_nil]); first | done | rfl) ?_; (refine (impl_within.calls x (-200) 200 false _ HX.out).mono ?_); rintro e w' ⟨rfl, ⟨nd, rfl⟩⟩; refine ⟨_, rfl, ?_⟩))
        (refine bodyPost_ret (results_ctt rfl _ _ g4 29 #[.slice none 0 0] (0, 0) _ rfl (by (with_reducible repeat (first | refine blk_drewN ?_ _ | refine blk_drew ?_ | refine blk_alloc ?_ _)); refine blk_put (cs := #[.slice none 0 0]) ?_ 0 _ rfl; (with_reducible repeat (first | refine blk_drewN ?_ _ | refine blk_drew ?_ | refine blk_alloc ?_ _)); exact BK.out) Try.underlying29 rfl (by kernel_rfl)) rfl ?_; exact ⟨_, by first | rfl | (simp; done), Kd.R_nil _ _ _ _ _, below_set (pw_below_drewN HB.out _) GE4.out⟩)
    · have hall : l1.all near_in = true := by
        rw [List.all_eq_true]
        intro x hx
        obtain ⟨m, hm, rfl⟩ := List.getElem_of_mem hx
        have := HI.out m (by omega)
        unfold rd at this
        rw [Int.toNat_natCast, List.getD_eq_getElem?_getD, List.getElem?_eq_getElem hm] at this
        exact this
      have h := HH.out
      rw [if_pos hall] at h
      clear hall HI HH
      obtain ⟨d0, hd0, h⟩ := Option.bind_eq_some_iff.mp h
      obtain ⟨t0, ht0, hd0⟩ := Option.bind_eq_some_iff.mp hd0
      have HH := Aside0.mk h
      have HT0 := Aside0.mk ht0
      have HD0 := Aside0.mk hd0
      clear h ht0 hd0
      obtain rfl : j = l1.length := by omega
      have hq0 : (0 : Int) < (fam.length : Int) := by have := HNE.out; omega
      obtain ⟨ad, Ab, cb, e, hx, hl, hi2⟩ := at_T29 (Kd.S_reads' HS.out).2.2 (0 : Int) (by omega) hq0
      subst e
      obtain ⟨ce, hce, hM, hcc⟩ := Kd.S_get HS.out z29 (0 : Int) (by omega) hq0
      obtain ⟨v, rfl, hR⟩ := k29_openM hM
      have hv := hcc 0 _ rfl
      rw [Nat.add_zero, show (k29).sz = 1 from rfl, Nat.mul_one] at hv
      replace hv := Option.some.inj (hv.symm.trans hx)
      rw [hv] at hR
      clear hv hcc hM hce hi2
      rw [show ((0 : Int)).toNat = 0 from rfl] at hx
      have had : ad.add 0 = ad := by first | rfl | exact Addr.add_zero _ | (cases ad; simp [Addr.add])
      rw [had] at hx
      clear had
      replace hR : Kd.R (Kd.int .i64) 3 wr w.heap.size _ (.slice Ab (rd_T29 fam (0 : Int)).f0.length cb) (rd_T29 fam (0 : Int)).f0 := hR
      generalize hrb : (rd_T29 fam (0 : Int)).f0 = b at hx hl hR HH HT0
      have HL := Aside0.mk hl
      have HRb := Aside0.mk (Kd.R_mono hR (fun _ _ => trivial) : Kd.R (Kd.int .i64) 3 wr w.heap.size (fun _ => True) (.slice Ab b.length cb) b)
      clear hl hR
      have HNW := Aside0.mk (NearAt.mk (w := w) (wr := wr.alloc (.cells #[.slice Ab b.length cb] 29)) (g4 := g4) (g10 := wr.heap.size) (Kd.S_alloc (Kd.S_elderB HS.out wr.heap.size (Nat.le_refl _)) _) (blk_alloc BK.out _) (near_new _ _) (Kd.R_alloc HRb.out _) (below_alloc HB.out _))
      have NE := Aside0.mk (show g4 ≠ wr.heap.size from Nat.ne_of_lt (blk_lt BK.out))
      have GE10 := Aside0.mk (show w.heap.size ≤ wr.heap.size from HB.out.size)
      clear HS BK HB HRb
      have hcell : (wr.alloc (.cells #[.slice Ab b.length cb] 29)).cell? ⟨wr.heap.size, 0, none⟩ = some (.slice Ab b.length cb) := (blk_cell HNW.out.h10 0).trans rfl
      go_wp2_with (first | ((with_reducible refine gate_callee (f := 25) rfl ?_); refine goesL_ (some 41) rfl rfl Try.func25 (by kernel_rfl) rfl #[.agg #[.slice Ab b.length cb]] rfl (by (try simp only [List.map_toArray, List.map_cons, List.map_nil]); first | done | rfl) ?_; (refine (impl_ThirdsOf.calls k Ab cb b t0 _ (Kd.R_reads' HNW.out.hR).2.2 HL.out HT0.out).mono ?_); rintro e w6 ⟨v6, rfl, ho6, hb6⟩; refine ⟨_, rfl, ?_⟩; have HB6 := Aside0.mk hb6; obtain ⟨A6, c6, e6⟩ := Kd.R_slice ho6; subst e6; have HO6 := Aside0.mk ho6; clear ho6 hb6) | ((with_reducible refine gate_callee (f := 57) rfl ?_); refine goesL_ (some 43) rfl rfl Try.func57 (by kernel_rfl) rfl #[.slice A6 t0.length c6, .slice A1 l1.length c1] rfl (by (try simp only [List.map_toArray, List.map_cons, List.map_nil]); first | done | rfl) ?_; (refine (impl_distance.calls k A6 c6 t0 A1 c1 l1 d0 _ (Kd.R_reads' HO6.out).2.2 (Kd.R_reads' HO6.out).2.1 (Kd.C_below HR1.out (below_step HNW.out.hB HB6.out)) hc1 HD0.out).mono ?_); rintro e w7 ⟨rfl, hb7⟩; refine ⟨_, rfl, ?_⟩; have HB7 := Aside0.mk hb7; clear hb7))
      have HN7 := Aside0.mk ((HNW.out.below HB6.out).below HB7.out)
      clear HNW HB6 HB7 HO6 hcell
      generalize wr.heap.size = g10 at HN7 NE GE10 ⊢
      go_loopw [11, 46] (fun vd vi w' => ∃ (i : Nat) (b2 : List Int) (A2 : Option Addr) (c2 : Nat) (d2 : Int), i ≤ fam.length ∧ vd = .int .i64 d2 ∧ vi = .int .i64 i ∧ Aside0 (near_l k l1 (fam.drop i) b2 d2 = some (r1, r2, r3)) ∧ Aside0 (NearAt w w' g4 g10 (some ad) cf fam A2 c2 b2))
        (fun _ vi _ => fam.length - (intOf vi).toNat)
      case atStart => exact ⟨0, b, Ab, cb, d0, by omega, rfl, rfl, ⟨by rw [List.drop_zero]; exact HH.out⟩, HN7⟩
      case round =>
        clear HN7 HH
        obtain ⟨i, b2, A2, c2, d2, hi, rfl, rfl, HH, HNW⟩ := hrel
        have hi2 : i ≤ 1000000 := by have := HBIG.out; omega
        by_cases hlt : i < fam.length
        · obtain ⟨ad2, A, n, e, hx2, hlc, hRc⟩ := HNW.out.at i hlt
          obtain rfl := Option.some.inj e
          have hh := HH.out
          rw [near_drop fam i hlt, near_l] at hh
          obtain ⟨d1, hd1, hh⟩ := Option.bind_eq_some_iff.mp hh
          obtain ⟨t1, ht1, hd1⟩ := Option.bind_eq_some_iff.mp hd1
          generalize hrc : rd_T29 fam (i : Int) = c at hx2 hlc hRc hh ht1
          have HLc := Aside0.mk hlc
          have HRc := Aside0.mk hRc
          have HT1 := Aside0.mk ht1
          have HD1 := Aside0.mk hd1
          have HH2 := Aside0.mk hh
          clear hlc hRc ht1 hd1 hh HH
          by_cases hd : d1 < d2
          · go_wp2_with (first | ((with_reducible refine gate_callee (f := 25) rfl ?_); refine goesL_ (some 51) rfl rfl Try.func25 (by kernel_rfl) rfl #[.agg #[.slice A c.f0.length n]] rfl (by (try simp only [List.map_toArray, List.map_cons, List.map_nil]); first | done | rfl) ?_; (refine (impl_ThirdsOf.calls k A n c.f0 t1 _ (Kd.R_reads' (Kd.R_alloc HRc.out _)).2.2 HLc.out HT1.out).mono ?_); rintro e w6 ⟨v6, rfl, ho6, hb6⟩; refine ⟨_, rfl, ?_⟩; have HB6 := Aside0.mk hb6; obtain ⟨A6, c6, e6⟩ := Kd.R_slice ho6; subst e6; have HO6 := Aside0.mk ho6; clear ho6 hb6) | ((with_reducible refine gate_callee (f := 57) rfl ?_); refine goesL_ (some 53) rfl rfl Try.func57 (by kernel_rfl) rfl #[.slice A6 t1.length c6, .slice A1 l1.length c1] rfl (by (try simp only [List.map_toArray, List.map_cons, List.map_nil]); first | done | rfl) ?_; (refine (impl_distance.calls k A6 c6 t1 A1 c1 l1 d1 _ (Kd.R_reads' HO6.out).2.2 (Kd.R_reads' HO6.out).2.1 (Kd.C_below HR1.out (below_step (below_alloc HNW.out.hB _) HB6.out)) hc1 HD1.out).mono ?_); rintro e w7 ⟨rfl, hb7⟩; refine ⟨_, rfl, ?_⟩; have HB7 := Aside0.mk hb7; clear hb7; have hc13 : w7.cell? ⟨wr.heap.size, 0, none⟩ = some (.slice A c.f0.length n) := (blk_cell (blk_below (blk_below (near_new wr (.cells #[.slice A c.f0.length n] 29)) HB6.out) HB7.out) 0).trans rfl; have hc10 : w7.cell? ⟨g10, 0, none⟩ = some (.slice A2 b2.length c2) := (blk_cell (blk_below (blk_below (blk_alloc HNW.out.h10 _) HB6.out) HB7.out) 0).trans rfl; have hf10 := blk_frozen (blk_below (blk_below (blk_alloc HNW.out.h10 (.cells #[.slice A c.f0.length n] 29)) HB6.out) HB7.out) 0))
            have HN7 := Aside0.mk (((HNW.out.alloc (.cells #[.slice A c.f0.length n] 29)).below HB6.out).below HB7.out); have HR7 := Aside0.mk (Kd.R_below (Kd.R_below (Kd.R_alloc HRc.out (.cells #[.slice A c.f0.length n] 29)) HB6.out) HB7.out)
            go_roundw
            case rel => exact ⟨i + 1, c.f0, A, n, d1, by omega, rfl, by go_num, ⟨by have q := HH2.out; rw [if_pos hd] at q; exact q⟩, ⟨HN7.out.put NE.out GE10.out HR7.out⟩⟩
            case measure => simp [intOf]; omega
          · go_wp2_with (first | ((with_reducible refine gate_callee (f := 25) rfl ?_); refine goesL_ (some 51) rfl rfl Try.func25 (by kernel_rfl) rfl #[.agg #[.slice A c.f0.length n]] rfl (by (try simp only [List.map_toArray, List.map_cons, List.map_nil]); first | done | rfl) ?_; (refine (impl_ThirdsOf.calls k A n c.f0 t1 _ (Kd.R_reads' (Kd.R_alloc HRc.out _)).2.2 HLc.out HT1.out).mono ?_); rintro e w6 ⟨v6, rfl, ho6, hb6⟩; refine ⟨_, rfl, ?_⟩; have HB6 := Aside0.mk hb6; obtain ⟨A6, c6, e6⟩ := Kd.R_slice ho6; subst e6; have HO6 := Aside0.mk ho6; clear ho6 hb6) | ((with_reducible refine gate_callee (f := 57) rfl ?_); refine goesL_ (some 53) rfl rfl Try.func57 (by kernel_rfl) rfl #[.slice A6 t1.length c6, .slice A1 l1.length c1] rfl (by (try simp only [List.map_toArray, List.map_cons, List.map_nil]); first | done | rfl) ?_; (refine (impl_distance.calls k A6 c6 t1 A1 c1 l1 d1 _ (Kd.R_reads' HO6.out).2.2 (Kd.R_reads' HO6.out).2.1 (Kd.C_below HR1.out (below_step (below_alloc HNW.out.hB _) HB6.out)) hc1 HD1.out).mono ?_); rintro e w7 ⟨rfl, hb7⟩; refine ⟨_, rfl, ?_⟩; have HB7 := Aside0.mk hb7; clear hb7; have hc13 : w7.cell? ⟨wr.heap.size, 0, none⟩ = some (.slice A c.f0.length n) := (blk_cell (blk_below (blk_below (near_new wr (.cells #[.slice A c.f0.length n] 29)) HB6.out) HB7.out) 0).trans rfl; have hc10 : w7.cell? ⟨g10, 0, none⟩ = some (.slice A2 b2.length c2) := (blk_cell (blk_below (blk_below (blk_alloc HNW.out.h10 _) HB6.out) HB7.out) 0).trans rfl; have hf10 := blk_frozen (blk_below (blk_below (blk_alloc HNW.out.h10 (.cells #[.slice A c.f0.length n] 29)) HB6.out) HB7.out) 0))
            have HN7 := Aside0.mk (((HNW.out.alloc (.cells #[.slice A c.f0.length n] 29)).below HB6.out).below HB7.out); have HR7 := Aside0.mk (Kd.R_below (Kd.R_below (Kd.R_alloc HRc.out (.cells #[.slice A c.f0.length n] 29)) HB6.out) HB7.out)
            go_roundw
            case rel => exact ⟨i + 1, b2, A2, c2, d2, by omega, rfl, by go_num, ⟨by have q := HH2.out; rw [if_neg hd] at q; exact q⟩, HN7⟩
            case measure => simp [intOf]; omega
        · have q := HH.out
          rw [List.drop_eq_nil_of_le (by omega), near_l] at q
          simp only [Option.some.injEq, Prod.mk.injEq] at q
          obtain ⟨rfl, rfl, rfl⟩ := q
          have hc10 : wr.cell? ⟨g10, 0, none⟩ = some (.slice A2 b2.length c2) := (blk_cell HNW.out.h10 0).trans rfl
          have hc4 : wr.cell? ⟨g4, 0, none⟩ = some (.slice none 0 0) := (blk_cell HNW.out.h4 0).trans rfl
          have hf4 := blk_frozen HNW.out.h4 0
          go_wp2
          refine bodyPost_ret (results_ctt rfl _ _ g4 29 #[.slice A2 b2.length c2] (0, 0) _ rfl (blk_put (cs := #[.slice none 0 0]) HNW.out.h4 0 _ rfl) Try.underlying29 rfl (by kernel_rfl)) rfl ?_
          exact ⟨_, by first | rfl | (simp; done), Kd.R_mono (Kd.R_far (Kd.R_types HNW.out.hR HNW.out.h4 (by decide)) (fun _ hk => hk.2) _) (fun _ _ => trivial), below_set HNW.out.hB GE4.out⟩
theorem impl_NearestHeard.calls (a0 : Int) (A1 : Option Addr) (c1 : Nat) (l1 : List Int) (r1 : List Int) (r2 : Int) (r3 : Bool) (w : World) (hr1 : Kd.C (Kd.int .i64) w A1 l1.length l1) (hc1 : l1.length ≤ c1) (h : impl_NearestHeard.f a0 l1 = some (r1, r2, r3)) :
    Calls Try.prog 23 #[.int .i64 a0, .slice A1 l1.length c1] w fun e w' => ∃ v0_ : Value, e = .returned (.tuple #[.agg #[v0_], .int .i64 r2, .bool r3]) ∧ Kd.R (Kd.int .i64) 3 w' w.heap.size (fun _ => True) v0_ r1 ∧ Below w.heap.size w w' := by
  unfold impl_NearestHeard.f at h
  exact near_calls _ a0 A1 c1 l1 r1 r2 r3 w hr1 hc1 h

end Go.Proofs.Ytdcpbnddnbeofaa.PFnExactNearestHeard
