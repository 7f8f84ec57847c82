/- Functions that the law FnExactBestKeys reaches, each as a Lean function with the proof that the Go code comes to its answers. Conditions: none. Printed by the kit's print, repaired by a program of this session. -/
import Derived.Test.YtoljbcjpilcfiaaQFnExactBestKeysx0
import Derived.Test.YtoljbcjpilcfiaaQFnExactBestKeysx1
namespace Go.Proofs.Ytoljbcjpilcfiaa.PFnExactBestKeys
open Go.RowKit Go.Proofs.YtoljbcjpilcfiaaW.PrintWords Go.Proofs.YtoljbcjpilcfiaaW.PrintLast Go.Proofs.YtoljbcjpilcfiaaW.PrintMore
attribute [local go_sem] max2_int min2_int max_two min_two max_three min_three max_four min_four   -- for this text's walks alone
set_option linter.unusedVariables false
set_option linter.unusedSimpArgs false

/-! ### impl_BestKeys: function 59 (by hand) -/
/-- What holds while the list is sorted: the list's row is d's; the two variables that 'less' captures lie in blocks of their own. -/
structure SortAt (w0 wr : World) (gc go : Nat) (ad : Addr) (A : Option Addr) (n c cap : Nat) (d : List Int) : Prop where
  hR : Kd.R (Kd.int .i64) 3 wr w0.heap.size (fun _ => True) (.slice (some ad) d.length cap) d
  hc : wr.heap[gc]? = some (.cells #[.slice A n c] 49 (0, 0))
  ho : wr.heap[go]? = some (.cells #[.slice (some ad) d.length cap] 40 (0, 0))
  hB : Below w0.heap.size w0 wr
theorem SortAt.below {w0 w w' : World} {gc go : Nat} {ad : Addr} {A : Option Addr} {n c cap : Nat} {d : List Int} (H : SortAt w0 w gc go ad A n c cap d) (h : Below w.heap.size w w') : SortAt w0 w' gc go ad A n c cap d :=
  ⟨Kd.R_below H.hR h, blk_below H.hc h, blk_below H.ho h, below_step H.hB h⟩
set_option maxHeartbeats 8000000 in
set_option maxRecDepth 100000 in
theorem best_less (k : Nat) (l T : List Int) {w0 w : World} {gc go : Nat} {ad : Addr} {A : Option Addr} {c cap : Nat} {d : List Int} (hC : Kd.C (Kd.int .i64) w0 A l.length l) (hc : l.length ≤ c) (H : SortAt w0 w gc go ad A l.length c cap d) (ai bi : Int) (a0 : 0 ≤ ai) (a1 : ai < (d.length : Int)) (b0 : 0 ≤ bi) (b1 : bi < (d.length : Int))
    (ha : impl_ThirdParts.f k l (rd d ai) = some (rd T (rd d ai))) (hb_ : impl_ThirdParts.f k l (rd d bi) = some (rd T (rd d bi))) :
    Calls Try.prog 99 #[.int .i64 ai, .int .i64 bi, .pointer (some ⟨gc, 0, none⟩), .pointer (some ⟨go, 0, none⟩)] w fun e w' => e = .returned (.bool (decide (rd T (rd d bi) < rd T (rd d ai)))) ∧ Below w.heap.size w w' := by
  have hu49 := Try.underlying49
  have hu40 := Try.underlying40
  have HC := Aside0.mk hC
  obtain ⟨ad1, e1, hx1⟩ := Kd.at_int (Kd.R_reads' H.hR).2.2 ai a0 a1
  obtain ⟨ad2, e2, hx2⟩ := Kd.at_int (Kd.R_reads' H.hR).2.2 bi b0 b1
  obtain rfl : ad = ad1 := by injection e1
  obtain rfl : ad = ad2 := by injection e2
  clear e1 e2
  have HA := Aside0.mk H
  clear H hC
  have HX := Aside0.mk (And.intro hx1 hx2)
  clear hx1 hx2
  have p1 := eq_true a0
  have p2 := eq_true a1
  have p3 := eq_true b0
  have p4 := eq_true b1
  go_enter Try.func99, Try.ntmps99
  go_wp2
  refine start_ (n := 14) (S := fun w' => w'.cell? ⟨gc, 0, none⟩ = some (.slice A l.length c) ∧ w'.cell? ⟨go, 0, none⟩ = some (.slice (some ad) d.length cap) ∧ w'.cell? (ad.add ai.toNat) = some (.int .i64 (rd d ai)) ∧ w'.cell? (ad.add bi.toNat) = some (.int .i64 (rd d bi))) (ds := []) #[false, false, false, false, false, false, false, false, false, false, false, false, false, false] (by kernel_rfl) rfl rfl ⟨(blk_cell HA.out.hc 0).trans rfl, (blk_cell HA.out.ho 0).trans rfl, HX.out.1, HX.out.2⟩ (fun hHeld => ?_)
  have HB := Aside0.mk (below_drew1 HA.out.hB)
  have HW := Aside0.mk (below_drew1 (Below.refl w.heap.size w))
  clear HX
  generalize w.drew = wd at HB HW hHeld ⊢
  refine pure_ (i := 2) (N := some 9) (v := ?_) (a' := ?_) #[false, false, true, false, false, false, false, false, false, false, false, false, false, false] rfl rfl (by kernel_rfl) (fun _ _ _ h => h) (Or.inl ⟨by rfl, ?_⟩) ?_ ?_
  rotate_left
  · intro w'
    go_simp
    with_reducible rfl
  rotate_left
  · simp only [Act.put, List.setIfInBounds_toArray, List.set_cons_zero, List.set_cons_succ, i64_w, i32_w]
    rfl
  refine pure_ (i := 8) (N := some 15) (v := ?_) (a' := ?_) #[false, false, true, false, false, false, false, false, true, false, false, false, false, false] rfl rfl (by kernel_rfl) (fun _ _ _ h => h) (Or.inl ⟨by rfl, ?_⟩) ?_ ?_
  rotate_left
  · intro w'
    go_simp
    with_reducible rfl
  rotate_left
  · simp only [Act.put, List.setIfInBounds_toArray, List.set_cons_zero, List.set_cons_succ, i64_w, i32_w]
    rfl
  refine take_ (i := 0) (N := some 7) (v := ?_) (a' := ?_) #[true, false, true, false, false, false, false, false, true, false, false, false, false, false] rfl rfl (by kernel_rfl) (fun _ _ _ h => h) (Or.inl ⟨by rfl, ?_⟩) hHeld ?_ ?_
  rotate_left
  · rintro w' ⟨s0, s1, s2, s3⟩
    go_simp
    with_reducible rfl
  rotate_left
  · simp only [Act.put, List.setIfInBounds_toArray, List.set_cons_zero, List.set_cons_succ, i64_w, i32_w]
    rfl
  refine take_ (i := 1) (N := some 8) (v := ?_) (a' := ?_) #[true, true, true, false, false, false, false, false, true, false, false, false, false, false] rfl rfl (by kernel_rfl) (fun _ _ _ h => h) (Or.inl ⟨by rfl, ?_⟩) hHeld ?_ ?_
  rotate_left
  · rintro w' ⟨s0, s1, s2, s3⟩
    go_simp
    with_reducible rfl
  rotate_left
  · simp only [Act.put, List.setIfInBounds_toArray, List.set_cons_zero, List.set_cons_succ, i64_w, i32_w]
    rfl
  refine pure_ (i := 3) (N := some 10) (v := ?_) (a' := ?_) #[true, true, true, true, false, false, false, false, true, false, false, false, false, false] rfl rfl (by kernel_rfl) (fun _ _ _ h => h) (Or.inl ⟨by rfl, ?_⟩) ?_ ?_
  rotate_left
  · intro w'
    go_simp
    with_reducible rfl
  rotate_left
  · simp only [Act.put, List.setIfInBounds_toArray, List.set_cons_zero, List.set_cons_succ, i64_w, i32_w]
    rfl
  refine take_ (i := 4) (N := some 11) (v := ?_) (a' := ?_) #[true, true, true, true, true, false, false, false, true, false, false, false, false, false] rfl rfl (by kernel_rfl) (fun _ _ _ h => h) (Or.inl ⟨by rfl, ?_⟩) hHeld ?_ ?_
  rotate_left
  · rintro w' ⟨s0, s1, s2, s3⟩
    go_simp
    with_reducible rfl
  rotate_left
  · simp only [Act.put, List.setIfInBounds_toArray, List.set_cons_zero, List.set_cons_succ, i64_w, i32_w]
    rfl
  refine take_ (i := 6) (N := some 13) (v := ?_) (a' := ?_) #[true, true, true, true, true, false, true, false, true, false, false, false, false, false] rfl rfl (by kernel_rfl) (fun _ _ _ h => h) (Or.inl ⟨by rfl, ?_⟩) hHeld ?_ ?_
  rotate_left
  · rintro w' ⟨s0, s1, s2, s3⟩
    go_simp
    with_reducible rfl
  rotate_left
  · simp only [Act.put, List.setIfInBounds_toArray, List.set_cons_zero, List.set_cons_succ, i64_w, i32_w]
    rfl
  refine take_ (i := 7) (N := some 14) (v := ?_) (a' := ?_) #[true, true, true, true, true, false, true, true, true, false, false, false, false, false] rfl rfl (by kernel_rfl) (fun _ _ _ h => h) (Or.inl ⟨by rfl, ?_⟩) hHeld ?_ ?_
  rotate_left
  · rintro w' ⟨s0, s1, s2, s3⟩
    go_simp
    with_reducible rfl
  rotate_left
  · simp only [Act.put, List.setIfInBounds_toArray, List.set_cons_zero, List.set_cons_succ, i64_w, i32_w]
    rfl
  refine pure_ (i := 9) (N := some 16) (v := ?_) (a' := ?_) #[true, true, true, true, true, false, true, true, true, true, false, false, false, false] rfl rfl (by kernel_rfl) (fun _ _ _ h => h) (Or.inl ⟨by rfl, ?_⟩) ?_ ?_
  rotate_left
  · intro w'
    go_simp
    with_reducible rfl
  rotate_left
  · simp only [Act.put, List.setIfInBounds_toArray, List.set_cons_zero, List.set_cons_succ, i64_w, i32_w]
    rfl
  refine take_ (i := 10) (N := some 17) (v := ?_) (a' := ?_) #[true, true, true, true, true, false, true, true, true, true, true, false, false, false] rfl rfl (by kernel_rfl) (fun _ _ _ h => h) (Or.inl ⟨by rfl, ?_⟩) hHeld ?_ ?_
  rotate_left
  · rintro w' ⟨s0, s1, s2, s3⟩
    go_simp
    with_reducible rfl
  rotate_left
  · simp only [Act.put, List.setIfInBounds_toArray, List.set_cons_zero, List.set_cons_succ, i64_w, i32_w]
    rfl
  refine one_ (i := 5) (N := some 12) #[true, true, true, true, true, true, true, true, true, true, true, false, false, false] rfl rfl (by kernel_rfl) (by decide) (fun K hK => ?_)
  refine goes_ Try.func35 (by kernel_rfl) rfl #[.agg #[.slice A l.length c], .int .i64 (rd d ai)] (by rfl) rfl rfl (by (try simp only [List.map_toArray, List.map_cons, List.map_nil]); first | done | rfl) ?_
  refine (impl_ThirdParts.calls k A c l (rd d ai) _ _ (Kd.C_below HC.out HB.out) hc (ha)).mono ?_
  rintro e w1 ⟨rfl, hb⟩
  refine ⟨_, rfl, ?_⟩
  have hS_ := hHeld
  replace hS_ := And.intro ((hb.cell (World.block_lt_of_cell? _ _ hS_.1)).trans hS_.1) (And.intro ((hb.cell (World.block_lt_of_cell? _ _ hS_.2.1)).trans hS_.2.1) (And.intro ((hb.cell (World.block_lt_of_cell? _ _ hS_.2.2.1)).trans hS_.2.2.1) ((hb.cell (World.block_lt_of_cell? _ _ hS_.2.2.2)).trans hS_.2.2.2)))
  have n0_ := Aside0.mk (below_step HB.out hb)
  have n1_ := Aside0.mk (below_step HW.out hb)
  clear HB HW hb
  have HB := n0_
  have HW := n1_
  clear n0_ n1_
  refine hK.out _ _ hS_ (fun hHeld => ?_)
  clear hK K hS_
  refine norm_ (a' := ?_) ?_ ?_
  rotate_left
  · show Act.put _ (some 12) _ = _
    simp only [Act.put, List.setIfInBounds_toArray, List.set_cons_zero, List.set_cons_succ, i64_w, i32_w]
    rfl
  refine one_ (i := 11) (N := some 18) #[true, true, true, true, true, true, true, true, true, true, true, true, false, false] rfl rfl (by kernel_rfl) (by decide) (fun K hK => ?_)
  refine goes_ Try.func35 (by kernel_rfl) rfl #[.agg #[.slice A l.length c], .int .i64 (rd d bi)] (by rfl) rfl rfl (by (try simp only [List.map_toArray, List.map_cons, List.map_nil]); first | done | rfl) ?_
  refine (impl_ThirdParts.calls k A c l (rd d bi) _ _ (Kd.C_below HC.out HB.out) hc (hb_)).mono ?_
  rintro e w2 ⟨rfl, hb⟩
  refine ⟨_, rfl, ?_⟩
  have hS_ := hHeld
  replace hS_ := And.intro ((hb.cell (World.block_lt_of_cell? _ _ hS_.1)).trans hS_.1) (And.intro ((hb.cell (World.block_lt_of_cell? _ _ hS_.2.1)).trans hS_.2.1) (And.intro ((hb.cell (World.block_lt_of_cell? _ _ hS_.2.2.1)).trans hS_.2.2.1) ((hb.cell (World.block_lt_of_cell? _ _ hS_.2.2.2)).trans hS_.2.2.2)))
  have n0_ := Aside0.mk (below_step HB.out hb)
  have n1_ := Aside0.mk (below_step HW.out hb)
  clear HB HW hb
  have HB := n0_
  have HW := n1_
  clear n0_ n1_
  refine hK.out _ _ hS_ (fun hHeld => ?_)
  clear hK K hS_
  refine norm_ (a' := ?_) ?_ ?_
  rotate_left
  · show Act.put _ (some 18) _ = _
    simp only [Act.put, List.setIfInBounds_toArray, List.set_cons_zero, List.set_cons_succ, i64_w, i32_w]
    rfl
  refine pure_ (i := 12) (N := some 19) (v := ?_) (a' := ?_) #[true, true, true, true, true, true, true, true, true, true, true, true, true, false] rfl rfl (by kernel_rfl) (fun _ _ _ h => h) (Or.inl ⟨by rfl, ?_⟩) ?_ ?_
  rotate_left
  · intro w'
    go_simp
    with_reducible rfl
  rotate_left
  · simp only [Act.put, List.setIfInBounds_toArray, List.set_cons_zero, List.set_cons_succ, i64_w, i32_w]
    rfl
  refine pure_ (i := 13) (N := some 6) (v := ?_) (a' := ?_) #[true, true, true, true, true, true, true, true, true, true, true, true, true, true] rfl rfl (by kernel_rfl) (fun _ _ _ h => h) (Or.inl ⟨by rfl, ?_⟩) ?_ ?_
  rotate_left
  · intro w'
    go_simp
    with_reducible rfl
  rotate_left
  · simp only [Act.put, List.setIfInBounds_toArray, List.set_cons_zero, List.set_cons_succ, i64_w, i32_w]
    rfl
  refine done_ (by kernel_rfl) ?_
  go_wp2
  go_ret
  exact ⟨rfl, HW.out⟩
def best_rins (T : List Int) (x : Int) : List Int → List Int
  | [] => [x]
  | y :: ys => if rd T y < rd T x then y :: best_rins T x ys else x :: y :: ys
def best_rsrt (T : List Int) : Nat → List Int
  | 0 => []
  | n + 1 => best_rins T (n : Int) (best_rsrt T n)
theorem best_rins_length (T : List Int) (x : Int) : ∀ l, (best_rins T x l).length = l.length + 1
  | [] => rfl
  | y :: ys => by
    rw [best_rins]
    split
    · rw [List.length_cons, best_rins_length T x ys, List.length_cons]
    · rfl
theorem best_rins_mem (T : List Int) (x z : Int) : ∀ l, z ∈ best_rins T x l ↔ z = x ∨ z ∈ l
  | [] => by simp [best_rins]
  | y :: ys => by
    rw [best_rins]
    split
    · rw [List.mem_cons, best_rins_mem T x z ys, List.mem_cons]
      constructor
      · rintro (h | h | h)
        · exact .inr (.inl h)
        · exact .inl h
        · exact .inr (.inr h)
      · rintro (h | h | h)
        · exact .inr (.inl h)
        · exact .inl h
        · exact .inr (.inr h)
    · rw [List.mem_cons]
theorem best_rsrt_length (T : List Int) : ∀ n, (best_rsrt T n).length = n
  | 0 => rfl
  | n + 1 => by rw [best_rsrt, best_rins_length, best_rsrt_length T n]
theorem best_rsrt_mem (T : List Int) : ∀ n z, z ∈ best_rsrt T n → 0 ≤ z ∧ z < (n : Int)
  | 0, z, h => by cases h
  | n + 1, z, h => by
    rw [best_rsrt, best_rins_mem] at h
    rcases h with rfl | h
    · omega
    · have := best_rsrt_mem T n z h; omega
def best_from : Nat → Nat → List Int
  | _, 0 => []
  | i, m + 1 => (i : Int) :: best_from (i + 1) m
theorem best_from_length : ∀ i m, (best_from i m).length = m
  | _, 0 => rfl
  | i, m + 1 => by rw [best_from, List.length_cons, best_from_length]
theorem best_from_mem : ∀ i m z, z ∈ best_from i m → (i : Int) ≤ z ∧ z < ((i + m : Nat) : Int)
  | _, 0, _, h => by cases h
  | i, m + 1, z, h => by
    rw [best_from] at h
    rcases List.mem_cons.1 h with rfl | h
    · omega
    · have := best_from_mem (i + 1) m z h; omega
/-- The swap of the elements j and j - 1: two stores. -/
theorem best_swap {w0 w : World} {gc go g : Nat} {A : Option Addr} {n c cap : Nat} {d : List Int} (H : SortAt w0 w gc go ⟨g, 0, none⟩ A n c cap d) (hd : d.length = 12) (j : Nat) (h0 : 0 < j) (h1 : j < 12) :
    (callFunc 130 (#[.int .i64 (j : Nat), .int .i64 ((j : Int) - 1)] ++ #[.slice (some ⟨g, 0, none⟩) 12 cap, typeHandle Try.prog 3])).run Try.prog w = .ok (.value (.tuple #[])) ((w.setCell ⟨g, j, none⟩ (.int .i64 (d.getD (j - 1) 0))).setCell ⟨g, j - 1, none⟩ (.int .i64 (d.getD j 0))) ∧
      SortAt w0 ((w.setCell ⟨g, j, none⟩ (.int .i64 (d.getD (j - 1) 0))).setCell ⟨g, j - 1, none⟩ (.int .i64 (d.getD j 0))) gc go ⟨g, 0, none⟩ A n c cap ((d.set j (d.getD (j - 1) 0)).set (j - 1) (d.getD j 0)) ∧
      (∀ (gd : Nat) (cs : Array Value) (t : TypeId), t ≠ 3 → w.heap[gd]? = some (.cells cs t (0, 0)) → ((w.setCell ⟨g, j, none⟩ (.int .i64 (d.getD (j - 1) 0))).setCell ⟨g, j - 1, none⟩ (.int .i64 (d.getD j 0))).heap[gd]? = some (.cells cs t (0, 0))) := by
  obtain ⟨cells, hg3⟩ := Kd.R_typed H.hR g (by simp [Value.ownBlock])
  have hbase := Kd.R_base H.hR g (by simp [Value.ownBlock])
  obtain ⟨x1, f1⟩ := Kd.R_celln 0 H.hR (j : Int) (by omega) (by omega)
  obtain ⟨x2, f2⟩ := Kd.R_celln 0 H.hR ((j - 1 : Nat) : Int) (by omega) (by omega)
  rw [Int.toNat_natCast] at x1 f1 x2 f2
  have e1 : rdOf 0 d (j : Int) = d.getD j 0 := by unfold rdOf; rw [Int.toNat_natCast]
  have e2 : rdOf 0 d ((j - 1 : Nat) : Int) = d.getD (j - 1) 0 := by unfold rdOf; rw [Int.toNat_natCast]
  rw [e1] at x1
  rw [e2] at x2
  have q1 := Kd.R_putn (h1 := fun _ => rfl) H.hR (j : Int) (d.getD (j - 1) 0)
  rw [Int.toNat_natCast] at q1
  have q2 := Kd.R_putn (h1 := fun _ => rfl) q1 ((j - 1 : Nat) : Int) (d.getD j 0)
  rw [Int.toNat_natCast] at q2
  have keep : ∀ (gd : Nat) (cs : Array Value) (t : TypeId), t ≠ 3 → w.heap[gd]? = some (.cells cs t (0, 0)) → ((w.setCell ⟨g, j, none⟩ (.int .i64 (d.getD (j - 1) 0))).setCell ⟨g, j - 1, none⟩ (.int .i64 (d.getD j 0))).heap[gd]? = some (.cells cs t (0, 0)) := fun gd cs t ht h => by
    have hne := blk_ne h hg3 ht
    exact blk_far (blk_far h (by exact hne) _) (by exact hne) _
  refine ⟨?_, ⟨?_, keep _ _ _ (by decide) H.hc, ?_, ?_⟩, keep⟩
  · have hs := Go.Lib.run_swap_one (P := Try.prog) true 3 ((Try.prog.info? 3).get (by kernel_rfl)) (by kernel_rfl) (by kernel_rfl) (fun _ => by kernel_rfl) g 0 12 cap j (j - 1) h1 (by omega) (.int .i64 (d.getD j 0)) (.int .i64 (d.getD (j - 1) 0)) rfl rfl w (by rw [Nat.zero_add]; exact x1) (by rw [Nat.zero_add]; exact x2) (by rw [Nat.zero_add]; exact f1) (by rw [Nat.zero_add]; exact f2)
    rw [Nat.zero_add, Nat.zero_add] at hs
    rw [run_callFunc_extern Try.func130 (by kernel_rfl) (by kernel_rfl) (by kernel_rfl) (e := Extern.ReflectliteSwapper.swap true) (by kernel_rfl)]
    rw [show (#[Value.int .i64 (j : Nat), Value.int .i64 ((j : Int) - 1)] ++ #[Value.slice (some ⟨g, 0, none⟩) 12 cap, typeHandle Try.prog 3]) = #[.int .i64 (j : Nat), .int .i64 ((j - 1 : Nat) : Int), .slice (some ⟨g, 0, none⟩) 12 cap, typeHandle Try.prog 3] by rw [show ((j - 1 : Nat) : Int) = (j : Int) - 1 by omega]; rfl, hs]
    rfl
  · rw [List.length_set, List.length_set]; exact q2
  · rw [List.length_set, List.length_set]; exact keep _ _ _ (by decide) H.ho
  · exact (H.hB.setCell hbase _).setCell hbase _
/-- The two function values that the sorting is handed: the closure and the literal that swaps. -/
def best_data (gc go g cap : Nat) (th : Value) : Array Value := #[.func (.func 99) #[] #[.pointer (some ⟨gc, 0, none⟩), .pointer (some ⟨go, 0, none⟩)], .func (.func 130) #[] #[.slice (some ⟨g, 0, none⟩) 12 cap, th]]
theorem best_at (T : List Int) (i : Nat) (y : Int) (ys R : List Int) (j : Nat) (hj : j = ys.length + 1) : ((y :: ys).reverse ++ (i : Int) :: R).getD j 0 = (i : Int) ∧ ((y :: ys).reverse ++ (i : Int) :: R).getD (j - 1) 0 = y ∧
    ((((y :: ys).reverse ++ (i : Int) :: R).set j y).set (j - 1) (i : Int)) = ys.reverse ++ (i : Int) :: (y :: R) := by
  subst hj
  have e : (y :: ys).reverse ++ (i : Int) :: R = ys.reverse ++ y :: ((i : Int) :: R) := by simp
  have e2 : ys.reverse ++ y :: ((i : Int) :: R) = (ys.reverse ++ [y]) ++ (i : Int) :: R := by simp
  have l1 : ys.reverse.length = ys.length := List.length_reverse
  have l2 : (ys.reverse ++ [y]).length = ys.length + 1 := by simp
  rw [e]
  refine ⟨?_, ?_, ?_⟩
  · rw [e2, List.getD_eq_getElem?_getD, List.getElem?_append_right (by omega), l2, Nat.sub_self]; rfl
  · rw [Nat.add_sub_cancel, List.getD_eq_getElem?_getD, List.getElem?_append_right (by omega), l1, Nat.sub_self]; rfl
  · rw [Nat.add_sub_cancel]
    rw [List.set_append_right _ _ (by omega), l1, show ys.length + 1 - ys.length = 1 by omega, List.set_append_right _ _ (by omega), l1, Nat.sub_self]
    rfl
set_option maxHeartbeats 8000000 in
set_option maxRecDepth 100000 in
theorem best_insort (k : Nat) (l T : List Int) (hT : ∀ x : Int, 0 ≤ x → x < 12 → impl_ThirdParts.f k l x = some (rd T x)) {w0 w : World} {gc go g : Nat} {A : Option Addr} {c cap : Nat} {th : Value} (hth : th = typeHandle Try.prog 3) (hC : Kd.C (Kd.int .i64) w0 A l.length l) (hc : l.length ≤ c) (H : SortAt w0 w gc go ⟨g, 0, none⟩ A l.length c cap (best_from 0 12)) :
    Calls Try.prog 135 #[.agg #[.func (.func 99) #[] #[.pointer (some ⟨gc, 0, none⟩), .pointer (some ⟨go, 0, none⟩)], .func (.func 130) #[] #[.slice (some ⟨g, 0, none⟩) 12 cap, th]], .int .i64 0, .int .i64 12] w fun e w' => e = .returned (.tuple #[]) ∧ SortAt w0 w' gc go ⟨g, 0, none⟩ A l.length c cap (best_rsrt T 12).reverse := by
  have u117 := Try.underlying117
  have eg : ∀ args w, (callFunc 99 args).run Try.prog w = .ok (.enter 99 args) w := enters_of Try.func99 (by kernel_rfl) rfl
  have HA := Aside0.mk H
  have HC := Aside0.mk hC
  have HT := Aside0.mk hT
  have HTH := Aside0.mk hth
  have HCC := Aside0.mk hc
  clear H hC hT hth hc
  go_enter Try.func135, Try.ntmps135
  go_wp2_with (first | ((with_reducible refine gate_dst (N := 3) rfl ?_); refine box_event ?hg (N := 3) ?hd (cs := #[.func (.func 99) #[] #[.pointer (some ⟨gc, 0, none⟩), .pointer (some ⟨go, 0, none⟩)], .func (.func 130) #[] #[.slice (some ⟨g, 0, none⟩) 12 cap, th]]) (t := 117) ?hr ?_; (case hd => rfl); (case hg => rfl); (case hr => first | (go_simp; done) | (go_simp; rfl)); intro gd hg w2 hbox hb; clear hg; have HD := Aside0.mk hbox; have HA2 := Aside0.mk (HA.out.below hb); clear HA hbox hb))
  go_loopw [6] (fun vi wr => ∃ i : Nat, vi = .int .i64 i ∧ 1 ≤ i ∧ i ≤ 12 ∧ Aside0 (SortAt w0 wr gc go ⟨g, 0, none⟩ A l.length c cap ((best_rsrt T i).reverse ++ best_from i (12 - i))) ∧ Aside0 (wr.heap[gd]? = some (.cells (best_data gc go g cap th) 117 (0, 0)))) (fun vi _ => 13 - (intOf vi).toNat)
  case atStart => exact ⟨1, by go_num, by omega, by omega, HA2, HD⟩
  case round =>
    clear HA2 HD
    obtain ⟨i, rfl, hi1, hi2, HA, HD⟩ := hrel
    by_cases hlt : i < 12
    · go_wp2
      go_loopw [7] (fun vj wr2 => ∃ (j : Nat) (Ar B : List Int), vj = .int .i64 j ∧ Aside0 (j = Ar.length) ∧ Aside0 (Ar.length + B.length = i) ∧ Aside0 (B.reverse ++ best_rins T i Ar = best_rsrt T (i + 1)) ∧ Aside0 (∀ z ∈ Ar, 0 ≤ z ∧ z < 12) ∧ Aside0 (SortAt w0 wr2 gc go ⟨g, 0, none⟩ A l.length c cap (Ar.reverse ++ (i : Int) :: (B ++ best_from (i + 1) (11 - i)))) ∧ Aside0 (wr2.heap[gd]? = some (.cells (best_data gc go g cap th) 117 (0, 0)))) (fun vj _ => (intOf vj).toNat)
      case atStart =>
        refine ⟨i, best_rsrt T i, [], rfl, ⟨(best_rsrt_length T i).symm⟩, ⟨by rw [best_rsrt_length]; rfl⟩, ⟨by rw [best_rsrt]; rfl⟩, ⟨fun z hz => by have := best_rsrt_mem T i z hz; omega⟩, ?_, HD⟩
        have q := HA.out
        rw [show 12 - i = (11 - i) + 1 by omega, best_from] at q
        exact ⟨q⟩
      case round =>
        clear HA HD
        obtain ⟨j, Ar, B, rfl, HJ, HL, HE, HZ, HA, HD⟩ := hrel
        have c0 : wr.cell? ⟨gd, 0, none⟩ = some (.func (.func 99) #[] #[.pointer (some ⟨gc, 0, none⟩), .pointer (some ⟨go, 0, none⟩)]) := (blk_cell HD.out 0).trans rfl
        have c1 : wr.cell? ⟨gd, 1, none⟩ = some (.func (.func 130) #[] #[.slice (some ⟨g, 0, none⟩) 12 cap, th]) := (blk_cell HD.out 1).trans rfl
        have OUT : Aside0 (∀ w', (∀ x, Ar = x :: Ar.tail → ¬ rd T x < rd T i) → Below wr.heap.size wr w' → ∃ i' : Nat, Value.int .i64 ((i : Int) + 1) = .int .i64 i' ∧ 1 ≤ i' ∧ i' ≤ 12 ∧ Aside0 (SortAt w0 w' gc go ⟨g, 0, none⟩ A l.length c cap ((best_rsrt T i').reverse ++ best_from i' (12 - i'))) ∧ Aside0 (w'.heap[gd]? = some (.cells (best_data gc go g cap th) 117 (0, 0)))) := ⟨fun w' hx hb => by
          refine ⟨i + 1, by go_num, by omega, by omega, ⟨?_⟩, ⟨blk_below HD.out hb⟩⟩
          have q := HA.out.below hb
          rw [show Ar.reverse ++ (i : Int) :: (B ++ best_from (i + 1) (11 - i)) = (best_rsrt T (i + 1)).reverse ++ best_from (i + 1) (12 - (i + 1)) from ?_] at q
          · exact q
          · rw [← HE.out, show 12 - (i + 1) = 11 - i by omega]
            cases Ar with
            | nil => simp [best_rins]
            | cons y ys => rw [best_rins, if_neg (hx y rfl)]; simp⟩
        cases Ar with
        | nil =>
          have hj0 : j = 0 := HJ.out
          subst hj0
          go_wp2
          go_roundw
          case rel => exact OUT.out _ (fun x hx => by cases hx) (Below.refl _ _)
          case measure => simp [intOf]; omega
        | cons y ys =>
          have hj0 : j = ys.length + 1 := HJ.out
          have hl2 : j + B.length = i := by have := HL.out; rw [List.length_cons] at this; omega
          have HD12 : Aside0 (((y :: ys).reverse ++ (i : Int) :: (B ++ best_from (i + 1) (11 - i))).length = 12) := ⟨by rw [List.length_append, List.length_reverse, List.length_cons, List.length_cons, List.length_append, best_from_length]; omega⟩
          have hjp : 0 < j := by omega
          have hj12 : j < 12 := by omega
          obtain ⟨a1, a2, a3⟩ := best_at T i y ys (B ++ best_from (i + 1) (11 - i)) j hj0
          have AT := Aside0.mk (And.intro a1 (And.intro a2 a3))
          clear a1 a2 a3
          have HJ0 := Aside0.mk hj0
          have HL2 := Aside0.mk hl2
          clear hj0 hl2
          have hl : Calls Try.prog 99 (#[.int .i64 (j : Int), .int .i64 ((j : Int) - 1)] ++ #[.pointer (some ⟨gc, 0, none⟩), .pointer (some ⟨go, 0, none⟩)]) wr fun e w' => e = .returned (.bool (decide (rd T y < rd T i))) ∧ Below wr.heap.size wr w' := by
            have r1 : rd ((y :: ys).reverse ++ (i : Int) :: (B ++ best_from (i + 1) (11 - i))) (j : Int) = (i : Int) := by unfold rd; rw [Int.toNat_natCast]; exact AT.out.1
            have r2 : rd ((y :: ys).reverse ++ (i : Int) :: (B ++ best_from (i + 1) (11 - i))) ((j : Int) - 1) = y := by unfold rd; rw [show ((j : Int) - 1).toNat = j - 1 by omega]; exact AT.out.2.1
            have hy := HZ.out y (by simp)
            have := best_less k l T HC.out HCC.out HA.out (j : Int) ((j : Int) - 1) (by omega) (by rw [HD12.out]; omega) (by omega) (by rw [HD12.out]; omega) (by rw [r1]; exact HT.out _ (by omega) (by omega)) (by rw [r2]; exact HT.out _ hy.1 hy.2)
            rw [r1, r2] at this
            exact this
          by_cases hv : rd T y < rd T i
          · rw [decide_eq_true hv] at hl
            have HV := Aside0.mk hv
            clear hv
            go_wp2_with (go_at_fn 99; refine hl.mono ?_; rintro e w3 ⟨rfl, hb⟩; have HA3 := Aside0.mk (HA.out.below hb); have HD3 := Aside0.mk (blk_below HD.out hb); have c1' : w3.cell? ⟨gd, 1, none⟩ = some (.func (.func 130) #[] #[.slice (some ⟨g, 0, none⟩) 12 cap, th]) := (blk_cell HD3.out 1).trans rfl)
            obtain ⟨hs, HA4, hk4⟩ := best_swap HA3.out HD12.out j hjp hj12
            rw [← HTH.out] at hs
            rw [AT.out.1, AT.out.2.1] at hs HA4 hk4
            rw [AT.out.2.2] at HA4
            have HA5 := Aside0.mk HA4
            have HD5 := Aside0.mk (hk4 _ _ _ (by decide) HD3.out)
            have hs' : (callFunc 130 #[.int .i64 (j : Int), .int .i64 ((j : Int) - 1), .slice (some ⟨g, 0, none⟩) 12 cap, th]).run Try.prog w3 = .ok (.value (.tuple #[])) ((w3.setCell ⟨g, j, none⟩ (.int .i64 y)).setCell ⟨g, j - 1, none⟩ (.int .i64 (i : Int))) := hs
            clear HA4 hk4 hs
            rw [hs', Oper.upon_value]
            clear hs'
            generalize (w3.setCell ⟨g, j, none⟩ (.int .i64 y)).setCell ⟨g, j - 1, none⟩ (.int .i64 (i : Int)) = w4 at HA5 HD5 ⊢
            go_wp2
            go_roundw
            case rel =>
              (repeat apply Exists.intro)
              refine ⟨⟨j - 1, ys, y :: B, by congr 1 <;> omega, ⟨by have := HJ0.out; omega⟩, ⟨by have := HL.out; rw [List.length_cons] at this ⊢; omega⟩, ⟨?_⟩, ⟨fun z hz => HZ.out z (List.mem_cons_of_mem _ hz)⟩, HA5, HD5⟩, by rw [show decide ((i : Int) < 12) = true from decide_eq_true (by omega), show ((j - 1 : Nat) : Int) = (j : Int) - 1 by omega]⟩
              rw [← HE.out, best_rins, if_pos HV.out, List.reverse_cons, List.append_assoc]
              rfl
            case measure => simp [intOf]; omega
          · rw [decide_eq_false hv] at hl
            have HV := Aside0.mk hv
            clear hv
            go_wp2_with (go_at_fn 99; refine hl.mono ?_; rintro e w3 ⟨rfl, hb⟩)
            go_roundw
            case rel => exact OUT.out _ (fun x hx => by injection hx with hx _; subst hx; exact HV.out) hb
            case measure => simp [intOf]; omega
    · obtain rfl : i = 12 := by omega
      go_wp2
      go_end0
      have q := HA.out
      rw [Nat.sub_self, best_from, List.append_nil] at q
      exact ⟨rfl, q⟩
set_option maxHeartbeats 8000000 in
set_option maxRecDepth 100000 in
theorem best_stable (k : Nat) (l T : List Int) (hT : ∀ x : Int, 0 ≤ x → x < 12 → impl_ThirdParts.f k l x = some (rd T x)) {w0 w : World} {gc go g : Nat} {A : Option Addr} {c cap : Nat} {th : Value} (hth : th = typeHandle Try.prog 3) (hC : Kd.C (Kd.int .i64) w0 A l.length l) (hc : l.length ≤ c) (H : SortAt w0 w gc go ⟨g, 0, none⟩ A l.length c cap (best_from 0 12)) :
    Calls Try.prog 119 #[.agg #[.func (.func 99) #[] #[.pointer (some ⟨gc, 0, none⟩), .pointer (some ⟨go, 0, none⟩)], .func (.func 130) #[] #[.slice (some ⟨g, 0, none⟩) 12 cap, th]], .int .i64 12] w fun e w' => e = .returned (.tuple #[]) ∧ SortAt w0 w' gc go ⟨g, 0, none⟩ A l.length c cap (best_rsrt T 12).reverse := by
  have u117 := Try.underlying117
  have hI : Aside0 (∀ w2 : World, SortAt w0 w2 gc go ⟨g, 0, none⟩ A l.length c cap (best_from 0 12) → Calls Try.prog 135 #[.agg #[.func (.func 99) #[] #[.pointer (some ⟨gc, 0, none⟩), .pointer (some ⟨go, 0, none⟩)], .func (.func 130) #[] #[.slice (some ⟨g, 0, none⟩) 12 cap, th]], .int .i64 0, .int .i64 12] w2 fun e w' => e = .returned (.tuple #[]) ∧ SortAt w0 w' gc go ⟨g, 0, none⟩ A l.length c cap (best_rsrt T 12).reverse) := ⟨fun w2 H2 => best_insort k l T hT hth hC hc H2⟩
  have HA := Aside0.mk H
  clear H hC hT hth hc
  have eI : ∀ args w, (callFunc 135 args).run Try.prog w = .ok (.enter 135 args) w := enters_of Try.func135 (by kernel_rfl) rfl
  go_enter Try.func119, Try.ntmps119
  go_wp2_with (first | ((with_reducible refine gate_dst (N := 2) rfl ?_); refine box_event ?hg (N := 2) ?hd (cs := #[.func (.func 99) #[] #[.pointer (some ⟨gc, 0, none⟩), .pointer (some ⟨go, 0, none⟩)], .func (.func 130) #[] #[.slice (some ⟨g, 0, none⟩) 12 cap, th]]) (t := 117) ?hr ?_; (case hd => rfl); (case hg => rfl); (case hr => first | (go_simp; done) | (go_simp; rfl)); intro gd hg w2 hbox hb; clear hg; have c0 : w2.cell? ⟨gd, 0, none⟩ = some (.func (.func 99) #[] #[.pointer (some ⟨gc, 0, none⟩), .pointer (some ⟨go, 0, none⟩)]) := (blk_cell hbox 0).trans rfl; have c1 : w2.cell? ⟨gd, 1, none⟩ = some (.func (.func 130) #[] #[.slice (some ⟨g, 0, none⟩) 12 cap, th]) := (blk_cell hbox 1).trans rfl; have HA2 := Aside0.mk (HA.out.below hb); clear HA hbox hb))
  refine wp_loop_rounds 1 ?_
  rw [rounds_succ]
  go_wp2_with (go_at_fn 135; refine (hI.out _ HA2.out).mono ?_; rintro e w3 ⟨rfl, H3⟩; have HA3 := Aside0.mk H3; clear H3)
  refine wp_loop_rounds 1 ?_
  rw [rounds_succ]
  go_wp2
  go_end0
  exact ⟨rfl, HA3.out⟩
set_option maxHeartbeats 8000000 in
set_option maxRecDepth 100000 in
theorem best_slicestable (k : Nat) (l T : List Int) (hT : ∀ x : Int, 0 ≤ x → x < 12 → impl_ThirdParts.f k l x = some (rd T x)) {w0 w : World} {gc go g : Nat} {A : Option Addr} {c cap : Nat} (hC : Kd.C (Kd.int .i64) w0 A l.length l) (hc : l.length ≤ c) (H : SortAt w0 w gc go ⟨g, 0, none⟩ A l.length c cap (best_from 0 12)) :
    Calls Try.prog 98 #[.iface 40 (.slice (some ⟨g, 0, none⟩) 12 cap), .func (.func 99) #[] #[.pointer (some ⟨gc, 0, none⟩), .pointer (some ⟨go, 0, none⟩)]] w fun e w' => e = .returned (.tuple #[]) ∧ SortAt w0 w' gc go ⟨g, 0, none⟩ A l.length c cap (best_rsrt T 12).reverse := by
  have u111 := Try.underlying111
  have hv := Go.Lib.run_valueOf_slice (P := Try.prog) 40 3 ((Try.prog.info? 40).get (by kernel_rfl)) (by kernel_rfl) (by kernel_rfl) (some ⟨g, 0, none⟩) 12 cap w
  have hs := fun w => Go.Lib.run_swapper_slice (P := Try.prog) 40 3 ((Try.prog.info? 40).get (by kernel_rfl)) ((Try.prog.info? 3).get (by kernel_rfl)) (by kernel_rfl) (by kernel_rfl) (by kernel_rfl) 2 (fun _ => by kernel_rfl) (some ⟨g, 0, none⟩) 12 cap 130 (by kernel_rfl) w
  have hl := fun a w ha => Go.Lib.run_valueLen_slice (P := Try.prog) 40 3 ((Try.prog.info? 40).get (by kernel_rfl)) (by kernel_rfl) (by kernel_rfl) (by kernel_rfl) a (some ⟨g, 0, none⟩) 12 cap w ha
  rw [show Go.Lib.swapperK 12 ((Try.prog.info? 3).get (by kernel_rfl)) 2 = 5 by kernel_rfl, if_neg (by decide)] at hs
  have hP : Aside0 (∀ th, th = typeHandle Try.prog 3 → ∀ w2 : World, SortAt w0 w2 gc go ⟨g, 0, none⟩ A l.length c cap (best_from 0 12) → Calls Try.prog 119 #[.agg #[.func (.func 99) #[] #[.pointer (some ⟨gc, 0, none⟩), .pointer (some ⟨go, 0, none⟩)], .func (.func 130) #[] #[.slice (some ⟨g, 0, none⟩) 12 cap, th]], .int .i64 12] w2 fun e w' => e = .returned (.tuple #[]) ∧ SortAt w0 w' gc go ⟨g, 0, none⟩ A l.length c cap (best_rsrt T 12).reverse) := ⟨fun th hth w2 H2 => best_stable k l T hT hth hC hc H2⟩
  obtain ⟨th, hth⟩ : ∃ th, th = typeHandle Try.prog 3 := ⟨_, rfl⟩
  obtain ⟨a40, ht40⟩ : ∃ a, typeHandle Try.prog 40 = .pointer (some a) := ⟨_, rfl⟩
  rw [← hth] at hs
  rw [ht40] at hv
  rw [ht40] at hl
  have HTH := Aside0.mk hth
  have HA := Aside0.mk H
  clear hth H hT hC hc ht40
  have e119 : ∀ args w, (callFunc 119 args).run Try.prog w = .ok (.enter 119 args) w := enters_of Try.func119 (by kernel_rfl) rfl
  go_enter Try.func98, Try.ntmps98
  go_wp2
  rw [run_callFunc_extern Try.func117 (by kernel_rfl) (by kernel_rfl) (by kernel_rfl) (e := fun args => Extern.ReflectliteValue.unpack (args.getD 0 (.tuple #[]))) (by kernel_rfl),
    show Sem.run Try.prog ((fun args : Array Value => Extern.ReflectliteValue.unpack (args.getD 0 (.tuple #[]))) #[.iface 40 (.slice (some ⟨g, 0, none⟩) 12 cap)]) w = _ from hv]
  simp only [Result.andThen]
  rw [Oper.upon_value]
  go_wp2
  rw [run_callFunc_extern Try.func118 (by kernel_rfl) (by kernel_rfl) (by kernel_rfl) (e := Extern.ReflectliteSwapper.swapper "internal/reflectlite" (Extern.ReflectliteValue.valueError "Swapper")) (by kernel_rfl), hs]
  simp only [Result.andThen]
  rw [Oper.upon_value]
  go_wp2
  rw [run_callFunc_extern Try.func120 (by kernel_rfl) (by kernel_rfl) (by kernel_rfl) (e := Extern.ReflectliteValue.method (Extern.ReflectliteValue.valueError "reflectlite.Value.Len" 0) Extern.ReflectliteValue.len) (by kernel_rfl),
    hl _ _ (by simp)]
  simp only [Result.andThen]
  rw [Oper.upon_value]
  go_wp2_with (go_at_fn 119; refine (hP.out th HTH.out _ (HA.out.below (by repeat (first | exact Below.refl _ _ | apply below_alloc | apply pw_below_drewN | apply below_drew1)))).mono ?_; rintro e w' ⟨rfl, hR⟩)
  go_end0
  exact ⟨rfl, hR⟩
def best_tp (k : Nat) (l : List Int) : Nat → Option (List Int)
  | 0 => some []
  | n + 1 => (best_tp k l n).bind fun T => (impl_ThirdParts.f k l (n : Int)).bind fun v => some (T ++ [v])
def impl_BestKeys.f (k : Nat) (l : List Int) : Option (List Int) := (impl_CircleOk.f k l).bind fun b => if b = true then (best_tp k l 12).bind fun T => some (best_rsrt T 12).reverse else some []
theorem best_tp.mono (k : Nat) (l : List Int) : ∀ n, LeO (best_tp k l n) (best_tp (k + 1) l n)
  | 0 => LeO.refl _
  | n + 1 => LeO.bind (best_tp.mono k l n) (fun T => LeO.bind (impl_ThirdParts.mono _ _ _) (fun v => LeO.refl _))
theorem impl_BestKeys.mono : ∀ a0 k, LeO (impl_BestKeys.f k a0) (impl_BestKeys.f (k + 1) a0) := by
  intro a0 k
  unfold impl_BestKeys.f
  exact LeO.bind (impl_CircleOk.mono _ _) (fun b => LeO.ite (LeO.bind (best_tp.mono _ _ _) (fun T => LeO.refl _)) (LeO.refl _))
theorem best_tp_at (k : Nat) (l : List Int) : ∀ n T, best_tp k l n = some T → T.length = n ∧ ∀ x : Int, 0 ≤ x → x < (n : Int) → impl_ThirdParts.f k l x = some (rd T x) := by
  intro n
  induction n with
  | zero =>
    intro T h
    rw [best_tp] at h
    obtain rfl := Option.some.inj h
    exact ⟨rfl, fun x h0 h1 => by omega⟩
  | succ n ih =>
    intro T h
    rw [best_tp] at h
    obtain ⟨T1, h1, h⟩ := Option.bind_eq_some_iff.mp h
    obtain ⟨v, h2, h⟩ := Option.bind_eq_some_iff.mp h
    obtain rfl := Option.some.inj h
    obtain ⟨hl, ha⟩ := ih T1 h1
    refine ⟨by rw [List.length_append, hl]; rfl, fun x h0 hx => ?_⟩
    by_cases hn : x < (n : Int)
    · rw [ha x h0 hn]
      unfold rd
      rw [List.getD_eq_getElem?_getD, List.getD_eq_getElem?_getD, List.getElem?_append_left (by omega)]
    · obtain rfl : x = (n : Int) := by omega
      rw [h2]
      unfold rd
      rw [Int.toNat_natCast, List.getD_eq_getElem?_getD, List.getElem?_append_right (by omega), hl, Nat.sub_self]
      rfl
set_option maxHeartbeats 8000000 in
set_option maxRecDepth 100000 in
theorem impl_BestKeys.calls (k : Nat) (A : Option Addr) (c : Nat) (l : List Int) (r : List Int) (w : World) (hr0_0 : Kd.C (Kd.int .i64) w A l.length l) (hc0_0 : l.length ≤ c) (h : impl_BestKeys.f k l = some r) :
    Calls Try.prog 59 #[.agg #[.slice A l.length c]] w fun e w' => ∃ v0_ : Value, e = .returned (v0_) ∧ Kd.R (Kd.int .i64) 3 w' w.heap.size (fun _ => True) v0_ r ∧ Below w.heap.size w w' := by
  have hu49 := Try.underlying49
  have hu40 := Try.underlying40
  have HC := Aside0.mk hr0_0
  have HCC := Aside0.mk hc0_0
  clear hr0_0 hc0_0
  unfold impl_BestKeys.f at h
  obtain ⟨b, hb, h⟩ := Option.bind_eq_some_iff.mp h
  have HOK := Aside0.mk hb
  clear hb
  cases b with
  | false =>
    rw [if_neg (by decide)] at h
    obtain rfl := Option.some.inj h
    go_enter Try.func59, Try.ntmps59
    go_wp2_with (first | ((with_reducible refine gate_dst (N := 1) rfl ?_); refine box_event ?hg (N := 1) ?hd (cs := #[.slice A l.length c]) (t := 49) ?hr ?_; (case hd => rfl); (case hg => rfl); (case hr => first | (go_simp; done) | (go_simp; rfl)); intro gc hg w1 hbox hb; clear hg; have HB1 := Aside0.mk hb; have HBK1 := Aside0.mk hbox; have hcz : w1.cell? ⟨gc, 0, none⟩ = some (.slice A l.length c) := (blk_cell hbox 0).trans rfl; clear hbox hb) | (go_at_call 40; refine (impl_CircleOk.calls k A c l false _ (Kd.C_below HC.out HB1.out) HCC.out HOK.out).mono ?_; rintro e w2 ⟨rfl, hb⟩; have HB2 := Aside0.mk (below_step HB1.out hb); have HBK2 := Aside0.mk (blk_below HBK1.out hb); clear hb))
    go_ret
    exact ⟨_, rfl, Kd.R_nil _ _ _ _ _, HB2.out⟩
  | true =>
    rw [if_pos rfl] at h
    obtain ⟨T, ht, h⟩ := Option.bind_eq_some_iff.mp h
    obtain rfl := Option.some.inj h
    have HT := Aside0.mk (best_tp_at k l 12 T ht).2
    clear h ht
    go_enter Try.func59, Try.ntmps59
    go_wp2_with (first | ((with_reducible refine gate_dst (N := 1) rfl ?_); refine box_event ?hg (N := 1) ?hd (cs := #[.slice A l.length c]) (t := 49) ?hr ?_; (case hd => rfl); (case hg => rfl); (case hr => first | (go_simp; done) | (go_simp; rfl)); intro gc hg w1 hbox hb; clear hg; have HB1 := Aside0.mk hb; have HBK1 := Aside0.mk hbox; have hcz : w1.cell? ⟨gc, 0, none⟩ = some (.slice A l.length c) := (blk_cell hbox 0).trans rfl; clear hbox hb) | (go_at_call 40; refine (impl_CircleOk.calls k A c l true _ (Kd.C_below HC.out HB1.out) HCC.out HOK.out).mono ?_; rintro e w2 ⟨rfl, hb⟩; have HB2 := Aside0.mk (below_step HB1.out hb); have HBK2 := Aside0.mk (blk_below HBK1.out hb); clear hb) | ((with_reducible refine gate_dst (N := 7) rfl ?_); refine Kd.R_lit (Kd.int .i64) _ 3 ?hg (N := 7) ?hd (xs := ([0, 1, 2, 3, 4, 5, 6, 7, 8, 9, 10, 11] : List Int)) (inner := [.int .i64 0, .int .i64 1, .int .i64 2, .int .i64 3, .int .i64 4, .int .i64 5, .int .i64 6, .int .i64 7, .int .i64 8, .int .i64 9, .int .i64 10, .int .i64 11]) (ok := fun _ => True) (okp := fun _ => True) ?hr ?hp (fun _ hk => hk) trivial (Below.refl _ _) (Nat.le_refl _) (by simp) ?_; (case hd => rfl); (case hg => rfl); (case hr => first | (go_simp; done) | (go_simp; rfl)); (case hp => exact (Reps.one (show Kd.M (Kd.int .i64) _ _ _ 0 [.int .i64 0] from rfl) (Reps.one (show Kd.M (Kd.int .i64) _ _ _ 1 [.int .i64 1] from rfl) (Reps.one (show Kd.M (Kd.int .i64) _ _ _ 2 [.int .i64 2] from rfl) (Reps.one (show Kd.M (Kd.int .i64) _ _ _ 3 [.int .i64 3] from rfl) (Reps.one (show Kd.M (Kd.int .i64) _ _ _ 4 [.int .i64 4] from rfl) (Reps.one (show Kd.M (Kd.int .i64) _ _ _ 5 [.int .i64 5] from rfl) (Reps.one (show Kd.M (Kd.int .i64) _ _ _ 6 [.int .i64 6] from rfl) (Reps.one (show Kd.M (Kd.int .i64) _ _ _ 7 [.int .i64 7] from rfl) (Reps.one (show Kd.M (Kd.int .i64) _ _ _ 8 [.int .i64 8] from rfl) (Reps.one (show Kd.M (Kd.int .i64) _ _ _ 9 [.int .i64 9] from rfl) (Reps.one (show Kd.M (Kd.int .i64) _ _ _ 10 [.int .i64 10] from rfl) (Reps.one (show Kd.M (Kd.int .i64) _ _ _ 11 [.int .i64 11] from rfl) (Reps.none _ _)))))))))))))); intro v7 w7 ho7 hb7 hg_ hnew_; clear hg_ hnew_; have HB7 := Aside0.mk (below_step HB2.out hb7); have HR7 := Aside0.mk (Kd.R_lower ho7 HB2.out.size); have HBK7 := Aside0.mk (blk_below HBK2.out hb7); clear ho7 hb7; obtain ⟨g, cap, e7, hbg, hlg, cl7, hg7⟩ := Kd.R_form HR7.out (by decide); subst e7; clear hbg hlg hg7) | (go_at_call 98; refine (best_slicestable k l T HT.out (w0 := w) (gc := gc) (go := w7.heap.size) (g := g) (A := A) (c := c) (cap := cap) HC.out HCC.out ⟨Kd.R_alloc HR7.out _, blk_alloc HBK7.out _, blk_new _ _, below_alloc HB7.out _⟩).mono ?_; rintro e w8 ⟨rfl, h8⟩; have H8 := Aside0.mk h8; have hc8 : w8.cell? ⟨w7.heap.size, 0, none⟩ = some (.slice (some ⟨g, 0, none⟩) (best_rsrt T 12).reverse.length cap) := (blk_cell h8.ho 0).trans rfl; clear h8))
    go_ret
    exact ⟨_, rfl, by have q := H8.out.hR; rw [List.length_reverse] at q; exact q, H8.out.hB⟩

/-! ### laws_szIntS: function 100 -/
def laws_szIntS.f (l0 : List Int) (a1 : Int) : Option (Int) := if (wrap64 (a1 - (l0.length : Int))) < 0 then (some (-1)) else (some (wrap64 (a1 - (l0.length : Int))))
set_option maxHeartbeats 8000000 in
set_option maxRecDepth 100000 in
theorem laws_szIntS.calls (A0 : Option Addr) (c0 : Nat) (l0 : List Int) (a1 : Int) (r : Int) (w : World) (hr0 : Kd.C (Kd.int .i64) w A0 l0.length l0) (hc0 : l0.length ≤ c0) (h : laws_szIntS.f l0 a1 = some r) :
    Calls Try.prog 100 #[.slice A0 l0.length c0, .int .i64 a1] w fun e w' => e = .returned (.int .i64 r) ∧ Drawn0 w w' := by
  have HR0 := Aside0.mk hr0
  have HC0 := Aside0.mk hc0
  clear hr0 hc0
  have H : (if (wrap64 (a1 - (l0.length : Int))) < 0 then (some (-1)) else (some (wrap64 (a1 - (l0.length : Int))))) = some r := h
  clear h
  by_cases c3 : (wrap64 (a1 - (l0.length : Int))) < 0
  · rw [if_pos c3] at H
    have c3b0 : decide ((wrap64 (a1 - (l0.length : Int))) < 0) = true := decide_eq_true c3
    clear c3
    obtain rfl := Option.some.inj H
    go_enter Try.func100, Try.ntmps100
    go_wp2
    go_ret
    exact ⟨by first | rfl | (simp; done) | (simp [*]; done), by repeat (first | exact Drawn0.refl _ | apply Drawn0.step)⟩
  · rw [if_neg c3] at H
    have c3b0 : decide ((wrap64 (a1 - (l0.length : Int))) < 0) = false := decide_eq_false c3
    clear c3
    obtain rfl := Option.some.inj H
    go_enter Try.func100, Try.ntmps100
    go_wp2
    go_ret
    exact ⟨by first | rfl | (simp; done) | (simp [*]; done), by repeat (first | exact Drawn0.refl _ | apply Drawn0.step)⟩

end Go.Proofs.Ytoljbcjpilcfiaa.PFnExactBestKeys
