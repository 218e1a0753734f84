import Derived.Test.YtdaionnpgcdkdaaDoorRoll
set_option linter.unusedVariables false
set_option linter.unusedSimpArgs false
namespace Go.Proofs.YtdaionnpgcdkdaaDoor
open Go.RowKit
open Sets (hasS addS dropS lessS subS isId)
theorem eq_sets (a m : Nat) (ha : Sets.In a) (hm : Sets.In m) (w : World) : (binOp .eql 26 (.agg #[.int .u64 (Sets.wd a 0), .int .u64 (Sets.wd a 1), .int .u64 (Sets.wd a 2), .int .u64 (Sets.wd a 3)]) (.agg #[.int .u64 (Sets.wd m 0), .int .u64 (Sets.wd m 1), .int .u64 (Sets.wd m 2), .int .u64 (Sets.wd m 3)])).run Tryd.prog w = .ok (.bool (decide (a = m))) w := by
  rw [eq_set, Sets.same_words a m ha hm]
theorem neq_sets (a m : Nat) (ha : Sets.In a) (hm : Sets.In m) (w : World) : (binOp .neq 26 (.agg #[.int .u64 (Sets.wd a 0), .int .u64 (Sets.wd a 1), .int .u64 (Sets.wd a 2), .int .u64 (Sets.wd a 3)]) (.agg #[.int .u64 (Sets.wd m 0), .int .u64 (Sets.wd m 1), .int .u64 (Sets.wd m 2), .int .u64 (Sets.wd m 3)])).run Tryd.prog w = .ok (.bool (!decide (a = m))) w := by
  rw [neq_set, Sets.same_words a m ha hm]
theorem neq_zero (a : Nat) (ha : Sets.In a) (w : World) : (binOp .neq 26 (.agg #[.int .u64 (Sets.wd a 0), .int .u64 (Sets.wd a 1), .int .u64 (Sets.wd a 2), .int .u64 (Sets.wd a 3)]) (.agg #[.int .u64 0, .int .u64 0, .int .u64 0, .int .u64 0])).run Tryd.prog w = .ok (.bool (!decide (a = 0))) w := by
  rw [neq_set, Sets.zero_words a ha]
set_option maxHeartbeats 1000000 in
theorem roll_full (m a : Nat) (hm : Sets.In m) (ha : Sets.In a) (w : World) (hG : GL w) :
    Calls Tryd.prog 16 #[.agg #[.int .u64 (Sets.wd m 0), .int .u64 (Sets.wd m 1), .int .u64 (Sets.wd m 2), .int .u64 (Sets.wd m 3), .int .u64 (Sets.wd a 0), .int .u64 (Sets.wd a 1), .int .u64 (Sets.wd a 2), .int .u64 (Sets.wd a 3)]] w fun e w' => e = .returned (.bool (fullR m a)) ∧ Below w.heap.size w w' := by
  cases hx : fineR m a with
  | true =>
    have q2 := neq_zero a ha
    by_cases hs : a = m
    · have e : fullR m a = !decide (a = 0) := by unfold fullR; rw [hx, decide_eq_true hs]; rfl
      rw [e]
      clear e
      have q1 : ∀ w, (binOp .eql 26 (.agg #[.int .u64 (Sets.wd a 0), .int .u64 (Sets.wd a 1), .int .u64 (Sets.wd a 2), .int .u64 (Sets.wd a 3)]) (.agg #[.int .u64 (Sets.wd m 0), .int .u64 (Sets.wd m 1), .int .u64 (Sets.wd m 2), .int .u64 (Sets.wd m 3)])).run Tryd.prog w = .ok (.bool true) w := fun w => by rw [eq_sets a m ha hm, decide_eq_true hs]
      have HS := Lib.hid hs
      clear hs
      go_enter Tryd.func16, Tryd.ntmps16
      go_wp2_with fail
      refine (roll_fine m a hm ha _ (hG.below (by (repeat (first | (with_reducible apply Wl.bl_alloc) | (with_reducible apply Wl.bl_drewN) | (with_reducible apply Wl.bl_drew) | (with_reducible refine Wl.bl_set ?_ (by simp; try omega)) | (with_reducible exact Below.refl _ _) | (with_reducible assumption) | (with_reducible refine Wl.bl_trans ?_ (by assumption))))))).mono ?_
      rintro e w1 ⟨rfl, hb1⟩
      have HN0 := Lib.hid (Wl.blk_after (Wl.new_blk _ _) hb1)
      have HX0 := HN0
      clear HN0
      have c0_0 := (Wl.blk_cell HX0.out 0).trans rfl
      have c0_1 := (Wl.blk_cell HX0.out 1).trans rfl
      have c0_2 := (Wl.blk_cell HX0.out 2).trans rfl
      have c0_3 := (Wl.blk_cell HX0.out 3).trans rfl
      have c0_4 := (Wl.blk_cell HX0.out 4).trans rfl
      have c0_5 := (Wl.blk_cell HX0.out 5).trans rfl
      have c0_6 := (Wl.blk_cell HX0.out 6).trans rfl
      have c0_7 := (Wl.blk_cell HX0.out 7).trans rfl
      have f0_0 := Wl.blk_frozen HX0.out 0
      have f0_1 := Wl.blk_frozen HX0.out 1
      have f0_2 := Wl.blk_frozen HX0.out 2
      have f0_3 := Wl.blk_frozen HX0.out 3
      have f0_4 := Wl.blk_frozen HX0.out 4
      have f0_5 := Wl.blk_frozen HX0.out 5
      have f0_6 := Wl.blk_frozen HX0.out 6
      have f0_7 := Wl.blk_frozen HX0.out 7
      rw [hx]
      go_wp2_with fail
      go_ret
      exact ⟨rfl, by (repeat (first | (with_reducible apply Wl.bl_alloc) | (with_reducible apply Wl.bl_drewN) | (with_reducible apply Wl.bl_drew) | (with_reducible refine Wl.bl_set ?_ (by simp; try omega)) | (with_reducible exact Below.refl _ _) | (with_reducible assumption) | (with_reducible refine Wl.bl_trans ?_ (by assumption))))⟩
    · have e : fullR m a = false := by unfold fullR; rw [hx, decide_eq_false hs]; rfl
      rw [e]
      clear e
      have q1 : ∀ w, (binOp .eql 26 (.agg #[.int .u64 (Sets.wd a 0), .int .u64 (Sets.wd a 1), .int .u64 (Sets.wd a 2), .int .u64 (Sets.wd a 3)]) (.agg #[.int .u64 (Sets.wd m 0), .int .u64 (Sets.wd m 1), .int .u64 (Sets.wd m 2), .int .u64 (Sets.wd m 3)])).run Tryd.prog w = .ok (.bool false) w := fun w => by rw [eq_sets a m ha hm, decide_eq_false hs]
      have HS := Lib.hid hs
      clear hs
      go_enter Tryd.func16, Tryd.ntmps16
      go_wp2_with fail
      refine (roll_fine m a hm ha _ (hG.below (by (repeat (first | (with_reducible apply Wl.bl_alloc) | (with_reducible apply Wl.bl_drewN) | (with_reducible apply Wl.bl_drew) | (with_reducible refine Wl.bl_set ?_ (by simp; try omega)) | (with_reducible exact Below.refl _ _) | (with_reducible assumption) | (with_reducible refine Wl.bl_trans ?_ (by assumption))))))).mono ?_
      rintro e w1 ⟨rfl, hb1⟩
      have HN0 := Lib.hid (Wl.blk_after (Wl.new_blk _ _) hb1)
      have HX0 := HN0
      clear HN0
      have c0_0 := (Wl.blk_cell HX0.out 0).trans rfl
      have c0_1 := (Wl.blk_cell HX0.out 1).trans rfl
      have c0_2 := (Wl.blk_cell HX0.out 2).trans rfl
      have c0_3 := (Wl.blk_cell HX0.out 3).trans rfl
      have c0_4 := (Wl.blk_cell HX0.out 4).trans rfl
      have c0_5 := (Wl.blk_cell HX0.out 5).trans rfl
      have c0_6 := (Wl.blk_cell HX0.out 6).trans rfl
      have c0_7 := (Wl.blk_cell HX0.out 7).trans rfl
      have f0_0 := Wl.blk_frozen HX0.out 0
      have f0_1 := Wl.blk_frozen HX0.out 1
      have f0_2 := Wl.blk_frozen HX0.out 2
      have f0_3 := Wl.blk_frozen HX0.out 3
      have f0_4 := Wl.blk_frozen HX0.out 4
      have f0_5 := Wl.blk_frozen HX0.out 5
      have f0_6 := Wl.blk_frozen HX0.out 6
      have f0_7 := Wl.blk_frozen HX0.out 7
      rw [hx]
      go_wp2_with fail
      go_ret
      exact ⟨rfl, by (repeat (first | (with_reducible apply Wl.bl_alloc) | (with_reducible apply Wl.bl_drewN) | (with_reducible apply Wl.bl_drew) | (with_reducible refine Wl.bl_set ?_ (by simp; try omega)) | (with_reducible exact Below.refl _ _) | (with_reducible assumption) | (with_reducible refine Wl.bl_trans ?_ (by assumption))))⟩
  | false =>
    have e : fullR m a = false := by simp [fullR, hx]
    rw [e]
    clear e
    go_enter Tryd.func16, Tryd.ntmps16
    go_wp2_with fail
    refine (roll_fine m a hm ha _ (hG.below (by (repeat (first | (with_reducible apply Wl.bl_alloc) | (with_reducible apply Wl.bl_drewN) | (with_reducible apply Wl.bl_drew) | (with_reducible refine Wl.bl_set ?_ (by simp; try omega)) | (with_reducible exact Below.refl _ _) | (with_reducible assumption) | (with_reducible refine Wl.bl_trans ?_ (by assumption))))))).mono ?_
    rintro e w1 ⟨rfl, hb1⟩
    rw [hx]
    go_wp2_with fail
    go_ret
    exact ⟨rfl, by (repeat (first | (with_reducible apply Wl.bl_alloc) | (with_reducible apply Wl.bl_drewN) | (with_reducible apply Wl.bl_drew) | (with_reducible refine Wl.bl_set ?_ (by simp; try omega)) | (with_reducible exact Below.refl _ _) | (with_reducible assumption) | (with_reducible refine Wl.bl_trans ?_ (by assumption))))⟩
end Go.Proofs.YtdaionnpgcdkdaaDoor
