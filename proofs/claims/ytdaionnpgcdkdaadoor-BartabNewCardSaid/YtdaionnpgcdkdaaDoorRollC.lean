import Derived.Test.YtdaionnpgcdkdaaDoorRoll
set_option linter.unusedVariables false
set_option linter.unusedSimpArgs false
namespace Go.Proofs.YtdaionnpgcdkdaaDoor
open Go.RowKit
open Sets (hasS addS dropS lessS subS isId)
set_option maxHeartbeats 2000000 in
theorem roll_offer (m a : Nat) (hm : Sets.In m) (ha : Sets.In a) (p : Int) (w : World) (hG : GL w) :
    Calls Tryd.prog 14 #[.agg #[.int .u64 (Sets.wd m 0), .int .u64 (Sets.wd m 1), .int .u64 (Sets.wd m 2), .int .u64 (Sets.wd m 3), .int .u64 (Sets.wd a 0), .int .u64 (Sets.wd a 1), .int .u64 (Sets.wd a 2), .int .u64 (Sets.wd a 3)], .int .i64 p] w fun e w' => e = .returned (.tuple #[.agg #[.int .u64 (Sets.wd ((offerR m a p).1) 0), .int .u64 (Sets.wd ((offerR m a p).1) 1), .int .u64 (Sets.wd ((offerR m a p).1) 2), .int .u64 (Sets.wd ((offerR m a p).1) 3), .int .u64 (Sets.wd ((offerR m a p).2.1) 0), .int .u64 (Sets.wd ((offerR m a p).2.1) 1), .int .u64 (Sets.wd ((offerR m a p).2.1) 2), .int .u64 (Sets.wd ((offerR m a p).2.1) 3)], .int .i64 (offerR m a p).2.2]) ∧ Below w.heap.size w w' := by
  by_cases hx : askedR m a p = 0
  · cases hh : hasS m p with
    | true =>
      cases hk : hasS a p with
      | true =>
        have e : offerR m a p = (m, a, 7) := by simp [offerR, hx, hh, hk]
        rw [e]
        clear e
        go_enter Tryd.func14, Tryd.ntmps14
        go_wp2_with fail
        refine (roll_asked m a hm ha p _ (hG.below (by (repeat (first | (with_reducible apply Wl.bl_alloc) | (with_reducible apply Wl.bl_drewN) | (with_reducible apply Wl.bl_drew) | (with_reducible refine Wl.bl_set ?_ (by simp; try omega)) | (with_reducible exact Below.refl _ _) | (with_reducible assumption) | (with_reducible refine Wl.bl_trans ?_ (by assumption))))))).mono ?_
        rintro e w1 ⟨rfl, hb1⟩
        have HN0 := Lib.hid (Wl.blk_after (Wl.blk_alloc (Wl.new_blk _ _) _) hb1)
        have HX0 := HN0
        clear HN0
        have c0_0 := (Wl.blk_cell HX0.out 0).trans rfl
        have c0_1 := (Wl.blk_cell HX0.out 1).trans rfl
        have c0_2 := (Wl.blk_cell HX0.out 2).trans rfl
        have c0_3 := (Wl.blk_cell HX0.out 3).trans rfl
        have c0_4 := (Wl.blk_cell HX0.out 4).trans rfl
        have c0_5 := (Wl.blk_cell HX0.out 5).trans rfl
        have c0_6 := (Wl.blk_cell HX0.out 6).trans rfl
        have c0_7 := (Wl.blk_cell HX0.out 7).trans rfl
        have f0_0 := Wl.blk_frozen HX0.out 0
        have f0_1 := Wl.blk_frozen HX0.out 1
        have f0_2 := Wl.blk_frozen HX0.out 2
        have f0_3 := Wl.blk_frozen HX0.out 3
        have f0_4 := Wl.blk_frozen HX0.out 4
        have f0_5 := Wl.blk_frozen HX0.out 5
        have f0_6 := Wl.blk_frozen HX0.out 6
        have f0_7 := Wl.blk_frozen HX0.out 7
        have HN1 := Lib.hid (Wl.blk_after (Wl.new_blk1 _ _ _) hb1)
        have HX1 := HN1
        clear HN1
        have c1_0 := (Wl.blk_cell HX1.out 0).trans rfl
        have c1_1 := (Wl.blk_cell HX1.out 1).trans rfl
        have c1_2 := (Wl.blk_cell HX1.out 2).trans rfl
        have c1_3 := (Wl.blk_cell HX1.out 3).trans rfl
        have c1_4 := (Wl.blk_cell HX1.out 4).trans rfl
        have c1_5 := (Wl.blk_cell HX1.out 5).trans rfl
        have c1_6 := (Wl.blk_cell HX1.out 6).trans rfl
        have c1_7 := (Wl.blk_cell HX1.out 7).trans rfl
        have f1_0 := Wl.blk_frozen HX1.out 0
        have f1_1 := Wl.blk_frozen HX1.out 1
        have f1_2 := Wl.blk_frozen HX1.out 2
        have f1_3 := Wl.blk_frozen HX1.out 3
        have f1_4 := Wl.blk_frozen HX1.out 4
        have f1_5 := Wl.blk_frozen HX1.out 5
        have f1_6 := Wl.blk_frozen HX1.out 6
        have f1_7 := Wl.blk_frozen HX1.out 7
        go_wp2_with fail
        refine (has_any m p _).mono ?_
        rintro e w2 ⟨rfl, hb2⟩
        clear c0_0 f0_0 c0_1 f0_1 c0_2 f0_2 c0_3 f0_3 c0_4 f0_4 c0_5 f0_5 c0_6 f0_6 c0_7 f0_7
        first | have HN0 := Lib.hid (Wl.blk_after HX0.out hb2) | have HN0 := Lib.hid (Wl.blk_after (Wl.blk_alloc HX0.out _) hb2) | have HN0 := Lib.hid (Wl.blk_after (Wl.blk_alloc (Wl.blk_alloc HX0.out _) _) hb2) | have HN0 := Lib.hid (Wl.blk_after (Wl.blk_drew HX0.out) hb2)
        clear HX0
        have HX0 := HN0
        clear HN0
        have c0_0 := (Wl.blk_cell HX0.out 0).trans rfl
        have c0_1 := (Wl.blk_cell HX0.out 1).trans rfl
        have c0_2 := (Wl.blk_cell HX0.out 2).trans rfl
        have c0_3 := (Wl.blk_cell HX0.out 3).trans rfl
        have c0_4 := (Wl.blk_cell HX0.out 4).trans rfl
        have c0_5 := (Wl.blk_cell HX0.out 5).trans rfl
        have c0_6 := (Wl.blk_cell HX0.out 6).trans rfl
        have c0_7 := (Wl.blk_cell HX0.out 7).trans rfl
        have f0_0 := Wl.blk_frozen HX0.out 0
        have f0_1 := Wl.blk_frozen HX0.out 1
        have f0_2 := Wl.blk_frozen HX0.out 2
        have f0_3 := Wl.blk_frozen HX0.out 3
        have f0_4 := Wl.blk_frozen HX0.out 4
        have f0_5 := Wl.blk_frozen HX0.out 5
        have f0_6 := Wl.blk_frozen HX0.out 6
        have f0_7 := Wl.blk_frozen HX0.out 7
        clear c1_0 f1_0 c1_1 f1_1 c1_2 f1_2 c1_3 f1_3 c1_4 f1_4 c1_5 f1_5 c1_6 f1_6 c1_7 f1_7
        first | have HN1 := Lib.hid (Wl.blk_after HX1.out hb2) | have HN1 := Lib.hid (Wl.blk_after (Wl.blk_alloc HX1.out _) hb2) | have HN1 := Lib.hid (Wl.blk_after (Wl.blk_alloc (Wl.blk_alloc HX1.out _) _) hb2) | have HN1 := Lib.hid (Wl.blk_after (Wl.blk_drew HX1.out) hb2)
        clear HX1
        have HX1 := HN1
        clear HN1
        have c1_0 := (Wl.blk_cell HX1.out 0).trans rfl
        have c1_1 := (Wl.blk_cell HX1.out 1).trans rfl
        have c1_2 := (Wl.blk_cell HX1.out 2).trans rfl
        have c1_3 := (Wl.blk_cell HX1.out 3).trans rfl
        have c1_4 := (Wl.blk_cell HX1.out 4).trans rfl
        have c1_5 := (Wl.blk_cell HX1.out 5).trans rfl
        have c1_6 := (Wl.blk_cell HX1.out 6).trans rfl
        have c1_7 := (Wl.blk_cell HX1.out 7).trans rfl
        have f1_0 := Wl.blk_frozen HX1.out 0
        have f1_1 := Wl.blk_frozen HX1.out 1
        have f1_2 := Wl.blk_frozen HX1.out 2
        have f1_3 := Wl.blk_frozen HX1.out 3
        have f1_4 := Wl.blk_frozen HX1.out 4
        have f1_5 := Wl.blk_frozen HX1.out 5
        have f1_6 := Wl.blk_frozen HX1.out 6
        have f1_7 := Wl.blk_frozen HX1.out 7
        go_wp2_with fail
        refine (has_any a p _).mono ?_
        rintro e w3 ⟨rfl, hb3⟩
        clear c0_0 f0_0 c0_1 f0_1 c0_2 f0_2 c0_3 f0_3 c0_4 f0_4 c0_5 f0_5 c0_6 f0_6 c0_7 f0_7
        first | have HN0 := Lib.hid (Wl.blk_after HX0.out hb3) | have HN0 := Lib.hid (Wl.blk_after (Wl.blk_alloc HX0.out _) hb3) | have HN0 := Lib.hid (Wl.blk_after (Wl.blk_alloc (Wl.blk_alloc HX0.out _) _) hb3) | have HN0 := Lib.hid (Wl.blk_after (Wl.blk_drew HX0.out) hb3)
        clear HX0
        have HX0 := HN0
        clear HN0
        have c0_0 := (Wl.blk_cell HX0.out 0).trans rfl
        have c0_1 := (Wl.blk_cell HX0.out 1).trans rfl
        have c0_2 := (Wl.blk_cell HX0.out 2).trans rfl
        have c0_3 := (Wl.blk_cell HX0.out 3).trans rfl
        have c0_4 := (Wl.blk_cell HX0.out 4).trans rfl
        have c0_5 := (Wl.blk_cell HX0.out 5).trans rfl
        have c0_6 := (Wl.blk_cell HX0.out 6).trans rfl
        have c0_7 := (Wl.blk_cell HX0.out 7).trans rfl
        have f0_0 := Wl.blk_frozen HX0.out 0
        have f0_1 := Wl.blk_frozen HX0.out 1
        have f0_2 := Wl.blk_frozen HX0.out 2
        have f0_3 := Wl.blk_frozen HX0.out 3
        have f0_4 := Wl.blk_frozen HX0.out 4
        have f0_5 := Wl.blk_frozen HX0.out 5
        have f0_6 := Wl.blk_frozen HX0.out 6
        have f0_7 := Wl.blk_frozen HX0.out 7
        clear c1_0 f1_0 c1_1 f1_1 c1_2 f1_2 c1_3 f1_3 c1_4 f1_4 c1_5 f1_5 c1_6 f1_6 c1_7 f1_7
        first | have HN1 := Lib.hid (Wl.blk_after HX1.out hb3) | have HN1 := Lib.hid (Wl.blk_after (Wl.blk_alloc HX1.out _) hb3) | have HN1 := Lib.hid (Wl.blk_after (Wl.blk_alloc (Wl.blk_alloc HX1.out _) _) hb3) | have HN1 := Lib.hid (Wl.blk_after (Wl.blk_drew HX1.out) hb3)
        clear HX1
        have HX1 := HN1
        clear HN1
        have c1_0 := (Wl.blk_cell HX1.out 0).trans rfl
        have c1_1 := (Wl.blk_cell HX1.out 1).trans rfl
        have c1_2 := (Wl.blk_cell HX1.out 2).trans rfl
        have c1_3 := (Wl.blk_cell HX1.out 3).trans rfl
        have c1_4 := (Wl.blk_cell HX1.out 4).trans rfl
        have c1_5 := (Wl.blk_cell HX1.out 5).trans rfl
        have c1_6 := (Wl.blk_cell HX1.out 6).trans rfl
        have c1_7 := (Wl.blk_cell HX1.out 7).trans rfl
        have f1_0 := Wl.blk_frozen HX1.out 0
        have f1_1 := Wl.blk_frozen HX1.out 1
        have f1_2 := Wl.blk_frozen HX1.out 2
        have f1_3 := Wl.blk_frozen HX1.out 3
        have f1_4 := Wl.blk_frozen HX1.out 4
        have f1_5 := Wl.blk_frozen HX1.out 5
        have f1_6 := Wl.blk_frozen HX1.out 6
        have f1_7 := Wl.blk_frozen HX1.out 7
        go_wp2_with fail
        refine bodyPost_ret (v := .tuple #[.agg #[.int .u64 (Sets.wd m 0), .int .u64 (Sets.wd m 1), .int .u64 (Sets.wd m 2), .int .u64 (Sets.wd m 3), .int .u64 (Sets.wd a 0), .int .u64 (Sets.wd a 1), .int .u64 (Sets.wd a 2), .int .u64 (Sets.wd a 3)], .int .i64 7]) ?_ rfl ⟨rfl, ?_⟩
        · simp [results, Tryd.results14, go_sem, c1_0, c1_1, c1_2, c1_3, c1_4, c1_5, c1_6, c1_7]
        · (repeat (first | (with_reducible apply Wl.bl_alloc) | (with_reducible apply Wl.bl_drewN) | (with_reducible apply Wl.bl_drew) | (with_reducible refine Wl.bl_set ?_ (by simp; try omega)) | (with_reducible exact Below.refl _ _) | (with_reducible assumption) | (with_reducible refine Wl.bl_trans ?_ (by assumption))))
      | false =>
        have e : offerR m a p = (m, addS a p, 0) := by simp [offerR, hx, hh, hk]
        rw [e]
        clear e
        go_enter Tryd.func14, Tryd.ntmps14
        go_wp2_with fail
        refine (roll_asked m a hm ha p _ (hG.below (by (repeat (first | (with_reducible apply Wl.bl_alloc) | (with_reducible apply Wl.bl_drewN) | (with_reducible apply Wl.bl_drew) | (with_reducible refine Wl.bl_set ?_ (by simp; try omega)) | (with_reducible exact Below.refl _ _) | (with_reducible assumption) | (with_reducible refine Wl.bl_trans ?_ (by assumption))))))).mono ?_
        rintro e w1 ⟨rfl, hb1⟩
        have HN0 := Lib.hid (Wl.blk_after (Wl.blk_alloc (Wl.new_blk _ _) _) hb1)
        have HX0 := HN0
        clear HN0
        have c0_0 := (Wl.blk_cell HX0.out 0).trans rfl
        have c0_1 := (Wl.blk_cell HX0.out 1).trans rfl
        have c0_2 := (Wl.blk_cell HX0.out 2).trans rfl
        have c0_3 := (Wl.blk_cell HX0.out 3).trans rfl
        have c0_4 := (Wl.blk_cell HX0.out 4).trans rfl
        have c0_5 := (Wl.blk_cell HX0.out 5).trans rfl
        have c0_6 := (Wl.blk_cell HX0.out 6).trans rfl
        have c0_7 := (Wl.blk_cell HX0.out 7).trans rfl
        have f0_0 := Wl.blk_frozen HX0.out 0
        have f0_1 := Wl.blk_frozen HX0.out 1
        have f0_2 := Wl.blk_frozen HX0.out 2
        have f0_3 := Wl.blk_frozen HX0.out 3
        have f0_4 := Wl.blk_frozen HX0.out 4
        have f0_5 := Wl.blk_frozen HX0.out 5
        have f0_6 := Wl.blk_frozen HX0.out 6
        have f0_7 := Wl.blk_frozen HX0.out 7
        have HN1 := Lib.hid (Wl.blk_after (Wl.new_blk1 _ _ _) hb1)
        have HX1 := HN1
        clear HN1
        have c1_0 := (Wl.blk_cell HX1.out 0).trans rfl
        have c1_1 := (Wl.blk_cell HX1.out 1).trans rfl
        have c1_2 := (Wl.blk_cell HX1.out 2).trans rfl
        have c1_3 := (Wl.blk_cell HX1.out 3).trans rfl
        have c1_4 := (Wl.blk_cell HX1.out 4).trans rfl
        have c1_5 := (Wl.blk_cell HX1.out 5).trans rfl
        have c1_6 := (Wl.blk_cell HX1.out 6).trans rfl
        have c1_7 := (Wl.blk_cell HX1.out 7).trans rfl
        have f1_0 := Wl.blk_frozen HX1.out 0
        have f1_1 := Wl.blk_frozen HX1.out 1
        have f1_2 := Wl.blk_frozen HX1.out 2
        have f1_3 := Wl.blk_frozen HX1.out 3
        have f1_4 := Wl.blk_frozen HX1.out 4
        have f1_5 := Wl.blk_frozen HX1.out 5
        have f1_6 := Wl.blk_frozen HX1.out 6
        have f1_7 := Wl.blk_frozen HX1.out 7
        go_wp2_with fail
        refine (has_any m p _).mono ?_
        rintro e w2 ⟨rfl, hb2⟩
        clear c0_0 f0_0 c0_1 f0_1 c0_2 f0_2 c0_3 f0_3 c0_4 f0_4 c0_5 f0_5 c0_6 f0_6 c0_7 f0_7
        first | have HN0 := Lib.hid (Wl.blk_after HX0.out hb2) | have HN0 := Lib.hid (Wl.blk_after (Wl.blk_alloc HX0.out _) hb2) | have HN0 := Lib.hid (Wl.blk_after (Wl.blk_alloc (Wl.blk_alloc HX0.out _) _) hb2) | have HN0 := Lib.hid (Wl.blk_after (Wl.blk_drew HX0.out) hb2)
        clear HX0
        have HX0 := HN0
        clear HN0
        have c0_0 := (Wl.blk_cell HX0.out 0).trans rfl
        have c0_1 := (Wl.blk_cell HX0.out 1).trans rfl
        have c0_2 := (Wl.blk_cell HX0.out 2).trans rfl
        have c0_3 := (Wl.blk_cell HX0.out 3).trans rfl
        have c0_4 := (Wl.blk_cell HX0.out 4).trans rfl
        have c0_5 := (Wl.blk_cell HX0.out 5).trans rfl
        have c0_6 := (Wl.blk_cell HX0.out 6).trans rfl
        have c0_7 := (Wl.blk_cell HX0.out 7).trans rfl
        have f0_0 := Wl.blk_frozen HX0.out 0
        have f0_1 := Wl.blk_frozen HX0.out 1
        have f0_2 := Wl.blk_frozen HX0.out 2
        have f0_3 := Wl.blk_frozen HX0.out 3
        have f0_4 := Wl.blk_frozen HX0.out 4
        have f0_5 := Wl.blk_frozen HX0.out 5
        have f0_6 := Wl.blk_frozen HX0.out 6
        have f0_7 := Wl.blk_frozen HX0.out 7
        clear c1_0 f1_0 c1_1 f1_1 c1_2 f1_2 c1_3 f1_3 c1_4 f1_4 c1_5 f1_5 c1_6 f1_6 c1_7 f1_7
        first | have HN1 := Lib.hid (Wl.blk_after HX1.out hb2) | have HN1 := Lib.hid (Wl.blk_after (Wl.blk_alloc HX1.out _) hb2) | have HN1 := Lib.hid (Wl.blk_after (Wl.blk_alloc (Wl.blk_alloc HX1.out _) _) hb2) | have HN1 := Lib.hid (Wl.blk_after (Wl.blk_drew HX1.out) hb2)
        clear HX1
        have HX1 := HN1
        clear HN1
        have c1_0 := (Wl.blk_cell HX1.out 0).trans rfl
        have c1_1 := (Wl.blk_cell HX1.out 1).trans rfl
        have c1_2 := (Wl.blk_cell HX1.out 2).trans rfl
        have c1_3 := (Wl.blk_cell HX1.out 3).trans rfl
        have c1_4 := (Wl.blk_cell HX1.out 4).trans rfl
        have c1_5 := (Wl.blk_cell HX1.out 5).trans rfl
        have c1_6 := (Wl.blk_cell HX1.out 6).trans rfl
        have c1_7 := (Wl.blk_cell HX1.out 7).trans rfl
        have f1_0 := Wl.blk_frozen HX1.out 0
        have f1_1 := Wl.blk_frozen HX1.out 1
        have f1_2 := Wl.blk_frozen HX1.out 2
        have f1_3 := Wl.blk_frozen HX1.out 3
        have f1_4 := Wl.blk_frozen HX1.out 4
        have f1_5 := Wl.blk_frozen HX1.out 5
        have f1_6 := Wl.blk_frozen HX1.out 6
        have f1_7 := Wl.blk_frozen HX1.out 7
        go_wp2_with fail
        refine (has_any a p _).mono ?_
        rintro e w3 ⟨rfl, hb3⟩
        clear c0_0 f0_0 c0_1 f0_1 c0_2 f0_2 c0_3 f0_3 c0_4 f0_4 c0_5 f0_5 c0_6 f0_6 c0_7 f0_7
        first | have HN0 := Lib.hid (Wl.blk_after HX0.out hb3) | have HN0 := Lib.hid (Wl.blk_after (Wl.blk_alloc HX0.out _) hb3) | have HN0 := Lib.hid (Wl.blk_after (Wl.blk_alloc (Wl.blk_alloc HX0.out _) _) hb3) | have HN0 := Lib.hid (Wl.blk_after (Wl.blk_drew HX0.out) hb3)
        clear HX0
        have HX0 := HN0
        clear HN0
        have c0_0 := (Wl.blk_cell HX0.out 0).trans rfl
        have c0_1 := (Wl.blk_cell HX0.out 1).trans rfl
        have c0_2 := (Wl.blk_cell HX0.out 2).trans rfl
        have c0_3 := (Wl.blk_cell HX0.out 3).trans rfl
        have c0_4 := (Wl.blk_cell HX0.out 4).trans rfl
        have c0_5 := (Wl.blk_cell HX0.out 5).trans rfl
        have c0_6 := (Wl.blk_cell HX0.out 6).trans rfl
        have c0_7 := (Wl.blk_cell HX0.out 7).trans rfl
        have f0_0 := Wl.blk_frozen HX0.out 0
        have f0_1 := Wl.blk_frozen HX0.out 1
        have f0_2 := Wl.blk_frozen HX0.out 2
        have f0_3 := Wl.blk_frozen HX0.out 3
        have f0_4 := Wl.blk_frozen HX0.out 4
        have f0_5 := Wl.blk_frozen HX0.out 5
        have f0_6 := Wl.blk_frozen HX0.out 6
        have f0_7 := Wl.blk_frozen HX0.out 7
        clear c1_0 f1_0 c1_1 f1_1 c1_2 f1_2 c1_3 f1_3 c1_4 f1_4 c1_5 f1_5 c1_6 f1_6 c1_7 f1_7
        first | have HN1 := Lib.hid (Wl.blk_after HX1.out hb3) | have HN1 := Lib.hid (Wl.blk_after (Wl.blk_alloc HX1.out _) hb3) | have HN1 := Lib.hid (Wl.blk_after (Wl.blk_alloc (Wl.blk_alloc HX1.out _) _) hb3) | have HN1 := Lib.hid (Wl.blk_after (Wl.blk_drew HX1.out) hb3)
        clear HX1
        have HX1 := HN1
        clear HN1
        have c1_0 := (Wl.blk_cell HX1.out 0).trans rfl
        have c1_1 := (Wl.blk_cell HX1.out 1).trans rfl
        have c1_2 := (Wl.blk_cell HX1.out 2).trans rfl
        have c1_3 := (Wl.blk_cell HX1.out 3).trans rfl
        have c1_4 := (Wl.blk_cell HX1.out 4).trans rfl
        have c1_5 := (Wl.blk_cell HX1.out 5).trans rfl
        have c1_6 := (Wl.blk_cell HX1.out 6).trans rfl
        have c1_7 := (Wl.blk_cell HX1.out 7).trans rfl
        have f1_0 := Wl.blk_frozen HX1.out 0
        have f1_1 := Wl.blk_frozen HX1.out 1
        have f1_2 := Wl.blk_frozen HX1.out 2
        have f1_3 := Wl.blk_frozen HX1.out 3
        have f1_4 := Wl.blk_frozen HX1.out 4
        have f1_5 := Wl.blk_frozen HX1.out 5
        have f1_6 := Wl.blk_frozen HX1.out 6
        have f1_7 := Wl.blk_frozen HX1.out 7
        go_wp2_with fail
        refine (add_any a p _).mono ?_
        rintro e w4 ⟨rfl, hb4⟩
        clear c0_0 f0_0 c0_1 f0_1 c0_2 f0_2 c0_3 f0_3 c0_4 f0_4 c0_5 f0_5 c0_6 f0_6 c0_7 f0_7
        first | have HN0 := Lib.hid (Wl.blk_after HX0.out hb4) | have HN0 := Lib.hid (Wl.blk_after (Wl.blk_alloc HX0.out _) hb4) | have HN0 := Lib.hid (Wl.blk_after (Wl.blk_alloc (Wl.blk_alloc HX0.out _) _) hb4) | have HN0 := Lib.hid (Wl.blk_after (Wl.blk_drew HX0.out) hb4)
        clear HX0
        have HX0 := HN0
        clear HN0
        have c0_0 := (Wl.blk_cell HX0.out 0).trans rfl
        have c0_1 := (Wl.blk_cell HX0.out 1).trans rfl
        have c0_2 := (Wl.blk_cell HX0.out 2).trans rfl
        have c0_3 := (Wl.blk_cell HX0.out 3).trans rfl
        have c0_4 := (Wl.blk_cell HX0.out 4).trans rfl
        have c0_5 := (Wl.blk_cell HX0.out 5).trans rfl
        have c0_6 := (Wl.blk_cell HX0.out 6).trans rfl
        have c0_7 := (Wl.blk_cell HX0.out 7).trans rfl
        have f0_0 := Wl.blk_frozen HX0.out 0
        have f0_1 := Wl.blk_frozen HX0.out 1
        have f0_2 := Wl.blk_frozen HX0.out 2
        have f0_3 := Wl.blk_frozen HX0.out 3
        have f0_4 := Wl.blk_frozen HX0.out 4
        have f0_5 := Wl.blk_frozen HX0.out 5
        have f0_6 := Wl.blk_frozen HX0.out 6
        have f0_7 := Wl.blk_frozen HX0.out 7
        clear c1_0 f1_0 c1_1 f1_1 c1_2 f1_2 c1_3 f1_3 c1_4 f1_4 c1_5 f1_5 c1_6 f1_6 c1_7 f1_7
        first | have HN1 := Lib.hid (Wl.blk_after HX1.out hb4) | have HN1 := Lib.hid (Wl.blk_after (Wl.blk_alloc HX1.out _) hb4) | have HN1 := Lib.hid (Wl.blk_after (Wl.blk_alloc (Wl.blk_alloc HX1.out _) _) hb4) | have HN1 := Lib.hid (Wl.blk_after (Wl.blk_drew HX1.out) hb4)
        clear HX1
        have HX1 := HN1
        clear HN1
        have c1_0 := (Wl.blk_cell HX1.out 0).trans rfl
        have c1_1 := (Wl.blk_cell HX1.out 1).trans rfl
        have c1_2 := (Wl.blk_cell HX1.out 2).trans rfl
        have c1_3 := (Wl.blk_cell HX1.out 3).trans rfl
        have c1_4 := (Wl.blk_cell HX1.out 4).trans rfl
        have c1_5 := (Wl.blk_cell HX1.out 5).trans rfl
        have c1_6 := (Wl.blk_cell HX1.out 6).trans rfl
        have c1_7 := (Wl.blk_cell HX1.out 7).trans rfl
        have f1_0 := Wl.blk_frozen HX1.out 0
        have f1_1 := Wl.blk_frozen HX1.out 1
        have f1_2 := Wl.blk_frozen HX1.out 2
        have f1_3 := Wl.blk_frozen HX1.out 3
        have f1_4 := Wl.blk_frozen HX1.out 4
        have f1_5 := Wl.blk_frozen HX1.out 5
        have f1_6 := Wl.blk_frozen HX1.out 6
        have f1_7 := Wl.blk_frozen HX1.out 7
        go_wp2_with fail
        refine bodyPost_ret (v := .tuple #[.agg #[.int .u64 (Sets.wd m 0), .int .u64 (Sets.wd m 1), .int .u64 (Sets.wd m 2), .int .u64 (Sets.wd m 3), .int .u64 (Sets.wd (addS a p) 0), .int .u64 (Sets.wd (addS a p) 1), .int .u64 (Sets.wd (addS a p) 2), .int .u64 (Sets.wd (addS a p) 3)], .int .i64 0]) ?_ rfl ⟨rfl, ?_⟩
        · simp [results, Tryd.results14, go_sem, c1_0, c1_1, c1_2, c1_3, c1_4, c1_5, c1_6, c1_7]
        · (repeat (first | (with_reducible apply Wl.bl_alloc) | (with_reducible apply Wl.bl_drewN) | (with_reducible apply Wl.bl_drew) | (with_reducible refine Wl.bl_set ?_ (by simp; try omega)) | (with_reducible exact Below.refl _ _) | (with_reducible assumption) | (with_reducible refine Wl.bl_trans ?_ (by assumption))))
    | false =>
      have e : offerR m a p = (m, a, 6) := by simp [offerR, hx, hh]
      rw [e]
      clear e
      go_enter Tryd.func14, Tryd.ntmps14
      go_wp2_with fail
      refine (roll_asked m a hm ha p _ (hG.below (by (repeat (first | (with_reducible apply Wl.bl_alloc) | (with_reducible apply Wl.bl_drewN) | (with_reducible apply Wl.bl_drew) | (with_reducible refine Wl.bl_set ?_ (by simp; try omega)) | (with_reducible exact Below.refl _ _) | (with_reducible assumption) | (with_reducible refine Wl.bl_trans ?_ (by assumption))))))).mono ?_
      rintro e w1 ⟨rfl, hb1⟩
      have HN0 := Lib.hid (Wl.blk_after (Wl.blk_alloc (Wl.new_blk _ _) _) hb1)
      have HX0 := HN0
      clear HN0
      have c0_0 := (Wl.blk_cell HX0.out 0).trans rfl
      have c0_1 := (Wl.blk_cell HX0.out 1).trans rfl
      have c0_2 := (Wl.blk_cell HX0.out 2).trans rfl
      have c0_3 := (Wl.blk_cell HX0.out 3).trans rfl
      have c0_4 := (Wl.blk_cell HX0.out 4).trans rfl
      have c0_5 := (Wl.blk_cell HX0.out 5).trans rfl
      have c0_6 := (Wl.blk_cell HX0.out 6).trans rfl
      have c0_7 := (Wl.blk_cell HX0.out 7).trans rfl
      have f0_0 := Wl.blk_frozen HX0.out 0
      have f0_1 := Wl.blk_frozen HX0.out 1
      have f0_2 := Wl.blk_frozen HX0.out 2
      have f0_3 := Wl.blk_frozen HX0.out 3
      have f0_4 := Wl.blk_frozen HX0.out 4
      have f0_5 := Wl.blk_frozen HX0.out 5
      have f0_6 := Wl.blk_frozen HX0.out 6
      have f0_7 := Wl.blk_frozen HX0.out 7
      have HN1 := Lib.hid (Wl.blk_after (Wl.new_blk1 _ _ _) hb1)
      have HX1 := HN1
      clear HN1
      have c1_0 := (Wl.blk_cell HX1.out 0).trans rfl
      have c1_1 := (Wl.blk_cell HX1.out 1).trans rfl
      have c1_2 := (Wl.blk_cell HX1.out 2).trans rfl
      have c1_3 := (Wl.blk_cell HX1.out 3).trans rfl
      have c1_4 := (Wl.blk_cell HX1.out 4).trans rfl
      have c1_5 := (Wl.blk_cell HX1.out 5).trans rfl
      have c1_6 := (Wl.blk_cell HX1.out 6).trans rfl
      have c1_7 := (Wl.blk_cell HX1.out 7).trans rfl
      have f1_0 := Wl.blk_frozen HX1.out 0
      have f1_1 := Wl.blk_frozen HX1.out 1
      have f1_2 := Wl.blk_frozen HX1.out 2
      have f1_3 := Wl.blk_frozen HX1.out 3
      have f1_4 := Wl.blk_frozen HX1.out 4
      have f1_5 := Wl.blk_frozen HX1.out 5
      have f1_6 := Wl.blk_frozen HX1.out 6
      have f1_7 := Wl.blk_frozen HX1.out 7
      go_wp2_with fail
      refine (has_any m p _).mono ?_
      rintro e w2 ⟨rfl, hb2⟩
      clear c0_0 f0_0 c0_1 f0_1 c0_2 f0_2 c0_3 f0_3 c0_4 f0_4 c0_5 f0_5 c0_6 f0_6 c0_7 f0_7
      first | have HN0 := Lib.hid (Wl.blk_after HX0.out hb2) | have HN0 := Lib.hid (Wl.blk_after (Wl.blk_alloc HX0.out _) hb2) | have HN0 := Lib.hid (Wl.blk_after (Wl.blk_alloc (Wl.blk_alloc HX0.out _) _) hb2) | have HN0 := Lib.hid (Wl.blk_after (Wl.blk_drew HX0.out) hb2)
      clear HX0
      have HX0 := HN0
      clear HN0
      have c0_0 := (Wl.blk_cell HX0.out 0).trans rfl
      have c0_1 := (Wl.blk_cell HX0.out 1).trans rfl
      have c0_2 := (Wl.blk_cell HX0.out 2).trans rfl
      have c0_3 := (Wl.blk_cell HX0.out 3).trans rfl
      have c0_4 := (Wl.blk_cell HX0.out 4).trans rfl
      have c0_5 := (Wl.blk_cell HX0.out 5).trans rfl
      have c0_6 := (Wl.blk_cell HX0.out 6).trans rfl
      have c0_7 := (Wl.blk_cell HX0.out 7).trans rfl
      have f0_0 := Wl.blk_frozen HX0.out 0
      have f0_1 := Wl.blk_frozen HX0.out 1
      have f0_2 := Wl.blk_frozen HX0.out 2
      have f0_3 := Wl.blk_frozen HX0.out 3
      have f0_4 := Wl.blk_frozen HX0.out 4
      have f0_5 := Wl.blk_frozen HX0.out 5
      have f0_6 := Wl.blk_frozen HX0.out 6
      have f0_7 := Wl.blk_frozen HX0.out 7
      clear c1_0 f1_0 c1_1 f1_1 c1_2 f1_2 c1_3 f1_3 c1_4 f1_4 c1_5 f1_5 c1_6 f1_6 c1_7 f1_7
      first | have HN1 := Lib.hid (Wl.blk_after HX1.out hb2) | have HN1 := Lib.hid (Wl.blk_after (Wl.blk_alloc HX1.out _) hb2) | have HN1 := Lib.hid (Wl.blk_after (Wl.blk_alloc (Wl.blk_alloc HX1.out _) _) hb2) | have HN1 := Lib.hid (Wl.blk_after (Wl.blk_drew HX1.out) hb2)
      clear HX1
      have HX1 := HN1
      clear HN1
      have c1_0 := (Wl.blk_cell HX1.out 0).trans rfl
      have c1_1 := (Wl.blk_cell HX1.out 1).trans rfl
      have c1_2 := (Wl.blk_cell HX1.out 2).trans rfl
      have c1_3 := (Wl.blk_cell HX1.out 3).trans rfl
      have c1_4 := (Wl.blk_cell HX1.out 4).trans rfl
      have c1_5 := (Wl.blk_cell HX1.out 5).trans rfl
      have c1_6 := (Wl.blk_cell HX1.out 6).trans rfl
      have c1_7 := (Wl.blk_cell HX1.out 7).trans rfl
      have f1_0 := Wl.blk_frozen HX1.out 0
      have f1_1 := Wl.blk_frozen HX1.out 1
      have f1_2 := Wl.blk_frozen HX1.out 2
      have f1_3 := Wl.blk_frozen HX1.out 3
      have f1_4 := Wl.blk_frozen HX1.out 4
      have f1_5 := Wl.blk_frozen HX1.out 5
      have f1_6 := Wl.blk_frozen HX1.out 6
      have f1_7 := Wl.blk_frozen HX1.out 7
      go_wp2_with fail
      refine bodyPost_ret (v := .tuple #[.agg #[.int .u64 (Sets.wd m 0), .int .u64 (Sets.wd m 1), .int .u64 (Sets.wd m 2), .int .u64 (Sets.wd m 3), .int .u64 (Sets.wd a 0), .int .u64 (Sets.wd a 1), .int .u64 (Sets.wd a 2), .int .u64 (Sets.wd a 3)], .int .i64 6]) ?_ rfl ⟨rfl, ?_⟩
      · simp [results, Tryd.results14, go_sem, c1_0, c1_1, c1_2, c1_3, c1_4, c1_5, c1_6, c1_7]
      · (repeat (first | (with_reducible apply Wl.bl_alloc) | (with_reducible apply Wl.bl_drewN) | (with_reducible apply Wl.bl_drew) | (with_reducible refine Wl.bl_set ?_ (by simp; try omega)) | (with_reducible exact Below.refl _ _) | (with_reducible assumption) | (with_reducible refine Wl.bl_trans ?_ (by assumption))))
  · have e : offerR m a p = (m, a, askedR m a p) := by simp [offerR, hx]
    rw [e]
    clear e
    have hx' : (askedR m a p != 0) = true := by simp [hx]
    go_enter Tryd.func14, Tryd.ntmps14
    go_wp2_with fail
    refine (roll_asked m a hm ha p _ (hG.below (by (repeat (first | (with_reducible apply Wl.bl_alloc) | (with_reducible apply Wl.bl_drewN) | (with_reducible apply Wl.bl_drew) | (with_reducible refine Wl.bl_set ?_ (by simp; try omega)) | (with_reducible exact Below.refl _ _) | (with_reducible assumption) | (with_reducible refine Wl.bl_trans ?_ (by assumption))))))).mono ?_
    rintro e w1 ⟨rfl, hb1⟩
    have HN0 := Lib.hid (Wl.blk_after (Wl.blk_alloc (Wl.new_blk _ _) _) hb1)
    have HX0 := HN0
    clear HN0
    have c0_0 := (Wl.blk_cell HX0.out 0).trans rfl
    have c0_1 := (Wl.blk_cell HX0.out 1).trans rfl
    have c0_2 := (Wl.blk_cell HX0.out 2).trans rfl
    have c0_3 := (Wl.blk_cell HX0.out 3).trans rfl
    have c0_4 := (Wl.blk_cell HX0.out 4).trans rfl
    have c0_5 := (Wl.blk_cell HX0.out 5).trans rfl
    have c0_6 := (Wl.blk_cell HX0.out 6).trans rfl
    have c0_7 := (Wl.blk_cell HX0.out 7).trans rfl
    have f0_0 := Wl.blk_frozen HX0.out 0
    have f0_1 := Wl.blk_frozen HX0.out 1
    have f0_2 := Wl.blk_frozen HX0.out 2
    have f0_3 := Wl.blk_frozen HX0.out 3
    have f0_4 := Wl.blk_frozen HX0.out 4
    have f0_5 := Wl.blk_frozen HX0.out 5
    have f0_6 := Wl.blk_frozen HX0.out 6
    have f0_7 := Wl.blk_frozen HX0.out 7
    have HN1 := Lib.hid (Wl.blk_after (Wl.new_blk1 _ _ _) hb1)
    have HX1 := HN1
    clear HN1
    have c1_0 := (Wl.blk_cell HX1.out 0).trans rfl
    have c1_1 := (Wl.blk_cell HX1.out 1).trans rfl
    have c1_2 := (Wl.blk_cell HX1.out 2).trans rfl
    have c1_3 := (Wl.blk_cell HX1.out 3).trans rfl
    have c1_4 := (Wl.blk_cell HX1.out 4).trans rfl
    have c1_5 := (Wl.blk_cell HX1.out 5).trans rfl
    have c1_6 := (Wl.blk_cell HX1.out 6).trans rfl
    have c1_7 := (Wl.blk_cell HX1.out 7).trans rfl
    have f1_0 := Wl.blk_frozen HX1.out 0
    have f1_1 := Wl.blk_frozen HX1.out 1
    have f1_2 := Wl.blk_frozen HX1.out 2
    have f1_3 := Wl.blk_frozen HX1.out 3
    have f1_4 := Wl.blk_frozen HX1.out 4
    have f1_5 := Wl.blk_frozen HX1.out 5
    have f1_6 := Wl.blk_frozen HX1.out 6
    have f1_7 := Wl.blk_frozen HX1.out 7
    go_wp2_with fail
    refine bodyPost_ret (v := .tuple #[.agg #[.int .u64 (Sets.wd m 0), .int .u64 (Sets.wd m 1), .int .u64 (Sets.wd m 2), .int .u64 (Sets.wd m 3), .int .u64 (Sets.wd a 0), .int .u64 (Sets.wd a 1), .int .u64 (Sets.wd a 2), .int .u64 (Sets.wd a 3)], .int .i64 (askedR m a p)]) ?_ rfl ⟨rfl, ?_⟩
    · simp [results, Tryd.results14, go_sem, c1_0, c1_1, c1_2, c1_3, c1_4, c1_5, c1_6, c1_7]
    · (repeat (first | (with_reducible apply Wl.bl_alloc) | (with_reducible apply Wl.bl_drewN) | (with_reducible apply Wl.bl_drew) | (with_reducible refine Wl.bl_set ?_ (by simp; try omega)) | (with_reducible exact Below.refl _ _) | (with_reducible assumption) | (with_reducible refine Wl.bl_trans ?_ (by assumption))))
set_option maxHeartbeats 2000000 in
theorem roll_withdraw (m a : Nat) (hm : Sets.In m) (ha : Sets.In a) (p : Int) (w : World) (hG : GL w) :
    Calls Tryd.prog 15 #[.agg #[.int .u64 (Sets.wd m 0), .int .u64 (Sets.wd m 1), .int .u64 (Sets.wd m 2), .int .u64 (Sets.wd m 3), .int .u64 (Sets.wd a 0), .int .u64 (Sets.wd a 1), .int .u64 (Sets.wd a 2), .int .u64 (Sets.wd a 3)], .int .i64 p] w fun e w' => e = .returned (.tuple #[.agg #[.int .u64 (Sets.wd ((withdrawR m a p).1) 0), .int .u64 (Sets.wd ((withdrawR m a p).1) 1), .int .u64 (Sets.wd ((withdrawR m a p).1) 2), .int .u64 (Sets.wd ((withdrawR m a p).1) 3), .int .u64 (Sets.wd ((withdrawR m a p).2.1) 0), .int .u64 (Sets.wd ((withdrawR m a p).2.1) 1), .int .u64 (Sets.wd ((withdrawR m a p).2.1) 2), .int .u64 (Sets.wd ((withdrawR m a p).2.1) 3)], .bool (withdrawR m a p).2.2]) ∧ Below w.heap.size w w' := by
  cases hx : fineR m a with
  | true =>
    cases hh : hasS a p with
    | true =>
      have e : withdrawR m a p = (m, dropS a p, true) := by simp [withdrawR, hx, hh]
      rw [e]
      clear e
      go_enter Tryd.func15, Tryd.ntmps15
      go_wp2_with fail
      refine (roll_fine m a hm ha _ (hG.below (by (repeat (first | (with_reducible apply Wl.bl_alloc) | (with_reducible apply Wl.bl_drewN) | (with_reducible apply Wl.bl_drew) | (with_reducible refine Wl.bl_set ?_ (by simp; try omega)) | (with_reducible exact Below.refl _ _) | (with_reducible assumption) | (with_reducible refine Wl.bl_trans ?_ (by assumption))))))).mono ?_
      rintro e w1 ⟨rfl, hb1⟩
      have HN0 := Lib.hid (Wl.blk_after (Wl.blk_alloc (Wl.new_blk _ _) _) hb1)
      have HX0 := HN0
      clear HN0
      have c0_0 := (Wl.blk_cell HX0.out 0).trans rfl
      have c0_1 := (Wl.blk_cell HX0.out 1).trans rfl
      have c0_2 := (Wl.blk_cell HX0.out 2).trans rfl
      have c0_3 := (Wl.blk_cell HX0.out 3).trans rfl
      have c0_4 := (Wl.blk_cell HX0.out 4).trans rfl
      have c0_5 := (Wl.blk_cell HX0.out 5).trans rfl
      have c0_6 := (Wl.blk_cell HX0.out 6).trans rfl
      have c0_7 := (Wl.blk_cell HX0.out 7).trans rfl
      have f0_0 := Wl.blk_frozen HX0.out 0
      have f0_1 := Wl.blk_frozen HX0.out 1
      have f0_2 := Wl.blk_frozen HX0.out 2
      have f0_3 := Wl.blk_frozen HX0.out 3
      have f0_4 := Wl.blk_frozen HX0.out 4
      have f0_5 := Wl.blk_frozen HX0.out 5
      have f0_6 := Wl.blk_frozen HX0.out 6
      have f0_7 := Wl.blk_frozen HX0.out 7
      have HN1 := Lib.hid (Wl.blk_after (Wl.new_blk1 _ _ _) hb1)
      have HX1 := HN1
      clear HN1
      have c1_0 := (Wl.blk_cell HX1.out 0).trans rfl
      have c1_1 := (Wl.blk_cell HX1.out 1).trans rfl
      have c1_2 := (Wl.blk_cell HX1.out 2).trans rfl
      have c1_3 := (Wl.blk_cell HX1.out 3).trans rfl
      have c1_4 := (Wl.blk_cell HX1.out 4).trans rfl
      have c1_5 := (Wl.blk_cell HX1.out 5).trans rfl
      have c1_6 := (Wl.blk_cell HX1.out 6).trans rfl
      have c1_7 := (Wl.blk_cell HX1.out 7).trans rfl
      have f1_0 := Wl.blk_frozen HX1.out 0
      have f1_1 := Wl.blk_frozen HX1.out 1
      have f1_2 := Wl.blk_frozen HX1.out 2
      have f1_3 := Wl.blk_frozen HX1.out 3
      have f1_4 := Wl.blk_frozen HX1.out 4
      have f1_5 := Wl.blk_frozen HX1.out 5
      have f1_6 := Wl.blk_frozen HX1.out 6
      have f1_7 := Wl.blk_frozen HX1.out 7
      go_wp2_with fail
      refine (has_any a p _).mono ?_
      rintro e w2 ⟨rfl, hb2⟩
      clear c0_0 f0_0 c0_1 f0_1 c0_2 f0_2 c0_3 f0_3 c0_4 f0_4 c0_5 f0_5 c0_6 f0_6 c0_7 f0_7
      first | have HN0 := Lib.hid (Wl.blk_after HX0.out hb2) | have HN0 := Lib.hid (Wl.blk_after (Wl.blk_alloc HX0.out _) hb2) | have HN0 := Lib.hid (Wl.blk_after (Wl.blk_alloc (Wl.blk_alloc HX0.out _) _) hb2) | have HN0 := Lib.hid (Wl.blk_after (Wl.blk_drew HX0.out) hb2)
      clear HX0
      have HX0 := HN0
      clear HN0
      have c0_0 := (Wl.blk_cell HX0.out 0).trans rfl
      have c0_1 := (Wl.blk_cell HX0.out 1).trans rfl
      have c0_2 := (Wl.blk_cell HX0.out 2).trans rfl
      have c0_3 := (Wl.blk_cell HX0.out 3).trans rfl
      have c0_4 := (Wl.blk_cell HX0.out 4).trans rfl
      have c0_5 := (Wl.blk_cell HX0.out 5).trans rfl
      have c0_6 := (Wl.blk_cell HX0.out 6).trans rfl
      have c0_7 := (Wl.blk_cell HX0.out 7).trans rfl
      have f0_0 := Wl.blk_frozen HX0.out 0
      have f0_1 := Wl.blk_frozen HX0.out 1
      have f0_2 := Wl.blk_frozen HX0.out 2
      have f0_3 := Wl.blk_frozen HX0.out 3
      have f0_4 := Wl.blk_frozen HX0.out 4
      have f0_5 := Wl.blk_frozen HX0.out 5
      have f0_6 := Wl.blk_frozen HX0.out 6
      have f0_7 := Wl.blk_frozen HX0.out 7
      clear c1_0 f1_0 c1_1 f1_1 c1_2 f1_2 c1_3 f1_3 c1_4 f1_4 c1_5 f1_5 c1_6 f1_6 c1_7 f1_7
      first | have HN1 := Lib.hid (Wl.blk_after HX1.out hb2) | have HN1 := Lib.hid (Wl.blk_after (Wl.blk_alloc HX1.out _) hb2) | have HN1 := Lib.hid (Wl.blk_after (Wl.blk_alloc (Wl.blk_alloc HX1.out _) _) hb2) | have HN1 := Lib.hid (Wl.blk_after (Wl.blk_drew HX1.out) hb2)
      clear HX1
      have HX1 := HN1
      clear HN1
      have c1_0 := (Wl.blk_cell HX1.out 0).trans rfl
      have c1_1 := (Wl.blk_cell HX1.out 1).trans rfl
      have c1_2 := (Wl.blk_cell HX1.out 2).trans rfl
      have c1_3 := (Wl.blk_cell HX1.out 3).trans rfl
      have c1_4 := (Wl.blk_cell HX1.out 4).trans rfl
      have c1_5 := (Wl.blk_cell HX1.out 5).trans rfl
      have c1_6 := (Wl.blk_cell HX1.out 6).trans rfl
      have c1_7 := (Wl.blk_cell HX1.out 7).trans rfl
      have f1_0 := Wl.blk_frozen HX1.out 0
      have f1_1 := Wl.blk_frozen HX1.out 1
      have f1_2 := Wl.blk_frozen HX1.out 2
      have f1_3 := Wl.blk_frozen HX1.out 3
      have f1_4 := Wl.blk_frozen HX1.out 4
      have f1_5 := Wl.blk_frozen HX1.out 5
      have f1_6 := Wl.blk_frozen HX1.out 6
      have f1_7 := Wl.blk_frozen HX1.out 7
      go_wp2_with fail
      refine (drop_any a p _).mono ?_
      rintro e w3 ⟨rfl, hb3⟩
      clear c0_0 f0_0 c0_1 f0_1 c0_2 f0_2 c0_3 f0_3 c0_4 f0_4 c0_5 f0_5 c0_6 f0_6 c0_7 f0_7
      first | have HN0 := Lib.hid (Wl.blk_after HX0.out hb3) | have HN0 := Lib.hid (Wl.blk_after (Wl.blk_alloc HX0.out _) hb3) | have HN0 := Lib.hid (Wl.blk_after (Wl.blk_alloc (Wl.blk_alloc HX0.out _) _) hb3) | have HN0 := Lib.hid (Wl.blk_after (Wl.blk_drew HX0.out) hb3)
      clear HX0
      have HX0 := HN0
      clear HN0
      have c0_0 := (Wl.blk_cell HX0.out 0).trans rfl
      have c0_1 := (Wl.blk_cell HX0.out 1).trans rfl
      have c0_2 := (Wl.blk_cell HX0.out 2).trans rfl
      have c0_3 := (Wl.blk_cell HX0.out 3).trans rfl
      have c0_4 := (Wl.blk_cell HX0.out 4).trans rfl
      have c0_5 := (Wl.blk_cell HX0.out 5).trans rfl
      have c0_6 := (Wl.blk_cell HX0.out 6).trans rfl
      have c0_7 := (Wl.blk_cell HX0.out 7).trans rfl
      have f0_0 := Wl.blk_frozen HX0.out 0
      have f0_1 := Wl.blk_frozen HX0.out 1
      have f0_2 := Wl.blk_frozen HX0.out 2
      have f0_3 := Wl.blk_frozen HX0.out 3
      have f0_4 := Wl.blk_frozen HX0.out 4
      have f0_5 := Wl.blk_frozen HX0.out 5
      have f0_6 := Wl.blk_frozen HX0.out 6
      have f0_7 := Wl.blk_frozen HX0.out 7
      clear c1_0 f1_0 c1_1 f1_1 c1_2 f1_2 c1_3 f1_3 c1_4 f1_4 c1_5 f1_5 c1_6 f1_6 c1_7 f1_7
      first | have HN1 := Lib.hid (Wl.blk_after HX1.out hb3) | have HN1 := Lib.hid (Wl.blk_after (Wl.blk_alloc HX1.out _) hb3) | have HN1 := Lib.hid (Wl.blk_after (Wl.blk_alloc (Wl.blk_alloc HX1.out _) _) hb3) | have HN1 := Lib.hid (Wl.blk_after (Wl.blk_drew HX1.out) hb3)
      clear HX1
      have HX1 := HN1
      clear HN1
      have c1_0 := (Wl.blk_cell HX1.out 0).trans rfl
      have c1_1 := (Wl.blk_cell HX1.out 1).trans rfl
      have c1_2 := (Wl.blk_cell HX1.out 2).trans rfl
      have c1_3 := (Wl.blk_cell HX1.out 3).trans rfl
      have c1_4 := (Wl.blk_cell HX1.out 4).trans rfl
      have c1_5 := (Wl.blk_cell HX1.out 5).trans rfl
      have c1_6 := (Wl.blk_cell HX1.out 6).trans rfl
      have c1_7 := (Wl.blk_cell HX1.out 7).trans rfl
      have f1_0 := Wl.blk_frozen HX1.out 0
      have f1_1 := Wl.blk_frozen HX1.out 1
      have f1_2 := Wl.blk_frozen HX1.out 2
      have f1_3 := Wl.blk_frozen HX1.out 3
      have f1_4 := Wl.blk_frozen HX1.out 4
      have f1_5 := Wl.blk_frozen HX1.out 5
      have f1_6 := Wl.blk_frozen HX1.out 6
      have f1_7 := Wl.blk_frozen HX1.out 7
      go_wp2_with fail
      refine bodyPost_ret (v := .tuple #[.agg #[.int .u64 (Sets.wd m 0), .int .u64 (Sets.wd m 1), .int .u64 (Sets.wd m 2), .int .u64 (Sets.wd m 3), .int .u64 (Sets.wd (dropS a p) 0), .int .u64 (Sets.wd (dropS a p) 1), .int .u64 (Sets.wd (dropS a p) 2), .int .u64 (Sets.wd (dropS a p) 3)], .bool true]) ?_ rfl ⟨rfl, ?_⟩
      · simp [results, Tryd.results15, go_sem, c1_0, c1_1, c1_2, c1_3, c1_4, c1_5, c1_6, c1_7]
      · (repeat (first | (with_reducible apply Wl.bl_alloc) | (with_reducible apply Wl.bl_drewN) | (with_reducible apply Wl.bl_drew) | (with_reducible refine Wl.bl_set ?_ (by simp; try omega)) | (with_reducible exact Below.refl _ _) | (with_reducible assumption) | (with_reducible refine Wl.bl_trans ?_ (by assumption))))
    | false =>
      have e : withdrawR m a p = (m, a, false) := by simp [withdrawR, hx, hh]
      rw [e]
      clear e
      go_enter Tryd.func15, Tryd.ntmps15
      go_wp2_with fail
      refine (roll_fine m a hm ha _ (hG.below (by (repeat (first | (with_reducible apply Wl.bl_alloc) | (with_reducible apply Wl.bl_drewN) | (with_reducible apply Wl.bl_drew) | (with_reducible refine Wl.bl_set ?_ (by simp; try omega)) | (with_reducible exact Below.refl _ _) | (with_reducible assumption) | (with_reducible refine Wl.bl_trans ?_ (by assumption))))))).mono ?_
      rintro e w1 ⟨rfl, hb1⟩
      have HN0 := Lib.hid (Wl.blk_after (Wl.blk_alloc (Wl.new_blk _ _) _) hb1)
      have HX0 := HN0
      clear HN0
      have c0_0 := (Wl.blk_cell HX0.out 0).trans rfl
      have c0_1 := (Wl.blk_cell HX0.out 1).trans rfl
      have c0_2 := (Wl.blk_cell HX0.out 2).trans rfl
      have c0_3 := (Wl.blk_cell HX0.out 3).trans rfl
      have c0_4 := (Wl.blk_cell HX0.out 4).trans rfl
      have c0_5 := (Wl.blk_cell HX0.out 5).trans rfl
      have c0_6 := (Wl.blk_cell HX0.out 6).trans rfl
      have c0_7 := (Wl.blk_cell HX0.out 7).trans rfl
      have f0_0 := Wl.blk_frozen HX0.out 0
      have f0_1 := Wl.blk_frozen HX0.out 1
      have f0_2 := Wl.blk_frozen HX0.out 2
      have f0_3 := Wl.blk_frozen HX0.out 3
      have f0_4 := Wl.blk_frozen HX0.out 4
      have f0_5 := Wl.blk_frozen HX0.out 5
      have f0_6 := Wl.blk_frozen HX0.out 6
      have f0_7 := Wl.blk_frozen HX0.out 7
      have HN1 := Lib.hid (Wl.blk_after (Wl.new_blk1 _ _ _) hb1)
      have HX1 := HN1
      clear HN1
      have c1_0 := (Wl.blk_cell HX1.out 0).trans rfl
      have c1_1 := (Wl.blk_cell HX1.out 1).trans rfl
      have c1_2 := (Wl.blk_cell HX1.out 2).trans rfl
      have c1_3 := (Wl.blk_cell HX1.out 3).trans rfl
      have c1_4 := (Wl.blk_cell HX1.out 4).trans rfl
      have c1_5 := (Wl.blk_cell HX1.out 5).trans rfl
      have c1_6 := (Wl.blk_cell HX1.out 6).trans rfl
      have c1_7 := (Wl.blk_cell HX1.out 7).trans rfl
      have f1_0 := Wl.blk_frozen HX1.out 0
      have f1_1 := Wl.blk_frozen HX1.out 1
      have f1_2 := Wl.blk_frozen HX1.out 2
      have f1_3 := Wl.blk_frozen HX1.out 3
      have f1_4 := Wl.blk_frozen HX1.out 4
      have f1_5 := Wl.blk_frozen HX1.out 5
      have f1_6 := Wl.blk_frozen HX1.out 6
      have f1_7 := Wl.blk_frozen HX1.out 7
      go_wp2_with fail
      refine (has_any a p _).mono ?_
      rintro e w2 ⟨rfl, hb2⟩
      clear c0_0 f0_0 c0_1 f0_1 c0_2 f0_2 c0_3 f0_3 c0_4 f0_4 c0_5 f0_5 c0_6 f0_6 c0_7 f0_7
      first | have HN0 := Lib.hid (Wl.blk_after HX0.out hb2) | have HN0 := Lib.hid (Wl.blk_after (Wl.blk_alloc HX0.out _) hb2) | have HN0 := Lib.hid (Wl.blk_after (Wl.blk_alloc (Wl.blk_alloc HX0.out _) _) hb2) | have HN0 := Lib.hid (Wl.blk_after (Wl.blk_drew HX0.out) hb2)
      clear HX0
      have HX0 := HN0
      clear HN0
      have c0_0 := (Wl.blk_cell HX0.out 0).trans rfl
      have c0_1 := (Wl.blk_cell HX0.out 1).trans rfl
      have c0_2 := (Wl.blk_cell HX0.out 2).trans rfl
      have c0_3 := (Wl.blk_cell HX0.out 3).trans rfl
      have c0_4 := (Wl.blk_cell HX0.out 4).trans rfl
      have c0_5 := (Wl.blk_cell HX0.out 5).trans rfl
      have c0_6 := (Wl.blk_cell HX0.out 6).trans rfl
      have c0_7 := (Wl.blk_cell HX0.out 7).trans rfl
      have f0_0 := Wl.blk_frozen HX0.out 0
      have f0_1 := Wl.blk_frozen HX0.out 1
      have f0_2 := Wl.blk_frozen HX0.out 2
      have f0_3 := Wl.blk_frozen HX0.out 3
      have f0_4 := Wl.blk_frozen HX0.out 4
      have f0_5 := Wl.blk_frozen HX0.out 5
      have f0_6 := Wl.blk_frozen HX0.out 6
      have f0_7 := Wl.blk_frozen HX0.out 7
      clear c1_0 f1_0 c1_1 f1_1 c1_2 f1_2 c1_3 f1_3 c1_4 f1_4 c1_5 f1_5 c1_6 f1_6 c1_7 f1_7
      first | have HN1 := Lib.hid (Wl.blk_after HX1.out hb2) | have HN1 := Lib.hid (Wl.blk_after (Wl.blk_alloc HX1.out _) hb2) | have HN1 := Lib.hid (Wl.blk_after (Wl.blk_alloc (Wl.blk_alloc HX1.out _) _) hb2) | have HN1 := Lib.hid (Wl.blk_after (Wl.blk_drew HX1.out) hb2)
      clear HX1
      have HX1 := HN1
      clear HN1
      have c1_0 := (Wl.blk_cell HX1.out 0).trans rfl
      have c1_1 := (Wl.blk_cell HX1.out 1).trans rfl
      have c1_2 := (Wl.blk_cell HX1.out 2).trans rfl
      have c1_3 := (Wl.blk_cell HX1.out 3).trans rfl
      have c1_4 := (Wl.blk_cell HX1.out 4).trans rfl
      have c1_5 := (Wl.blk_cell HX1.out 5).trans rfl
      have c1_6 := (Wl.blk_cell HX1.out 6).trans rfl
      have c1_7 := (Wl.blk_cell HX1.out 7).trans rfl
      have f1_0 := Wl.blk_frozen HX1.out 0
      have f1_1 := Wl.blk_frozen HX1.out 1
      have f1_2 := Wl.blk_frozen HX1.out 2
      have f1_3 := Wl.blk_frozen HX1.out 3
      have f1_4 := Wl.blk_frozen HX1.out 4
      have f1_5 := Wl.blk_frozen HX1.out 5
      have f1_6 := Wl.blk_frozen HX1.out 6
      have f1_7 := Wl.blk_frozen HX1.out 7
      go_wp2_with fail
      refine bodyPost_ret (v := .tuple #[.agg #[.int .u64 (Sets.wd m 0), .int .u64 (Sets.wd m 1), .int .u64 (Sets.wd m 2), .int .u64 (Sets.wd m 3), .int .u64 (Sets.wd a 0), .int .u64 (Sets.wd a 1), .int .u64 (Sets.wd a 2), .int .u64 (Sets.wd a 3)], .bool false]) ?_ rfl ⟨rfl, ?_⟩
      · simp [results, Tryd.results15, go_sem, c1_0, c1_1, c1_2, c1_3, c1_4, c1_5, c1_6, c1_7]
      · (repeat (first | (with_reducible apply Wl.bl_alloc) | (with_reducible apply Wl.bl_drewN) | (with_reducible apply Wl.bl_drew) | (with_reducible refine Wl.bl_set ?_ (by simp; try omega)) | (with_reducible exact Below.refl _ _) | (with_reducible assumption) | (with_reducible refine Wl.bl_trans ?_ (by assumption))))
  | false =>
    have e : withdrawR m a p = (m, a, false) := by simp [withdrawR, hx]
    rw [e]
    clear e
    go_enter Tryd.func15, Tryd.ntmps15
    go_wp2_with fail
    refine (roll_fine m a hm ha _ (hG.below (by (repeat (first | (with_reducible apply Wl.bl_alloc) | (with_reducible apply Wl.bl_drewN) | (with_reducible apply Wl.bl_drew) | (with_reducible refine Wl.bl_set ?_ (by simp; try omega)) | (with_reducible exact Below.refl _ _) | (with_reducible assumption) | (with_reducible refine Wl.bl_trans ?_ (by assumption))))))).mono ?_
    rintro e w1 ⟨rfl, hb1⟩
    have HN0 := Lib.hid (Wl.blk_after (Wl.blk_alloc (Wl.new_blk _ _) _) hb1)
    have HX0 := HN0
    clear HN0
    have c0_0 := (Wl.blk_cell HX0.out 0).trans rfl
    have c0_1 := (Wl.blk_cell HX0.out 1).trans rfl
    have c0_2 := (Wl.blk_cell HX0.out 2).trans rfl
    have c0_3 := (Wl.blk_cell HX0.out 3).trans rfl
    have c0_4 := (Wl.blk_cell HX0.out 4).trans rfl
    have c0_5 := (Wl.blk_cell HX0.out 5).trans rfl
    have c0_6 := (Wl.blk_cell HX0.out 6).trans rfl
    have c0_7 := (Wl.blk_cell HX0.out 7).trans rfl
    have f0_0 := Wl.blk_frozen HX0.out 0
    have f0_1 := Wl.blk_frozen HX0.out 1
    have f0_2 := Wl.blk_frozen HX0.out 2
    have f0_3 := Wl.blk_frozen HX0.out 3
    have f0_4 := Wl.blk_frozen HX0.out 4
    have f0_5 := Wl.blk_frozen HX0.out 5
    have f0_6 := Wl.blk_frozen HX0.out 6
    have f0_7 := Wl.blk_frozen HX0.out 7
    have HN1 := Lib.hid (Wl.blk_after (Wl.new_blk1 _ _ _) hb1)
    have HX1 := HN1
    clear HN1
    have c1_0 := (Wl.blk_cell HX1.out 0).trans rfl
    have c1_1 := (Wl.blk_cell HX1.out 1).trans rfl
    have c1_2 := (Wl.blk_cell HX1.out 2).trans rfl
    have c1_3 := (Wl.blk_cell HX1.out 3).trans rfl
    have c1_4 := (Wl.blk_cell HX1.out 4).trans rfl
    have c1_5 := (Wl.blk_cell HX1.out 5).trans rfl
    have c1_6 := (Wl.blk_cell HX1.out 6).trans rfl
    have c1_7 := (Wl.blk_cell HX1.out 7).trans rfl
    have f1_0 := Wl.blk_frozen HX1.out 0
    have f1_1 := Wl.blk_frozen HX1.out 1
    have f1_2 := Wl.blk_frozen HX1.out 2
    have f1_3 := Wl.blk_frozen HX1.out 3
    have f1_4 := Wl.blk_frozen HX1.out 4
    have f1_5 := Wl.blk_frozen HX1.out 5
    have f1_6 := Wl.blk_frozen HX1.out 6
    have f1_7 := Wl.blk_frozen HX1.out 7
    go_wp2_with fail
    refine bodyPost_ret (v := .tuple #[.agg #[.int .u64 (Sets.wd m 0), .int .u64 (Sets.wd m 1), .int .u64 (Sets.wd m 2), .int .u64 (Sets.wd m 3), .int .u64 (Sets.wd a 0), .int .u64 (Sets.wd a 1), .int .u64 (Sets.wd a 2), .int .u64 (Sets.wd a 3)], .bool false]) ?_ rfl ⟨rfl, ?_⟩
    · simp [results, Tryd.results15, go_sem, c1_0, c1_1, c1_2, c1_3, c1_4, c1_5, c1_6, c1_7]
    · (repeat (first | (with_reducible apply Wl.bl_alloc) | (with_reducible apply Wl.bl_drewN) | (with_reducible apply Wl.bl_drew) | (with_reducible refine Wl.bl_set ?_ (by simp; try omega)) | (with_reducible exact Below.refl _ _) | (with_reducible assumption) | (with_reducible refine Wl.bl_trans ?_ (by assumption))))
end Go.Proofs.YtdaionnpgcdkdaaDoor
