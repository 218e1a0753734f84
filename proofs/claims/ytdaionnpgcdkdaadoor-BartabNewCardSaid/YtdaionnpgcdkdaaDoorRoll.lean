/- The contracts of package roll. -/
import Derived.Test.YtdaionnpgcdkdaaDoorLs
set_option linter.unusedVariables false
set_option linter.unusedSimpArgs false
namespace Go.Proofs.YtdaionnpgcdkdaaDoor
open Go.RowKit
open Sets (hasS addS dropS lessS subS isId)

/-! ### What the functions compute -/
def fineR (m a : Nat) : Bool := subS m 65535 && subS a m
def askedR (m a : Nat) (p : Int) : Int := if fineR m a then (if hasS 65535 p then 0 else 8) else 1
def enrolR (m a : Nat) (p : Int) : Nat × Nat × Int :=
  if askedR m a p = 0 then (if hasS m p then (m, a, 7) else (addS m p, a, 0)) else (m, a, askedR m a p)
def resignR (m a : Nat) (p : Int) : Nat × Nat × Int :=
  if askedR m a p = 0 then (if hasS m p then (dropS m p, dropS a p, 0) else (m, a, 6)) else (m, a, askedR m a p)
def offerR (m a : Nat) (p : Int) : Nat × Nat × Int :=
  if askedR m a p = 0 then (if hasS m p then (if hasS a p then (m, a, 7) else (m, addS a p, 0)) else (m, a, 6)) else (m, a, askedR m a p)
def withdrawR (m a : Nat) (p : Int) : Nat × Nat × Bool :=
  if fineR m a && hasS a p then (m, dropS a p, true) else (m, a, false)
def fullR (m a : Nat) : Bool := fineR m a && (decide (a = m) && !decide (a = 0))

theorem wd_every : Sets.wd 65535 0 = 65535 ∧ Sets.wd 65535 1 = 0 ∧ Sets.wd 65535 2 = 0 ∧ Sets.wd 65535 3 = 0 := by decide
theorem sub_every (a : Nat) (ha : Sets.In a) (w : World) :
    Calls Tryd.prog 73 #[.agg #[.int .u64 (Sets.wd a 0), .int .u64 (Sets.wd a 1), .int .u64 (Sets.wd a 2), .int .u64 (Sets.wd a 3)], .agg #[.int .u64 65535, .int .u64 0, .int .u64 0, .int .u64 0]] w fun e w' => e = .returned (.bool (subS a 65535)) ∧ Below w.heap.size w w' := by
  have h := sub_any a 65535 ha w
  rwa [wd_every.1, wd_every.2.1, wd_every.2.2.1, wd_every.2.2.2] at h
theorem has_every (p : Int) (w : World) :
    Calls Tryd.prog 45 #[.agg #[.int .u64 65535, .int .u64 0, .int .u64 0, .int .u64 0], .int .i64 p] w fun e w' => e = .returned (.bool (hasS 65535 p)) ∧ Below w.heap.size w w' := by
  have h := has_any 65535 p w
  rwa [wd_every.1, wd_every.2.1, wd_every.2.2.1, wd_every.2.2.2] at h

theorem roll_fine (m a : Nat) (hm : Sets.In m) (ha : Sets.In a) (w : World) (hG : GL w) :
    Calls Tryd.prog 19 #[.agg #[.int .u64 (Sets.wd m 0), .int .u64 (Sets.wd m 1), .int .u64 (Sets.wd m 2), .int .u64 (Sets.wd m 3), .int .u64 (Sets.wd a 0), .int .u64 (Sets.wd a 1), .int .u64 (Sets.wd a 2), .int .u64 (Sets.wd a 3)]] w fun e w' => e = .returned (.bool (fineR m a)) ∧ Below w.heap.size w w' := by
  obtain ⟨g0, g1, g2, g3, gt⟩ := id hG
  have hs0 := World.block_lt_of_cell? w _ g0
  clear gt
  cases hs : subS m 65535 with
  | false =>
    have e : fineR m a = false := by simp [fineR, hs]
    rw [e]
    clear e
    go_enter Tryd.func19, Tryd.ntmps19
    go_wp2_with (go_at_call 73; refine (sub_every m hm _).mono ?_; rintro e w1 ⟨rfl, hb⟩)
    go_ret
    exact ⟨rfl, by (repeat (first | (with_reducible apply Wl.bl_alloc) | (with_reducible apply Wl.bl_drewN) | (with_reducible apply Wl.bl_drew) | (with_reducible refine Wl.bl_set ?_ (by simp; try omega)) | (with_reducible exact Below.refl _ _) | (with_reducible assumption) | (with_reducible refine Wl.bl_trans ?_ (by assumption))))⟩
  | true =>
    have e : fineR m a = subS a m := by simp [fineR, hs]
    rw [e]
    clear e
    go_enter Tryd.func19, Tryd.ntmps19
    go_wp2_with fail
    refine (sub_every m hm _).mono ?_
    rintro e w1 ⟨rfl, hb1⟩
    rw [hs]
    obtain ⟨hc1, hf1⟩ := Wl.bcell hb1
    go_wp2_with fail
    refine (sub_any a m ha _).mono ?_
    rintro e w2 ⟨rfl, hb2⟩
    go_wp2_with fail
    go_ret
    exact ⟨rfl, by (repeat (first | (with_reducible apply Wl.bl_alloc) | (with_reducible apply Wl.bl_drewN) | (with_reducible apply Wl.bl_drew) | (with_reducible refine Wl.bl_set ?_ (by simp; try omega)) | (with_reducible exact Below.refl _ _) | (with_reducible assumption) | (with_reducible refine Wl.bl_trans ?_ (by assumption))))⟩
theorem roll_asked (m a : Nat) (hm : Sets.In m) (ha : Sets.In a) (p : Int) (w : World) (hG : GL w) :
    Calls Tryd.prog 68 #[.agg #[.int .u64 (Sets.wd m 0), .int .u64 (Sets.wd m 1), .int .u64 (Sets.wd m 2), .int .u64 (Sets.wd m 3), .int .u64 (Sets.wd a 0), .int .u64 (Sets.wd a 1), .int .u64 (Sets.wd a 2), .int .u64 (Sets.wd a 3)], .int .i64 p] w fun e w' => e = .returned (.int .i64 (askedR m a p)) ∧ Below w.heap.size w w' := by
  cases hf : fineR m a with
  | false =>
    have e : askedR m a p = 1 := by simp [askedR, hf]
    rw [e]
    clear e
    go_enter Tryd.func68, Tryd.ntmps68
    go_wp2_with (go_at_call 19; refine (roll_fine m a hm ha _ (hG.below (by (repeat (first | (with_reducible apply Wl.bl_alloc) | (with_reducible apply Wl.bl_drewN) | (with_reducible apply Wl.bl_drew) | (with_reducible refine Wl.bl_set ?_ (by simp; try omega)) | (with_reducible exact Below.refl _ _) | (with_reducible assumption) | (with_reducible refine Wl.bl_trans ?_ (by assumption))))))).mono ?_; rintro e w1 ⟨rfl, hb⟩)
    go_ret
    exact ⟨rfl, by (repeat (first | (with_reducible apply Wl.bl_alloc) | (with_reducible apply Wl.bl_drewN) | (with_reducible apply Wl.bl_drew) | (with_reducible refine Wl.bl_set ?_ (by simp; try omega)) | (with_reducible exact Below.refl _ _) | (with_reducible assumption) | (with_reducible refine Wl.bl_trans ?_ (by assumption))))⟩
  | true =>
    cases hs : hasS 65535 p with
    | false =>
      have e : askedR m a p = 8 := by simp [askedR, hf, hs]
      rw [e]
      clear e
      go_enter Tryd.func68, Tryd.ntmps68
      go_wp2_with fail
      refine (roll_fine m a hm ha _ (hG.below (by (repeat (first | (with_reducible apply Wl.bl_alloc) | (with_reducible apply Wl.bl_drewN) | (with_reducible apply Wl.bl_drew) | (with_reducible refine Wl.bl_set ?_ (by simp; try omega)) | (with_reducible exact Below.refl _ _) | (with_reducible assumption) | (with_reducible refine Wl.bl_trans ?_ (by assumption))))))).mono ?_
      rintro e w1 ⟨rfl, hb1⟩
      have hG1 := hG.below (show Below w.heap.size w w1 by (repeat (first | (with_reducible apply Wl.bl_alloc) | (with_reducible apply Wl.bl_drewN) | (with_reducible apply Wl.bl_drew) | (with_reducible refine Wl.bl_set ?_ (by simp; try omega)) | (with_reducible exact Below.refl _ _) | (with_reducible assumption) | (with_reducible refine Wl.bl_trans ?_ (by assumption)))))
      obtain ⟨g0, g1, g2, g3, _⟩ := hG1
      go_wp2_with fail
      refine (has_every p _).mono ?_
      rintro e w2 ⟨rfl, hb2⟩
      go_wp2_with fail
      go_ret
      exact ⟨rfl, by (repeat (first | (with_reducible apply Wl.bl_alloc) | (with_reducible apply Wl.bl_drewN) | (with_reducible apply Wl.bl_drew) | (with_reducible refine Wl.bl_set ?_ (by simp; try omega)) | (with_reducible exact Below.refl _ _) | (with_reducible assumption) | (with_reducible refine Wl.bl_trans ?_ (by assumption))))⟩
    | true =>
      have e : askedR m a p = 0 := by simp [askedR, hf, hs]
      rw [e]
      clear e
      go_enter Tryd.func68, Tryd.ntmps68
      go_wp2_with fail
      refine (roll_fine m a hm ha _ (hG.below (by (repeat (first | (with_reducible apply Wl.bl_alloc) | (with_reducible apply Wl.bl_drewN) | (with_reducible apply Wl.bl_drew) | (with_reducible refine Wl.bl_set ?_ (by simp; try omega)) | (with_reducible exact Below.refl _ _) | (with_reducible assumption) | (with_reducible refine Wl.bl_trans ?_ (by assumption))))))).mono ?_
      rintro e w1 ⟨rfl, hb1⟩
      have hG1 := hG.below (show Below w.heap.size w w1 by (repeat (first | (with_reducible apply Wl.bl_alloc) | (with_reducible apply Wl.bl_drewN) | (with_reducible apply Wl.bl_drew) | (with_reducible refine Wl.bl_set ?_ (by simp; try omega)) | (with_reducible exact Below.refl _ _) | (with_reducible assumption) | (with_reducible refine Wl.bl_trans ?_ (by assumption)))))
      obtain ⟨g0, g1, g2, g3, _⟩ := hG1
      go_wp2_with fail
      refine (has_every p _).mono ?_
      rintro e w2 ⟨rfl, hb2⟩
      go_wp2_with fail
      go_ret
      exact ⟨rfl, by (repeat (first | (with_reducible apply Wl.bl_alloc) | (with_reducible apply Wl.bl_drewN) | (with_reducible apply Wl.bl_drew) | (with_reducible refine Wl.bl_set ?_ (by simp; try omega)) | (with_reducible exact Below.refl _ _) | (with_reducible assumption) | (with_reducible refine Wl.bl_trans ?_ (by assumption))))⟩
set_option maxHeartbeats 1000000 in
theorem roll_enrol (m a : Nat) (hm : Sets.In m) (ha : Sets.In a) (p : Int) (w : World) (hG : GL w) :
    Calls Tryd.prog 12 #[.agg #[.int .u64 (Sets.wd m 0), .int .u64 (Sets.wd m 1), .int .u64 (Sets.wd m 2), .int .u64 (Sets.wd m 3), .int .u64 (Sets.wd a 0), .int .u64 (Sets.wd a 1), .int .u64 (Sets.wd a 2), .int .u64 (Sets.wd a 3)], .int .i64 p] w fun e w' => e = .returned (.tuple #[.agg #[.int .u64 (Sets.wd ((enrolR m a p).1) 0), .int .u64 (Sets.wd ((enrolR m a p).1) 1), .int .u64 (Sets.wd ((enrolR m a p).1) 2), .int .u64 (Sets.wd ((enrolR m a p).1) 3), .int .u64 (Sets.wd ((enrolR m a p).2.1) 0), .int .u64 (Sets.wd ((enrolR m a p).2.1) 1), .int .u64 (Sets.wd ((enrolR m a p).2.1) 2), .int .u64 (Sets.wd ((enrolR m a p).2.1) 3)], .int .i64 (enrolR m a p).2.2]) ∧ Below w.heap.size w w' := by
  by_cases hx : askedR m a p = 0
  · cases hh : hasS m p with
    | true =>
      have e : enrolR m a p = (m, a, 7) := by simp [enrolR, hx, hh]
      rw [e]
      clear e
      go_enter Tryd.func12, Tryd.ntmps12
      go_wp2_with fail
      refine (roll_asked m a hm ha p _ (hG.below (by (repeat (first | (with_reducible apply Wl.bl_alloc) | (with_reducible apply Wl.bl_drewN) | (with_reducible apply Wl.bl_drew) | (with_reducible refine Wl.bl_set ?_ (by simp; try omega)) | (with_reducible exact Below.refl _ _) | (with_reducible assumption) | (with_reducible refine Wl.bl_trans ?_ (by assumption))))))).mono ?_
      rintro e w1 ⟨rfl, hb1⟩
      have HN0 := Lib.hid (Wl.blk_after (Wl.blk_alloc (Wl.new_blk _ _) _) hb1)
      have HX0 := HN0
      clear HN0
      have c0_0 := (Wl.blk_cell HX0.out 0).trans rfl
      have c0_1 := (Wl.blk_cell HX0.out 1).trans rfl
      have c0_2 := (Wl.blk_cell HX0.out 2).trans rfl
      have c0_3 := (Wl.blk_cell HX0.out 3).trans rfl
      have c0_4 := (Wl.blk_cell HX0.out 4).trans rfl
      have c0_5 := (Wl.blk_cell HX0.out 5).trans rfl
      have c0_6 := (Wl.blk_cell HX0.out 6).trans rfl
      have c0_7 := (Wl.blk_cell HX0.out 7).trans rfl
      have f0_0 := Wl.blk_frozen HX0.out 0
      have f0_1 := Wl.blk_frozen HX0.out 1
      have f0_2 := Wl.blk_frozen HX0.out 2
      have f0_3 := Wl.blk_frozen HX0.out 3
      have f0_4 := Wl.blk_frozen HX0.out 4
      have f0_5 := Wl.blk_frozen HX0.out 5
      have f0_6 := Wl.blk_frozen HX0.out 6
      have f0_7 := Wl.blk_frozen HX0.out 7
      have HN1 := Lib.hid (Wl.blk_after (Wl.new_blk1 _ _ _) hb1)
      have HX1 := HN1
      clear HN1
      have c1_0 := (Wl.blk_cell HX1.out 0).trans rfl
      have c1_1 := (Wl.blk_cell HX1.out 1).trans rfl
      have c1_2 := (Wl.blk_cell HX1.out 2).trans rfl
      have c1_3 := (Wl.blk_cell HX1.out 3).trans rfl
      have c1_4 := (Wl.blk_cell HX1.out 4).trans rfl
      have c1_5 := (Wl.blk_cell HX1.out 5).trans rfl
      have c1_6 := (Wl.blk_cell HX1.out 6).trans rfl
      have c1_7 := (Wl.blk_cell HX1.out 7).trans rfl
      have f1_0 := Wl.blk_frozen HX1.out 0
      have f1_1 := Wl.blk_frozen HX1.out 1
      have f1_2 := Wl.blk_frozen HX1.out 2
      have f1_3 := Wl.blk_frozen HX1.out 3
      have f1_4 := Wl.blk_frozen HX1.out 4
      have f1_5 := Wl.blk_frozen HX1.out 5
      have f1_6 := Wl.blk_frozen HX1.out 6
      have f1_7 := Wl.blk_frozen HX1.out 7
      go_wp2_with fail
      refine (has_any m p _).mono ?_
      rintro e w2 ⟨rfl, hb2⟩
      clear c0_0 f0_0 c0_1 f0_1 c0_2 f0_2 c0_3 f0_3 c0_4 f0_4 c0_5 f0_5 c0_6 f0_6 c0_7 f0_7
      first | have HN0 := Lib.hid (Wl.blk_after HX0.out hb2) | have HN0 := Lib.hid (Wl.blk_after (Wl.blk_alloc HX0.out _) hb2) | have HN0 := Lib.hid (Wl.blk_after (Wl.blk_alloc (Wl.blk_alloc HX0.out _) _) hb2) | have HN0 := Lib.hid (Wl.blk_after (Wl.blk_drew HX0.out) hb2)
      clear HX0
      have HX0 := HN0
      clear HN0
      have c0_0 := (Wl.blk_cell HX0.out 0).trans rfl
      have c0_1 := (Wl.blk_cell HX0.out 1).trans rfl
      have c0_2 := (Wl.blk_cell HX0.out 2).trans rfl
      have c0_3 := (Wl.blk_cell HX0.out 3).trans rfl
      have c0_4 := (Wl.blk_cell HX0.out 4).trans rfl
      have c0_5 := (Wl.blk_cell HX0.out 5).trans rfl
      have c0_6 := (Wl.blk_cell HX0.out 6).trans rfl
      have c0_7 := (Wl.blk_cell HX0.out 7).trans rfl
      have f0_0 := Wl.blk_frozen HX0.out 0
      have f0_1 := Wl.blk_frozen HX0.out 1
      have f0_2 := Wl.blk_frozen HX0.out 2
      have f0_3 := Wl.blk_frozen HX0.out 3
      have f0_4 := Wl.blk_frozen HX0.out 4
      have f0_5 := Wl.blk_frozen HX0.out 5
      have f0_6 := Wl.blk_frozen HX0.out 6
      have f0_7 := Wl.blk_frozen HX0.out 7
      clear c1_0 f1_0 c1_1 f1_1 c1_2 f1_2 c1_3 f1_3 c1_4 f1_4 c1_5 f1_5 c1_6 f1_6 c1_7 f1_7
      first | have HN1 := Lib.hid (Wl.blk_after HX1.out hb2) | have HN1 := Lib.hid (Wl.blk_after (Wl.blk_alloc HX1.out _) hb2) | have HN1 := Lib.hid (Wl.blk_after (Wl.blk_alloc (Wl.blk_alloc HX1.out _) _) hb2) | have HN1 := Lib.hid (Wl.blk_after (Wl.blk_drew HX1.out) hb2)
      clear HX1
      have HX1 := HN1
      clear HN1
      have c1_0 := (Wl.blk_cell HX1.out 0).trans rfl
      have c1_1 := (Wl.blk_cell HX1.out 1).trans rfl
      have c1_2 := (Wl.blk_cell HX1.out 2).trans rfl
      have c1_3 := (Wl.blk_cell HX1.out 3).trans rfl
      have c1_4 := (Wl.blk_cell HX1.out 4).trans rfl
      have c1_5 := (Wl.blk_cell HX1.out 5).trans rfl
      have c1_6 := (Wl.blk_cell HX1.out 6).trans rfl
      have c1_7 := (Wl.blk_cell HX1.out 7).trans rfl
      have f1_0 := Wl.blk_frozen HX1.out 0
      have f1_1 := Wl.blk_frozen HX1.out 1
      have f1_2 := Wl.blk_frozen HX1.out 2
      have f1_3 := Wl.blk_frozen HX1.out 3
      have f1_4 := Wl.blk_frozen HX1.out 4
      have f1_5 := Wl.blk_frozen HX1.out 5
      have f1_6 := Wl.blk_frozen HX1.out 6
      have f1_7 := Wl.blk_frozen HX1.out 7
      go_wp2_with fail
      refine bodyPost_ret (v := .tuple #[.agg #[.int .u64 (Sets.wd m 0), .int .u64 (Sets.wd m 1), .int .u64 (Sets.wd m 2), .int .u64 (Sets.wd m 3), .int .u64 (Sets.wd a 0), .int .u64 (Sets.wd a 1), .int .u64 (Sets.wd a 2), .int .u64 (Sets.wd a 3)], .int .i64 7]) ?_ rfl ⟨rfl, ?_⟩
      · simp [results, Tryd.results12, go_sem, c1_0, c1_1, c1_2, c1_3, c1_4, c1_5, c1_6, c1_7]
      · (repeat (first | (with_reducible apply Wl.bl_alloc) | (with_reducible apply Wl.bl_drewN) | (with_reducible apply Wl.bl_drew) | (with_reducible refine Wl.bl_set ?_ (by simp; try omega)) | (with_reducible exact Below.refl _ _) | (with_reducible assumption) | (with_reducible refine Wl.bl_trans ?_ (by assumption))))
    | false =>
      have e : enrolR m a p = (addS m p, a, 0) := by simp [enrolR, hx, hh]
      rw [e]
      clear e
      go_enter Tryd.func12, Tryd.ntmps12
      go_wp2_with fail
      refine (roll_asked m a hm ha p _ (hG.below (by (repeat (first | (with_reducible apply Wl.bl_alloc) | (with_reducible apply Wl.bl_drewN) | (with_reducible apply Wl.bl_drew) | (with_reducible refine Wl.bl_set ?_ (by simp; try omega)) | (with_reducible exact Below.refl _ _) | (with_reducible assumption) | (with_reducible refine Wl.bl_trans ?_ (by assumption))))))).mono ?_
      rintro e w1 ⟨rfl, hb1⟩
      have HN0 := Lib.hid (Wl.blk_after (Wl.blk_alloc (Wl.new_blk _ _) _) hb1)
      have HX0 := HN0
      clear HN0
      have c0_0 := (Wl.blk_cell HX0.out 0).trans rfl
      have c0_1 := (Wl.blk_cell HX0.out 1).trans rfl
      have c0_2 := (Wl.blk_cell HX0.out 2).trans rfl
      have c0_3 := (Wl.blk_cell HX0.out 3).trans rfl
      have c0_4 := (Wl.blk_cell HX0.out 4).trans rfl
      have c0_5 := (Wl.blk_cell HX0.out 5).trans rfl
      have c0_6 := (Wl.blk_cell HX0.out 6).trans rfl
      have c0_7 := (Wl.blk_cell HX0.out 7).trans rfl
      have f0_0 := Wl.blk_frozen HX0.out 0
      have f0_1 := Wl.blk_frozen HX0.out 1
      have f0_2 := Wl.blk_frozen HX0.out 2
      have f0_3 := Wl.blk_frozen HX0.out 3
      have f0_4 := Wl.blk_frozen HX0.out 4
      have f0_5 := Wl.blk_frozen HX0.out 5
      have f0_6 := Wl.blk_frozen HX0.out 6
      have f0_7 := Wl.blk_frozen HX0.out 7
      have HN1 := Lib.hid (Wl.blk_after (Wl.new_blk1 _ _ _) hb1)
      have HX1 := HN1
      clear HN1
      have c1_0 := (Wl.blk_cell HX1.out 0).trans rfl
      have c1_1 := (Wl.blk_cell HX1.out 1).trans rfl
      have c1_2 := (Wl.blk_cell HX1.out 2).trans rfl
      have c1_3 := (Wl.blk_cell HX1.out 3).trans rfl
      have c1_4 := (Wl.blk_cell HX1.out 4).trans rfl
      have c1_5 := (Wl.blk_cell HX1.out 5).trans rfl
      have c1_6 := (Wl.blk_cell HX1.out 6).trans rfl
      have c1_7 := (Wl.blk_cell HX1.out 7).trans rfl
      have f1_0 := Wl.blk_frozen HX1.out 0
      have f1_1 := Wl.blk_frozen HX1.out 1
      have f1_2 := Wl.blk_frozen HX1.out 2
      have f1_3 := Wl.blk_frozen HX1.out 3
      have f1_4 := Wl.blk_frozen HX1.out 4
      have f1_5 := Wl.blk_frozen HX1.out 5
      have f1_6 := Wl.blk_frozen HX1.out 6
      have f1_7 := Wl.blk_frozen HX1.out 7
      go_wp2_with fail
      refine (has_any m p _).mono ?_
      rintro e w2 ⟨rfl, hb2⟩
      clear c0_0 f0_0 c0_1 f0_1 c0_2 f0_2 c0_3 f0_3 c0_4 f0_4 c0_5 f0_5 c0_6 f0_6 c0_7 f0_7
      first | have HN0 := Lib.hid (Wl.blk_after HX0.out hb2) | have HN0 := Lib.hid (Wl.blk_after (Wl.blk_alloc HX0.out _) hb2) | have HN0 := Lib.hid (Wl.blk_after (Wl.blk_alloc (Wl.blk_alloc HX0.out _) _) hb2) | have HN0 := Lib.hid (Wl.blk_after (Wl.blk_drew HX0.out) hb2)
      clear HX0
      have HX0 := HN0
      clear HN0
      have c0_0 := (Wl.blk_cell HX0.out 0).trans rfl
      have c0_1 := (Wl.blk_cell HX0.out 1).trans rfl
      have c0_2 := (Wl.blk_cell HX0.out 2).trans rfl
      have c0_3 := (Wl.blk_cell HX0.out 3).trans rfl
      have c0_4 := (Wl.blk_cell HX0.out 4).trans rfl
      have c0_5 := (Wl.blk_cell HX0.out 5).trans rfl
      have c0_6 := (Wl.blk_cell HX0.out 6).trans rfl
      have c0_7 := (Wl.blk_cell HX0.out 7).trans rfl
      have f0_0 := Wl.blk_frozen HX0.out 0
      have f0_1 := Wl.blk_frozen HX0.out 1
      have f0_2 := Wl.blk_frozen HX0.out 2
      have f0_3 := Wl.blk_frozen HX0.out 3
      have f0_4 := Wl.blk_frozen HX0.out 4
      have f0_5 := Wl.blk_frozen HX0.out 5
      have f0_6 := Wl.blk_frozen HX0.out 6
      have f0_7 := Wl.blk_frozen HX0.out 7
      clear c1_0 f1_0 c1_1 f1_1 c1_2 f1_2 c1_3 f1_3 c1_4 f1_4 c1_5 f1_5 c1_6 f1_6 c1_7 f1_7
      first | have HN1 := Lib.hid (Wl.blk_after HX1.out hb2) | have HN1 := Lib.hid (Wl.blk_after (Wl.blk_alloc HX1.out _) hb2) | have HN1 := Lib.hid (Wl.blk_after (Wl.blk_alloc (Wl.blk_alloc HX1.out _) _) hb2) | have HN1 := Lib.hid (Wl.blk_after (Wl.blk_drew HX1.out) hb2)
      clear HX1
      have HX1 := HN1
      clear HN1
      have c1_0 := (Wl.blk_cell HX1.out 0).trans rfl
      have c1_1 := (Wl.blk_cell HX1.out 1).trans rfl
      have c1_2 := (Wl.blk_cell HX1.out 2).trans rfl
      have c1_3 := (Wl.blk_cell HX1.out 3).trans rfl
      have c1_4 := (Wl.blk_cell HX1.out 4).trans rfl
      have c1_5 := (Wl.blk_cell HX1.out 5).trans rfl
      have c1_6 := (Wl.blk_cell HX1.out 6).trans rfl
      have c1_7 := (Wl.blk_cell HX1.out 7).trans rfl
      have f1_0 := Wl.blk_frozen HX1.out 0
      have f1_1 := Wl.blk_frozen HX1.out 1
      have f1_2 := Wl.blk_frozen HX1.out 2
      have f1_3 := Wl.blk_frozen HX1.out 3
      have f1_4 := Wl.blk_frozen HX1.out 4
      have f1_5 := Wl.blk_frozen HX1.out 5
      have f1_6 := Wl.blk_frozen HX1.out 6
      have f1_7 := Wl.blk_frozen HX1.out 7
      go_wp2_with fail
      refine (add_any m p _).mono ?_
      rintro e w3 ⟨rfl, hb3⟩
      clear c0_0 f0_0 c0_1 f0_1 c0_2 f0_2 c0_3 f0_3 c0_4 f0_4 c0_5 f0_5 c0_6 f0_6 c0_7 f0_7
      first | have HN0 := Lib.hid (Wl.blk_after HX0.out hb3) | have HN0 := Lib.hid (Wl.blk_after (Wl.blk_alloc HX0.out _) hb3) | have HN0 := Lib.hid (Wl.blk_after (Wl.blk_alloc (Wl.blk_alloc HX0.out _) _) hb3) | have HN0 := Lib.hid (Wl.blk_after (Wl.blk_drew HX0.out) hb3)
      clear HX0
      have HX0 := HN0
      clear HN0
      have c0_0 := (Wl.blk_cell HX0.out 0).trans rfl
      have c0_1 := (Wl.blk_cell HX0.out 1).trans rfl
      have c0_2 := (Wl.blk_cell HX0.out 2).trans rfl
      have c0_3 := (Wl.blk_cell HX0.out 3).trans rfl
      have c0_4 := (Wl.blk_cell HX0.out 4).trans rfl
      have c0_5 := (Wl.blk_cell HX0.out 5).trans rfl
      have c0_6 := (Wl.blk_cell HX0.out 6).trans rfl
      have c0_7 := (Wl.blk_cell HX0.out 7).trans rfl
      have f0_0 := Wl.blk_frozen HX0.out 0
      have f0_1 := Wl.blk_frozen HX0.out 1
      have f0_2 := Wl.blk_frozen HX0.out 2
      have f0_3 := Wl.blk_frozen HX0.out 3
      have f0_4 := Wl.blk_frozen HX0.out 4
      have f0_5 := Wl.blk_frozen HX0.out 5
      have f0_6 := Wl.blk_frozen HX0.out 6
      have f0_7 := Wl.blk_frozen HX0.out 7
      clear c1_0 f1_0 c1_1 f1_1 c1_2 f1_2 c1_3 f1_3 c1_4 f1_4 c1_5 f1_5 c1_6 f1_6 c1_7 f1_7
      first | have HN1 := Lib.hid (Wl.blk_after HX1.out hb3) | have HN1 := Lib.hid (Wl.blk_after (Wl.blk_alloc HX1.out _) hb3) | have HN1 := Lib.hid (Wl.blk_after (Wl.blk_alloc (Wl.blk_alloc HX1.out _) _) hb3) | have HN1 := Lib.hid (Wl.blk_after (Wl.blk_drew HX1.out) hb3)
      clear HX1
      have HX1 := HN1
      clear HN1
      have c1_0 := (Wl.blk_cell HX1.out 0).trans rfl
      have c1_1 := (Wl.blk_cell HX1.out 1).trans rfl
      have c1_2 := (Wl.blk_cell HX1.out 2).trans rfl
      have c1_3 := (Wl.blk_cell HX1.out 3).trans rfl
      have c1_4 := (Wl.blk_cell HX1.out 4).trans rfl
      have c1_5 := (Wl.blk_cell HX1.out 5).trans rfl
      have c1_6 := (Wl.blk_cell HX1.out 6).trans rfl
      have c1_7 := (Wl.blk_cell HX1.out 7).trans rfl
      have f1_0 := Wl.blk_frozen HX1.out 0
      have f1_1 := Wl.blk_frozen HX1.out 1
      have f1_2 := Wl.blk_frozen HX1.out 2
      have f1_3 := Wl.blk_frozen HX1.out 3
      have f1_4 := Wl.blk_frozen HX1.out 4
      have f1_5 := Wl.blk_frozen HX1.out 5
      have f1_6 := Wl.blk_frozen HX1.out 6
      have f1_7 := Wl.blk_frozen HX1.out 7
      go_wp2_with fail
      refine bodyPost_ret (v := .tuple #[.agg #[.int .u64 (Sets.wd (addS m p) 0), .int .u64 (Sets.wd (addS m p) 1), .int .u64 (Sets.wd (addS m p) 2), .int .u64 (Sets.wd (addS m p) 3), .int .u64 (Sets.wd a 0), .int .u64 (Sets.wd a 1), .int .u64 (Sets.wd a 2), .int .u64 (Sets.wd a 3)], .int .i64 0]) ?_ rfl ⟨rfl, ?_⟩
      · simp [results, Tryd.results12, go_sem, c1_0, c1_1, c1_2, c1_3, c1_4, c1_5, c1_6, c1_7]
      · (repeat (first | (with_reducible apply Wl.bl_alloc) | (with_reducible apply Wl.bl_drewN) | (with_reducible apply Wl.bl_drew) | (with_reducible refine Wl.bl_set ?_ (by simp; try omega)) | (with_reducible exact Below.refl _ _) | (with_reducible assumption) | (with_reducible refine Wl.bl_trans ?_ (by assumption))))
  · have e : enrolR m a p = (m, a, askedR m a p) := by simp [enrolR, hx]
    rw [e]
    clear e
    have hx' : (askedR m a p != 0) = true := by simp [hx]
    go_enter Tryd.func12, Tryd.ntmps12
    go_wp2_with fail
    refine (roll_asked m a hm ha p _ (hG.below (by (repeat (first | (with_reducible apply Wl.bl_alloc) | (with_reducible apply Wl.bl_drewN) | (with_reducible apply Wl.bl_drew) | (with_reducible refine Wl.bl_set ?_ (by simp; try omega)) | (with_reducible exact Below.refl _ _) | (with_reducible assumption) | (with_reducible refine Wl.bl_trans ?_ (by assumption))))))).mono ?_
    rintro e w1 ⟨rfl, hb1⟩
    have HN0 := Lib.hid (Wl.blk_after (Wl.blk_alloc (Wl.new_blk _ _) _) hb1)
    have HX0 := HN0
    clear HN0
    have c0_0 := (Wl.blk_cell HX0.out 0).trans rfl
    have c0_1 := (Wl.blk_cell HX0.out 1).trans rfl
    have c0_2 := (Wl.blk_cell HX0.out 2).trans rfl
    have c0_3 := (Wl.blk_cell HX0.out 3).trans rfl
    have c0_4 := (Wl.blk_cell HX0.out 4).trans rfl
    have c0_5 := (Wl.blk_cell HX0.out 5).trans rfl
    have c0_6 := (Wl.blk_cell HX0.out 6).trans rfl
    have c0_7 := (Wl.blk_cell HX0.out 7).trans rfl
    have f0_0 := Wl.blk_frozen HX0.out 0
    have f0_1 := Wl.blk_frozen HX0.out 1
    have f0_2 := Wl.blk_frozen HX0.out 2
    have f0_3 := Wl.blk_frozen HX0.out 3
    have f0_4 := Wl.blk_frozen HX0.out 4
    have f0_5 := Wl.blk_frozen HX0.out 5
    have f0_6 := Wl.blk_frozen HX0.out 6
    have f0_7 := Wl.blk_frozen HX0.out 7
    have HN1 := Lib.hid (Wl.blk_after (Wl.new_blk1 _ _ _) hb1)
    have HX1 := HN1
    clear HN1
    have c1_0 := (Wl.blk_cell HX1.out 0).trans rfl
    have c1_1 := (Wl.blk_cell HX1.out 1).trans rfl
    have c1_2 := (Wl.blk_cell HX1.out 2).trans rfl
    have c1_3 := (Wl.blk_cell HX1.out 3).trans rfl
    have c1_4 := (Wl.blk_cell HX1.out 4).trans rfl
    have c1_5 := (Wl.blk_cell HX1.out 5).trans rfl
    have c1_6 := (Wl.blk_cell HX1.out 6).trans rfl
    have c1_7 := (Wl.blk_cell HX1.out 7).trans rfl
    have f1_0 := Wl.blk_frozen HX1.out 0
    have f1_1 := Wl.blk_frozen HX1.out 1
    have f1_2 := Wl.blk_frozen HX1.out 2
    have f1_3 := Wl.blk_frozen HX1.out 3
    have f1_4 := Wl.blk_frozen HX1.out 4
    have f1_5 := Wl.blk_frozen HX1.out 5
    have f1_6 := Wl.blk_frozen HX1.out 6
    have f1_7 := Wl.blk_frozen HX1.out 7
    go_wp2_with fail
    refine bodyPost_ret (v := .tuple #[.agg #[.int .u64 (Sets.wd m 0), .int .u64 (Sets.wd m 1), .int .u64 (Sets.wd m 2), .int .u64 (Sets.wd m 3), .int .u64 (Sets.wd a 0), .int .u64 (Sets.wd a 1), .int .u64 (Sets.wd a 2), .int .u64 (Sets.wd a 3)], .int .i64 (askedR m a p)]) ?_ rfl ⟨rfl, ?_⟩
    · simp [results, Tryd.results12, go_sem, c1_0, c1_1, c1_2, c1_3, c1_4, c1_5, c1_6, c1_7]
    · (repeat (first | (with_reducible apply Wl.bl_alloc) | (with_reducible apply Wl.bl_drewN) | (with_reducible apply Wl.bl_drew) | (with_reducible refine Wl.bl_set ?_ (by simp; try omega)) | (with_reducible exact Below.refl _ _) | (with_reducible assumption) | (with_reducible refine Wl.bl_trans ?_ (by assumption))))

end Go.Proofs.YtdaionnpgcdkdaaDoor
