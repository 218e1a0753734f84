/- becketlaw21.alive holds. -/
import Derived.Test.YtdaionnpgcdkdaaDoorSame
set_option linter.unusedVariables false
set_option linter.unusedSimpArgs false
namespace Go.Proofs.YtdaionnpgcdkdaaDoor
open Go.RowKit
open Sets (hasS addS dropS lessS subS isId)
theorem in_lit {x : Nat} (h : x < 2 ^ 256) : Sets.In x := h
set_option maxHeartbeats 4000000 in
theorem alive_any (w : World) (hG : GL w) :
    Calls Tryd.prog 11 #[] w fun e w' => e = .returned (.bool true) ∧ Below w.heap.size w w' := by
  have i0 : Sets.In 0 := in_lit (by decide)
  have i4 : Sets.In 4 := in_lit (by decide)
  have i20 : Sets.In 20 := in_lit (by decide)
  have r1 : enrolR 0 0 2 = (4, 0, 0) := by decide
  have r2 : enrolR 4 0 4 = (20, 0, 0) := by decide
  have r3 : offerR 20 0 2 = (20, 4, 0) := by decide
  have r4 : resignR 20 4 4 = (4, 4, 0) := by decide
  have r5 : fireR 4 4 = (4, 0, [2], 0) := by decide +kernel
  have r6 : withdrawR 20 4 4 = (20, 4, false) := by decide
  have r7 : fireR 20 4 = (20, 4, [], 13) := by decide +kernel
  have r8 : fullR 20 4 = false := by decide
  have r9 : fullR 4 4 = true := by decide
  have r10 : fineR 4 0 = true := by decide
  have r11 : fullR 4 0 = false := by decide
  have r12 : fullR 0 0 = false := by decide
  have k1 := Lib.hid (fun w hG => roll_enrol 0 0 i0 i0 2 w hG)
  have k2 := Lib.hid (fun w hG => roll_enrol 4 0 i4 i0 4 w hG)
  have k3 := Lib.hid (fun w hG => roll_offer 20 0 i20 i0 2 w hG)
  have k4 := Lib.hid (fun w hG => roll_resign 20 4 i20 i4 4 w hG)
  have k5 := Lib.hid (fun w hG => roll_fire 4 4 i4 i4 w hG)
  have k6 := Lib.hid (fun w hG => roll_withdraw 20 4 i20 i4 4 w hG)
  have k7 := Lib.hid (fun w hG => roll_fire 20 4 i20 i4 w hG)
  have k8 := Lib.hid (fun w hG => roll_full 20 4 i20 i4 w hG)
  have k9 := Lib.hid (fun w hG => roll_full 4 4 i4 i4 w hG)
  have k11 := Lib.hid (fun w hG => roll_fine 4 0 i4 i0 w hG)
  have k12 := Lib.hid (fun w hG => roll_full 4 0 i4 i0 w hG)
  have k13 := Lib.hid (fun w hG => roll_full 0 0 i0 i0 w hG)
  simp only [r1, wd_none] at k1
  simp only [r2, wd_none] at k2
  simp only [r3, wd_none] at k3
  simp only [r4, wd_none] at k4
  simp only [r5, wd_none] at k5
  simp only [r6, wd_none] at k6
  simp only [r7, wd_none] at k7
  simp only [r8, wd_none] at k8
  simp only [r9, wd_none] at k9
  simp only [r10, wd_none] at k11
  simp only [r11, wd_none] at k12
  simp only [r12, wd_none] at k13
  clear r1 r2 r3 r4 r5 r6 r7 r8 r9 r10 r11 r12 i0 i4 i20
  go_enter Tryd.func11, Tryd.ntmps11
  go_wp2_with fail
  refine (k1.out _ (hG.below (by (repeat (first | (with_reducible apply Wl.bl_alloc) | (with_reducible apply Wl.bl_drewN) | (with_reducible apply Wl.bl_drew) | (with_reducible refine Wl.bl_set ?_ (by simp; try omega)) | (with_reducible exact Below.refl _ _) | (with_reducible assumption) | (with_reducible refine Wl.bl_trans ?_ (by assumption))))))).mono ?_
  rintro e w1 ⟨rfl, hb1⟩
  go_wp2_with fail
  refine (k2.out _ (hG.below (by (repeat (first | (with_reducible apply Wl.bl_alloc) | (with_reducible apply Wl.bl_drewN) | (with_reducible apply Wl.bl_drew) | (with_reducible refine Wl.bl_set ?_ (by simp; try omega)) | (with_reducible exact Below.refl _ _) | (with_reducible assumption) | (with_reducible refine Wl.bl_trans ?_ (by assumption))))))).mono ?_
  rintro e w2 ⟨rfl, hb2⟩
  go_wp2_with fail
  refine (k3.out _ (hG.below (by (repeat (first | (with_reducible apply Wl.bl_alloc) | (with_reducible apply Wl.bl_drewN) | (with_reducible apply Wl.bl_drew) | (with_reducible refine Wl.bl_set ?_ (by simp; try omega)) | (with_reducible exact Below.refl _ _) | (with_reducible assumption) | (with_reducible refine Wl.bl_trans ?_ (by assumption))))))).mono ?_
  rintro e w3 ⟨rfl, hb3⟩
  go_wp2_with fail
  refine (k4.out _ (hG.below (by (repeat (first | (with_reducible apply Wl.bl_alloc) | (with_reducible apply Wl.bl_drewN) | (with_reducible apply Wl.bl_drew) | (with_reducible refine Wl.bl_set ?_ (by simp; try omega)) | (with_reducible exact Below.refl _ _) | (with_reducible assumption) | (with_reducible refine Wl.bl_trans ?_ (by assumption))))))).mono ?_
  rintro e w4 ⟨rfl, hb4⟩
  have HN5 := Lib.hid (Wl.blk_after (Wl.new_blk _ _) hb4)
  have HX5 := HN5
  clear HN5
  have c5_0 := (Wl.blk_cell HX5.out 0).trans rfl
  have c5_1 := (Wl.blk_cell HX5.out 1).trans rfl
  have c5_2 := (Wl.blk_cell HX5.out 2).trans rfl
  have c5_3 := (Wl.blk_cell HX5.out 3).trans rfl
  have c5_4 := (Wl.blk_cell HX5.out 4).trans rfl
  have c5_5 := (Wl.blk_cell HX5.out 5).trans rfl
  have c5_6 := (Wl.blk_cell HX5.out 6).trans rfl
  have c5_7 := (Wl.blk_cell HX5.out 7).trans rfl
  have f5_0 := Wl.blk_frozen HX5.out 0
  have f5_1 := Wl.blk_frozen HX5.out 1
  have f5_2 := Wl.blk_frozen HX5.out 2
  have f5_3 := Wl.blk_frozen HX5.out 3
  have f5_4 := Wl.blk_frozen HX5.out 4
  have f5_5 := Wl.blk_frozen HX5.out 5
  have f5_6 := Wl.blk_frozen HX5.out 6
  have f5_7 := Wl.blk_frozen HX5.out 7
  go_wp2_with fail
  refine (k5.out _ (hG.below (by (repeat (first | (with_reducible apply Wl.bl_alloc) | (with_reducible apply Wl.bl_drewN) | (with_reducible apply Wl.bl_drew) | (with_reducible refine Wl.bl_set ?_ (by simp; try omega)) | (with_reducible exact Below.refl _ _) | (with_reducible assumption) | (with_reducible refine Wl.bl_trans ?_ (by assumption))))))).mono ?_
  rintro e w5 ⟨v5, rfl, hv5, hb5⟩
  have HV := Lib.hid hv5.at_
  clear hv5
  clear c5_0 f5_0 c5_1 f5_1 c5_2 f5_2 c5_3 f5_3 c5_4 f5_4 c5_5 f5_5 c5_6 f5_6 c5_7 f5_7
  first | have HN5 := Lib.hid (Wl.blk_after HX5.out hb5) | have HN5 := Lib.hid (Wl.blk_after (Wl.blk_alloc HX5.out _) hb5) | have HN5 := Lib.hid (Wl.blk_after (Wl.blk_alloc (Wl.blk_alloc HX5.out _) _) hb5) | have HN5 := Lib.hid (Wl.blk_after (Wl.blk_drew HX5.out) hb5)
  clear HX5
  have HX5 := HN5
  clear HN5
  have c5_0 := (Wl.blk_cell HX5.out 0).trans rfl
  have c5_1 := (Wl.blk_cell HX5.out 1).trans rfl
  have c5_2 := (Wl.blk_cell HX5.out 2).trans rfl
  have c5_3 := (Wl.blk_cell HX5.out 3).trans rfl
  have c5_4 := (Wl.blk_cell HX5.out 4).trans rfl
  have c5_5 := (Wl.blk_cell HX5.out 5).trans rfl
  have c5_6 := (Wl.blk_cell HX5.out 6).trans rfl
  have c5_7 := (Wl.blk_cell HX5.out 7).trans rfl
  have f5_0 := Wl.blk_frozen HX5.out 0
  have f5_1 := Wl.blk_frozen HX5.out 1
  have f5_2 := Wl.blk_frozen HX5.out 2
  have f5_3 := Wl.blk_frozen HX5.out 3
  have f5_4 := Wl.blk_frozen HX5.out 4
  have f5_5 := Wl.blk_frozen HX5.out 5
  have f5_6 := Wl.blk_frozen HX5.out 6
  have f5_7 := Wl.blk_frozen HX5.out 7
  have HN7 := Lib.hid (Wl.blk_after (Wl.new_blk _ _) hb5)
  have HX7 := HN7
  clear HN7
  have c7_0 := (Wl.blk_cell HX7.out 0).trans rfl
  have c7_1 := (Wl.blk_cell HX7.out 1).trans rfl
  have c7_2 := (Wl.blk_cell HX7.out 2).trans rfl
  have c7_3 := (Wl.blk_cell HX7.out 3).trans rfl
  have c7_4 := (Wl.blk_cell HX7.out 4).trans rfl
  have c7_5 := (Wl.blk_cell HX7.out 5).trans rfl
  have c7_6 := (Wl.blk_cell HX7.out 6).trans rfl
  have c7_7 := (Wl.blk_cell HX7.out 7).trans rfl
  have f7_0 := Wl.blk_frozen HX7.out 0
  have f7_1 := Wl.blk_frozen HX7.out 1
  have f7_2 := Wl.blk_frozen HX7.out 2
  have f7_3 := Wl.blk_frozen HX7.out 3
  have f7_4 := Wl.blk_frozen HX7.out 4
  have f7_5 := Wl.blk_frozen HX7.out 5
  have f7_6 := Wl.blk_frozen HX7.out 6
  have f7_7 := Wl.blk_frozen HX7.out 7
  have z4 : w3.heap.size + 1 ≤ w4.heap.size := by have := hb4.size; simpa using this
  have z5 : w4.heap.size + 1 ≤ w5.heap.size := by have := hb5.size; simpa using this
  have y5 : w3.heap.size < w5.heap.size := by omega
  go_wp2_with fail
  refine (k6.out _ (hG.below (by (repeat (first | (with_reducible apply Wl.bl_alloc) | (with_reducible apply Wl.bl_drewN) | (with_reducible apply Wl.bl_drew) | (with_reducible refine Wl.bl_set ?_ (by simp; try omega)) | (with_reducible exact Below.refl _ _) | (with_reducible assumption) | (with_reducible refine Wl.bl_trans ?_ (by assumption))))))).mono ?_
  rintro e w6 ⟨rfl, hb6⟩
  have HV := Lib.hid (IntsAt.below (w := w5) (w' := w6) (by (repeat (first | (with_reducible apply Wl.bl_alloc) | (with_reducible apply Wl.bl_drewN) | (with_reducible apply Wl.bl_drew) | (with_reducible refine Wl.bl_set ?_ (by simp; try omega)) | (with_reducible exact Below.refl _ _) | (with_reducible assumption) | (with_reducible refine Wl.bl_trans ?_ (by assumption))))) HV.out)
  clear c5_0 f5_0 c5_1 f5_1 c5_2 f5_2 c5_3 f5_3 c5_4 f5_4 c5_5 f5_5 c5_6 f5_6 c5_7 f5_7
  first | have HN5 := Lib.hid (Wl.blk_after HX5.out hb6) | have HN5 := Lib.hid (Wl.blk_after (Wl.blk_alloc HX5.out _) hb6) | have HN5 := Lib.hid (Wl.blk_after (Wl.blk_alloc (Wl.blk_alloc HX5.out _) _) hb6) | have HN5 := Lib.hid (Wl.blk_after (Wl.blk_drew HX5.out) hb6)
  clear HX5
  have HX5 := HN5
  clear HN5
  have c5_0 := (Wl.blk_cell HX5.out 0).trans rfl
  have c5_1 := (Wl.blk_cell HX5.out 1).trans rfl
  have c5_2 := (Wl.blk_cell HX5.out 2).trans rfl
  have c5_3 := (Wl.blk_cell HX5.out 3).trans rfl
  have c5_4 := (Wl.blk_cell HX5.out 4).trans rfl
  have c5_5 := (Wl.blk_cell HX5.out 5).trans rfl
  have c5_6 := (Wl.blk_cell HX5.out 6).trans rfl
  have c5_7 := (Wl.blk_cell HX5.out 7).trans rfl
  have f5_0 := Wl.blk_frozen HX5.out 0
  have f5_1 := Wl.blk_frozen HX5.out 1
  have f5_2 := Wl.blk_frozen HX5.out 2
  have f5_3 := Wl.blk_frozen HX5.out 3
  have f5_4 := Wl.blk_frozen HX5.out 4
  have f5_5 := Wl.blk_frozen HX5.out 5
  have f5_6 := Wl.blk_frozen HX5.out 6
  have f5_7 := Wl.blk_frozen HX5.out 7
  clear c7_0 f7_0 c7_1 f7_1 c7_2 f7_2 c7_3 f7_3 c7_4 f7_4 c7_5 f7_5 c7_6 f7_6 c7_7 f7_7
  first | have HN7 := Lib.hid (Wl.blk_after HX7.out hb6) | have HN7 := Lib.hid (Wl.blk_after (Wl.blk_alloc HX7.out _) hb6) | have HN7 := Lib.hid (Wl.blk_after (Wl.blk_alloc (Wl.blk_alloc HX7.out _) _) hb6) | have HN7 := Lib.hid (Wl.blk_after (Wl.blk_drew HX7.out) hb6)
  clear HX7
  have HX7 := HN7
  clear HN7
  have c7_0 := (Wl.blk_cell HX7.out 0).trans rfl
  have c7_1 := (Wl.blk_cell HX7.out 1).trans rfl
  have c7_2 := (Wl.blk_cell HX7.out 2).trans rfl
  have c7_3 := (Wl.blk_cell HX7.out 3).trans rfl
  have c7_4 := (Wl.blk_cell HX7.out 4).trans rfl
  have c7_5 := (Wl.blk_cell HX7.out 5).trans rfl
  have c7_6 := (Wl.blk_cell HX7.out 6).trans rfl
  have c7_7 := (Wl.blk_cell HX7.out 7).trans rfl
  have f7_0 := Wl.blk_frozen HX7.out 0
  have f7_1 := Wl.blk_frozen HX7.out 1
  have f7_2 := Wl.blk_frozen HX7.out 2
  have f7_3 := Wl.blk_frozen HX7.out 3
  have f7_4 := Wl.blk_frozen HX7.out 4
  have f7_5 := Wl.blk_frozen HX7.out 5
  have f7_6 := Wl.blk_frozen HX7.out 6
  have f7_7 := Wl.blk_frozen HX7.out 7
  have HN9 := Lib.hid (Wl.blk_after (Wl.new_blk _ _) hb6)
  have HX9 := HN9
  clear HN9
  have c9_0 := (Wl.blk_cell HX9.out 0).trans rfl
  have c9_1 := (Wl.blk_cell HX9.out 1).trans rfl
  have c9_2 := (Wl.blk_cell HX9.out 2).trans rfl
  have c9_3 := (Wl.blk_cell HX9.out 3).trans rfl
  have c9_4 := (Wl.blk_cell HX9.out 4).trans rfl
  have c9_5 := (Wl.blk_cell HX9.out 5).trans rfl
  have c9_6 := (Wl.blk_cell HX9.out 6).trans rfl
  have c9_7 := (Wl.blk_cell HX9.out 7).trans rfl
  have f9_0 := Wl.blk_frozen HX9.out 0
  have f9_1 := Wl.blk_frozen HX9.out 1
  have f9_2 := Wl.blk_frozen HX9.out 2
  have f9_3 := Wl.blk_frozen HX9.out 3
  have f9_4 := Wl.blk_frozen HX9.out 4
  have f9_5 := Wl.blk_frozen HX9.out 5
  have f9_6 := Wl.blk_frozen HX9.out 6
  have f9_7 := Wl.blk_frozen HX9.out 7
  have z6 : w5.heap.size + 1 ≤ w6.heap.size := by have := hb6.size; simpa using this
  have y6 : w3.heap.size < w6.heap.size := by omega
  go_wp2_with fail
  refine (k7.out _ (hG.below (by (repeat (first | (with_reducible apply Wl.bl_alloc) | (with_reducible apply Wl.bl_drewN) | (with_reducible apply Wl.bl_drew) | (with_reducible refine Wl.bl_set ?_ (by simp; try omega)) | (with_reducible exact Below.refl _ _) | (with_reducible assumption) | (with_reducible refine Wl.bl_trans ?_ (by assumption))))))).mono ?_
  rintro e w7 ⟨v7, rfl, hv7, hb7⟩
  clear hv7
  have HV := Lib.hid (IntsAt.below (w := w6) (w' := w7) (by (repeat (first | (with_reducible apply Wl.bl_alloc) | (with_reducible apply Wl.bl_drewN) | (with_reducible apply Wl.bl_drew) | (with_reducible refine Wl.bl_set ?_ (by simp; try omega)) | (with_reducible exact Below.refl _ _) | (with_reducible assumption) | (with_reducible refine Wl.bl_trans ?_ (by assumption))))) HV.out)
  clear c5_0 f5_0 c5_1 f5_1 c5_2 f5_2 c5_3 f5_3 c5_4 f5_4 c5_5 f5_5 c5_6 f5_6 c5_7 f5_7
  first | have HN5 := Lib.hid (Wl.blk_after HX5.out hb7) | have HN5 := Lib.hid (Wl.blk_after (Wl.blk_alloc HX5.out _) hb7) | have HN5 := Lib.hid (Wl.blk_after (Wl.blk_alloc (Wl.blk_alloc HX5.out _) _) hb7) | have HN5 := Lib.hid (Wl.blk_after (Wl.blk_drew HX5.out) hb7)
  clear HX5
  have HX5 := HN5
  clear HN5
  have c5_0 := (Wl.blk_cell HX5.out 0).trans rfl
  have c5_1 := (Wl.blk_cell HX5.out 1).trans rfl
  have c5_2 := (Wl.blk_cell HX5.out 2).trans rfl
  have c5_3 := (Wl.blk_cell HX5.out 3).trans rfl
  have c5_4 := (Wl.blk_cell HX5.out 4).trans rfl
  have c5_5 := (Wl.blk_cell HX5.out 5).trans rfl
  have c5_6 := (Wl.blk_cell HX5.out 6).trans rfl
  have c5_7 := (Wl.blk_cell HX5.out 7).trans rfl
  have f5_0 := Wl.blk_frozen HX5.out 0
  have f5_1 := Wl.blk_frozen HX5.out 1
  have f5_2 := Wl.blk_frozen HX5.out 2
  have f5_3 := Wl.blk_frozen HX5.out 3
  have f5_4 := Wl.blk_frozen HX5.out 4
  have f5_5 := Wl.blk_frozen HX5.out 5
  have f5_6 := Wl.blk_frozen HX5.out 6
  have f5_7 := Wl.blk_frozen HX5.out 7
  clear c7_0 f7_0 c7_1 f7_1 c7_2 f7_2 c7_3 f7_3 c7_4 f7_4 c7_5 f7_5 c7_6 f7_6 c7_7 f7_7
  first | have HN7 := Lib.hid (Wl.blk_after HX7.out hb7) | have HN7 := Lib.hid (Wl.blk_after (Wl.blk_alloc HX7.out _) hb7) | have HN7 := Lib.hid (Wl.blk_after (Wl.blk_alloc (Wl.blk_alloc HX7.out _) _) hb7) | have HN7 := Lib.hid (Wl.blk_after (Wl.blk_drew HX7.out) hb7)
  clear HX7
  have HX7 := HN7
  clear HN7
  have c7_0 := (Wl.blk_cell HX7.out 0).trans rfl
  have c7_1 := (Wl.blk_cell HX7.out 1).trans rfl
  have c7_2 := (Wl.blk_cell HX7.out 2).trans rfl
  have c7_3 := (Wl.blk_cell HX7.out 3).trans rfl
  have c7_4 := (Wl.blk_cell HX7.out 4).trans rfl
  have c7_5 := (Wl.blk_cell HX7.out 5).trans rfl
  have c7_6 := (Wl.blk_cell HX7.out 6).trans rfl
  have c7_7 := (Wl.blk_cell HX7.out 7).trans rfl
  have f7_0 := Wl.blk_frozen HX7.out 0
  have f7_1 := Wl.blk_frozen HX7.out 1
  have f7_2 := Wl.blk_frozen HX7.out 2
  have f7_3 := Wl.blk_frozen HX7.out 3
  have f7_4 := Wl.blk_frozen HX7.out 4
  have f7_5 := Wl.blk_frozen HX7.out 5
  have f7_6 := Wl.blk_frozen HX7.out 6
  have f7_7 := Wl.blk_frozen HX7.out 7
  clear c9_0 f9_0 c9_1 f9_1 c9_2 f9_2 c9_3 f9_3 c9_4 f9_4 c9_5 f9_5 c9_6 f9_6 c9_7 f9_7
  first | have HN9 := Lib.hid (Wl.blk_after HX9.out hb7) | have HN9 := Lib.hid (Wl.blk_after (Wl.blk_alloc HX9.out _) hb7) | have HN9 := Lib.hid (Wl.blk_after (Wl.blk_alloc (Wl.blk_alloc HX9.out _) _) hb7) | have HN9 := Lib.hid (Wl.blk_after (Wl.blk_drew HX9.out) hb7)
  clear HX9
  have HX9 := HN9
  clear HN9
  have c9_0 := (Wl.blk_cell HX9.out 0).trans rfl
  have c9_1 := (Wl.blk_cell HX9.out 1).trans rfl
  have c9_2 := (Wl.blk_cell HX9.out 2).trans rfl
  have c9_3 := (Wl.blk_cell HX9.out 3).trans rfl
  have c9_4 := (Wl.blk_cell HX9.out 4).trans rfl
  have c9_5 := (Wl.blk_cell HX9.out 5).trans rfl
  have c9_6 := (Wl.blk_cell HX9.out 6).trans rfl
  have c9_7 := (Wl.blk_cell HX9.out 7).trans rfl
  have f9_0 := Wl.blk_frozen HX9.out 0
  have f9_1 := Wl.blk_frozen HX9.out 1
  have f9_2 := Wl.blk_frozen HX9.out 2
  have f9_3 := Wl.blk_frozen HX9.out 3
  have f9_4 := Wl.blk_frozen HX9.out 4
  have f9_5 := Wl.blk_frozen HX9.out 5
  have f9_6 := Wl.blk_frozen HX9.out 6
  have f9_7 := Wl.blk_frozen HX9.out 7
  have z7 : w6.heap.size + 1 ≤ w7.heap.size := by have := hb7.size; simpa using this
  have y7 : w3.heap.size < w7.heap.size := by omega
  have y74 : w4.heap.size < w7.heap.size := by omega
  have y75 : w5.heap.size < w7.heap.size := by omega
  go_wp2_with fail
  refine (k8.out _ (hG.below (by (repeat (first | (with_reducible apply Wl.bl_alloc) | (with_reducible apply Wl.bl_drewN) | (with_reducible apply Wl.bl_drew) | (with_reducible refine Wl.bl_set ?_ (by simp; try omega)) | (with_reducible exact Below.refl _ _) | (with_reducible assumption) | (with_reducible refine Wl.bl_trans ?_ (by assumption))))))).mono ?_
  rintro e w8 ⟨rfl, hb8⟩
  have HV := Lib.hid (IntsAt.below (w := w7) (w' := w8) (by (repeat (first | (with_reducible apply Wl.bl_alloc) | (with_reducible apply Wl.bl_drewN) | (with_reducible apply Wl.bl_drew) | (with_reducible refine Wl.bl_set ?_ (by simp; try omega)) | (with_reducible exact Below.refl _ _) | (with_reducible assumption) | (with_reducible refine Wl.bl_trans ?_ (by assumption))))) HV.out)
  clear c5_0 f5_0 c5_1 f5_1 c5_2 f5_2 c5_3 f5_3 c5_4 f5_4 c5_5 f5_5 c5_6 f5_6 c5_7 f5_7
  first | have HN5 := Lib.hid (Wl.blk_after HX5.out hb8) | have HN5 := Lib.hid (Wl.blk_after (Wl.blk_alloc HX5.out _) hb8) | have HN5 := Lib.hid (Wl.blk_after (Wl.blk_alloc (Wl.blk_alloc HX5.out _) _) hb8) | have HN5 := Lib.hid (Wl.blk_after (Wl.blk_drew HX5.out) hb8)
  clear HX5
  have HX5 := HN5
  clear HN5
  have c5_0 := (Wl.blk_cell HX5.out 0).trans rfl
  have c5_1 := (Wl.blk_cell HX5.out 1).trans rfl
  have c5_2 := (Wl.blk_cell HX5.out 2).trans rfl
  have c5_3 := (Wl.blk_cell HX5.out 3).trans rfl
  have c5_4 := (Wl.blk_cell HX5.out 4).trans rfl
  have c5_5 := (Wl.blk_cell HX5.out 5).trans rfl
  have c5_6 := (Wl.blk_cell HX5.out 6).trans rfl
  have c5_7 := (Wl.blk_cell HX5.out 7).trans rfl
  have f5_0 := Wl.blk_frozen HX5.out 0
  have f5_1 := Wl.blk_frozen HX5.out 1
  have f5_2 := Wl.blk_frozen HX5.out 2
  have f5_3 := Wl.blk_frozen HX5.out 3
  have f5_4 := Wl.blk_frozen HX5.out 4
  have f5_5 := Wl.blk_frozen HX5.out 5
  have f5_6 := Wl.blk_frozen HX5.out 6
  have f5_7 := Wl.blk_frozen HX5.out 7
  clear c7_0 f7_0 c7_1 f7_1 c7_2 f7_2 c7_3 f7_3 c7_4 f7_4 c7_5 f7_5 c7_6 f7_6 c7_7 f7_7
  first | have HN7 := Lib.hid (Wl.blk_after HX7.out hb8) | have HN7 := Lib.hid (Wl.blk_after (Wl.blk_alloc HX7.out _) hb8) | have HN7 := Lib.hid (Wl.blk_after (Wl.blk_alloc (Wl.blk_alloc HX7.out _) _) hb8) | have HN7 := Lib.hid (Wl.blk_after (Wl.blk_drew HX7.out) hb8)
  clear HX7
  have HX7 := HN7
  clear HN7
  have c7_0 := (Wl.blk_cell HX7.out 0).trans rfl
  have c7_1 := (Wl.blk_cell HX7.out 1).trans rfl
  have c7_2 := (Wl.blk_cell HX7.out 2).trans rfl
  have c7_3 := (Wl.blk_cell HX7.out 3).trans rfl
  have c7_4 := (Wl.blk_cell HX7.out 4).trans rfl
  have c7_5 := (Wl.blk_cell HX7.out 5).trans rfl
  have c7_6 := (Wl.blk_cell HX7.out 6).trans rfl
  have c7_7 := (Wl.blk_cell HX7.out 7).trans rfl
  have f7_0 := Wl.blk_frozen HX7.out 0
  have f7_1 := Wl.blk_frozen HX7.out 1
  have f7_2 := Wl.blk_frozen HX7.out 2
  have f7_3 := Wl.blk_frozen HX7.out 3
  have f7_4 := Wl.blk_frozen HX7.out 4
  have f7_5 := Wl.blk_frozen HX7.out 5
  have f7_6 := Wl.blk_frozen HX7.out 6
  have f7_7 := Wl.blk_frozen HX7.out 7
  clear c9_0 f9_0 c9_1 f9_1 c9_2 f9_2 c9_3 f9_3 c9_4 f9_4 c9_5 f9_5 c9_6 f9_6 c9_7 f9_7
  first | have HN9 := Lib.hid (Wl.blk_after HX9.out hb8) | have HN9 := Lib.hid (Wl.blk_after (Wl.blk_alloc HX9.out _) hb8) | have HN9 := Lib.hid (Wl.blk_after (Wl.blk_alloc (Wl.blk_alloc HX9.out _) _) hb8) | have HN9 := Lib.hid (Wl.blk_after (Wl.blk_drew HX9.out) hb8)
  clear HX9
  have HX9 := HN9
  clear HN9
  have c9_0 := (Wl.blk_cell HX9.out 0).trans rfl
  have c9_1 := (Wl.blk_cell HX9.out 1).trans rfl
  have c9_2 := (Wl.blk_cell HX9.out 2).trans rfl
  have c9_3 := (Wl.blk_cell HX9.out 3).trans rfl
  have c9_4 := (Wl.blk_cell HX9.out 4).trans rfl
  have c9_5 := (Wl.blk_cell HX9.out 5).trans rfl
  have c9_6 := (Wl.blk_cell HX9.out 6).trans rfl
  have c9_7 := (Wl.blk_cell HX9.out 7).trans rfl
  have f9_0 := Wl.blk_frozen HX9.out 0
  have f9_1 := Wl.blk_frozen HX9.out 1
  have f9_2 := Wl.blk_frozen HX9.out 2
  have f9_3 := Wl.blk_frozen HX9.out 3
  have f9_4 := Wl.blk_frozen HX9.out 4
  have f9_5 := Wl.blk_frozen HX9.out 5
  have f9_6 := Wl.blk_frozen HX9.out 6
  have f9_7 := Wl.blk_frozen HX9.out 7
  go_wp2_with fail
  refine (k9.out _ (hG.below (by (repeat (first | (with_reducible apply Wl.bl_alloc) | (with_reducible apply Wl.bl_drewN) | (with_reducible apply Wl.bl_drew) | (with_reducible refine Wl.bl_set ?_ (by simp; try omega)) | (with_reducible exact Below.refl _ _) | (with_reducible assumption) | (with_reducible refine Wl.bl_trans ?_ (by assumption))))))).mono ?_
  rintro e w9 ⟨rfl, hb9⟩
  have HV := Lib.hid (IntsAt.below (w := w8) (w' := w9) (by (repeat (first | (with_reducible apply Wl.bl_alloc) | (with_reducible apply Wl.bl_drewN) | (with_reducible apply Wl.bl_drew) | (with_reducible refine Wl.bl_set ?_ (by simp; try omega)) | (with_reducible exact Below.refl _ _) | (with_reducible assumption) | (with_reducible refine Wl.bl_trans ?_ (by assumption))))) HV.out)
  clear c5_0 f5_0 c5_1 f5_1 c5_2 f5_2 c5_3 f5_3 c5_4 f5_4 c5_5 f5_5 c5_6 f5_6 c5_7 f5_7
  first | have HN5 := Lib.hid (Wl.blk_after HX5.out hb9) | have HN5 := Lib.hid (Wl.blk_after (Wl.blk_alloc HX5.out _) hb9) | have HN5 := Lib.hid (Wl.blk_after (Wl.blk_alloc (Wl.blk_alloc HX5.out _) _) hb9) | have HN5 := Lib.hid (Wl.blk_after (Wl.blk_drew HX5.out) hb9)
  clear HX5
  have HX5 := HN5
  clear HN5
  have c5_0 := (Wl.blk_cell HX5.out 0).trans rfl
  have c5_1 := (Wl.blk_cell HX5.out 1).trans rfl
  have c5_2 := (Wl.blk_cell HX5.out 2).trans rfl
  have c5_3 := (Wl.blk_cell HX5.out 3).trans rfl
  have c5_4 := (Wl.blk_cell HX5.out 4).trans rfl
  have c5_5 := (Wl.blk_cell HX5.out 5).trans rfl
  have c5_6 := (Wl.blk_cell HX5.out 6).trans rfl
  have c5_7 := (Wl.blk_cell HX5.out 7).trans rfl
  have f5_0 := Wl.blk_frozen HX5.out 0
  have f5_1 := Wl.blk_frozen HX5.out 1
  have f5_2 := Wl.blk_frozen HX5.out 2
  have f5_3 := Wl.blk_frozen HX5.out 3
  have f5_4 := Wl.blk_frozen HX5.out 4
  have f5_5 := Wl.blk_frozen HX5.out 5
  have f5_6 := Wl.blk_frozen HX5.out 6
  have f5_7 := Wl.blk_frozen HX5.out 7
  clear c7_0 f7_0 c7_1 f7_1 c7_2 f7_2 c7_3 f7_3 c7_4 f7_4 c7_5 f7_5 c7_6 f7_6 c7_7 f7_7
  first | have HN7 := Lib.hid (Wl.blk_after HX7.out hb9) | have HN7 := Lib.hid (Wl.blk_after (Wl.blk_alloc HX7.out _) hb9) | have HN7 := Lib.hid (Wl.blk_after (Wl.blk_alloc (Wl.blk_alloc HX7.out _) _) hb9) | have HN7 := Lib.hid (Wl.blk_after (Wl.blk_drew HX7.out) hb9)
  clear HX7
  have HX7 := HN7
  clear HN7
  have c7_0 := (Wl.blk_cell HX7.out 0).trans rfl
  have c7_1 := (Wl.blk_cell HX7.out 1).trans rfl
  have c7_2 := (Wl.blk_cell HX7.out 2).trans rfl
  have c7_3 := (Wl.blk_cell HX7.out 3).trans rfl
  have c7_4 := (Wl.blk_cell HX7.out 4).trans rfl
  have c7_5 := (Wl.blk_cell HX7.out 5).trans rfl
  have c7_6 := (Wl.blk_cell HX7.out 6).trans rfl
  have c7_7 := (Wl.blk_cell HX7.out 7).trans rfl
  have f7_0 := Wl.blk_frozen HX7.out 0
  have f7_1 := Wl.blk_frozen HX7.out 1
  have f7_2 := Wl.blk_frozen HX7.out 2
  have f7_3 := Wl.blk_frozen HX7.out 3
  have f7_4 := Wl.blk_frozen HX7.out 4
  have f7_5 := Wl.blk_frozen HX7.out 5
  have f7_6 := Wl.blk_frozen HX7.out 6
  have f7_7 := Wl.blk_frozen HX7.out 7
  clear c9_0 f9_0 c9_1 f9_1 c9_2 f9_2 c9_3 f9_3 c9_4 f9_4 c9_5 f9_5 c9_6 f9_6 c9_7 f9_7
  first | have HN9 := Lib.hid (Wl.blk_after HX9.out hb9) | have HN9 := Lib.hid (Wl.blk_after (Wl.blk_alloc HX9.out _) hb9) | have HN9 := Lib.hid (Wl.blk_after (Wl.blk_alloc (Wl.blk_alloc HX9.out _) _) hb9) | have HN9 := Lib.hid (Wl.blk_after (Wl.blk_drew HX9.out) hb9)
  clear HX9
  have HX9 := HN9
  clear HN9
  have c9_0 := (Wl.blk_cell HX9.out 0).trans rfl
  have c9_1 := (Wl.blk_cell HX9.out 1).trans rfl
  have c9_2 := (Wl.blk_cell HX9.out 2).trans rfl
  have c9_3 := (Wl.blk_cell HX9.out 3).trans rfl
  have c9_4 := (Wl.blk_cell HX9.out 4).trans rfl
  have c9_5 := (Wl.blk_cell HX9.out 5).trans rfl
  have c9_6 := (Wl.blk_cell HX9.out 6).trans rfl
  have c9_7 := (Wl.blk_cell HX9.out 7).trans rfl
  have f9_0 := Wl.blk_frozen HX9.out 0
  have f9_1 := Wl.blk_frozen HX9.out 1
  have f9_2 := Wl.blk_frozen HX9.out 2
  have f9_3 := Wl.blk_frozen HX9.out 3
  have f9_4 := Wl.blk_frozen HX9.out 4
  have f9_5 := Wl.blk_frozen HX9.out 5
  have f9_6 := Wl.blk_frozen HX9.out 6
  have f9_7 := Wl.blk_frozen HX9.out 7
  go_wp2_with fail
  have hvn : ∀ o, IntsAt (w9.alloc o) v5 [2] := fun o => IntsAt.below (w := w9) (w' := w9.alloc o) (by (repeat (first | (with_reducible apply Wl.bl_alloc) | (with_reducible apply Wl.bl_drewN) | (with_reducible apply Wl.bl_drew) | (with_reducible refine Wl.bl_set ?_ (by simp; try omega)) | (with_reducible exact Below.refl _ _) | (with_reducible assumption) | (with_reducible refine Wl.bl_trans ?_ (by assumption))))) HV.out
  have HN2 : IntsAt (w9.alloc (.cells #[.int .i64 2] 3)) (.slice (some ⟨w9.heap.size, 0, none⟩) 1 1) [2] := ⟨some ⟨w9.heap.size, 0, none⟩, 1, rfl, by simp, fun _ => ⟨_, rfl, fun j hj => by
    obtain rfl : j = 0 := by simp at hj; omega
    rw [add_plain, Wl.blk_cell (Wl.new_blk _ _)]; rfl⟩⟩
  refine (same_any [2] [2] _ _ _ (hvn _) HN2).mono ?_
  rintro e w10 ⟨rfl, hb10⟩
  clear HN2 hvn
  clear c9_0 f9_0 c9_1 f9_1 c9_2 f9_2 c9_3 f9_3 c9_4 f9_4 c9_5 f9_5 c9_6 f9_6 c9_7 f9_7
  first | have HN9 := Lib.hid (Wl.blk_after HX9.out hb10) | have HN9 := Lib.hid (Wl.blk_after (Wl.blk_alloc HX9.out _) hb10) | have HN9 := Lib.hid (Wl.blk_after (Wl.blk_alloc (Wl.blk_alloc HX9.out _) _) hb10) | have HN9 := Lib.hid (Wl.blk_after (Wl.blk_drew HX9.out) hb10)
  clear HX9
  have HX9 := HN9
  clear HN9
  have c9_0 := (Wl.blk_cell HX9.out 0).trans rfl
  have c9_1 := (Wl.blk_cell HX9.out 1).trans rfl
  have c9_2 := (Wl.blk_cell HX9.out 2).trans rfl
  have c9_3 := (Wl.blk_cell HX9.out 3).trans rfl
  have c9_4 := (Wl.blk_cell HX9.out 4).trans rfl
  have c9_5 := (Wl.blk_cell HX9.out 5).trans rfl
  have c9_6 := (Wl.blk_cell HX9.out 6).trans rfl
  have c9_7 := (Wl.blk_cell HX9.out 7).trans rfl
  have f9_0 := Wl.blk_frozen HX9.out 0
  have f9_1 := Wl.blk_frozen HX9.out 1
  have f9_2 := Wl.blk_frozen HX9.out 2
  have f9_3 := Wl.blk_frozen HX9.out 3
  have f9_4 := Wl.blk_frozen HX9.out 4
  have f9_5 := Wl.blk_frozen HX9.out 5
  have f9_6 := Wl.blk_frozen HX9.out 6
  have f9_7 := Wl.blk_frozen HX9.out 7
  go_wp2_with fail
  refine (k11.out _ (hG.below (by (repeat (first | (with_reducible apply Wl.bl_alloc) | (with_reducible apply Wl.bl_drewN) | (with_reducible apply Wl.bl_drew) | (with_reducible refine Wl.bl_set ?_ (by simp; try omega)) | (with_reducible exact Below.refl _ _) | (with_reducible assumption) | (with_reducible refine Wl.bl_trans ?_ (by assumption))))))).mono ?_
  rintro e w11 ⟨rfl, hb11⟩
  clear c9_0 f9_0 c9_1 f9_1 c9_2 f9_2 c9_3 f9_3 c9_4 f9_4 c9_5 f9_5 c9_6 f9_6 c9_7 f9_7
  first | have HN9 := Lib.hid (Wl.blk_after HX9.out hb11) | have HN9 := Lib.hid (Wl.blk_after (Wl.blk_alloc HX9.out _) hb11) | have HN9 := Lib.hid (Wl.blk_after (Wl.blk_alloc (Wl.blk_alloc HX9.out _) _) hb11) | have HN9 := Lib.hid (Wl.blk_after (Wl.blk_drew HX9.out) hb11)
  clear HX9
  have HX9 := HN9
  clear HN9
  have c9_0 := (Wl.blk_cell HX9.out 0).trans rfl
  have c9_1 := (Wl.blk_cell HX9.out 1).trans rfl
  have c9_2 := (Wl.blk_cell HX9.out 2).trans rfl
  have c9_3 := (Wl.blk_cell HX9.out 3).trans rfl
  have c9_4 := (Wl.blk_cell HX9.out 4).trans rfl
  have c9_5 := (Wl.blk_cell HX9.out 5).trans rfl
  have c9_6 := (Wl.blk_cell HX9.out 6).trans rfl
  have c9_7 := (Wl.blk_cell HX9.out 7).trans rfl
  have f9_0 := Wl.blk_frozen HX9.out 0
  have f9_1 := Wl.blk_frozen HX9.out 1
  have f9_2 := Wl.blk_frozen HX9.out 2
  have f9_3 := Wl.blk_frozen HX9.out 3
  have f9_4 := Wl.blk_frozen HX9.out 4
  have f9_5 := Wl.blk_frozen HX9.out 5
  have f9_6 := Wl.blk_frozen HX9.out 6
  have f9_7 := Wl.blk_frozen HX9.out 7
  go_wp2_with fail
  refine (k12.out _ (hG.below (by (repeat (first | (with_reducible apply Wl.bl_alloc) | (with_reducible apply Wl.bl_drewN) | (with_reducible apply Wl.bl_drew) | (with_reducible refine Wl.bl_set ?_ (by simp; try omega)) | (with_reducible exact Below.refl _ _) | (with_reducible assumption) | (with_reducible refine Wl.bl_trans ?_ (by assumption))))))).mono ?_
  rintro e w12 ⟨rfl, hb12⟩
  go_wp2_with fail
  refine (k13.out _ (hG.below (by (repeat (first | (with_reducible apply Wl.bl_alloc) | (with_reducible apply Wl.bl_drewN) | (with_reducible apply Wl.bl_drew) | (with_reducible refine Wl.bl_set ?_ (by simp; try omega)) | (with_reducible exact Below.refl _ _) | (with_reducible assumption) | (with_reducible refine Wl.bl_trans ?_ (by assumption))))))).mono ?_
  rintro e w13 ⟨rfl, hb13⟩
  go_wp2_with fail
  exact bodyPost_ret (v := .bool true) (by simp [results, Tryd.results11, go_sem]) rfl ⟨rfl, by (repeat (first | (with_reducible apply Wl.bl_alloc) | (with_reducible apply Wl.bl_drewN) | (with_reducible apply Wl.bl_drew) | (with_reducible refine Wl.bl_set ?_ (by simp; try omega)) | (with_reducible exact Below.refl _ _) | (with_reducible assumption) | (with_reducible refine Wl.bl_trans ?_ (by assumption))))⟩
end Go.Proofs.YtdaionnpgcdkdaaDoor
