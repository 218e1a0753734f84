import Derived.Test.YtdaionnpgcdkdaaDoorRollB
import Derived.Test.YtdaionnpgcdkdaaDoorRollC
import Derived.Test.YtdaionnpgcdkdaaDoorRollD
set_option linter.unusedVariables false
set_option linter.unusedSimpArgs false
namespace Go.Proofs.YtdaionnpgcdkdaaDoor
open Go.RowKit
open Sets (hasS addS dropS lessS subS isId)
/-- A set's numbers, as Go's ints. -/
def elsI (s : Nat) : List Int := (Sets.els s).map fun x => ((x : Nat) : Int)
theorem elsI_length (s : Nat) : (elsI s).length = (Sets.els s).length := by simp [elsI]
theorem els_length (s : Nat) : (Sets.els s).length ≤ 256 := by
  have := List.length_filter_le s.testBit (List.range 256)
  simpa [Sets.els] using this
theorem list_any (s : Nat) (w : World) (hG : GL w) (h2 : 2 ≤ w.heap.size) :
    Calls Tryd.prog 71 #[.agg #[.int .u64 (Sets.wd s 0), .int .u64 (Sets.wd s 1), .int .u64 (Sets.wd s 2), .int .u64 (Sets.wd s 3)]] w fun e w' => ∃ v, e = .returned v ∧ IntsFrom w.heap.size w' v (elsI s) ∧ Below w.heap.size w w' := by
  refine (callsIn_wide.1 (list_in s w hG h2)).mono ?_
  rintro e w' ⟨v, rfl, ho, _, hb⟩
  refine ⟨v, rfl, IntsFrom.of_owns (base := w.heap.size) (e := 3) ?_ ?_, hb⟩
  · have e : (elsI s).map (fun x => Value.int .i64 x) = ints (Sets.els s) := by simp [elsI, ints]
    rw [e, elsI_length]
    exact ho
  · have := els_length s
    rw [elsI_length]; omega
theorem GL.two {w : World} (h : GL w) : 2 ≤ w.heap.size := by
  have := World.block_lt_of_cell? w _ (h.tab 0 (by decide))
  simp at this
  omega

/-- roll.Fire: the roll behind it, who goes on, the error. -/
def fireR (m a : Nat) : Nat × Nat × List Int × Int :=
  if fineR m a then (if fullR m a then (m, 0, elsI a, 0) else (m, a, [], 13)) else (m, a, [], 1)
theorem wd_none (k : Nat) : Sets.wd 0 k = 0 := Sets.wd_zero k
set_option maxHeartbeats 1000000 in
theorem roll_fire (m a : Nat) (hm : Sets.In m) (ha : Sets.In a) (w : World) (hG : GL w) :
    Calls Tryd.prog 17 #[.agg #[.int .u64 (Sets.wd m 0), .int .u64 (Sets.wd m 1), .int .u64 (Sets.wd m 2), .int .u64 (Sets.wd m 3), .int .u64 (Sets.wd a 0), .int .u64 (Sets.wd a 1), .int .u64 (Sets.wd a 2), .int .u64 (Sets.wd a 3)]] w fun e w' => ∃ v, e = .returned (.tuple #[.agg #[.int .u64 (Sets.wd ((fireR m a).1) 0), .int .u64 (Sets.wd ((fireR m a).1) 1), .int .u64 (Sets.wd ((fireR m a).1) 2), .int .u64 (Sets.wd ((fireR m a).1) 3), .int .u64 (Sets.wd ((fireR m a).2.1) 0), .int .u64 (Sets.wd ((fireR m a).2.1) 1), .int .u64 (Sets.wd ((fireR m a).2.1) 2), .int .u64 (Sets.wd ((fireR m a).2.1) 3)], v, .int .i64 (fireR m a).2.2.2]) ∧ IntsFrom w.heap.size w' v (fireR m a).2.2.1 ∧ Below w.heap.size w w' := by
  cases hx : fineR m a with
  | true =>
    cases hf : fullR m a with
    | true =>
      have e : fireR m a = (m, 0, elsI a, 0) := by unfold fireR; rw [hx, hf]; rfl
      rw [e]
      clear e
      simp only [wd_none]
      go_enter Tryd.func17, Tryd.ntmps17
      go_wp2_with fail
      refine (roll_fine m a hm ha _ (hG.below (by (repeat (first | (with_reducible apply Wl.bl_alloc) | (with_reducible apply Wl.bl_drewN) | (with_reducible apply Wl.bl_drew) | (with_reducible refine Wl.bl_set ?_ (by simp; try omega)) | (with_reducible exact Below.refl _ _) | (with_reducible assumption) | (with_reducible refine Wl.bl_trans ?_ (by assumption))))))).mono ?_
      rintro e w1 ⟨rfl, hb1⟩
      have HN0 := Lib.hid (Wl.blk_after (Wl.blk_alloc (Wl.new_blk _ _) _) hb1)
      have HX0 := HN0
      clear HN0
      have c0_0 := (Wl.blk_cell HX0.out 0).trans rfl
      have c0_1 := (Wl.blk_cell HX0.out 1).trans rfl
      have c0_2 := (Wl.blk_cell HX0.out 2).trans rfl
      have c0_3 := (Wl.blk_cell HX0.out 3).trans rfl
      have c0_4 := (Wl.blk_cell HX0.out 4).trans rfl
      have c0_5 := (Wl.blk_cell HX0.out 5).trans rfl
      have c0_6 := (Wl.blk_cell HX0.out 6).trans rfl
      have c0_7 := (Wl.blk_cell HX0.out 7).trans rfl
      have f0_0 := Wl.blk_frozen HX0.out 0
      have f0_1 := Wl.blk_frozen HX0.out 1
      have f0_2 := Wl.blk_frozen HX0.out 2
      have f0_3 := Wl.blk_frozen HX0.out 3
      have f0_4 := Wl.blk_frozen HX0.out 4
      have f0_5 := Wl.blk_frozen HX0.out 5
      have f0_6 := Wl.blk_frozen HX0.out 6
      have f0_7 := Wl.blk_frozen HX0.out 7
      have HN1 := Lib.hid (Wl.blk_after (Wl.new_blk1 _ _ _) hb1)
      have HX1 := HN1
      clear HN1
      have c1_0 := (Wl.blk_cell HX1.out 0).trans rfl
      have c1_1 := (Wl.blk_cell HX1.out 1).trans rfl
      have c1_2 := (Wl.blk_cell HX1.out 2).trans rfl
      have c1_3 := (Wl.blk_cell HX1.out 3).trans rfl
      have c1_4 := (Wl.blk_cell HX1.out 4).trans rfl
      have c1_5 := (Wl.blk_cell HX1.out 5).trans rfl
      have c1_6 := (Wl.blk_cell HX1.out 6).trans rfl
      have c1_7 := (Wl.blk_cell HX1.out 7).trans rfl
      have f1_0 := Wl.blk_frozen HX1.out 0
      have f1_1 := Wl.blk_frozen HX1.out 1
      have f1_2 := Wl.blk_frozen HX1.out 2
      have f1_3 := Wl.blk_frozen HX1.out 3
      have f1_4 := Wl.blk_frozen HX1.out 4
      have f1_5 := Wl.blk_frozen HX1.out 5
      have f1_6 := Wl.blk_frozen HX1.out 6
      have f1_7 := Wl.blk_frozen HX1.out 7
      rw [hx]
      go_wp2_with fail
      refine (roll_full m a hm ha _ (hG.below (by (repeat (first | (with_reducible apply Wl.bl_alloc) | (with_reducible apply Wl.bl_drewN) | (with_reducible apply Wl.bl_drew) | (with_reducible refine Wl.bl_set ?_ (by simp; try omega)) | (with_reducible exact Below.refl _ _) | (with_reducible assumption) | (with_reducible refine Wl.bl_trans ?_ (by assumption))))))).mono ?_
      rintro e w2 ⟨rfl, hb2⟩
      clear c0_0 f0_0 c0_1 f0_1 c0_2 f0_2 c0_3 f0_3 c0_4 f0_4 c0_5 f0_5 c0_6 f0_6 c0_7 f0_7
      first | have HN0 := Lib.hid (Wl.blk_after HX0.out hb2) | have HN0 := Lib.hid (Wl.blk_after (Wl.blk_alloc HX0.out _) hb2) | have HN0 := Lib.hid (Wl.blk_after (Wl.blk_alloc (Wl.blk_alloc HX0.out _) _) hb2) | have HN0 := Lib.hid (Wl.blk_after (Wl.blk_drew HX0.out) hb2)
      clear HX0
      have HX0 := HN0
      clear HN0
      have c0_0 := (Wl.blk_cell HX0.out 0).trans rfl
      have c0_1 := (Wl.blk_cell HX0.out 1).trans rfl
      have c0_2 := (Wl.blk_cell HX0.out 2).trans rfl
      have c0_3 := (Wl.blk_cell HX0.out 3).trans rfl
      have c0_4 := (Wl.blk_cell HX0.out 4).trans rfl
      have c0_5 := (Wl.blk_cell HX0.out 5).trans rfl
      have c0_6 := (Wl.blk_cell HX0.out 6).trans rfl
      have c0_7 := (Wl.blk_cell HX0.out 7).trans rfl
      have f0_0 := Wl.blk_frozen HX0.out 0
      have f0_1 := Wl.blk_frozen HX0.out 1
      have f0_2 := Wl.blk_frozen HX0.out 2
      have f0_3 := Wl.blk_frozen HX0.out 3
      have f0_4 := Wl.blk_frozen HX0.out 4
      have f0_5 := Wl.blk_frozen HX0.out 5
      have f0_6 := Wl.blk_frozen HX0.out 6
      have f0_7 := Wl.blk_frozen HX0.out 7
      clear c1_0 f1_0 c1_1 f1_1 c1_2 f1_2 c1_3 f1_3 c1_4 f1_4 c1_5 f1_5 c1_6 f1_6 c1_7 f1_7
      first | have HN1 := Lib.hid (Wl.blk_after HX1.out hb2) | have HN1 := Lib.hid (Wl.blk_after (Wl.blk_alloc HX1.out _) hb2) | have HN1 := Lib.hid (Wl.blk_after (Wl.blk_alloc (Wl.blk_alloc HX1.out _) _) hb2) | have HN1 := Lib.hid (Wl.blk_after (Wl.blk_drew HX1.out) hb2)
      clear HX1
      have HX1 := HN1
      clear HN1
      have c1_0 := (Wl.blk_cell HX1.out 0).trans rfl
      have c1_1 := (Wl.blk_cell HX1.out 1).trans rfl
      have c1_2 := (Wl.blk_cell HX1.out 2).trans rfl
      have c1_3 := (Wl.blk_cell HX1.out 3).trans rfl
      have c1_4 := (Wl.blk_cell HX1.out 4).trans rfl
      have c1_5 := (Wl.blk_cell HX1.out 5).trans rfl
      have c1_6 := (Wl.blk_cell HX1.out 6).trans rfl
      have c1_7 := (Wl.blk_cell HX1.out 7).trans rfl
      have f1_0 := Wl.blk_frozen HX1.out 0
      have f1_1 := Wl.blk_frozen HX1.out 1
      have f1_2 := Wl.blk_frozen HX1.out 2
      have f1_3 := Wl.blk_frozen HX1.out 3
      have f1_4 := Wl.blk_frozen HX1.out 4
      have f1_5 := Wl.blk_frozen HX1.out 5
      have f1_6 := Wl.blk_frozen HX1.out 6
      have f1_7 := Wl.blk_frozen HX1.out 7
      rw [hf]
      go_wp2_with fail
      have hG2 : GL w2 := hG.below (by (repeat (first | (with_reducible apply Wl.bl_alloc) | (with_reducible apply Wl.bl_drewN) | (with_reducible apply Wl.bl_drew) | (with_reducible refine Wl.bl_set ?_ (by simp; try omega)) | (with_reducible exact Below.refl _ _) | (with_reducible assumption) | (with_reducible refine Wl.bl_trans ?_ (by assumption)))))
      refine (list_any a _ hG2 hG2.two).mono ?_
      rintro e w3 ⟨v, rfl, hv, hb3⟩
      clear c0_0 f0_0 c0_1 f0_1 c0_2 f0_2 c0_3 f0_3 c0_4 f0_4 c0_5 f0_5 c0_6 f0_6 c0_7 f0_7
      first | have HN0 := Lib.hid (Wl.blk_after HX0.out hb3) | have HN0 := Lib.hid (Wl.blk_after (Wl.blk_alloc HX0.out _) hb3) | have HN0 := Lib.hid (Wl.blk_after (Wl.blk_alloc (Wl.blk_alloc HX0.out _) _) hb3) | have HN0 := Lib.hid (Wl.blk_after (Wl.blk_drew HX0.out) hb3)
      clear HX0
      have HX0 := HN0
      clear HN0
      have c0_0 := (Wl.blk_cell HX0.out 0).trans rfl
      have c0_1 := (Wl.blk_cell HX0.out 1).trans rfl
      have c0_2 := (Wl.blk_cell HX0.out 2).trans rfl
      have c0_3 := (Wl.blk_cell HX0.out 3).trans rfl
      have c0_4 := (Wl.blk_cell HX0.out 4).trans rfl
      have c0_5 := (Wl.blk_cell HX0.out 5).trans rfl
      have c0_6 := (Wl.blk_cell HX0.out 6).trans rfl
      have c0_7 := (Wl.blk_cell HX0.out 7).trans rfl
      have f0_0 := Wl.blk_frozen HX0.out 0
      have f0_1 := Wl.blk_frozen HX0.out 1
      have f0_2 := Wl.blk_frozen HX0.out 2
      have f0_3 := Wl.blk_frozen HX0.out 3
      have f0_4 := Wl.blk_frozen HX0.out 4
      have f0_5 := Wl.blk_frozen HX0.out 5
      have f0_6 := Wl.blk_frozen HX0.out 6
      have f0_7 := Wl.blk_frozen HX0.out 7
      clear c1_0 f1_0 c1_1 f1_1 c1_2 f1_2 c1_3 f1_3 c1_4 f1_4 c1_5 f1_5 c1_6 f1_6 c1_7 f1_7
      first | have HN1 := Lib.hid (Wl.blk_after HX1.out hb3) | have HN1 := Lib.hid (Wl.blk_after (Wl.blk_alloc HX1.out _) hb3) | have HN1 := Lib.hid (Wl.blk_after (Wl.blk_alloc (Wl.blk_alloc HX1.out _) _) hb3) | have HN1 := Lib.hid (Wl.blk_after (Wl.blk_drew HX1.out) hb3)
      clear HX1
      have HX1 := HN1
      clear HN1
      have c1_0 := (Wl.blk_cell HX1.out 0).trans rfl
      have c1_1 := (Wl.blk_cell HX1.out 1).trans rfl
      have c1_2 := (Wl.blk_cell HX1.out 2).trans rfl
      have c1_3 := (Wl.blk_cell HX1.out 3).trans rfl
      have c1_4 := (Wl.blk_cell HX1.out 4).trans rfl
      have c1_5 := (Wl.blk_cell HX1.out 5).trans rfl
      have c1_6 := (Wl.blk_cell HX1.out 6).trans rfl
      have c1_7 := (Wl.blk_cell HX1.out 7).trans rfl
      have f1_0 := Wl.blk_frozen HX1.out 0
      have f1_1 := Wl.blk_frozen HX1.out 1
      have f1_2 := Wl.blk_frozen HX1.out 2
      have f1_3 := Wl.blk_frozen HX1.out 3
      have f1_4 := Wl.blk_frozen HX1.out 4
      have f1_5 := Wl.blk_frozen HX1.out 5
      have f1_6 := Wl.blk_frozen HX1.out 6
      have f1_7 := Wl.blk_frozen HX1.out 7
      have HV := Lib.hid hv
      clear hv
      have hz2 : w.heap.size + 2 ≤ w2.heap.size := by have := hb1.size; have := hb2.size; simp at *; omega
      obtain ⟨A, c, rfl, hcl⟩ := id HV.out
      clear hcl
      go_wp2_with fail
      refine bodyPost_ret (v := .tuple #[.agg #[.int .u64 (Sets.wd m 0), .int .u64 (Sets.wd m 1), .int .u64 (Sets.wd m 2), .int .u64 (Sets.wd m 3), .int .u64 0, .int .u64 0, .int .u64 0, .int .u64 0], .slice A (elsI a).length c, .int .i64 0]) ?_ rfl ⟨_, rfl, ?_, ?_⟩
      · simp [results, Tryd.results17, go_sem, c1_0, c1_1, c1_2, c1_3, c1_4, c1_5, c1_6, c1_7]
      · refine IntsFrom.lower (B := w2.heap.size) ?_ (by omega)
        repeat (first | (with_reducible exact HV.out) | (with_reducible refine IntsFrom.set ?_ (by simp; omega) _))
      · (repeat (first | (with_reducible apply Wl.bl_alloc) | (with_reducible apply Wl.bl_drewN) | (with_reducible apply Wl.bl_drew) | (with_reducible refine Wl.bl_set ?_ (by simp; try omega)) | (with_reducible exact Below.refl _ _) | (with_reducible assumption) | (with_reducible refine Wl.bl_trans ?_ (by assumption))))
    | false =>
      have e : fireR m a = (m, a, [], 13) := by unfold fireR; rw [hx, hf]; rfl
      rw [e]
      clear e
      go_enter Tryd.func17, Tryd.ntmps17
      go_wp2_with fail
      refine (roll_fine m a hm ha _ (hG.below (by (repeat (first | (with_reducible apply Wl.bl_alloc) | (with_reducible apply Wl.bl_drewN) | (with_reducible apply Wl.bl_drew) | (with_reducible refine Wl.bl_set ?_ (by simp; try omega)) | (with_reducible exact Below.refl _ _) | (with_reducible assumption) | (with_reducible refine Wl.bl_trans ?_ (by assumption))))))).mono ?_
      rintro e w1 ⟨rfl, hb1⟩
      have HN0 := Lib.hid (Wl.blk_after (Wl.blk_alloc (Wl.new_blk _ _) _) hb1)
      have HX0 := HN0
      clear HN0
      have c0_0 := (Wl.blk_cell HX0.out 0).trans rfl
      have c0_1 := (Wl.blk_cell HX0.out 1).trans rfl
      have c0_2 := (Wl.blk_cell HX0.out 2).trans rfl
      have c0_3 := (Wl.blk_cell HX0.out 3).trans rfl
      have c0_4 := (Wl.blk_cell HX0.out 4).trans rfl
      have c0_5 := (Wl.blk_cell HX0.out 5).trans rfl
      have c0_6 := (Wl.blk_cell HX0.out 6).trans rfl
      have c0_7 := (Wl.blk_cell HX0.out 7).trans rfl
      have f0_0 := Wl.blk_frozen HX0.out 0
      have f0_1 := Wl.blk_frozen HX0.out 1
      have f0_2 := Wl.blk_frozen HX0.out 2
      have f0_3 := Wl.blk_frozen HX0.out 3
      have f0_4 := Wl.blk_frozen HX0.out 4
      have f0_5 := Wl.blk_frozen HX0.out 5
      have f0_6 := Wl.blk_frozen HX0.out 6
      have f0_7 := Wl.blk_frozen HX0.out 7
      have HN1 := Lib.hid (Wl.blk_after (Wl.new_blk1 _ _ _) hb1)
      have HX1 := HN1
      clear HN1
      have c1_0 := (Wl.blk_cell HX1.out 0).trans rfl
      have c1_1 := (Wl.blk_cell HX1.out 1).trans rfl
      have c1_2 := (Wl.blk_cell HX1.out 2).trans rfl
      have c1_3 := (Wl.blk_cell HX1.out 3).trans rfl
      have c1_4 := (Wl.blk_cell HX1.out 4).trans rfl
      have c1_5 := (Wl.blk_cell HX1.out 5).trans rfl
      have c1_6 := (Wl.blk_cell HX1.out 6).trans rfl
      have c1_7 := (Wl.blk_cell HX1.out 7).trans rfl
      have f1_0 := Wl.blk_frozen HX1.out 0
      have f1_1 := Wl.blk_frozen HX1.out 1
      have f1_2 := Wl.blk_frozen HX1.out 2
      have f1_3 := Wl.blk_frozen HX1.out 3
      have f1_4 := Wl.blk_frozen HX1.out 4
      have f1_5 := Wl.blk_frozen HX1.out 5
      have f1_6 := Wl.blk_frozen HX1.out 6
      have f1_7 := Wl.blk_frozen HX1.out 7
      rw [hx]
      go_wp2_with fail
      refine (roll_full m a hm ha _ (hG.below (by (repeat (first | (with_reducible apply Wl.bl_alloc) | (with_reducible apply Wl.bl_drewN) | (with_reducible apply Wl.bl_drew) | (with_reducible refine Wl.bl_set ?_ (by simp; try omega)) | (with_reducible exact Below.refl _ _) | (with_reducible assumption) | (with_reducible refine Wl.bl_trans ?_ (by assumption))))))).mono ?_
      rintro e w2 ⟨rfl, hb2⟩
      clear c0_0 f0_0 c0_1 f0_1 c0_2 f0_2 c0_3 f0_3 c0_4 f0_4 c0_5 f0_5 c0_6 f0_6 c0_7 f0_7
      first | have HN0 := Lib.hid (Wl.blk_after HX0.out hb2) | have HN0 := Lib.hid (Wl.blk_after (Wl.blk_alloc HX0.out _) hb2) | have HN0 := Lib.hid (Wl.blk_after (Wl.blk_alloc (Wl.blk_alloc HX0.out _) _) hb2) | have HN0 := Lib.hid (Wl.blk_after (Wl.blk_drew HX0.out) hb2)
      clear HX0
      have HX0 := HN0
      clear HN0
      have c0_0 := (Wl.blk_cell HX0.out 0).trans rfl
      have c0_1 := (Wl.blk_cell HX0.out 1).trans rfl
      have c0_2 := (Wl.blk_cell HX0.out 2).trans rfl
      have c0_3 := (Wl.blk_cell HX0.out 3).trans rfl
      have c0_4 := (Wl.blk_cell HX0.out 4).trans rfl
      have c0_5 := (Wl.blk_cell HX0.out 5).trans rfl
      have c0_6 := (Wl.blk_cell HX0.out 6).trans rfl
      have c0_7 := (Wl.blk_cell HX0.out 7).trans rfl
      have f0_0 := Wl.blk_frozen HX0.out 0
      have f0_1 := Wl.blk_frozen HX0.out 1
      have f0_2 := Wl.blk_frozen HX0.out 2
      have f0_3 := Wl.blk_frozen HX0.out 3
      have f0_4 := Wl.blk_frozen HX0.out 4
      have f0_5 := Wl.blk_frozen HX0.out 5
      have f0_6 := Wl.blk_frozen HX0.out 6
      have f0_7 := Wl.blk_frozen HX0.out 7
      clear c1_0 f1_0 c1_1 f1_1 c1_2 f1_2 c1_3 f1_3 c1_4 f1_4 c1_5 f1_5 c1_6 f1_6 c1_7 f1_7
      first | have HN1 := Lib.hid (Wl.blk_after HX1.out hb2) | have HN1 := Lib.hid (Wl.blk_after (Wl.blk_alloc HX1.out _) hb2) | have HN1 := Lib.hid (Wl.blk_after (Wl.blk_alloc (Wl.blk_alloc HX1.out _) _) hb2) | have HN1 := Lib.hid (Wl.blk_after (Wl.blk_drew HX1.out) hb2)
      clear HX1
      have HX1 := HN1
      clear HN1
      have c1_0 := (Wl.blk_cell HX1.out 0).trans rfl
      have c1_1 := (Wl.blk_cell HX1.out 1).trans rfl
      have c1_2 := (Wl.blk_cell HX1.out 2).trans rfl
      have c1_3 := (Wl.blk_cell HX1.out 3).trans rfl
      have c1_4 := (Wl.blk_cell HX1.out 4).trans rfl
      have c1_5 := (Wl.blk_cell HX1.out 5).trans rfl
      have c1_6 := (Wl.blk_cell HX1.out 6).trans rfl
      have c1_7 := (Wl.blk_cell HX1.out 7).trans rfl
      have f1_0 := Wl.blk_frozen HX1.out 0
      have f1_1 := Wl.blk_frozen HX1.out 1
      have f1_2 := Wl.blk_frozen HX1.out 2
      have f1_3 := Wl.blk_frozen HX1.out 3
      have f1_4 := Wl.blk_frozen HX1.out 4
      have f1_5 := Wl.blk_frozen HX1.out 5
      have f1_6 := Wl.blk_frozen HX1.out 6
      have f1_7 := Wl.blk_frozen HX1.out 7
      rw [hf]
      go_wp2_with fail
      refine bodyPost_ret (v := .tuple #[.agg #[.int .u64 (Sets.wd m 0), .int .u64 (Sets.wd m 1), .int .u64 (Sets.wd m 2), .int .u64 (Sets.wd m 3), .int .u64 (Sets.wd a 0), .int .u64 (Sets.wd a 1), .int .u64 (Sets.wd a 2), .int .u64 (Sets.wd a 3)], .slice none 0 0, .int .i64 13]) ?_ rfl ⟨_, rfl, IntsFrom.nil _ _, ?_⟩
      · simp [results, Tryd.results17, go_sem, c1_0, c1_1, c1_2, c1_3, c1_4, c1_5, c1_6, c1_7]
      · (repeat (first | (with_reducible apply Wl.bl_alloc) | (with_reducible apply Wl.bl_drewN) | (with_reducible apply Wl.bl_drew) | (with_reducible refine Wl.bl_set ?_ (by simp; try omega)) | (with_reducible exact Below.refl _ _) | (with_reducible assumption) | (with_reducible refine Wl.bl_trans ?_ (by assumption))))
  | false =>
    have e : fireR m a = (m, a, [], 1) := by unfold fireR; rw [hx]; rfl
    rw [e]
    clear e
    go_enter Tryd.func17, Tryd.ntmps17
    go_wp2_with fail
    refine (roll_fine m a hm ha _ (hG.below (by (repeat (first | (with_reducible apply Wl.bl_alloc) | (with_reducible apply Wl.bl_drewN) | (with_reducible apply Wl.bl_drew) | (with_reducible refine Wl.bl_set ?_ (by simp; try omega)) | (with_reducible exact Below.refl _ _) | (with_reducible assumption) | (with_reducible refine Wl.bl_trans ?_ (by assumption))))))).mono ?_
    rintro e w1 ⟨rfl, hb1⟩
    have HN0 := Lib.hid (Wl.blk_after (Wl.blk_alloc (Wl.new_blk _ _) _) hb1)
    have HX0 := HN0
    clear HN0
    have c0_0 := (Wl.blk_cell HX0.out 0).trans rfl
    have c0_1 := (Wl.blk_cell HX0.out 1).trans rfl
    have c0_2 := (Wl.blk_cell HX0.out 2).trans rfl
    have c0_3 := (Wl.blk_cell HX0.out 3).trans rfl
    have c0_4 := (Wl.blk_cell HX0.out 4).trans rfl
    have c0_5 := (Wl.blk_cell HX0.out 5).trans rfl
    have c0_6 := (Wl.blk_cell HX0.out 6).trans rfl
    have c0_7 := (Wl.blk_cell HX0.out 7).trans rfl
    have f0_0 := Wl.blk_frozen HX0.out 0
    have f0_1 := Wl.blk_frozen HX0.out 1
    have f0_2 := Wl.blk_frozen HX0.out 2
    have f0_3 := Wl.blk_frozen HX0.out 3
    have f0_4 := Wl.blk_frozen HX0.out 4
    have f0_5 := Wl.blk_frozen HX0.out 5
    have f0_6 := Wl.blk_frozen HX0.out 6
    have f0_7 := Wl.blk_frozen HX0.out 7
    have HN1 := Lib.hid (Wl.blk_after (Wl.new_blk1 _ _ _) hb1)
    have HX1 := HN1
    clear HN1
    have c1_0 := (Wl.blk_cell HX1.out 0).trans rfl
    have c1_1 := (Wl.blk_cell HX1.out 1).trans rfl
    have c1_2 := (Wl.blk_cell HX1.out 2).trans rfl
    have c1_3 := (Wl.blk_cell HX1.out 3).trans rfl
    have c1_4 := (Wl.blk_cell HX1.out 4).trans rfl
    have c1_5 := (Wl.blk_cell HX1.out 5).trans rfl
    have c1_6 := (Wl.blk_cell HX1.out 6).trans rfl
    have c1_7 := (Wl.blk_cell HX1.out 7).trans rfl
    have f1_0 := Wl.blk_frozen HX1.out 0
    have f1_1 := Wl.blk_frozen HX1.out 1
    have f1_2 := Wl.blk_frozen HX1.out 2
    have f1_3 := Wl.blk_frozen HX1.out 3
    have f1_4 := Wl.blk_frozen HX1.out 4
    have f1_5 := Wl.blk_frozen HX1.out 5
    have f1_6 := Wl.blk_frozen HX1.out 6
    have f1_7 := Wl.blk_frozen HX1.out 7
    rw [hx]
    go_wp2_with fail
    refine bodyPost_ret (v := .tuple #[.agg #[.int .u64 (Sets.wd m 0), .int .u64 (Sets.wd m 1), .int .u64 (Sets.wd m 2), .int .u64 (Sets.wd m 3), .int .u64 (Sets.wd a 0), .int .u64 (Sets.wd a 1), .int .u64 (Sets.wd a 2), .int .u64 (Sets.wd a 3)], .slice none 0 0, .int .i64 1]) ?_ rfl ⟨_, rfl, IntsFrom.nil _ _, ?_⟩
    · simp [results, Tryd.results17, go_sem, c1_0, c1_1, c1_2, c1_3, c1_4, c1_5, c1_6, c1_7]
    · (repeat (first | (with_reducible apply Wl.bl_alloc) | (with_reducible apply Wl.bl_drewN) | (with_reducible apply Wl.bl_drew) | (with_reducible refine Wl.bl_set ?_ (by simp; try omega)) | (with_reducible exact Below.refl _ _) | (with_reducible assumption) | (with_reducible refine Wl.bl_trans ?_ (by assumption))))
end Go.Proofs.YtdaionnpgcdkdaaDoor
