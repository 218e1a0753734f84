/- Printed by a program of this session over the kit's print.py: the machine's side of Go functions as plain Lean functions, each with its proof. -/
import Derived.Test.YtdaionnpgcdkdaaDoorPBarx0
import Derived.Test.YtdaionnpgcdkdaaDoorPBarx3
namespace Go.Proofs.YtdaionnpgcdkdaaDoorP.Bar
open Go.RowKit Go.Proofs.YtdaionnpgcdkdaaDoorW.PrintWords Go.Proofs.YtdaionnpgcdkdaaDoorW.PrintLast Go.Proofs.YtdaionnpgcdkdaaDoorW.PrintMore
attribute [local go_sem] max2_int min2_int max_two min_two max_three min_three max_four min_four   -- for this text's walks alone
set_option linter.unusedVariables false
set_option linter.unusedSimpArgs false

/-! ### barrier_Enrol: function 33 -/
def barrier_Enrol.f (a0_0 : Bool) (a0_1 : Int) (a0_2 : Int) (a0_3 : Int) (a0_4 : Int) (a0_5 : Int) (a0_6 : Int) (a0_7 : Int) (a0_8 : Int) (a0_9 : Int) (a0_10 : Int) (a1 : Int) : Option (Bool × Int × Int × Int × Int × Int × Int × Int × Int × Int × Int × Int) := (barrier_Fine.f a0_0 a0_1 a0_2 a0_3 a0_4 a0_5 a0_6 a0_7 a0_8 a0_9 a0_10).bind fun t150 => (if t150 = true then ((roll_Enrol.f a0_2 a0_3 a0_4 a0_5 a0_6 a0_7 a0_8 a0_9 a1).bind fun bt151 => ((barrier_Bar_with.f a0_0 a0_1 a0_2 a0_3 a0_4 a0_5 a0_6 a0_7 a0_8 a0_9 a0_10 bt151.1 bt151.2.1 bt151.2.2.1 bt151.2.2.2.1 bt151.2.2.2.2.1 bt151.2.2.2.2.2.1 bt151.2.2.2.2.2.2.1 bt151.2.2.2.2.2.2.2.1 bt151.2.2.2.2.2.2.2.2).bind fun bt160 => (some (bt160.1, bt160.2.1, bt160.2.2.1, bt160.2.2.2.1, bt160.2.2.2.2.1, bt160.2.2.2.2.2.1, bt160.2.2.2.2.2.2.1, bt160.2.2.2.2.2.2.2.1, bt160.2.2.2.2.2.2.2.2.1, bt160.2.2.2.2.2.2.2.2.2.1, bt160.2.2.2.2.2.2.2.2.2.2.1, bt160.2.2.2.2.2.2.2.2.2.2.2)))) else (some (a0_0, a0_1, a0_2, a0_3, a0_4, a0_5, a0_6, a0_7, a0_8, a0_9, a0_10, 1)))
def barrier_Enrol.T3 : Bool × List (List Nat × List Nat) := (true, [([], []), ([], []), ([1], [1]), ([], []), ([2, 3], [2, 3]), ([4], [4]), ([4], [4]), ([0, 5, 6, 4], [0, 5, 6]), ([7], [7]), ([7], [7]), ([8, 7, 0, 1, 2, 3, 4, 5, 6, 7, 8, 9], [8]), ([9, 10, 0, 1, 2, 3, 4, 5, 6, 7, 8, 9, 10], [9])])
def barrier_Enrol.B3 : List Nat := [0, 0, 2, 0, 14, 30, 30, 127, 255, 255, 1023, 2047]
theorem barrier_Enrol.tab3 : rtab .any (opsOf Tryd.f33 3) = barrier_Enrol.T3 := by kernel_rfl
theorem barrier_Enrol.bits3 : waitsOk barrier_Enrol.T3.2 barrier_Enrol.B3 = true := by kernel_rfl
set_option maxHeartbeats 8000000 in
set_option maxRecDepth 100000 in
theorem barrier_Enrol.calls (a0_0 : Bool) (a0_1 : Int) (a0_2 : Int) (a0_3 : Int) (a0_4 : Int) (a0_5 : Int) (a0_6 : Int) (a0_7 : Int) (a0_8 : Int) (a0_9 : Int) (a0_10 : Int) (a1 : Int) (r1 : Bool) (r2 : Int) (r3 : Int) (r4 : Int) (r5 : Int) (r6 : Int) (r7 : Int) (r8 : Int) (r9 : Int) (r10 : Int) (r11 : Int) (r12 : Int) (w : World) (hG : Go.Proofs.YtdaionnpgcdkdaaDoor.GLW w) (h : barrier_Enrol.f a0_0 a0_1 a0_2 a0_3 a0_4 a0_5 a0_6 a0_7 a0_8 a0_9 a0_10 a1 = some (r1, r2, r3, r4, r5, r6, r7, r8, r9, r10, r11, r12)) :
    Calls Tryd.prog 33 #[.agg #[.bool a0_0, .int .i64 a0_1, .int .u64 a0_2, .int .u64 a0_3, .int .u64 a0_4, .int .u64 a0_5, .int .u64 a0_6, .int .u64 a0_7, .int .u64 a0_8, .int .u64 a0_9, .int .i64 a0_10], .int .i64 a1] w fun e w' => e = .returned (.tuple #[.agg #[.bool r1, .int .i64 r2, .int .u64 r3, .int .u64 r4, .int .u64 r5, .int .u64 r6, .int .u64 r7, .int .u64 r8, .int .u64 r9, .int .u64 r10, .int .i64 r11], .int .i64 r12]) ∧ Below w.heap.size w w' := by
  have hu51 := Tryd.underlying51
  have hu28 := Tryd.underlying28
  have HB := Aside0.mk (Below.refl w.heap.size w)
  have H : ((barrier_Fine.f a0_0 a0_1 a0_2 a0_3 a0_4 a0_5 a0_6 a0_7 a0_8 a0_9 a0_10).bind fun t150 => (if t150 = true then ((roll_Enrol.f a0_2 a0_3 a0_4 a0_5 a0_6 a0_7 a0_8 a0_9 a1).bind fun bt151 => ((barrier_Bar_with.f a0_0 a0_1 a0_2 a0_3 a0_4 a0_5 a0_6 a0_7 a0_8 a0_9 a0_10 bt151.1 bt151.2.1 bt151.2.2.1 bt151.2.2.2.1 bt151.2.2.2.2.1 bt151.2.2.2.2.2.1 bt151.2.2.2.2.2.2.1 bt151.2.2.2.2.2.2.2.1 bt151.2.2.2.2.2.2.2.2).bind fun bt160 => (some (bt160.1, bt160.2.1, bt160.2.2.1, bt160.2.2.2.1, bt160.2.2.2.2.1, bt160.2.2.2.2.2.1, bt160.2.2.2.2.2.2.1, bt160.2.2.2.2.2.2.2.1, bt160.2.2.2.2.2.2.2.2.1, bt160.2.2.2.2.2.2.2.2.2.1, bt160.2.2.2.2.2.2.2.2.2.2.1, bt160.2.2.2.2.2.2.2.2.2.2.2)))) else (some (a0_0, a0_1, a0_2, a0_3, a0_4, a0_5, a0_6, a0_7, a0_8, a0_9, a0_10, 1)))) = some (r1, r2, r3, r4, r5, r6, r7, r8, r9, r10, r11, r12) := h
  clear h
  replace H := Option.bind_eq_some_iff.mp H
  obtain ⟨t150, A30, H⟩ := H
  replace H : (if t150 = true then ((roll_Enrol.f a0_2 a0_3 a0_4 a0_5 a0_6 a0_7 a0_8 a0_9 a1).bind fun bt151 => ((barrier_Bar_with.f a0_0 a0_1 a0_2 a0_3 a0_4 a0_5 a0_6 a0_7 a0_8 a0_9 a0_10 bt151.1 bt151.2.1 bt151.2.2.1 bt151.2.2.2.1 bt151.2.2.2.2.1 bt151.2.2.2.2.2.1 bt151.2.2.2.2.2.2.1 bt151.2.2.2.2.2.2.2.1 bt151.2.2.2.2.2.2.2.2).bind fun bt160 => (some (bt160.1, bt160.2.1, bt160.2.2.1, bt160.2.2.2.1, bt160.2.2.2.2.1, bt160.2.2.2.2.2.1, bt160.2.2.2.2.2.2.1, bt160.2.2.2.2.2.2.2.1, bt160.2.2.2.2.2.2.2.2.1, bt160.2.2.2.2.2.2.2.2.2.1, bt160.2.2.2.2.2.2.2.2.2.2.1, bt160.2.2.2.2.2.2.2.2.2.2.2)))) else (some (a0_0, a0_1, a0_2, a0_3, a0_4, a0_5, a0_6, a0_7, a0_8, a0_9, a0_10, 1))) = some (r1, r2, r3, r4, r5, r6, r7, r8, r9, r10, r11, r12) := H
  have A3 := Aside0.mk A30
  clear A30
  by_cases c4 : t150 = true
  · subst c4
    have H1 : ((roll_Enrol.f a0_2 a0_3 a0_4 a0_5 a0_6 a0_7 a0_8 a0_9 a1).bind fun bt151 => ((barrier_Bar_with.f a0_0 a0_1 a0_2 a0_3 a0_4 a0_5 a0_6 a0_7 a0_8 a0_9 a0_10 bt151.1 bt151.2.1 bt151.2.2.1 bt151.2.2.2.1 bt151.2.2.2.2.1 bt151.2.2.2.2.2.1 bt151.2.2.2.2.2.2.1 bt151.2.2.2.2.2.2.2.1 bt151.2.2.2.2.2.2.2.2).bind fun bt160 => (some (bt160.1, bt160.2.1, bt160.2.2.1, bt160.2.2.2.1, bt160.2.2.2.2.1, bt160.2.2.2.2.2.1, bt160.2.2.2.2.2.2.1, bt160.2.2.2.2.2.2.2.1, bt160.2.2.2.2.2.2.2.2.1, bt160.2.2.2.2.2.2.2.2.2.1, bt160.2.2.2.2.2.2.2.2.2.2.1, bt160.2.2.2.2.2.2.2.2.2.2.2)))) = some (r1, r2, r3, r4, r5, r6, r7, r8, r9, r10, r11, r12) := by rw [if_pos rfl] at H; exact H
    clear H
    have H := H1
    clear H1
    replace H := Option.bind_eq_some_iff.mp H
    obtain ⟨⟨t151, t152, t153, t154, t155, t156, t157, t158, t159⟩, A50, H⟩ := H
    replace H : ((barrier_Bar_with.f a0_0 a0_1 a0_2 a0_3 a0_4 a0_5 a0_6 a0_7 a0_8 a0_9 a0_10 t151 t152 t153 t154 t155 t156 t157 t158 t159).bind fun bt160 => (some (bt160.1, bt160.2.1, bt160.2.2.1, bt160.2.2.2.1, bt160.2.2.2.2.1, bt160.2.2.2.2.2.1, bt160.2.2.2.2.2.2.1, bt160.2.2.2.2.2.2.2.1, bt160.2.2.2.2.2.2.2.2.1, bt160.2.2.2.2.2.2.2.2.2.1, bt160.2.2.2.2.2.2.2.2.2.2.1, bt160.2.2.2.2.2.2.2.2.2.2.2))) = some (r1, r2, r3, r4, r5, r6, r7, r8, r9, r10, r11, r12) := H
    have A5 := Aside0.mk A50
    clear A50
    replace H := Option.bind_eq_some_iff.mp H
    obtain ⟨⟨t160, t161, t162, t163, t164, t165, t166, t167, t168, t169, t170, t171⟩, A60, H⟩ := H
    replace H : (some (t160, t161, t162, t163, t164, t165, t166, t167, t168, t169, t170, t171)) = some (r1, r2, r3, r4, r5, r6, r7, r8, r9, r10, r11, r12) := H
    have A6 := Aside0.mk A60
    clear A60
    simp only [Option.some.injEq, Prod.mk.injEq] at H
    obtain ⟨rfl, rfl, rfl, rfl, rfl, rfl, rfl, rfl, rfl, rfl, rfl, rfl⟩ := H
    go_enter Tryd.func33, Tryd.ntmps33
    try go_wp2_with (first | ((with_reducible refine gate_dst (N := 2) rfl ?_); refine box_event ?hg (N := 2) ?hd (cs := #[.bool a0_0, .int .i64 a0_1, .int .u64 a0_2, .int .u64 a0_3, .int .u64 a0_4, .int .u64 a0_5, .int .u64 a0_6, .int .u64 a0_7, .int .u64 a0_8, .int .u64 a0_9, .int .i64 a0_10]) (t := 51) ?hr ?_; (case hd => rfl); (case hg => rfl); (case hr => first | (go_simp; done) | (go_simp; rfl)); intro gb148 hg w7 hbox hb; have BK148 := Aside0.mk (hbox); have GW148 := Aside0.mk ((by rw [hg]; exact (below_size (by exact HB.out)) : w.heap.size ≤ gb148)); have GE148 := Aside0.mk ((by rw [hg]; exact (below_size (by exact HB.out)) : w.heap.size ≤ gb148)); replace HB := Aside0.mk (below_step (by exact HB.out) hb); clear hb hbox hg) | ((with_reducible refine gate_dst (N := 4) rfl ?_); refine box_event ?hg (N := 4) ?hd (cs := #[.bool false, .int .i64 0, .int .u64 0, .int .u64 0, .int .u64 0, .int .u64 0, .int .u64 0, .int .u64 0, .int .u64 0, .int .u64 0, .int .i64 0]) (t := 51) ?hr ?_; (case hd => rfl); (case hg => rfl); (case hr => first | (go_simp; done) | (go_simp; rfl)); intro gb149 hg w8 hbox hb; have BK149 := Aside0.mk (hbox); have GW149 := Aside0.mk ((by rw [hg]; exact (below_size (by exact HB.out)) : w.heap.size ≤ gb149)); have GE149 := Aside0.mk ((by rw [hg]; exact (below_size (by exact HB.out)) : w.heap.size ≤ gb149)); replace HB := Aside0.mk (below_step (by exact HB.out) hb); have NB148_149 := Aside0.mk ((by rw [hg]; exact Nat.ne_of_lt (blk_lt BK148.out) : gb148 ≠ gb149)); have NB149_148 := Aside0.mk ((by rw [hg]; exact Nat.ne_of_gt (blk_lt BK148.out) : gb149 ≠ gb148)); replace BK148 := Aside0.mk (blk_below BK148.out hb); clear hb hbox hg; have hnb9 := NB148_149.out; have hnc9 := NB149_148.out; have hcz10_0 : w8.cell? ⟨gb148, 0, none⟩ = some (.bool a0_0) := (blk_cell BK148.out 0).trans rfl; have hcz10_1 : w8.cell? ⟨gb148, 1, none⟩ = some (.int .i64 a0_1) := (blk_cell BK148.out 1).trans rfl; have hcz10_2 : w8.cell? ⟨gb148, 2, none⟩ = some (.int .u64 a0_2) := (blk_cell BK148.out 2).trans rfl; have hcz10_3 : w8.cell? ⟨gb148, 3, none⟩ = some (.int .u64 a0_3) := (blk_cell BK148.out 3).trans rfl; have hcz10_4 : w8.cell? ⟨gb148, 4, none⟩ = some (.int .u64 a0_4) := (blk_cell BK148.out 4).trans rfl; have hcz10_5 : w8.cell? ⟨gb148, 5, none⟩ = some (.int .u64 a0_5) := (blk_cell BK148.out 5).trans rfl; have hcz10_6 : w8.cell? ⟨gb148, 6, none⟩ = some (.int .u64 a0_6) := (blk_cell BK148.out 6).trans rfl; have hcz10_7 : w8.cell? ⟨gb148, 7, none⟩ = some (.int .u64 a0_7) := (blk_cell BK148.out 7).trans rfl; have hcz10_8 : w8.cell? ⟨gb148, 8, none⟩ = some (.int .u64 a0_8) := (blk_cell BK148.out 8).trans rfl; have hcz10_9 : w8.cell? ⟨gb148, 9, none⟩ = some (.int .u64 a0_9) := (blk_cell BK148.out 9).trans rfl; have hcz10_10 : w8.cell? ⟨gb148, 10, none⟩ = some (.int .i64 a0_10) := (blk_cell BK148.out 10).trans rfl; have hfz10_0 := blk_frozen BK148.out 0; have hfz10_1 := blk_frozen BK148.out 1; have hfz10_2 := blk_frozen BK148.out 2; have hfz10_3 := blk_frozen BK148.out 3; have hfz10_4 := blk_frozen BK148.out 4; have hfz10_5 := blk_frozen BK148.out 5; have hfz10_6 := blk_frozen BK148.out 6; have hfz10_7 := blk_frozen BK148.out 7; have hfz10_8 := blk_frozen BK148.out 8; have hfz10_9 := blk_frozen BK148.out 9; have hfz10_10 := blk_frozen BK148.out 10) | ((with_reducible refine gate_callee (f := 41) rfl ?_); refine goesL_ (some 7) rfl rfl Tryd.func41 (by kernel_rfl) rfl #[.agg #[.bool a0_0, .int .i64 a0_1, .int .u64 a0_2, .int .u64 a0_3, .int .u64 a0_4, .int .u64 a0_5, .int .u64 a0_6, .int .u64 a0_7, .int .u64 a0_8, .int .u64 a0_9, .int .i64 a0_10]] rfl (by (try simp only [List.map_toArray, List.map_cons, List.map_nil]); first | done | rfl | (simp only [List.length_drop, List.length_take]; rfl)) ?_; (with_reducible refine (barrier_Fine.calls a0_0 a0_1 a0_2 a0_3 a0_4 a0_5 a0_6 a0_7 a0_8 a0_9 a0_10 true _ ?side1 A3.out).mono ?_); (case side1 => exact Go.Proofs.YtdaionnpgcdkdaaDoor.GLW.below hG (by exact HB.out)); rintro e w11 ⟨rfl, hb⟩; refine ⟨_, rfl, ?_⟩; replace BK148 := Aside0.mk (blk_below BK148.out hb); replace BK149 := Aside0.mk (blk_below BK149.out hb); replace HB := Aside0.mk (below_step (by exact HB.out) hb); (try clear hb); (try clear hb2); (try clear hk); (try clear hi)))
    replace BK148 := Aside0.mk (blk_drew BK148.out)
    replace BK149 := Aside0.mk (blk_drew BK149.out)
    replace HB := Aside0.mk (below_drew1 HB.out)
    refine start_ (n := 12) (S := fun w' => w'.cell? ⟨gb148, 0, none⟩ = some (.bool a0_0) ∧ w'.cell? ⟨gb148, 1, none⟩ = some (.int .i64 a0_1) ∧ w'.cell? ⟨gb148, 2, none⟩ = some (.int .u64 a0_2) ∧ w'.cell? ⟨gb148, 3, none⟩ = some (.int .u64 a0_3) ∧ w'.cell? ⟨gb148, 4, none⟩ = some (.int .u64 a0_4) ∧ w'.cell? ⟨gb148, 5, none⟩ = some (.int .u64 a0_5) ∧ w'.cell? ⟨gb148, 6, none⟩ = some (.int .u64 a0_6) ∧ w'.cell? ⟨gb148, 7, none⟩ = some (.int .u64 a0_7) ∧ w'.cell? ⟨gb148, 8, none⟩ = some (.int .u64 a0_8) ∧ w'.cell? ⟨gb148, 9, none⟩ = some (.int .u64 a0_9) ∧ w'.cell? ⟨gb148, 10, none⟩ = some (.int .i64 a0_10)) (ds := []) #[false, false, false, false, false, false, false, false, false, false, false, false] (by kernel_rfl) rfl rfl ⟨(blk_cell BK148.out 0).trans rfl, (blk_cell BK148.out 1).trans rfl, (blk_cell BK148.out 2).trans rfl, (blk_cell BK148.out 3).trans rfl, (blk_cell BK148.out 4).trans rfl, (blk_cell BK148.out 5).trans rfl, (blk_cell BK148.out 6).trans rfl, (blk_cell BK148.out 7).trans rfl, (blk_cell BK148.out 8).trans rfl, (blk_cell BK148.out 9).trans rfl, (blk_cell BK148.out 10).trans rfl⟩ (fun hHeld => ?_); refine with_tabW barrier_Enrol.tab3 barrier_Enrol.bits3 (fun HT_ HW_ => ?_)
    generalize w11.drew = w12 at BK148 BK149 HB hHeld ⊢
    refine pure_ (i := 1) (N := some 11) (v := ?_) (a' := ?_) #[false, true, false, false, false, false, false, false, false, false, false, false] rfl rfl (any_of HT_.out (by kernel_rfl)) (fun _ _ _ h => h) (Or.inl ⟨by rfl, ?_⟩) ?_ ?_
    rotate_left
    · intro w'
      go_simp
      with_reducible rfl
    rotate_left
    · simp only [Act.put, List.setIfInBounds_toArray, List.set_cons_zero, List.set_cons_succ, i64_w, i32_w]
      rfl
    refine pure_ (i := 3) (N := some 13) (v := ?_) (a' := ?_) #[false, true, false, true, false, false, false, false, false, false, false, false] rfl rfl (any_of HT_.out (by kernel_rfl)) (fun _ _ _ h => h) (Or.inl ⟨by rfl, ?_⟩) ?_ ?_
    rotate_left
    · intro w'
      go_simp
      with_reducible rfl
    rotate_left
    · simp only [Act.put, List.setIfInBounds_toArray, List.set_cons_zero, List.set_cons_succ, i64_w, i32_w]
      rfl
    refine take_ (i := 0) (N := some 10) (v := ?_) (a' := ?_) #[true, true, false, true, false, false, false, false, false, false, false, false] rfl rfl (take_ofW HT_.out HW_.out (by kernel_rfl)) (fun _ _ _ h => h) (Or.inl ⟨by rfl, ?_⟩) hHeld ?_ ?_
    rotate_left
    · rintro w' ⟨s0, s1, s2, s3, s4, s5, s6, s7, s8, s9, s10⟩
      go_simp
      with_reducible rfl
    rotate_left
    · simp only [Act.put, List.setIfInBounds_toArray, List.set_cons_zero, List.set_cons_succ, i64_w, i32_w]
      rfl
    refine take_ (i := 2) (N := some 12) (v := ?_) (a' := ?_) #[true, true, true, true, false, false, false, false, false, false, false, false] rfl rfl (take_ofW HT_.out HW_.out (by kernel_rfl)) (fun _ _ _ h => h) (Or.inl ⟨by rfl, ?_⟩) hHeld ?_ ?_
    rotate_left
    · rintro w' ⟨s0, s1, s2, s3, s4, s5, s6, s7, s8, s9, s10⟩
      go_simp
      with_reducible rfl
    rotate_left
    · simp only [Act.put, List.setIfInBounds_toArray, List.set_cons_zero, List.set_cons_succ, i64_w, i32_w]
      rfl
    refine one_ (i := 4) (N := some 14) #[true, true, true, true, true, false, false, false, false, false, false, false] rfl rfl (one_of HT_.out (by kernel_rfl)) (by decide) (fun K hK => ?_)
    refine goes_ Tryd.func12 (by kernel_rfl) rfl #[.agg #[.int .u64 a0_2, .int .u64 a0_3, .int .u64 a0_4, .int .u64 a0_5, .int .u64 a0_6, .int .u64 a0_7, .int .u64 a0_8, .int .u64 a0_9], .int .i64 a1] (by rfl) rfl rfl (by (try simp only [List.map_toArray, List.map_cons, List.map_nil]); first | done | rfl | (simp only [List.length_drop, List.length_take]; rfl)) ?_
    with_reducible refine (roll_Enrol.calls a0_2 a0_3 a0_4 a0_5 a0_6 a0_7 a0_8 a0_9 a1 t151 t152 t153 t154 t155 t156 t157 t158 t159 _ ?side1 A5.out).mono ?_
    (case side1 => exact Go.Proofs.YtdaionnpgcdkdaaDoor.GLW.below hG (by exact HB.out))
    rintro e w13 ⟨rfl, hb⟩
    refine ⟨_, rfl, ?_⟩
    replace BK148 := Aside0.mk (blk_below BK148.out hb)
    replace BK149 := Aside0.mk (blk_below BK149.out hb)
    replace HB := Aside0.mk (below_step (by exact HB.out) hb)
    (try clear hb)
    (try clear hb2)
    (try clear hk)
    (try clear hi)
    refine hK.out _ _ ⟨(blk_cell BK148.out 0).trans rfl, (blk_cell BK148.out 1).trans rfl, (blk_cell BK148.out 2).trans rfl, (blk_cell BK148.out 3).trans rfl, (blk_cell BK148.out 4).trans rfl, (blk_cell BK148.out 5).trans rfl, (blk_cell BK148.out 6).trans rfl, (blk_cell BK148.out 7).trans rfl, (blk_cell BK148.out 8).trans rfl, (blk_cell BK148.out 9).trans rfl, (blk_cell BK148.out 10).trans rfl⟩ (fun hHeld => ?_)
    clear hK K
    refine norm_ (a' := ?_) ?_ ?_
    rotate_left
    · show Act.put _ (some 14) _ = _
      simp only [Act.put, List.setIfInBounds_toArray, List.set_cons_zero, List.set_cons_succ, i64_w, i32_w]
      rfl
    refine pure_ (i := 5) (N := some 15) (v := ?_) (a' := ?_) #[true, true, true, true, true, true, false, false, false, false, false, false] rfl rfl (any_of HT_.out (by kernel_rfl)) (fun _ _ _ h => h) (Or.inl ⟨by rfl, ?_⟩) ?_ ?_
    rotate_left
    · intro w'
      go_simp
      with_reducible rfl
    rotate_left
    · simp only [Act.put, List.setIfInBounds_toArray, List.set_cons_zero, List.set_cons_succ, i64_w, i32_w]
      rfl
    refine pure_ (i := 6) (N := some 16) (v := ?_) (a' := ?_) #[true, true, true, true, true, true, true, false, false, false, false, false] rfl rfl (any_of HT_.out (by kernel_rfl)) (fun _ _ _ h => h) (Or.inl ⟨by rfl, ?_⟩) ?_ ?_
    rotate_left
    · intro w'
      go_simp
      with_reducible rfl
    rotate_left
    · simp only [Act.put, List.setIfInBounds_toArray, List.set_cons_zero, List.set_cons_succ, i64_w, i32_w]
      rfl
    refine one_ (i := 7) (N := some 17) #[true, true, true, true, true, true, true, true, false, false, false, false] rfl rfl (one_of HT_.out (by kernel_rfl)) (by decide) (fun K hK => ?_)
    refine goes_ Tryd.func82 (by kernel_rfl) rfl #[.agg #[.bool a0_0, .int .i64 a0_1, .int .u64 a0_2, .int .u64 a0_3, .int .u64 a0_4, .int .u64 a0_5, .int .u64 a0_6, .int .u64 a0_7, .int .u64 a0_8, .int .u64 a0_9, .int .i64 a0_10], .agg #[.int .u64 t151, .int .u64 t152, .int .u64 t153, .int .u64 t154, .int .u64 t155, .int .u64 t156, .int .u64 t157, .int .u64 t158], .int .i64 t159] (by rfl) rfl rfl (by (try simp only [List.map_toArray, List.map_cons, List.map_nil]); first | done | rfl | (simp only [List.length_drop, List.length_take]; rfl)) ?_
    with_reducible refine (barrier_Bar_with.calls a0_0 a0_1 a0_2 a0_3 a0_4 a0_5 a0_6 a0_7 a0_8 a0_9 a0_10 t151 t152 t153 t154 t155 t156 t157 t158 t159 t160 t161 t162 t163 t164 t165 t166 t167 t168 t169 t170 t171 _ A6.out).mono ?_
    rintro e w14 ⟨rfl, hb⟩
    refine ⟨_, rfl, ?_⟩
    replace BK148 := Aside0.mk (blk_below BK148.out hb)
    replace BK149 := Aside0.mk (blk_below BK149.out hb)
    replace HB := Aside0.mk (below_step (by exact HB.out) hb)
    (try clear hb)
    (try clear hb2)
    (try clear hk)
    (try clear hi)
    refine hK.out _ _ ⟨(blk_cell BK148.out 0).trans rfl, (blk_cell BK148.out 1).trans rfl, (blk_cell BK148.out 2).trans rfl, (blk_cell BK148.out 3).trans rfl, (blk_cell BK148.out 4).trans rfl, (blk_cell BK148.out 5).trans rfl, (blk_cell BK148.out 6).trans rfl, (blk_cell BK148.out 7).trans rfl, (blk_cell BK148.out 8).trans rfl, (blk_cell BK148.out 9).trans rfl, (blk_cell BK148.out 10).trans rfl⟩ (fun hHeld => ?_)
    clear hK K
    refine norm_ (a' := ?_) ?_ ?_
    rotate_left
    · show Act.put _ (some 17) _ = _
      simp only [Act.put, List.setIfInBounds_toArray, List.set_cons_zero, List.set_cons_succ, i64_w, i32_w]
      rfl
    refine pure_ (i := 8) (N := some 18) (v := ?_) (a' := ?_) #[true, true, true, true, true, true, true, true, true, false, false, false] rfl rfl (any_of HT_.out (by kernel_rfl)) (fun _ _ _ h => h) (Or.inl ⟨by rfl, ?_⟩) ?_ ?_
    rotate_left
    · intro w'
      go_simp
      with_reducible rfl
    rotate_left
    · simp only [Act.put, List.setIfInBounds_toArray, List.set_cons_zero, List.set_cons_succ, i64_w, i32_w]
      rfl
    refine pure_ (i := 9) (N := some 19) (v := ?_) (a' := ?_) #[true, true, true, true, true, true, true, true, true, true, false, false] rfl rfl (any_of HT_.out (by kernel_rfl)) (fun _ _ _ h => h) (Or.inl ⟨by rfl, ?_⟩) ?_ ?_
    rotate_left
    · intro w'
      go_simp
      with_reducible rfl
    rotate_left
    · simp only [Act.put, List.setIfInBounds_toArray, List.set_cons_zero, List.set_cons_succ, i64_w, i32_w]
      rfl
    refine one_ (i := 10) (N := none) #[true, true, true, true, true, true, true, true, true, true, true, false] rfl rfl (one_of HT_.out (by kernel_rfl)) (by decide) (fun K hK => ?_)
    have hs15 : w14.cell? ⟨gb149, 0, none⟩ = some (.bool false) := (blk_cell BK149.out 0).trans rfl
    have hfs15 := blk_frozen BK149.out 0
    have hns15_0 := NB148_149.out
    have hms15_0 := NB149_148.out
    have hs16 : w14.cell? ⟨gb149, 1, none⟩ = some (.int .i64 0) := (blk_cell BK149.out 1).trans rfl
    have hfs16 := blk_frozen BK149.out 1
    have hns16_0 := NB148_149.out
    have hms16_0 := NB149_148.out
    have hs17 : w14.cell? ⟨gb149, 2, none⟩ = some (.int .u64 0) := (blk_cell BK149.out 2).trans rfl
    have hfs17 := blk_frozen BK149.out 2
    have hns17_0 := NB148_149.out
    have hms17_0 := NB149_148.out
    have hs18 : w14.cell? ⟨gb149, 3, none⟩ = some (.int .u64 0) := (blk_cell BK149.out 3).trans rfl
    have hfs18 := blk_frozen BK149.out 3
    have hns18_0 := NB148_149.out
    have hms18_0 := NB149_148.out
    have hs19 : w14.cell? ⟨gb149, 4, none⟩ = some (.int .u64 0) := (blk_cell BK149.out 4).trans rfl
    have hfs19 := blk_frozen BK149.out 4
    have hns19_0 := NB148_149.out
    have hms19_0 := NB149_148.out
    have hs20 : w14.cell? ⟨gb149, 5, none⟩ = some (.int .u64 0) := (blk_cell BK149.out 5).trans rfl
    have hfs20 := blk_frozen BK149.out 5
    have hns20_0 := NB148_149.out
    have hms20_0 := NB149_148.out
    have hs21 : w14.cell? ⟨gb149, 6, none⟩ = some (.int .u64 0) := (blk_cell BK149.out 6).trans rfl
    have hfs21 := blk_frozen BK149.out 6
    have hns21_0 := NB148_149.out
    have hms21_0 := NB149_148.out
    have hs22 : w14.cell? ⟨gb149, 7, none⟩ = some (.int .u64 0) := (blk_cell BK149.out 7).trans rfl
    have hfs22 := blk_frozen BK149.out 7
    have hns22_0 := NB148_149.out
    have hms22_0 := NB149_148.out
    have hs23 : w14.cell? ⟨gb149, 8, none⟩ = some (.int .u64 0) := (blk_cell BK149.out 8).trans rfl
    have hfs23 := blk_frozen BK149.out 8
    have hns23_0 := NB148_149.out
    have hms23_0 := NB149_148.out
    have hs24 : w14.cell? ⟨gb149, 9, none⟩ = some (.int .u64 0) := (blk_cell BK149.out 9).trans rfl
    have hfs24 := blk_frozen BK149.out 9
    have hns24_0 := NB148_149.out
    have hms24_0 := NB149_148.out
    have hs25 : w14.cell? ⟨gb149, 10, none⟩ = some (.int .i64 0) := (blk_cell BK149.out 10).trans rfl
    have hfs25 := blk_frozen BK149.out 10
    have hns25_0 := NB148_149.out
    have hms25_0 := NB149_148.out
    refine skip_ (w1 := ?_) (by rfl) rfl ?_ ?_
    rotate_left
    · go_simp
      rfl
    refine hK.out _ _ ⟨((cell_far (p := ⟨gb149, _, none⟩) NB148_149.out _).trans (((cell_far (p := ⟨gb149, _, none⟩) NB148_149.out _).trans (((cell_far (p := ⟨gb149, _, none⟩) NB148_149.out _).trans (((cell_far (p := ⟨gb149, _, none⟩) NB148_149.out _).trans (((cell_far (p := ⟨gb149, _, none⟩) NB148_149.out _).trans (((cell_far (p := ⟨gb149, _, none⟩) NB148_149.out _).trans (((cell_far (p := ⟨gb149, _, none⟩) NB148_149.out _).trans (((cell_far (p := ⟨gb149, _, none⟩) NB148_149.out _).trans (((cell_far (p := ⟨gb149, _, none⟩) NB148_149.out _).trans (((cell_far (p := ⟨gb149, _, none⟩) NB148_149.out _).trans (((cell_far (p := ⟨gb149, _, none⟩) NB148_149.out _).trans (hHeld.1)))))))))))))))))))))), ((cell_far (p := ⟨gb149, _, none⟩) NB148_149.out _).trans (((cell_far (p := ⟨gb149, _, none⟩) NB148_149.out _).trans (((cell_far (p := ⟨gb149, _, none⟩) NB148_149.out _).trans (((cell_far (p := ⟨gb149, _, none⟩) NB148_149.out _).trans (((cell_far (p := ⟨gb149, _, none⟩) NB148_149.out _).trans (((cell_far (p := ⟨gb149, _, none⟩) NB148_149.out _).trans (((cell_far (p := ⟨gb149, _, none⟩) NB148_149.out _).trans (((cell_far (p := ⟨gb149, _, none⟩) NB148_149.out _).trans (((cell_far (p := ⟨gb149, _, none⟩) NB148_149.out _).trans (((cell_far (p := ⟨gb149, _, none⟩) NB148_149.out _).trans (((cell_far (p := ⟨gb149, _, none⟩) NB148_149.out _).trans (hHeld.2.1)))))))))))))))))))))), ((cell_far (p := ⟨gb149, _, none⟩) NB148_149.out _).trans (((cell_far (p := ⟨gb149, _, none⟩) NB148_149.out _).trans (((cell_far (p := ⟨gb149, _, none⟩) NB148_149.out _).trans (((cell_far (p := ⟨gb149, _, none⟩) NB148_149.out _).trans (((cell_far (p := ⟨gb149, _, none⟩) NB148_149.out _).trans (((cell_far (p := ⟨gb149, _, none⟩) NB148_149.out _).trans (((cell_far (p := ⟨gb149, _, none⟩) NB148_149.out _).trans (((cell_far (p := ⟨gb149, _, none⟩) NB148_149.out _).trans (((cell_far (p := ⟨gb149, _, none⟩) NB148_149.out _).trans (((cell_far (p := ⟨gb149, _, none⟩) NB148_149.out _).trans (((cell_far (p := ⟨gb149, _, none⟩) NB148_149.out _).trans (hHeld.2.2.1)))))))))))))))))))))), ((cell_far (p := ⟨gb149, _, none⟩) NB148_149.out _).trans (((cell_far (p := ⟨gb149, _, none⟩) NB148_149.out _).trans (((cell_far (p := ⟨gb149, _, none⟩) NB148_149.out _).trans (((cell_far (p := ⟨gb149, _, none⟩) NB148_149.out _).trans (((cell_far (p := ⟨gb149, _, none⟩) NB148_149.out _).trans (((cell_far (p := ⟨gb149, _, none⟩) NB148_149.out _).trans (((cell_far (p := ⟨gb149, _, none⟩) NB148_149.out _).trans (((cell_far (p := ⟨gb149, _, none⟩) NB148_149.out _).trans (((cell_far (p := ⟨gb149, _, none⟩) NB148_149.out _).trans (((cell_far (p := ⟨gb149, _, none⟩) NB148_149.out _).trans (((cell_far (p := ⟨gb149, _, none⟩) NB148_149.out _).trans (hHeld.2.2.2.1)))))))))))))))))))))), ((cell_far (p := ⟨gb149, _, none⟩) NB148_149.out _).trans (((cell_far (p := ⟨gb149, _, none⟩) NB148_149.out _).trans (((cell_far (p := ⟨gb149, _, none⟩) NB148_149.out _).trans (((cell_far (p := ⟨gb149, _, none⟩) NB148_149.out _).trans (((cell_far (p := ⟨gb149, _, none⟩) NB148_149.out _).trans (((cell_far (p := ⟨gb149, _, none⟩) NB148_149.out _).trans (((cell_far (p := ⟨gb149, _, none⟩) NB148_149.out _).trans (((cell_far (p := ⟨gb149, _, none⟩) NB148_149.out _).trans (((cell_far (p := ⟨gb149, _, none⟩) NB148_149.out _).trans (((cell_far (p := ⟨gb149, _, none⟩) NB148_149.out _).trans (((cell_far (p := ⟨gb149, _, none⟩) NB148_149.out _).trans (hHeld.2.2.2.2.1)))))))))))))))))))))), ((cell_far (p := ⟨gb149, _, none⟩) NB148_149.out _).trans (((cell_far (p := ⟨gb149, _, none⟩) NB148_149.out _).trans (((cell_far (p := ⟨gb149, _, none⟩) NB148_149.out _).trans (((cell_far (p := ⟨gb149, _, none⟩) NB148_149.out _).trans (((cell_far (p := ⟨gb149, _, none⟩) NB148_149.out _).trans (((cell_far (p := ⟨gb149, _, none⟩) NB148_149.out _).trans (((cell_far (p := ⟨gb149, _, none⟩) NB148_149.out _).trans (((cell_far (p := ⟨gb149, _, none⟩) NB148_149.out _).trans (((cell_far (p := ⟨gb149, _, none⟩) NB148_149.out _).trans (((cell_far (p := ⟨gb149, _, none⟩) NB148_149.out _).trans (((cell_far (p := ⟨gb149, _, none⟩) NB148_149.out _).trans (hHeld.2.2.2.2.2.1)))))))))))))))))))))), ((cell_far (p := ⟨gb149, _, none⟩) NB148_149.out _).trans (((cell_far (p := ⟨gb149, _, none⟩) NB148_149.out _).trans (((cell_far (p := ⟨gb149, _, none⟩) NB148_149.out _).trans (((cell_far (p := ⟨gb149, _, none⟩) NB148_149.out _).trans (((cell_far (p := ⟨gb149, _, none⟩) NB148_149.out _).trans (((cell_far (p := ⟨gb149, _, none⟩) NB148_149.out _).trans (((cell_far (p := ⟨gb149, _, none⟩) NB148_149.out _).trans (((cell_far (p := ⟨gb149, _, none⟩) NB148_149.out _).trans (((cell_far (p := ⟨gb149, _, none⟩) NB148_149.out _).trans (((cell_far (p := ⟨gb149, _, none⟩) NB148_149.out _).trans (((cell_far (p := ⟨gb149, _, none⟩) NB148_149.out _).trans (hHeld.2.2.2.2.2.2.1)))))))))))))))))))))), ((cell_far (p := ⟨gb149, _, none⟩) NB148_149.out _).trans (((cell_far (p := ⟨gb149, _, none⟩) NB148_149.out _).trans (((cell_far (p := ⟨gb149, _, none⟩) NB148_149.out _).trans (((cell_far (p := ⟨gb149, _, none⟩) NB148_149.out _).trans (((cell_far (p := ⟨gb149, _, none⟩) NB148_149.out _).trans (((cell_far (p := ⟨gb149, _, none⟩) NB148_149.out _).trans (((cell_far (p := ⟨gb149, _, none⟩) NB148_149.out _).trans (((cell_far (p := ⟨gb149, _, none⟩) NB148_149.out _).trans (((cell_far (p := ⟨gb149, _, none⟩) NB148_149.out _).trans (((cell_far (p := ⟨gb149, _, none⟩) NB148_149.out _).trans (((cell_far (p := ⟨gb149, _, none⟩) NB148_149.out _).trans (hHeld.2.2.2.2.2.2.2.1)))))))))))))))))))))), ((cell_far (p := ⟨gb149, _, none⟩) NB148_149.out _).trans (((cell_far (p := ⟨gb149, _, none⟩) NB148_149.out _).trans (((cell_far (p := ⟨gb149, _, none⟩) NB148_149.out _).trans (((cell_far (p := ⟨gb149, _, none⟩) NB148_149.out _).trans (((cell_far (p := ⟨gb149, _, none⟩) NB148_149.out _).trans (((cell_far (p := ⟨gb149, _, none⟩) NB148_149.out _).trans (((cell_far (p := ⟨gb149, _, none⟩) NB148_149.out _).trans (((cell_far (p := ⟨gb149, _, none⟩) NB148_149.out _).trans (((cell_far (p := ⟨gb149, _, none⟩) NB148_149.out _).trans (((cell_far (p := ⟨gb149, _, none⟩) NB148_149.out _).trans (((cell_far (p := ⟨gb149, _, none⟩) NB148_149.out _).trans (hHeld.2.2.2.2.2.2.2.2.1)))))))))))))))))))))), ((cell_far (p := ⟨gb149, _, none⟩) NB148_149.out _).trans (((cell_far (p := ⟨gb149, _, none⟩) NB148_149.out _).trans (((cell_far (p := ⟨gb149, _, none⟩) NB148_149.out _).trans (((cell_far (p := ⟨gb149, _, none⟩) NB148_149.out _).trans (((cell_far (p := ⟨gb149, _, none⟩) NB148_149.out _).trans (((cell_far (p := ⟨gb149, _, none⟩) NB148_149.out _).trans (((cell_far (p := ⟨gb149, _, none⟩) NB148_149.out _).trans (((cell_far (p := ⟨gb149, _, none⟩) NB148_149.out _).trans (((cell_far (p := ⟨gb149, _, none⟩) NB148_149.out _).trans (((cell_far (p := ⟨gb149, _, none⟩) NB148_149.out _).trans (((cell_far (p := ⟨gb149, _, none⟩) NB148_149.out _).trans (hHeld.2.2.2.2.2.2.2.2.2.1)))))))))))))))))))))), ((cell_far (p := ⟨gb149, _, none⟩) NB148_149.out _).trans (((cell_far (p := ⟨gb149, _, none⟩) NB148_149.out _).trans (((cell_far (p := ⟨gb149, _, none⟩) NB148_149.out _).trans (((cell_far (p := ⟨gb149, _, none⟩) NB148_149.out _).trans (((cell_far (p := ⟨gb149, _, none⟩) NB148_149.out _).trans (((cell_far (p := ⟨gb149, _, none⟩) NB148_149.out _).trans (((cell_far (p := ⟨gb149, _, none⟩) NB148_149.out _).trans (((cell_far (p := ⟨gb149, _, none⟩) NB148_149.out _).trans (((cell_far (p := ⟨gb149, _, none⟩) NB148_149.out _).trans (((cell_far (p := ⟨gb149, _, none⟩) NB148_149.out _).trans (((cell_far (p := ⟨gb149, _, none⟩) NB148_149.out _).trans (hHeld.2.2.2.2.2.2.2.2.2.2))))))))))))))))))))))⟩ (fun hHeld => ?_)
    clear hK K
    refine pure_ (i := 11) (N := some 5) (v := ?_) (a' := ?_) #[true, true, true, true, true, true, true, true, true, true, true, true] rfl rfl (any_of HT_.out (by kernel_rfl)) (fun _ _ _ h => h) (Or.inl ⟨by rfl, ?_⟩) ?_ ?_
    rotate_left
    · intro w'
      go_simp
      with_reducible rfl
    rotate_left
    · simp only [Act.put, List.setIfInBounds_toArray, List.set_cons_zero, List.set_cons_succ, i64_w, i32_w]
      rfl
    refine done_ (done_of HT_.out (by kernel_rfl)) ?_
    try go_wp2
    refine bodyPost_ret (results_ct rfl _ _ gb149 51 #[.bool t160, .int .i64 t161, .int .u64 t162, .int .u64 t163, .int .u64 t164, .int .u64 t165, .int .u64 t166, .int .u64 t167, .int .u64 t168, .int .u64 t169, .int .i64 t170] (0, 0) _ rfl (by apply pt51_0_11; exact BK149.out) Tryd.underlying51 rfl (by kernel_rfl)) rfl ?_
    exact ⟨by first | rfl | (simp [errW_none, errW_some] <;> rfl) | (simp [*, errW_none, errW_some] <;> rfl), by repeat (first | (with_reducible first | exact HB.out | apply below_alloc | apply pw_below_drewN | apply below_drew1 | refine below_set ?_ GE148.out | refine below_set ?_ GE149.out) | exact HB.out)⟩
  · replace c4 := Bool.eq_false_iff.mpr c4
    subst c4
    have H1 : (some (a0_0, a0_1, a0_2, a0_3, a0_4, a0_5, a0_6, a0_7, a0_8, a0_9, a0_10, 1)) = some (r1, r2, r3, r4, r5, r6, r7, r8, r9, r10, r11, r12) := by rw [if_neg (show ¬ (false = true) by decide)] at H; exact H
    clear H
    have H := H1
    clear H1
    simp only [Option.some.injEq, Prod.mk.injEq] at H
    obtain ⟨rfl, rfl, rfl, rfl, rfl, rfl, rfl, rfl, rfl, rfl, rfl, rfl⟩ := H
    go_enter Tryd.func33, Tryd.ntmps33
    go_wp2_with (first | ((with_reducible refine gate_dst (N := 2) rfl ?_); refine box_event ?hg (N := 2) ?hd (cs := #[.bool a0_0, .int .i64 a0_1, .int .u64 a0_2, .int .u64 a0_3, .int .u64 a0_4, .int .u64 a0_5, .int .u64 a0_6, .int .u64 a0_7, .int .u64 a0_8, .int .u64 a0_9, .int .i64 a0_10]) (t := 51) ?hr ?_; (case hd => rfl); (case hg => rfl); (case hr => first | (go_simp; done) | (go_simp; rfl)); intro gb148 hg w26 hbox hb; have BK148 := Aside0.mk (hbox); have GW148 := Aside0.mk ((by rw [hg]; exact (below_size (by exact HB.out)) : w.heap.size ≤ gb148)); have GE148 := Aside0.mk ((by rw [hg]; exact (below_size (by exact HB.out)) : w.heap.size ≤ gb148)); replace HB := Aside0.mk (below_step (by exact HB.out) hb); clear hb hbox hg) | ((with_reducible refine gate_dst (N := 4) rfl ?_); refine box_event ?hg (N := 4) ?hd (cs := #[.bool false, .int .i64 0, .int .u64 0, .int .u64 0, .int .u64 0, .int .u64 0, .int .u64 0, .int .u64 0, .int .u64 0, .int .u64 0, .int .i64 0]) (t := 51) ?hr ?_; (case hd => rfl); (case hg => rfl); (case hr => first | (go_simp; done) | (go_simp; rfl)); intro gb149 hg w27 hbox hb; have BK149 := Aside0.mk (hbox); have GW149 := Aside0.mk ((by rw [hg]; exact (below_size (by exact HB.out)) : w.heap.size ≤ gb149)); have GE149 := Aside0.mk ((by rw [hg]; exact (below_size (by exact HB.out)) : w.heap.size ≤ gb149)); replace HB := Aside0.mk (below_step (by exact HB.out) hb); have NB148_149 := Aside0.mk ((by rw [hg]; exact Nat.ne_of_lt (blk_lt BK148.out) : gb148 ≠ gb149)); have NB149_148 := Aside0.mk ((by rw [hg]; exact Nat.ne_of_gt (blk_lt BK148.out) : gb149 ≠ gb148)); replace BK148 := Aside0.mk (blk_below BK148.out hb); clear hb hbox hg; have hnb28 := NB148_149.out; have hnc28 := NB149_148.out; have hcz29_0 : w27.cell? ⟨gb148, 0, none⟩ = some (.bool a0_0) := (blk_cell BK148.out 0).trans rfl; have hcz29_1 : w27.cell? ⟨gb148, 1, none⟩ = some (.int .i64 a0_1) := (blk_cell BK148.out 1).trans rfl; have hcz29_2 : w27.cell? ⟨gb148, 2, none⟩ = some (.int .u64 a0_2) := (blk_cell BK148.out 2).trans rfl; have hcz29_3 : w27.cell? ⟨gb148, 3, none⟩ = some (.int .u64 a0_3) := (blk_cell BK148.out 3).trans rfl; have hcz29_4 : w27.cell? ⟨gb148, 4, none⟩ = some (.int .u64 a0_4) := (blk_cell BK148.out 4).trans rfl; have hcz29_5 : w27.cell? ⟨gb148, 5, none⟩ = some (.int .u64 a0_5) := (blk_cell BK148.out 5).trans rfl; have hcz29_6 : w27.cell? ⟨gb148, 6, none⟩ = some (.int .u64 a0_6) := (blk_cell BK148.out 6).trans rfl; have hcz29_7 : w27.cell? ⟨gb148, 7, none⟩ = some (.int .u64 a0_7) := (blk_cell BK148.out 7).trans rfl; have hcz29_8 : w27.cell? ⟨gb148, 8, none⟩ = some (.int .u64 a0_8) := (blk_cell BK148.out 8).trans rfl; have hcz29_9 : w27.cell? ⟨gb148, 9, none⟩ = some (.int .u64 a0_9) := (blk_cell BK148.out 9).trans rfl; have hcz29_10 : w27.cell? ⟨gb148, 10, none⟩ = some (.int .i64 a0_10) := (blk_cell BK148.out 10).trans rfl; have hfz29_0 := blk_frozen BK148.out 0; have hfz29_1 := blk_frozen BK148.out 1; have hfz29_2 := blk_frozen BK148.out 2; have hfz29_3 := blk_frozen BK148.out 3; have hfz29_4 := blk_frozen BK148.out 4; have hfz29_5 := blk_frozen BK148.out 5; have hfz29_6 := blk_frozen BK148.out 6; have hfz29_7 := blk_frozen BK148.out 7; have hfz29_8 := blk_frozen BK148.out 8; have hfz29_9 := blk_frozen BK148.out 9; have hfz29_10 := blk_frozen BK148.out 10) | ((with_reducible refine gate_callee (f := 41) rfl ?_); refine goesL_ (some 7) rfl rfl Tryd.func41 (by kernel_rfl) rfl #[.agg #[.bool a0_0, .int .i64 a0_1, .int .u64 a0_2, .int .u64 a0_3, .int .u64 a0_4, .int .u64 a0_5, .int .u64 a0_6, .int .u64 a0_7, .int .u64 a0_8, .int .u64 a0_9, .int .i64 a0_10]] rfl (by (try simp only [List.map_toArray, List.map_cons, List.map_nil]); first | done | rfl | (simp only [List.length_drop, List.length_take]; rfl)) ?_; (with_reducible refine (barrier_Fine.calls a0_0 a0_1 a0_2 a0_3 a0_4 a0_5 a0_6 a0_7 a0_8 a0_9 a0_10 false _ ?side1 A3.out).mono ?_); (case side1 => exact Go.Proofs.YtdaionnpgcdkdaaDoor.GLW.below hG (by exact HB.out)); rintro e w30 ⟨rfl, hb⟩; refine ⟨_, rfl, ?_⟩; replace BK148 := Aside0.mk (blk_below BK148.out hb); replace BK149 := Aside0.mk (blk_below BK149.out hb); replace HB := Aside0.mk (below_step (by exact HB.out) hb); (try clear hb); (try clear hb2); (try clear hk); (try clear hi); have hcz31_0 : w30.cell? ⟨gb148, 0, none⟩ = some (.bool a0_0) := (blk_cell BK148.out 0).trans rfl; have hcz31_1 : w30.cell? ⟨gb148, 1, none⟩ = some (.int .i64 a0_1) := (blk_cell BK148.out 1).trans rfl; have hcz31_2 : w30.cell? ⟨gb148, 2, none⟩ = some (.int .u64 a0_2) := (blk_cell BK148.out 2).trans rfl; have hcz31_3 : w30.cell? ⟨gb148, 3, none⟩ = some (.int .u64 a0_3) := (blk_cell BK148.out 3).trans rfl; have hcz31_4 : w30.cell? ⟨gb148, 4, none⟩ = some (.int .u64 a0_4) := (blk_cell BK148.out 4).trans rfl; have hcz31_5 : w30.cell? ⟨gb148, 5, none⟩ = some (.int .u64 a0_5) := (blk_cell BK148.out 5).trans rfl; have hcz31_6 : w30.cell? ⟨gb148, 6, none⟩ = some (.int .u64 a0_6) := (blk_cell BK148.out 6).trans rfl; have hcz31_7 : w30.cell? ⟨gb148, 7, none⟩ = some (.int .u64 a0_7) := (blk_cell BK148.out 7).trans rfl; have hcz31_8 : w30.cell? ⟨gb148, 8, none⟩ = some (.int .u64 a0_8) := (blk_cell BK148.out 8).trans rfl; have hcz31_9 : w30.cell? ⟨gb148, 9, none⟩ = some (.int .u64 a0_9) := (blk_cell BK148.out 9).trans rfl; have hcz31_10 : w30.cell? ⟨gb148, 10, none⟩ = some (.int .i64 a0_10) := (blk_cell BK148.out 10).trans rfl; have hfz31_0 := blk_frozen BK148.out 0; have hfz31_1 := blk_frozen BK148.out 1; have hfz31_2 := blk_frozen BK148.out 2; have hfz31_3 := blk_frozen BK148.out 3; have hfz31_4 := blk_frozen BK148.out 4; have hfz31_5 := blk_frozen BK148.out 5; have hfz31_6 := blk_frozen BK148.out 6; have hfz31_7 := blk_frozen BK148.out 7; have hfz31_8 := blk_frozen BK148.out 8; have hfz31_9 := blk_frozen BK148.out 9; have hfz31_10 := blk_frozen BK148.out 10; have hcz32_0 : w30.cell? ⟨gb149, 0, none⟩ = some (.bool false) := (blk_cell BK149.out 0).trans rfl; have hcz32_1 : w30.cell? ⟨gb149, 1, none⟩ = some (.int .i64 0) := (blk_cell BK149.out 1).trans rfl; have hcz32_2 : w30.cell? ⟨gb149, 2, none⟩ = some (.int .u64 0) := (blk_cell BK149.out 2).trans rfl; have hcz32_3 : w30.cell? ⟨gb149, 3, none⟩ = some (.int .u64 0) := (blk_cell BK149.out 3).trans rfl; have hcz32_4 : w30.cell? ⟨gb149, 4, none⟩ = some (.int .u64 0) := (blk_cell BK149.out 4).trans rfl; have hcz32_5 : w30.cell? ⟨gb149, 5, none⟩ = some (.int .u64 0) := (blk_cell BK149.out 5).trans rfl; have hcz32_6 : w30.cell? ⟨gb149, 6, none⟩ = some (.int .u64 0) := (blk_cell BK149.out 6).trans rfl; have hcz32_7 : w30.cell? ⟨gb149, 7, none⟩ = some (.int .u64 0) := (blk_cell BK149.out 7).trans rfl; have hcz32_8 : w30.cell? ⟨gb149, 8, none⟩ = some (.int .u64 0) := (blk_cell BK149.out 8).trans rfl; have hcz32_9 : w30.cell? ⟨gb149, 9, none⟩ = some (.int .u64 0) := (blk_cell BK149.out 9).trans rfl; have hcz32_10 : w30.cell? ⟨gb149, 10, none⟩ = some (.int .i64 0) := (blk_cell BK149.out 10).trans rfl; have hfz32_0 := blk_frozen BK149.out 0; have hfz32_1 := blk_frozen BK149.out 1; have hfz32_2 := blk_frozen BK149.out 2; have hfz32_3 := blk_frozen BK149.out 3; have hfz32_4 := blk_frozen BK149.out 4; have hfz32_5 := blk_frozen BK149.out 5; have hfz32_6 := blk_frozen BK149.out 6; have hfz32_7 := blk_frozen BK149.out 7; have hfz32_8 := blk_frozen BK149.out 8; have hfz32_9 := blk_frozen BK149.out 9; have hfz32_10 := blk_frozen BK149.out 10))
    refine bodyPost_ret (results_ct rfl _ _ gb149 51 #[.bool a0_0, .int .i64 a0_1, .int .u64 a0_2, .int .u64 a0_3, .int .u64 a0_4, .int .u64 a0_5, .int .u64 a0_6, .int .u64 a0_7, .int .u64 a0_8, .int .u64 a0_9, .int .i64 a0_10] (0, 0) _ rfl (by apply pt51_0_11; exact BK149.out) Tryd.underlying51 rfl (by kernel_rfl)) rfl ?_
    exact ⟨by first | rfl | (simp [errW_none, errW_some] <;> rfl) | (simp [*, errW_none, errW_some] <;> rfl), by repeat (first | (with_reducible first | exact HB.out | apply below_alloc | apply pw_below_drewN | apply below_drew1 | refine below_set ?_ GE148.out | refine below_set ?_ GE149.out) | exact HB.out)⟩

/-! ### roll_Offer: function 14 -/
def roll_Offer.f (a0_0 : Int) (a0_1 : Int) (a0_2 : Int) (a0_3 : Int) (a0_4 : Int) (a0_5 : Int) (a0_6 : Int) (a0_7 : Int) (a1 : Int) : Option (Int × Int × Int × Int × Int × Int × Int × Int × Int) := if Go.Proofs.YtdaionnpgcdkdaaDoor.okS a0_0 a0_1 a0_2 a0_3 && Go.Proofs.YtdaionnpgcdkdaaDoor.okS a0_4 a0_5 a0_6 a0_7 then some (Go.Proofs.YtdaionnpgcdkdaaDoor.tupR (Go.Proofs.YtdaionnpgcdkdaaDoor.offerR (Go.Proofs.YtdaionnpgcdkdaaDoor.natS a0_0 a0_1 a0_2 a0_3) (Go.Proofs.YtdaionnpgcdkdaaDoor.natS a0_4 a0_5 a0_6 a0_7) a1)) else none
theorem roll_Offer.calls (a0_0 : Int) (a0_1 : Int) (a0_2 : Int) (a0_3 : Int) (a0_4 : Int) (a0_5 : Int) (a0_6 : Int) (a0_7 : Int) (a1 : Int) (r1 : Int) (r2 : Int) (r3 : Int) (r4 : Int) (r5 : Int) (r6 : Int) (r7 : Int) (r8 : Int) (r9 : Int) (w : World) (hG : Go.Proofs.YtdaionnpgcdkdaaDoor.GLW w) (h : roll_Offer.f a0_0 a0_1 a0_2 a0_3 a0_4 a0_5 a0_6 a0_7 a1 = some (r1, r2, r3, r4, r5, r6, r7, r8, r9)) :
    Calls Tryd.prog 14 #[.agg #[.int .u64 a0_0, .int .u64 a0_1, .int .u64 a0_2, .int .u64 a0_3, .int .u64 a0_4, .int .u64 a0_5, .int .u64 a0_6, .int .u64 a0_7], .int .i64 a1] w fun e w' => e = .returned (.tuple #[.agg #[.int .u64 r1, .int .u64 r2, .int .u64 r3, .int .u64 r4, .int .u64 r5, .int .u64 r6, .int .u64 r7, .int .u64 r8], .int .i64 r9]) ∧ Below w.heap.size w w' := by
  unfold roll_Offer.f at h
  split at h
  · rename_i hk
    rw [Bool.and_eq_true] at hk
    simp only [Go.Proofs.YtdaionnpgcdkdaaDoor.tupR, Option.some.injEq, Prod.mk.injEq] at h
    obtain ⟨rfl, rfl, rfl, rfl, rfl, rfl, rfl, rfl, rfl⟩ := h
    exact Go.Proofs.YtdaionnpgcdkdaaDoor.offer_words hk.1 hk.2 a1 w hG.out
  · cases h

/-! ### barrier_Offer: function 37 -/
def barrier_Offer.j0 : Nat → Int → Bool → Bool → Int → Int → Int → Int → Int → Int → Int → Int → Int → Int → Option (Bool × Int × Int × Int × Int × Int × Int × Int × Int × Int × Int × Int)
  | 0, _, _, _, _, _, _, _, _, _, _, _, _, _ => none
  | k + 1, x1, x13, x173000, x173001, x173002, x173003, x173004, x173005, x173006, x173007, x173008, x173009, x173010 => if x13 = true then (some (x173000, x173001, x173002, x173003, x173004, x173005, x173006, x173007, x173008, x173009, x173010, 12)) else ((phase_Left.f x173010 x173001).bind fun t175 => (if t175 = 0 then (some (x173000, x173001, x173002, x173003, x173004, x173005, x173006, x173007, x173008, x173009, x173010, 14)) else ((roll_Offer.f x173002 x173003 x173004 x173005 x173006 x173007 x173008 x173009 x1).bind fun bt176 => ((barrier_Bar_with.f x173000 x173001 x173002 x173003 x173004 x173005 x173006 x173007 x173008 x173009 x173010 bt176.1 bt176.2.1 bt176.2.2.1 bt176.2.2.2.1 bt176.2.2.2.2.1 bt176.2.2.2.2.2.1 bt176.2.2.2.2.2.2.1 bt176.2.2.2.2.2.2.2.1 bt176.2.2.2.2.2.2.2.2).bind fun bt185 => (some (bt185.1, bt185.2.1, bt185.2.2.1, bt185.2.2.2.1, bt185.2.2.2.2.1, bt185.2.2.2.2.2.1, bt185.2.2.2.2.2.2.1, bt185.2.2.2.2.2.2.2.1, bt185.2.2.2.2.2.2.2.2.1, bt185.2.2.2.2.2.2.2.2.2.1, bt185.2.2.2.2.2.2.2.2.2.2.1, bt185.2.2.2.2.2.2.2.2.2.2.2))))))
def barrier_Offer.f (k : Nat) (a0_0 : Bool) (a0_1 : Int) (a0_2 : Int) (a0_3 : Int) (a0_4 : Int) (a0_5 : Int) (a0_6 : Int) (a0_7 : Int) (a0_8 : Int) (a0_9 : Int) (a0_10 : Int) (a1 : Int) (a2 : Bool) : Option (Bool × Int × Int × Int × Int × Int × Int × Int × Int × Int × Int × Int) := (barrier_Fine.f a0_0 a0_1 a0_2 a0_3 a0_4 a0_5 a0_6 a0_7 a0_8 a0_9 a0_10).bind fun t174 => (if t174 = true then (if a2 = true then (barrier_Offer.j0 k a1 (!a0_0) a0_0 a0_1 a0_2 a0_3 a0_4 a0_5 a0_6 a0_7 a0_8 a0_9 a0_10) else (barrier_Offer.j0 k a1 false a0_0 a0_1 a0_2 a0_3 a0_4 a0_5 a0_6 a0_7 a0_8 a0_9 a0_10)) else (some (a0_0, a0_1, a0_2, a0_3, a0_4, a0_5, a0_6, a0_7, a0_8, a0_9, a0_10, 1)))
theorem barrier_Offer.mono_l : ∀ k, (∀ y0 y1 y2 y3 y4 y5 y6 y7 y8 y9 y10 y11 y12, LeO (barrier_Offer.j0 k y0 y1 y2 y3 y4 y5 y6 y7 y8 y9 y10 y11 y12) (barrier_Offer.j0 (k + 1) y0 y1 y2 y3 y4 y5 y6 y7 y8 y9 y10 y11 y12))
  | 0 => fun _ _ _ _ _ _ _ _ _ _ _ _ _ r h => by simp [barrier_Offer.j0] at h
  | k + 1 => by
    have ih0 := barrier_Offer.mono_l k
    · intro y0 y1 y2 y3 y4 y5 y6 y7 y8 y9 y10 y11 y12
      unfold barrier_Offer.j0
      repeat' first
      | (with_reducible exact ih0 _ _ _ _ _ _ _ _ _ _ _ _ _)
      | (with_reducible exact LeO.refl _)
      | (with_reducible exact LeO.none _)
      | (with_reducible refine LeO.ite ?_ ?_)
      | (with_reducible refine LeO.bind ?_ (fun _ => ?_))
      | exact ih0 _ _ _ _ _ _ _ _ _ _ _ _ _
      | exact LeO.none _
      | refine LeO.ite ?_ ?_
      | refine LeO.bind ?_ (fun _ => ?_)
theorem barrier_Offer.mono : ∀ a0 a1 a2 a3 a4 a5 a6 a7 a8 a9 a10 a11 a12 k, LeO (barrier_Offer.f k a0 a1 a2 a3 a4 a5 a6 a7 a8 a9 a10 a11 a12) (barrier_Offer.f (k + 1) a0 a1 a2 a3 a4 a5 a6 a7 a8 a9 a10 a11 a12) := by
  intro a0 a1 a2 a3 a4 a5 a6 a7 a8 a9 a10 a11 a12 k
  have ih0 := barrier_Offer.mono_l k
  unfold barrier_Offer.f
  repeat' first
      | (with_reducible exact ih0 _ _ _ _ _ _ _ _ _ _ _ _ _)
      | (with_reducible exact LeO.refl _)
      | (with_reducible exact LeO.none _)
      | (with_reducible refine LeO.ite ?_ ?_)
      | (with_reducible refine LeO.bind ?_ (fun _ => ?_))
      | exact ih0 _ _ _ _ _ _ _ _ _ _ _ _ _
      | exact LeO.none _
      | refine LeO.ite ?_ ?_
      | refine LeO.bind ?_ (fun _ => ?_)
def barrier_Offer.T7 : Bool × List (List Nat × List Nat) := (true, [([], []), ([], []), ([1], [1]), ([], []), ([2, 3], [2, 3]), ([4], [4]), ([4], [4]), ([0, 5, 6, 4], [0, 5, 6]), ([7], [7]), ([7], [7]), ([8, 7, 0, 1, 2, 3, 4, 5, 6, 7, 8, 9], [8]), ([9, 10, 0, 1, 2, 3, 4, 5, 6, 7, 8, 9, 10], [9])])
def barrier_Offer.B7 : List Nat := [0, 0, 2, 0, 14, 30, 30, 127, 255, 255, 1023, 2047]
theorem barrier_Offer.tab7 : rtab .any (opsOf Tryd.f37 7) = barrier_Offer.T7 := by kernel_rfl
theorem barrier_Offer.bits7 : waitsOk barrier_Offer.T7.2 barrier_Offer.B7 = true := by kernel_rfl
set_option maxHeartbeats 8000000 in
set_option maxRecDepth 100000 in
theorem barrier_Offer.calls (k : Nat) (a0_0 : Bool) (a0_1 : Int) (a0_2 : Int) (a0_3 : Int) (a0_4 : Int) (a0_5 : Int) (a0_6 : Int) (a0_7 : Int) (a0_8 : Int) (a0_9 : Int) (a0_10 : Int) (a1 : Int) (a2 : Bool) (r1 : Bool) (r2 : Int) (r3 : Int) (r4 : Int) (r5 : Int) (r6 : Int) (r7 : Int) (r8 : Int) (r9 : Int) (r10 : Int) (r11 : Int) (r12 : Int) (w : World) (hG : Go.Proofs.YtdaionnpgcdkdaaDoor.GLW w) (h : barrier_Offer.f k a0_0 a0_1 a0_2 a0_3 a0_4 a0_5 a0_6 a0_7 a0_8 a0_9 a0_10 a1 a2 = some (r1, r2, r3, r4, r5, r6, r7, r8, r9, r10, r11, r12)) :
    Calls Tryd.prog 37 #[.agg #[.bool a0_0, .int .i64 a0_1, .int .u64 a0_2, .int .u64 a0_3, .int .u64 a0_4, .int .u64 a0_5, .int .u64 a0_6, .int .u64 a0_7, .int .u64 a0_8, .int .u64 a0_9, .int .i64 a0_10], .int .i64 a1, .bool a2] w fun e w' => e = .returned (.tuple #[.agg #[.bool r1, .int .i64 r2, .int .u64 r3, .int .u64 r4, .int .u64 r5, .int .u64 r6, .int .u64 r7, .int .u64 r8, .int .u64 r9, .int .u64 r10, .int .i64 r11], .int .i64 r12]) ∧ Below w.heap.size w w' := by
  have hu51 := Tryd.underlying51
  have hu28 := Tryd.underlying28
  have HB := Aside0.mk (Below.refl w.heap.size w)
  have H : ((barrier_Fine.f a0_0 a0_1 a0_2 a0_3 a0_4 a0_5 a0_6 a0_7 a0_8 a0_9 a0_10).bind fun t174 => (if t174 = true then (if a2 = true then (barrier_Offer.j0 k a1 (!a0_0) a0_0 a0_1 a0_2 a0_3 a0_4 a0_5 a0_6 a0_7 a0_8 a0_9 a0_10) else (barrier_Offer.j0 k a1 false a0_0 a0_1 a0_2 a0_3 a0_4 a0_5 a0_6 a0_7 a0_8 a0_9 a0_10)) else (some (a0_0, a0_1, a0_2, a0_3, a0_4, a0_5, a0_6, a0_7, a0_8, a0_9, a0_10, 1)))) = some (r1, r2, r3, r4, r5, r6, r7, r8, r9, r10, r11, r12) := h
  clear h
  replace H := Option.bind_eq_some_iff.mp H
  obtain ⟨t174, A40, H⟩ := H
  replace H : (if t174 = true then (if a2 = true then (barrier_Offer.j0 k a1 (!a0_0) a0_0 a0_1 a0_2 a0_3 a0_4 a0_5 a0_6 a0_7 a0_8 a0_9 a0_10) else (barrier_Offer.j0 k a1 false a0_0 a0_1 a0_2 a0_3 a0_4 a0_5 a0_6 a0_7 a0_8 a0_9 a0_10)) else (some (a0_0, a0_1, a0_2, a0_3, a0_4, a0_5, a0_6, a0_7, a0_8, a0_9, a0_10, 1))) = some (r1, r2, r3, r4, r5, r6, r7, r8, r9, r10, r11, r12) := H
  have A4 := Aside0.mk A40
  clear A40
  by_cases c5 : t174 = true
  · subst c5
    have H1 : (if a2 = true then (barrier_Offer.j0 k a1 (!a0_0) a0_0 a0_1 a0_2 a0_3 a0_4 a0_5 a0_6 a0_7 a0_8 a0_9 a0_10) else (barrier_Offer.j0 k a1 false a0_0 a0_1 a0_2 a0_3 a0_4 a0_5 a0_6 a0_7 a0_8 a0_9 a0_10)) = some (r1, r2, r3, r4, r5, r6, r7, r8, r9, r10, r11, r12) := by rw [if_pos rfl] at H; exact H
    clear H
    have H := H1
    clear H1
    have HC6 := Aside0.mk H
    clear H
    go_enter Tryd.func37, Tryd.ntmps37
    go_upto_region 3 with (first | ((with_reducible refine gate_dst (N := 3) rfl ?_); refine box_event ?hg (N := 3) ?hd (cs := #[.bool a0_0, .int .i64 a0_1, .int .u64 a0_2, .int .u64 a0_3, .int .u64 a0_4, .int .u64 a0_5, .int .u64 a0_6, .int .u64 a0_7, .int .u64 a0_8, .int .u64 a0_9, .int .i64 a0_10]) (t := 51) ?hr ?_; (case hd => rfl); (case hg => rfl); (case hr => first | (go_simp; done) | (go_simp; rfl)); intro gb172 hg w7 hbox hb; have BK172 := Aside0.mk (hbox); have GW172 := Aside0.mk ((by rw [hg]; exact (below_size (by exact HB.out)) : w.heap.size ≤ gb172)); have GE172 := Aside0.mk ((by rw [hg]; exact (below_size (by exact HB.out)) : w.heap.size ≤ gb172)); replace HB := Aside0.mk (below_step (by exact HB.out) hb); clear hb hbox hg) | ((with_reducible refine gate_dst (N := 6) rfl ?_); refine box_event ?hg (N := 6) ?hd (cs := #[.bool false, .int .i64 0, .int .u64 0, .int .u64 0, .int .u64 0, .int .u64 0, .int .u64 0, .int .u64 0, .int .u64 0, .int .u64 0, .int .i64 0]) (t := 51) ?hr ?_; (case hd => rfl); (case hg => rfl); (case hr => first | (go_simp; done) | (go_simp; rfl)); intro gb173 hg w8 hbox hb; have BK173 := Aside0.mk (hbox); have GW173 := Aside0.mk ((by rw [hg]; exact (below_size (by exact HB.out)) : w.heap.size ≤ gb173)); have GE173 := Aside0.mk ((by rw [hg]; exact (below_size (by exact HB.out)) : w.heap.size ≤ gb173)); replace HB := Aside0.mk (below_step (by exact HB.out) hb); have NB172_173 := Aside0.mk ((by rw [hg]; exact Nat.ne_of_lt (blk_lt BK172.out) : gb172 ≠ gb173)); have NB173_172 := Aside0.mk ((by rw [hg]; exact Nat.ne_of_gt (blk_lt BK172.out) : gb173 ≠ gb172)); replace BK172 := Aside0.mk (blk_below BK172.out hb); clear hb hbox hg; have hnb9 := NB172_173.out; have hnc9 := NB173_172.out; have hcz10_0 : w8.cell? ⟨gb172, 0, none⟩ = some (.bool a0_0) := (blk_cell BK172.out 0).trans rfl; have hcz10_1 : w8.cell? ⟨gb172, 1, none⟩ = some (.int .i64 a0_1) := (blk_cell BK172.out 1).trans rfl; have hcz10_2 : w8.cell? ⟨gb172, 2, none⟩ = some (.int .u64 a0_2) := (blk_cell BK172.out 2).trans rfl; have hcz10_3 : w8.cell? ⟨gb172, 3, none⟩ = some (.int .u64 a0_3) := (blk_cell BK172.out 3).trans rfl; have hcz10_4 : w8.cell? ⟨gb172, 4, none⟩ = some (.int .u64 a0_4) := (blk_cell BK172.out 4).trans rfl; have hcz10_5 : w8.cell? ⟨gb172, 5, none⟩ = some (.int .u64 a0_5) := (blk_cell BK172.out 5).trans rfl; have hcz10_6 : w8.cell? ⟨gb172, 6, none⟩ = some (.int .u64 a0_6) := (blk_cell BK172.out 6).trans rfl; have hcz10_7 : w8.cell? ⟨gb172, 7, none⟩ = some (.int .u64 a0_7) := (blk_cell BK172.out 7).trans rfl; have hcz10_8 : w8.cell? ⟨gb172, 8, none⟩ = some (.int .u64 a0_8) := (blk_cell BK172.out 8).trans rfl; have hcz10_9 : w8.cell? ⟨gb172, 9, none⟩ = some (.int .u64 a0_9) := (blk_cell BK172.out 9).trans rfl; have hcz10_10 : w8.cell? ⟨gb172, 10, none⟩ = some (.int .i64 a0_10) := (blk_cell BK172.out 10).trans rfl; have hfz10_0 := blk_frozen BK172.out 0; have hfz10_1 := blk_frozen BK172.out 1; have hfz10_2 := blk_frozen BK172.out 2; have hfz10_3 := blk_frozen BK172.out 3; have hfz10_4 := blk_frozen BK172.out 4; have hfz10_5 := blk_frozen BK172.out 5; have hfz10_6 := blk_frozen BK172.out 6; have hfz10_7 := blk_frozen BK172.out 7; have hfz10_8 := blk_frozen BK172.out 8; have hfz10_9 := blk_frozen BK172.out 9; have hfz10_10 := blk_frozen BK172.out 10) | ((with_reducible refine gate_callee (f := 41) rfl ?_); refine goesL_ (some 10) rfl rfl Tryd.func41 (by kernel_rfl) rfl #[.agg #[.bool a0_0, .int .i64 a0_1, .int .u64 a0_2, .int .u64 a0_3, .int .u64 a0_4, .int .u64 a0_5, .int .u64 a0_6, .int .u64 a0_7, .int .u64 a0_8, .int .u64 a0_9, .int .i64 a0_10]] rfl (by (try simp only [List.map_toArray, List.map_cons, List.map_nil]); first | done | rfl | (simp only [List.length_drop, List.length_take]; rfl)) ?_; (with_reducible refine (barrier_Fine.calls a0_0 a0_1 a0_2 a0_3 a0_4 a0_5 a0_6 a0_7 a0_8 a0_9 a0_10 true _ ?side1 A4.out).mono ?_); (case side1 => exact Go.Proofs.YtdaionnpgcdkdaaDoor.GLW.below hG (by exact HB.out)); rintro e w11 ⟨rfl, hb⟩; refine ⟨_, rfl, ?_⟩; replace BK172 := Aside0.mk (blk_below BK172.out hb); replace BK173 := Aside0.mk (blk_below BK173.out hb); replace HB := Aside0.mk (below_step (by exact HB.out) hb); (try clear hb); (try clear hb2); (try clear hk); (try clear hi)))
    (try simp only [Act.put, List.setIfInBounds_toArray, List.set_cons_zero, List.set_cons_succ])
    go_cut [13] (fun v13 wc => ∃ (kq : Nat) (x13_5 : Bool), v13 = .bool x13_5 ∧ Aside0 (barrier_Offer.j0 kq a1 x13_5 a0_0 a0_1 a0_2 a0_3 a0_4 a0_5 a0_6 a0_7 a0_8 a0_9 a0_10 = some (r1, r2, r3, r4, r5, r6, r7, r8, r9, r10, r11, r12)) ∧ Aside0 (kq ≤ k) ∧ Aside0 (wc.heap[gb172]? = some (.cells #[.bool a0_0, .int .i64 a0_1, .int .u64 a0_2, .int .u64 a0_3, .int .u64 a0_4, .int .u64 a0_5, .int .u64 a0_6, .int .u64 a0_7, .int .u64 a0_8, .int .u64 a0_9, .int .i64 a0_10] 51 (0, 0))) ∧ Aside0 (wc.heap[gb173]? = some (.cells #[.bool false, .int .i64 0, .int .u64 0, .int .u64 0, .int .u64 0, .int .u64 0, .int .u64 0, .int .u64 0, .int .u64 0, .int .u64 0, .int .i64 0] 51 (0, 0))) ∧ Aside0 (Below w.heap.size w wc))
    case first =>
      have H := HC6.out
      clear HC6
      by_cases c12 : a2 = true
      · subst c12
        have H1 : (barrier_Offer.j0 k a1 (!a0_0) a0_0 a0_1 a0_2 a0_3 a0_4 a0_5 a0_6 a0_7 a0_8 a0_9 a0_10) = some (r1, r2, r3, r4, r5, r6, r7, r8, r9, r10, r11, r12) := by rw [if_pos rfl] at H; exact H
        clear H
        have H := H1
        clear H1
        have H' := Aside0.mk H
        clear H
        have hnb13 := NB172_173.out
        have hnc13 := NB173_172.out
        have hcz14_0 : w11.cell? ⟨gb172, 0, none⟩ = some (.bool a0_0) := (blk_cell BK172.out 0).trans rfl
        have hcz14_1 : w11.cell? ⟨gb172, 1, none⟩ = some (.int .i64 a0_1) := (blk_cell BK172.out 1).trans rfl
        have hcz14_2 : w11.cell? ⟨gb172, 2, none⟩ = some (.int .u64 a0_2) := (blk_cell BK172.out 2).trans rfl
        have hcz14_3 : w11.cell? ⟨gb172, 3, none⟩ = some (.int .u64 a0_3) := (blk_cell BK172.out 3).trans rfl
        have hcz14_4 : w11.cell? ⟨gb172, 4, none⟩ = some (.int .u64 a0_4) := (blk_cell BK172.out 4).trans rfl
        have hcz14_5 : w11.cell? ⟨gb172, 5, none⟩ = some (.int .u64 a0_5) := (blk_cell BK172.out 5).trans rfl
        have hcz14_6 : w11.cell? ⟨gb172, 6, none⟩ = some (.int .u64 a0_6) := (blk_cell BK172.out 6).trans rfl
        have hcz14_7 : w11.cell? ⟨gb172, 7, none⟩ = some (.int .u64 a0_7) := (blk_cell BK172.out 7).trans rfl
        have hcz14_8 : w11.cell? ⟨gb172, 8, none⟩ = some (.int .u64 a0_8) := (blk_cell BK172.out 8).trans rfl
        have hcz14_9 : w11.cell? ⟨gb172, 9, none⟩ = some (.int .u64 a0_9) := (blk_cell BK172.out 9).trans rfl
        have hcz14_10 : w11.cell? ⟨gb172, 10, none⟩ = some (.int .i64 a0_10) := (blk_cell BK172.out 10).trans rfl
        have hfz14_0 := blk_frozen BK172.out 0
        have hfz14_1 := blk_frozen BK172.out 1
        have hfz14_2 := blk_frozen BK172.out 2
        have hfz14_3 := blk_frozen BK172.out 3
        have hfz14_4 := blk_frozen BK172.out 4
        have hfz14_5 := blk_frozen BK172.out 5
        have hfz14_6 := blk_frozen BK172.out 6
        have hfz14_7 := blk_frozen BK172.out 7
        have hfz14_8 := blk_frozen BK172.out 8
        have hfz14_9 := blk_frozen BK172.out 9
        have hfz14_10 := blk_frozen BK172.out 10
        go_wp2
        go_meet
        case rel => exact ⟨_, (!a0_0), (by first | rfl | (simp; done) | (simp [*]; done)), H', ⟨by first | omega | exact Nat.le_refl _⟩, ⟨by exact BK172.out⟩, ⟨by exact BK173.out⟩, ⟨by exact HB.out⟩⟩
      · replace c12 := Bool.eq_false_iff.mpr c12
        subst c12
        have H1 : (barrier_Offer.j0 k a1 false a0_0 a0_1 a0_2 a0_3 a0_4 a0_5 a0_6 a0_7 a0_8 a0_9 a0_10) = some (r1, r2, r3, r4, r5, r6, r7, r8, r9, r10, r11, r12) := by rw [if_neg (show ¬ (false = true) by decide)] at H; exact H
        clear H
        have H := H1
        clear H1
        have H' := Aside0.mk H
        clear H
        go_wp2
        go_meet
        case rel => exact ⟨_, (false), (by first | rfl | (simp; done) | (simp [*]; done)), H', ⟨by first | omega | exact Nat.le_refl _⟩, ⟨by exact BK172.out⟩, ⟨by exact BK173.out⟩, ⟨by exact HB.out⟩⟩
    case rest =>
      clear HC6
      try clear c1
      try clear p2
      try clear c3
      try clear c4
      try clear c5
      try clear c9
      try clear c12
      try clear c13
      try clear hcz10_0
      try clear hcz10_1
      try clear hcz10_10
      try clear hcz10_2
      try clear hcz10_3
      try clear hcz10_4
      try clear hcz10_5
      try clear hcz10_6
      try clear hcz10_7
      try clear hcz10_8
      try clear hcz10_9
      try clear hcz14_0
      try clear hcz14_1
      try clear hcz14_10
      try clear hcz14_2
      try clear hcz14_3
      try clear hcz14_4
      try clear hcz14_5
      try clear hcz14_6
      try clear hcz14_7
      try clear hcz14_8
      try clear hcz14_9
      try clear hfz10_0
      try clear hfz10_1
      try clear hfz10_10
      try clear hfz10_2
      try clear hfz10_3
      try clear hfz10_4
      try clear hfz10_5
      try clear hfz10_6
      try clear hfz10_7
      try clear hfz10_8
      try clear hfz10_9
      try clear hfz14_0
      try clear hfz14_1
      try clear hfz14_10
      try clear hfz14_2
      try clear hfz14_3
      try clear hfz14_4
      try clear hfz14_5
      try clear hfz14_6
      try clear hfz14_7
      try clear hfz14_8
      try clear hfz14_9
      obtain ⟨kq, x13_5, rfl, HA, HJ5, BK172, BK173, HB⟩ := hcut
      cases kq with
      | zero => exact absurd HA.out (by simp [barrier_Offer.j0])
      | succ kj5 =>
        have H := HA.out
        clear HA
        simp only [barrier_Offer.j0] at H
        by_cases c15 : x13_5 = true
        · subst c15
          have H1 : (some (a0_0, a0_1, a0_2, a0_3, a0_4, a0_5, a0_6, a0_7, a0_8, a0_9, a0_10, 12)) = some (r1, r2, r3, r4, r5, r6, r7, r8, r9, r10, r11, r12) := by rw [if_pos rfl] at H; exact H
          clear H
          have H := H1
          clear H1
          simp only [Option.some.injEq, Prod.mk.injEq] at H
          obtain ⟨rfl, rfl, rfl, rfl, rfl, rfl, rfl, rfl, rfl, rfl, rfl, rfl⟩ := H
          have hnb16 := NB172_173.out
          have hnc16 := NB173_172.out
          have hcz17_0 : wc.cell? ⟨gb172, 0, none⟩ = some (.bool a0_0) := (blk_cell BK172.out 0).trans rfl
          have hcz17_1 : wc.cell? ⟨gb172, 1, none⟩ = some (.int .i64 a0_1) := (blk_cell BK172.out 1).trans rfl
          have hcz17_2 : wc.cell? ⟨gb172, 2, none⟩ = some (.int .u64 a0_2) := (blk_cell BK172.out 2).trans rfl
          have hcz17_3 : wc.cell? ⟨gb172, 3, none⟩ = some (.int .u64 a0_3) := (blk_cell BK172.out 3).trans rfl
          have hcz17_4 : wc.cell? ⟨gb172, 4, none⟩ = some (.int .u64 a0_4) := (blk_cell BK172.out 4).trans rfl
          have hcz17_5 : wc.cell? ⟨gb172, 5, none⟩ = some (.int .u64 a0_5) := (blk_cell BK172.out 5).trans rfl
          have hcz17_6 : wc.cell? ⟨gb172, 6, none⟩ = some (.int .u64 a0_6) := (blk_cell BK172.out 6).trans rfl
          have hcz17_7 : wc.cell? ⟨gb172, 7, none⟩ = some (.int .u64 a0_7) := (blk_cell BK172.out 7).trans rfl
          have hcz17_8 : wc.cell? ⟨gb172, 8, none⟩ = some (.int .u64 a0_8) := (blk_cell BK172.out 8).trans rfl
          have hcz17_9 : wc.cell? ⟨gb172, 9, none⟩ = some (.int .u64 a0_9) := (blk_cell BK172.out 9).trans rfl
          have hcz17_10 : wc.cell? ⟨gb172, 10, none⟩ = some (.int .i64 a0_10) := (blk_cell BK172.out 10).trans rfl
          have hfz17_0 := blk_frozen BK172.out 0
          have hfz17_1 := blk_frozen BK172.out 1
          have hfz17_2 := blk_frozen BK172.out 2
          have hfz17_3 := blk_frozen BK172.out 3
          have hfz17_4 := blk_frozen BK172.out 4
          have hfz17_5 := blk_frozen BK172.out 5
          have hfz17_6 := blk_frozen BK172.out 6
          have hfz17_7 := blk_frozen BK172.out 7
          have hfz17_8 := blk_frozen BK172.out 8
          have hfz17_9 := blk_frozen BK172.out 9
          have hfz17_10 := blk_frozen BK172.out 10
          have hcz18_0 : wc.cell? ⟨gb173, 0, none⟩ = some (.bool false) := (blk_cell BK173.out 0).trans rfl
          have hcz18_1 : wc.cell? ⟨gb173, 1, none⟩ = some (.int .i64 0) := (blk_cell BK173.out 1).trans rfl
          have hcz18_2 : wc.cell? ⟨gb173, 2, none⟩ = some (.int .u64 0) := (blk_cell BK173.out 2).trans rfl
          have hcz18_3 : wc.cell? ⟨gb173, 3, none⟩ = some (.int .u64 0) := (blk_cell BK173.out 3).trans rfl
          have hcz18_4 : wc.cell? ⟨gb173, 4, none⟩ = some (.int .u64 0) := (blk_cell BK173.out 4).trans rfl
          have hcz18_5 : wc.cell? ⟨gb173, 5, none⟩ = some (.int .u64 0) := (blk_cell BK173.out 5).trans rfl
          have hcz18_6 : wc.cell? ⟨gb173, 6, none⟩ = some (.int .u64 0) := (blk_cell BK173.out 6).trans rfl
          have hcz18_7 : wc.cell? ⟨gb173, 7, none⟩ = some (.int .u64 0) := (blk_cell BK173.out 7).trans rfl
          have hcz18_8 : wc.cell? ⟨gb173, 8, none⟩ = some (.int .u64 0) := (blk_cell BK173.out 8).trans rfl
          have hcz18_9 : wc.cell? ⟨gb173, 9, none⟩ = some (.int .u64 0) := (blk_cell BK173.out 9).trans rfl
          have hcz18_10 : wc.cell? ⟨gb173, 10, none⟩ = some (.int .i64 0) := (blk_cell BK173.out 10).trans rfl
          have hfz18_0 := blk_frozen BK173.out 0
          have hfz18_1 := blk_frozen BK173.out 1
          have hfz18_2 := blk_frozen BK173.out 2
          have hfz18_3 := blk_frozen BK173.out 3
          have hfz18_4 := blk_frozen BK173.out 4
          have hfz18_5 := blk_frozen BK173.out 5
          have hfz18_6 := blk_frozen BK173.out 6
          have hfz18_7 := blk_frozen BK173.out 7
          have hfz18_8 := blk_frozen BK173.out 8
          have hfz18_9 := blk_frozen BK173.out 9
          have hfz18_10 := blk_frozen BK173.out 10
          go_wp2
          refine bodyPost_ret (results_ct rfl _ _ gb173 51 #[.bool a0_0, .int .i64 a0_1, .int .u64 a0_2, .int .u64 a0_3, .int .u64 a0_4, .int .u64 a0_5, .int .u64 a0_6, .int .u64 a0_7, .int .u64 a0_8, .int .u64 a0_9, .int .i64 a0_10] (0, 0) _ rfl (by apply pt51_0_11; exact BK173.out) Tryd.underlying51 rfl (by kernel_rfl)) rfl ?_
          exact ⟨by first | rfl | (simp [errW_none, errW_some] <;> rfl) | (simp [*, errW_none, errW_some] <;> rfl), by repeat (first | (with_reducible first | exact HB.out | apply below_alloc | apply pw_below_drewN | apply below_drew1 | refine below_set ?_ GE172.out | refine below_set ?_ GE173.out) | exact HB.out)⟩
        · replace c15 := Bool.eq_false_iff.mpr c15
          subst c15
          have H1 : ((phase_Left.f a0_10 a0_1).bind fun t175 => (if t175 = 0 then (some (a0_0, a0_1, a0_2, a0_3, a0_4, a0_5, a0_6, a0_7, a0_8, a0_9, a0_10, 14)) else ((roll_Offer.f a0_2 a0_3 a0_4 a0_5 a0_6 a0_7 a0_8 a0_9 a1).bind fun bt176 => ((barrier_Bar_with.f a0_0 a0_1 a0_2 a0_3 a0_4 a0_5 a0_6 a0_7 a0_8 a0_9 a0_10 bt176.1 bt176.2.1 bt176.2.2.1 bt176.2.2.2.1 bt176.2.2.2.2.1 bt176.2.2.2.2.2.1 bt176.2.2.2.2.2.2.1 bt176.2.2.2.2.2.2.2.1 bt176.2.2.2.2.2.2.2.2).bind fun bt185 => (some (bt185.1, bt185.2.1, bt185.2.2.1, bt185.2.2.2.1, bt185.2.2.2.2.1, bt185.2.2.2.2.2.1, bt185.2.2.2.2.2.2.1, bt185.2.2.2.2.2.2.2.1, bt185.2.2.2.2.2.2.2.2.1, bt185.2.2.2.2.2.2.2.2.2.1, bt185.2.2.2.2.2.2.2.2.2.2.1, bt185.2.2.2.2.2.2.2.2.2.2.2)))))) = some (r1, r2, r3, r4, r5, r6, r7, r8, r9, r10, r11, r12) := by rw [if_neg (show ¬ (false = true) by decide)] at H; exact H
          clear H
          have H := H1
          clear H1
          replace H := Option.bind_eq_some_iff.mp H
          obtain ⟨t175, A190, H⟩ := H
          replace H : (if t175 = 0 then (some (a0_0, a0_1, a0_2, a0_3, a0_4, a0_5, a0_6, a0_7, a0_8, a0_9, a0_10, 14)) else ((roll_Offer.f a0_2 a0_3 a0_4 a0_5 a0_6 a0_7 a0_8 a0_9 a1).bind fun bt176 => ((barrier_Bar_with.f a0_0 a0_1 a0_2 a0_3 a0_4 a0_5 a0_6 a0_7 a0_8 a0_9 a0_10 bt176.1 bt176.2.1 bt176.2.2.1 bt176.2.2.2.1 bt176.2.2.2.2.1 bt176.2.2.2.2.2.1 bt176.2.2.2.2.2.2.1 bt176.2.2.2.2.2.2.2.1 bt176.2.2.2.2.2.2.2.2).bind fun bt185 => (some (bt185.1, bt185.2.1, bt185.2.2.1, bt185.2.2.2.1, bt185.2.2.2.2.1, bt185.2.2.2.2.2.1, bt185.2.2.2.2.2.2.1, bt185.2.2.2.2.2.2.2.1, bt185.2.2.2.2.2.2.2.2.1, bt185.2.2.2.2.2.2.2.2.2.1, bt185.2.2.2.2.2.2.2.2.2.2.1, bt185.2.2.2.2.2.2.2.2.2.2.2))))) = some (r1, r2, r3, r4, r5, r6, r7, r8, r9, r10, r11, r12) := H
          have A19 := Aside0.mk A190
          clear A190
          by_cases c20 : t175 = 0
          · rw [if_pos c20] at H
            have c20b0 : (t175 == 0) = true := beq_iff_eq.mpr c20
            have c20b1 : (t175 != 0) = false := bne_eq_false_iff_eq.mpr c20
            clear c20
            simp only [Option.some.injEq, Prod.mk.injEq] at H
            obtain ⟨rfl, rfl, rfl, rfl, rfl, rfl, rfl, rfl, rfl, rfl, rfl, rfl⟩ := H
            have hnb21 := NB172_173.out
            have hnc21 := NB173_172.out
            have hcz22_0 : wc.cell? ⟨gb172, 0, none⟩ = some (.bool a0_0) := (blk_cell BK172.out 0).trans rfl
            have hcz22_1 : wc.cell? ⟨gb172, 1, none⟩ = some (.int .i64 a0_1) := (blk_cell BK172.out 1).trans rfl
            have hcz22_2 : wc.cell? ⟨gb172, 2, none⟩ = some (.int .u64 a0_2) := (blk_cell BK172.out 2).trans rfl
            have hcz22_3 : wc.cell? ⟨gb172, 3, none⟩ = some (.int .u64 a0_3) := (blk_cell BK172.out 3).trans rfl
            have hcz22_4 : wc.cell? ⟨gb172, 4, none⟩ = some (.int .u64 a0_4) := (blk_cell BK172.out 4).trans rfl
            have hcz22_5 : wc.cell? ⟨gb172, 5, none⟩ = some (.int .u64 a0_5) := (blk_cell BK172.out 5).trans rfl
            have hcz22_6 : wc.cell? ⟨gb172, 6, none⟩ = some (.int .u64 a0_6) := (blk_cell BK172.out 6).trans rfl
            have hcz22_7 : wc.cell? ⟨gb172, 7, none⟩ = some (.int .u64 a0_7) := (blk_cell BK172.out 7).trans rfl
            have hcz22_8 : wc.cell? ⟨gb172, 8, none⟩ = some (.int .u64 a0_8) := (blk_cell BK172.out 8).trans rfl
            have hcz22_9 : wc.cell? ⟨gb172, 9, none⟩ = some (.int .u64 a0_9) := (blk_cell BK172.out 9).trans rfl
            have hcz22_10 : wc.cell? ⟨gb172, 10, none⟩ = some (.int .i64 a0_10) := (blk_cell BK172.out 10).trans rfl
            have hfz22_0 := blk_frozen BK172.out 0
            have hfz22_1 := blk_frozen BK172.out 1
            have hfz22_2 := blk_frozen BK172.out 2
            have hfz22_3 := blk_frozen BK172.out 3
            have hfz22_4 := blk_frozen BK172.out 4
            have hfz22_5 := blk_frozen BK172.out 5
            have hfz22_6 := blk_frozen BK172.out 6
            have hfz22_7 := blk_frozen BK172.out 7
            have hfz22_8 := blk_frozen BK172.out 8
            have hfz22_9 := blk_frozen BK172.out 9
            have hfz22_10 := blk_frozen BK172.out 10
            go_wp2_with (first | ((with_reducible refine gate_callee (f := 78) rfl ?_); refine goesL_ (some 28) rfl rfl Tryd.func78 (by kernel_rfl) rfl #[.int .i64 a0_10, .int .i64 a0_1] rfl (by (try simp only [List.map_toArray, List.map_cons, List.map_nil]); first | done | rfl | (simp only [List.length_drop, List.length_take]; rfl)) ?_; (with_reducible refine (phase_Left.calls a0_10 a0_1 t175 _ A19.out).mono ?_); rintro e w23 ⟨rfl, hb⟩; refine ⟨_, rfl, ?_⟩; replace BK172 := Aside0.mk (blk_below BK172.out hb); replace BK173 := Aside0.mk (blk_below BK173.out hb); replace HB := Aside0.mk (below_step (by exact HB.out) hb); (try clear hb); (try clear hb2); (try clear hk); (try clear hi); have hcz24_0 : w23.cell? ⟨gb172, 0, none⟩ = some (.bool a0_0) := (blk_cell BK172.out 0).trans rfl; have hcz24_1 : w23.cell? ⟨gb172, 1, none⟩ = some (.int .i64 a0_1) := (blk_cell BK172.out 1).trans rfl; have hcz24_2 : w23.cell? ⟨gb172, 2, none⟩ = some (.int .u64 a0_2) := (blk_cell BK172.out 2).trans rfl; have hcz24_3 : w23.cell? ⟨gb172, 3, none⟩ = some (.int .u64 a0_3) := (blk_cell BK172.out 3).trans rfl; have hcz24_4 : w23.cell? ⟨gb172, 4, none⟩ = some (.int .u64 a0_4) := (blk_cell BK172.out 4).trans rfl; have hcz24_5 : w23.cell? ⟨gb172, 5, none⟩ = some (.int .u64 a0_5) := (blk_cell BK172.out 5).trans rfl; have hcz24_6 : w23.cell? ⟨gb172, 6, none⟩ = some (.int .u64 a0_6) := (blk_cell BK172.out 6).trans rfl; have hcz24_7 : w23.cell? ⟨gb172, 7, none⟩ = some (.int .u64 a0_7) := (blk_cell BK172.out 7).trans rfl; have hcz24_8 : w23.cell? ⟨gb172, 8, none⟩ = some (.int .u64 a0_8) := (blk_cell BK172.out 8).trans rfl; have hcz24_9 : w23.cell? ⟨gb172, 9, none⟩ = some (.int .u64 a0_9) := (blk_cell BK172.out 9).trans rfl; have hcz24_10 : w23.cell? ⟨gb172, 10, none⟩ = some (.int .i64 a0_10) := (blk_cell BK172.out 10).trans rfl; have hfz24_0 := blk_frozen BK172.out 0; have hfz24_1 := blk_frozen BK172.out 1; have hfz24_2 := blk_frozen BK172.out 2; have hfz24_3 := blk_frozen BK172.out 3; have hfz24_4 := blk_frozen BK172.out 4; have hfz24_5 := blk_frozen BK172.out 5; have hfz24_6 := blk_frozen BK172.out 6; have hfz24_7 := blk_frozen BK172.out 7; have hfz24_8 := blk_frozen BK172.out 8; have hfz24_9 := blk_frozen BK172.out 9; have hfz24_10 := blk_frozen BK172.out 10; have hcz25_0 : w23.cell? ⟨gb173, 0, none⟩ = some (.bool false) := (blk_cell BK173.out 0).trans rfl; have hcz25_1 : w23.cell? ⟨gb173, 1, none⟩ = some (.int .i64 0) := (blk_cell BK173.out 1).trans rfl; have hcz25_2 : w23.cell? ⟨gb173, 2, none⟩ = some (.int .u64 0) := (blk_cell BK173.out 2).trans rfl; have hcz25_3 : w23.cell? ⟨gb173, 3, none⟩ = some (.int .u64 0) := (blk_cell BK173.out 3).trans rfl; have hcz25_4 : w23.cell? ⟨gb173, 4, none⟩ = some (.int .u64 0) := (blk_cell BK173.out 4).trans rfl; have hcz25_5 : w23.cell? ⟨gb173, 5, none⟩ = some (.int .u64 0) := (blk_cell BK173.out 5).trans rfl; have hcz25_6 : w23.cell? ⟨gb173, 6, none⟩ = some (.int .u64 0) := (blk_cell BK173.out 6).trans rfl; have hcz25_7 : w23.cell? ⟨gb173, 7, none⟩ = some (.int .u64 0) := (blk_cell BK173.out 7).trans rfl; have hcz25_8 : w23.cell? ⟨gb173, 8, none⟩ = some (.int .u64 0) := (blk_cell BK173.out 8).trans rfl; have hcz25_9 : w23.cell? ⟨gb173, 9, none⟩ = some (.int .u64 0) := (blk_cell BK173.out 9).trans rfl; have hcz25_10 : w23.cell? ⟨gb173, 10, none⟩ = some (.int .i64 0) := (blk_cell BK173.out 10).trans rfl; have hfz25_0 := blk_frozen BK173.out 0; have hfz25_1 := blk_frozen BK173.out 1; have hfz25_2 := blk_frozen BK173.out 2; have hfz25_3 := blk_frozen BK173.out 3; have hfz25_4 := blk_frozen BK173.out 4; have hfz25_5 := blk_frozen BK173.out 5; have hfz25_6 := blk_frozen BK173.out 6; have hfz25_7 := blk_frozen BK173.out 7; have hfz25_8 := blk_frozen BK173.out 8; have hfz25_9 := blk_frozen BK173.out 9; have hfz25_10 := blk_frozen BK173.out 10))
            refine bodyPost_ret (results_ct rfl _ _ gb173 51 #[.bool a0_0, .int .i64 a0_1, .int .u64 a0_2, .int .u64 a0_3, .int .u64 a0_4, .int .u64 a0_5, .int .u64 a0_6, .int .u64 a0_7, .int .u64 a0_8, .int .u64 a0_9, .int .i64 a0_10] (0, 0) _ rfl (by apply pt51_0_11; exact BK173.out) Tryd.underlying51 rfl (by kernel_rfl)) rfl ?_
            exact ⟨by first | rfl | (simp [errW_none, errW_some] <;> rfl) | (simp [*, errW_none, errW_some] <;> rfl), by repeat (first | (with_reducible first | exact HB.out | apply below_alloc | apply pw_below_drewN | apply below_drew1 | refine below_set ?_ GE172.out | refine below_set ?_ GE173.out) | exact HB.out)⟩
          · rw [if_neg c20] at H
            have c20b0 : (t175 == 0) = false := beq_eq_false_iff_ne.mpr c20
            have c20b1 : (t175 != 0) = true := bne_iff_ne.mpr c20
            replace H := Option.bind_eq_some_iff.mp H
            obtain ⟨⟨t176, t177, t178, t179, t180, t181, t182, t183, t184⟩, A260, H⟩ := H
            replace H : ((barrier_Bar_with.f a0_0 a0_1 a0_2 a0_3 a0_4 a0_5 a0_6 a0_7 a0_8 a0_9 a0_10 t176 t177 t178 t179 t180 t181 t182 t183 t184).bind fun bt185 => (some (bt185.1, bt185.2.1, bt185.2.2.1, bt185.2.2.2.1, bt185.2.2.2.2.1, bt185.2.2.2.2.2.1, bt185.2.2.2.2.2.2.1, bt185.2.2.2.2.2.2.2.1, bt185.2.2.2.2.2.2.2.2.1, bt185.2.2.2.2.2.2.2.2.2.1, bt185.2.2.2.2.2.2.2.2.2.2.1, bt185.2.2.2.2.2.2.2.2.2.2.2))) = some (r1, r2, r3, r4, r5, r6, r7, r8, r9, r10, r11, r12) := H
            have A26 := Aside0.mk A260
            clear A260
            replace H := Option.bind_eq_some_iff.mp H
            obtain ⟨⟨t185, t186, t187, t188, t189, t190, t191, t192, t193, t194, t195, t196⟩, A270, H⟩ := H
            replace H : (some (t185, t186, t187, t188, t189, t190, t191, t192, t193, t194, t195, t196)) = some (r1, r2, r3, r4, r5, r6, r7, r8, r9, r10, r11, r12) := H
            have A27 := Aside0.mk A270
            clear A270
            simp only [Option.some.injEq, Prod.mk.injEq] at H
            obtain ⟨rfl, rfl, rfl, rfl, rfl, rfl, rfl, rfl, rfl, rfl, rfl, rfl⟩ := H
            have hnb28 := NB172_173.out
            have hnc28 := NB173_172.out
            have hcz29_0 : wc.cell? ⟨gb172, 0, none⟩ = some (.bool a0_0) := (blk_cell BK172.out 0).trans rfl
            have hcz29_1 : wc.cell? ⟨gb172, 1, none⟩ = some (.int .i64 a0_1) := (blk_cell BK172.out 1).trans rfl
            have hcz29_2 : wc.cell? ⟨gb172, 2, none⟩ = some (.int .u64 a0_2) := (blk_cell BK172.out 2).trans rfl
            have hcz29_3 : wc.cell? ⟨gb172, 3, none⟩ = some (.int .u64 a0_3) := (blk_cell BK172.out 3).trans rfl
            have hcz29_4 : wc.cell? ⟨gb172, 4, none⟩ = some (.int .u64 a0_4) := (blk_cell BK172.out 4).trans rfl
            have hcz29_5 : wc.cell? ⟨gb172, 5, none⟩ = some (.int .u64 a0_5) := (blk_cell BK172.out 5).trans rfl
            have hcz29_6 : wc.cell? ⟨gb172, 6, none⟩ = some (.int .u64 a0_6) := (blk_cell BK172.out 6).trans rfl
            have hcz29_7 : wc.cell? ⟨gb172, 7, none⟩ = some (.int .u64 a0_7) := (blk_cell BK172.out 7).trans rfl
            have hcz29_8 : wc.cell? ⟨gb172, 8, none⟩ = some (.int .u64 a0_8) := (blk_cell BK172.out 8).trans rfl
            have hcz29_9 : wc.cell? ⟨gb172, 9, none⟩ = some (.int .u64 a0_9) := (blk_cell BK172.out 9).trans rfl
            have hcz29_10 : wc.cell? ⟨gb172, 10, none⟩ = some (.int .i64 a0_10) := (blk_cell BK172.out 10).trans rfl
            have hfz29_0 := blk_frozen BK172.out 0
            have hfz29_1 := blk_frozen BK172.out 1
            have hfz29_2 := blk_frozen BK172.out 2
            have hfz29_3 := blk_frozen BK172.out 3
            have hfz29_4 := blk_frozen BK172.out 4
            have hfz29_5 := blk_frozen BK172.out 5
            have hfz29_6 := blk_frozen BK172.out 6
            have hfz29_7 := blk_frozen BK172.out 7
            have hfz29_8 := blk_frozen BK172.out 8
            have hfz29_9 := blk_frozen BK172.out 9
            have hfz29_10 := blk_frozen BK172.out 10
            try go_wp2_with (first | ((with_reducible refine gate_callee (f := 78) rfl ?_); refine goesL_ (some 28) rfl rfl Tryd.func78 (by kernel_rfl) rfl #[.int .i64 a0_10, .int .i64 a0_1] rfl (by (try simp only [List.map_toArray, List.map_cons, List.map_nil]); first | done | rfl | (simp only [List.length_drop, List.length_take]; rfl)) ?_; (with_reducible refine (phase_Left.calls a0_10 a0_1 t175 _ A19.out).mono ?_); rintro e w30 ⟨rfl, hb⟩; refine ⟨_, rfl, ?_⟩; replace BK172 := Aside0.mk (blk_below BK172.out hb); replace BK173 := Aside0.mk (blk_below BK173.out hb); replace HB := Aside0.mk (below_step (by exact HB.out) hb); (try clear hb); (try clear hb2); (try clear hk); (try clear hi)))
            replace BK172 := Aside0.mk (blk_drew BK172.out)
            replace BK173 := Aside0.mk (blk_drew BK173.out)
            replace HB := Aside0.mk (below_drew1 HB.out)
            refine start_ (n := 12) (S := fun w' => w'.cell? ⟨gb172, 0, none⟩ = some (.bool a0_0) ∧ w'.cell? ⟨gb172, 1, none⟩ = some (.int .i64 a0_1) ∧ w'.cell? ⟨gb172, 2, none⟩ = some (.int .u64 a0_2) ∧ w'.cell? ⟨gb172, 3, none⟩ = some (.int .u64 a0_3) ∧ w'.cell? ⟨gb172, 4, none⟩ = some (.int .u64 a0_4) ∧ w'.cell? ⟨gb172, 5, none⟩ = some (.int .u64 a0_5) ∧ w'.cell? ⟨gb172, 6, none⟩ = some (.int .u64 a0_6) ∧ w'.cell? ⟨gb172, 7, none⟩ = some (.int .u64 a0_7) ∧ w'.cell? ⟨gb172, 8, none⟩ = some (.int .u64 a0_8) ∧ w'.cell? ⟨gb172, 9, none⟩ = some (.int .u64 a0_9) ∧ w'.cell? ⟨gb172, 10, none⟩ = some (.int .i64 a0_10)) (ds := []) #[false, false, false, false, false, false, false, false, false, false, false, false] (by kernel_rfl) rfl rfl ⟨(blk_cell BK172.out 0).trans rfl, (blk_cell BK172.out 1).trans rfl, (blk_cell BK172.out 2).trans rfl, (blk_cell BK172.out 3).trans rfl, (blk_cell BK172.out 4).trans rfl, (blk_cell BK172.out 5).trans rfl, (blk_cell BK172.out 6).trans rfl, (blk_cell BK172.out 7).trans rfl, (blk_cell BK172.out 8).trans rfl, (blk_cell BK172.out 9).trans rfl, (blk_cell BK172.out 10).trans rfl⟩ (fun hHeld => ?_); refine with_tabW barrier_Offer.tab7 barrier_Offer.bits7 (fun HT_ HW_ => ?_)
            generalize w30.drew = w31 at BK172 BK173 HB hHeld ⊢
            refine pure_ (i := 1) (N := some 32) (v := ?_) (a' := ?_) #[false, true, false, false, false, false, false, false, false, false, false, false] rfl rfl (any_of HT_.out (by kernel_rfl)) (fun _ _ _ h => h) (Or.inl ⟨by rfl, ?_⟩) ?_ ?_
            rotate_left
            · intro w'
              go_simp
              with_reducible rfl
            rotate_left
            · simp only [Act.put, List.setIfInBounds_toArray, List.set_cons_zero, List.set_cons_succ, i64_w, i32_w]
              rfl
            refine pure_ (i := 3) (N := some 34) (v := ?_) (a' := ?_) #[false, true, false, true, false, false, false, false, false, false, false, false] rfl rfl (any_of HT_.out (by kernel_rfl)) (fun _ _ _ h => h) (Or.inl ⟨by rfl, ?_⟩) ?_ ?_
            rotate_left
            · intro w'
              go_simp
              with_reducible rfl
            rotate_left
            · simp only [Act.put, List.setIfInBounds_toArray, List.set_cons_zero, List.set_cons_succ, i64_w, i32_w]
              rfl
            refine take_ (i := 0) (N := some 31) (v := ?_) (a' := ?_) #[true, true, false, true, false, false, false, false, false, false, false, false] rfl rfl (take_ofW HT_.out HW_.out (by kernel_rfl)) (fun _ _ _ h => h) (Or.inl ⟨by rfl, ?_⟩) hHeld ?_ ?_
            rotate_left
            · rintro w' ⟨s0, s1, s2, s3, s4, s5, s6, s7, s8, s9, s10⟩
              go_simp
              with_reducible rfl
            rotate_left
            · simp only [Act.put, List.setIfInBounds_toArray, List.set_cons_zero, List.set_cons_succ, i64_w, i32_w]
              rfl
            refine take_ (i := 2) (N := some 33) (v := ?_) (a' := ?_) #[true, true, true, true, false, false, false, false, false, false, false, false] rfl rfl (take_ofW HT_.out HW_.out (by kernel_rfl)) (fun _ _ _ h => h) (Or.inl ⟨by rfl, ?_⟩) hHeld ?_ ?_
            rotate_left
            · rintro w' ⟨s0, s1, s2, s3, s4, s5, s6, s7, s8, s9, s10⟩
              go_simp
              with_reducible rfl
            rotate_left
            · simp only [Act.put, List.setIfInBounds_toArray, List.set_cons_zero, List.set_cons_succ, i64_w, i32_w]
              rfl
            refine one_ (i := 4) (N := some 35) #[true, true, true, true, true, false, false, false, false, false, false, false] rfl rfl (one_of HT_.out (by kernel_rfl)) (by decide) (fun K hK => ?_)
            refine goes_ Tryd.func14 (by kernel_rfl) rfl #[.agg #[.int .u64 a0_2, .int .u64 a0_3, .int .u64 a0_4, .int .u64 a0_5, .int .u64 a0_6, .int .u64 a0_7, .int .u64 a0_8, .int .u64 a0_9], .int .i64 a1] (by rfl) rfl rfl (by (try simp only [List.map_toArray, List.map_cons, List.map_nil]); first | done | rfl | (simp only [List.length_drop, List.length_take]; rfl)) ?_
            with_reducible refine (roll_Offer.calls a0_2 a0_3 a0_4 a0_5 a0_6 a0_7 a0_8 a0_9 a1 t176 t177 t178 t179 t180 t181 t182 t183 t184 _ ?side1 A26.out).mono ?_
            (case side1 => exact Go.Proofs.YtdaionnpgcdkdaaDoor.GLW.below hG (by exact HB.out))
            rintro e w32 ⟨rfl, hb⟩
            refine ⟨_, rfl, ?_⟩
            replace BK172 := Aside0.mk (blk_below BK172.out hb)
            replace BK173 := Aside0.mk (blk_below BK173.out hb)
            replace HB := Aside0.mk (below_step (by exact HB.out) hb)
            (try clear hb)
            (try clear hb2)
            (try clear hk)
            (try clear hi)
            refine hK.out _ _ ⟨(blk_cell BK172.out 0).trans rfl, (blk_cell BK172.out 1).trans rfl, (blk_cell BK172.out 2).trans rfl, (blk_cell BK172.out 3).trans rfl, (blk_cell BK172.out 4).trans rfl, (blk_cell BK172.out 5).trans rfl, (blk_cell BK172.out 6).trans rfl, (blk_cell BK172.out 7).trans rfl, (blk_cell BK172.out 8).trans rfl, (blk_cell BK172.out 9).trans rfl, (blk_cell BK172.out 10).trans rfl⟩ (fun hHeld => ?_)
            clear hK K
            refine norm_ (a' := ?_) ?_ ?_
            rotate_left
            · show Act.put _ (some 35) _ = _
              simp only [Act.put, List.setIfInBounds_toArray, List.set_cons_zero, List.set_cons_succ, i64_w, i32_w]
              rfl
            refine pure_ (i := 5) (N := some 36) (v := ?_) (a' := ?_) #[true, true, true, true, true, true, false, false, false, false, false, false] rfl rfl (any_of HT_.out (by kernel_rfl)) (fun _ _ _ h => h) (Or.inl ⟨by rfl, ?_⟩) ?_ ?_
            rotate_left
            · intro w'
              go_simp
              with_reducible rfl
            rotate_left
            · simp only [Act.put, List.setIfInBounds_toArray, List.set_cons_zero, List.set_cons_succ, i64_w, i32_w]
              rfl
            refine pure_ (i := 6) (N := some 37) (v := ?_) (a' := ?_) #[true, true, true, true, true, true, true, false, false, false, false, false] rfl rfl (any_of HT_.out (by kernel_rfl)) (fun _ _ _ h => h) (Or.inl ⟨by rfl, ?_⟩) ?_ ?_
            rotate_left
            · intro w'
              go_simp
              with_reducible rfl
            rotate_left
            · simp only [Act.put, List.setIfInBounds_toArray, List.set_cons_zero, List.set_cons_succ, i64_w, i32_w]
              rfl
            refine one_ (i := 7) (N := some 38) #[true, true, true, true, true, true, true, true, false, false, false, false] rfl rfl (one_of HT_.out (by kernel_rfl)) (by decide) (fun K hK => ?_)
            refine goes_ Tryd.func82 (by kernel_rfl) rfl #[.agg #[.bool a0_0, .int .i64 a0_1, .int .u64 a0_2, .int .u64 a0_3, .int .u64 a0_4, .int .u64 a0_5, .int .u64 a0_6, .int .u64 a0_7, .int .u64 a0_8, .int .u64 a0_9, .int .i64 a0_10], .agg #[.int .u64 t176, .int .u64 t177, .int .u64 t178, .int .u64 t179, .int .u64 t180, .int .u64 t181, .int .u64 t182, .int .u64 t183], .int .i64 t184] (by rfl) rfl rfl (by (try simp only [List.map_toArray, List.map_cons, List.map_nil]); first | done | rfl | (simp only [List.length_drop, List.length_take]; rfl)) ?_
            with_reducible refine (barrier_Bar_with.calls a0_0 a0_1 a0_2 a0_3 a0_4 a0_5 a0_6 a0_7 a0_8 a0_9 a0_10 t176 t177 t178 t179 t180 t181 t182 t183 t184 t185 t186 t187 t188 t189 t190 t191 t192 t193 t194 t195 t196 _ A27.out).mono ?_
            rintro e w33 ⟨rfl, hb⟩
            refine ⟨_, rfl, ?_⟩
            replace BK172 := Aside0.mk (blk_below BK172.out hb)
            replace BK173 := Aside0.mk (blk_below BK173.out hb)
            replace HB := Aside0.mk (below_step (by exact HB.out) hb)
            (try clear hb)
            (try clear hb2)
            (try clear hk)
            (try clear hi)
            refine hK.out _ _ ⟨(blk_cell BK172.out 0).trans rfl, (blk_cell BK172.out 1).trans rfl, (blk_cell BK172.out 2).trans rfl, (blk_cell BK172.out 3).trans rfl, (blk_cell BK172.out 4).trans rfl, (blk_cell BK172.out 5).trans rfl, (blk_cell BK172.out 6).trans rfl, (blk_cell BK172.out 7).trans rfl, (blk_cell BK172.out 8).trans rfl, (blk_cell BK172.out 9).trans rfl, (blk_cell BK172.out 10).trans rfl⟩ (fun hHeld => ?_)
            clear hK K
            refine norm_ (a' := ?_) ?_ ?_
            rotate_left
            · show Act.put _ (some 38) _ = _
              simp only [Act.put, List.setIfInBounds_toArray, List.set_cons_zero, List.set_cons_succ, i64_w, i32_w]
              rfl
            refine pure_ (i := 8) (N := some 39) (v := ?_) (a' := ?_) #[true, true, true, true, true, true, true, true, true, false, false, false] rfl rfl (any_of HT_.out (by kernel_rfl)) (fun _ _ _ h => h) (Or.inl ⟨by rfl, ?_⟩) ?_ ?_
            rotate_left
            · intro w'
              go_simp
              with_reducible rfl
            rotate_left
            · simp only [Act.put, List.setIfInBounds_toArray, List.set_cons_zero, List.set_cons_succ, i64_w, i32_w]
              rfl
            refine pure_ (i := 9) (N := some 40) (v := ?_) (a' := ?_) #[true, true, true, true, true, true, true, true, true, true, false, false] rfl rfl (any_of HT_.out (by kernel_rfl)) (fun _ _ _ h => h) (Or.inl ⟨by rfl, ?_⟩) ?_ ?_
            rotate_left
            · intro w'
              go_simp
              with_reducible rfl
            rotate_left
            · simp only [Act.put, List.setIfInBounds_toArray, List.set_cons_zero, List.set_cons_succ, i64_w, i32_w]
              rfl
            refine one_ (i := 10) (N := none) #[true, true, true, true, true, true, true, true, true, true, true, false] rfl rfl (one_of HT_.out (by kernel_rfl)) (by decide) (fun K hK => ?_)
            have hs34 : w33.cell? ⟨gb173, 0, none⟩ = some (.bool false) := (blk_cell BK173.out 0).trans rfl
            have hfs34 := blk_frozen BK173.out 0
            have hns34_0 := NB172_173.out
            have hms34_0 := NB173_172.out
            have hs35 : w33.cell? ⟨gb173, 1, none⟩ = some (.int .i64 0) := (blk_cell BK173.out 1).trans rfl
            have hfs35 := blk_frozen BK173.out 1
            have hns35_0 := NB172_173.out
            have hms35_0 := NB173_172.out
            have hs36 : w33.cell? ⟨gb173, 2, none⟩ = some (.int .u64 0) := (blk_cell BK173.out 2).trans rfl
            have hfs36 := blk_frozen BK173.out 2
            have hns36_0 := NB172_173.out
            have hms36_0 := NB173_172.out
            have hs37 : w33.cell? ⟨gb173, 3, none⟩ = some (.int .u64 0) := (blk_cell BK173.out 3).trans rfl
            have hfs37 := blk_frozen BK173.out 3
            have hns37_0 := NB172_173.out
            have hms37_0 := NB173_172.out
            have hs38 : w33.cell? ⟨gb173, 4, none⟩ = some (.int .u64 0) := (blk_cell BK173.out 4).trans rfl
            have hfs38 := blk_frozen BK173.out 4
            have hns38_0 := NB172_173.out
            have hms38_0 := NB173_172.out
            have hs39 : w33.cell? ⟨gb173, 5, none⟩ = some (.int .u64 0) := (blk_cell BK173.out 5).trans rfl
            have hfs39 := blk_frozen BK173.out 5
            have hns39_0 := NB172_173.out
            have hms39_0 := NB173_172.out
            have hs40 : w33.cell? ⟨gb173, 6, none⟩ = some (.int .u64 0) := (blk_cell BK173.out 6).trans rfl
            have hfs40 := blk_frozen BK173.out 6
            have hns40_0 := NB172_173.out
            have hms40_0 := NB173_172.out
            have hs41 : w33.cell? ⟨gb173, 7, none⟩ = some (.int .u64 0) := (blk_cell BK173.out 7).trans rfl
            have hfs41 := blk_frozen BK173.out 7
            have hns41_0 := NB172_173.out
            have hms41_0 := NB173_172.out
            have hs42 : w33.cell? ⟨gb173, 8, none⟩ = some (.int .u64 0) := (blk_cell BK173.out 8).trans rfl
            have hfs42 := blk_frozen BK173.out 8
            have hns42_0 := NB172_173.out
            have hms42_0 := NB173_172.out
            have hs43 : w33.cell? ⟨gb173, 9, none⟩ = some (.int .u64 0) := (blk_cell BK173.out 9).trans rfl
            have hfs43 := blk_frozen BK173.out 9
            have hns43_0 := NB172_173.out
            have hms43_0 := NB173_172.out
            have hs44 : w33.cell? ⟨gb173, 10, none⟩ = some (.int .i64 0) := (blk_cell BK173.out 10).trans rfl
            have hfs44 := blk_frozen BK173.out 10
            have hns44_0 := NB172_173.out
            have hms44_0 := NB173_172.out
            refine skip_ (w1 := ?_) (by rfl) rfl ?_ ?_
            rotate_left
            · go_simp
              rfl
            refine hK.out _ _ ⟨((cell_far (p := ⟨gb173, _, none⟩) NB172_173.out _).trans (((cell_far (p := ⟨gb173, _, none⟩) NB172_173.out _).trans (((cell_far (p := ⟨gb173, _, none⟩) NB172_173.out _).trans (((cell_far (p := ⟨gb173, _, none⟩) NB172_173.out _).trans (((cell_far (p := ⟨gb173, _, none⟩) NB172_173.out _).trans (((cell_far (p := ⟨gb173, _, none⟩) NB172_173.out _).trans (((cell_far (p := ⟨gb173, _, none⟩) NB172_173.out _).trans (((cell_far (p := ⟨gb173, _, none⟩) NB172_173.out _).trans (((cell_far (p := ⟨gb173, _, none⟩) NB172_173.out _).trans (((cell_far (p := ⟨gb173, _, none⟩) NB172_173.out _).trans (((cell_far (p := ⟨gb173, _, none⟩) NB172_173.out _).trans (hHeld.1)))))))))))))))))))))), ((cell_far (p := ⟨gb173, _, none⟩) NB172_173.out _).trans (((cell_far (p := ⟨gb173, _, none⟩) NB172_173.out _).trans (((cell_far (p := ⟨gb173, _, none⟩) NB172_173.out _).trans (((cell_far (p := ⟨gb173, _, none⟩) NB172_173.out _).trans (((cell_far (p := ⟨gb173, _, none⟩) NB172_173.out _).trans (((cell_far (p := ⟨gb173, _, none⟩) NB172_173.out _).trans (((cell_far (p := ⟨gb173, _, none⟩) NB172_173.out _).trans (((cell_far (p := ⟨gb173, _, none⟩) NB172_173.out _).trans (((cell_far (p := ⟨gb173, _, none⟩) NB172_173.out _).trans (((cell_far (p := ⟨gb173, _, none⟩) NB172_173.out _).trans (((cell_far (p := ⟨gb173, _, none⟩) NB172_173.out _).trans (hHeld.2.1)))))))))))))))))))))), ((cell_far (p := ⟨gb173, _, none⟩) NB172_173.out _).trans (((cell_far (p := ⟨gb173, _, none⟩) NB172_173.out _).trans (((cell_far (p := ⟨gb173, _, none⟩) NB172_173.out _).trans (((cell_far (p := ⟨gb173, _, none⟩) NB172_173.out _).trans (((cell_far (p := ⟨gb173, _, none⟩) NB172_173.out _).trans (((cell_far (p := ⟨gb173, _, none⟩) NB172_173.out _).trans (((cell_far (p := ⟨gb173, _, none⟩) NB172_173.out _).trans (((cell_far (p := ⟨gb173, _, none⟩) NB172_173.out _).trans (((cell_far (p := ⟨gb173, _, none⟩) NB172_173.out _).trans (((cell_far (p := ⟨gb173, _, none⟩) NB172_173.out _).trans (((cell_far (p := ⟨gb173, _, none⟩) NB172_173.out _).trans (hHeld.2.2.1)))))))))))))))))))))), ((cell_far (p := ⟨gb173, _, none⟩) NB172_173.out _).trans (((cell_far (p := ⟨gb173, _, none⟩) NB172_173.out _).trans (((cell_far (p := ⟨gb173, _, none⟩) NB172_173.out _).trans (((cell_far (p := ⟨gb173, _, none⟩) NB172_173.out _).trans (((cell_far (p := ⟨gb173, _, none⟩) NB172_173.out _).trans (((cell_far (p := ⟨gb173, _, none⟩) NB172_173.out _).trans (((cell_far (p := ⟨gb173, _, none⟩) NB172_173.out _).trans (((cell_far (p := ⟨gb173, _, none⟩) NB172_173.out _).trans (((cell_far (p := ⟨gb173, _, none⟩) NB172_173.out _).trans (((cell_far (p := ⟨gb173, _, none⟩) NB172_173.out _).trans (((cell_far (p := ⟨gb173, _, none⟩) NB172_173.out _).trans (hHeld.2.2.2.1)))))))))))))))))))))), ((cell_far (p := ⟨gb173, _, none⟩) NB172_173.out _).trans (((cell_far (p := ⟨gb173, _, none⟩) NB172_173.out _).trans (((cell_far (p := ⟨gb173, _, none⟩) NB172_173.out _).trans (((cell_far (p := ⟨gb173, _, none⟩) NB172_173.out _).trans (((cell_far (p := ⟨gb173, _, none⟩) NB172_173.out _).trans (((cell_far (p := ⟨gb173, _, none⟩) NB172_173.out _).trans (((cell_far (p := ⟨gb173, _, none⟩) NB172_173.out _).trans (((cell_far (p := ⟨gb173, _, none⟩) NB172_173.out _).trans (((cell_far (p := ⟨gb173, _, none⟩) NB172_173.out _).trans (((cell_far (p := ⟨gb173, _, none⟩) NB172_173.out _).trans (((cell_far (p := ⟨gb173, _, none⟩) NB172_173.out _).trans (hHeld.2.2.2.2.1)))))))))))))))))))))), ((cell_far (p := ⟨gb173, _, none⟩) NB172_173.out _).trans (((cell_far (p := ⟨gb173, _, none⟩) NB172_173.out _).trans (((cell_far (p := ⟨gb173, _, none⟩) NB172_173.out _).trans (((cell_far (p := ⟨gb173, _, none⟩) NB172_173.out _).trans (((cell_far (p := ⟨gb173, _, none⟩) NB172_173.out _).trans (((cell_far (p := ⟨gb173, _, none⟩) NB172_173.out _).trans (((cell_far (p := ⟨gb173, _, none⟩) NB172_173.out _).trans (((cell_far (p := ⟨gb173, _, none⟩) NB172_173.out _).trans (((cell_far (p := ⟨gb173, _, none⟩) NB172_173.out _).trans (((cell_far (p := ⟨gb173, _, none⟩) NB172_173.out _).trans (((cell_far (p := ⟨gb173, _, none⟩) NB172_173.out _).trans (hHeld.2.2.2.2.2.1)))))))))))))))))))))), ((cell_far (p := ⟨gb173, _, none⟩) NB172_173.out _).trans (((cell_far (p := ⟨gb173, _, none⟩) NB172_173.out _).trans (((cell_far (p := ⟨gb173, _, none⟩) NB172_173.out _).trans (((cell_far (p := ⟨gb173, _, none⟩) NB172_173.out _).trans (((cell_far (p := ⟨gb173, _, none⟩) NB172_173.out _).trans (((cell_far (p := ⟨gb173, _, none⟩) NB172_173.out _).trans (((cell_far (p := ⟨gb173, _, none⟩) NB172_173.out _).trans (((cell_far (p := ⟨gb173, _, none⟩) NB172_173.out _).trans (((cell_far (p := ⟨gb173, _, none⟩) NB172_173.out _).trans (((cell_far (p := ⟨gb173, _, none⟩) NB172_173.out _).trans (((cell_far (p := ⟨gb173, _, none⟩) NB172_173.out _).trans (hHeld.2.2.2.2.2.2.1)))))))))))))))))))))), ((cell_far (p := ⟨gb173, _, none⟩) NB172_173.out _).trans (((cell_far (p := ⟨gb173, _, none⟩) NB172_173.out _).trans (((cell_far (p := ⟨gb173, _, none⟩) NB172_173.out _).trans (((cell_far (p := ⟨gb173, _, none⟩) NB172_173.out _).trans (((cell_far (p := ⟨gb173, _, none⟩) NB172_173.out _).trans (((cell_far (p := ⟨gb173, _, none⟩) NB172_173.out _).trans (((cell_far (p := ⟨gb173, _, none⟩) NB172_173.out _).trans (((cell_far (p := ⟨gb173, _, none⟩) NB172_173.out _).trans (((cell_far (p := ⟨gb173, _, none⟩) NB172_173.out _).trans (((cell_far (p := ⟨gb173, _, none⟩) NB172_173.out _).trans (((cell_far (p := ⟨gb173, _, none⟩) NB172_173.out _).trans (hHeld.2.2.2.2.2.2.2.1)))))))))))))))))))))), ((cell_far (p := ⟨gb173, _, none⟩) NB172_173.out _).trans (((cell_far (p := ⟨gb173, _, none⟩) NB172_173.out _).trans (((cell_far (p := ⟨gb173, _, none⟩) NB172_173.out _).trans (((cell_far (p := ⟨gb173, _, none⟩) NB172_173.out _).trans (((cell_far (p := ⟨gb173, _, none⟩) NB172_173.out _).trans (((cell_far (p := ⟨gb173, _, none⟩) NB172_173.out _).trans (((cell_far (p := ⟨gb173, _, none⟩) NB172_173.out _).trans (((cell_far (p := ⟨gb173, _, none⟩) NB172_173.out _).trans (((cell_far (p := ⟨gb173, _, none⟩) NB172_173.out _).trans (((cell_far (p := ⟨gb173, _, none⟩) NB172_173.out _).trans (((cell_far (p := ⟨gb173, _, none⟩) NB172_173.out _).trans (hHeld.2.2.2.2.2.2.2.2.1)))))))))))))))))))))), ((cell_far (p := ⟨gb173, _, none⟩) NB172_173.out _).trans (((cell_far (p := ⟨gb173, _, none⟩) NB172_173.out _).trans (((cell_far (p := ⟨gb173, _, none⟩) NB172_173.out _).trans (((cell_far (p := ⟨gb173, _, none⟩) NB172_173.out _).trans (((cell_far (p := ⟨gb173, _, none⟩) NB172_173.out _).trans (((cell_far (p := ⟨gb173, _, none⟩) NB172_173.out _).trans (((cell_far (p := ⟨gb173, _, none⟩) NB172_173.out _).trans (((cell_far (p := ⟨gb173, _, none⟩) NB172_173.out _).trans (((cell_far (p := ⟨gb173, _, none⟩) NB172_173.out _).trans (((cell_far (p := ⟨gb173, _, none⟩) NB172_173.out _).trans (((cell_far (p := ⟨gb173, _, none⟩) NB172_173.out _).trans (hHeld.2.2.2.2.2.2.2.2.2.1)))))))))))))))))))))), ((cell_far (p := ⟨gb173, _, none⟩) NB172_173.out _).trans (((cell_far (p := ⟨gb173, _, none⟩) NB172_173.out _).trans (((cell_far (p := ⟨gb173, _, none⟩) NB172_173.out _).trans (((cell_far (p := ⟨gb173, _, none⟩) NB172_173.out _).trans (((cell_far (p := ⟨gb173, _, none⟩) NB172_173.out _).trans (((cell_far (p := ⟨gb173, _, none⟩) NB172_173.out _).trans (((cell_far (p := ⟨gb173, _, none⟩) NB172_173.out _).trans (((cell_far (p := ⟨gb173, _, none⟩) NB172_173.out _).trans (((cell_far (p := ⟨gb173, _, none⟩) NB172_173.out _).trans (((cell_far (p := ⟨gb173, _, none⟩) NB172_173.out _).trans (((cell_far (p := ⟨gb173, _, none⟩) NB172_173.out _).trans (hHeld.2.2.2.2.2.2.2.2.2.2))))))))))))))))))))))⟩ (fun hHeld => ?_)
            clear hK K
            refine pure_ (i := 11) (N := some 7) (v := ?_) (a' := ?_) #[true, true, true, true, true, true, true, true, true, true, true, true] rfl rfl (any_of HT_.out (by kernel_rfl)) (fun _ _ _ h => h) (Or.inl ⟨by rfl, ?_⟩) ?_ ?_
            rotate_left
            · intro w'
              go_simp
              with_reducible rfl
            rotate_left
            · simp only [Act.put, List.setIfInBounds_toArray, List.set_cons_zero, List.set_cons_succ, i64_w, i32_w]
              rfl
            refine done_ (done_of HT_.out (by kernel_rfl)) ?_
            try go_wp2
            refine bodyPost_ret (results_ct rfl _ _ gb173 51 #[.bool t185, .int .i64 t186, .int .u64 t187, .int .u64 t188, .int .u64 t189, .int .u64 t190, .int .u64 t191, .int .u64 t192, .int .u64 t193, .int .u64 t194, .int .i64 t195] (0, 0) _ rfl (by apply pt51_0_11; exact BK173.out) Tryd.underlying51 rfl (by kernel_rfl)) rfl ?_
            exact ⟨by first | rfl | (simp [errW_none, errW_some] <;> rfl) | (simp [*, errW_none, errW_some] <;> rfl), by repeat (first | (with_reducible first | exact HB.out | apply below_alloc | apply pw_below_drewN | apply below_drew1 | refine below_set ?_ GE172.out | refine below_set ?_ GE173.out) | exact HB.out)⟩
  · replace c5 := Bool.eq_false_iff.mpr c5
    subst c5
    have H1 : (some (a0_0, a0_1, a0_2, a0_3, a0_4, a0_5, a0_6, a0_7, a0_8, a0_9, a0_10, 1)) = some (r1, r2, r3, r4, r5, r6, r7, r8, r9, r10, r11, r12) := by rw [if_neg (show ¬ (false = true) by decide)] at H; exact H
    clear H
    have H := H1
    clear H1
    simp only [Option.some.injEq, Prod.mk.injEq] at H
    obtain ⟨rfl, rfl, rfl, rfl, rfl, rfl, rfl, rfl, rfl, rfl, rfl, rfl⟩ := H
    go_enter Tryd.func37, Tryd.ntmps37
    go_wp2_with (first | ((with_reducible refine gate_dst (N := 3) rfl ?_); refine box_event ?hg (N := 3) ?hd (cs := #[.bool a0_0, .int .i64 a0_1, .int .u64 a0_2, .int .u64 a0_3, .int .u64 a0_4, .int .u64 a0_5, .int .u64 a0_6, .int .u64 a0_7, .int .u64 a0_8, .int .u64 a0_9, .int .i64 a0_10]) (t := 51) ?hr ?_; (case hd => rfl); (case hg => rfl); (case hr => first | (go_simp; done) | (go_simp; rfl)); intro gb172 hg w45 hbox hb; have BK172 := Aside0.mk (hbox); have GW172 := Aside0.mk ((by rw [hg]; exact (below_size (by exact HB.out)) : w.heap.size ≤ gb172)); have GE172 := Aside0.mk ((by rw [hg]; exact (below_size (by exact HB.out)) : w.heap.size ≤ gb172)); replace HB := Aside0.mk (below_step (by exact HB.out) hb); clear hb hbox hg) | ((with_reducible refine gate_dst (N := 6) rfl ?_); refine box_event ?hg (N := 6) ?hd (cs := #[.bool false, .int .i64 0, .int .u64 0, .int .u64 0, .int .u64 0, .int .u64 0, .int .u64 0, .int .u64 0, .int .u64 0, .int .u64 0, .int .i64 0]) (t := 51) ?hr ?_; (case hd => rfl); (case hg => rfl); (case hr => first | (go_simp; done) | (go_simp; rfl)); intro gb173 hg w46 hbox hb; have BK173 := Aside0.mk (hbox); have GW173 := Aside0.mk ((by rw [hg]; exact (below_size (by exact HB.out)) : w.heap.size ≤ gb173)); have GE173 := Aside0.mk ((by rw [hg]; exact (below_size (by exact HB.out)) : w.heap.size ≤ gb173)); replace HB := Aside0.mk (below_step (by exact HB.out) hb); have NB172_173 := Aside0.mk ((by rw [hg]; exact Nat.ne_of_lt (blk_lt BK172.out) : gb172 ≠ gb173)); have NB173_172 := Aside0.mk ((by rw [hg]; exact Nat.ne_of_gt (blk_lt BK172.out) : gb173 ≠ gb172)); replace BK172 := Aside0.mk (blk_below BK172.out hb); clear hb hbox hg; have hnb47 := NB172_173.out; have hnc47 := NB173_172.out; have hcz48_0 : w46.cell? ⟨gb172, 0, none⟩ = some (.bool a0_0) := (blk_cell BK172.out 0).trans rfl; have hcz48_1 : w46.cell? ⟨gb172, 1, none⟩ = some (.int .i64 a0_1) := (blk_cell BK172.out 1).trans rfl; have hcz48_2 : w46.cell? ⟨gb172, 2, none⟩ = some (.int .u64 a0_2) := (blk_cell BK172.out 2).trans rfl; have hcz48_3 : w46.cell? ⟨gb172, 3, none⟩ = some (.int .u64 a0_3) := (blk_cell BK172.out 3).trans rfl; have hcz48_4 : w46.cell? ⟨gb172, 4, none⟩ = some (.int .u64 a0_4) := (blk_cell BK172.out 4).trans rfl; have hcz48_5 : w46.cell? ⟨gb172, 5, none⟩ = some (.int .u64 a0_5) := (blk_cell BK172.out 5).trans rfl; have hcz48_6 : w46.cell? ⟨gb172, 6, none⟩ = some (.int .u64 a0_6) := (blk_cell BK172.out 6).trans rfl; have hcz48_7 : w46.cell? ⟨gb172, 7, none⟩ = some (.int .u64 a0_7) := (blk_cell BK172.out 7).trans rfl; have hcz48_8 : w46.cell? ⟨gb172, 8, none⟩ = some (.int .u64 a0_8) := (blk_cell BK172.out 8).trans rfl; have hcz48_9 : w46.cell? ⟨gb172, 9, none⟩ = some (.int .u64 a0_9) := (blk_cell BK172.out 9).trans rfl; have hcz48_10 : w46.cell? ⟨gb172, 10, none⟩ = some (.int .i64 a0_10) := (blk_cell BK172.out 10).trans rfl; have hfz48_0 := blk_frozen BK172.out 0; have hfz48_1 := blk_frozen BK172.out 1; have hfz48_2 := blk_frozen BK172.out 2; have hfz48_3 := blk_frozen BK172.out 3; have hfz48_4 := blk_frozen BK172.out 4; have hfz48_5 := blk_frozen BK172.out 5; have hfz48_6 := blk_frozen BK172.out 6; have hfz48_7 := blk_frozen BK172.out 7; have hfz48_8 := blk_frozen BK172.out 8; have hfz48_9 := blk_frozen BK172.out 9; have hfz48_10 := blk_frozen BK172.out 10) | ((with_reducible refine gate_callee (f := 41) rfl ?_); refine goesL_ (some 10) rfl rfl Tryd.func41 (by kernel_rfl) rfl #[.agg #[.bool a0_0, .int .i64 a0_1, .int .u64 a0_2, .int .u64 a0_3, .int .u64 a0_4, .int .u64 a0_5, .int .u64 a0_6, .int .u64 a0_7, .int .u64 a0_8, .int .u64 a0_9, .int .i64 a0_10]] rfl (by (try simp only [List.map_toArray, List.map_cons, List.map_nil]); first | done | rfl | (simp only [List.length_drop, List.length_take]; rfl)) ?_; (with_reducible refine (barrier_Fine.calls a0_0 a0_1 a0_2 a0_3 a0_4 a0_5 a0_6 a0_7 a0_8 a0_9 a0_10 false _ ?side1 A4.out).mono ?_); (case side1 => exact Go.Proofs.YtdaionnpgcdkdaaDoor.GLW.below hG (by exact HB.out)); rintro e w49 ⟨rfl, hb⟩; refine ⟨_, rfl, ?_⟩; replace BK172 := Aside0.mk (blk_below BK172.out hb); replace BK173 := Aside0.mk (blk_below BK173.out hb); replace HB := Aside0.mk (below_step (by exact HB.out) hb); (try clear hb); (try clear hb2); (try clear hk); (try clear hi); have hcz50_0 : w49.cell? ⟨gb172, 0, none⟩ = some (.bool a0_0) := (blk_cell BK172.out 0).trans rfl; have hcz50_1 : w49.cell? ⟨gb172, 1, none⟩ = some (.int .i64 a0_1) := (blk_cell BK172.out 1).trans rfl; have hcz50_2 : w49.cell? ⟨gb172, 2, none⟩ = some (.int .u64 a0_2) := (blk_cell BK172.out 2).trans rfl; have hcz50_3 : w49.cell? ⟨gb172, 3, none⟩ = some (.int .u64 a0_3) := (blk_cell BK172.out 3).trans rfl; have hcz50_4 : w49.cell? ⟨gb172, 4, none⟩ = some (.int .u64 a0_4) := (blk_cell BK172.out 4).trans rfl; have hcz50_5 : w49.cell? ⟨gb172, 5, none⟩ = some (.int .u64 a0_5) := (blk_cell BK172.out 5).trans rfl; have hcz50_6 : w49.cell? ⟨gb172, 6, none⟩ = some (.int .u64 a0_6) := (blk_cell BK172.out 6).trans rfl; have hcz50_7 : w49.cell? ⟨gb172, 7, none⟩ = some (.int .u64 a0_7) := (blk_cell BK172.out 7).trans rfl; have hcz50_8 : w49.cell? ⟨gb172, 8, none⟩ = some (.int .u64 a0_8) := (blk_cell BK172.out 8).trans rfl; have hcz50_9 : w49.cell? ⟨gb172, 9, none⟩ = some (.int .u64 a0_9) := (blk_cell BK172.out 9).trans rfl; have hcz50_10 : w49.cell? ⟨gb172, 10, none⟩ = some (.int .i64 a0_10) := (blk_cell BK172.out 10).trans rfl; have hfz50_0 := blk_frozen BK172.out 0; have hfz50_1 := blk_frozen BK172.out 1; have hfz50_2 := blk_frozen BK172.out 2; have hfz50_3 := blk_frozen BK172.out 3; have hfz50_4 := blk_frozen BK172.out 4; have hfz50_5 := blk_frozen BK172.out 5; have hfz50_6 := blk_frozen BK172.out 6; have hfz50_7 := blk_frozen BK172.out 7; have hfz50_8 := blk_frozen BK172.out 8; have hfz50_9 := blk_frozen BK172.out 9; have hfz50_10 := blk_frozen BK172.out 10; have hcz51_0 : w49.cell? ⟨gb173, 0, none⟩ = some (.bool false) := (blk_cell BK173.out 0).trans rfl; have hcz51_1 : w49.cell? ⟨gb173, 1, none⟩ = some (.int .i64 0) := (blk_cell BK173.out 1).trans rfl; have hcz51_2 : w49.cell? ⟨gb173, 2, none⟩ = some (.int .u64 0) := (blk_cell BK173.out 2).trans rfl; have hcz51_3 : w49.cell? ⟨gb173, 3, none⟩ = some (.int .u64 0) := (blk_cell BK173.out 3).trans rfl; have hcz51_4 : w49.cell? ⟨gb173, 4, none⟩ = some (.int .u64 0) := (blk_cell BK173.out 4).trans rfl; have hcz51_5 : w49.cell? ⟨gb173, 5, none⟩ = some (.int .u64 0) := (blk_cell BK173.out 5).trans rfl; have hcz51_6 : w49.cell? ⟨gb173, 6, none⟩ = some (.int .u64 0) := (blk_cell BK173.out 6).trans rfl; have hcz51_7 : w49.cell? ⟨gb173, 7, none⟩ = some (.int .u64 0) := (blk_cell BK173.out 7).trans rfl; have hcz51_8 : w49.cell? ⟨gb173, 8, none⟩ = some (.int .u64 0) := (blk_cell BK173.out 8).trans rfl; have hcz51_9 : w49.cell? ⟨gb173, 9, none⟩ = some (.int .u64 0) := (blk_cell BK173.out 9).trans rfl; have hcz51_10 : w49.cell? ⟨gb173, 10, none⟩ = some (.int .i64 0) := (blk_cell BK173.out 10).trans rfl; have hfz51_0 := blk_frozen BK173.out 0; have hfz51_1 := blk_frozen BK173.out 1; have hfz51_2 := blk_frozen BK173.out 2; have hfz51_3 := blk_frozen BK173.out 3; have hfz51_4 := blk_frozen BK173.out 4; have hfz51_5 := blk_frozen BK173.out 5; have hfz51_6 := blk_frozen BK173.out 6; have hfz51_7 := blk_frozen BK173.out 7; have hfz51_8 := blk_frozen BK173.out 8; have hfz51_9 := blk_frozen BK173.out 9; have hfz51_10 := blk_frozen BK173.out 10))
    refine bodyPost_ret (results_ct rfl _ _ gb173 51 #[.bool a0_0, .int .i64 a0_1, .int .u64 a0_2, .int .u64 a0_3, .int .u64 a0_4, .int .u64 a0_5, .int .u64 a0_6, .int .u64 a0_7, .int .u64 a0_8, .int .u64 a0_9, .int .i64 a0_10] (0, 0) _ rfl (by apply pt51_0_11; exact BK173.out) Tryd.underlying51 rfl (by kernel_rfl)) rfl ?_
    exact ⟨by first | rfl | (simp [errW_none, errW_some] <;> rfl) | (simp [*, errW_none, errW_some] <;> rfl), by repeat (first | (with_reducible first | exact HB.out | apply below_alloc | apply pw_below_drewN | apply below_drew1 | refine below_set ?_ GE172.out | refine below_set ?_ GE173.out) | exact HB.out)⟩

/-! ### roll_Withdraw: function 15 -/
def roll_Withdraw.f (a0_0 : Int) (a0_1 : Int) (a0_2 : Int) (a0_3 : Int) (a0_4 : Int) (a0_5 : Int) (a0_6 : Int) (a0_7 : Int) (a1 : Int) : Option (Int × Int × Int × Int × Int × Int × Int × Int × Bool) := if Go.Proofs.YtdaionnpgcdkdaaDoor.okS a0_0 a0_1 a0_2 a0_3 && Go.Proofs.YtdaionnpgcdkdaaDoor.okS a0_4 a0_5 a0_6 a0_7 then some (Go.Proofs.YtdaionnpgcdkdaaDoor.tupR (Go.Proofs.YtdaionnpgcdkdaaDoor.withdrawR (Go.Proofs.YtdaionnpgcdkdaaDoor.natS a0_0 a0_1 a0_2 a0_3) (Go.Proofs.YtdaionnpgcdkdaaDoor.natS a0_4 a0_5 a0_6 a0_7) a1)) else none
theorem roll_Withdraw.calls (a0_0 : Int) (a0_1 : Int) (a0_2 : Int) (a0_3 : Int) (a0_4 : Int) (a0_5 : Int) (a0_6 : Int) (a0_7 : Int) (a1 : Int) (r1 : Int) (r2 : Int) (r3 : Int) (r4 : Int) (r5 : Int) (r6 : Int) (r7 : Int) (r8 : Int) (r9 : Bool) (w : World) (hG : Go.Proofs.YtdaionnpgcdkdaaDoor.GLW w) (h : roll_Withdraw.f a0_0 a0_1 a0_2 a0_3 a0_4 a0_5 a0_6 a0_7 a1 = some (r1, r2, r3, r4, r5, r6, r7, r8, r9)) :
    Calls Tryd.prog 15 #[.agg #[.int .u64 a0_0, .int .u64 a0_1, .int .u64 a0_2, .int .u64 a0_3, .int .u64 a0_4, .int .u64 a0_5, .int .u64 a0_6, .int .u64 a0_7], .int .i64 a1] w fun e w' => e = .returned (.tuple #[.agg #[.int .u64 r1, .int .u64 r2, .int .u64 r3, .int .u64 r4, .int .u64 r5, .int .u64 r6, .int .u64 r7, .int .u64 r8], .bool r9]) ∧ Below w.heap.size w w' := by
  unfold roll_Withdraw.f at h
  split at h
  · rename_i hk
    rw [Bool.and_eq_true] at hk
    simp only [Go.Proofs.YtdaionnpgcdkdaaDoor.tupR, Option.some.injEq, Prod.mk.injEq] at h
    obtain ⟨rfl, rfl, rfl, rfl, rfl, rfl, rfl, rfl, rfl⟩ := h
    exact Go.Proofs.YtdaionnpgcdkdaaDoor.withdraw_words hk.1 hk.2 a1 w hG.out
  · cases h

/-! ### barrier_Withdraw: function 39 -/
def barrier_Withdraw.f (a0_0 : Bool) (a0_1 : Int) (a0_2 : Int) (a0_3 : Int) (a0_4 : Int) (a0_5 : Int) (a0_6 : Int) (a0_7 : Int) (a0_8 : Int) (a0_9 : Int) (a0_10 : Int) (a1 : Int) : Option (Bool × Int × Int × Int × Int × Int × Int × Int × Int × Int × Int) := (barrier_Fine.f a0_0 a0_1 a0_2 a0_3 a0_4 a0_5 a0_6 a0_7 a0_8 a0_9 a0_10).bind fun t199 => (if t199 = true then ((roll_Withdraw.f a0_2 a0_3 a0_4 a0_5 a0_6 a0_7 a0_8 a0_9 a1).bind fun bt200 => (some (a0_0, a0_1, bt200.1, bt200.2.1, bt200.2.2.1, bt200.2.2.2.1, bt200.2.2.2.2.1, bt200.2.2.2.2.2.1, bt200.2.2.2.2.2.2.1, bt200.2.2.2.2.2.2.2.1, a0_10))) else (some (a0_0, a0_1, a0_2, a0_3, a0_4, a0_5, a0_6, a0_7, a0_8, a0_9, a0_10)))
set_option maxHeartbeats 8000000 in
set_option maxRecDepth 100000 in
theorem barrier_Withdraw.calls (a0_0 : Bool) (a0_1 : Int) (a0_2 : Int) (a0_3 : Int) (a0_4 : Int) (a0_5 : Int) (a0_6 : Int) (a0_7 : Int) (a0_8 : Int) (a0_9 : Int) (a0_10 : Int) (a1 : Int) (r1 : Bool) (r2 : Int) (r3 : Int) (r4 : Int) (r5 : Int) (r6 : Int) (r7 : Int) (r8 : Int) (r9 : Int) (r10 : Int) (r11 : Int) (w : World) (hG : Go.Proofs.YtdaionnpgcdkdaaDoor.GLW w) (h : barrier_Withdraw.f a0_0 a0_1 a0_2 a0_3 a0_4 a0_5 a0_6 a0_7 a0_8 a0_9 a0_10 a1 = some (r1, r2, r3, r4, r5, r6, r7, r8, r9, r10, r11)) :
    Calls Tryd.prog 39 #[.agg #[.bool a0_0, .int .i64 a0_1, .int .u64 a0_2, .int .u64 a0_3, .int .u64 a0_4, .int .u64 a0_5, .int .u64 a0_6, .int .u64 a0_7, .int .u64 a0_8, .int .u64 a0_9, .int .i64 a0_10], .int .i64 a1] w fun e w' => e = .returned (.agg #[.bool r1, .int .i64 r2, .int .u64 r3, .int .u64 r4, .int .u64 r5, .int .u64 r6, .int .u64 r7, .int .u64 r8, .int .u64 r9, .int .u64 r10, .int .i64 r11]) ∧ Below w.heap.size w w' := by
  have hu51 := Tryd.underlying51
  have hu28 := Tryd.underlying28
  have HB := Aside0.mk (Below.refl w.heap.size w)
  have H : ((barrier_Fine.f a0_0 a0_1 a0_2 a0_3 a0_4 a0_5 a0_6 a0_7 a0_8 a0_9 a0_10).bind fun t199 => (if t199 = true then ((roll_Withdraw.f a0_2 a0_3 a0_4 a0_5 a0_6 a0_7 a0_8 a0_9 a1).bind fun bt200 => (some (a0_0, a0_1, bt200.1, bt200.2.1, bt200.2.2.1, bt200.2.2.2.1, bt200.2.2.2.2.1, bt200.2.2.2.2.2.1, bt200.2.2.2.2.2.2.1, bt200.2.2.2.2.2.2.2.1, a0_10))) else (some (a0_0, a0_1, a0_2, a0_3, a0_4, a0_5, a0_6, a0_7, a0_8, a0_9, a0_10)))) = some (r1, r2, r3, r4, r5, r6, r7, r8, r9, r10, r11) := h
  clear h
  replace H := Option.bind_eq_some_iff.mp H
  obtain ⟨t199, A30, H⟩ := H
  replace H : (if t199 = true then ((roll_Withdraw.f a0_2 a0_3 a0_4 a0_5 a0_6 a0_7 a0_8 a0_9 a1).bind fun bt200 => (some (a0_0, a0_1, bt200.1, bt200.2.1, bt200.2.2.1, bt200.2.2.2.1, bt200.2.2.2.2.1, bt200.2.2.2.2.2.1, bt200.2.2.2.2.2.2.1, bt200.2.2.2.2.2.2.2.1, a0_10))) else (some (a0_0, a0_1, a0_2, a0_3, a0_4, a0_5, a0_6, a0_7, a0_8, a0_9, a0_10))) = some (r1, r2, r3, r4, r5, r6, r7, r8, r9, r10, r11) := H
  have A3 := Aside0.mk A30
  clear A30
  by_cases c4 : t199 = true
  · subst c4
    have H1 : ((roll_Withdraw.f a0_2 a0_3 a0_4 a0_5 a0_6 a0_7 a0_8 a0_9 a1).bind fun bt200 => (some (a0_0, a0_1, bt200.1, bt200.2.1, bt200.2.2.1, bt200.2.2.2.1, bt200.2.2.2.2.1, bt200.2.2.2.2.2.1, bt200.2.2.2.2.2.2.1, bt200.2.2.2.2.2.2.2.1, a0_10))) = some (r1, r2, r3, r4, r5, r6, r7, r8, r9, r10, r11) := by rw [if_pos rfl] at H; exact H
    clear H
    have H := H1
    clear H1
    replace H := Option.bind_eq_some_iff.mp H
    obtain ⟨⟨t200, t201, t202, t203, t204, t205, t206, t207, t208⟩, A50, H⟩ := H
    replace H : (some (a0_0, a0_1, t200, t201, t202, t203, t204, t205, t206, t207, a0_10)) = some (r1, r2, r3, r4, r5, r6, r7, r8, r9, r10, r11) := H
    have A5 := Aside0.mk A50
    clear A50
    simp only [Option.some.injEq, Prod.mk.injEq] at H
    obtain ⟨rfl, rfl, rfl, rfl, rfl, rfl, rfl, rfl, rfl, rfl, rfl⟩ := H
    go_enter Tryd.func39, Tryd.ntmps39
    go_wp2_with (first | ((with_reducible refine gate_dst (N := 2) rfl ?_); refine box_event ?hg (N := 2) ?hd (cs := #[.bool a0_0, .int .i64 a0_1, .int .u64 a0_2, .int .u64 a0_3, .int .u64 a0_4, .int .u64 a0_5, .int .u64 a0_6, .int .u64 a0_7, .int .u64 a0_8, .int .u64 a0_9, .int .i64 a0_10]) (t := 51) ?hr ?_; (case hd => rfl); (case hg => rfl); (case hr => first | (go_simp; done) | (go_simp; rfl)); intro gb197 hg w6 hbox hb; have BK197 := Aside0.mk (hbox); have GW197 := Aside0.mk ((by rw [hg]; exact (below_size (by exact HB.out)) : w.heap.size ≤ gb197)); have GE197 := Aside0.mk ((by rw [hg]; exact (below_size (by exact HB.out)) : w.heap.size ≤ gb197)); replace HB := Aside0.mk (below_step (by exact HB.out) hb); clear hb hbox hg) | ((with_reducible refine gate_dst (N := 4) rfl ?_); refine box_event ?hg (N := 4) ?hd (cs := #[.bool false, .int .i64 0, .int .u64 0, .int .u64 0, .int .u64 0, .int .u64 0, .int .u64 0, .int .u64 0, .int .u64 0, .int .u64 0, .int .i64 0]) (t := 51) ?hr ?_; (case hd => rfl); (case hg => rfl); (case hr => first | (go_simp; done) | (go_simp; rfl)); intro gb198 hg w7 hbox hb; have BK198 := Aside0.mk (hbox); have GW198 := Aside0.mk ((by rw [hg]; exact (below_size (by exact HB.out)) : w.heap.size ≤ gb198)); have GE198 := Aside0.mk ((by rw [hg]; exact (below_size (by exact HB.out)) : w.heap.size ≤ gb198)); replace HB := Aside0.mk (below_step (by exact HB.out) hb); have NB197_198 := Aside0.mk ((by rw [hg]; exact Nat.ne_of_lt (blk_lt BK197.out) : gb197 ≠ gb198)); have NB198_197 := Aside0.mk ((by rw [hg]; exact Nat.ne_of_gt (blk_lt BK197.out) : gb198 ≠ gb197)); replace BK197 := Aside0.mk (blk_below BK197.out hb); clear hb hbox hg; have hnb8 := NB197_198.out; have hnc8 := NB198_197.out; have hcz9_0 : w7.cell? ⟨gb197, 0, none⟩ = some (.bool a0_0) := (blk_cell BK197.out 0).trans rfl; have hcz9_1 : w7.cell? ⟨gb197, 1, none⟩ = some (.int .i64 a0_1) := (blk_cell BK197.out 1).trans rfl; have hcz9_2 : w7.cell? ⟨gb197, 2, none⟩ = some (.int .u64 a0_2) := (blk_cell BK197.out 2).trans rfl; have hcz9_3 : w7.cell? ⟨gb197, 3, none⟩ = some (.int .u64 a0_3) := (blk_cell BK197.out 3).trans rfl; have hcz9_4 : w7.cell? ⟨gb197, 4, none⟩ = some (.int .u64 a0_4) := (blk_cell BK197.out 4).trans rfl; have hcz9_5 : w7.cell? ⟨gb197, 5, none⟩ = some (.int .u64 a0_5) := (blk_cell BK197.out 5).trans rfl; have hcz9_6 : w7.cell? ⟨gb197, 6, none⟩ = some (.int .u64 a0_6) := (blk_cell BK197.out 6).trans rfl; have hcz9_7 : w7.cell? ⟨gb197, 7, none⟩ = some (.int .u64 a0_7) := (blk_cell BK197.out 7).trans rfl; have hcz9_8 : w7.cell? ⟨gb197, 8, none⟩ = some (.int .u64 a0_8) := (blk_cell BK197.out 8).trans rfl; have hcz9_9 : w7.cell? ⟨gb197, 9, none⟩ = some (.int .u64 a0_9) := (blk_cell BK197.out 9).trans rfl; have hcz9_10 : w7.cell? ⟨gb197, 10, none⟩ = some (.int .i64 a0_10) := (blk_cell BK197.out 10).trans rfl; have hfz9_0 := blk_frozen BK197.out 0; have hfz9_1 := blk_frozen BK197.out 1; have hfz9_2 := blk_frozen BK197.out 2; have hfz9_3 := blk_frozen BK197.out 3; have hfz9_4 := blk_frozen BK197.out 4; have hfz9_5 := blk_frozen BK197.out 5; have hfz9_6 := blk_frozen BK197.out 6; have hfz9_7 := blk_frozen BK197.out 7; have hfz9_8 := blk_frozen BK197.out 8; have hfz9_9 := blk_frozen BK197.out 9; have hfz9_10 := blk_frozen BK197.out 10) | ((with_reducible refine gate_callee (f := 41) rfl ?_); refine goesL_ (some 6) rfl rfl Tryd.func41 (by kernel_rfl) rfl #[.agg #[.bool a0_0, .int .i64 a0_1, .int .u64 a0_2, .int .u64 a0_3, .int .u64 a0_4, .int .u64 a0_5, .int .u64 a0_6, .int .u64 a0_7, .int .u64 a0_8, .int .u64 a0_9, .int .i64 a0_10]] rfl (by (try simp only [List.map_toArray, List.map_cons, List.map_nil]); first | done | rfl | (simp only [List.length_drop, List.length_take]; rfl)) ?_; (with_reducible refine (barrier_Fine.calls a0_0 a0_1 a0_2 a0_3 a0_4 a0_5 a0_6 a0_7 a0_8 a0_9 a0_10 true _ ?side1 A3.out).mono ?_); (case side1 => exact Go.Proofs.YtdaionnpgcdkdaaDoor.GLW.below hG (by exact HB.out)); rintro e w10 ⟨rfl, hb⟩; refine ⟨_, rfl, ?_⟩; replace BK197 := Aside0.mk (blk_below BK197.out hb); replace BK198 := Aside0.mk (blk_below BK198.out hb); replace HB := Aside0.mk (below_step (by exact HB.out) hb); (try clear hb); (try clear hb2); (try clear hk); (try clear hi); have hcz11_0 : w10.cell? ⟨gb197, 0, none⟩ = some (.bool a0_0) := (blk_cell BK197.out 0).trans rfl; have hcz11_1 : w10.cell? ⟨gb197, 1, none⟩ = some (.int .i64 a0_1) := (blk_cell BK197.out 1).trans rfl; have hcz11_2 : w10.cell? ⟨gb197, 2, none⟩ = some (.int .u64 a0_2) := (blk_cell BK197.out 2).trans rfl; have hcz11_3 : w10.cell? ⟨gb197, 3, none⟩ = some (.int .u64 a0_3) := (blk_cell BK197.out 3).trans rfl; have hcz11_4 : w10.cell? ⟨gb197, 4, none⟩ = some (.int .u64 a0_4) := (blk_cell BK197.out 4).trans rfl; have hcz11_5 : w10.cell? ⟨gb197, 5, none⟩ = some (.int .u64 a0_5) := (blk_cell BK197.out 5).trans rfl; have hcz11_6 : w10.cell? ⟨gb197, 6, none⟩ = some (.int .u64 a0_6) := (blk_cell BK197.out 6).trans rfl; have hcz11_7 : w10.cell? ⟨gb197, 7, none⟩ = some (.int .u64 a0_7) := (blk_cell BK197.out 7).trans rfl; have hcz11_8 : w10.cell? ⟨gb197, 8, none⟩ = some (.int .u64 a0_8) := (blk_cell BK197.out 8).trans rfl; have hcz11_9 : w10.cell? ⟨gb197, 9, none⟩ = some (.int .u64 a0_9) := (blk_cell BK197.out 9).trans rfl; have hcz11_10 : w10.cell? ⟨gb197, 10, none⟩ = some (.int .i64 a0_10) := (blk_cell BK197.out 10).trans rfl; have hfz11_0 := blk_frozen BK197.out 0; have hfz11_1 := blk_frozen BK197.out 1; have hfz11_2 := blk_frozen BK197.out 2; have hfz11_3 := blk_frozen BK197.out 3; have hfz11_4 := blk_frozen BK197.out 4; have hfz11_5 := blk_frozen BK197.out 5; have hfz11_6 := blk_frozen BK197.out 6; have hfz11_7 := blk_frozen BK197.out 7; have hfz11_8 := blk_frozen BK197.out 8; have hfz11_9 := blk_frozen BK197.out 9; have hfz11_10 := blk_frozen BK197.out 10) | ((with_reducible refine gate_callee (f := 15) rfl ?_); refine goesL_ (some 11) rfl rfl Tryd.func15 (by kernel_rfl) rfl #[.agg #[.int .u64 a0_2, .int .u64 a0_3, .int .u64 a0_4, .int .u64 a0_5, .int .u64 a0_6, .int .u64 a0_7, .int .u64 a0_8, .int .u64 a0_9], .int .i64 a1] rfl (by (try simp only [List.map_toArray, List.map_cons, List.map_nil]); first | done | rfl | (simp only [List.length_drop, List.length_take]; rfl)) ?_; (with_reducible refine (roll_Withdraw.calls a0_2 a0_3 a0_4 a0_5 a0_6 a0_7 a0_8 a0_9 a1 t200 t201 t202 t203 t204 t205 t206 t207 t208 _ ?side1 A5.out).mono ?_); (case side1 => exact Go.Proofs.YtdaionnpgcdkdaaDoor.GLW.below hG (by exact HB.out)); rintro e w12 ⟨rfl, hb⟩; refine ⟨_, rfl, ?_⟩; replace BK197 := Aside0.mk (blk_below BK197.out hb); replace BK198 := Aside0.mk (blk_below BK198.out hb); replace HB := Aside0.mk (below_step (by exact HB.out) hb); (try clear hb); (try clear hb2); (try clear hk); (try clear hi); have hcz13_0 : w12.cell? ⟨gb197, 0, none⟩ = some (.bool a0_0) := (blk_cell BK197.out 0).trans rfl; have hcz13_1 : w12.cell? ⟨gb197, 1, none⟩ = some (.int .i64 a0_1) := (blk_cell BK197.out 1).trans rfl; have hcz13_2 : w12.cell? ⟨gb197, 2, none⟩ = some (.int .u64 a0_2) := (blk_cell BK197.out 2).trans rfl; have hcz13_3 : w12.cell? ⟨gb197, 3, none⟩ = some (.int .u64 a0_3) := (blk_cell BK197.out 3).trans rfl; have hcz13_4 : w12.cell? ⟨gb197, 4, none⟩ = some (.int .u64 a0_4) := (blk_cell BK197.out 4).trans rfl; have hcz13_5 : w12.cell? ⟨gb197, 5, none⟩ = some (.int .u64 a0_5) := (blk_cell BK197.out 5).trans rfl; have hcz13_6 : w12.cell? ⟨gb197, 6, none⟩ = some (.int .u64 a0_6) := (blk_cell BK197.out 6).trans rfl; have hcz13_7 : w12.cell? ⟨gb197, 7, none⟩ = some (.int .u64 a0_7) := (blk_cell BK197.out 7).trans rfl; have hcz13_8 : w12.cell? ⟨gb197, 8, none⟩ = some (.int .u64 a0_8) := (blk_cell BK197.out 8).trans rfl; have hcz13_9 : w12.cell? ⟨gb197, 9, none⟩ = some (.int .u64 a0_9) := (blk_cell BK197.out 9).trans rfl; have hcz13_10 : w12.cell? ⟨gb197, 10, none⟩ = some (.int .i64 a0_10) := (blk_cell BK197.out 10).trans rfl; have hfz13_0 := blk_frozen BK197.out 0; have hfz13_1 := blk_frozen BK197.out 1; have hfz13_2 := blk_frozen BK197.out 2; have hfz13_3 := blk_frozen BK197.out 3; have hfz13_4 := blk_frozen BK197.out 4; have hfz13_5 := blk_frozen BK197.out 5; have hfz13_6 := blk_frozen BK197.out 6; have hfz13_7 := blk_frozen BK197.out 7; have hfz13_8 := blk_frozen BK197.out 8; have hfz13_9 := blk_frozen BK197.out 9; have hfz13_10 := blk_frozen BK197.out 10; have hcz14_0 : w12.cell? ⟨gb198, 0, none⟩ = some (.bool false) := (blk_cell BK198.out 0).trans rfl; have hcz14_1 : w12.cell? ⟨gb198, 1, none⟩ = some (.int .i64 0) := (blk_cell BK198.out 1).trans rfl; have hcz14_2 : w12.cell? ⟨gb198, 2, none⟩ = some (.int .u64 0) := (blk_cell BK198.out 2).trans rfl; have hcz14_3 : w12.cell? ⟨gb198, 3, none⟩ = some (.int .u64 0) := (blk_cell BK198.out 3).trans rfl; have hcz14_4 : w12.cell? ⟨gb198, 4, none⟩ = some (.int .u64 0) := (blk_cell BK198.out 4).trans rfl; have hcz14_5 : w12.cell? ⟨gb198, 5, none⟩ = some (.int .u64 0) := (blk_cell BK198.out 5).trans rfl; have hcz14_6 : w12.cell? ⟨gb198, 6, none⟩ = some (.int .u64 0) := (blk_cell BK198.out 6).trans rfl; have hcz14_7 : w12.cell? ⟨gb198, 7, none⟩ = some (.int .u64 0) := (blk_cell BK198.out 7).trans rfl; have hcz14_8 : w12.cell? ⟨gb198, 8, none⟩ = some (.int .u64 0) := (blk_cell BK198.out 8).trans rfl; have hcz14_9 : w12.cell? ⟨gb198, 9, none⟩ = some (.int .u64 0) := (blk_cell BK198.out 9).trans rfl; have hcz14_10 : w12.cell? ⟨gb198, 10, none⟩ = some (.int .i64 0) := (blk_cell BK198.out 10).trans rfl; have hfz14_0 := blk_frozen BK198.out 0; have hfz14_1 := blk_frozen BK198.out 1; have hfz14_2 := blk_frozen BK198.out 2; have hfz14_3 := blk_frozen BK198.out 3; have hfz14_4 := blk_frozen BK198.out 4; have hfz14_5 := blk_frozen BK198.out 5; have hfz14_6 := blk_frozen BK198.out 6; have hfz14_7 := blk_frozen BK198.out 7; have hfz14_8 := blk_frozen BK198.out 8; have hfz14_9 := blk_frozen BK198.out 9; have hfz14_10 := blk_frozen BK198.out 10))
    refine bodyPost_ret (results_cell_row rfl _ _ gb198 51 #[.bool a0_0, .int .i64 a0_1, .int .u64 t200, .int .u64 t201, .int .u64 t202, .int .u64 t203, .int .u64 t204, .int .u64 t205, .int .u64 t206, .int .u64 t207, .int .i64 a0_10] (0, 0) _ rfl (by apply pt51_0_11; (iterate 8 refine blk_far ?_ NB198_197.out _); exact BK198.out) Tryd.underlying51 rfl (by kernel_rfl)) rfl ?_
    exact ⟨by first | rfl | (simp [errW_none, errW_some] <;> rfl) | (simp [*, errW_none, errW_some] <;> rfl), by repeat (first | (with_reducible first | exact HB.out | apply below_alloc | apply pw_below_drewN | apply below_drew1 | refine below_set ?_ GE197.out | refine below_set ?_ GE198.out) | exact HB.out)⟩
  · replace c4 := Bool.eq_false_iff.mpr c4
    subst c4
    have H1 : (some (a0_0, a0_1, a0_2, a0_3, a0_4, a0_5, a0_6, a0_7, a0_8, a0_9, a0_10)) = some (r1, r2, r3, r4, r5, r6, r7, r8, r9, r10, r11) := by rw [if_neg (show ¬ (false = true) by decide)] at H; exact H
    clear H
    have H := H1
    clear H1
    simp only [Option.some.injEq, Prod.mk.injEq] at H
    obtain ⟨rfl, rfl, rfl, rfl, rfl, rfl, rfl, rfl, rfl, rfl, rfl⟩ := H
    go_enter Tryd.func39, Tryd.ntmps39
    go_wp2_with (first | ((with_reducible refine gate_dst (N := 2) rfl ?_); refine box_event ?hg (N := 2) ?hd (cs := #[.bool a0_0, .int .i64 a0_1, .int .u64 a0_2, .int .u64 a0_3, .int .u64 a0_4, .int .u64 a0_5, .int .u64 a0_6, .int .u64 a0_7, .int .u64 a0_8, .int .u64 a0_9, .int .i64 a0_10]) (t := 51) ?hr ?_; (case hd => rfl); (case hg => rfl); (case hr => first | (go_simp; done) | (go_simp; rfl)); intro gb197 hg w15 hbox hb; have BK197 := Aside0.mk (hbox); have GW197 := Aside0.mk ((by rw [hg]; exact (below_size (by exact HB.out)) : w.heap.size ≤ gb197)); have GE197 := Aside0.mk ((by rw [hg]; exact (below_size (by exact HB.out)) : w.heap.size ≤ gb197)); replace HB := Aside0.mk (below_step (by exact HB.out) hb); clear hb hbox hg) | ((with_reducible refine gate_dst (N := 4) rfl ?_); refine box_event ?hg (N := 4) ?hd (cs := #[.bool false, .int .i64 0, .int .u64 0, .int .u64 0, .int .u64 0, .int .u64 0, .int .u64 0, .int .u64 0, .int .u64 0, .int .u64 0, .int .i64 0]) (t := 51) ?hr ?_; (case hd => rfl); (case hg => rfl); (case hr => first | (go_simp; done) | (go_simp; rfl)); intro gb198 hg w16 hbox hb; have BK198 := Aside0.mk (hbox); have GW198 := Aside0.mk ((by rw [hg]; exact (below_size (by exact HB.out)) : w.heap.size ≤ gb198)); have GE198 := Aside0.mk ((by rw [hg]; exact (below_size (by exact HB.out)) : w.heap.size ≤ gb198)); replace HB := Aside0.mk (below_step (by exact HB.out) hb); have NB197_198 := Aside0.mk ((by rw [hg]; exact Nat.ne_of_lt (blk_lt BK197.out) : gb197 ≠ gb198)); have NB198_197 := Aside0.mk ((by rw [hg]; exact Nat.ne_of_gt (blk_lt BK197.out) : gb198 ≠ gb197)); replace BK197 := Aside0.mk (blk_below BK197.out hb); clear hb hbox hg; have hnb17 := NB197_198.out; have hnc17 := NB198_197.out; have hcz18_0 : w16.cell? ⟨gb197, 0, none⟩ = some (.bool a0_0) := (blk_cell BK197.out 0).trans rfl; have hcz18_1 : w16.cell? ⟨gb197, 1, none⟩ = some (.int .i64 a0_1) := (blk_cell BK197.out 1).trans rfl; have hcz18_2 : w16.cell? ⟨gb197, 2, none⟩ = some (.int .u64 a0_2) := (blk_cell BK197.out 2).trans rfl; have hcz18_3 : w16.cell? ⟨gb197, 3, none⟩ = some (.int .u64 a0_3) := (blk_cell BK197.out 3).trans rfl; have hcz18_4 : w16.cell? ⟨gb197, 4, none⟩ = some (.int .u64 a0_4) := (blk_cell BK197.out 4).trans rfl; have hcz18_5 : w16.cell? ⟨gb197, 5, none⟩ = some (.int .u64 a0_5) := (blk_cell BK197.out 5).trans rfl; have hcz18_6 : w16.cell? ⟨gb197, 6, none⟩ = some (.int .u64 a0_6) := (blk_cell BK197.out 6).trans rfl; have hcz18_7 : w16.cell? ⟨gb197, 7, none⟩ = some (.int .u64 a0_7) := (blk_cell BK197.out 7).trans rfl; have hcz18_8 : w16.cell? ⟨gb197, 8, none⟩ = some (.int .u64 a0_8) := (blk_cell BK197.out 8).trans rfl; have hcz18_9 : w16.cell? ⟨gb197, 9, none⟩ = some (.int .u64 a0_9) := (blk_cell BK197.out 9).trans rfl; have hcz18_10 : w16.cell? ⟨gb197, 10, none⟩ = some (.int .i64 a0_10) := (blk_cell BK197.out 10).trans rfl; have hfz18_0 := blk_frozen BK197.out 0; have hfz18_1 := blk_frozen BK197.out 1; have hfz18_2 := blk_frozen BK197.out 2; have hfz18_3 := blk_frozen BK197.out 3; have hfz18_4 := blk_frozen BK197.out 4; have hfz18_5 := blk_frozen BK197.out 5; have hfz18_6 := blk_frozen BK197.out 6; have hfz18_7 := blk_frozen BK197.out 7; have hfz18_8 := blk_frozen BK197.out 8; have hfz18_9 := blk_frozen BK197.out 9; have hfz18_10 := blk_frozen BK197.out 10) | ((with_reducible refine gate_callee (f := 41) rfl ?_); refine goesL_ (some 6) rfl rfl Tryd.func41 (by kernel_rfl) rfl #[.agg #[.bool a0_0, .int .i64 a0_1, .int .u64 a0_2, .int .u64 a0_3, .int .u64 a0_4, .int .u64 a0_5, .int .u64 a0_6, .int .u64 a0_7, .int .u64 a0_8, .int .u64 a0_9, .int .i64 a0_10]] rfl (by (try simp only [List.map_toArray, List.map_cons, List.map_nil]); first | done | rfl | (simp only [List.length_drop, List.length_take]; rfl)) ?_; (with_reducible refine (barrier_Fine.calls a0_0 a0_1 a0_2 a0_3 a0_4 a0_5 a0_6 a0_7 a0_8 a0_9 a0_10 false _ ?side1 A3.out).mono ?_); (case side1 => exact Go.Proofs.YtdaionnpgcdkdaaDoor.GLW.below hG (by exact HB.out)); rintro e w19 ⟨rfl, hb⟩; refine ⟨_, rfl, ?_⟩; replace BK197 := Aside0.mk (blk_below BK197.out hb); replace BK198 := Aside0.mk (blk_below BK198.out hb); replace HB := Aside0.mk (below_step (by exact HB.out) hb); (try clear hb); (try clear hb2); (try clear hk); (try clear hi); have hcz20_0 : w19.cell? ⟨gb197, 0, none⟩ = some (.bool a0_0) := (blk_cell BK197.out 0).trans rfl; have hcz20_1 : w19.cell? ⟨gb197, 1, none⟩ = some (.int .i64 a0_1) := (blk_cell BK197.out 1).trans rfl; have hcz20_2 : w19.cell? ⟨gb197, 2, none⟩ = some (.int .u64 a0_2) := (blk_cell BK197.out 2).trans rfl; have hcz20_3 : w19.cell? ⟨gb197, 3, none⟩ = some (.int .u64 a0_3) := (blk_cell BK197.out 3).trans rfl; have hcz20_4 : w19.cell? ⟨gb197, 4, none⟩ = some (.int .u64 a0_4) := (blk_cell BK197.out 4).trans rfl; have hcz20_5 : w19.cell? ⟨gb197, 5, none⟩ = some (.int .u64 a0_5) := (blk_cell BK197.out 5).trans rfl; have hcz20_6 : w19.cell? ⟨gb197, 6, none⟩ = some (.int .u64 a0_6) := (blk_cell BK197.out 6).trans rfl; have hcz20_7 : w19.cell? ⟨gb197, 7, none⟩ = some (.int .u64 a0_7) := (blk_cell BK197.out 7).trans rfl; have hcz20_8 : w19.cell? ⟨gb197, 8, none⟩ = some (.int .u64 a0_8) := (blk_cell BK197.out 8).trans rfl; have hcz20_9 : w19.cell? ⟨gb197, 9, none⟩ = some (.int .u64 a0_9) := (blk_cell BK197.out 9).trans rfl; have hcz20_10 : w19.cell? ⟨gb197, 10, none⟩ = some (.int .i64 a0_10) := (blk_cell BK197.out 10).trans rfl; have hfz20_0 := blk_frozen BK197.out 0; have hfz20_1 := blk_frozen BK197.out 1; have hfz20_2 := blk_frozen BK197.out 2; have hfz20_3 := blk_frozen BK197.out 3; have hfz20_4 := blk_frozen BK197.out 4; have hfz20_5 := blk_frozen BK197.out 5; have hfz20_6 := blk_frozen BK197.out 6; have hfz20_7 := blk_frozen BK197.out 7; have hfz20_8 := blk_frozen BK197.out 8; have hfz20_9 := blk_frozen BK197.out 9; have hfz20_10 := blk_frozen BK197.out 10; have hcz21_0 : w19.cell? ⟨gb198, 0, none⟩ = some (.bool false) := (blk_cell BK198.out 0).trans rfl; have hcz21_1 : w19.cell? ⟨gb198, 1, none⟩ = some (.int .i64 0) := (blk_cell BK198.out 1).trans rfl; have hcz21_2 : w19.cell? ⟨gb198, 2, none⟩ = some (.int .u64 0) := (blk_cell BK198.out 2).trans rfl; have hcz21_3 : w19.cell? ⟨gb198, 3, none⟩ = some (.int .u64 0) := (blk_cell BK198.out 3).trans rfl; have hcz21_4 : w19.cell? ⟨gb198, 4, none⟩ = some (.int .u64 0) := (blk_cell BK198.out 4).trans rfl; have hcz21_5 : w19.cell? ⟨gb198, 5, none⟩ = some (.int .u64 0) := (blk_cell BK198.out 5).trans rfl; have hcz21_6 : w19.cell? ⟨gb198, 6, none⟩ = some (.int .u64 0) := (blk_cell BK198.out 6).trans rfl; have hcz21_7 : w19.cell? ⟨gb198, 7, none⟩ = some (.int .u64 0) := (blk_cell BK198.out 7).trans rfl; have hcz21_8 : w19.cell? ⟨gb198, 8, none⟩ = some (.int .u64 0) := (blk_cell BK198.out 8).trans rfl; have hcz21_9 : w19.cell? ⟨gb198, 9, none⟩ = some (.int .u64 0) := (blk_cell BK198.out 9).trans rfl; have hcz21_10 : w19.cell? ⟨gb198, 10, none⟩ = some (.int .i64 0) := (blk_cell BK198.out 10).trans rfl; have hfz21_0 := blk_frozen BK198.out 0; have hfz21_1 := blk_frozen BK198.out 1; have hfz21_2 := blk_frozen BK198.out 2; have hfz21_3 := blk_frozen BK198.out 3; have hfz21_4 := blk_frozen BK198.out 4; have hfz21_5 := blk_frozen BK198.out 5; have hfz21_6 := blk_frozen BK198.out 6; have hfz21_7 := blk_frozen BK198.out 7; have hfz21_8 := blk_frozen BK198.out 8; have hfz21_9 := blk_frozen BK198.out 9; have hfz21_10 := blk_frozen BK198.out 10))
    refine bodyPost_ret (results_cell_row rfl _ _ gb198 51 #[.bool a0_0, .int .i64 a0_1, .int .u64 a0_2, .int .u64 a0_3, .int .u64 a0_4, .int .u64 a0_5, .int .u64 a0_6, .int .u64 a0_7, .int .u64 a0_8, .int .u64 a0_9, .int .i64 a0_10] (0, 0) _ rfl (by apply pt51_0_11; exact BK198.out) Tryd.underlying51 rfl (by kernel_rfl)) rfl ?_
    exact ⟨by first | rfl | (simp [errW_none, errW_some] <;> rfl) | (simp [*, errW_none, errW_some] <;> rfl), by repeat (first | (with_reducible first | exact HB.out | apply below_alloc | apply pw_below_drewN | apply below_drew1 | refine below_set ?_ GE197.out | refine below_set ?_ GE198.out) | exact HB.out)⟩

end Go.Proofs.YtdaionnpgcdkdaaDoorP.Bar
