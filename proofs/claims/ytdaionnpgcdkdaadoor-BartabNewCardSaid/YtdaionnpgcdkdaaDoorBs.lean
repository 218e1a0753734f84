/- The contracts of package bitset. -/
import Derived.Test.YtdaionnpgcdkdaaDoorProg
import Derived.Test.YtdaionnpgcdkdaaDoorSet
import Derived.Test.YtdaionnpgcdkdaaDoorW
import Derived.Test.YtdaionnpgcdkdaaDoorPop
import Derived.Test.YtdaionnpgcdkdaaDoorCtz
import Derived.WalkKit
import Derived.Below
import Derived.KernelRfl
import Derived.Lib.Hide
import Derived.BigQuiet
import Derived.Deep.QuietTactic
import Derived.Deep.RegionLaw
import Derived.Deep.DeepCutAuto
import Derived.Deep.CutBlock
import Derived.ChangeKeysEq
set_option linter.unusedVariables false
set_option linter.unusedSimpArgs false
namespace Go.Proofs.YtdaionnpgcdkdaaDoor
open Go.RowKit
open Sets (hasS addS dropS lessS subS isId)

theorem fine_any (n : Int) (w : World) :
    Calls Tryd.prog 90 #[.int .i64 n] w fun e w' => e = .returned (.bool (isId n)) ∧ w = w' := by
  have e : isId n = (decide (0 ≤ n) && decide (n ≤ 255)) := rfl
  by_cases h : 0 ≤ n
  · go_enter Tryd.func90, Tryd.ntmps90
    go_wp2
    go_ret
    simp [e, h]
  · go_enter Tryd.func90, Tryd.ntmps90
    go_wp2
    go_ret
    simp; omega

theorem split_id (n : Int) (h : isId n = true) : ∃ q j : Nat, q < 4 ∧ j < 64 ∧ n = 64 * q + j ∧ n.toNat = 64 * q + j := by
  have := (Sets.isId_iff n).1 h
  exact ⟨n.toNat / 64, n.toNat % 64, by omega, by omega, by omega, by omega⟩

set_option maxHeartbeats 400000 in
theorem has_q (q j : Nat) (hq : q < 4) (hj : j < 64) (n : Int) (hn : n = 64 * q + j) (s : Nat) (w : World) :
    Calls Tryd.prog 45 #[.agg #[.int .u64 (Sets.wd s 0), .int .u64 (Sets.wd s 1), .int .u64 (Sets.wd s 2), .int .u64 (Sets.wd s 3)], .int .i64 n] w fun e w' => e = .returned (.bool (s.testBit (64 * q + j))) ∧ Below w.heap.size w w' := by
  have hi : isId n = true := by simp [isId]; omega
  have h0 : 0 ≤ n := by omega
  have h1 : n ≤ 255 := by omega
  have hd : n / 64 = q := by omega
  have hr : n % 64 = j := by omega
  have H := Lib.hid (Sets.has_word s q j hj)
  clear hn
  match q, hq with
  | 0, _ | 1, _ | 2, _ | 3, _ =>
    go_enter Tryd.func45, Tryd.ntmps45
    go_wp2_with (go_at_call 90; refine (fine_any _ _).mono ?_; rintro e w' ⟨rfl, rfl⟩)
    go_ret
    exact ⟨by rw [H.out]; rfl, by (repeat (first | (with_reducible apply Wl.bl_alloc) | (with_reducible apply Wl.bl_drewN) | (with_reducible apply Wl.bl_drew) | (with_reducible refine Wl.bl_set ?_ (by simp; try omega)) | (with_reducible exact Below.refl _ _) | (with_reducible assumption) | (with_reducible refine Wl.bl_trans ?_ (by assumption))))⟩

theorem has_any (s : Nat) (n : Int) (w : World) :
    Calls Tryd.prog 45 #[.agg #[.int .u64 (Sets.wd s 0), .int .u64 (Sets.wd s 1), .int .u64 (Sets.wd s 2), .int .u64 (Sets.wd s 3)], .int .i64 n] w fun e w' => e = .returned (.bool (hasS s n)) ∧ Below w.heap.size w w' := by
  cases hi : isId n with
  | true =>
    obtain ⟨q, j, hq, hj, hn, hn'⟩ := split_id n hi
    refine (has_q q j hq hj n hn s w).mono ?_
    rintro e w' ⟨rfl, hb⟩
    exact ⟨by simp [hasS, hi, hn'], hb⟩
  | false =>
    go_enter Tryd.func45, Tryd.ntmps45
    go_wp2_with (go_at_call 90; refine (fine_any _ _).mono ?_; rintro e w' ⟨rfl, rfl⟩)
    go_ret
    exact ⟨by simp [hasS, hi], by (repeat (first | (with_reducible apply Wl.bl_alloc) | (with_reducible apply Wl.bl_drewN) | (with_reducible apply Wl.bl_drew) | (with_reducible refine Wl.bl_set ?_ (by simp; try omega)) | (with_reducible exact Below.refl _ _) | (with_reducible assumption) | (with_reducible refine Wl.bl_trans ?_ (by assumption))))⟩

set_option maxHeartbeats 400000 in
theorem add_q (q j : Nat) (hq : q < 4) (hj : j < 64) (n : Int) (hn : n = 64 * q + j) (s : Nat) (w : World) :
    Calls Tryd.prog 69 #[.agg #[.int .u64 (Sets.wd s 0), .int .u64 (Sets.wd s 1), .int .u64 (Sets.wd s 2), .int .u64 (Sets.wd s 3)], .int .i64 n] w fun e w' => e = .returned (.agg #[.int .u64 (Sets.wd (s ||| 2 ^ (64 * q + j)) 0), .int .u64 (Sets.wd (s ||| 2 ^ (64 * q + j)) 1), .int .u64 (Sets.wd (s ||| 2 ^ (64 * q + j)) 2), .int .u64 (Sets.wd (s ||| 2 ^ (64 * q + j)) 3)]) ∧ Below w.heap.size w w' := by
  have hi : isId n = true := by simp [isId]; omega
  have h0 : 0 ≤ n := by omega
  have h1 : n ≤ 255 := by omega
  have hd : n / 64 = q := by omega
  have hr : n % 64 = j := by omega
  have H := Lib.hid (Sets.add_word s q j hj)
  have H' := Lib.hid (fun k (hk : k ≠ q) => Sets.add_other s q j k hj hk)
  clear hn
  match q, hq with
  | 0, _ | 1, _ | 2, _ | 3, _ =>
    go_enter Tryd.func69, Tryd.ntmps69
    go_wp2_with (go_at_call 90; refine (fine_any _ _).mono ?_; rintro e w' ⟨rfl, rfl⟩)
    go_region
    go_wp2
    refine bodyPost_ret (v := .agg #[.int .u64 (Sets.wd (s ||| 2 ^ (64 * _ + j)) 0), .int .u64 (Sets.wd (s ||| 2 ^ (64 * _ + j)) 1), .int .u64 (Sets.wd (s ||| 2 ^ (64 * _ + j)) 2), .int .u64 (Sets.wd (s ||| 2 ^ (64 * _ + j)) 3)]) ?_ rfl ⟨rfl, ?_⟩
    · first | rw [H'.out 0 (by decide), H'.out 1 (by decide), H'.out 2 (by decide), ← H.out] | rw [H'.out 0 (by decide), H'.out 1 (by decide), ← H.out, H'.out 3 (by decide)] | rw [H'.out 0 (by decide), ← H.out, H'.out 2 (by decide), H'.out 3 (by decide)] | rw [← H.out, H'.out 1 (by decide), H'.out 2 (by decide), H'.out 3 (by decide)]
      simp [results, Tryd.results69, go_sem]
    · (repeat (first | (with_reducible apply Wl.bl_alloc) | (with_reducible apply Wl.bl_drewN) | (with_reducible apply Wl.bl_drew) | (with_reducible refine Wl.bl_set ?_ (by simp; try omega)) | (with_reducible exact Below.refl _ _) | (with_reducible assumption) | (with_reducible refine Wl.bl_trans ?_ (by assumption))))
set_option maxHeartbeats 400000 in
theorem drop_q (q j : Nat) (hq : q < 4) (hj : j < 64) (n : Int) (hn : n = 64 * q + j) (s : Nat) (w : World) :
    Calls Tryd.prog 70 #[.agg #[.int .u64 (Sets.wd s 0), .int .u64 (Sets.wd s 1), .int .u64 (Sets.wd s 2), .int .u64 (Sets.wd s 3)], .int .i64 n] w fun e w' => e = .returned (.agg #[.int .u64 (Sets.wd (s ^^^ (s &&& 2 ^ (64 * q + j))) 0), .int .u64 (Sets.wd (s ^^^ (s &&& 2 ^ (64 * q + j))) 1), .int .u64 (Sets.wd (s ^^^ (s &&& 2 ^ (64 * q + j))) 2), .int .u64 (Sets.wd (s ^^^ (s &&& 2 ^ (64 * q + j))) 3)]) ∧ Below w.heap.size w w' := by
  have hi : isId n = true := by simp [isId]; omega
  have h0 : 0 ≤ n := by omega
  have h1 : n ≤ 255 := by omega
  have hd : n / 64 = q := by omega
  have hr : n % 64 = j := by omega
  have H := Lib.hid (Sets.drop_word s q j hj)
  have H' := Lib.hid (fun k (hk : k ≠ q) => Sets.drop_other s q j k hj hk)
  clear hn
  match q, hq with
  | 0, _ | 1, _ | 2, _ | 3, _ =>
    go_enter Tryd.func70, Tryd.ntmps70
    go_wp2_with (go_at_call 90; refine (fine_any _ _).mono ?_; rintro e w' ⟨rfl, rfl⟩)
    go_region
    go_wp2
    refine bodyPost_ret (v := .agg #[.int .u64 (Sets.wd (s ^^^ (s &&& 2 ^ (64 * _ + j))) 0), .int .u64 (Sets.wd (s ^^^ (s &&& 2 ^ (64 * _ + j))) 1), .int .u64 (Sets.wd (s ^^^ (s &&& 2 ^ (64 * _ + j))) 2), .int .u64 (Sets.wd (s ^^^ (s &&& 2 ^ (64 * _ + j))) 3)]) ?_ rfl ⟨rfl, ?_⟩
    · first | rw [H'.out 0 (by decide), H'.out 1 (by decide), H'.out 2 (by decide), ← H.out] | rw [H'.out 0 (by decide), H'.out 1 (by decide), ← H.out, H'.out 3 (by decide)] | rw [H'.out 0 (by decide), ← H.out, H'.out 2 (by decide), H'.out 3 (by decide)] | rw [← H.out, H'.out 1 (by decide), H'.out 2 (by decide), H'.out 3 (by decide)]
      simp [results, Tryd.results70, go_sem]
    · (repeat (first | (with_reducible apply Wl.bl_alloc) | (with_reducible apply Wl.bl_drewN) | (with_reducible apply Wl.bl_drew) | (with_reducible refine Wl.bl_set ?_ (by simp; try omega)) | (with_reducible exact Below.refl _ _) | (with_reducible assumption) | (with_reducible refine Wl.bl_trans ?_ (by assumption))))

theorem add_any (s : Nat) (n : Int) (w : World) :
    Calls Tryd.prog 69 #[.agg #[.int .u64 (Sets.wd s 0), .int .u64 (Sets.wd s 1), .int .u64 (Sets.wd s 2), .int .u64 (Sets.wd s 3)], .int .i64 n] w fun e w' => e = .returned (.agg #[.int .u64 (Sets.wd (addS s n) 0), .int .u64 (Sets.wd (addS s n) 1), .int .u64 (Sets.wd (addS s n) 2), .int .u64 (Sets.wd (addS s n) 3)]) ∧ Below w.heap.size w w' := by
  cases hi : isId n with
  | true =>
    obtain ⟨q, j, hq, hj, hn, hn'⟩ := split_id n hi
    refine (add_q q j hq hj n hn s w).mono ?_
    rintro e w' ⟨rfl, hb⟩
    have e : addS s n = s ||| 2 ^ (64 * q + j) := by simp [addS, hi, hn']
    exact ⟨by rw [e], hb⟩
  | false =>
    have e : addS s n = s := by simp [addS, hi]
    rw [e]
    clear e
    go_enter Tryd.func69, Tryd.ntmps69
    go_wp2_with (go_at_call 90; refine (fine_any _ _).mono ?_; rintro e w' ⟨rfl, rfl⟩)
    refine bodyPost_ret (v := .agg #[.int .u64 (Sets.wd s 0), .int .u64 (Sets.wd s 1), .int .u64 (Sets.wd s 2), .int .u64 (Sets.wd s 3)]) ?_ rfl ⟨rfl, ?_⟩
    · simp [results, Tryd.results69, go_sem]
    · (repeat (first | (with_reducible apply Wl.bl_alloc) | (with_reducible apply Wl.bl_drewN) | (with_reducible apply Wl.bl_drew) | (with_reducible refine Wl.bl_set ?_ (by simp; try omega)) | (with_reducible exact Below.refl _ _) | (with_reducible assumption) | (with_reducible refine Wl.bl_trans ?_ (by assumption))))

theorem drop_any (s : Nat) (n : Int) (w : World) :
    Calls Tryd.prog 70 #[.agg #[.int .u64 (Sets.wd s 0), .int .u64 (Sets.wd s 1), .int .u64 (Sets.wd s 2), .int .u64 (Sets.wd s 3)], .int .i64 n] w fun e w' => e = .returned (.agg #[.int .u64 (Sets.wd (dropS s n) 0), .int .u64 (Sets.wd (dropS s n) 1), .int .u64 (Sets.wd (dropS s n) 2), .int .u64 (Sets.wd (dropS s n) 3)]) ∧ Below w.heap.size w w' := by
  cases hi : isId n with
  | true =>
    obtain ⟨q, j, hq, hj, hn, hn'⟩ := split_id n hi
    refine (drop_q q j hq hj n hn s w).mono ?_
    rintro e w' ⟨rfl, hb⟩
    have e : dropS s n = s ^^^ (s &&& 2 ^ (64 * q + j)) := by simp [dropS, hi, hn']
    exact ⟨by rw [e], hb⟩
  | false =>
    have e : dropS s n = s := by simp [dropS, hi]
    rw [e]
    clear e
    go_enter Tryd.func70, Tryd.ntmps70
    go_wp2_with (go_at_call 90; refine (fine_any _ _).mono ?_; rintro e w' ⟨rfl, rfl⟩)
    refine bodyPost_ret (v := .agg #[.int .u64 (Sets.wd s 0), .int .u64 (Sets.wd s 1), .int .u64 (Sets.wd s 2), .int .u64 (Sets.wd s 3)]) ?_ rfl ⟨rfl, ?_⟩
    · simp [results, Tryd.results70, go_sem]
    · (repeat (first | (with_reducible apply Wl.bl_alloc) | (with_reducible apply Wl.bl_drewN) | (with_reducible apply Wl.bl_drew) | (with_reducible refine Wl.bl_set ?_ (by simp; try omega)) | (with_reducible exact Below.refl _ _) | (with_reducible assumption) | (with_reducible refine Wl.bl_trans ?_ (by assumption))))
theorem less_fn (x y : Int) (w : World) :
    Calls Tryd.prog 111 #[.int .u64 x, .int .u64 y] w fun e w' => e = .returned (.int .u64 (Go.bits .andNot .u64 x y)) ∧ w = w' := by
  go_enter Tryd.func111, Tryd.ntmps111
  go_wp2
  go_ret
  exact ⟨rfl, rfl⟩
set_option maxHeartbeats 1000000 in
theorem each_less (a b : Nat) (w : World) :
    Calls Tryd.prog 110 #[.agg #[.int .u64 (Sets.wd a 0), .int .u64 (Sets.wd a 1), .int .u64 (Sets.wd a 2), .int .u64 (Sets.wd a 3)], .agg #[.int .u64 (Sets.wd b 0), .int .u64 (Sets.wd b 1), .int .u64 (Sets.wd b 2), .int .u64 (Sets.wd b 3)], .func (.func 111) #[] #[]] w fun e w' => e = .returned (.agg #[.int .u64 (Sets.wd (lessS a b) 0), .int .u64 (Sets.wd (lessS a b) 1), .int .u64 (Sets.wd (lessS a b) 2), .int .u64 (Sets.wd (lessS a b) 3)]) ∧ Below w.heap.size w w' := by
  have H0 := Lib.hid (Sets.less_word a b 0)
  have H1 := Lib.hid (Sets.less_word a b 1)
  have H2 := Lib.hid (Sets.less_word a b 2)
  have H3 := Lib.hid (Sets.less_word a b 3)
  generalize Sets.wd a 0 = a0, Sets.wd a 1 = a1, Sets.wd a 2 = a2, Sets.wd a 3 = a3 at *
  generalize Sets.wd b 0 = b0, Sets.wd b 1 = b1, Sets.wd b 2 = b2, Sets.wd b 3 = b3 at *
  go_enter Tryd.func110, Tryd.ntmps110
  go_wp2_with fail
  refine wp_loop_rounds 5 ?_
  rw [rounds_succ]
  go_upto_block 1 with (fail)
  go_cut [] (fun wc => wc = ((((w.alloc (.cells #[.int .u64 (Go.bits .andNot .u64 a0 b0), .int .u64 a1, .int .u64 a2, .int .u64 a3] 26)).alloc (.cells #[.int .u64 b0, .int .u64 b1, .int .u64 b2, .int .u64 b3] 26)).alloc (.cells #[.int .u64 0, .int .u64 0, .int .u64 0, .int .u64 0] 26)).drew))
  case first =>
    go_wp2_with fail
    go_region_law (first | (go_simp; go_at_call 111; refine (less_fn _ _ _).mono ?_; rintro e w' ⟨rfl, rfl⟩))
    all_goals go_wp2_with fail
    all_goals go_meet
    all_goals (case rel => rfl)
  obtain rfl := hcut
  go_wp2_with fail
  rw [rounds_succ]
  go_upto_block 1 with (fail)
  go_cut [] (fun wc => wc = ((((w.alloc (.cells #[.int .u64 (Go.bits .andNot .u64 a0 b0), .int .u64 (Go.bits .andNot .u64 a1 b1), .int .u64 a2, .int .u64 a3] 26)).alloc (.cells #[.int .u64 b0, .int .u64 b1, .int .u64 b2, .int .u64 b3] 26)).alloc (.cells #[.int .u64 0, .int .u64 0, .int .u64 0, .int .u64 0] 26)).drew.drew))
  case first =>
    go_wp2_with fail
    go_region_law (first | (go_simp; go_at_call 111; refine (less_fn _ _ _).mono ?_; rintro e w' ⟨rfl, rfl⟩))
    all_goals go_wp2_with fail
    all_goals go_meet
    all_goals (case rel => rfl)
  obtain rfl := hcut
  go_wp2_with fail
  rw [rounds_succ]
  go_upto_block 1 with (fail)
  go_cut [] (fun wc => wc = ((((w.alloc (.cells #[.int .u64 (Go.bits .andNot .u64 a0 b0), .int .u64 (Go.bits .andNot .u64 a1 b1), .int .u64 (Go.bits .andNot .u64 a2 b2), .int .u64 a3] 26)).alloc (.cells #[.int .u64 b0, .int .u64 b1, .int .u64 b2, .int .u64 b3] 26)).alloc (.cells #[.int .u64 0, .int .u64 0, .int .u64 0, .int .u64 0] 26)).drew.drew.drew))
  case first =>
    go_wp2_with fail
    go_region_law (first | (go_simp; go_at_call 111; refine (less_fn _ _ _).mono ?_; rintro e w' ⟨rfl, rfl⟩))
    all_goals go_wp2_with fail
    all_goals go_meet
    all_goals (case rel => rfl)
  obtain rfl := hcut
  go_wp2_with fail
  rw [rounds_succ]
  go_upto_block 1 with (fail)
  go_cut [] (fun wc => wc = ((((w.alloc (.cells #[.int .u64 (Go.bits .andNot .u64 a0 b0), .int .u64 (Go.bits .andNot .u64 a1 b1), .int .u64 (Go.bits .andNot .u64 a2 b2), .int .u64 (Go.bits .andNot .u64 a3 b3)] 26)).alloc (.cells #[.int .u64 b0, .int .u64 b1, .int .u64 b2, .int .u64 b3] 26)).alloc (.cells #[.int .u64 0, .int .u64 0, .int .u64 0, .int .u64 0] 26)).drew.drew.drew.drew))
  case first =>
    go_wp2_with fail
    go_region_law (first | (go_simp; go_at_call 111; refine (less_fn _ _ _).mono ?_; rintro e w' ⟨rfl, rfl⟩))
    all_goals go_wp2_with fail
    all_goals go_meet
    all_goals (case rel => rfl)
  obtain rfl := hcut
  go_wp2_with fail
  rw [rounds_succ]
  go_wp2_with fail
  refine bodyPost_ret (v := .agg #[.int .u64 (Sets.wd (lessS a b) 0), .int .u64 (Sets.wd (lessS a b) 1), .int .u64 (Sets.wd (lessS a b) 2), .int .u64 (Sets.wd (lessS a b) 3)]) ?_ rfl ⟨rfl, ?_⟩
  · rw [← H0.out, ← H1.out, ← H2.out, ← H3.out]
    simp [results, Tryd.results110, go_sem]
  · (repeat (first | (with_reducible apply Wl.bl_alloc) | (with_reducible apply Wl.bl_drewN) | (with_reducible apply Wl.bl_drew) | (with_reducible refine Wl.bl_set ?_ (by simp; try omega)) | (with_reducible exact Below.refl _ _) | (with_reducible assumption) | (with_reducible refine Wl.bl_trans ?_ (by assumption))))
theorem less_any (a b : Nat) (w : World) :
    Calls Tryd.prog 100 #[.agg #[.int .u64 (Sets.wd a 0), .int .u64 (Sets.wd a 1), .int .u64 (Sets.wd a 2), .int .u64 (Sets.wd a 3)], .agg #[.int .u64 (Sets.wd b 0), .int .u64 (Sets.wd b 1), .int .u64 (Sets.wd b 2), .int .u64 (Sets.wd b 3)]] w fun e w' => e = .returned (.agg #[.int .u64 (Sets.wd (lessS a b) 0), .int .u64 (Sets.wd (lessS a b) 1), .int .u64 (Sets.wd (lessS a b) 2), .int .u64 (Sets.wd (lessS a b) 3)]) ∧ Below w.heap.size w w' := by
  go_enter Tryd.func100, Tryd.ntmps100
  go_wp2_with (go_at_call 110; refine (each_less _ _ _).mono ?_; rintro e w1 ⟨rfl, hb⟩; obtain ⟨hc, hf⟩ := Wl.bcell hb; have hz : w.heap.size + 1 + 1 < w1.heap.size := by have := hb.size; simp at this; omega)
  refine bodyPost_ret (v := .agg #[.int .u64 (Sets.wd (lessS a b) 0), .int .u64 (Sets.wd (lessS a b) 1), .int .u64 (Sets.wd (lessS a b) 2), .int .u64 (Sets.wd (lessS a b) 3)]) ?_ rfl ⟨rfl, ?_⟩
  · simp [results, Tryd.results100, go_sem, hc]
  · (repeat (first | (with_reducible apply Wl.bl_alloc) | (with_reducible apply Wl.bl_drewN) | (with_reducible apply Wl.bl_drew) | (with_reducible refine Wl.bl_set ?_ (by simp; try omega)) | (with_reducible exact Below.refl _ _) | (with_reducible assumption) | (with_reducible refine Wl.bl_trans ?_ (by assumption))))
theorem eq_set_in (d : Nat) (w : World) (a0 a1 a2 a3 b0 b1 b2 b3 : Int) :
    (Op.equalIn (d + 2) 26 (.agg #[.int .u64 a0, .int .u64 a1, .int .u64 a2, .int .u64 a3]) (.agg #[.int .u64 b0, .int .u64 b1, .int .u64 b2, .int .u64 b3])).run Tryd.prog w = .ok (a0 == b0 && (a1 == b1 && (a2 == b2 && a3 == b3))) w := by
  have hi : (Tryd.prog.info? 24).isSome = true := by kernel_rfl
  obtain ⟨i, hi⟩ := Option.isSome_iff_exists.1 hi
  have hc : Tryd.prog.cellsOf 24 = 1 := by kernel_rfl
  rw [run_equalIn_array w (d + 1) _ _ Tryd.underlying26 hi, hc]
  have hu := Tryd.underlying24
  have r : List.range 4 = [0, 1, 2, 3] := rfl
  rw [r]
  have e (x y : Int) : (Op.equalIn (d + 1) 24 (.int .u64 x) (.int .u64 y)).run Tryd.prog w = .ok (x == y) w := run_equalIn_int w d _ _ _ x y hu
  have p0 (x0 x1 x2 x3 : Int) : (part 24 #[.int .u64 x0, .int .u64 x1, .int .u64 x2, .int .u64 x3] 0).run Tryd.prog w = .ok (.int .u64 x0) w := by go_simp
  have p1 (x0 x1 x2 x3 : Int) : (part 24 #[.int .u64 x0, .int .u64 x1, .int .u64 x2, .int .u64 x3] 1).run Tryd.prog w = .ok (.int .u64 x1) w := by go_simp
  have p2 (x0 x1 x2 x3 : Int) : (part 24 #[.int .u64 x0, .int .u64 x1, .int .u64 x2, .int .u64 x3] 2).run Tryd.prog w = .ok (.int .u64 x2) w := by go_simp
  have p3 (x0 x1 x2 x3 : Int) : (part 24 #[.int .u64 x0, .int .u64 x1, .int .u64 x2, .int .u64 x3] 3).run Tryd.prog w = .ok (.int .u64 x3) w := by go_simp
  cases h0 : (a0 == b0) <;> cases h1 : (a1 == b1) <;> cases h2 : (a2 == b2) <;> cases h3 : (a3 == b3) <;> simp [Op.eqItems, p0, p1, p2, p3, e, h0, h1, h2, h3]
theorem eq_set (w : World) (a0 a1 a2 a3 b0 b1 b2 b3 : Int) : (binOp .eql 26 (.agg #[.int .u64 a0, .int .u64 a1, .int .u64 a2, .int .u64 a3]) (.agg #[.int .u64 b0, .int .u64 b1, .int .u64 b2, .int .u64 b3])).run Tryd.prog w = .ok (.bool (a0 == b0 && (a1 == b1 && (a2 == b2 && a3 == b3)))) w := by
  have h := eq_set_in 9998 w a0 a1 a2 a3 b0 b1 b2 b3
  simp only [binOp, Op.equal, Op.maxDepth]
  rw [show (10000 : Nat) = 9998 + 2 from rfl, Sem.run_bind, h]
  rfl
theorem neq_set (w : World) (a0 a1 a2 a3 b0 b1 b2 b3 : Int) : (binOp .neq 26 (.agg #[.int .u64 a0, .int .u64 a1, .int .u64 a2, .int .u64 a3]) (.agg #[.int .u64 b0, .int .u64 b1, .int .u64 b2, .int .u64 b3])).run Tryd.prog w = .ok (.bool (!(a0 == b0 && (a1 == b1 && (a2 == b2 && a3 == b3))))) w := by
  have h := eq_set_in 9998 w a0 a1 a2 a3 b0 b1 b2 b3
  simp only [binOp, Op.equal, Op.maxDepth]
  rw [show (10000 : Nat) = 9998 + 2 from rfl, Sem.run_bind, h]
  rfl
theorem sub_any (a b : Nat) (ha : Sets.In a) (w : World) :
    Calls Tryd.prog 73 #[.agg #[.int .u64 (Sets.wd a 0), .int .u64 (Sets.wd a 1), .int .u64 (Sets.wd a 2), .int .u64 (Sets.wd a 3)], .agg #[.int .u64 (Sets.wd b 0), .int .u64 (Sets.wd b 1), .int .u64 (Sets.wd b 2), .int .u64 (Sets.wd b 3)]] w fun e w' => e = .returned (.bool (subS a b)) ∧ Below w.heap.size w w' := by
  have q := eq_set
  have H := Lib.hid (Sets.zero_words (lessS a b) (Sets.less_lt a b ha))
  go_enter Tryd.func73, Tryd.ntmps73
  go_wp2_with (go_at_call 100; refine (less_any _ _ _).mono ?_; rintro e w1 ⟨rfl, hb⟩)
  go_ret
  exact ⟨by rw [show subS a b = decide (lessS a b = 0) from rfl, ← H.out]; rfl, by (repeat (first | (with_reducible apply Wl.bl_alloc) | (with_reducible apply Wl.bl_drewN) | (with_reducible apply Wl.bl_drew) | (with_reducible refine Wl.bl_set ?_ (by simp; try omega)) | (with_reducible exact Below.refl _ _) | (with_reducible assumption) | (with_reducible refine Wl.bl_trans ?_ (by assumption))))⟩
theorem ones_any (x : Int) (h0 : 0 ≤ x) (w : World) :
    Calls Tryd.prog 72 #[.int .u64 x] w fun e w' => e = .returned (.int .i64 (Pop.swar x)) ∧ w = w' := by
  go_enter Tryd.func72, Tryd.ntmps72
  go_wp2
  go_ret
  exact ⟨rfl, rfl⟩
theorem len_any (s : Nat) (w : World) :
    Calls Tryd.prog 18 #[.agg #[.int .u64 (Sets.wd s 0), .int .u64 (Sets.wd s 1), .int .u64 (Sets.wd s 2), .int .u64 (Sets.wd s 3)]] w fun e w' => e = .returned (.int .i64 (Sets.els s).length) ∧ Below w.heap.size w w' := by
  have H := Lib.hid (Pop.swar_card s)
  have l0 := Sets.wd_lo s 0
  have l1 := Sets.wd_lo s 1
  have l2 := Sets.wd_lo s 2
  have l3 := Sets.wd_lo s 3
  have r0 := Pop.swar_range s 0
  have r1 := Pop.swar_range s 1
  have r2 := Pop.swar_range s 2
  have r3 := Pop.swar_range s 3
  generalize e0 : Sets.wd s 0 = a0 at *
  generalize e1 : Sets.wd s 1 = a1 at *
  generalize e2 : Sets.wd s 2 = a2 at *
  generalize e3 : Sets.wd s 3 = a3 at *
  clear e0 e1 e2 e3
  generalize f0 : Pop.swar a0 = p0 at *
  generalize f1 : Pop.swar a1 = p1 at *
  generalize f2 : Pop.swar a2 = p2 at *
  generalize f3 : Pop.swar a3 = p3 at *
  have F0 := Lib.hid f0
  have F1 := Lib.hid f1
  have F2 := Lib.hid f2
  have F3 := Lib.hid f3
  clear f0 f1 f2 f3
  obtain ⟨r00, r01⟩ := r0
  obtain ⟨r10, r11⟩ := r1
  obtain ⟨r20, r21⟩ := r2
  obtain ⟨r30, r31⟩ := r3
  have i0 : ∀ w, (Instr.index 26 (.agg #[.int .u64 a0, .int .u64 a1, .int .u64 a2, .int .u64 a3]) (.int .i64 0)).run Tryd.prog w = .ok (.int .u64 a0) w := fun _ => by kernel_rfl
  have i1 : ∀ w, (Instr.index 26 (.agg #[.int .u64 a0, .int .u64 a1, .int .u64 a2, .int .u64 a3]) (.int .i64 1)).run Tryd.prog w = .ok (.int .u64 a1) w := fun _ => by kernel_rfl
  have i2 : ∀ w, (Instr.index 26 (.agg #[.int .u64 a0, .int .u64 a1, .int .u64 a2, .int .u64 a3]) (.int .i64 2)).run Tryd.prog w = .ok (.int .u64 a2) w := fun _ => by kernel_rfl
  have i3 : ∀ w, (Instr.index 26 (.agg #[.int .u64 a0, .int .u64 a1, .int .u64 a2, .int .u64 a3]) (.int .i64 3)).run Tryd.prog w = .ok (.int .u64 a3) w := fun _ => by kernel_rfl
  go_enter Tryd.func18, Tryd.ntmps18
  go_wp2_with fail
  refine wp_loop_rounds 5 ?_
  rw [rounds_succ]
  go_wp2_with (go_at_call 72; refine (ones_any _ l0 _).mono ?_; rintro e w1 ⟨rfl, rfl⟩; rw [F0.out])
  rw [rounds_succ]
  go_wp2_with (go_at_call 72; refine (ones_any _ l1 _).mono ?_; rintro e w1 ⟨rfl, rfl⟩; rw [F1.out])
  rw [rounds_succ]
  go_wp2_with (go_at_call 72; refine (ones_any _ l2 _).mono ?_; rintro e w1 ⟨rfl, rfl⟩; rw [F2.out])
  rw [rounds_succ]
  go_wp2_with (go_at_call 72; refine (ones_any _ l3 _).mono ?_; rintro e w1 ⟨rfl, rfl⟩; rw [F3.out])
  rw [rounds_succ]
  go_wp2_with fail
  go_ret
  exact ⟨by rw [← H.out]; rfl, by (repeat (first | (with_reducible apply Wl.bl_alloc) | (with_reducible apply Wl.bl_drewN) | (with_reducible apply Wl.bl_drew) | (with_reducible refine Wl.bl_set ?_ (by simp; try omega)) | (with_reducible exact Below.refl _ _) | (with_reducible assumption) | (with_reducible refine Wl.bl_trans ?_ (by assumption))))⟩
open Go.Lib (ctz)
/-- What the package-level variables hold. -/
structure GL (w : World) : Prop where
  e0 : w.cell? ⟨0, 0, none⟩ = some (.int .u64 65535)
  e1 : w.cell? ⟨0, 1, none⟩ = some (.int .u64 0)
  e2 : w.cell? ⟨0, 2, none⟩ = some (.int .u64 0)
  e3 : w.cell? ⟨0, 3, none⟩ = some (.int .u64 0)
  tab : ∀ j, j < 64 → w.cell? ⟨1, j, none⟩ = some (.int .u8 (Lib.deBruijn64tab.getD j 0))
theorem cell_below {w w' : World} (hb : Below w.heap.size w w') {a : Addr} {v : Value} (h : w.cell? a = some v) : w'.cell? a = some v := (hb.cell (World.block_lt_of_cell? w a h)).trans h
theorem GL.below {w w' : World} (h : GL w) (hb : Below w.heap.size w w') : GL w' :=
  ⟨cell_below hb h.e0, cell_below hb h.e1, cell_below hb h.e2, cell_below hb h.e3, fun j hj => cell_below hb (h.tab j hj)⟩

set_option maxHeartbeats 400000 in
theorem tz0 (x : Nat) (i c : Nat) (hi : i < 64) (hk : c < 64) (h0 : ((x : Int) == 0) = false) (w : World) (hc : w.cell? ⟨1, i, none⟩ = some (.int .u8 c))
  (key : IntKind.u64.wrap (bits BinOp.and IntKind.u64 (x : Int) (IntKind.u64.wrap (-(x : Int))) * 285870213051353865) / 288230376151711744 = (i : Int)) :
    Calls Tryd.prog 113 #[.int .u64 x] w fun e w' => e = .returned (.int .i64 c) ∧ w = w' := by
  go_enter Tryd.func113, Tryd.ntmps113
  go_wp2_with fail
  go_ret
  exact ⟨rfl, rfl⟩
theorem tz_any (x : Nat) (hx : x < 18446744073709551616) (hx0 : x ≠ 0) (w : World) (hG : GL w) :
    Calls Tryd.prog 113 #[.int .u64 x] w fun e w' => e = .returned (.int .i64 (ctz 64 x)) ∧ w = w' := by
  have hc := hG.tab _ (Ctz.idx_lt x hx hx0)
  rw [Ctz.idx_tab x hx hx0] at hc
  exact tz0 x _ _ (Ctz.idx_lt x hx hx0) (Ctz.ctz_spec x hx hx0).1 (by simp; omega) w hc (Ctz.idx_key x hx hx0)
theorem wrap_mword (s k j x : Nat) (hx : Sets.wd s k = (x : Int)) : IntKind.u64.wrap ((x : Int) / 2 ^ j * 2 ^ j) = ((Ctz.mword s k j : Nat) : Int) := by
  have h := Ctz.mword_lt s k j
  have e : (x : Int) / 2 ^ j * 2 ^ j = ((Ctz.mword s k j : Nat) : Int) := by
    unfold Ctz.mword
    rw [hx, Int.toNat_natCast]
    simp
  rw [e]
  exact Pop.wrap_u64 _ h
set_option maxHeartbeats 2000000 in
theorem next_walk (s : Nat) (n : Nat) (hn : n ≤ 256) (w : World) (hG : GL w) :
    Calls Tryd.prog 109 #[.agg #[.int .u64 (Sets.wd s 0), .int .u64 (Sets.wd s 1), .int .u64 (Sets.wd s 2), .int .u64 (Sets.wd s 3)], .int .i64 n] w fun e w' => (∃ m, Ctz.Next s n m ∧ e = .returned (.tuple #[.int .i64 (m : Int), .bool true]) ∨ Ctz.None s n ∧ e = .returned (.tuple #[.int .i64 0, .bool false])) ∧ Below w.heap.size w w' := by
  obtain ⟨x0, e0, l0, _⟩ := Sets.wd_nat s 0
  obtain ⟨x1, e1, l1, _⟩ := Sets.wd_nat s 1
  obtain ⟨x2, e2, l2, _⟩ := Sets.wd_nat s 2
  obtain ⟨x3, e3, l3, _⟩ := Sets.wd_nat s 3
  obtain ⟨j, hj⟩ : ∃ j, j = n % 64 := ⟨_, rfl⟩
  have hr : (n : Int) % 64 = j := by omega
  have hj1 : j < 64 := by omega
  have W0 := Lib.hid (wrap_mword s 0 j x0 e0)
  have W1 := Lib.hid (wrap_mword s 1 j x1 e1)
  have W2 := Lib.hid (wrap_mword s 2 j x2 e2)
  have W3 := Lib.hid (wrap_mword s 3 j x3 e3)
  rw [e0, e1, e2, e3]
  have E0 := Lib.hid e0
  have E1 := Lib.hid e1
  have E2 := Lib.hid e2
  have E3 := Lib.hid e3
  have HJ := Lib.hid hj
  clear e0 e1 e2 e3 hj
  go_enter Tryd.func109, Tryd.ntmps109
  go_wp2_with fail
  go_loop [6] (fun i => ∃ k : Nat, n / 64 ≤ k ∧ k ≤ 4 ∧ i = .int .i64 k ∧ Ctz.Upto s n k) (fun i => 4 - (intOf i).toNat)
  case atStart => exact ⟨n / 64, Nat.le_refl _, by omega, rfl, Ctz.upto_start s n⟩
  case round =>
    obtain ⟨k, hk1, hk2, rfl, hup⟩ := hrel
    by_cases hk : k < 4
    · obtain rfl | rfl | rfl | rfl : k = 0 ∨ k = 1 ∨ k = 2 ∨ k = 3 := by omega
      · have hcast : ((0 : Nat) : Int) = 0 := rfl
        by_cases he : n / 64 = 0
        · have hb : ((0 : Int) == (n : Int) / 64) = true := by simp; omega
          have hlow : Ctz.low n 0 = j := by rw [HJ.out]; unfold Ctz.low; rw [if_pos he.symm]
          have HL := Lib.hid hlow
          have W0 := W0.out
          clear he hlow
          by_cases hz : Ctz.mword s 0 j = 0
          · have hz' : ((Ctz.mword s 0 j : Int) != 0) = false := by simp [hz]
            have HZ := Lib.hid hz
            clear hz
            go_wp2_with fail
            exact ⟨⟨1, by omega, by omega, rfl, Ctz.upto_next s n 0 hk1 hup (by rw [HL.out]; exact HZ.out)⟩, by simp [intOf]⟩
          · have hz' : ((Ctz.mword s 0 j : Int) != 0) = true := by simp [hz]
            have hN := Ctz.next_here s n 0 hk1 hk hup (by rw [HL.out]; exact hz)
            rw [HL.out] at hN
            have hcz := (Ctz.ctz_spec _ (Ctz.mword_lt s 0 j) hz).1
            go_wp2_with (go_at_call 113; refine (tz_any _ (Ctz.mword_lt s 0 j) hz _ (hG.below (by (repeat (first | (with_reducible apply Wl.bl_alloc) | (with_reducible apply Wl.bl_drewN) | (with_reducible apply Wl.bl_drew) | (with_reducible refine Wl.bl_set ?_ (by simp; try omega)) | (with_reducible exact Below.refl _ _) | (with_reducible assumption) | (with_reducible refine Wl.bl_trans ?_ (by assumption))))))).mono ?_; rintro e w1 ⟨rfl, rfl⟩)
            go_ret2
            exact ⟨⟨_, .inl ⟨hN, by simp⟩⟩, by (repeat (first | (with_reducible apply Wl.bl_alloc) | (with_reducible apply Wl.bl_drewN) | (with_reducible apply Wl.bl_drew) | (with_reducible refine Wl.bl_set ?_ (by simp; try omega)) | (with_reducible exact Below.refl _ _) | (with_reducible assumption) | (with_reducible refine Wl.bl_trans ?_ (by assumption))))⟩
        · have hb : ((0 : Int) == (n : Int) / 64) = false := by simp; omega
          have hlow : Ctz.low n 0 = 0 := by unfold Ctz.low; rw [if_neg (fun e => he e.symm)]
          have HL := Lib.hid hlow
          have hx : Ctz.mword s 0 0 = x0 := by rw [Ctz.mword_zero, E0.out, Int.toNat_natCast]
          have HX := Lib.hid hx
          clear he hlow hx
          by_cases hz : x0 = 0
          · have hz' : ((x0 : Int) != 0) = false := by simp [hz]
            have HZ := Lib.hid hz
            clear hz
            go_wp2_with fail
            exact ⟨⟨1, by omega, by omega, rfl, Ctz.upto_next s n 0 hk1 hup (by rw [HL.out, HX.out]; exact HZ.out)⟩, by simp [intOf]⟩
          · have hz' : ((x0 : Int) != 0) = true := by simp [hz]
            have hN := Ctz.next_here s n 0 hk1 hk hup (by rw [HL.out, HX.out]; exact hz)
            rw [HL.out, HX.out] at hN
            have hcz := (Ctz.ctz_spec _ l0 hz).1
            go_wp2_with (go_at_call 113; refine (tz_any _ l0 hz _ (hG.below (by (repeat (first | (with_reducible apply Wl.bl_alloc) | (with_reducible apply Wl.bl_drewN) | (with_reducible apply Wl.bl_drew) | (with_reducible refine Wl.bl_set ?_ (by simp; try omega)) | (with_reducible exact Below.refl _ _) | (with_reducible assumption) | (with_reducible refine Wl.bl_trans ?_ (by assumption))))))).mono ?_; rintro e w1 ⟨rfl, rfl⟩)
            go_ret2
            exact ⟨⟨_, .inl ⟨hN, by simp⟩⟩, by (repeat (first | (with_reducible apply Wl.bl_alloc) | (with_reducible apply Wl.bl_drewN) | (with_reducible apply Wl.bl_drew) | (with_reducible refine Wl.bl_set ?_ (by simp; try omega)) | (with_reducible exact Below.refl _ _) | (with_reducible assumption) | (with_reducible refine Wl.bl_trans ?_ (by assumption))))⟩
      · have hcast : ((1 : Nat) : Int) = 1 := rfl
        by_cases he : n / 64 = 1
        · have hb : ((1 : Int) == (n : Int) / 64) = true := by simp; omega
          have hlow : Ctz.low n 1 = j := by rw [HJ.out]; unfold Ctz.low; rw [if_pos he.symm]
          have HL := Lib.hid hlow
          have W1 := W1.out
          clear he hlow
          by_cases hz : Ctz.mword s 1 j = 0
          · have hz' : ((Ctz.mword s 1 j : Int) != 0) = false := by simp [hz]
            have HZ := Lib.hid hz
            clear hz
            go_wp2_with fail
            exact ⟨⟨2, by omega, by omega, rfl, Ctz.upto_next s n 1 hk1 hup (by rw [HL.out]; exact HZ.out)⟩, by simp [intOf]⟩
          · have hz' : ((Ctz.mword s 1 j : Int) != 0) = true := by simp [hz]
            have hN := Ctz.next_here s n 1 hk1 hk hup (by rw [HL.out]; exact hz)
            rw [HL.out] at hN
            have hcz := (Ctz.ctz_spec _ (Ctz.mword_lt s 1 j) hz).1
            go_wp2_with (go_at_call 113; refine (tz_any _ (Ctz.mword_lt s 1 j) hz _ (hG.below (by (repeat (first | (with_reducible apply Wl.bl_alloc) | (with_reducible apply Wl.bl_drewN) | (with_reducible apply Wl.bl_drew) | (with_reducible refine Wl.bl_set ?_ (by simp; try omega)) | (with_reducible exact Below.refl _ _) | (with_reducible assumption) | (with_reducible refine Wl.bl_trans ?_ (by assumption))))))).mono ?_; rintro e w1 ⟨rfl, rfl⟩)
            go_ret2
            exact ⟨⟨_, .inl ⟨hN, by simp⟩⟩, by (repeat (first | (with_reducible apply Wl.bl_alloc) | (with_reducible apply Wl.bl_drewN) | (with_reducible apply Wl.bl_drew) | (with_reducible refine Wl.bl_set ?_ (by simp; try omega)) | (with_reducible exact Below.refl _ _) | (with_reducible assumption) | (with_reducible refine Wl.bl_trans ?_ (by assumption))))⟩
        · have hb : ((1 : Int) == (n : Int) / 64) = false := by simp; omega
          have hlow : Ctz.low n 1 = 0 := by unfold Ctz.low; rw [if_neg (fun e => he e.symm)]
          have HL := Lib.hid hlow
          have hx : Ctz.mword s 1 0 = x1 := by rw [Ctz.mword_zero, E1.out, Int.toNat_natCast]
          have HX := Lib.hid hx
          clear he hlow hx
          by_cases hz : x1 = 0
          · have hz' : ((x1 : Int) != 0) = false := by simp [hz]
            have HZ := Lib.hid hz
            clear hz
            go_wp2_with fail
            exact ⟨⟨2, by omega, by omega, rfl, Ctz.upto_next s n 1 hk1 hup (by rw [HL.out, HX.out]; exact HZ.out)⟩, by simp [intOf]⟩
          · have hz' : ((x1 : Int) != 0) = true := by simp [hz]
            have hN := Ctz.next_here s n 1 hk1 hk hup (by rw [HL.out, HX.out]; exact hz)
            rw [HL.out, HX.out] at hN
            have hcz := (Ctz.ctz_spec _ l1 hz).1
            go_wp2_with (go_at_call 113; refine (tz_any _ l1 hz _ (hG.below (by (repeat (first | (with_reducible apply Wl.bl_alloc) | (with_reducible apply Wl.bl_drewN) | (with_reducible apply Wl.bl_drew) | (with_reducible refine Wl.bl_set ?_ (by simp; try omega)) | (with_reducible exact Below.refl _ _) | (with_reducible assumption) | (with_reducible refine Wl.bl_trans ?_ (by assumption))))))).mono ?_; rintro e w1 ⟨rfl, rfl⟩)
            go_ret2
            exact ⟨⟨_, .inl ⟨hN, by simp⟩⟩, by (repeat (first | (with_reducible apply Wl.bl_alloc) | (with_reducible apply Wl.bl_drewN) | (with_reducible apply Wl.bl_drew) | (with_reducible refine Wl.bl_set ?_ (by simp; try omega)) | (with_reducible exact Below.refl _ _) | (with_reducible assumption) | (with_reducible refine Wl.bl_trans ?_ (by assumption))))⟩
      · have hcast : ((2 : Nat) : Int) = 2 := rfl
        by_cases he : n / 64 = 2
        · have hb : ((2 : Int) == (n : Int) / 64) = true := by simp; omega
          have hlow : Ctz.low n 2 = j := by rw [HJ.out]; unfold Ctz.low; rw [if_pos he.symm]
          have HL := Lib.hid hlow
          have W2 := W2.out
          clear he hlow
          by_cases hz : Ctz.mword s 2 j = 0
          · have hz' : ((Ctz.mword s 2 j : Int) != 0) = false := by simp [hz]
            have HZ := Lib.hid hz
            clear hz
            go_wp2_with fail
            exact ⟨⟨3, by omega, by omega, rfl, Ctz.upto_next s n 2 hk1 hup (by rw [HL.out]; exact HZ.out)⟩, by simp [intOf]⟩
          · have hz' : ((Ctz.mword s 2 j : Int) != 0) = true := by simp [hz]
            have hN := Ctz.next_here s n 2 hk1 hk hup (by rw [HL.out]; exact hz)
            rw [HL.out] at hN
            have hcz := (Ctz.ctz_spec _ (Ctz.mword_lt s 2 j) hz).1
            go_wp2_with (go_at_call 113; refine (tz_any _ (Ctz.mword_lt s 2 j) hz _ (hG.below (by (repeat (first | (with_reducible apply Wl.bl_alloc) | (with_reducible apply Wl.bl_drewN) | (with_reducible apply Wl.bl_drew) | (with_reducible refine Wl.bl_set ?_ (by simp; try omega)) | (with_reducible exact Below.refl _ _) | (with_reducible assumption) | (with_reducible refine Wl.bl_trans ?_ (by assumption))))))).mono ?_; rintro e w1 ⟨rfl, rfl⟩)
            go_ret2
            exact ⟨⟨_, .inl ⟨hN, by simp⟩⟩, by (repeat (first | (with_reducible apply Wl.bl_alloc) | (with_reducible apply Wl.bl_drewN) | (with_reducible apply Wl.bl_drew) | (with_reducible refine Wl.bl_set ?_ (by simp; try omega)) | (with_reducible exact Below.refl _ _) | (with_reducible assumption) | (with_reducible refine Wl.bl_trans ?_ (by assumption))))⟩
        · have hb : ((2 : Int) == (n : Int) / 64) = false := by simp; omega
          have hlow : Ctz.low n 2 = 0 := by unfold Ctz.low; rw [if_neg (fun e => he e.symm)]
          have HL := Lib.hid hlow
          have hx : Ctz.mword s 2 0 = x2 := by rw [Ctz.mword_zero, E2.out, Int.toNat_natCast]
          have HX := Lib.hid hx
          clear he hlow hx
          by_cases hz : x2 = 0
          · have hz' : ((x2 : Int) != 0) = false := by simp [hz]
            have HZ := Lib.hid hz
            clear hz
            go_wp2_with fail
            exact ⟨⟨3, by omega, by omega, rfl, Ctz.upto_next s n 2 hk1 hup (by rw [HL.out, HX.out]; exact HZ.out)⟩, by simp [intOf]⟩
          · have hz' : ((x2 : Int) != 0) = true := by simp [hz]
            have hN := Ctz.next_here s n 2 hk1 hk hup (by rw [HL.out, HX.out]; exact hz)
            rw [HL.out, HX.out] at hN
            have hcz := (Ctz.ctz_spec _ l2 hz).1
            go_wp2_with (go_at_call 113; refine (tz_any _ l2 hz _ (hG.below (by (repeat (first | (with_reducible apply Wl.bl_alloc) | (with_reducible apply Wl.bl_drewN) | (with_reducible apply Wl.bl_drew) | (with_reducible refine Wl.bl_set ?_ (by simp; try omega)) | (with_reducible exact Below.refl _ _) | (with_reducible assumption) | (with_reducible refine Wl.bl_trans ?_ (by assumption))))))).mono ?_; rintro e w1 ⟨rfl, rfl⟩)
            go_ret2
            exact ⟨⟨_, .inl ⟨hN, by simp⟩⟩, by (repeat (first | (with_reducible apply Wl.bl_alloc) | (with_reducible apply Wl.bl_drewN) | (with_reducible apply Wl.bl_drew) | (with_reducible refine Wl.bl_set ?_ (by simp; try omega)) | (with_reducible exact Below.refl _ _) | (with_reducible assumption) | (with_reducible refine Wl.bl_trans ?_ (by assumption))))⟩
      · have hcast : ((3 : Nat) : Int) = 3 := rfl
        by_cases he : n / 64 = 3
        · have hb : ((3 : Int) == (n : Int) / 64) = true := by simp; omega
          have hlow : Ctz.low n 3 = j := by rw [HJ.out]; unfold Ctz.low; rw [if_pos he.symm]
          have HL := Lib.hid hlow
          have W3 := W3.out
          clear he hlow
          by_cases hz : Ctz.mword s 3 j = 0
          · have hz' : ((Ctz.mword s 3 j : Int) != 0) = false := by simp [hz]
            have HZ := Lib.hid hz
            clear hz
            go_wp2_with fail
            exact ⟨⟨4, by omega, by omega, rfl, Ctz.upto_next s n 3 hk1 hup (by rw [HL.out]; exact HZ.out)⟩, by simp [intOf]⟩
          · have hz' : ((Ctz.mword s 3 j : Int) != 0) = true := by simp [hz]
            have hN := Ctz.next_here s n 3 hk1 hk hup (by rw [HL.out]; exact hz)
            rw [HL.out] at hN
            have hcz := (Ctz.ctz_spec _ (Ctz.mword_lt s 3 j) hz).1
            go_wp2_with (go_at_call 113; refine (tz_any _ (Ctz.mword_lt s 3 j) hz _ (hG.below (by (repeat (first | (with_reducible apply Wl.bl_alloc) | (with_reducible apply Wl.bl_drewN) | (with_reducible apply Wl.bl_drew) | (with_reducible refine Wl.bl_set ?_ (by simp; try omega)) | (with_reducible exact Below.refl _ _) | (with_reducible assumption) | (with_reducible refine Wl.bl_trans ?_ (by assumption))))))).mono ?_; rintro e w1 ⟨rfl, rfl⟩)
            go_ret2
            exact ⟨⟨_, .inl ⟨hN, by simp⟩⟩, by (repeat (first | (with_reducible apply Wl.bl_alloc) | (with_reducible apply Wl.bl_drewN) | (with_reducible apply Wl.bl_drew) | (with_reducible refine Wl.bl_set ?_ (by simp; try omega)) | (with_reducible exact Below.refl _ _) | (with_reducible assumption) | (with_reducible refine Wl.bl_trans ?_ (by assumption))))⟩
        · have hb : ((3 : Int) == (n : Int) / 64) = false := by simp; omega
          have hlow : Ctz.low n 3 = 0 := by unfold Ctz.low; rw [if_neg (fun e => he e.symm)]
          have HL := Lib.hid hlow
          have hx : Ctz.mword s 3 0 = x3 := by rw [Ctz.mword_zero, E3.out, Int.toNat_natCast]
          have HX := Lib.hid hx
          clear he hlow hx
          by_cases hz : x3 = 0
          · have hz' : ((x3 : Int) != 0) = false := by simp [hz]
            have HZ := Lib.hid hz
            clear hz
            go_wp2_with fail
            exact ⟨⟨4, by omega, by omega, rfl, Ctz.upto_next s n 3 hk1 hup (by rw [HL.out, HX.out]; exact HZ.out)⟩, by simp [intOf]⟩
          · have hz' : ((x3 : Int) != 0) = true := by simp [hz]
            have hN := Ctz.next_here s n 3 hk1 hk hup (by rw [HL.out, HX.out]; exact hz)
            rw [HL.out, HX.out] at hN
            have hcz := (Ctz.ctz_spec _ l3 hz).1
            go_wp2_with (go_at_call 113; refine (tz_any _ l3 hz _ (hG.below (by (repeat (first | (with_reducible apply Wl.bl_alloc) | (with_reducible apply Wl.bl_drewN) | (with_reducible apply Wl.bl_drew) | (with_reducible refine Wl.bl_set ?_ (by simp; try omega)) | (with_reducible exact Below.refl _ _) | (with_reducible assumption) | (with_reducible refine Wl.bl_trans ?_ (by assumption))))))).mono ?_; rintro e w1 ⟨rfl, rfl⟩)
            go_ret2
            exact ⟨⟨_, .inl ⟨hN, by simp⟩⟩, by (repeat (first | (with_reducible apply Wl.bl_alloc) | (with_reducible apply Wl.bl_drewN) | (with_reducible apply Wl.bl_drew) | (with_reducible refine Wl.bl_set ?_ (by simp; try omega)) | (with_reducible exact Below.refl _ _) | (with_reducible assumption) | (with_reducible refine Wl.bl_trans ?_ (by assumption))))⟩
    · obtain rfl : k = 4 := by omega
      go_wp2_with fail
      go_ret2
      exact ⟨⟨0, .inr ⟨Ctz.none_all s n hup, rfl⟩⟩, by (repeat (first | (with_reducible apply Wl.bl_alloc) | (with_reducible apply Wl.bl_drewN) | (with_reducible apply Wl.bl_drew) | (with_reducible refine Wl.bl_set ?_ (by simp; try omega)) | (with_reducible exact Below.refl _ _) | (with_reducible assumption) | (with_reducible refine Wl.bl_trans ?_ (by assumption))))⟩
end Go.Proofs.YtdaionnpgcdkdaaDoor
