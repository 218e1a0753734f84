/- Printed by a program of this session over the kit's print.py: the machine's side of Go functions as plain Lean functions, each with its proof. -/
import Derived.Test.YtdaionnpgcdkdaaDoorPNewx0
import Derived.Test.YtdaionnpgcdkdaaDoorPNewx3
namespace Go.Proofs.YtdaionnpgcdkdaaDoorP.New
open Go.RowKit Go.Proofs.YtdaionnpgcdkdaaDoorW.PrintWords Go.Proofs.YtdaionnpgcdkdaaDoorW.PrintLast Go.Proofs.YtdaionnpgcdkdaaDoorW.PrintMore
attribute [local go_sem] max2_int min2_int max_two min_two max_three min_three max_four min_four   -- for this text's walks alone
set_option linter.unusedVariables false
set_option linter.unusedSimpArgs false

attribute [local go_sem high] eqA51
/-! ### becketref02_Same: function 30 -/
def becketref02_Same.l0 : Nat → List Int → List Int → Int → Option (Bool)
  | 0, _, _, _ => none
  | k + 1, x0, x1, x5 => if x5 < (x0.length : Int) then (if 0 ≤ x5 then (if x5 < (x1.length : Int) then (if (rd x0 x5) = (rd x1 x5) then (becketref02_Same.l0 k x0 x1 (wrap64 (x5 + 1))) else (some false)) else (none)) else (none)) else (some true)
def becketref02_Same.f (k : Nat) (l0 : List Int) (l1 : List Int) : Option (Bool) := if (l0.length : Int) = (l1.length : Int) then (becketref02_Same.l0 k l0 l1 0) else (some false)
theorem becketref02_Same.mono_l : ∀ k, (∀ y0 y1 y2, LeO (becketref02_Same.l0 k y0 y1 y2) (becketref02_Same.l0 (k + 1) y0 y1 y2))
  | 0 => fun _ _ _ r h => by simp [becketref02_Same.l0] at h
  | k + 1 => by
    have ih0 := becketref02_Same.mono_l k
    · intro y0 y1 y2
      unfold becketref02_Same.l0
      repeat' first
      | (with_reducible exact ih0 _ _ _)
      | (with_reducible exact LeO.refl _)
      | (with_reducible exact LeO.none _)
      | (with_reducible refine LeO.ite ?_ ?_)
      | (with_reducible refine LeO.bind ?_ (fun _ => ?_))
      | exact ih0 _ _ _
      | exact LeO.none _
      | refine LeO.ite ?_ ?_
      | refine LeO.bind ?_ (fun _ => ?_)
theorem becketref02_Same.mono : ∀ a0 a1 k, LeO (becketref02_Same.f k a0 a1) (becketref02_Same.f (k + 1) a0 a1) := by
  intro a0 a1 k
  have ih0 := becketref02_Same.mono_l k
  unfold becketref02_Same.f
  repeat' first
      | (with_reducible exact ih0 _ _ _)
      | (with_reducible exact LeO.refl _)
      | (with_reducible exact LeO.none _)
      | (with_reducible refine LeO.ite ?_ ?_)
      | (with_reducible refine LeO.bind ?_ (fun _ => ?_))
      | exact ih0 _ _ _
      | exact LeO.none _
      | refine LeO.ite ?_ ?_
      | refine LeO.bind ?_ (fun _ => ?_)
set_option maxHeartbeats 8000000 in
set_option maxRecDepth 100000 in
theorem becketref02_Same.calls (k : Nat) (A0 : Option Addr) (c0 : Nat) (l0 : List Int) (A1 : Option Addr) (c1 : Nat) (l1 : List Int) (r : Bool) (w : World) (hr0 : Kd.C (Kd.int .i64) w A0 l0.length l0) (hc0 : l0.length ≤ c0) (hr1 : Kd.C (Kd.int .i64) w A1 l1.length l1) (hc1 : l1.length ≤ c1) (h : becketref02_Same.f k l0 l1 = some r) :
    Calls Tryd.prog 30 #[.slice A0 l0.length c0, .slice A1 l1.length c1] w fun e w' => e = .returned (.bool r) ∧ Drawn0 w w' := by
  have HR0 := Aside0.mk hr0
  have HC0 := Aside0.mk hc0
  clear hr0 hc0
  have HR1 := Aside0.mk hr1
  have HC1 := Aside0.mk hc1
  clear hr1 hc1
  have H : (if (l0.length : Int) = (l1.length : Int) then (becketref02_Same.l0 k l0 l1 0) else (some false)) = some r := h
  clear h
  by_cases c3 : (l0.length : Int) = (l1.length : Int)
  · rw [if_pos c3] at H
    have c3b0 : ((l0.length : Int) == (l1.length : Int)) = true := beq_iff_eq.mpr c3
    have c3b1 : ((l0.length : Int) != (l1.length : Int)) = false := bne_eq_false_iff_eq.mpr c3
    have c3b2 : (l0.length == l1.length) = true := by first | simpa using c3 | (simp at c3 ⊢; omega)
    clear c3
    have H' := Aside0.mk H
    clear H
    go_enter Tryd.func30, Tryd.ntmps30
    go_wp2
    repeat (go_quiet (fail); try go_wp2)
    go_loopg [5] k (fun kq v5 w' => ∃ (x5_1 : Int), v5 = .int .i64 x5_1 ∧ Aside0 (becketref02_Same.l0 kq l0 l1 x5_1 = some r) ∧ Aside0 (kq ≤ k) ∧ Drawn0 w w')
    case atStart => exact ⟨(0), (by first | rfl | (simp; done) | (simp [*]; done)), H', ⟨Nat.le_refl _⟩, by repeat (first | exact Drawn0.refl _ | apply Drawn0.step)⟩
    case round =>
      clear H'
      try clear c1
      try clear p2
      try clear c3
      try clear c3b0
      try clear c3b1
      try clear c3b2
      obtain ⟨x5_1, rfl, HA, HK1, ⟨m1, rfl⟩⟩ := hrel
      cases gk with
      | zero => exact absurd HA.out (by simp [becketref02_Same.l0])
      | succ k1 =>
        have H := HA.out
        clear HA
        simp only [becketref02_Same.l0] at H
        by_cases c4 : x5_1 < (l0.length : Int)
        · rw [if_pos c4] at H
          have c4b0 : decide (x5_1 < (l0.length : Int)) = true := decide_eq_true c4
          clear c4
          by_cases c5 : 0 ≤ x5_1
          · rw [if_pos c5] at H
            have c5b0 : decide (0 ≤ x5_1) = true := decide_eq_true c5
            clear c5
            by_cases c6 : x5_1 < (l1.length : Int)
            · rw [if_pos c6] at H
              have c6b0 : decide (x5_1 < (l1.length : Int)) = true := decide_eq_true c6
              clear c6
              by_cases c7 : (rd l0 x5_1) = (rd l1 x5_1)
              · rw [if_pos c7] at H
                have c7b0 : ((rd l0 x5_1) == (rd l1 x5_1)) = true := beq_iff_eq.mpr c7
                have c7b1 : ((rd l0 x5_1) != (rd l1 x5_1)) = false := bne_eq_false_iff_eq.mpr c7
                clear c7
                have H' := Aside0.mk H
                clear H
                have p101 : 0 ≤ (x5_1 : Int) := of_decide_eq_true (by first | (with_reducible assumption) | assumption)
                have q101 : x5_1 < (l0.length : Int) := of_decide_eq_true (by first | (with_reducible assumption) | assumption)
                obtain ⟨ad101, e101, hx101_0⟩ := Kd.at_int HR0.out x5_1 p101 q101
                cases e101
                replace p101 := eq_true p101
                replace q101 := eq_true q101
                have p102 : 0 ≤ (x5_1 : Int) := of_decide_eq_true (by first | (with_reducible assumption) | assumption)
                have q102 : x5_1 < (l1.length : Int) := of_decide_eq_true (by first | (with_reducible assumption) | assumption)
                obtain ⟨ad102, e102, hx102_0⟩ := Kd.at_int HR1.out x5_1 p102 q102
                cases e102
                replace p102 := eq_true p102
                replace q102 := eq_true q102
                go_wp2
                repeat (go_quiet (fail); try go_wp2)
                go_roundg k1
                case measure => have := HK1.out; omega
                case rel => exact ⟨(wrap64 (x5_1 + 1)), (by first | rfl | (simp; done) | (simp [*]; done)), H', ⟨by have := HK1.out; omega⟩, by repeat (first | exact Drawn0.refl _ | apply Drawn0.step)⟩
              · rw [if_neg c7] at H
                have c7b0 : ((rd l0 x5_1) == (rd l1 x5_1)) = false := beq_eq_false_iff_ne.mpr c7
                have c7b1 : ((rd l0 x5_1) != (rd l1 x5_1)) = true := bne_iff_ne.mpr c7
                obtain rfl := Option.some.inj H
                have p101 : 0 ≤ (x5_1 : Int) := of_decide_eq_true (by first | (with_reducible assumption) | assumption)
                have q101 : x5_1 < (l0.length : Int) := of_decide_eq_true (by first | (with_reducible assumption) | assumption)
                obtain ⟨ad101, e101, hx101_0⟩ := Kd.at_int HR0.out x5_1 p101 q101
                cases e101
                replace p101 := eq_true p101
                replace q101 := eq_true q101
                have p102 : 0 ≤ (x5_1 : Int) := of_decide_eq_true (by first | (with_reducible assumption) | assumption)
                have q102 : x5_1 < (l1.length : Int) := of_decide_eq_true (by first | (with_reducible assumption) | assumption)
                obtain ⟨ad102, e102, hx102_0⟩ := Kd.at_int HR1.out x5_1 p102 q102
                cases e102
                replace p102 := eq_true p102
                replace q102 := eq_true q102
                go_wp2
                repeat (go_quiet (fail); try go_wp2)
                go_ret
                exact ⟨by first | rfl | (simp; done) | (simp [*]; done), by repeat (first | exact Drawn0.refl _ | apply Drawn0.step)⟩
            · rw [if_neg c6] at H
              exact absurd H (by simp)
          · rw [if_neg c5] at H
            exact absurd H (by simp)
        · rw [if_neg c4] at H
          have c4b0 : decide (x5_1 < (l0.length : Int)) = false := decide_eq_false c4
          clear c4
          obtain rfl := Option.some.inj H
          go_wp2
          repeat (go_quiet (fail); try go_wp2)
          go_ret
          exact ⟨by first | rfl | (simp; done) | (simp [*]; done), by repeat (first | exact Drawn0.refl _ | apply Drawn0.step)⟩
  · rw [if_neg c3] at H
    have c3b0 : ((l0.length : Int) == (l1.length : Int)) = false := beq_eq_false_iff_ne.mpr c3
    have c3b1 : ((l0.length : Int) != (l1.length : Int)) = true := bne_iff_ne.mpr c3
    have c3b2 : (l0.length == l1.length) = false := by first | simpa using c3 | (simp at c3 ⊢; omega)
    obtain rfl := Option.some.inj H
    go_enter Tryd.func30, Tryd.ntmps30
    go_wp2
    repeat (go_quiet (fail); try go_wp2)
    go_ret
    exact ⟨by first | rfl | (simp; done) | (simp [*]; done), by repeat (first | exact Drawn0.refl _ | apply Drawn0.step)⟩

/-! ### roll_Offer: function 14 -/
def roll_Offer.f (a0_0 : Int) (a0_1 : Int) (a0_2 : Int) (a0_3 : Int) (a0_4 : Int) (a0_5 : Int) (a0_6 : Int) (a0_7 : Int) (a1 : Int) : Option (Int × Int × Int × Int × Int × Int × Int × Int × Int) := if Go.Proofs.YtdaionnpgcdkdaaDoor.okS a0_0 a0_1 a0_2 a0_3 && Go.Proofs.YtdaionnpgcdkdaaDoor.okS a0_4 a0_5 a0_6 a0_7 then some (Go.Proofs.YtdaionnpgcdkdaaDoor.tupR (Go.Proofs.YtdaionnpgcdkdaaDoor.offerR (Go.Proofs.YtdaionnpgcdkdaaDoor.natS a0_0 a0_1 a0_2 a0_3) (Go.Proofs.YtdaionnpgcdkdaaDoor.natS a0_4 a0_5 a0_6 a0_7) a1)) else none
theorem roll_Offer.calls (a0_0 : Int) (a0_1 : Int) (a0_2 : Int) (a0_3 : Int) (a0_4 : Int) (a0_5 : Int) (a0_6 : Int) (a0_7 : Int) (a1 : Int) (r1 : Int) (r2 : Int) (r3 : Int) (r4 : Int) (r5 : Int) (r6 : Int) (r7 : Int) (r8 : Int) (r9 : Int) (w : World) (hG : Go.Proofs.YtdaionnpgcdkdaaDoor.GLW w) (h : roll_Offer.f a0_0 a0_1 a0_2 a0_3 a0_4 a0_5 a0_6 a0_7 a1 = some (r1, r2, r3, r4, r5, r6, r7, r8, r9)) :
    Calls Tryd.prog 14 #[.agg #[.int .u64 a0_0, .int .u64 a0_1, .int .u64 a0_2, .int .u64 a0_3, .int .u64 a0_4, .int .u64 a0_5, .int .u64 a0_6, .int .u64 a0_7], .int .i64 a1] w fun e w' => e = .returned (.tuple #[.agg #[.int .u64 r1, .int .u64 r2, .int .u64 r3, .int .u64 r4, .int .u64 r5, .int .u64 r6, .int .u64 r7, .int .u64 r8], .int .i64 r9]) ∧ Below w.heap.size w w' := by
  unfold roll_Offer.f at h
  split at h
  · rename_i hk
    rw [Bool.and_eq_true] at hk
    simp only [Go.Proofs.YtdaionnpgcdkdaaDoor.tupR, Option.some.injEq, Prod.mk.injEq] at h
    obtain ⟨rfl, rfl, rfl, rfl, rfl, rfl, rfl, rfl, rfl⟩ := h
    exact Go.Proofs.YtdaionnpgcdkdaaDoor.offer_words hk.1 hk.2 a1 w hG.out
  · cases h

/-! ### roll_Fine: function 19 -/
def roll_Fine.f (a0_0 : Int) (a0_1 : Int) (a0_2 : Int) (a0_3 : Int) (a0_4 : Int) (a0_5 : Int) (a0_6 : Int) (a0_7 : Int) : Option (Bool) := if Go.Proofs.YtdaionnpgcdkdaaDoor.okS a0_0 a0_1 a0_2 a0_3 && Go.Proofs.YtdaionnpgcdkdaaDoor.okS a0_4 a0_5 a0_6 a0_7 then some (Go.Proofs.YtdaionnpgcdkdaaDoor.fineR (Go.Proofs.YtdaionnpgcdkdaaDoor.natS a0_0 a0_1 a0_2 a0_3) (Go.Proofs.YtdaionnpgcdkdaaDoor.natS a0_4 a0_5 a0_6 a0_7)) else none
theorem roll_Fine.calls (a0_0 : Int) (a0_1 : Int) (a0_2 : Int) (a0_3 : Int) (a0_4 : Int) (a0_5 : Int) (a0_6 : Int) (a0_7 : Int) (r : Bool) (w : World) (hG : Go.Proofs.YtdaionnpgcdkdaaDoor.GLW w) (h : roll_Fine.f a0_0 a0_1 a0_2 a0_3 a0_4 a0_5 a0_6 a0_7 = some r) :
    Calls Tryd.prog 19 #[.agg #[.int .u64 a0_0, .int .u64 a0_1, .int .u64 a0_2, .int .u64 a0_3, .int .u64 a0_4, .int .u64 a0_5, .int .u64 a0_6, .int .u64 a0_7]] w fun e w' => e = .returned (.bool r) ∧ Below w.heap.size w w' := by
  unfold roll_Fine.f at h
  split at h
  · rename_i hk
    obtain rfl := Option.some.inj h
    rw [Bool.and_eq_true] at hk
    exact Go.Proofs.YtdaionnpgcdkdaaDoor.fine_words hk.1 hk.2 w hG.out
  · cases h

/-! ### phase_Fine: function 87 -/
def phase_Fine.f (a0 : Int) (a1 : Int) : Option (Bool) := if a1 ≥ 1 then (if a1 ≤ 65535 then (if a0 ≥ 0 then (some (decide (a0 ≤ a1))) else (some false)) else (some false)) else (some false)
set_option maxHeartbeats 8000000 in
set_option maxRecDepth 100000 in
theorem phase_Fine.calls (a0 : Int) (a1 : Int) (r : Bool) (w : World) (h : phase_Fine.f a0 a1 = some r) :
    Calls Tryd.prog 87 #[.int .i64 a0, .int .i64 a1] w fun e w' => e = .returned (.bool r) ∧ Drawn0 w w' := by
  have H : (if a1 ≥ 1 then (if a1 ≤ 65535 then (if a0 ≥ 0 then (some (decide (a0 ≤ a1))) else (some false)) else (some false)) else (some false)) = some r := h
  clear h
  by_cases c3 : a1 ≥ 1
  · rw [if_pos c3] at H
    have c3b0 : decide (1 ≤ a1) = true := decide_eq_true c3
    clear c3
    by_cases c4 : a1 ≤ 65535
    · rw [if_pos c4] at H
      have c4b0 : decide (a1 ≤ 65535) = true := decide_eq_true c4
      clear c4
      by_cases c5 : a0 ≥ 0
      · rw [if_pos c5] at H
        have c5b0 : decide (0 ≤ a0) = true := decide_eq_true c5
        clear c5
        obtain rfl := Option.some.inj H
        go_enter Tryd.func87, Tryd.ntmps87
        go_wp2
        go_ret
        exact ⟨by first | rfl | (simp; done) | (simp [*]; done), by repeat (first | exact Drawn0.refl _ | apply Drawn0.step)⟩
      · rw [if_neg c5] at H
        have c5b0 : decide (0 ≤ a0) = false := decide_eq_false c5
        clear c5
        obtain rfl := Option.some.inj H
        go_enter Tryd.func87, Tryd.ntmps87
        go_wp2
        go_ret
        exact ⟨by first | rfl | (simp; done) | (simp [*]; done), by repeat (first | exact Drawn0.refl _ | apply Drawn0.step)⟩
    · rw [if_neg c4] at H
      have c4b0 : decide (a1 ≤ 65535) = false := decide_eq_false c4
      clear c4
      obtain rfl := Option.some.inj H
      go_enter Tryd.func87, Tryd.ntmps87
      go_wp2
      go_ret
      exact ⟨by first | rfl | (simp; done) | (simp [*]; done), by repeat (first | exact Drawn0.refl _ | apply Drawn0.step)⟩
  · rw [if_neg c3] at H
    have c3b0 : decide (1 ≤ a1) = false := decide_eq_false c3
    clear c3
    obtain rfl := Option.some.inj H
    go_enter Tryd.func87, Tryd.ntmps87
    go_wp2
    go_ret
    exact ⟨by first | rfl | (simp; done) | (simp [*]; done), by repeat (first | exact Drawn0.refl _ | apply Drawn0.step)⟩

/-! ### barrier_Fine: function 41 -/
def barrier_Fine.f (a0_0 : Bool) (a0_1 : Int) (a0_2 : Int) (a0_3 : Int) (a0_4 : Int) (a0_5 : Int) (a0_6 : Int) (a0_7 : Int) (a0_8 : Int) (a0_9 : Int) (a0_10 : Int) : Option (Bool) := (phase_Fine.f a0_10 a0_1).bind fun t104 => (if t104 = true then ((roll_Fine.f a0_2 a0_3 a0_4 a0_5 a0_6 a0_7 a0_8 a0_9).bind fun t105 => (some t105)) else (some false))
set_option maxHeartbeats 8000000 in
set_option maxRecDepth 100000 in
theorem barrier_Fine.calls (a0_0 : Bool) (a0_1 : Int) (a0_2 : Int) (a0_3 : Int) (a0_4 : Int) (a0_5 : Int) (a0_6 : Int) (a0_7 : Int) (a0_8 : Int) (a0_9 : Int) (a0_10 : Int) (r : Bool) (w : World) (hG : Go.Proofs.YtdaionnpgcdkdaaDoor.GLW w) (h : barrier_Fine.f a0_0 a0_1 a0_2 a0_3 a0_4 a0_5 a0_6 a0_7 a0_8 a0_9 a0_10 = some r) :
    Calls Tryd.prog 41 #[.agg #[.bool a0_0, .int .i64 a0_1, .int .u64 a0_2, .int .u64 a0_3, .int .u64 a0_4, .int .u64 a0_5, .int .u64 a0_6, .int .u64 a0_7, .int .u64 a0_8, .int .u64 a0_9, .int .i64 a0_10]] w fun e w' => e = .returned (.bool r) ∧ Below w.heap.size w w' := by
  have hu51 := Tryd.underlying51
  have hu28 := Tryd.underlying28
  have HB := Aside0.mk (Below.refl w.heap.size w)
  have H : ((phase_Fine.f a0_10 a0_1).bind fun t104 => (if t104 = true then ((roll_Fine.f a0_2 a0_3 a0_4 a0_5 a0_6 a0_7 a0_8 a0_9).bind fun t105 => (some t105)) else (some false))) = some r := h
  clear h
  replace H := Option.bind_eq_some_iff.mp H
  obtain ⟨t104, A20, H⟩ := H
  replace H : (if t104 = true then ((roll_Fine.f a0_2 a0_3 a0_4 a0_5 a0_6 a0_7 a0_8 a0_9).bind fun t105 => (some t105)) else (some false)) = some r := H
  have A2 := Aside0.mk A20
  clear A20
  by_cases c3 : t104 = true
  · subst c3
    have H1 : ((roll_Fine.f a0_2 a0_3 a0_4 a0_5 a0_6 a0_7 a0_8 a0_9).bind fun t105 => (some t105)) = some r := by rw [if_pos rfl] at H; exact H
    clear H
    have H := H1
    clear H1
    replace H := Option.bind_eq_some_iff.mp H
    obtain ⟨t105, A40, H⟩ := H
    replace H : (some t105) = some r := H
    have A4 := Aside0.mk A40
    clear A40
    obtain rfl := Option.some.inj H
    go_enter Tryd.func41, Tryd.ntmps41
    go_wp2_with (first | ((with_reducible refine gate_dst (N := 1) rfl ?_); refine box_event ?hg (N := 1) ?hd (cs := #[.bool a0_0, .int .i64 a0_1, .int .u64 a0_2, .int .u64 a0_3, .int .u64 a0_4, .int .u64 a0_5, .int .u64 a0_6, .int .u64 a0_7, .int .u64 a0_8, .int .u64 a0_9, .int .i64 a0_10]) (t := 51) ?hr ?_; (case hd => rfl); (case hg => rfl); (case hr => first | (go_simp; done) | (go_simp; rfl)); intro gb103 hg w5 hbox hb; have BK103 := Aside0.mk (hbox); have GW103 := Aside0.mk ((by rw [hg]; exact (below_size (by exact HB.out)) : w.heap.size ≤ gb103)); have GE103 := Aside0.mk ((by rw [hg]; exact (below_size (by exact HB.out)) : w.heap.size ≤ gb103)); replace HB := Aside0.mk (below_step (by exact HB.out) hb); clear hb hbox hg; have hcz6_0 : w5.cell? ⟨gb103, 0, none⟩ = some (.bool a0_0) := (blk_cell BK103.out 0).trans rfl; have hcz6_1 : w5.cell? ⟨gb103, 1, none⟩ = some (.int .i64 a0_1) := (blk_cell BK103.out 1).trans rfl; have hcz6_2 : w5.cell? ⟨gb103, 2, none⟩ = some (.int .u64 a0_2) := (blk_cell BK103.out 2).trans rfl; have hcz6_3 : w5.cell? ⟨gb103, 3, none⟩ = some (.int .u64 a0_3) := (blk_cell BK103.out 3).trans rfl; have hcz6_4 : w5.cell? ⟨gb103, 4, none⟩ = some (.int .u64 a0_4) := (blk_cell BK103.out 4).trans rfl; have hcz6_5 : w5.cell? ⟨gb103, 5, none⟩ = some (.int .u64 a0_5) := (blk_cell BK103.out 5).trans rfl; have hcz6_6 : w5.cell? ⟨gb103, 6, none⟩ = some (.int .u64 a0_6) := (blk_cell BK103.out 6).trans rfl; have hcz6_7 : w5.cell? ⟨gb103, 7, none⟩ = some (.int .u64 a0_7) := (blk_cell BK103.out 7).trans rfl; have hcz6_8 : w5.cell? ⟨gb103, 8, none⟩ = some (.int .u64 a0_8) := (blk_cell BK103.out 8).trans rfl; have hcz6_9 : w5.cell? ⟨gb103, 9, none⟩ = some (.int .u64 a0_9) := (blk_cell BK103.out 9).trans rfl; have hcz6_10 : w5.cell? ⟨gb103, 10, none⟩ = some (.int .i64 a0_10) := (blk_cell BK103.out 10).trans rfl; have hfz6_0 := blk_frozen BK103.out 0; have hfz6_1 := blk_frozen BK103.out 1; have hfz6_2 := blk_frozen BK103.out 2; have hfz6_3 := blk_frozen BK103.out 3; have hfz6_4 := blk_frozen BK103.out 4; have hfz6_5 := blk_frozen BK103.out 5; have hfz6_6 := blk_frozen BK103.out 6; have hfz6_7 := blk_frozen BK103.out 7; have hfz6_8 := blk_frozen BK103.out 8; have hfz6_9 := blk_frozen BK103.out 9; have hfz6_10 := blk_frozen BK103.out 10) | ((with_reducible refine gate_callee (f := 87) rfl ?_); refine goesL_ (some 8) rfl rfl Tryd.func87 (by kernel_rfl) rfl #[.int .i64 a0_10, .int .i64 a0_1] rfl (by (try simp only [List.map_toArray, List.map_cons, List.map_nil]); first | done | rfl | (simp only [List.length_drop, List.length_take]; rfl)) ?_; (with_reducible refine (phase_Fine.calls a0_10 a0_1 true _ A2.out).mono ?_); rintro e w' ⟨rfl, ⟨nd, rfl⟩⟩; refine ⟨_, rfl, ?_⟩) | (go_at_call 19; (with_reducible refine (roll_Fine.calls a0_2 a0_3 a0_4 a0_5 a0_6 a0_7 a0_8 a0_9 t105 _ ?side1 A4.out).mono ?_); (case side1 => exact Go.Proofs.YtdaionnpgcdkdaaDoor.GLW.below hG (by repeat (first | (with_reducible first | exact HB.out | apply below_alloc | apply pw_below_drewN | apply below_drew1 | refine below_set ?_ GE103.out) | exact HB.out))); rintro e w7 ⟨rfl, hb⟩; replace BK103 := Aside0.mk (blk_below (g := gb103) (o := .cells #[.bool a0_0, .int .i64 a0_1, .int .u64 a0_2, .int .u64 a0_3, .int .u64 a0_4, .int .u64 a0_5, .int .u64 a0_6, .int .u64 a0_7, .int .u64 a0_8, .int .u64 a0_9, .int .i64 a0_10] 51 (0, 0)) (by (with_reducible repeat (first | refine blk_drewN ?_ _ | refine blk_drew ?_ | refine blk_alloc ?_ _)); exact BK103.out) hb); replace HB := Aside0.mk (below_step (by repeat (first | (with_reducible first | exact HB.out | apply below_alloc | apply pw_below_drewN | apply below_drew1 | refine below_set ?_ GE103.out) | exact HB.out)) hb); (try clear hb); (try clear hb2); (try clear hk); (try clear hi)))
    go_ret
    exact ⟨by first | rfl | (simp [errW_none, errW_some] <;> rfl) | (simp [*, errW_none, errW_some] <;> rfl), by exact HB.out⟩
  · replace c3 := Bool.eq_false_iff.mpr c3
    subst c3
    have H1 : (some false) = some r := by rw [if_neg (show ¬ (false = true) by decide)] at H; exact H
    clear H
    have H := H1
    clear H1
    obtain rfl := Option.some.inj H
    go_enter Tryd.func41, Tryd.ntmps41
    go_wp2_with (first | ((with_reducible refine gate_dst (N := 1) rfl ?_); refine box_event ?hg (N := 1) ?hd (cs := #[.bool a0_0, .int .i64 a0_1, .int .u64 a0_2, .int .u64 a0_3, .int .u64 a0_4, .int .u64 a0_5, .int .u64 a0_6, .int .u64 a0_7, .int .u64 a0_8, .int .u64 a0_9, .int .i64 a0_10]) (t := 51) ?hr ?_; (case hd => rfl); (case hg => rfl); (case hr => first | (go_simp; done) | (go_simp; rfl)); intro gb103 hg w8 hbox hb; have BK103 := Aside0.mk (hbox); have GW103 := Aside0.mk ((by rw [hg]; exact (below_size (by exact HB.out)) : w.heap.size ≤ gb103)); have GE103 := Aside0.mk ((by rw [hg]; exact (below_size (by exact HB.out)) : w.heap.size ≤ gb103)); replace HB := Aside0.mk (below_step (by exact HB.out) hb); clear hb hbox hg; have hcz9_0 : w8.cell? ⟨gb103, 0, none⟩ = some (.bool a0_0) := (blk_cell BK103.out 0).trans rfl; have hcz9_1 : w8.cell? ⟨gb103, 1, none⟩ = some (.int .i64 a0_1) := (blk_cell BK103.out 1).trans rfl; have hcz9_2 : w8.cell? ⟨gb103, 2, none⟩ = some (.int .u64 a0_2) := (blk_cell BK103.out 2).trans rfl; have hcz9_3 : w8.cell? ⟨gb103, 3, none⟩ = some (.int .u64 a0_3) := (blk_cell BK103.out 3).trans rfl; have hcz9_4 : w8.cell? ⟨gb103, 4, none⟩ = some (.int .u64 a0_4) := (blk_cell BK103.out 4).trans rfl; have hcz9_5 : w8.cell? ⟨gb103, 5, none⟩ = some (.int .u64 a0_5) := (blk_cell BK103.out 5).trans rfl; have hcz9_6 : w8.cell? ⟨gb103, 6, none⟩ = some (.int .u64 a0_6) := (blk_cell BK103.out 6).trans rfl; have hcz9_7 : w8.cell? ⟨gb103, 7, none⟩ = some (.int .u64 a0_7) := (blk_cell BK103.out 7).trans rfl; have hcz9_8 : w8.cell? ⟨gb103, 8, none⟩ = some (.int .u64 a0_8) := (blk_cell BK103.out 8).trans rfl; have hcz9_9 : w8.cell? ⟨gb103, 9, none⟩ = some (.int .u64 a0_9) := (blk_cell BK103.out 9).trans rfl; have hcz9_10 : w8.cell? ⟨gb103, 10, none⟩ = some (.int .i64 a0_10) := (blk_cell BK103.out 10).trans rfl; have hfz9_0 := blk_frozen BK103.out 0; have hfz9_1 := blk_frozen BK103.out 1; have hfz9_2 := blk_frozen BK103.out 2; have hfz9_3 := blk_frozen BK103.out 3; have hfz9_4 := blk_frozen BK103.out 4; have hfz9_5 := blk_frozen BK103.out 5; have hfz9_6 := blk_frozen BK103.out 6; have hfz9_7 := blk_frozen BK103.out 7; have hfz9_8 := blk_frozen BK103.out 8; have hfz9_9 := blk_frozen BK103.out 9; have hfz9_10 := blk_frozen BK103.out 10) | ((with_reducible refine gate_callee (f := 87) rfl ?_); refine goesL_ (some 8) rfl rfl Tryd.func87 (by kernel_rfl) rfl #[.int .i64 a0_10, .int .i64 a0_1] rfl (by (try simp only [List.map_toArray, List.map_cons, List.map_nil]); first | done | rfl | (simp only [List.length_drop, List.length_take]; rfl)) ?_; (with_reducible refine (phase_Fine.calls a0_10 a0_1 false _ A2.out).mono ?_); rintro e w' ⟨rfl, ⟨nd, rfl⟩⟩; refine ⟨_, rfl, ?_⟩))
    go_ret
    exact ⟨by first | rfl | (simp [errW_none, errW_some] <;> rfl) | (simp [*, errW_none, errW_some] <;> rfl), by repeat (first | (with_reducible first | exact HB.out | apply below_alloc | apply pw_below_drewN | apply below_drew1 | refine below_set ?_ GE103.out) | exact HB.out)⟩

/-! ### phase_Left: function 78 -/
def phase_Left.f (a0 : Int) (a1 : Int) : Option (Int) := (phase_Fine.f a0 a1).bind fun t106 => (if t106 = true then (some (wrap64 (a1 - a0))) else (some 0))
set_option maxHeartbeats 8000000 in
set_option maxRecDepth 100000 in
theorem phase_Left.calls (a0 : Int) (a1 : Int) (r : Int) (w : World) (h : phase_Left.f a0 a1 = some r) :
    Calls Tryd.prog 78 #[.int .i64 a0, .int .i64 a1] w fun e w' => e = .returned (.int .i64 r) ∧ Below w.heap.size w w' := by
  have HB := Aside0.mk (Below.refl w.heap.size w)
  have H : ((phase_Fine.f a0 a1).bind fun t106 => (if t106 = true then (some (wrap64 (a1 - a0))) else (some 0))) = some r := h
  clear h
  replace H := Option.bind_eq_some_iff.mp H
  obtain ⟨t106, A30, H⟩ := H
  replace H : (if t106 = true then (some (wrap64 (a1 - a0))) else (some 0)) = some r := H
  have A3 := Aside0.mk A30
  clear A30
  by_cases c4 : t106 = true
  · subst c4
    have H1 : (some (wrap64 (a1 - a0))) = some r := by rw [if_pos rfl] at H; exact H
    clear H
    have H := H1
    clear H1
    obtain rfl := Option.some.inj H
    go_enter Tryd.func78, Tryd.ntmps78
    go_wp2_with (first | ((with_reducible refine gate_callee (f := 87) rfl ?_); refine goesL_ (some 7) rfl rfl Tryd.func87 (by kernel_rfl) rfl #[.int .i64 a0, .int .i64 a1] rfl (by (try simp only [List.map_toArray, List.map_cons, List.map_nil]); first | done | rfl | (simp only [List.length_drop, List.length_take]; rfl)) ?_; (with_reducible refine (phase_Fine.calls a0 a1 true _ A3.out).mono ?_); rintro e w' ⟨rfl, ⟨nd, rfl⟩⟩; refine ⟨_, rfl, ?_⟩))
    go_ret
    exact ⟨by first | rfl | (simp [errW_none, errW_some] <;> rfl) | (simp [*, errW_none, errW_some] <;> rfl), by repeat (first | (with_reducible first | exact HB.out | apply below_alloc | apply pw_below_drewN | apply below_drew1) | exact HB.out)⟩
  · replace c4 := Bool.eq_false_iff.mpr c4
    subst c4
    have H1 : (some 0) = some r := by rw [if_neg (show ¬ (false = true) by decide)] at H; exact H
    clear H
    have H := H1
    clear H1
    obtain rfl := Option.some.inj H
    go_enter Tryd.func78, Tryd.ntmps78
    go_wp2_with (first | ((with_reducible refine gate_callee (f := 87) rfl ?_); refine goesL_ (some 7) rfl rfl Tryd.func87 (by kernel_rfl) rfl #[.int .i64 a0, .int .i64 a1] rfl (by (try simp only [List.map_toArray, List.map_cons, List.map_nil]); first | done | rfl | (simp only [List.length_drop, List.length_take]; rfl)) ?_; (with_reducible refine (phase_Fine.calls a0 a1 false _ A3.out).mono ?_); rintro e w' ⟨rfl, ⟨nd, rfl⟩⟩; refine ⟨_, rfl, ?_⟩))
    go_ret
    exact ⟨by first | rfl | (simp [errW_none, errW_some] <;> rfl) | (simp [*, errW_none, errW_some] <;> rfl), by repeat (first | (with_reducible first | exact HB.out | apply below_alloc | apply pw_below_drewN | apply below_drew1) | exact HB.out)⟩

/-! ### barrier_Bar_with: function 82 -/
def barrier_Bar_with.f (a0_0 : Bool) (a0_1 : Int) (a0_2 : Int) (a0_3 : Int) (a0_4 : Int) (a0_5 : Int) (a0_6 : Int) (a0_7 : Int) (a0_8 : Int) (a0_9 : Int) (a0_10 : Int) (a1_0 : Int) (a1_1 : Int) (a1_2 : Int) (a1_3 : Int) (a1_4 : Int) (a1_5 : Int) (a1_6 : Int) (a1_7 : Int) (a2 : Int) : Option (Bool × Int × Int × Int × Int × Int × Int × Int × Int × Int × Int × Int) := if a2 = 0 then (if (((a1_0 == a0_2 && (a1_1 == a0_3 && (a1_2 == a0_4 && (a1_3 == a0_5)))) && ((a1_4 == a0_6 && (a1_5 == a0_7 && (a1_6 == a0_8 && (a1_7 == a0_9))))))) = true then (some (a0_0, a0_1, a0_2, a0_3, a0_4, a0_5, a0_6, a0_7, a0_8, a0_9, a0_10, a2)) else (some (a0_0, a0_1, a1_0, a1_1, a1_2, a1_3, a1_4, a1_5, a1_6, a1_7, a0_10, 0))) else (some (a0_0, a0_1, a0_2, a0_3, a0_4, a0_5, a0_6, a0_7, a0_8, a0_9, a0_10, a2))
set_option maxHeartbeats 8000000 in
set_option maxRecDepth 100000 in
theorem barrier_Bar_with.calls (a0_0 : Bool) (a0_1 : Int) (a0_2 : Int) (a0_3 : Int) (a0_4 : Int) (a0_5 : Int) (a0_6 : Int) (a0_7 : Int) (a0_8 : Int) (a0_9 : Int) (a0_10 : Int) (a1_0 : Int) (a1_1 : Int) (a1_2 : Int) (a1_3 : Int) (a1_4 : Int) (a1_5 : Int) (a1_6 : Int) (a1_7 : Int) (a2 : Int) (r1 : Bool) (r2 : Int) (r3 : Int) (r4 : Int) (r5 : Int) (r6 : Int) (r7 : Int) (r8 : Int) (r9 : Int) (r10 : Int) (r11 : Int) (r12 : Int) (w : World) (h : barrier_Bar_with.f a0_0 a0_1 a0_2 a0_3 a0_4 a0_5 a0_6 a0_7 a0_8 a0_9 a0_10 a1_0 a1_1 a1_2 a1_3 a1_4 a1_5 a1_6 a1_7 a2 = some (r1, r2, r3, r4, r5, r6, r7, r8, r9, r10, r11, r12)) :
    Calls Tryd.prog 82 #[.agg #[.bool a0_0, .int .i64 a0_1, .int .u64 a0_2, .int .u64 a0_3, .int .u64 a0_4, .int .u64 a0_5, .int .u64 a0_6, .int .u64 a0_7, .int .u64 a0_8, .int .u64 a0_9, .int .i64 a0_10], .agg #[.int .u64 a1_0, .int .u64 a1_1, .int .u64 a1_2, .int .u64 a1_3, .int .u64 a1_4, .int .u64 a1_5, .int .u64 a1_6, .int .u64 a1_7], .int .i64 a2] w fun e w' => e = .returned (.tuple #[.agg #[.bool r1, .int .i64 r2, .int .u64 r3, .int .u64 r4, .int .u64 r5, .int .u64 r6, .int .u64 r7, .int .u64 r8, .int .u64 r9, .int .u64 r10, .int .i64 r11], .int .i64 r12]) ∧ Below w.heap.size w w' := by
  have hu51 := Tryd.underlying51
  have hu28 := Tryd.underlying28
  have hu43 := Tryd.underlying43
  have HB := Aside0.mk (Below.refl w.heap.size w)
  have H : (if a2 = 0 then (if (((a1_0 == a0_2 && (a1_1 == a0_3 && (a1_2 == a0_4 && (a1_3 == a0_5)))) && ((a1_4 == a0_6 && (a1_5 == a0_7 && (a1_6 == a0_8 && (a1_7 == a0_9))))))) = true then (some (a0_0, a0_1, a0_2, a0_3, a0_4, a0_5, a0_6, a0_7, a0_8, a0_9, a0_10, a2)) else (some (a0_0, a0_1, a1_0, a1_1, a1_2, a1_3, a1_4, a1_5, a1_6, a1_7, a0_10, 0))) else (some (a0_0, a0_1, a0_2, a0_3, a0_4, a0_5, a0_6, a0_7, a0_8, a0_9, a0_10, a2))) = some (r1, r2, r3, r4, r5, r6, r7, r8, r9, r10, r11, r12) := h
  clear h
  by_cases c4 : a2 = 0
  · rw [if_pos c4] at H
    have c4b0 : (a2 == 0) = true := beq_iff_eq.mpr c4
    have c4b1 : (a2 != 0) = false := bne_eq_false_iff_eq.mpr c4
    clear c4
    by_cases c5 : (((a1_0 == a0_2 && (a1_1 == a0_3 && (a1_2 == a0_4 && (a1_3 == a0_5)))) && ((a1_4 == a0_6 && (a1_5 == a0_7 && (a1_6 == a0_8 && (a1_7 == a0_9))))))) = true
    · rw [if_pos c5] at H
      have c5b0 : (((a1_0 == a0_2 && (a1_1 == a0_3 && (a1_2 == a0_4 && (a1_3 == a0_5)))) && ((a1_4 == a0_6 && (a1_5 == a0_7 && (a1_6 == a0_8 && (a1_7 == a0_9))))))) = true := c5
      clear c5
      simp only [Option.some.injEq, Prod.mk.injEq] at H
      obtain ⟨rfl, rfl, rfl, rfl, rfl, rfl, rfl, rfl, rfl, rfl, rfl, rfl⟩ := H
      go_enter Tryd.func82, Tryd.ntmps82
      go_wp2_with (first | ((with_reducible refine gate_dst (N := 3) rfl ?_); refine box_event ?hg (N := 3) ?hd (cs := #[.bool a0_0, .int .i64 a0_1, .int .u64 a0_2, .int .u64 a0_3, .int .u64 a0_4, .int .u64 a0_5, .int .u64 a0_6, .int .u64 a0_7, .int .u64 a0_8, .int .u64 a0_9, .int .i64 a0_10]) (t := 51) ?hr ?_; (case hd => rfl); (case hg => rfl); (case hr => first | (go_simp; done) | (go_simp; rfl)); intro gb107 hg w6 hbox hb; have BK107 := Aside0.mk (hbox); have GW107 := Aside0.mk ((by rw [hg]; exact (below_size (by exact HB.out)) : w.heap.size ≤ gb107)); have GE107 := Aside0.mk ((by rw [hg]; exact (below_size (by exact HB.out)) : w.heap.size ≤ gb107)); replace HB := Aside0.mk (below_step (by exact HB.out) hb); clear hb hbox hg) | ((with_reducible refine gate_dst (N := 4) rfl ?_); refine box_event ?hg (N := 4) ?hd (cs := #[.int .u64 a1_0, .int .u64 a1_1, .int .u64 a1_2, .int .u64 a1_3, .int .u64 a1_4, .int .u64 a1_5, .int .u64 a1_6, .int .u64 a1_7]) (t := 28) ?hr ?_; (case hd => rfl); (case hg => rfl); (case hr => first | (go_simp; done) | (go_simp; rfl)); intro gb108 hg w7 hbox hb; have BK108 := Aside0.mk (hbox); have GW108 := Aside0.mk ((by rw [hg]; exact (below_size (by exact HB.out)) : w.heap.size ≤ gb108)); have GE108 := Aside0.mk ((by rw [hg]; exact (below_size (by exact HB.out)) : w.heap.size ≤ gb108)); replace HB := Aside0.mk (below_step (by exact HB.out) hb); have NB107_108 := Aside0.mk ((by rw [hg]; exact Nat.ne_of_lt (blk_lt BK107.out) : gb107 ≠ gb108)); have NB108_107 := Aside0.mk ((by rw [hg]; exact Nat.ne_of_gt (blk_lt BK107.out) : gb108 ≠ gb107)); replace BK107 := Aside0.mk (blk_below BK107.out hb); clear hb hbox hg) | ((with_reducible refine gate_dst (N := 6) rfl ?_); refine box_event ?hg (N := 6) ?hd (cs := #[.bool false, .int .i64 0, .int .u64 0, .int .u64 0, .int .u64 0, .int .u64 0, .int .u64 0, .int .u64 0, .int .u64 0, .int .u64 0, .int .i64 0]) (t := 51) ?hr ?_; (case hd => rfl); (case hg => rfl); (case hr => first | (go_simp; done) | (go_simp; rfl)); intro gb109 hg w8 hbox hb; have BK109 := Aside0.mk (hbox); have GW109 := Aside0.mk ((by rw [hg]; exact (below_size (by exact HB.out)) : w.heap.size ≤ gb109)); have GE109 := Aside0.mk ((by rw [hg]; exact (below_size (by exact HB.out)) : w.heap.size ≤ gb109)); replace HB := Aside0.mk (below_step (by exact HB.out) hb); have NB107_109 := Aside0.mk ((by rw [hg]; exact Nat.ne_of_lt (blk_lt BK107.out) : gb107 ≠ gb109)); have NB109_107 := Aside0.mk ((by rw [hg]; exact Nat.ne_of_gt (blk_lt BK107.out) : gb109 ≠ gb107)); replace BK107 := Aside0.mk (blk_below BK107.out hb); have NB108_109 := Aside0.mk ((by rw [hg]; exact Nat.ne_of_lt (blk_lt BK108.out) : gb108 ≠ gb109)); have NB109_108 := Aside0.mk ((by rw [hg]; exact Nat.ne_of_gt (blk_lt BK108.out) : gb109 ≠ gb108)); replace BK108 := Aside0.mk (blk_below BK108.out hb); clear hb hbox hg; have hnb9 := NB107_108.out; have hnc9 := NB108_107.out; have hnb10 := NB107_109.out; have hnc10 := NB109_107.out; have hcz11_0 : w8.cell? ⟨gb107, 0, none⟩ = some (.bool a0_0) := (blk_cell BK107.out 0).trans rfl; have hcz11_1 : w8.cell? ⟨gb107, 1, none⟩ = some (.int .i64 a0_1) := (blk_cell BK107.out 1).trans rfl; have hcz11_2 : w8.cell? ⟨gb107, 2, none⟩ = some (.int .u64 a0_2) := (blk_cell BK107.out 2).trans rfl; have hcz11_3 : w8.cell? ⟨gb107, 3, none⟩ = some (.int .u64 a0_3) := (blk_cell BK107.out 3).trans rfl; have hcz11_4 : w8.cell? ⟨gb107, 4, none⟩ = some (.int .u64 a0_4) := (blk_cell BK107.out 4).trans rfl; have hcz11_5 : w8.cell? ⟨gb107, 5, none⟩ = some (.int .u64 a0_5) := (blk_cell BK107.out 5).trans rfl; have hcz11_6 : w8.cell? ⟨gb107, 6, none⟩ = some (.int .u64 a0_6) := (blk_cell BK107.out 6).trans rfl; have hcz11_7 : w8.cell? ⟨gb107, 7, none⟩ = some (.int .u64 a0_7) := (blk_cell BK107.out 7).trans rfl; have hcz11_8 : w8.cell? ⟨gb107, 8, none⟩ = some (.int .u64 a0_8) := (blk_cell BK107.out 8).trans rfl; have hcz11_9 : w8.cell? ⟨gb107, 9, none⟩ = some (.int .u64 a0_9) := (blk_cell BK107.out 9).trans rfl; have hcz11_10 : w8.cell? ⟨gb107, 10, none⟩ = some (.int .i64 a0_10) := (blk_cell BK107.out 10).trans rfl; have hfz11_0 := blk_frozen BK107.out 0; have hfz11_1 := blk_frozen BK107.out 1; have hfz11_2 := blk_frozen BK107.out 2; have hfz11_3 := blk_frozen BK107.out 3; have hfz11_4 := blk_frozen BK107.out 4; have hfz11_5 := blk_frozen BK107.out 5; have hfz11_6 := blk_frozen BK107.out 6; have hfz11_7 := blk_frozen BK107.out 7; have hfz11_8 := blk_frozen BK107.out 8; have hfz11_9 := blk_frozen BK107.out 9; have hfz11_10 := blk_frozen BK107.out 10; have hnb12 := NB108_109.out; have hnc12 := NB109_108.out; have hcz13_0 : w8.cell? ⟨gb108, 0, none⟩ = some (.int .u64 a1_0) := (blk_cell BK108.out 0).trans rfl; have hcz13_1 : w8.cell? ⟨gb108, 1, none⟩ = some (.int .u64 a1_1) := (blk_cell BK108.out 1).trans rfl; have hcz13_2 : w8.cell? ⟨gb108, 2, none⟩ = some (.int .u64 a1_2) := (blk_cell BK108.out 2).trans rfl; have hcz13_3 : w8.cell? ⟨gb108, 3, none⟩ = some (.int .u64 a1_3) := (blk_cell BK108.out 3).trans rfl; have hcz13_4 : w8.cell? ⟨gb108, 4, none⟩ = some (.int .u64 a1_4) := (blk_cell BK108.out 4).trans rfl; have hcz13_5 : w8.cell? ⟨gb108, 5, none⟩ = some (.int .u64 a1_5) := (blk_cell BK108.out 5).trans rfl; have hcz13_6 : w8.cell? ⟨gb108, 6, none⟩ = some (.int .u64 a1_6) := (blk_cell BK108.out 6).trans rfl; have hcz13_7 : w8.cell? ⟨gb108, 7, none⟩ = some (.int .u64 a1_7) := (blk_cell BK108.out 7).trans rfl; have hfz13_0 := blk_frozen BK108.out 0; have hfz13_1 := blk_frozen BK108.out 1; have hfz13_2 := blk_frozen BK108.out 2; have hfz13_3 := blk_frozen BK108.out 3; have hfz13_4 := blk_frozen BK108.out 4; have hfz13_5 := blk_frozen BK108.out 5; have hfz13_6 := blk_frozen BK108.out 6; have hfz13_7 := blk_frozen BK108.out 7) | ((with_reducible refine gate_dst (N := 8) rfl ?_); refine box_event ?hg (N := 8) ?hd (cs := #[.bool false, .int .i64 0, .int .u64 0, .int .u64 0, .int .u64 0, .int .u64 0, .int .u64 0, .int .u64 0, .int .u64 0, .int .u64 0, .int .i64 0]) (t := 51) ?hr ?_; (case hd => rfl); (case hg => rfl); (case hr => first | (go_simp; done) | (go_simp; rfl)); intro gb110 hg w14 hbox hb; have BK110 := Aside0.mk (hbox); have GW110 := Aside0.mk ((by rw [hg]; exact (below_size (by exact HB.out)) : w.heap.size ≤ gb110)); have GE110 := Aside0.mk ((by rw [hg]; exact (below_size (by exact HB.out)) : w.heap.size ≤ gb110)); replace HB := Aside0.mk (below_step (by exact HB.out) hb); have NB107_110 := Aside0.mk ((by rw [hg]; exact Nat.ne_of_lt (blk_lt BK107.out) : gb107 ≠ gb110)); have NB110_107 := Aside0.mk ((by rw [hg]; exact Nat.ne_of_gt (blk_lt BK107.out) : gb110 ≠ gb107)); replace BK107 := Aside0.mk (blk_below BK107.out hb); have NB108_110 := Aside0.mk ((by rw [hg]; exact Nat.ne_of_lt (blk_lt BK108.out) : gb108 ≠ gb110)); have NB110_108 := Aside0.mk ((by rw [hg]; exact Nat.ne_of_gt (blk_lt BK108.out) : gb110 ≠ gb108)); replace BK108 := Aside0.mk (blk_below BK108.out hb); have NB109_110 := Aside0.mk ((by rw [hg]; exact Nat.ne_of_lt (blk_lt BK109.out) : gb109 ≠ gb110)); have NB110_109 := Aside0.mk ((by rw [hg]; exact Nat.ne_of_gt (blk_lt BK109.out) : gb110 ≠ gb109)); replace BK109 := Aside0.mk (blk_below BK109.out hb); clear hb hbox hg; have hnb15 := NB110_107.out; have hnc15 := NB107_110.out; have hnb16 := NB110_108.out; have hnc16 := NB108_110.out; have hnb17 := NB110_109.out; have hnc17 := NB109_110.out; have hcz18_0 : w14.cell? ⟨gb110, 0, none⟩ = some (.bool false) := (blk_cell BK110.out 0).trans rfl; have hcz18_1 : w14.cell? ⟨gb110, 1, none⟩ = some (.int .i64 0) := (blk_cell BK110.out 1).trans rfl; have hcz18_2 : w14.cell? ⟨gb110, 2, none⟩ = some (.int .u64 0) := (blk_cell BK110.out 2).trans rfl; have hcz18_3 : w14.cell? ⟨gb110, 3, none⟩ = some (.int .u64 0) := (blk_cell BK110.out 3).trans rfl; have hcz18_4 : w14.cell? ⟨gb110, 4, none⟩ = some (.int .u64 0) := (blk_cell BK110.out 4).trans rfl; have hcz18_5 : w14.cell? ⟨gb110, 5, none⟩ = some (.int .u64 0) := (blk_cell BK110.out 5).trans rfl; have hcz18_6 : w14.cell? ⟨gb110, 6, none⟩ = some (.int .u64 0) := (blk_cell BK110.out 6).trans rfl; have hcz18_7 : w14.cell? ⟨gb110, 7, none⟩ = some (.int .u64 0) := (blk_cell BK110.out 7).trans rfl; have hcz18_8 : w14.cell? ⟨gb110, 8, none⟩ = some (.int .u64 0) := (blk_cell BK110.out 8).trans rfl; have hcz18_9 : w14.cell? ⟨gb110, 9, none⟩ = some (.int .u64 0) := (blk_cell BK110.out 9).trans rfl; have hcz18_10 : w14.cell? ⟨gb110, 10, none⟩ = some (.int .i64 0) := (blk_cell BK110.out 10).trans rfl; have hfz18_0 := blk_frozen BK110.out 0; have hfz18_1 := blk_frozen BK110.out 1; have hfz18_2 := blk_frozen BK110.out 2; have hfz18_3 := blk_frozen BK110.out 3; have hfz18_4 := blk_frozen BK110.out 4; have hfz18_5 := blk_frozen BK110.out 5; have hfz18_6 := blk_frozen BK110.out 6; have hfz18_7 := blk_frozen BK110.out 7; have hfz18_8 := blk_frozen BK110.out 8; have hfz18_9 := blk_frozen BK110.out 9; have hfz18_10 := blk_frozen BK110.out 10; have hcz19_0 : w14.cell? ⟨gb107, 0, none⟩ = some (.bool a0_0) := (blk_cell BK107.out 0).trans rfl; have hcz19_1 : w14.cell? ⟨gb107, 1, none⟩ = some (.int .i64 a0_1) := (blk_cell BK107.out 1).trans rfl; have hcz19_2 : w14.cell? ⟨gb107, 2, none⟩ = some (.int .u64 a0_2) := (blk_cell BK107.out 2).trans rfl; have hcz19_3 : w14.cell? ⟨gb107, 3, none⟩ = some (.int .u64 a0_3) := (blk_cell BK107.out 3).trans rfl; have hcz19_4 : w14.cell? ⟨gb107, 4, none⟩ = some (.int .u64 a0_4) := (blk_cell BK107.out 4).trans rfl; have hcz19_5 : w14.cell? ⟨gb107, 5, none⟩ = some (.int .u64 a0_5) := (blk_cell BK107.out 5).trans rfl; have hcz19_6 : w14.cell? ⟨gb107, 6, none⟩ = some (.int .u64 a0_6) := (blk_cell BK107.out 6).trans rfl; have hcz19_7 : w14.cell? ⟨gb107, 7, none⟩ = some (.int .u64 a0_7) := (blk_cell BK107.out 7).trans rfl; have hcz19_8 : w14.cell? ⟨gb107, 8, none⟩ = some (.int .u64 a0_8) := (blk_cell BK107.out 8).trans rfl; have hcz19_9 : w14.cell? ⟨gb107, 9, none⟩ = some (.int .u64 a0_9) := (blk_cell BK107.out 9).trans rfl; have hcz19_10 : w14.cell? ⟨gb107, 10, none⟩ = some (.int .i64 a0_10) := (blk_cell BK107.out 10).trans rfl; have hfz19_0 := blk_frozen BK107.out 0; have hfz19_1 := blk_frozen BK107.out 1; have hfz19_2 := blk_frozen BK107.out 2; have hfz19_3 := blk_frozen BK107.out 3; have hfz19_4 := blk_frozen BK107.out 4; have hfz19_5 := blk_frozen BK107.out 5; have hfz19_6 := blk_frozen BK107.out 6; have hfz19_7 := blk_frozen BK107.out 7; have hfz19_8 := blk_frozen BK107.out 8; have hfz19_9 := blk_frozen BK107.out 9; have hfz19_10 := blk_frozen BK107.out 10; have hcz20_0 : w14.cell? ⟨gb109, 0, none⟩ = some (.bool false) := (blk_cell BK109.out 0).trans rfl; have hcz20_1 : w14.cell? ⟨gb109, 1, none⟩ = some (.int .i64 0) := (blk_cell BK109.out 1).trans rfl; have hcz20_2 : w14.cell? ⟨gb109, 2, none⟩ = some (.int .u64 0) := (blk_cell BK109.out 2).trans rfl; have hcz20_3 : w14.cell? ⟨gb109, 3, none⟩ = some (.int .u64 0) := (blk_cell BK109.out 3).trans rfl; have hcz20_4 : w14.cell? ⟨gb109, 4, none⟩ = some (.int .u64 0) := (blk_cell BK109.out 4).trans rfl; have hcz20_5 : w14.cell? ⟨gb109, 5, none⟩ = some (.int .u64 0) := (blk_cell BK109.out 5).trans rfl; have hcz20_6 : w14.cell? ⟨gb109, 6, none⟩ = some (.int .u64 0) := (blk_cell BK109.out 6).trans rfl; have hcz20_7 : w14.cell? ⟨gb109, 7, none⟩ = some (.int .u64 0) := (blk_cell BK109.out 7).trans rfl; have hcz20_8 : w14.cell? ⟨gb109, 8, none⟩ = some (.int .u64 0) := (blk_cell BK109.out 8).trans rfl; have hcz20_9 : w14.cell? ⟨gb109, 9, none⟩ = some (.int .u64 0) := (blk_cell BK109.out 9).trans rfl; have hcz20_10 : w14.cell? ⟨gb109, 10, none⟩ = some (.int .i64 0) := (blk_cell BK109.out 10).trans rfl; have hfz20_0 := blk_frozen BK109.out 0; have hfz20_1 := blk_frozen BK109.out 1; have hfz20_2 := blk_frozen BK109.out 2; have hfz20_3 := blk_frozen BK109.out 3; have hfz20_4 := blk_frozen BK109.out 4; have hfz20_5 := blk_frozen BK109.out 5; have hfz20_6 := blk_frozen BK109.out 6; have hfz20_7 := blk_frozen BK109.out 7; have hfz20_8 := blk_frozen BK109.out 8; have hfz20_9 := blk_frozen BK109.out 9; have hfz20_10 := blk_frozen BK109.out 10))
      refine bodyPost_ret (results_ct rfl _ _ gb109 51 #[.bool a0_0, .int .i64 a0_1, .int .u64 a0_2, .int .u64 a0_3, .int .u64 a0_4, .int .u64 a0_5, .int .u64 a0_6, .int .u64 a0_7, .int .u64 a0_8, .int .u64 a0_9, .int .i64 a0_10] (0, 0) _ rfl (by apply pt51_0_11; (iterate 11 refine blk_far ?_ NB109_110.out _); exact BK109.out) Tryd.underlying51 rfl (by kernel_rfl)) rfl ?_
      exact ⟨by first | rfl | (simp [errW_none, errW_some] <;> rfl) | (simp [*, errW_none, errW_some] <;> rfl), by repeat (first | (with_reducible first | exact HB.out | apply below_alloc | apply pw_below_drewN | apply below_drew1 | refine below_set ?_ GE107.out | refine below_set ?_ GE108.out | refine below_set ?_ GE109.out | refine below_set ?_ GE110.out) | exact HB.out)⟩
    · rw [if_neg c5] at H
      have c5b0 : (((a1_0 == a0_2 && (a1_1 == a0_3 && (a1_2 == a0_4 && (a1_3 == a0_5)))) && ((a1_4 == a0_6 && (a1_5 == a0_7 && (a1_6 == a0_8 && (a1_7 == a0_9))))))) = false := by simpa using c5
      clear c5
      simp only [Option.some.injEq, Prod.mk.injEq] at H
      obtain ⟨rfl, rfl, rfl, rfl, rfl, rfl, rfl, rfl, rfl, rfl, rfl, rfl⟩ := H
      go_enter Tryd.func82, Tryd.ntmps82
      go_wp2_with (first | ((with_reducible refine gate_dst (N := 3) rfl ?_); refine box_event ?hg (N := 3) ?hd (cs := #[.bool a0_0, .int .i64 a0_1, .int .u64 a0_2, .int .u64 a0_3, .int .u64 a0_4, .int .u64 a0_5, .int .u64 a0_6, .int .u64 a0_7, .int .u64 a0_8, .int .u64 a0_9, .int .i64 a0_10]) (t := 51) ?hr ?_; (case hd => rfl); (case hg => rfl); (case hr => first | (go_simp; done) | (go_simp; rfl)); intro gb107 hg w21 hbox hb; have BK107 := Aside0.mk (hbox); have GW107 := Aside0.mk ((by rw [hg]; exact (below_size (by exact HB.out)) : w.heap.size ≤ gb107)); have GE107 := Aside0.mk ((by rw [hg]; exact (below_size (by exact HB.out)) : w.heap.size ≤ gb107)); replace HB := Aside0.mk (below_step (by exact HB.out) hb); clear hb hbox hg) | ((with_reducible refine gate_dst (N := 4) rfl ?_); refine box_event ?hg (N := 4) ?hd (cs := #[.int .u64 a1_0, .int .u64 a1_1, .int .u64 a1_2, .int .u64 a1_3, .int .u64 a1_4, .int .u64 a1_5, .int .u64 a1_6, .int .u64 a1_7]) (t := 28) ?hr ?_; (case hd => rfl); (case hg => rfl); (case hr => first | (go_simp; done) | (go_simp; rfl)); intro gb108 hg w22 hbox hb; have BK108 := Aside0.mk (hbox); have GW108 := Aside0.mk ((by rw [hg]; exact (below_size (by exact HB.out)) : w.heap.size ≤ gb108)); have GE108 := Aside0.mk ((by rw [hg]; exact (below_size (by exact HB.out)) : w.heap.size ≤ gb108)); replace HB := Aside0.mk (below_step (by exact HB.out) hb); have NB107_108 := Aside0.mk ((by rw [hg]; exact Nat.ne_of_lt (blk_lt BK107.out) : gb107 ≠ gb108)); have NB108_107 := Aside0.mk ((by rw [hg]; exact Nat.ne_of_gt (blk_lt BK107.out) : gb108 ≠ gb107)); replace BK107 := Aside0.mk (blk_below BK107.out hb); clear hb hbox hg) | ((with_reducible refine gate_dst (N := 6) rfl ?_); refine box_event ?hg (N := 6) ?hd (cs := #[.bool false, .int .i64 0, .int .u64 0, .int .u64 0, .int .u64 0, .int .u64 0, .int .u64 0, .int .u64 0, .int .u64 0, .int .u64 0, .int .i64 0]) (t := 51) ?hr ?_; (case hd => rfl); (case hg => rfl); (case hr => first | (go_simp; done) | (go_simp; rfl)); intro gb109 hg w23 hbox hb; have BK109 := Aside0.mk (hbox); have GW109 := Aside0.mk ((by rw [hg]; exact (below_size (by exact HB.out)) : w.heap.size ≤ gb109)); have GE109 := Aside0.mk ((by rw [hg]; exact (below_size (by exact HB.out)) : w.heap.size ≤ gb109)); replace HB := Aside0.mk (below_step (by exact HB.out) hb); have NB107_109 := Aside0.mk ((by rw [hg]; exact Nat.ne_of_lt (blk_lt BK107.out) : gb107 ≠ gb109)); have NB109_107 := Aside0.mk ((by rw [hg]; exact Nat.ne_of_gt (blk_lt BK107.out) : gb109 ≠ gb107)); replace BK107 := Aside0.mk (blk_below BK107.out hb); have NB108_109 := Aside0.mk ((by rw [hg]; exact Nat.ne_of_lt (blk_lt BK108.out) : gb108 ≠ gb109)); have NB109_108 := Aside0.mk ((by rw [hg]; exact Nat.ne_of_gt (blk_lt BK108.out) : gb109 ≠ gb108)); replace BK108 := Aside0.mk (blk_below BK108.out hb); clear hb hbox hg; have hnb24 := NB107_108.out; have hnc24 := NB108_107.out; have hnb25 := NB107_109.out; have hnc25 := NB109_107.out; have hcz26_0 : w23.cell? ⟨gb107, 0, none⟩ = some (.bool a0_0) := (blk_cell BK107.out 0).trans rfl; have hcz26_1 : w23.cell? ⟨gb107, 1, none⟩ = some (.int .i64 a0_1) := (blk_cell BK107.out 1).trans rfl; have hcz26_2 : w23.cell? ⟨gb107, 2, none⟩ = some (.int .u64 a0_2) := (blk_cell BK107.out 2).trans rfl; have hcz26_3 : w23.cell? ⟨gb107, 3, none⟩ = some (.int .u64 a0_3) := (blk_cell BK107.out 3).trans rfl; have hcz26_4 : w23.cell? ⟨gb107, 4, none⟩ = some (.int .u64 a0_4) := (blk_cell BK107.out 4).trans rfl; have hcz26_5 : w23.cell? ⟨gb107, 5, none⟩ = some (.int .u64 a0_5) := (blk_cell BK107.out 5).trans rfl; have hcz26_6 : w23.cell? ⟨gb107, 6, none⟩ = some (.int .u64 a0_6) := (blk_cell BK107.out 6).trans rfl; have hcz26_7 : w23.cell? ⟨gb107, 7, none⟩ = some (.int .u64 a0_7) := (blk_cell BK107.out 7).trans rfl; have hcz26_8 : w23.cell? ⟨gb107, 8, none⟩ = some (.int .u64 a0_8) := (blk_cell BK107.out 8).trans rfl; have hcz26_9 : w23.cell? ⟨gb107, 9, none⟩ = some (.int .u64 a0_9) := (blk_cell BK107.out 9).trans rfl; have hcz26_10 : w23.cell? ⟨gb107, 10, none⟩ = some (.int .i64 a0_10) := (blk_cell BK107.out 10).trans rfl; have hfz26_0 := blk_frozen BK107.out 0; have hfz26_1 := blk_frozen BK107.out 1; have hfz26_2 := blk_frozen BK107.out 2; have hfz26_3 := blk_frozen BK107.out 3; have hfz26_4 := blk_frozen BK107.out 4; have hfz26_5 := blk_frozen BK107.out 5; have hfz26_6 := blk_frozen BK107.out 6; have hfz26_7 := blk_frozen BK107.out 7; have hfz26_8 := blk_frozen BK107.out 8; have hfz26_9 := blk_frozen BK107.out 9; have hfz26_10 := blk_frozen BK107.out 10; have hnb27 := NB108_109.out; have hnc27 := NB109_108.out; have hcz28_0 : w23.cell? ⟨gb108, 0, none⟩ = some (.int .u64 a1_0) := (blk_cell BK108.out 0).trans rfl; have hcz28_1 : w23.cell? ⟨gb108, 1, none⟩ = some (.int .u64 a1_1) := (blk_cell BK108.out 1).trans rfl; have hcz28_2 : w23.cell? ⟨gb108, 2, none⟩ = some (.int .u64 a1_2) := (blk_cell BK108.out 2).trans rfl; have hcz28_3 : w23.cell? ⟨gb108, 3, none⟩ = some (.int .u64 a1_3) := (blk_cell BK108.out 3).trans rfl; have hcz28_4 : w23.cell? ⟨gb108, 4, none⟩ = some (.int .u64 a1_4) := (blk_cell BK108.out 4).trans rfl; have hcz28_5 : w23.cell? ⟨gb108, 5, none⟩ = some (.int .u64 a1_5) := (blk_cell BK108.out 5).trans rfl; have hcz28_6 : w23.cell? ⟨gb108, 6, none⟩ = some (.int .u64 a1_6) := (blk_cell BK108.out 6).trans rfl; have hcz28_7 : w23.cell? ⟨gb108, 7, none⟩ = some (.int .u64 a1_7) := (blk_cell BK108.out 7).trans rfl; have hfz28_0 := blk_frozen BK108.out 0; have hfz28_1 := blk_frozen BK108.out 1; have hfz28_2 := blk_frozen BK108.out 2; have hfz28_3 := blk_frozen BK108.out 3; have hfz28_4 := blk_frozen BK108.out 4; have hfz28_5 := blk_frozen BK108.out 5; have hfz28_6 := blk_frozen BK108.out 6; have hfz28_7 := blk_frozen BK108.out 7) | ((with_reducible refine gate_dst (N := 8) rfl ?_); refine box_event ?hg (N := 8) ?hd (cs := #[.bool false, .int .i64 0, .int .u64 0, .int .u64 0, .int .u64 0, .int .u64 0, .int .u64 0, .int .u64 0, .int .u64 0, .int .u64 0, .int .i64 0]) (t := 51) ?hr ?_; (case hd => rfl); (case hg => rfl); (case hr => first | (go_simp; done) | (go_simp; rfl)); intro gb110 hg w29 hbox hb; have BK110 := Aside0.mk (hbox); have GW110 := Aside0.mk ((by rw [hg]; exact (below_size (by exact HB.out)) : w.heap.size ≤ gb110)); have GE110 := Aside0.mk ((by rw [hg]; exact (below_size (by exact HB.out)) : w.heap.size ≤ gb110)); replace HB := Aside0.mk (below_step (by exact HB.out) hb); have NB107_110 := Aside0.mk ((by rw [hg]; exact Nat.ne_of_lt (blk_lt BK107.out) : gb107 ≠ gb110)); have NB110_107 := Aside0.mk ((by rw [hg]; exact Nat.ne_of_gt (blk_lt BK107.out) : gb110 ≠ gb107)); replace BK107 := Aside0.mk (blk_below BK107.out hb); have NB108_110 := Aside0.mk ((by rw [hg]; exact Nat.ne_of_lt (blk_lt BK108.out) : gb108 ≠ gb110)); have NB110_108 := Aside0.mk ((by rw [hg]; exact Nat.ne_of_gt (blk_lt BK108.out) : gb110 ≠ gb108)); replace BK108 := Aside0.mk (blk_below BK108.out hb); have NB109_110 := Aside0.mk ((by rw [hg]; exact Nat.ne_of_lt (blk_lt BK109.out) : gb109 ≠ gb110)); have NB110_109 := Aside0.mk ((by rw [hg]; exact Nat.ne_of_gt (blk_lt BK109.out) : gb110 ≠ gb109)); replace BK109 := Aside0.mk (blk_below BK109.out hb); clear hb hbox hg; have hnb30 := NB110_107.out; have hnc30 := NB107_110.out; have hnb31 := NB110_108.out; have hnc31 := NB108_110.out; have hnb32 := NB110_109.out; have hnc32 := NB109_110.out; have hcz33_0 : w29.cell? ⟨gb110, 0, none⟩ = some (.bool false) := (blk_cell BK110.out 0).trans rfl; have hcz33_1 : w29.cell? ⟨gb110, 1, none⟩ = some (.int .i64 0) := (blk_cell BK110.out 1).trans rfl; have hcz33_2 : w29.cell? ⟨gb110, 2, none⟩ = some (.int .u64 0) := (blk_cell BK110.out 2).trans rfl; have hcz33_3 : w29.cell? ⟨gb110, 3, none⟩ = some (.int .u64 0) := (blk_cell BK110.out 3).trans rfl; have hcz33_4 : w29.cell? ⟨gb110, 4, none⟩ = some (.int .u64 0) := (blk_cell BK110.out 4).trans rfl; have hcz33_5 : w29.cell? ⟨gb110, 5, none⟩ = some (.int .u64 0) := (blk_cell BK110.out 5).trans rfl; have hcz33_6 : w29.cell? ⟨gb110, 6, none⟩ = some (.int .u64 0) := (blk_cell BK110.out 6).trans rfl; have hcz33_7 : w29.cell? ⟨gb110, 7, none⟩ = some (.int .u64 0) := (blk_cell BK110.out 7).trans rfl; have hcz33_8 : w29.cell? ⟨gb110, 8, none⟩ = some (.int .u64 0) := (blk_cell BK110.out 8).trans rfl; have hcz33_9 : w29.cell? ⟨gb110, 9, none⟩ = some (.int .u64 0) := (blk_cell BK110.out 9).trans rfl; have hcz33_10 : w29.cell? ⟨gb110, 10, none⟩ = some (.int .i64 0) := (blk_cell BK110.out 10).trans rfl; have hfz33_0 := blk_frozen BK110.out 0; have hfz33_1 := blk_frozen BK110.out 1; have hfz33_2 := blk_frozen BK110.out 2; have hfz33_3 := blk_frozen BK110.out 3; have hfz33_4 := blk_frozen BK110.out 4; have hfz33_5 := blk_frozen BK110.out 5; have hfz33_6 := blk_frozen BK110.out 6; have hfz33_7 := blk_frozen BK110.out 7; have hfz33_8 := blk_frozen BK110.out 8; have hfz33_9 := blk_frozen BK110.out 9; have hfz33_10 := blk_frozen BK110.out 10; have hcz34_0 : w29.cell? ⟨gb107, 0, none⟩ = some (.bool a0_0) := (blk_cell BK107.out 0).trans rfl; have hcz34_1 : w29.cell? ⟨gb107, 1, none⟩ = some (.int .i64 a0_1) := (blk_cell BK107.out 1).trans rfl; have hcz34_2 : w29.cell? ⟨gb107, 2, none⟩ = some (.int .u64 a0_2) := (blk_cell BK107.out 2).trans rfl; have hcz34_3 : w29.cell? ⟨gb107, 3, none⟩ = some (.int .u64 a0_3) := (blk_cell BK107.out 3).trans rfl; have hcz34_4 : w29.cell? ⟨gb107, 4, none⟩ = some (.int .u64 a0_4) := (blk_cell BK107.out 4).trans rfl; have hcz34_5 : w29.cell? ⟨gb107, 5, none⟩ = some (.int .u64 a0_5) := (blk_cell BK107.out 5).trans rfl; have hcz34_6 : w29.cell? ⟨gb107, 6, none⟩ = some (.int .u64 a0_6) := (blk_cell BK107.out 6).trans rfl; have hcz34_7 : w29.cell? ⟨gb107, 7, none⟩ = some (.int .u64 a0_7) := (blk_cell BK107.out 7).trans rfl; have hcz34_8 : w29.cell? ⟨gb107, 8, none⟩ = some (.int .u64 a0_8) := (blk_cell BK107.out 8).trans rfl; have hcz34_9 : w29.cell? ⟨gb107, 9, none⟩ = some (.int .u64 a0_9) := (blk_cell BK107.out 9).trans rfl; have hcz34_10 : w29.cell? ⟨gb107, 10, none⟩ = some (.int .i64 a0_10) := (blk_cell BK107.out 10).trans rfl; have hfz34_0 := blk_frozen BK107.out 0; have hfz34_1 := blk_frozen BK107.out 1; have hfz34_2 := blk_frozen BK107.out 2; have hfz34_3 := blk_frozen BK107.out 3; have hfz34_4 := blk_frozen BK107.out 4; have hfz34_5 := blk_frozen BK107.out 5; have hfz34_6 := blk_frozen BK107.out 6; have hfz34_7 := blk_frozen BK107.out 7; have hfz34_8 := blk_frozen BK107.out 8; have hfz34_9 := blk_frozen BK107.out 9; have hfz34_10 := blk_frozen BK107.out 10; have hcz35_0 : w29.cell? ⟨gb109, 0, none⟩ = some (.bool false) := (blk_cell BK109.out 0).trans rfl; have hcz35_1 : w29.cell? ⟨gb109, 1, none⟩ = some (.int .i64 0) := (blk_cell BK109.out 1).trans rfl; have hcz35_2 : w29.cell? ⟨gb109, 2, none⟩ = some (.int .u64 0) := (blk_cell BK109.out 2).trans rfl; have hcz35_3 : w29.cell? ⟨gb109, 3, none⟩ = some (.int .u64 0) := (blk_cell BK109.out 3).trans rfl; have hcz35_4 : w29.cell? ⟨gb109, 4, none⟩ = some (.int .u64 0) := (blk_cell BK109.out 4).trans rfl; have hcz35_5 : w29.cell? ⟨gb109, 5, none⟩ = some (.int .u64 0) := (blk_cell BK109.out 5).trans rfl; have hcz35_6 : w29.cell? ⟨gb109, 6, none⟩ = some (.int .u64 0) := (blk_cell BK109.out 6).trans rfl; have hcz35_7 : w29.cell? ⟨gb109, 7, none⟩ = some (.int .u64 0) := (blk_cell BK109.out 7).trans rfl; have hcz35_8 : w29.cell? ⟨gb109, 8, none⟩ = some (.int .u64 0) := (blk_cell BK109.out 8).trans rfl; have hcz35_9 : w29.cell? ⟨gb109, 9, none⟩ = some (.int .u64 0) := (blk_cell BK109.out 9).trans rfl; have hcz35_10 : w29.cell? ⟨gb109, 10, none⟩ = some (.int .i64 0) := (blk_cell BK109.out 10).trans rfl; have hfz35_0 := blk_frozen BK109.out 0; have hfz35_1 := blk_frozen BK109.out 1; have hfz35_2 := blk_frozen BK109.out 2; have hfz35_3 := blk_frozen BK109.out 3; have hfz35_4 := blk_frozen BK109.out 4; have hfz35_5 := blk_frozen BK109.out 5; have hfz35_6 := blk_frozen BK109.out 6; have hfz35_7 := blk_frozen BK109.out 7; have hfz35_8 := blk_frozen BK109.out 8; have hfz35_9 := blk_frozen BK109.out 9; have hfz35_10 := blk_frozen BK109.out 10))
      refine bodyPost_ret (results_ct rfl _ _ gb109 51 #[.bool a0_0, .int .i64 a0_1, .int .u64 a1_0, .int .u64 a1_1, .int .u64 a1_2, .int .u64 a1_3, .int .u64 a1_4, .int .u64 a1_5, .int .u64 a1_6, .int .u64 a1_7, .int .i64 a0_10] (0, 0) _ rfl (by apply pt51_0_11; (iterate 11 refine blk_far ?_ NB109_110.out _); exact BK109.out) Tryd.underlying51 rfl (by kernel_rfl)) rfl ?_
      exact ⟨by first | rfl | (simp [errW_none, errW_some] <;> rfl) | (simp [*, errW_none, errW_some] <;> rfl), by repeat (first | (with_reducible first | exact HB.out | apply below_alloc | apply pw_below_drewN | apply below_drew1 | refine below_set ?_ GE107.out | refine below_set ?_ GE108.out | refine below_set ?_ GE109.out | refine below_set ?_ GE110.out) | exact HB.out)⟩
  · rw [if_neg c4] at H
    have c4b0 : (a2 == 0) = false := beq_eq_false_iff_ne.mpr c4
    have c4b1 : (a2 != 0) = true := bne_iff_ne.mpr c4
    simp only [Option.some.injEq, Prod.mk.injEq] at H
    obtain ⟨rfl, rfl, rfl, rfl, rfl, rfl, rfl, rfl, rfl, rfl, rfl, rfl⟩ := H
    go_enter Tryd.func82, Tryd.ntmps82
    go_wp2_with (first | ((with_reducible refine gate_dst (N := 3) rfl ?_); refine box_event ?hg (N := 3) ?hd (cs := #[.bool a0_0, .int .i64 a0_1, .int .u64 a0_2, .int .u64 a0_3, .int .u64 a0_4, .int .u64 a0_5, .int .u64 a0_6, .int .u64 a0_7, .int .u64 a0_8, .int .u64 a0_9, .int .i64 a0_10]) (t := 51) ?hr ?_; (case hd => rfl); (case hg => rfl); (case hr => first | (go_simp; done) | (go_simp; rfl)); intro gb107 hg w36 hbox hb; have BK107 := Aside0.mk (hbox); have GW107 := Aside0.mk ((by rw [hg]; exact (below_size (by exact HB.out)) : w.heap.size ≤ gb107)); have GE107 := Aside0.mk ((by rw [hg]; exact (below_size (by exact HB.out)) : w.heap.size ≤ gb107)); replace HB := Aside0.mk (below_step (by exact HB.out) hb); clear hb hbox hg) | ((with_reducible refine gate_dst (N := 4) rfl ?_); refine box_event ?hg (N := 4) ?hd (cs := #[.int .u64 a1_0, .int .u64 a1_1, .int .u64 a1_2, .int .u64 a1_3, .int .u64 a1_4, .int .u64 a1_5, .int .u64 a1_6, .int .u64 a1_7]) (t := 28) ?hr ?_; (case hd => rfl); (case hg => rfl); (case hr => first | (go_simp; done) | (go_simp; rfl)); intro gb108 hg w37 hbox hb; have BK108 := Aside0.mk (hbox); have GW108 := Aside0.mk ((by rw [hg]; exact (below_size (by exact HB.out)) : w.heap.size ≤ gb108)); have GE108 := Aside0.mk ((by rw [hg]; exact (below_size (by exact HB.out)) : w.heap.size ≤ gb108)); replace HB := Aside0.mk (below_step (by exact HB.out) hb); have NB107_108 := Aside0.mk ((by rw [hg]; exact Nat.ne_of_lt (blk_lt BK107.out) : gb107 ≠ gb108)); have NB108_107 := Aside0.mk ((by rw [hg]; exact Nat.ne_of_gt (blk_lt BK107.out) : gb108 ≠ gb107)); replace BK107 := Aside0.mk (blk_below BK107.out hb); clear hb hbox hg) | ((with_reducible refine gate_dst (N := 6) rfl ?_); refine box_event ?hg (N := 6) ?hd (cs := #[.bool false, .int .i64 0, .int .u64 0, .int .u64 0, .int .u64 0, .int .u64 0, .int .u64 0, .int .u64 0, .int .u64 0, .int .u64 0, .int .i64 0]) (t := 51) ?hr ?_; (case hd => rfl); (case hg => rfl); (case hr => first | (go_simp; done) | (go_simp; rfl)); intro gb109 hg w38 hbox hb; have BK109 := Aside0.mk (hbox); have GW109 := Aside0.mk ((by rw [hg]; exact (below_size (by exact HB.out)) : w.heap.size ≤ gb109)); have GE109 := Aside0.mk ((by rw [hg]; exact (below_size (by exact HB.out)) : w.heap.size ≤ gb109)); replace HB := Aside0.mk (below_step (by exact HB.out) hb); have NB107_109 := Aside0.mk ((by rw [hg]; exact Nat.ne_of_lt (blk_lt BK107.out) : gb107 ≠ gb109)); have NB109_107 := Aside0.mk ((by rw [hg]; exact Nat.ne_of_gt (blk_lt BK107.out) : gb109 ≠ gb107)); replace BK107 := Aside0.mk (blk_below BK107.out hb); have NB108_109 := Aside0.mk ((by rw [hg]; exact Nat.ne_of_lt (blk_lt BK108.out) : gb108 ≠ gb109)); have NB109_108 := Aside0.mk ((by rw [hg]; exact Nat.ne_of_gt (blk_lt BK108.out) : gb109 ≠ gb108)); replace BK108 := Aside0.mk (blk_below BK108.out hb); clear hb hbox hg; have hnb39 := NB107_108.out; have hnc39 := NB108_107.out; have hnb40 := NB107_109.out; have hnc40 := NB109_107.out; have hcz41_0 : w38.cell? ⟨gb107, 0, none⟩ = some (.bool a0_0) := (blk_cell BK107.out 0).trans rfl; have hcz41_1 : w38.cell? ⟨gb107, 1, none⟩ = some (.int .i64 a0_1) := (blk_cell BK107.out 1).trans rfl; have hcz41_2 : w38.cell? ⟨gb107, 2, none⟩ = some (.int .u64 a0_2) := (blk_cell BK107.out 2).trans rfl; have hcz41_3 : w38.cell? ⟨gb107, 3, none⟩ = some (.int .u64 a0_3) := (blk_cell BK107.out 3).trans rfl; have hcz41_4 : w38.cell? ⟨gb107, 4, none⟩ = some (.int .u64 a0_4) := (blk_cell BK107.out 4).trans rfl; have hcz41_5 : w38.cell? ⟨gb107, 5, none⟩ = some (.int .u64 a0_5) := (blk_cell BK107.out 5).trans rfl; have hcz41_6 : w38.cell? ⟨gb107, 6, none⟩ = some (.int .u64 a0_6) := (blk_cell BK107.out 6).trans rfl; have hcz41_7 : w38.cell? ⟨gb107, 7, none⟩ = some (.int .u64 a0_7) := (blk_cell BK107.out 7).trans rfl; have hcz41_8 : w38.cell? ⟨gb107, 8, none⟩ = some (.int .u64 a0_8) := (blk_cell BK107.out 8).trans rfl; have hcz41_9 : w38.cell? ⟨gb107, 9, none⟩ = some (.int .u64 a0_9) := (blk_cell BK107.out 9).trans rfl; have hcz41_10 : w38.cell? ⟨gb107, 10, none⟩ = some (.int .i64 a0_10) := (blk_cell BK107.out 10).trans rfl; have hfz41_0 := blk_frozen BK107.out 0; have hfz41_1 := blk_frozen BK107.out 1; have hfz41_2 := blk_frozen BK107.out 2; have hfz41_3 := blk_frozen BK107.out 3; have hfz41_4 := blk_frozen BK107.out 4; have hfz41_5 := blk_frozen BK107.out 5; have hfz41_6 := blk_frozen BK107.out 6; have hfz41_7 := blk_frozen BK107.out 7; have hfz41_8 := blk_frozen BK107.out 8; have hfz41_9 := blk_frozen BK107.out 9; have hfz41_10 := blk_frozen BK107.out 10; have hnb42 := NB108_109.out; have hnc42 := NB109_108.out; have hcz43_0 : w38.cell? ⟨gb108, 0, none⟩ = some (.int .u64 a1_0) := (blk_cell BK108.out 0).trans rfl; have hcz43_1 : w38.cell? ⟨gb108, 1, none⟩ = some (.int .u64 a1_1) := (blk_cell BK108.out 1).trans rfl; have hcz43_2 : w38.cell? ⟨gb108, 2, none⟩ = some (.int .u64 a1_2) := (blk_cell BK108.out 2).trans rfl; have hcz43_3 : w38.cell? ⟨gb108, 3, none⟩ = some (.int .u64 a1_3) := (blk_cell BK108.out 3).trans rfl; have hcz43_4 : w38.cell? ⟨gb108, 4, none⟩ = some (.int .u64 a1_4) := (blk_cell BK108.out 4).trans rfl; have hcz43_5 : w38.cell? ⟨gb108, 5, none⟩ = some (.int .u64 a1_5) := (blk_cell BK108.out 5).trans rfl; have hcz43_6 : w38.cell? ⟨gb108, 6, none⟩ = some (.int .u64 a1_6) := (blk_cell BK108.out 6).trans rfl; have hcz43_7 : w38.cell? ⟨gb108, 7, none⟩ = some (.int .u64 a1_7) := (blk_cell BK108.out 7).trans rfl; have hfz43_0 := blk_frozen BK108.out 0; have hfz43_1 := blk_frozen BK108.out 1; have hfz43_2 := blk_frozen BK108.out 2; have hfz43_3 := blk_frozen BK108.out 3; have hfz43_4 := blk_frozen BK108.out 4; have hfz43_5 := blk_frozen BK108.out 5; have hfz43_6 := blk_frozen BK108.out 6; have hfz43_7 := blk_frozen BK108.out 7) | ((with_reducible refine gate_dst (N := 8) rfl ?_); refine box_event ?hg (N := 8) ?hd (cs := #[.bool false, .int .i64 0, .int .u64 0, .int .u64 0, .int .u64 0, .int .u64 0, .int .u64 0, .int .u64 0, .int .u64 0, .int .u64 0, .int .i64 0]) (t := 51) ?hr ?_; (case hd => rfl); (case hg => rfl); (case hr => first | (go_simp; done) | (go_simp; rfl)); intro gb110 hg w44 hbox hb; have BK110 := Aside0.mk (hbox); have GW110 := Aside0.mk ((by rw [hg]; exact (below_size (by exact HB.out)) : w.heap.size ≤ gb110)); have GE110 := Aside0.mk ((by rw [hg]; exact (below_size (by exact HB.out)) : w.heap.size ≤ gb110)); replace HB := Aside0.mk (below_step (by exact HB.out) hb); have NB107_110 := Aside0.mk ((by rw [hg]; exact Nat.ne_of_lt (blk_lt BK107.out) : gb107 ≠ gb110)); have NB110_107 := Aside0.mk ((by rw [hg]; exact Nat.ne_of_gt (blk_lt BK107.out) : gb110 ≠ gb107)); replace BK107 := Aside0.mk (blk_below BK107.out hb); have NB108_110 := Aside0.mk ((by rw [hg]; exact Nat.ne_of_lt (blk_lt BK108.out) : gb108 ≠ gb110)); have NB110_108 := Aside0.mk ((by rw [hg]; exact Nat.ne_of_gt (blk_lt BK108.out) : gb110 ≠ gb108)); replace BK108 := Aside0.mk (blk_below BK108.out hb); have NB109_110 := Aside0.mk ((by rw [hg]; exact Nat.ne_of_lt (blk_lt BK109.out) : gb109 ≠ gb110)); have NB110_109 := Aside0.mk ((by rw [hg]; exact Nat.ne_of_gt (blk_lt BK109.out) : gb110 ≠ gb109)); replace BK109 := Aside0.mk (blk_below BK109.out hb); clear hb hbox hg; have hnb45 := NB110_107.out; have hnc45 := NB107_110.out; have hnb46 := NB110_108.out; have hnc46 := NB108_110.out; have hnb47 := NB110_109.out; have hnc47 := NB109_110.out; have hcz48_0 : w44.cell? ⟨gb110, 0, none⟩ = some (.bool false) := (blk_cell BK110.out 0).trans rfl; have hcz48_1 : w44.cell? ⟨gb110, 1, none⟩ = some (.int .i64 0) := (blk_cell BK110.out 1).trans rfl; have hcz48_2 : w44.cell? ⟨gb110, 2, none⟩ = some (.int .u64 0) := (blk_cell BK110.out 2).trans rfl; have hcz48_3 : w44.cell? ⟨gb110, 3, none⟩ = some (.int .u64 0) := (blk_cell BK110.out 3).trans rfl; have hcz48_4 : w44.cell? ⟨gb110, 4, none⟩ = some (.int .u64 0) := (blk_cell BK110.out 4).trans rfl; have hcz48_5 : w44.cell? ⟨gb110, 5, none⟩ = some (.int .u64 0) := (blk_cell BK110.out 5).trans rfl; have hcz48_6 : w44.cell? ⟨gb110, 6, none⟩ = some (.int .u64 0) := (blk_cell BK110.out 6).trans rfl; have hcz48_7 : w44.cell? ⟨gb110, 7, none⟩ = some (.int .u64 0) := (blk_cell BK110.out 7).trans rfl; have hcz48_8 : w44.cell? ⟨gb110, 8, none⟩ = some (.int .u64 0) := (blk_cell BK110.out 8).trans rfl; have hcz48_9 : w44.cell? ⟨gb110, 9, none⟩ = some (.int .u64 0) := (blk_cell BK110.out 9).trans rfl; have hcz48_10 : w44.cell? ⟨gb110, 10, none⟩ = some (.int .i64 0) := (blk_cell BK110.out 10).trans rfl; have hfz48_0 := blk_frozen BK110.out 0; have hfz48_1 := blk_frozen BK110.out 1; have hfz48_2 := blk_frozen BK110.out 2; have hfz48_3 := blk_frozen BK110.out 3; have hfz48_4 := blk_frozen BK110.out 4; have hfz48_5 := blk_frozen BK110.out 5; have hfz48_6 := blk_frozen BK110.out 6; have hfz48_7 := blk_frozen BK110.out 7; have hfz48_8 := blk_frozen BK110.out 8; have hfz48_9 := blk_frozen BK110.out 9; have hfz48_10 := blk_frozen BK110.out 10; have hcz49_0 : w44.cell? ⟨gb107, 0, none⟩ = some (.bool a0_0) := (blk_cell BK107.out 0).trans rfl; have hcz49_1 : w44.cell? ⟨gb107, 1, none⟩ = some (.int .i64 a0_1) := (blk_cell BK107.out 1).trans rfl; have hcz49_2 : w44.cell? ⟨gb107, 2, none⟩ = some (.int .u64 a0_2) := (blk_cell BK107.out 2).trans rfl; have hcz49_3 : w44.cell? ⟨gb107, 3, none⟩ = some (.int .u64 a0_3) := (blk_cell BK107.out 3).trans rfl; have hcz49_4 : w44.cell? ⟨gb107, 4, none⟩ = some (.int .u64 a0_4) := (blk_cell BK107.out 4).trans rfl; have hcz49_5 : w44.cell? ⟨gb107, 5, none⟩ = some (.int .u64 a0_5) := (blk_cell BK107.out 5).trans rfl; have hcz49_6 : w44.cell? ⟨gb107, 6, none⟩ = some (.int .u64 a0_6) := (blk_cell BK107.out 6).trans rfl; have hcz49_7 : w44.cell? ⟨gb107, 7, none⟩ = some (.int .u64 a0_7) := (blk_cell BK107.out 7).trans rfl; have hcz49_8 : w44.cell? ⟨gb107, 8, none⟩ = some (.int .u64 a0_8) := (blk_cell BK107.out 8).trans rfl; have hcz49_9 : w44.cell? ⟨gb107, 9, none⟩ = some (.int .u64 a0_9) := (blk_cell BK107.out 9).trans rfl; have hcz49_10 : w44.cell? ⟨gb107, 10, none⟩ = some (.int .i64 a0_10) := (blk_cell BK107.out 10).trans rfl; have hfz49_0 := blk_frozen BK107.out 0; have hfz49_1 := blk_frozen BK107.out 1; have hfz49_2 := blk_frozen BK107.out 2; have hfz49_3 := blk_frozen BK107.out 3; have hfz49_4 := blk_frozen BK107.out 4; have hfz49_5 := blk_frozen BK107.out 5; have hfz49_6 := blk_frozen BK107.out 6; have hfz49_7 := blk_frozen BK107.out 7; have hfz49_8 := blk_frozen BK107.out 8; have hfz49_9 := blk_frozen BK107.out 9; have hfz49_10 := blk_frozen BK107.out 10; have hcz50_0 : w44.cell? ⟨gb109, 0, none⟩ = some (.bool false) := (blk_cell BK109.out 0).trans rfl; have hcz50_1 : w44.cell? ⟨gb109, 1, none⟩ = some (.int .i64 0) := (blk_cell BK109.out 1).trans rfl; have hcz50_2 : w44.cell? ⟨gb109, 2, none⟩ = some (.int .u64 0) := (blk_cell BK109.out 2).trans rfl; have hcz50_3 : w44.cell? ⟨gb109, 3, none⟩ = some (.int .u64 0) := (blk_cell BK109.out 3).trans rfl; have hcz50_4 : w44.cell? ⟨gb109, 4, none⟩ = some (.int .u64 0) := (blk_cell BK109.out 4).trans rfl; have hcz50_5 : w44.cell? ⟨gb109, 5, none⟩ = some (.int .u64 0) := (blk_cell BK109.out 5).trans rfl; have hcz50_6 : w44.cell? ⟨gb109, 6, none⟩ = some (.int .u64 0) := (blk_cell BK109.out 6).trans rfl; have hcz50_7 : w44.cell? ⟨gb109, 7, none⟩ = some (.int .u64 0) := (blk_cell BK109.out 7).trans rfl; have hcz50_8 : w44.cell? ⟨gb109, 8, none⟩ = some (.int .u64 0) := (blk_cell BK109.out 8).trans rfl; have hcz50_9 : w44.cell? ⟨gb109, 9, none⟩ = some (.int .u64 0) := (blk_cell BK109.out 9).trans rfl; have hcz50_10 : w44.cell? ⟨gb109, 10, none⟩ = some (.int .i64 0) := (blk_cell BK109.out 10).trans rfl; have hfz50_0 := blk_frozen BK109.out 0; have hfz50_1 := blk_frozen BK109.out 1; have hfz50_2 := blk_frozen BK109.out 2; have hfz50_3 := blk_frozen BK109.out 3; have hfz50_4 := blk_frozen BK109.out 4; have hfz50_5 := blk_frozen BK109.out 5; have hfz50_6 := blk_frozen BK109.out 6; have hfz50_7 := blk_frozen BK109.out 7; have hfz50_8 := blk_frozen BK109.out 8; have hfz50_9 := blk_frozen BK109.out 9; have hfz50_10 := blk_frozen BK109.out 10))
    refine bodyPost_ret (results_ct rfl _ _ gb109 51 #[.bool a0_0, .int .i64 a0_1, .int .u64 a0_2, .int .u64 a0_3, .int .u64 a0_4, .int .u64 a0_5, .int .u64 a0_6, .int .u64 a0_7, .int .u64 a0_8, .int .u64 a0_9, .int .i64 a0_10] (0, 0) _ rfl (by apply pt51_0_11; (iterate 11 refine blk_far ?_ NB109_110.out _); exact BK109.out) Tryd.underlying51 rfl (by kernel_rfl)) rfl ?_
    exact ⟨by first | rfl | (simp [errW_none, errW_some] <;> rfl) | (simp [*, errW_none, errW_some] <;> rfl), by repeat (first | (with_reducible first | exact HB.out | apply below_alloc | apply pw_below_drewN | apply below_drew1 | refine below_set ?_ GE107.out | refine below_set ?_ GE108.out | refine below_set ?_ GE109.out | refine below_set ?_ GE110.out) | exact HB.out)⟩

/-! ### barrier_Offer: function 37 -/
def barrier_Offer.j0 : Nat → Int → Bool → Bool → Int → Int → Int → Int → Int → Int → Int → Int → Int → Int → Option (Bool × Int × Int × Int × Int × Int × Int × Int × Int × Int × Int × Int)
  | 0, _, _, _, _, _, _, _, _, _, _, _, _, _ => none
  | k + 1, x1, x13, x112000, x112001, x112002, x112003, x112004, x112005, x112006, x112007, x112008, x112009, x112010 => if x13 = true then (some (x112000, x112001, x112002, x112003, x112004, x112005, x112006, x112007, x112008, x112009, x112010, 12)) else ((phase_Left.f x112010 x112001).bind fun t114 => (if t114 = 0 then (some (x112000, x112001, x112002, x112003, x112004, x112005, x112006, x112007, x112008, x112009, x112010, 14)) else ((roll_Offer.f x112002 x112003 x112004 x112005 x112006 x112007 x112008 x112009 x1).bind fun bt115 => ((barrier_Bar_with.f x112000 x112001 x112002 x112003 x112004 x112005 x112006 x112007 x112008 x112009 x112010 bt115.1 bt115.2.1 bt115.2.2.1 bt115.2.2.2.1 bt115.2.2.2.2.1 bt115.2.2.2.2.2.1 bt115.2.2.2.2.2.2.1 bt115.2.2.2.2.2.2.2.1 bt115.2.2.2.2.2.2.2.2).bind fun bt124 => (some (bt124.1, bt124.2.1, bt124.2.2.1, bt124.2.2.2.1, bt124.2.2.2.2.1, bt124.2.2.2.2.2.1, bt124.2.2.2.2.2.2.1, bt124.2.2.2.2.2.2.2.1, bt124.2.2.2.2.2.2.2.2.1, bt124.2.2.2.2.2.2.2.2.2.1, bt124.2.2.2.2.2.2.2.2.2.2.1, bt124.2.2.2.2.2.2.2.2.2.2.2))))))
def barrier_Offer.f (k : Nat) (a0_0 : Bool) (a0_1 : Int) (a0_2 : Int) (a0_3 : Int) (a0_4 : Int) (a0_5 : Int) (a0_6 : Int) (a0_7 : Int) (a0_8 : Int) (a0_9 : Int) (a0_10 : Int) (a1 : Int) (a2 : Bool) : Option (Bool × Int × Int × Int × Int × Int × Int × Int × Int × Int × Int × Int) := (barrier_Fine.f a0_0 a0_1 a0_2 a0_3 a0_4 a0_5 a0_6 a0_7 a0_8 a0_9 a0_10).bind fun t113 => (if t113 = true then (if a2 = true then (barrier_Offer.j0 k a1 (!a0_0) a0_0 a0_1 a0_2 a0_3 a0_4 a0_5 a0_6 a0_7 a0_8 a0_9 a0_10) else (barrier_Offer.j0 k a1 false a0_0 a0_1 a0_2 a0_3 a0_4 a0_5 a0_6 a0_7 a0_8 a0_9 a0_10)) else (some (a0_0, a0_1, a0_2, a0_3, a0_4, a0_5, a0_6, a0_7, a0_8, a0_9, a0_10, 1)))
theorem barrier_Offer.mono_l : ∀ k, (∀ y0 y1 y2 y3 y4 y5 y6 y7 y8 y9 y10 y11 y12, LeO (barrier_Offer.j0 k y0 y1 y2 y3 y4 y5 y6 y7 y8 y9 y10 y11 y12) (barrier_Offer.j0 (k + 1) y0 y1 y2 y3 y4 y5 y6 y7 y8 y9 y10 y11 y12))
  | 0 => fun _ _ _ _ _ _ _ _ _ _ _ _ _ r h => by simp [barrier_Offer.j0] at h
  | k + 1 => by
    have ih0 := barrier_Offer.mono_l k
    · intro y0 y1 y2 y3 y4 y5 y6 y7 y8 y9 y10 y11 y12
      unfold barrier_Offer.j0
      repeat' first
      | (with_reducible exact ih0 _ _ _ _ _ _ _ _ _ _ _ _ _)
      | (with_reducible exact LeO.refl _)
      | (with_reducible exact LeO.none _)
      | (with_reducible refine LeO.ite ?_ ?_)
      | (with_reducible refine LeO.bind ?_ (fun _ => ?_))
      | exact ih0 _ _ _ _ _ _ _ _ _ _ _ _ _
      | exact LeO.none _
      | refine LeO.ite ?_ ?_
      | refine LeO.bind ?_ (fun _ => ?_)
theorem barrier_Offer.mono : ∀ a0 a1 a2 a3 a4 a5 a6 a7 a8 a9 a10 a11 a12 k, LeO (barrier_Offer.f k a0 a1 a2 a3 a4 a5 a6 a7 a8 a9 a10 a11 a12) (barrier_Offer.f (k + 1) a0 a1 a2 a3 a4 a5 a6 a7 a8 a9 a10 a11 a12) := by
  intro a0 a1 a2 a3 a4 a5 a6 a7 a8 a9 a10 a11 a12 k
  have ih0 := barrier_Offer.mono_l k
  unfold barrier_Offer.f
  repeat' first
      | (with_reducible exact ih0 _ _ _ _ _ _ _ _ _ _ _ _ _)
      | (with_reducible exact LeO.refl _)
      | (with_reducible exact LeO.none _)
      | (with_reducible refine LeO.ite ?_ ?_)
      | (with_reducible refine LeO.bind ?_ (fun _ => ?_))
      | exact ih0 _ _ _ _ _ _ _ _ _ _ _ _ _
      | exact LeO.none _
      | refine LeO.ite ?_ ?_
      | refine LeO.bind ?_ (fun _ => ?_)
def barrier_Offer.T7 : Bool × List (List Nat × List Nat) := (true, [([], []), ([], []), ([1], [1]), ([], []), ([2, 3], [2, 3]), ([4], [4]), ([4], [4]), ([0, 5, 6, 4], [0, 5, 6]), ([7], [7]), ([7], [7]), ([8, 7, 0, 1, 2, 3, 4, 5, 6, 7, 8, 9], [8]), ([9, 10, 0, 1, 2, 3, 4, 5, 6, 7, 8, 9, 10], [9])])
def barrier_Offer.B7 : List Nat := [0, 0, 2, 0, 14, 30, 30, 127, 255, 255, 1023, 2047]
theorem barrier_Offer.tab7 : rtab .any (opsOf Tryd.f37 7) = barrier_Offer.T7 := by kernel_rfl
theorem barrier_Offer.bits7 : waitsOk barrier_Offer.T7.2 barrier_Offer.B7 = true := by kernel_rfl
set_option maxHeartbeats 8000000 in
set_option maxRecDepth 100000 in
theorem barrier_Offer.calls (k : Nat) (a0_0 : Bool) (a0_1 : Int) (a0_2 : Int) (a0_3 : Int) (a0_4 : Int) (a0_5 : Int) (a0_6 : Int) (a0_7 : Int) (a0_8 : Int) (a0_9 : Int) (a0_10 : Int) (a1 : Int) (a2 : Bool) (r1 : Bool) (r2 : Int) (r3 : Int) (r4 : Int) (r5 : Int) (r6 : Int) (r7 : Int) (r8 : Int) (r9 : Int) (r10 : Int) (r11 : Int) (r12 : Int) (w : World) (hG : Go.Proofs.YtdaionnpgcdkdaaDoor.GLW w) (h : barrier_Offer.f k a0_0 a0_1 a0_2 a0_3 a0_4 a0_5 a0_6 a0_7 a0_8 a0_9 a0_10 a1 a2 = some (r1, r2, r3, r4, r5, r6, r7, r8, r9, r10, r11, r12)) :
    Calls Tryd.prog 37 #[.agg #[.bool a0_0, .int .i64 a0_1, .int .u64 a0_2, .int .u64 a0_3, .int .u64 a0_4, .int .u64 a0_5, .int .u64 a0_6, .int .u64 a0_7, .int .u64 a0_8, .int .u64 a0_9, .int .i64 a0_10], .int .i64 a1, .bool a2] w fun e w' => e = .returned (.tuple #[.agg #[.bool r1, .int .i64 r2, .int .u64 r3, .int .u64 r4, .int .u64 r5, .int .u64 r6, .int .u64 r7, .int .u64 r8, .int .u64 r9, .int .u64 r10, .int .i64 r11], .int .i64 r12]) ∧ Below w.heap.size w w' := by
  have hu51 := Tryd.underlying51
  have hu28 := Tryd.underlying28
  have HB := Aside0.mk (Below.refl w.heap.size w)
  have H : ((barrier_Fine.f a0_0 a0_1 a0_2 a0_3 a0_4 a0_5 a0_6 a0_7 a0_8 a0_9 a0_10).bind fun t113 => (if t113 = true then (if a2 = true then (barrier_Offer.j0 k a1 (!a0_0) a0_0 a0_1 a0_2 a0_3 a0_4 a0_5 a0_6 a0_7 a0_8 a0_9 a0_10) else (barrier_Offer.j0 k a1 false a0_0 a0_1 a0_2 a0_3 a0_4 a0_5 a0_6 a0_7 a0_8 a0_9 a0_10)) else (some (a0_0, a0_1, a0_2, a0_3, a0_4, a0_5, a0_6, a0_7, a0_8, a0_9, a0_10, 1)))) = some (r1, r2, r3, r4, r5, r6, r7, r8, r9, r10, r11, r12) := h
  clear h
  replace H := Option.bind_eq_some_iff.mp H
  obtain ⟨t113, A40, H⟩ := H
  replace H : (if t113 = true then (if a2 = true then (barrier_Offer.j0 k a1 (!a0_0) a0_0 a0_1 a0_2 a0_3 a0_4 a0_5 a0_6 a0_7 a0_8 a0_9 a0_10) else (barrier_Offer.j0 k a1 false a0_0 a0_1 a0_2 a0_3 a0_4 a0_5 a0_6 a0_7 a0_8 a0_9 a0_10)) else (some (a0_0, a0_1, a0_2, a0_3, a0_4, a0_5, a0_6, a0_7, a0_8, a0_9, a0_10, 1))) = some (r1, r2, r3, r4, r5, r6, r7, r8, r9, r10, r11, r12) := H
  have A4 := Aside0.mk A40
  clear A40
  by_cases c5 : t113 = true
  · subst c5
    have H1 : (if a2 = true then (barrier_Offer.j0 k a1 (!a0_0) a0_0 a0_1 a0_2 a0_3 a0_4 a0_5 a0_6 a0_7 a0_8 a0_9 a0_10) else (barrier_Offer.j0 k a1 false a0_0 a0_1 a0_2 a0_3 a0_4 a0_5 a0_6 a0_7 a0_8 a0_9 a0_10)) = some (r1, r2, r3, r4, r5, r6, r7, r8, r9, r10, r11, r12) := by rw [if_pos rfl] at H; exact H
    clear H
    have H := H1
    clear H1
    have HC6 := Aside0.mk H
    clear H
    go_enter Tryd.func37, Tryd.ntmps37
    go_upto_region 3 with (first | ((with_reducible refine gate_dst (N := 3) rfl ?_); refine box_event ?hg (N := 3) ?hd (cs := #[.bool a0_0, .int .i64 a0_1, .int .u64 a0_2, .int .u64 a0_3, .int .u64 a0_4, .int .u64 a0_5, .int .u64 a0_6, .int .u64 a0_7, .int .u64 a0_8, .int .u64 a0_9, .int .i64 a0_10]) (t := 51) ?hr ?_; (case hd => rfl); (case hg => rfl); (case hr => first | (go_simp; done) | (go_simp; rfl)); intro gb111 hg w7 hbox hb; have BK111 := Aside0.mk (hbox); have GW111 := Aside0.mk ((by rw [hg]; exact (below_size (by exact HB.out)) : w.heap.size ≤ gb111)); have GE111 := Aside0.mk ((by rw [hg]; exact (below_size (by exact HB.out)) : w.heap.size ≤ gb111)); replace HB := Aside0.mk (below_step (by exact HB.out) hb); clear hb hbox hg) | ((with_reducible refine gate_dst (N := 6) rfl ?_); refine box_event ?hg (N := 6) ?hd (cs := #[.bool false, .int .i64 0, .int .u64 0, .int .u64 0, .int .u64 0, .int .u64 0, .int .u64 0, .int .u64 0, .int .u64 0, .int .u64 0, .int .i64 0]) (t := 51) ?hr ?_; (case hd => rfl); (case hg => rfl); (case hr => first | (go_simp; done) | (go_simp; rfl)); intro gb112 hg w8 hbox hb; have BK112 := Aside0.mk (hbox); have GW112 := Aside0.mk ((by rw [hg]; exact (below_size (by exact HB.out)) : w.heap.size ≤ gb112)); have GE112 := Aside0.mk ((by rw [hg]; exact (below_size (by exact HB.out)) : w.heap.size ≤ gb112)); replace HB := Aside0.mk (below_step (by exact HB.out) hb); have NB111_112 := Aside0.mk ((by rw [hg]; exact Nat.ne_of_lt (blk_lt BK111.out) : gb111 ≠ gb112)); have NB112_111 := Aside0.mk ((by rw [hg]; exact Nat.ne_of_gt (blk_lt BK111.out) : gb112 ≠ gb111)); replace BK111 := Aside0.mk (blk_below BK111.out hb); clear hb hbox hg; have hnb9 := NB111_112.out; have hnc9 := NB112_111.out; have hcz10_0 : w8.cell? ⟨gb111, 0, none⟩ = some (.bool a0_0) := (blk_cell BK111.out 0).trans rfl; have hcz10_1 : w8.cell? ⟨gb111, 1, none⟩ = some (.int .i64 a0_1) := (blk_cell BK111.out 1).trans rfl; have hcz10_2 : w8.cell? ⟨gb111, 2, none⟩ = some (.int .u64 a0_2) := (blk_cell BK111.out 2).trans rfl; have hcz10_3 : w8.cell? ⟨gb111, 3, none⟩ = some (.int .u64 a0_3) := (blk_cell BK111.out 3).trans rfl; have hcz10_4 : w8.cell? ⟨gb111, 4, none⟩ = some (.int .u64 a0_4) := (blk_cell BK111.out 4).trans rfl; have hcz10_5 : w8.cell? ⟨gb111, 5, none⟩ = some (.int .u64 a0_5) := (blk_cell BK111.out 5).trans rfl; have hcz10_6 : w8.cell? ⟨gb111, 6, none⟩ = some (.int .u64 a0_6) := (blk_cell BK111.out 6).trans rfl; have hcz10_7 : w8.cell? ⟨gb111, 7, none⟩ = some (.int .u64 a0_7) := (blk_cell BK111.out 7).trans rfl; have hcz10_8 : w8.cell? ⟨gb111, 8, none⟩ = some (.int .u64 a0_8) := (blk_cell BK111.out 8).trans rfl; have hcz10_9 : w8.cell? ⟨gb111, 9, none⟩ = some (.int .u64 a0_9) := (blk_cell BK111.out 9).trans rfl; have hcz10_10 : w8.cell? ⟨gb111, 10, none⟩ = some (.int .i64 a0_10) := (blk_cell BK111.out 10).trans rfl; have hfz10_0 := blk_frozen BK111.out 0; have hfz10_1 := blk_frozen BK111.out 1; have hfz10_2 := blk_frozen BK111.out 2; have hfz10_3 := blk_frozen BK111.out 3; have hfz10_4 := blk_frozen BK111.out 4; have hfz10_5 := blk_frozen BK111.out 5; have hfz10_6 := blk_frozen BK111.out 6; have hfz10_7 := blk_frozen BK111.out 7; have hfz10_8 := blk_frozen BK111.out 8; have hfz10_9 := blk_frozen BK111.out 9; have hfz10_10 := blk_frozen BK111.out 10) | ((with_reducible refine gate_callee (f := 41) rfl ?_); refine goesL_ (some 10) rfl rfl Tryd.func41 (by kernel_rfl) rfl #[.agg #[.bool a0_0, .int .i64 a0_1, .int .u64 a0_2, .int .u64 a0_3, .int .u64 a0_4, .int .u64 a0_5, .int .u64 a0_6, .int .u64 a0_7, .int .u64 a0_8, .int .u64 a0_9, .int .i64 a0_10]] rfl (by (try simp only [List.map_toArray, List.map_cons, List.map_nil]); first | done | rfl | (simp only [List.length_drop, List.length_take]; rfl)) ?_; (with_reducible refine (barrier_Fine.calls a0_0 a0_1 a0_2 a0_3 a0_4 a0_5 a0_6 a0_7 a0_8 a0_9 a0_10 true _ ?side1 A4.out).mono ?_); (case side1 => exact Go.Proofs.YtdaionnpgcdkdaaDoor.GLW.below hG (by exact HB.out)); rintro e w11 ⟨rfl, hb⟩; refine ⟨_, rfl, ?_⟩; replace BK111 := Aside0.mk (blk_below BK111.out hb); replace BK112 := Aside0.mk (blk_below BK112.out hb); replace HB := Aside0.mk (below_step (by exact HB.out) hb); (try clear hb); (try clear hb2); (try clear hk); (try clear hi)))
    (try simp only [Act.put, List.setIfInBounds_toArray, List.set_cons_zero, List.set_cons_succ])
    go_cut [13] (fun v13 wc => ∃ (kq : Nat) (x13_5 : Bool), v13 = .bool x13_5 ∧ Aside0 (barrier_Offer.j0 kq a1 x13_5 a0_0 a0_1 a0_2 a0_3 a0_4 a0_5 a0_6 a0_7 a0_8 a0_9 a0_10 = some (r1, r2, r3, r4, r5, r6, r7, r8, r9, r10, r11, r12)) ∧ Aside0 (kq ≤ k) ∧ Aside0 (wc.heap[gb111]? = some (.cells #[.bool a0_0, .int .i64 a0_1, .int .u64 a0_2, .int .u64 a0_3, .int .u64 a0_4, .int .u64 a0_5, .int .u64 a0_6, .int .u64 a0_7, .int .u64 a0_8, .int .u64 a0_9, .int .i64 a0_10] 51 (0, 0))) ∧ Aside0 (wc.heap[gb112]? = some (.cells #[.bool false, .int .i64 0, .int .u64 0, .int .u64 0, .int .u64 0, .int .u64 0, .int .u64 0, .int .u64 0, .int .u64 0, .int .u64 0, .int .i64 0] 51 (0, 0))) ∧ Aside0 (Below w.heap.size w wc))
    case first =>
      have H := HC6.out
      clear HC6
      by_cases c12 : a2 = true
      · subst c12
        have H1 : (barrier_Offer.j0 k a1 (!a0_0) a0_0 a0_1 a0_2 a0_3 a0_4 a0_5 a0_6 a0_7 a0_8 a0_9 a0_10) = some (r1, r2, r3, r4, r5, r6, r7, r8, r9, r10, r11, r12) := by rw [if_pos rfl] at H; exact H
        clear H
        have H := H1
        clear H1
        have H' := Aside0.mk H
        clear H
        have hnb13 := NB111_112.out
        have hnc13 := NB112_111.out
        have hcz14_0 : w11.cell? ⟨gb111, 0, none⟩ = some (.bool a0_0) := (blk_cell BK111.out 0).trans rfl
        have hcz14_1 : w11.cell? ⟨gb111, 1, none⟩ = some (.int .i64 a0_1) := (blk_cell BK111.out 1).trans rfl
        have hcz14_2 : w11.cell? ⟨gb111, 2, none⟩ = some (.int .u64 a0_2) := (blk_cell BK111.out 2).trans rfl
        have hcz14_3 : w11.cell? ⟨gb111, 3, none⟩ = some (.int .u64 a0_3) := (blk_cell BK111.out 3).trans rfl
        have hcz14_4 : w11.cell? ⟨gb111, 4, none⟩ = some (.int .u64 a0_4) := (blk_cell BK111.out 4).trans rfl
        have hcz14_5 : w11.cell? ⟨gb111, 5, none⟩ = some (.int .u64 a0_5) := (blk_cell BK111.out 5).trans rfl
        have hcz14_6 : w11.cell? ⟨gb111, 6, none⟩ = some (.int .u64 a0_6) := (blk_cell BK111.out 6).trans rfl
        have hcz14_7 : w11.cell? ⟨gb111, 7, none⟩ = some (.int .u64 a0_7) := (blk_cell BK111.out 7).trans rfl
        have hcz14_8 : w11.cell? ⟨gb111, 8, none⟩ = some (.int .u64 a0_8) := (blk_cell BK111.out 8).trans rfl
        have hcz14_9 : w11.cell? ⟨gb111, 9, none⟩ = some (.int .u64 a0_9) := (blk_cell BK111.out 9).trans rfl
        have hcz14_10 : w11.cell? ⟨gb111, 10, none⟩ = some (.int .i64 a0_10) := (blk_cell BK111.out 10).trans rfl
        have hfz14_0 := blk_frozen BK111.out 0
        have hfz14_1 := blk_frozen BK111.out 1
        have hfz14_2 := blk_frozen BK111.out 2
        have hfz14_3 := blk_frozen BK111.out 3
        have hfz14_4 := blk_frozen BK111.out 4
        have hfz14_5 := blk_frozen BK111.out 5
        have hfz14_6 := blk_frozen BK111.out 6
        have hfz14_7 := blk_frozen BK111.out 7
        have hfz14_8 := blk_frozen BK111.out 8
        have hfz14_9 := blk_frozen BK111.out 9
        have hfz14_10 := blk_frozen BK111.out 10
        go_wp2
        go_meet
        case rel => exact ⟨_, (!a0_0), (by first | rfl | (simp; done) | (simp [*]; done)), H', ⟨by first | omega | exact Nat.le_refl _⟩, ⟨by exact BK111.out⟩, ⟨by exact BK112.out⟩, ⟨by exact HB.out⟩⟩
      · replace c12 := Bool.eq_false_iff.mpr c12
        subst c12
        have H1 : (barrier_Offer.j0 k a1 false a0_0 a0_1 a0_2 a0_3 a0_4 a0_5 a0_6 a0_7 a0_8 a0_9 a0_10) = some (r1, r2, r3, r4, r5, r6, r7, r8, r9, r10, r11, r12) := by rw [if_neg (show ¬ (false = true) by decide)] at H; exact H
        clear H
        have H := H1
        clear H1
        have H' := Aside0.mk H
        clear H
        go_wp2
        go_meet
        case rel => exact ⟨_, (false), (by first | rfl | (simp; done) | (simp [*]; done)), H', ⟨by first | omega | exact Nat.le_refl _⟩, ⟨by exact BK111.out⟩, ⟨by exact BK112.out⟩, ⟨by exact HB.out⟩⟩
    case rest =>
      clear HC6
      try clear c1
      try clear p2
      try clear c3
      try clear c4
      try clear c5
      try clear c9
      try clear c12
      try clear c13
      try clear hcz10_0
      try clear hcz10_1
      try clear hcz10_10
      try clear hcz10_2
      try clear hcz10_3
      try clear hcz10_4
      try clear hcz10_5
      try clear hcz10_6
      try clear hcz10_7
      try clear hcz10_8
      try clear hcz10_9
      try clear hcz14_0
      try clear hcz14_1
      try clear hcz14_10
      try clear hcz14_2
      try clear hcz14_3
      try clear hcz14_4
      try clear hcz14_5
      try clear hcz14_6
      try clear hcz14_7
      try clear hcz14_8
      try clear hcz14_9
      try clear hfz10_0
      try clear hfz10_1
      try clear hfz10_10
      try clear hfz10_2
      try clear hfz10_3
      try clear hfz10_4
      try clear hfz10_5
      try clear hfz10_6
      try clear hfz10_7
      try clear hfz10_8
      try clear hfz10_9
      try clear hfz14_0
      try clear hfz14_1
      try clear hfz14_10
      try clear hfz14_2
      try clear hfz14_3
      try clear hfz14_4
      try clear hfz14_5
      try clear hfz14_6
      try clear hfz14_7
      try clear hfz14_8
      try clear hfz14_9
      obtain ⟨kq, x13_5, rfl, HA, HJ5, BK111, BK112, HB⟩ := hcut
      cases kq with
      | zero => exact absurd HA.out (by simp [barrier_Offer.j0])
      | succ kj5 =>
        have H := HA.out
        clear HA
        simp only [barrier_Offer.j0] at H
        by_cases c15 : x13_5 = true
        · subst c15
          have H1 : (some (a0_0, a0_1, a0_2, a0_3, a0_4, a0_5, a0_6, a0_7, a0_8, a0_9, a0_10, 12)) = some (r1, r2, r3, r4, r5, r6, r7, r8, r9, r10, r11, r12) := by rw [if_pos rfl] at H; exact H
          clear H
          have H := H1
          clear H1
          simp only [Option.some.injEq, Prod.mk.injEq] at H
          obtain ⟨rfl, rfl, rfl, rfl, rfl, rfl, rfl, rfl, rfl, rfl, rfl, rfl⟩ := H
          have hnb16 := NB111_112.out
          have hnc16 := NB112_111.out
          have hcz17_0 : wc.cell? ⟨gb111, 0, none⟩ = some (.bool a0_0) := (blk_cell BK111.out 0).trans rfl
          have hcz17_1 : wc.cell? ⟨gb111, 1, none⟩ = some (.int .i64 a0_1) := (blk_cell BK111.out 1).trans rfl
          have hcz17_2 : wc.cell? ⟨gb111, 2, none⟩ = some (.int .u64 a0_2) := (blk_cell BK111.out 2).trans rfl
          have hcz17_3 : wc.cell? ⟨gb111, 3, none⟩ = some (.int .u64 a0_3) := (blk_cell BK111.out 3).trans rfl
          have hcz17_4 : wc.cell? ⟨gb111, 4, none⟩ = some (.int .u64 a0_4) := (blk_cell BK111.out 4).trans rfl
          have hcz17_5 : wc.cell? ⟨gb111, 5, none⟩ = some (.int .u64 a0_5) := (blk_cell BK111.out 5).trans rfl
          have hcz17_6 : wc.cell? ⟨gb111, 6, none⟩ = some (.int .u64 a0_6) := (blk_cell BK111.out 6).trans rfl
          have hcz17_7 : wc.cell? ⟨gb111, 7, none⟩ = some (.int .u64 a0_7) := (blk_cell BK111.out 7).trans rfl
          have hcz17_8 : wc.cell? ⟨gb111, 8, none⟩ = some (.int .u64 a0_8) := (blk_cell BK111.out 8).trans rfl
          have hcz17_9 : wc.cell? ⟨gb111, 9, none⟩ = some (.int .u64 a0_9) := (blk_cell BK111.out 9).trans rfl
          have hcz17_10 : wc.cell? ⟨gb111, 10, none⟩ = some (.int .i64 a0_10) := (blk_cell BK111.out 10).trans rfl
          have hfz17_0 := blk_frozen BK111.out 0
          have hfz17_1 := blk_frozen BK111.out 1
          have hfz17_2 := blk_frozen BK111.out 2
          have hfz17_3 := blk_frozen BK111.out 3
          have hfz17_4 := blk_frozen BK111.out 4
          have hfz17_5 := blk_frozen BK111.out 5
          have hfz17_6 := blk_frozen BK111.out 6
          have hfz17_7 := blk_frozen BK111.out 7
          have hfz17_8 := blk_frozen BK111.out 8
          have hfz17_9 := blk_frozen BK111.out 9
          have hfz17_10 := blk_frozen BK111.out 10
          have hcz18_0 : wc.cell? ⟨gb112, 0, none⟩ = some (.bool false) := (blk_cell BK112.out 0).trans rfl
          have hcz18_1 : wc.cell? ⟨gb112, 1, none⟩ = some (.int .i64 0) := (blk_cell BK112.out 1).trans rfl
          have hcz18_2 : wc.cell? ⟨gb112, 2, none⟩ = some (.int .u64 0) := (blk_cell BK112.out 2).trans rfl
          have hcz18_3 : wc.cell? ⟨gb112, 3, none⟩ = some (.int .u64 0) := (blk_cell BK112.out 3).trans rfl
          have hcz18_4 : wc.cell? ⟨gb112, 4, none⟩ = some (.int .u64 0) := (blk_cell BK112.out 4).trans rfl
          have hcz18_5 : wc.cell? ⟨gb112, 5, none⟩ = some (.int .u64 0) := (blk_cell BK112.out 5).trans rfl
          have hcz18_6 : wc.cell? ⟨gb112, 6, none⟩ = some (.int .u64 0) := (blk_cell BK112.out 6).trans rfl
          have hcz18_7 : wc.cell? ⟨gb112, 7, none⟩ = some (.int .u64 0) := (blk_cell BK112.out 7).trans rfl
          have hcz18_8 : wc.cell? ⟨gb112, 8, none⟩ = some (.int .u64 0) := (blk_cell BK112.out 8).trans rfl
          have hcz18_9 : wc.cell? ⟨gb112, 9, none⟩ = some (.int .u64 0) := (blk_cell BK112.out 9).trans rfl
          have hcz18_10 : wc.cell? ⟨gb112, 10, none⟩ = some (.int .i64 0) := (blk_cell BK112.out 10).trans rfl
          have hfz18_0 := blk_frozen BK112.out 0
          have hfz18_1 := blk_frozen BK112.out 1
          have hfz18_2 := blk_frozen BK112.out 2
          have hfz18_3 := blk_frozen BK112.out 3
          have hfz18_4 := blk_frozen BK112.out 4
          have hfz18_5 := blk_frozen BK112.out 5
          have hfz18_6 := blk_frozen BK112.out 6
          have hfz18_7 := blk_frozen BK112.out 7
          have hfz18_8 := blk_frozen BK112.out 8
          have hfz18_9 := blk_frozen BK112.out 9
          have hfz18_10 := blk_frozen BK112.out 10
          go_wp2
          refine bodyPost_ret (results_ct rfl _ _ gb112 51 #[.bool a0_0, .int .i64 a0_1, .int .u64 a0_2, .int .u64 a0_3, .int .u64 a0_4, .int .u64 a0_5, .int .u64 a0_6, .int .u64 a0_7, .int .u64 a0_8, .int .u64 a0_9, .int .i64 a0_10] (0, 0) _ rfl (by apply pt51_0_11; exact BK112.out) Tryd.underlying51 rfl (by kernel_rfl)) rfl ?_
          exact ⟨by first | rfl | (simp [errW_none, errW_some] <;> rfl) | (simp [*, errW_none, errW_some] <;> rfl), by repeat (first | (with_reducible first | exact HB.out | apply below_alloc | apply pw_below_drewN | apply below_drew1 | refine below_set ?_ GE111.out | refine below_set ?_ GE112.out) | exact HB.out)⟩
        · replace c15 := Bool.eq_false_iff.mpr c15
          subst c15
          have H1 : ((phase_Left.f a0_10 a0_1).bind fun t114 => (if t114 = 0 then (some (a0_0, a0_1, a0_2, a0_3, a0_4, a0_5, a0_6, a0_7, a0_8, a0_9, a0_10, 14)) else ((roll_Offer.f a0_2 a0_3 a0_4 a0_5 a0_6 a0_7 a0_8 a0_9 a1).bind fun bt115 => ((barrier_Bar_with.f a0_0 a0_1 a0_2 a0_3 a0_4 a0_5 a0_6 a0_7 a0_8 a0_9 a0_10 bt115.1 bt115.2.1 bt115.2.2.1 bt115.2.2.2.1 bt115.2.2.2.2.1 bt115.2.2.2.2.2.1 bt115.2.2.2.2.2.2.1 bt115.2.2.2.2.2.2.2.1 bt115.2.2.2.2.2.2.2.2).bind fun bt124 => (some (bt124.1, bt124.2.1, bt124.2.2.1, bt124.2.2.2.1, bt124.2.2.2.2.1, bt124.2.2.2.2.2.1, bt124.2.2.2.2.2.2.1, bt124.2.2.2.2.2.2.2.1, bt124.2.2.2.2.2.2.2.2.1, bt124.2.2.2.2.2.2.2.2.2.1, bt124.2.2.2.2.2.2.2.2.2.2.1, bt124.2.2.2.2.2.2.2.2.2.2.2)))))) = some (r1, r2, r3, r4, r5, r6, r7, r8, r9, r10, r11, r12) := by rw [if_neg (show ¬ (false = true) by decide)] at H; exact H
          clear H
          have H := H1
          clear H1
          replace H := Option.bind_eq_some_iff.mp H
          obtain ⟨t114, A190, H⟩ := H
          replace H : (if t114 = 0 then (some (a0_0, a0_1, a0_2, a0_3, a0_4, a0_5, a0_6, a0_7, a0_8, a0_9, a0_10, 14)) else ((roll_Offer.f a0_2 a0_3 a0_4 a0_5 a0_6 a0_7 a0_8 a0_9 a1).bind fun bt115 => ((barrier_Bar_with.f a0_0 a0_1 a0_2 a0_3 a0_4 a0_5 a0_6 a0_7 a0_8 a0_9 a0_10 bt115.1 bt115.2.1 bt115.2.2.1 bt115.2.2.2.1 bt115.2.2.2.2.1 bt115.2.2.2.2.2.1 bt115.2.2.2.2.2.2.1 bt115.2.2.2.2.2.2.2.1 bt115.2.2.2.2.2.2.2.2).bind fun bt124 => (some (bt124.1, bt124.2.1, bt124.2.2.1, bt124.2.2.2.1, bt124.2.2.2.2.1, bt124.2.2.2.2.2.1, bt124.2.2.2.2.2.2.1, bt124.2.2.2.2.2.2.2.1, bt124.2.2.2.2.2.2.2.2.1, bt124.2.2.2.2.2.2.2.2.2.1, bt124.2.2.2.2.2.2.2.2.2.2.1, bt124.2.2.2.2.2.2.2.2.2.2.2))))) = some (r1, r2, r3, r4, r5, r6, r7, r8, r9, r10, r11, r12) := H
          have A19 := Aside0.mk A190
          clear A190
          by_cases c20 : t114 = 0
          · rw [if_pos c20] at H
            have c20b0 : (t114 == 0) = true := beq_iff_eq.mpr c20
            have c20b1 : (t114 != 0) = false := bne_eq_false_iff_eq.mpr c20
            clear c20
            simp only [Option.some.injEq, Prod.mk.injEq] at H
            obtain ⟨rfl, rfl, rfl, rfl, rfl, rfl, rfl, rfl, rfl, rfl, rfl, rfl⟩ := H
            have hnb21 := NB111_112.out
            have hnc21 := NB112_111.out
            have hcz22_0 : wc.cell? ⟨gb111, 0, none⟩ = some (.bool a0_0) := (blk_cell BK111.out 0).trans rfl
            have hcz22_1 : wc.cell? ⟨gb111, 1, none⟩ = some (.int .i64 a0_1) := (blk_cell BK111.out 1).trans rfl
            have hcz22_2 : wc.cell? ⟨gb111, 2, none⟩ = some (.int .u64 a0_2) := (blk_cell BK111.out 2).trans rfl
            have hcz22_3 : wc.cell? ⟨gb111, 3, none⟩ = some (.int .u64 a0_3) := (blk_cell BK111.out 3).trans rfl
            have hcz22_4 : wc.cell? ⟨gb111, 4, none⟩ = some (.int .u64 a0_4) := (blk_cell BK111.out 4).trans rfl
            have hcz22_5 : wc.cell? ⟨gb111, 5, none⟩ = some (.int .u64 a0_5) := (blk_cell BK111.out 5).trans rfl
            have hcz22_6 : wc.cell? ⟨gb111, 6, none⟩ = some (.int .u64 a0_6) := (blk_cell BK111.out 6).trans rfl
            have hcz22_7 : wc.cell? ⟨gb111, 7, none⟩ = some (.int .u64 a0_7) := (blk_cell BK111.out 7).trans rfl
            have hcz22_8 : wc.cell? ⟨gb111, 8, none⟩ = some (.int .u64 a0_8) := (blk_cell BK111.out 8).trans rfl
            have hcz22_9 : wc.cell? ⟨gb111, 9, none⟩ = some (.int .u64 a0_9) := (blk_cell BK111.out 9).trans rfl
            have hcz22_10 : wc.cell? ⟨gb111, 10, none⟩ = some (.int .i64 a0_10) := (blk_cell BK111.out 10).trans rfl
            have hfz22_0 := blk_frozen BK111.out 0
            have hfz22_1 := blk_frozen BK111.out 1
            have hfz22_2 := blk_frozen BK111.out 2
            have hfz22_3 := blk_frozen BK111.out 3
            have hfz22_4 := blk_frozen BK111.out 4
            have hfz22_5 := blk_frozen BK111.out 5
            have hfz22_6 := blk_frozen BK111.out 6
            have hfz22_7 := blk_frozen BK111.out 7
            have hfz22_8 := blk_frozen BK111.out 8
            have hfz22_9 := blk_frozen BK111.out 9
            have hfz22_10 := blk_frozen BK111.out 10
            go_wp2_with (first | ((with_reducible refine gate_callee (f := 78) rfl ?_); refine goesL_ (some 28) rfl rfl Tryd.func78 (by kernel_rfl) rfl #[.int .i64 a0_10, .int .i64 a0_1] rfl (by (try simp only [List.map_toArray, List.map_cons, List.map_nil]); first | done | rfl | (simp only [List.length_drop, List.length_take]; rfl)) ?_; (with_reducible refine (phase_Left.calls a0_10 a0_1 t114 _ A19.out).mono ?_); rintro e w23 ⟨rfl, hb⟩; refine ⟨_, rfl, ?_⟩; replace BK111 := Aside0.mk (blk_below BK111.out hb); replace BK112 := Aside0.mk (blk_below BK112.out hb); replace HB := Aside0.mk (below_step (by exact HB.out) hb); (try clear hb); (try clear hb2); (try clear hk); (try clear hi); have hcz24_0 : w23.cell? ⟨gb111, 0, none⟩ = some (.bool a0_0) := (blk_cell BK111.out 0).trans rfl; have hcz24_1 : w23.cell? ⟨gb111, 1, none⟩ = some (.int .i64 a0_1) := (blk_cell BK111.out 1).trans rfl; have hcz24_2 : w23.cell? ⟨gb111, 2, none⟩ = some (.int .u64 a0_2) := (blk_cell BK111.out 2).trans rfl; have hcz24_3 : w23.cell? ⟨gb111, 3, none⟩ = some (.int .u64 a0_3) := (blk_cell BK111.out 3).trans rfl; have hcz24_4 : w23.cell? ⟨gb111, 4, none⟩ = some (.int .u64 a0_4) := (blk_cell BK111.out 4).trans rfl; have hcz24_5 : w23.cell? ⟨gb111, 5, none⟩ = some (.int .u64 a0_5) := (blk_cell BK111.out 5).trans rfl; have hcz24_6 : w23.cell? ⟨gb111, 6, none⟩ = some (.int .u64 a0_6) := (blk_cell BK111.out 6).trans rfl; have hcz24_7 : w23.cell? ⟨gb111, 7, none⟩ = some (.int .u64 a0_7) := (blk_cell BK111.out 7).trans rfl; have hcz24_8 : w23.cell? ⟨gb111, 8, none⟩ = some (.int .u64 a0_8) := (blk_cell BK111.out 8).trans rfl; have hcz24_9 : w23.cell? ⟨gb111, 9, none⟩ = some (.int .u64 a0_9) := (blk_cell BK111.out 9).trans rfl; have hcz24_10 : w23.cell? ⟨gb111, 10, none⟩ = some (.int .i64 a0_10) := (blk_cell BK111.out 10).trans rfl; have hfz24_0 := blk_frozen BK111.out 0; have hfz24_1 := blk_frozen BK111.out 1; have hfz24_2 := blk_frozen BK111.out 2; have hfz24_3 := blk_frozen BK111.out 3; have hfz24_4 := blk_frozen BK111.out 4; have hfz24_5 := blk_frozen BK111.out 5; have hfz24_6 := blk_frozen BK111.out 6; have hfz24_7 := blk_frozen BK111.out 7; have hfz24_8 := blk_frozen BK111.out 8; have hfz24_9 := blk_frozen BK111.out 9; have hfz24_10 := blk_frozen BK111.out 10; have hcz25_0 : w23.cell? ⟨gb112, 0, none⟩ = some (.bool false) := (blk_cell BK112.out 0).trans rfl; have hcz25_1 : w23.cell? ⟨gb112, 1, none⟩ = some (.int .i64 0) := (blk_cell BK112.out 1).trans rfl; have hcz25_2 : w23.cell? ⟨gb112, 2, none⟩ = some (.int .u64 0) := (blk_cell BK112.out 2).trans rfl; have hcz25_3 : w23.cell? ⟨gb112, 3, none⟩ = some (.int .u64 0) := (blk_cell BK112.out 3).trans rfl; have hcz25_4 : w23.cell? ⟨gb112, 4, none⟩ = some (.int .u64 0) := (blk_cell BK112.out 4).trans rfl; have hcz25_5 : w23.cell? ⟨gb112, 5, none⟩ = some (.int .u64 0) := (blk_cell BK112.out 5).trans rfl; have hcz25_6 : w23.cell? ⟨gb112, 6, none⟩ = some (.int .u64 0) := (blk_cell BK112.out 6).trans rfl; have hcz25_7 : w23.cell? ⟨gb112, 7, none⟩ = some (.int .u64 0) := (blk_cell BK112.out 7).trans rfl; have hcz25_8 : w23.cell? ⟨gb112, 8, none⟩ = some (.int .u64 0) := (blk_cell BK112.out 8).trans rfl; have hcz25_9 : w23.cell? ⟨gb112, 9, none⟩ = some (.int .u64 0) := (blk_cell BK112.out 9).trans rfl; have hcz25_10 : w23.cell? ⟨gb112, 10, none⟩ = some (.int .i64 0) := (blk_cell BK112.out 10).trans rfl; have hfz25_0 := blk_frozen BK112.out 0; have hfz25_1 := blk_frozen BK112.out 1; have hfz25_2 := blk_frozen BK112.out 2; have hfz25_3 := blk_frozen BK112.out 3; have hfz25_4 := blk_frozen BK112.out 4; have hfz25_5 := blk_frozen BK112.out 5; have hfz25_6 := blk_frozen BK112.out 6; have hfz25_7 := blk_frozen BK112.out 7; have hfz25_8 := blk_frozen BK112.out 8; have hfz25_9 := blk_frozen BK112.out 9; have hfz25_10 := blk_frozen BK112.out 10))
            refine bodyPost_ret (results_ct rfl _ _ gb112 51 #[.bool a0_0, .int .i64 a0_1, .int .u64 a0_2, .int .u64 a0_3, .int .u64 a0_4, .int .u64 a0_5, .int .u64 a0_6, .int .u64 a0_7, .int .u64 a0_8, .int .u64 a0_9, .int .i64 a0_10] (0, 0) _ rfl (by apply pt51_0_11; exact BK112.out) Tryd.underlying51 rfl (by kernel_rfl)) rfl ?_
            exact ⟨by first | rfl | (simp [errW_none, errW_some] <;> rfl) | (simp [*, errW_none, errW_some] <;> rfl), by repeat (first | (with_reducible first | exact HB.out | apply below_alloc | apply pw_below_drewN | apply below_drew1 | refine below_set ?_ GE111.out | refine below_set ?_ GE112.out) | exact HB.out)⟩
          · rw [if_neg c20] at H
            have c20b0 : (t114 == 0) = false := beq_eq_false_iff_ne.mpr c20
            have c20b1 : (t114 != 0) = true := bne_iff_ne.mpr c20
            replace H := Option.bind_eq_some_iff.mp H
            obtain ⟨⟨t115, t116, t117, t118, t119, t120, t121, t122, t123⟩, A260, H⟩ := H
            replace H : ((barrier_Bar_with.f a0_0 a0_1 a0_2 a0_3 a0_4 a0_5 a0_6 a0_7 a0_8 a0_9 a0_10 t115 t116 t117 t118 t119 t120 t121 t122 t123).bind fun bt124 => (some (bt124.1, bt124.2.1, bt124.2.2.1, bt124.2.2.2.1, bt124.2.2.2.2.1, bt124.2.2.2.2.2.1, bt124.2.2.2.2.2.2.1, bt124.2.2.2.2.2.2.2.1, bt124.2.2.2.2.2.2.2.2.1, bt124.2.2.2.2.2.2.2.2.2.1, bt124.2.2.2.2.2.2.2.2.2.2.1, bt124.2.2.2.2.2.2.2.2.2.2.2))) = some (r1, r2, r3, r4, r5, r6, r7, r8, r9, r10, r11, r12) := H
            have A26 := Aside0.mk A260
            clear A260
            replace H := Option.bind_eq_some_iff.mp H
            obtain ⟨⟨t124, t125, t126, t127, t128, t129, t130, t131, t132, t133, t134, t135⟩, A270, H⟩ := H
            replace H : (some (t124, t125, t126, t127, t128, t129, t130, t131, t132, t133, t134, t135)) = some (r1, r2, r3, r4, r5, r6, r7, r8, r9, r10, r11, r12) := H
            have A27 := Aside0.mk A270
            clear A270
            simp only [Option.some.injEq, Prod.mk.injEq] at H
            obtain ⟨rfl, rfl, rfl, rfl, rfl, rfl, rfl, rfl, rfl, rfl, rfl, rfl⟩ := H
            have hnb28 := NB111_112.out
            have hnc28 := NB112_111.out
            have hcz29_0 : wc.cell? ⟨gb111, 0, none⟩ = some (.bool a0_0) := (blk_cell BK111.out 0).trans rfl
            have hcz29_1 : wc.cell? ⟨gb111, 1, none⟩ = some (.int .i64 a0_1) := (blk_cell BK111.out 1).trans rfl
            have hcz29_2 : wc.cell? ⟨gb111, 2, none⟩ = some (.int .u64 a0_2) := (blk_cell BK111.out 2).trans rfl
            have hcz29_3 : wc.cell? ⟨gb111, 3, none⟩ = some (.int .u64 a0_3) := (blk_cell BK111.out 3).trans rfl
            have hcz29_4 : wc.cell? ⟨gb111, 4, none⟩ = some (.int .u64 a0_4) := (blk_cell BK111.out 4).trans rfl
            have hcz29_5 : wc.cell? ⟨gb111, 5, none⟩ = some (.int .u64 a0_5) := (blk_cell BK111.out 5).trans rfl
            have hcz29_6 : wc.cell? ⟨gb111, 6, none⟩ = some (.int .u64 a0_6) := (blk_cell BK111.out 6).trans rfl
            have hcz29_7 : wc.cell? ⟨gb111, 7, none⟩ = some (.int .u64 a0_7) := (blk_cell BK111.out 7).trans rfl
            have hcz29_8 : wc.cell? ⟨gb111, 8, none⟩ = some (.int .u64 a0_8) := (blk_cell BK111.out 8).trans rfl
            have hcz29_9 : wc.cell? ⟨gb111, 9, none⟩ = some (.int .u64 a0_9) := (blk_cell BK111.out 9).trans rfl
            have hcz29_10 : wc.cell? ⟨gb111, 10, none⟩ = some (.int .i64 a0_10) := (blk_cell BK111.out 10).trans rfl
            have hfz29_0 := blk_frozen BK111.out 0
            have hfz29_1 := blk_frozen BK111.out 1
            have hfz29_2 := blk_frozen BK111.out 2
            have hfz29_3 := blk_frozen BK111.out 3
            have hfz29_4 := blk_frozen BK111.out 4
            have hfz29_5 := blk_frozen BK111.out 5
            have hfz29_6 := blk_frozen BK111.out 6
            have hfz29_7 := blk_frozen BK111.out 7
            have hfz29_8 := blk_frozen BK111.out 8
            have hfz29_9 := blk_frozen BK111.out 9
            have hfz29_10 := blk_frozen BK111.out 10
            try go_wp2_with (first | ((with_reducible refine gate_callee (f := 78) rfl ?_); refine goesL_ (some 28) rfl rfl Tryd.func78 (by kernel_rfl) rfl #[.int .i64 a0_10, .int .i64 a0_1] rfl (by (try simp only [List.map_toArray, List.map_cons, List.map_nil]); first | done | rfl | (simp only [List.length_drop, List.length_take]; rfl)) ?_; (with_reducible refine (phase_Left.calls a0_10 a0_1 t114 _ A19.out).mono ?_); rintro e w30 ⟨rfl, hb⟩; refine ⟨_, rfl, ?_⟩; replace BK111 := Aside0.mk (blk_below BK111.out hb); replace BK112 := Aside0.mk (blk_below BK112.out hb); replace HB := Aside0.mk (below_step (by exact HB.out) hb); (try clear hb); (try clear hb2); (try clear hk); (try clear hi)))
            replace BK111 := Aside0.mk (blk_drew BK111.out)
            replace BK112 := Aside0.mk (blk_drew BK112.out)
            replace HB := Aside0.mk (below_drew1 HB.out)
            refine start_ (n := 12) (S := fun w' => w'.cell? ⟨gb111, 0, none⟩ = some (.bool a0_0) ∧ w'.cell? ⟨gb111, 1, none⟩ = some (.int .i64 a0_1) ∧ w'.cell? ⟨gb111, 2, none⟩ = some (.int .u64 a0_2) ∧ w'.cell? ⟨gb111, 3, none⟩ = some (.int .u64 a0_3) ∧ w'.cell? ⟨gb111, 4, none⟩ = some (.int .u64 a0_4) ∧ w'.cell? ⟨gb111, 5, none⟩ = some (.int .u64 a0_5) ∧ w'.cell? ⟨gb111, 6, none⟩ = some (.int .u64 a0_6) ∧ w'.cell? ⟨gb111, 7, none⟩ = some (.int .u64 a0_7) ∧ w'.cell? ⟨gb111, 8, none⟩ = some (.int .u64 a0_8) ∧ w'.cell? ⟨gb111, 9, none⟩ = some (.int .u64 a0_9) ∧ w'.cell? ⟨gb111, 10, none⟩ = some (.int .i64 a0_10)) (ds := []) #[false, false, false, false, false, false, false, false, false, false, false, false] (by kernel_rfl) rfl rfl ⟨(blk_cell BK111.out 0).trans rfl, (blk_cell BK111.out 1).trans rfl, (blk_cell BK111.out 2).trans rfl, (blk_cell BK111.out 3).trans rfl, (blk_cell BK111.out 4).trans rfl, (blk_cell BK111.out 5).trans rfl, (blk_cell BK111.out 6).trans rfl, (blk_cell BK111.out 7).trans rfl, (blk_cell BK111.out 8).trans rfl, (blk_cell BK111.out 9).trans rfl, (blk_cell BK111.out 10).trans rfl⟩ (fun hHeld => ?_); refine with_tabW barrier_Offer.tab7 barrier_Offer.bits7 (fun HT_ HW_ => ?_)
            generalize w30.drew = w31 at BK111 BK112 HB hHeld ⊢
            refine pure_ (i := 1) (N := some 32) (v := ?_) (a' := ?_) #[false, true, false, false, false, false, false, false, false, false, false, false] rfl rfl (any_of HT_.out (by kernel_rfl)) (fun _ _ _ h => h) (Or.inl ⟨by rfl, ?_⟩) ?_ ?_
            rotate_left
            · intro w'
              go_simp
              with_reducible rfl
            rotate_left
            · simp only [Act.put, List.setIfInBounds_toArray, List.set_cons_zero, List.set_cons_succ, i64_w, i32_w]
              rfl
            refine pure_ (i := 3) (N := some 34) (v := ?_) (a' := ?_) #[false, true, false, true, false, false, false, false, false, false, false, false] rfl rfl (any_of HT_.out (by kernel_rfl)) (fun _ _ _ h => h) (Or.inl ⟨by rfl, ?_⟩) ?_ ?_
            rotate_left
            · intro w'
              go_simp
              with_reducible rfl
            rotate_left
            · simp only [Act.put, List.setIfInBounds_toArray, List.set_cons_zero, List.set_cons_succ, i64_w, i32_w]
              rfl
            refine take_ (i := 0) (N := some 31) (v := ?_) (a' := ?_) #[true, true, false, true, false, false, false, false, false, false, false, false] rfl rfl (take_ofW HT_.out HW_.out (by kernel_rfl)) (fun _ _ _ h => h) (Or.inl ⟨by rfl, ?_⟩) hHeld ?_ ?_
            rotate_left
            · rintro w' ⟨s0, s1, s2, s3, s4, s5, s6, s7, s8, s9, s10⟩
              go_simp
              with_reducible rfl
            rotate_left
            · simp only [Act.put, List.setIfInBounds_toArray, List.set_cons_zero, List.set_cons_succ, i64_w, i32_w]
              rfl
            refine take_ (i := 2) (N := some 33) (v := ?_) (a' := ?_) #[true, true, true, true, false, false, false, false, false, false, false, false] rfl rfl (take_ofW HT_.out HW_.out (by kernel_rfl)) (fun _ _ _ h => h) (Or.inl ⟨by rfl, ?_⟩) hHeld ?_ ?_
            rotate_left
            · rintro w' ⟨s0, s1, s2, s3, s4, s5, s6, s7, s8, s9, s10⟩
              go_simp
              with_reducible rfl
            rotate_left
            · simp only [Act.put, List.setIfInBounds_toArray, List.set_cons_zero, List.set_cons_succ, i64_w, i32_w]
              rfl
            refine one_ (i := 4) (N := some 35) #[true, true, true, true, true, false, false, false, false, false, false, false] rfl rfl (one_of HT_.out (by kernel_rfl)) (by decide) (fun K hK => ?_)
            refine goes_ Tryd.func14 (by kernel_rfl) rfl #[.agg #[.int .u64 a0_2, .int .u64 a0_3, .int .u64 a0_4, .int .u64 a0_5, .int .u64 a0_6, .int .u64 a0_7, .int .u64 a0_8, .int .u64 a0_9], .int .i64 a1] (by rfl) rfl rfl (by (try simp only [List.map_toArray, List.map_cons, List.map_nil]); first | done | rfl | (simp only [List.length_drop, List.length_take]; rfl)) ?_
            with_reducible refine (roll_Offer.calls a0_2 a0_3 a0_4 a0_5 a0_6 a0_7 a0_8 a0_9 a1 t115 t116 t117 t118 t119 t120 t121 t122 t123 _ ?side1 A26.out).mono ?_
            (case side1 => exact Go.Proofs.YtdaionnpgcdkdaaDoor.GLW.below hG (by exact HB.out))
            rintro e w32 ⟨rfl, hb⟩
            refine ⟨_, rfl, ?_⟩
            replace BK111 := Aside0.mk (blk_below BK111.out hb)
            replace BK112 := Aside0.mk (blk_below BK112.out hb)
            replace HB := Aside0.mk (below_step (by exact HB.out) hb)
            (try clear hb)
            (try clear hb2)
            (try clear hk)
            (try clear hi)
            refine hK.out _ _ ⟨(blk_cell BK111.out 0).trans rfl, (blk_cell BK111.out 1).trans rfl, (blk_cell BK111.out 2).trans rfl, (blk_cell BK111.out 3).trans rfl, (blk_cell BK111.out 4).trans rfl, (blk_cell BK111.out 5).trans rfl, (blk_cell BK111.out 6).trans rfl, (blk_cell BK111.out 7).trans rfl, (blk_cell BK111.out 8).trans rfl, (blk_cell BK111.out 9).trans rfl, (blk_cell BK111.out 10).trans rfl⟩ (fun hHeld => ?_)
            clear hK K
            refine norm_ (a' := ?_) ?_ ?_
            rotate_left
            · show Act.put _ (some 35) _ = _
              simp only [Act.put, List.setIfInBounds_toArray, List.set_cons_zero, List.set_cons_succ, i64_w, i32_w]
              rfl
            refine pure_ (i := 5) (N := some 36) (v := ?_) (a' := ?_) #[true, true, true, true, true, true, false, false, false, false, false, false] rfl rfl (any_of HT_.out (by kernel_rfl)) (fun _ _ _ h => h) (Or.inl ⟨by rfl, ?_⟩) ?_ ?_
            rotate_left
            · intro w'
              go_simp
              with_reducible rfl
            rotate_left
            · simp only [Act.put, List.setIfInBounds_toArray, List.set_cons_zero, List.set_cons_succ, i64_w, i32_w]
              rfl
            refine pure_ (i := 6) (N := some 37) (v := ?_) (a' := ?_) #[true, true, true, true, true, true, true, false, false, false, false, false] rfl rfl (any_of HT_.out (by kernel_rfl)) (fun _ _ _ h => h) (Or.inl ⟨by rfl, ?_⟩) ?_ ?_
            rotate_left
            · intro w'
              go_simp
              with_reducible rfl
            rotate_left
            · simp only [Act.put, List.setIfInBounds_toArray, List.set_cons_zero, List.set_cons_succ, i64_w, i32_w]
              rfl
            refine one_ (i := 7) (N := some 38) #[true, true, true, true, true, true, true, true, false, false, false, false] rfl rfl (one_of HT_.out (by kernel_rfl)) (by decide) (fun K hK => ?_)
            refine goes_ Tryd.func82 (by kernel_rfl) rfl #[.agg #[.bool a0_0, .int .i64 a0_1, .int .u64 a0_2, .int .u64 a0_3, .int .u64 a0_4, .int .u64 a0_5, .int .u64 a0_6, .int .u64 a0_7, .int .u64 a0_8, .int .u64 a0_9, .int .i64 a0_10], .agg #[.int .u64 t115, .int .u64 t116, .int .u64 t117, .int .u64 t118, .int .u64 t119, .int .u64 t120, .int .u64 t121, .int .u64 t122], .int .i64 t123] (by rfl) rfl rfl (by (try simp only [List.map_toArray, List.map_cons, List.map_nil]); first | done | rfl | (simp only [List.length_drop, List.length_take]; rfl)) ?_
            with_reducible refine (barrier_Bar_with.calls a0_0 a0_1 a0_2 a0_3 a0_4 a0_5 a0_6 a0_7 a0_8 a0_9 a0_10 t115 t116 t117 t118 t119 t120 t121 t122 t123 t124 t125 t126 t127 t128 t129 t130 t131 t132 t133 t134 t135 _ A27.out).mono ?_
            rintro e w33 ⟨rfl, hb⟩
            refine ⟨_, rfl, ?_⟩
            replace BK111 := Aside0.mk (blk_below BK111.out hb)
            replace BK112 := Aside0.mk (blk_below BK112.out hb)
            replace HB := Aside0.mk (below_step (by exact HB.out) hb)
            (try clear hb)
            (try clear hb2)
            (try clear hk)
            (try clear hi)
            refine hK.out _ _ ⟨(blk_cell BK111.out 0).trans rfl, (blk_cell BK111.out 1).trans rfl, (blk_cell BK111.out 2).trans rfl, (blk_cell BK111.out 3).trans rfl, (blk_cell BK111.out 4).trans rfl, (blk_cell BK111.out 5).trans rfl, (blk_cell BK111.out 6).trans rfl, (blk_cell BK111.out 7).trans rfl, (blk_cell BK111.out 8).trans rfl, (blk_cell BK111.out 9).trans rfl, (blk_cell BK111.out 10).trans rfl⟩ (fun hHeld => ?_)
            clear hK K
            refine norm_ (a' := ?_) ?_ ?_
            rotate_left
            · show Act.put _ (some 38) _ = _
              simp only [Act.put, List.setIfInBounds_toArray, List.set_cons_zero, List.set_cons_succ, i64_w, i32_w]
              rfl
            refine pure_ (i := 8) (N := some 39) (v := ?_) (a' := ?_) #[true, true, true, true, true, true, true, true, true, false, false, false] rfl rfl (any_of HT_.out (by kernel_rfl)) (fun _ _ _ h => h) (Or.inl ⟨by rfl, ?_⟩) ?_ ?_
            rotate_left
            · intro w'
              go_simp
              with_reducible rfl
            rotate_left
            · simp only [Act.put, List.setIfInBounds_toArray, List.set_cons_zero, List.set_cons_succ, i64_w, i32_w]
              rfl
            refine pure_ (i := 9) (N := some 40) (v := ?_) (a' := ?_) #[true, true, true, true, true, true, true, true, true, true, false, false] rfl rfl (any_of HT_.out (by kernel_rfl)) (fun _ _ _ h => h) (Or.inl ⟨by rfl, ?_⟩) ?_ ?_
            rotate_left
            · intro w'
              go_simp
              with_reducible rfl
            rotate_left
            · simp only [Act.put, List.setIfInBounds_toArray, List.set_cons_zero, List.set_cons_succ, i64_w, i32_w]
              rfl
            refine one_ (i := 10) (N := none) #[true, true, true, true, true, true, true, true, true, true, true, false] rfl rfl (one_of HT_.out (by kernel_rfl)) (by decide) (fun K hK => ?_)
            have hs34 : w33.cell? ⟨gb112, 0, none⟩ = some (.bool false) := (blk_cell BK112.out 0).trans rfl
            have hfs34 := blk_frozen BK112.out 0
            have hns34_0 := NB111_112.out
            have hms34_0 := NB112_111.out
            have hs35 : w33.cell? ⟨gb112, 1, none⟩ = some (.int .i64 0) := (blk_cell BK112.out 1).trans rfl
            have hfs35 := blk_frozen BK112.out 1
            have hns35_0 := NB111_112.out
            have hms35_0 := NB112_111.out
            have hs36 : w33.cell? ⟨gb112, 2, none⟩ = some (.int .u64 0) := (blk_cell BK112.out 2).trans rfl
            have hfs36 := blk_frozen BK112.out 2
            have hns36_0 := NB111_112.out
            have hms36_0 := NB112_111.out
            have hs37 : w33.cell? ⟨gb112, 3, none⟩ = some (.int .u64 0) := (blk_cell BK112.out 3).trans rfl
            have hfs37 := blk_frozen BK112.out 3
            have hns37_0 := NB111_112.out
            have hms37_0 := NB112_111.out
            have hs38 : w33.cell? ⟨gb112, 4, none⟩ = some (.int .u64 0) := (blk_cell BK112.out 4).trans rfl
            have hfs38 := blk_frozen BK112.out 4
            have hns38_0 := NB111_112.out
            have hms38_0 := NB112_111.out
            have hs39 : w33.cell? ⟨gb112, 5, none⟩ = some (.int .u64 0) := (blk_cell BK112.out 5).trans rfl
            have hfs39 := blk_frozen BK112.out 5
            have hns39_0 := NB111_112.out
            have hms39_0 := NB112_111.out
            have hs40 : w33.cell? ⟨gb112, 6, none⟩ = some (.int .u64 0) := (blk_cell BK112.out 6).trans rfl
            have hfs40 := blk_frozen BK112.out 6
            have hns40_0 := NB111_112.out
            have hms40_0 := NB112_111.out
            have hs41 : w33.cell? ⟨gb112, 7, none⟩ = some (.int .u64 0) := (blk_cell BK112.out 7).trans rfl
            have hfs41 := blk_frozen BK112.out 7
            have hns41_0 := NB111_112.out
            have hms41_0 := NB112_111.out
            have hs42 : w33.cell? ⟨gb112, 8, none⟩ = some (.int .u64 0) := (blk_cell BK112.out 8).trans rfl
            have hfs42 := blk_frozen BK112.out 8
            have hns42_0 := NB111_112.out
            have hms42_0 := NB112_111.out
            have hs43 : w33.cell? ⟨gb112, 9, none⟩ = some (.int .u64 0) := (blk_cell BK112.out 9).trans rfl
            have hfs43 := blk_frozen BK112.out 9
            have hns43_0 := NB111_112.out
            have hms43_0 := NB112_111.out
            have hs44 : w33.cell? ⟨gb112, 10, none⟩ = some (.int .i64 0) := (blk_cell BK112.out 10).trans rfl
            have hfs44 := blk_frozen BK112.out 10
            have hns44_0 := NB111_112.out
            have hms44_0 := NB112_111.out
            refine skip_ (w1 := ?_) (by rfl) rfl ?_ ?_
            rotate_left
            · go_simp
              rfl
            refine hK.out _ _ ⟨((cell_far (p := ⟨gb112, _, none⟩) NB111_112.out _).trans (((cell_far (p := ⟨gb112, _, none⟩) NB111_112.out _).trans (((cell_far (p := ⟨gb112, _, none⟩) NB111_112.out _).trans (((cell_far (p := ⟨gb112, _, none⟩) NB111_112.out _).trans (((cell_far (p := ⟨gb112, _, none⟩) NB111_112.out _).trans (((cell_far (p := ⟨gb112, _, none⟩) NB111_112.out _).trans (((cell_far (p := ⟨gb112, _, none⟩) NB111_112.out _).trans (((cell_far (p := ⟨gb112, _, none⟩) NB111_112.out _).trans (((cell_far (p := ⟨gb112, _, none⟩) NB111_112.out _).trans (((cell_far (p := ⟨gb112, _, none⟩) NB111_112.out _).trans (((cell_far (p := ⟨gb112, _, none⟩) NB111_112.out _).trans (hHeld.1)))))))))))))))))))))), ((cell_far (p := ⟨gb112, _, none⟩) NB111_112.out _).trans (((cell_far (p := ⟨gb112, _, none⟩) NB111_112.out _).trans (((cell_far (p := ⟨gb112, _, none⟩) NB111_112.out _).trans (((cell_far (p := ⟨gb112, _, none⟩) NB111_112.out _).trans (((cell_far (p := ⟨gb112, _, none⟩) NB111_112.out _).trans (((cell_far (p := ⟨gb112, _, none⟩) NB111_112.out _).trans (((cell_far (p := ⟨gb112, _, none⟩) NB111_112.out _).trans (((cell_far (p := ⟨gb112, _, none⟩) NB111_112.out _).trans (((cell_far (p := ⟨gb112, _, none⟩) NB111_112.out _).trans (((cell_far (p := ⟨gb112, _, none⟩) NB111_112.out _).trans (((cell_far (p := ⟨gb112, _, none⟩) NB111_112.out _).trans (hHeld.2.1)))))))))))))))))))))), ((cell_far (p := ⟨gb112, _, none⟩) NB111_112.out _).trans (((cell_far (p := ⟨gb112, _, none⟩) NB111_112.out _).trans (((cell_far (p := ⟨gb112, _, none⟩) NB111_112.out _).trans (((cell_far (p := ⟨gb112, _, none⟩) NB111_112.out _).trans (((cell_far (p := ⟨gb112, _, none⟩) NB111_112.out _).trans (((cell_far (p := ⟨gb112, _, none⟩) NB111_112.out _).trans (((cell_far (p := ⟨gb112, _, none⟩) NB111_112.out _).trans (((cell_far (p := ⟨gb112, _, none⟩) NB111_112.out _).trans (((cell_far (p := ⟨gb112, _, none⟩) NB111_112.out _).trans (((cell_far (p := ⟨gb112, _, none⟩) NB111_112.out _).trans (((cell_far (p := ⟨gb112, _, none⟩) NB111_112.out _).trans (hHeld.2.2.1)))))))))))))))))))))), ((cell_far (p := ⟨gb112, _, none⟩) NB111_112.out _).trans (((cell_far (p := ⟨gb112, _, none⟩) NB111_112.out _).trans (((cell_far (p := ⟨gb112, _, none⟩) NB111_112.out _).trans (((cell_far (p := ⟨gb112, _, none⟩) NB111_112.out _).trans (((cell_far (p := ⟨gb112, _, none⟩) NB111_112.out _).trans (((cell_far (p := ⟨gb112, _, none⟩) NB111_112.out _).trans (((cell_far (p := ⟨gb112, _, none⟩) NB111_112.out _).trans (((cell_far (p := ⟨gb112, _, none⟩) NB111_112.out _).trans (((cell_far (p := ⟨gb112, _, none⟩) NB111_112.out _).trans (((cell_far (p := ⟨gb112, _, none⟩) NB111_112.out _).trans (((cell_far (p := ⟨gb112, _, none⟩) NB111_112.out _).trans (hHeld.2.2.2.1)))))))))))))))))))))), ((cell_far (p := ⟨gb112, _, none⟩) NB111_112.out _).trans (((cell_far (p := ⟨gb112, _, none⟩) NB111_112.out _).trans (((cell_far (p := ⟨gb112, _, none⟩) NB111_112.out _).trans (((cell_far (p := ⟨gb112, _, none⟩) NB111_112.out _).trans (((cell_far (p := ⟨gb112, _, none⟩) NB111_112.out _).trans (((cell_far (p := ⟨gb112, _, none⟩) NB111_112.out _).trans (((cell_far (p := ⟨gb112, _, none⟩) NB111_112.out _).trans (((cell_far (p := ⟨gb112, _, none⟩) NB111_112.out _).trans (((cell_far (p := ⟨gb112, _, none⟩) NB111_112.out _).trans (((cell_far (p := ⟨gb112, _, none⟩) NB111_112.out _).trans (((cell_far (p := ⟨gb112, _, none⟩) NB111_112.out _).trans (hHeld.2.2.2.2.1)))))))))))))))))))))), ((cell_far (p := ⟨gb112, _, none⟩) NB111_112.out _).trans (((cell_far (p := ⟨gb112, _, none⟩) NB111_112.out _).trans (((cell_far (p := ⟨gb112, _, none⟩) NB111_112.out _).trans (((cell_far (p := ⟨gb112, _, none⟩) NB111_112.out _).trans (((cell_far (p := ⟨gb112, _, none⟩) NB111_112.out _).trans (((cell_far (p := ⟨gb112, _, none⟩) NB111_112.out _).trans (((cell_far (p := ⟨gb112, _, none⟩) NB111_112.out _).trans (((cell_far (p := ⟨gb112, _, none⟩) NB111_112.out _).trans (((cell_far (p := ⟨gb112, _, none⟩) NB111_112.out _).trans (((cell_far (p := ⟨gb112, _, none⟩) NB111_112.out _).trans (((cell_far (p := ⟨gb112, _, none⟩) NB111_112.out _).trans (hHeld.2.2.2.2.2.1)))))))))))))))))))))), ((cell_far (p := ⟨gb112, _, none⟩) NB111_112.out _).trans (((cell_far (p := ⟨gb112, _, none⟩) NB111_112.out _).trans (((cell_far (p := ⟨gb112, _, none⟩) NB111_112.out _).trans (((cell_far (p := ⟨gb112, _, none⟩) NB111_112.out _).trans (((cell_far (p := ⟨gb112, _, none⟩) NB111_112.out _).trans (((cell_far (p := ⟨gb112, _, none⟩) NB111_112.out _).trans (((cell_far (p := ⟨gb112, _, none⟩) NB111_112.out _).trans (((cell_far (p := ⟨gb112, _, none⟩) NB111_112.out _).trans (((cell_far (p := ⟨gb112, _, none⟩) NB111_112.out _).trans (((cell_far (p := ⟨gb112, _, none⟩) NB111_112.out _).trans (((cell_far (p := ⟨gb112, _, none⟩) NB111_112.out _).trans (hHeld.2.2.2.2.2.2.1)))))))))))))))))))))), ((cell_far (p := ⟨gb112, _, none⟩) NB111_112.out _).trans (((cell_far (p := ⟨gb112, _, none⟩) NB111_112.out _).trans (((cell_far (p := ⟨gb112, _, none⟩) NB111_112.out _).trans (((cell_far (p := ⟨gb112, _, none⟩) NB111_112.out _).trans (((cell_far (p := ⟨gb112, _, none⟩) NB111_112.out _).trans (((cell_far (p := ⟨gb112, _, none⟩) NB111_112.out _).trans (((cell_far (p := ⟨gb112, _, none⟩) NB111_112.out _).trans (((cell_far (p := ⟨gb112, _, none⟩) NB111_112.out _).trans (((cell_far (p := ⟨gb112, _, none⟩) NB111_112.out _).trans (((cell_far (p := ⟨gb112, _, none⟩) NB111_112.out _).trans (((cell_far (p := ⟨gb112, _, none⟩) NB111_112.out _).trans (hHeld.2.2.2.2.2.2.2.1)))))))))))))))))))))), ((cell_far (p := ⟨gb112, _, none⟩) NB111_112.out _).trans (((cell_far (p := ⟨gb112, _, none⟩) NB111_112.out _).trans (((cell_far (p := ⟨gb112, _, none⟩) NB111_112.out _).trans (((cell_far (p := ⟨gb112, _, none⟩) NB111_112.out _).trans (((cell_far (p := ⟨gb112, _, none⟩) NB111_112.out _).trans (((cell_far (p := ⟨gb112, _, none⟩) NB111_112.out _).trans (((cell_far (p := ⟨gb112, _, none⟩) NB111_112.out _).trans (((cell_far (p := ⟨gb112, _, none⟩) NB111_112.out _).trans (((cell_far (p := ⟨gb112, _, none⟩) NB111_112.out _).trans (((cell_far (p := ⟨gb112, _, none⟩) NB111_112.out _).trans (((cell_far (p := ⟨gb112, _, none⟩) NB111_112.out _).trans (hHeld.2.2.2.2.2.2.2.2.1)))))))))))))))))))))), ((cell_far (p := ⟨gb112, _, none⟩) NB111_112.out _).trans (((cell_far (p := ⟨gb112, _, none⟩) NB111_112.out _).trans (((cell_far (p := ⟨gb112, _, none⟩) NB111_112.out _).trans (((cell_far (p := ⟨gb112, _, none⟩) NB111_112.out _).trans (((cell_far (p := ⟨gb112, _, none⟩) NB111_112.out _).trans (((cell_far (p := ⟨gb112, _, none⟩) NB111_112.out _).trans (((cell_far (p := ⟨gb112, _, none⟩) NB111_112.out _).trans (((cell_far (p := ⟨gb112, _, none⟩) NB111_112.out _).trans (((cell_far (p := ⟨gb112, _, none⟩) NB111_112.out _).trans (((cell_far (p := ⟨gb112, _, none⟩) NB111_112.out _).trans (((cell_far (p := ⟨gb112, _, none⟩) NB111_112.out _).trans (hHeld.2.2.2.2.2.2.2.2.2.1)))))))))))))))))))))), ((cell_far (p := ⟨gb112, _, none⟩) NB111_112.out _).trans (((cell_far (p := ⟨gb112, _, none⟩) NB111_112.out _).trans (((cell_far (p := ⟨gb112, _, none⟩) NB111_112.out _).trans (((cell_far (p := ⟨gb112, _, none⟩) NB111_112.out _).trans (((cell_far (p := ⟨gb112, _, none⟩) NB111_112.out _).trans (((cell_far (p := ⟨gb112, _, none⟩) NB111_112.out _).trans (((cell_far (p := ⟨gb112, _, none⟩) NB111_112.out _).trans (((cell_far (p := ⟨gb112, _, none⟩) NB111_112.out _).trans (((cell_far (p := ⟨gb112, _, none⟩) NB111_112.out _).trans (((cell_far (p := ⟨gb112, _, none⟩) NB111_112.out _).trans (((cell_far (p := ⟨gb112, _, none⟩) NB111_112.out _).trans (hHeld.2.2.2.2.2.2.2.2.2.2))))))))))))))))))))))⟩ (fun hHeld => ?_)
            clear hK K
            refine pure_ (i := 11) (N := some 7) (v := ?_) (a' := ?_) #[true, true, true, true, true, true, true, true, true, true, true, true] rfl rfl (any_of HT_.out (by kernel_rfl)) (fun _ _ _ h => h) (Or.inl ⟨by rfl, ?_⟩) ?_ ?_
            rotate_left
            · intro w'
              go_simp
              with_reducible rfl
            rotate_left
            · simp only [Act.put, List.setIfInBounds_toArray, List.set_cons_zero, List.set_cons_succ, i64_w, i32_w]
              rfl
            refine done_ (done_of HT_.out (by kernel_rfl)) ?_
            try go_wp2
            refine bodyPost_ret (results_ct rfl _ _ gb112 51 #[.bool t124, .int .i64 t125, .int .u64 t126, .int .u64 t127, .int .u64 t128, .int .u64 t129, .int .u64 t130, .int .u64 t131, .int .u64 t132, .int .u64 t133, .int .i64 t134] (0, 0) _ rfl (by apply pt51_0_11; exact BK112.out) Tryd.underlying51 rfl (by kernel_rfl)) rfl ?_
            exact ⟨by first | rfl | (simp [errW_none, errW_some] <;> rfl) | (simp [*, errW_none, errW_some] <;> rfl), by repeat (first | (with_reducible first | exact HB.out | apply below_alloc | apply pw_below_drewN | apply below_drew1 | refine below_set ?_ GE111.out | refine below_set ?_ GE112.out) | exact HB.out)⟩
  · replace c5 := Bool.eq_false_iff.mpr c5
    subst c5
    have H1 : (some (a0_0, a0_1, a0_2, a0_3, a0_4, a0_5, a0_6, a0_7, a0_8, a0_9, a0_10, 1)) = some (r1, r2, r3, r4, r5, r6, r7, r8, r9, r10, r11, r12) := by rw [if_neg (show ¬ (false = true) by decide)] at H; exact H
    clear H
    have H := H1
    clear H1
    simp only [Option.some.injEq, Prod.mk.injEq] at H
    obtain ⟨rfl, rfl, rfl, rfl, rfl, rfl, rfl, rfl, rfl, rfl, rfl, rfl⟩ := H
    go_enter Tryd.func37, Tryd.ntmps37
    go_wp2_with (first | ((with_reducible refine gate_dst (N := 3) rfl ?_); refine box_event ?hg (N := 3) ?hd (cs := #[.bool a0_0, .int .i64 a0_1, .int .u64 a0_2, .int .u64 a0_3, .int .u64 a0_4, .int .u64 a0_5, .int .u64 a0_6, .int .u64 a0_7, .int .u64 a0_8, .int .u64 a0_9, .int .i64 a0_10]) (t := 51) ?hr ?_; (case hd => rfl); (case hg => rfl); (case hr => first | (go_simp; done) | (go_simp; rfl)); intro gb111 hg w45 hbox hb; have BK111 := Aside0.mk (hbox); have GW111 := Aside0.mk ((by rw [hg]; exact (below_size (by exact HB.out)) : w.heap.size ≤ gb111)); have GE111 := Aside0.mk ((by rw [hg]; exact (below_size (by exact HB.out)) : w.heap.size ≤ gb111)); replace HB := Aside0.mk (below_step (by exact HB.out) hb); clear hb hbox hg) | ((with_reducible refine gate_dst (N := 6) rfl ?_); refine box_event ?hg (N := 6) ?hd (cs := #[.bool false, .int .i64 0, .int .u64 0, .int .u64 0, .int .u64 0, .int .u64 0, .int .u64 0, .int .u64 0, .int .u64 0, .int .u64 0, .int .i64 0]) (t := 51) ?hr ?_; (case hd => rfl); (case hg => rfl); (case hr => first | (go_simp; done) | (go_simp; rfl)); intro gb112 hg w46 hbox hb; have BK112 := Aside0.mk (hbox); have GW112 := Aside0.mk ((by rw [hg]; exact (below_size (by exact HB.out)) : w.heap.size ≤ gb112)); have GE112 := Aside0.mk ((by rw [hg]; exact (below_size (by exact HB.out)) : w.heap.size ≤ gb112)); replace HB := Aside0.mk (below_step (by exact HB.out) hb); have NB111_112 := Aside0.mk ((by rw [hg]; exact Nat.ne_of_lt (blk_lt BK111.out) : gb111 ≠ gb112)); have NB112_111 := Aside0.mk ((by rw [hg]; exact Nat.ne_of_gt (blk_lt BK111.out) : gb112 ≠ gb111)); replace BK111 := Aside0.mk (blk_below BK111.out hb); clear hb hbox hg; have hnb47 := NB111_112.out; have hnc47 := NB112_111.out; have hcz48_0 : w46.cell? ⟨gb111, 0, none⟩ = some (.bool a0_0) := (blk_cell BK111.out 0).trans rfl; have hcz48_1 : w46.cell? ⟨gb111, 1, none⟩ = some (.int .i64 a0_1) := (blk_cell BK111.out 1).trans rfl; have hcz48_2 : w46.cell? ⟨gb111, 2, none⟩ = some (.int .u64 a0_2) := (blk_cell BK111.out 2).trans rfl; have hcz48_3 : w46.cell? ⟨gb111, 3, none⟩ = some (.int .u64 a0_3) := (blk_cell BK111.out 3).trans rfl; have hcz48_4 : w46.cell? ⟨gb111, 4, none⟩ = some (.int .u64 a0_4) := (blk_cell BK111.out 4).trans rfl; have hcz48_5 : w46.cell? ⟨gb111, 5, none⟩ = some (.int .u64 a0_5) := (blk_cell BK111.out 5).trans rfl; have hcz48_6 : w46.cell? ⟨gb111, 6, none⟩ = some (.int .u64 a0_6) := (blk_cell BK111.out 6).trans rfl; have hcz48_7 : w46.cell? ⟨gb111, 7, none⟩ = some (.int .u64 a0_7) := (blk_cell BK111.out 7).trans rfl; have hcz48_8 : w46.cell? ⟨gb111, 8, none⟩ = some (.int .u64 a0_8) := (blk_cell BK111.out 8).trans rfl; have hcz48_9 : w46.cell? ⟨gb111, 9, none⟩ = some (.int .u64 a0_9) := (blk_cell BK111.out 9).trans rfl; have hcz48_10 : w46.cell? ⟨gb111, 10, none⟩ = some (.int .i64 a0_10) := (blk_cell BK111.out 10).trans rfl; have hfz48_0 := blk_frozen BK111.out 0; have hfz48_1 := blk_frozen BK111.out 1; have hfz48_2 := blk_frozen BK111.out 2; have hfz48_3 := blk_frozen BK111.out 3; have hfz48_4 := blk_frozen BK111.out 4; have hfz48_5 := blk_frozen BK111.out 5; have hfz48_6 := blk_frozen BK111.out 6; have hfz48_7 := blk_frozen BK111.out 7; have hfz48_8 := blk_frozen BK111.out 8; have hfz48_9 := blk_frozen BK111.out 9; have hfz48_10 := blk_frozen BK111.out 10) | ((with_reducible refine gate_callee (f := 41) rfl ?_); refine goesL_ (some 10) rfl rfl Tryd.func41 (by kernel_rfl) rfl #[.agg #[.bool a0_0, .int .i64 a0_1, .int .u64 a0_2, .int .u64 a0_3, .int .u64 a0_4, .int .u64 a0_5, .int .u64 a0_6, .int .u64 a0_7, .int .u64 a0_8, .int .u64 a0_9, .int .i64 a0_10]] rfl (by (try simp only [List.map_toArray, List.map_cons, List.map_nil]); first | done | rfl | (simp only [List.length_drop, List.length_take]; rfl)) ?_; (with_reducible refine (barrier_Fine.calls a0_0 a0_1 a0_2 a0_3 a0_4 a0_5 a0_6 a0_7 a0_8 a0_9 a0_10 false _ ?side1 A4.out).mono ?_); (case side1 => exact Go.Proofs.YtdaionnpgcdkdaaDoor.GLW.below hG (by exact HB.out)); rintro e w49 ⟨rfl, hb⟩; refine ⟨_, rfl, ?_⟩; replace BK111 := Aside0.mk (blk_below BK111.out hb); replace BK112 := Aside0.mk (blk_below BK112.out hb); replace HB := Aside0.mk (below_step (by exact HB.out) hb); (try clear hb); (try clear hb2); (try clear hk); (try clear hi); have hcz50_0 : w49.cell? ⟨gb111, 0, none⟩ = some (.bool a0_0) := (blk_cell BK111.out 0).trans rfl; have hcz50_1 : w49.cell? ⟨gb111, 1, none⟩ = some (.int .i64 a0_1) := (blk_cell BK111.out 1).trans rfl; have hcz50_2 : w49.cell? ⟨gb111, 2, none⟩ = some (.int .u64 a0_2) := (blk_cell BK111.out 2).trans rfl; have hcz50_3 : w49.cell? ⟨gb111, 3, none⟩ = some (.int .u64 a0_3) := (blk_cell BK111.out 3).trans rfl; have hcz50_4 : w49.cell? ⟨gb111, 4, none⟩ = some (.int .u64 a0_4) := (blk_cell BK111.out 4).trans rfl; have hcz50_5 : w49.cell? ⟨gb111, 5, none⟩ = some (.int .u64 a0_5) := (blk_cell BK111.out 5).trans rfl; have hcz50_6 : w49.cell? ⟨gb111, 6, none⟩ = some (.int .u64 a0_6) := (blk_cell BK111.out 6).trans rfl; have hcz50_7 : w49.cell? ⟨gb111, 7, none⟩ = some (.int .u64 a0_7) := (blk_cell BK111.out 7).trans rfl; have hcz50_8 : w49.cell? ⟨gb111, 8, none⟩ = some (.int .u64 a0_8) := (blk_cell BK111.out 8).trans rfl; have hcz50_9 : w49.cell? ⟨gb111, 9, none⟩ = some (.int .u64 a0_9) := (blk_cell BK111.out 9).trans rfl; have hcz50_10 : w49.cell? ⟨gb111, 10, none⟩ = some (.int .i64 a0_10) := (blk_cell BK111.out 10).trans rfl; have hfz50_0 := blk_frozen BK111.out 0; have hfz50_1 := blk_frozen BK111.out 1; have hfz50_2 := blk_frozen BK111.out 2; have hfz50_3 := blk_frozen BK111.out 3; have hfz50_4 := blk_frozen BK111.out 4; have hfz50_5 := blk_frozen BK111.out 5; have hfz50_6 := blk_frozen BK111.out 6; have hfz50_7 := blk_frozen BK111.out 7; have hfz50_8 := blk_frozen BK111.out 8; have hfz50_9 := blk_frozen BK111.out 9; have hfz50_10 := blk_frozen BK111.out 10; have hcz51_0 : w49.cell? ⟨gb112, 0, none⟩ = some (.bool false) := (blk_cell BK112.out 0).trans rfl; have hcz51_1 : w49.cell? ⟨gb112, 1, none⟩ = some (.int .i64 0) := (blk_cell BK112.out 1).trans rfl; have hcz51_2 : w49.cell? ⟨gb112, 2, none⟩ = some (.int .u64 0) := (blk_cell BK112.out 2).trans rfl; have hcz51_3 : w49.cell? ⟨gb112, 3, none⟩ = some (.int .u64 0) := (blk_cell BK112.out 3).trans rfl; have hcz51_4 : w49.cell? ⟨gb112, 4, none⟩ = some (.int .u64 0) := (blk_cell BK112.out 4).trans rfl; have hcz51_5 : w49.cell? ⟨gb112, 5, none⟩ = some (.int .u64 0) := (blk_cell BK112.out 5).trans rfl; have hcz51_6 : w49.cell? ⟨gb112, 6, none⟩ = some (.int .u64 0) := (blk_cell BK112.out 6).trans rfl; have hcz51_7 : w49.cell? ⟨gb112, 7, none⟩ = some (.int .u64 0) := (blk_cell BK112.out 7).trans rfl; have hcz51_8 : w49.cell? ⟨gb112, 8, none⟩ = some (.int .u64 0) := (blk_cell BK112.out 8).trans rfl; have hcz51_9 : w49.cell? ⟨gb112, 9, none⟩ = some (.int .u64 0) := (blk_cell BK112.out 9).trans rfl; have hcz51_10 : w49.cell? ⟨gb112, 10, none⟩ = some (.int .i64 0) := (blk_cell BK112.out 10).trans rfl; have hfz51_0 := blk_frozen BK112.out 0; have hfz51_1 := blk_frozen BK112.out 1; have hfz51_2 := blk_frozen BK112.out 2; have hfz51_3 := blk_frozen BK112.out 3; have hfz51_4 := blk_frozen BK112.out 4; have hfz51_5 := blk_frozen BK112.out 5; have hfz51_6 := blk_frozen BK112.out 6; have hfz51_7 := blk_frozen BK112.out 7; have hfz51_8 := blk_frozen BK112.out 8; have hfz51_9 := blk_frozen BK112.out 9; have hfz51_10 := blk_frozen BK112.out 10))
    refine bodyPost_ret (results_ct rfl _ _ gb112 51 #[.bool a0_0, .int .i64 a0_1, .int .u64 a0_2, .int .u64 a0_3, .int .u64 a0_4, .int .u64 a0_5, .int .u64 a0_6, .int .u64 a0_7, .int .u64 a0_8, .int .u64 a0_9, .int .i64 a0_10] (0, 0) _ rfl (by apply pt51_0_11; exact BK112.out) Tryd.underlying51 rfl (by kernel_rfl)) rfl ?_
    exact ⟨by first | rfl | (simp [errW_none, errW_some] <;> rfl) | (simp [*, errW_none, errW_some] <;> rfl), by repeat (first | (with_reducible first | exact HB.out | apply below_alloc | apply pw_below_drewN | apply below_drew1 | refine below_set ?_ GE111.out | refine below_set ?_ GE112.out) | exact HB.out)⟩

end Go.Proofs.YtdaionnpgcdkdaaDoorP.New
