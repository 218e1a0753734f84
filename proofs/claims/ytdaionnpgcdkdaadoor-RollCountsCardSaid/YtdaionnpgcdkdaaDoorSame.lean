import Derived.Test.YtdaionnpgcdkdaaDoorRollE
import Derived.BigQuiet
import Derived.Deep.QuietTactic
/- becketref02.Same: the two slices are read as the same numbers. -/
set_option linter.unusedVariables false
set_option linter.unusedSimpArgs false
namespace Go.Proofs.YtdaionnpgcdkdaaDoor
open Go.RowKit
theorem getD_ext (xs ys : List Int) (hl : xs.length = ys.length) (h : ∀ i, i < xs.length → xs.getD i 0 = ys.getD i 0) : xs = ys := by
  refine List.ext_getElem hl fun i h1 h2 => ?_
  have := h i h1
  simpa [h1, h2] using this
theorem same_any (xs ys : List Int) (v u : Value) (w : World) (hv : IntsAt w v xs) (hu : IntsAt w u ys) :
    Calls Tryd.prog 30 #[v, u] w fun e w' => e = .returned (.bool (decide (xs = ys))) ∧ Below w.heap.size w w' := by
  obtain ⟨A, c, rfl, hxm, hxr⟩ := hv
  obtain ⟨A2, c2, rfl, hym, hyr⟩ := hu
  have HR := Lib.hid hxr
  have HR2 := Lib.hid hyr
  clear hxr hyr
  by_cases hl : xs.length = ys.length
  · have hl' : ((xs.length : Int) != (ys.length : Int)) = false := by simp [hl]
    go_enter Tryd.func30, Tryd.ntmps30
    go_wp2_with fail
    go_loopw [5] (fun i wr => ∃ k : Nat, k ≤ xs.length ∧ i = .int .i64 k ∧ (∀ j, j < k → xs.getD j 0 = ys.getD j 0) ∧ Below w.heap.size w wr) (fun i _ => xs.length - (intOf i).toNat)
    case atStart => exact ⟨0, Nat.zero_le _, rfl, fun j h => by omega, by (repeat (first | (with_reducible apply Wl.bl_alloc) | (with_reducible apply Wl.bl_drewN) | (with_reducible apply Wl.bl_drew) | (with_reducible refine Wl.bl_set ?_ (by simp; try omega)) | (with_reducible exact Below.refl _ _) | (with_reducible assumption) | (with_reducible refine Wl.bl_trans ?_ (by assumption))))⟩
    case round =>
      obtain ⟨k, hk, rfl, hs, hb⟩ := hrel
      by_cases hlt : k < xs.length
      · obtain ⟨ad, rfl, hc⟩ := HR.out (by omega)
        obtain ⟨ad2, rfl, hc2⟩ := HR2.out (by omega)
        have g1 := cell_below hb (hc k hlt)
        have g2 := cell_below hb (hc2 k (by omega))
        have i1 : (k : Int) < (xs.length : Int) := by omega
        have i2 : (k : Int) < (ys.length : Int) := by omega
        have HS := Lib.hid hs
        clear hs hc hc2
        obtain ⟨X, hX⟩ : ∃ X : Int, X = xs.getD k 0 := ⟨_, rfl⟩
        obtain ⟨Y, hY⟩ : ∃ Y : Int, Y = ys.getD k 0 := ⟨_, rfl⟩
        rw [← hX] at g1
        rw [← hY] at g2
        have HX := Lib.hid hX
        have HY := Lib.hid hY
        clear hX hY
        by_cases he : X = Y
        · have he' : (X != Y) = false := by simp [he]
          have HE := Lib.hid (show xs.getD k 0 = ys.getD k 0 by rw [← HX.out, ← HY.out]; exact he)
          clear he
          go_wp2_with fail
          go_quiet (fail)
          go_wp2_with fail
          refine ⟨⟨k + 1, by omega, by simp, fun j hj => ?_, by (repeat (first | (with_reducible apply Wl.bl_alloc) | (with_reducible apply Wl.bl_drewN) | (with_reducible apply Wl.bl_drew) | (with_reducible refine Wl.bl_set ?_ (by simp; try omega)) | (with_reducible exact Below.refl _ _) | (with_reducible assumption) | (with_reducible refine Wl.bl_trans ?_ (by assumption))))⟩, by simp [intOf]; omega⟩
          by_cases hjk : j = k
          · subst hjk; exact HE.out
          · exact HS.out j (by omega)
        · have he' : (X != Y) = true := by simp [he]
          have hne : decide (xs = ys) = false := by
            simp only [decide_eq_false_iff_not]; intro e; exact he (by rw [HX.out, HY.out, e])
          clear he
          go_wp2_with fail
          go_quiet (fail)
          go_wp2_with fail
          exact bodyPost_ret (v := .bool false) (by simp [results, Tryd.results30, go_sem]) rfl ⟨by rw [hne], by (repeat (first | (with_reducible apply Wl.bl_alloc) | (with_reducible apply Wl.bl_drewN) | (with_reducible apply Wl.bl_drew) | (with_reducible refine Wl.bl_set ?_ (by simp; try omega)) | (with_reducible exact Below.refl _ _) | (with_reducible assumption) | (with_reducible refine Wl.bl_trans ?_ (by assumption))))⟩
      · have hkk : k = xs.length := by omega
        subst hkk
        have hE := getD_ext xs ys hl hs
        have HE := Lib.hid hE
        clear hE hs
        go_wp2_with fail
        exact bodyPost_ret (v := .bool true) (by simp [results, Tryd.results30, go_sem]) rfl ⟨by simp [HE.out], by (repeat (first | (with_reducible apply Wl.bl_alloc) | (with_reducible apply Wl.bl_drewN) | (with_reducible apply Wl.bl_drew) | (with_reducible refine Wl.bl_set ?_ (by simp; try omega)) | (with_reducible exact Below.refl _ _) | (with_reducible assumption) | (with_reducible refine Wl.bl_trans ?_ (by assumption))))⟩
  · have hl' : ((xs.length : Int) != (ys.length : Int)) = true := by simp; omega
    have hne : decide (xs = ys) = false := by
      simp only [decide_eq_false_iff_not]; intro e; exact hl (by rw [e])
    go_enter Tryd.func30, Tryd.ntmps30
    go_wp2_with fail
    exact bodyPost_ret (v := .bool false) (by simp [results, Tryd.results30, go_sem]) rfl ⟨by rw [hne], by (repeat (first | (with_reducible apply Wl.bl_alloc) | (with_reducible apply Wl.bl_drewN) | (with_reducible apply Wl.bl_drew) | (with_reducible refine Wl.bl_set ?_ (by simp; try omega)) | (with_reducible exact Below.refl _ _) | (with_reducible assumption) | (with_reducible refine Wl.bl_trans ?_ (by assumption))))⟩
end Go.Proofs.YtdaionnpgcdkdaaDoor
