/- becketref04.Words: the words of a list's set. -/
import Derived.Test.YtdaionnpgcdkdaaDoorRcA
import Derived.Test.YtdaionnpgcdkdaaDoorT0
set_option linter.unusedVariables false
set_option linter.unusedSimpArgs false
namespace Go.Proofs.YtdaionnpgcdkdaaDoor
open Go.RowKit
open Sets (hasS addS dropS lessS subS isId)
theorem ref_fine_any (n : Int) (w : World) :
    Calls Tryd.prog 112 #[.int .i64 n] w fun e w' => e = .returned (.bool (isId n)) ∧ w = w' := by
  have e : isId n = (decide (0 ≤ n) && decide (n ≤ 255)) := rfl
  by_cases h : 0 ≤ n
  · go_enter Tryd.func112, Tryd.ntmps112
    go_wp2
    go_ret
    simp [e, h]
  · go_enter Tryd.func112, Tryd.ntmps112
    go_wp2
    go_ret
    simp; omega
theorem blk_other {W : World} {p : Addr} {v : Value} {g : Nat} {o : Obj} (h : W.heap[g]? = some o) (e : g ≠ p.block) : (W.setCell p v).heap[g]? = some o := (Below.heap_setCell W p v g e).trans h
/-- The set of a list's numbers. -/
def setL (l : List Int) : Nat := l.foldl addS 0
theorem setL_snoc (l : List Int) (x : Int) : setL (l ++ [x]) = addS (setL l) x := by simp [setL]
theorem setL_in (l : List Int) : Sets.In (setL l) := by
  have : ∀ (l : List Int) s, Sets.In s → Sets.In (l.foldl addS s) := by
    intro l
    induction l with
    | nil => intro s h; exact h
    | cons x l ih => intro s h; exact ih _ (Sets.add_lt s x h)
  exact this l 0 (by unfold Sets.In; decide)
theorem setL_take (xs : List Int) (k : Nat) (h : k < xs.length) : setL (xs.take (k + 1)) = addS (setL (xs.take k)) (xs.getD k 0) := by
  rw [List.take_succ_eq_append_getElem h, setL_snoc]
  simp [List.getD, h]
set_option maxHeartbeats 4000000 in
theorem words_any (A : Option Addr) (xs : List Int) (c : Nat) (w : World) (hx : IntsAt w (.slice A xs.length c) xs) :
    Calls Tryd.prog 102 #[.slice A xs.length c] w fun e w' => e = .returned (.agg #[.int .u64 (Sets.wd (setL xs) 0), .int .u64 (Sets.wd (setL xs) 1), .int .u64 (Sets.wd (setL xs) 2), .int .u64 (Sets.wd (setL xs) 3)]) ∧ Below w.heap.size w w' := by
  obtain ⟨A', c', e, hm, hr⟩ := hx
  obtain ⟨rfl, rfl⟩ : A' = A ∧ c' = c := by injection e with a _ b; exact ⟨a.symm, b.symm⟩
  clear e
  have HR := Lib.hid hr
  clear hr
  have hl0 : (xs.length : Int) ≤ 9223372036854775807 := by omega
  go_enter Tryd.func102, Tryd.ntmps102
  go_wp2_with fail
  go_loopw [4] (fun i wr => ∃ k : Nat, k ≤ xs.length ∧ i = .int .i64 k ∧ Below w.heap.size w wr ∧ wr.heap[w.heap.size]? = some (.cells #[.int .u64 0, .int .u64 0, .int .u64 0, .int .u64 0] 25 (0, 0)) ∧ wr.heap[w.heap.size + 1]? = some (.cells #[.int .u64 (Sets.wd (setL (xs.take k)) 0), .int .u64 (Sets.wd (setL (xs.take k)) 1), .int .u64 (Sets.wd (setL (xs.take k)) 2), .int .u64 (Sets.wd (setL (xs.take k)) 3)] 25 (0, 0))) (fun i _ => xs.length - (intOf i).toNat)
  case atStart => exact ⟨0, Nat.zero_le _, rfl, by (repeat (first | (with_reducible apply Wl.bl_alloc) | (with_reducible apply Wl.bl_drewN) | (with_reducible apply Wl.bl_drew) | (with_reducible refine Wl.bl_set ?_ (by simp; try omega)) | (with_reducible exact Below.refl _ _) | (with_reducible assumption) | (with_reducible refine Wl.bl_trans ?_ (by assumption)))), Wl.blk_alloc (Wl.new_blk _ _) _, by rw [show setL (xs.take 0) = 0 from rfl]; simp only [Sets.wd_zero]; exact Wl.new_blk1 _ _ _⟩
  case round =>
    obtain ⟨k, hk, rfl, hb, h0, h1⟩ := hrel
    have y0 : w.heap.size + 1 < wr.heap.size := Wl.blk_lt h1
    by_cases hlt : k < xs.length
    · obtain ⟨ad, rfl, hc⟩ := HR.out (by omega)
      have g1 := cell_below hb (hc k hlt)
      have hs := setL_take xs k hlt
      obtain ⟨x, hX⟩ : ∃ x, x = xs.getD k 0 := ⟨_, rfl⟩
      rw [← hX] at g1 hs
      clear hX hc
      have HS := Lib.hid hs
      clear hs
      obtain ⟨s, hs⟩ : ∃ s, s = setL (xs.take k) := ⟨_, rfl⟩
      rw [← hs] at h1
      have HS : Hid (setL (xs.take (k + 1)) = addS s x) := Lib.hid (by rw [hs]; exact HS.out)
      clear hs
      have i1 : (k : Int) < (xs.length : Int) := by omega
      have H0 := Lib.hid h0
      clear h0
      have H1 := Lib.hid (h1); have c1_0 := (Wl.blk_cell H1.out 0).trans rfl; have c1_1 := (Wl.blk_cell H1.out 1).trans rfl; have c1_2 := (Wl.blk_cell H1.out 2).trans rfl; have c1_3 := (Wl.blk_cell H1.out 3).trans rfl; have f1_0 := Wl.blk_frozen H1.out 0; have f1_1 := Wl.blk_frozen H1.out 1; have f1_2 := Wl.blk_frozen H1.out 2; have f1_3 := Wl.blk_frozen H1.out 3
      clear h1
      cases hi : isId x with
      | false =>
        go_wp2_with (go_at_call 112; refine (ref_fine_any _ _).mono ?_; rintro e w' ⟨rfl, rfl⟩)
        go_roundw
        case rel => exact ⟨k + 1, by omega, by simp, hb, H0.out, by rw [HS.out]; unfold addS; rw [hi]; exact H1.out⟩
        case measure => simp [intOf]; omega
      | true =>
        obtain ⟨q, j, hq, hj, hn, hn'⟩ := split_id x hi
        have b0 : 0 ≤ x := by omega
        have b1 : x ≤ 255 := by omega
        have hd : x / 64 = q := by omega
        have hr : x % 64 = j := by omega
        have bj : (j : Int) < 64 := by omega
        have H := Lib.hid (Sets.add_word s q j hj)
        have H' := Lib.hid (fun k (hk : k ≠ q) => Sets.add_other s q j k hj hk)
        have HN := Lib.hid hn'
        clear hn hn'
        match q, hq with
        | 0, _ | 1, _ | 2, _ | 3, _ =>
          go_wp2_with (go_at_call 112; refine (ref_fine_any _ _).mono ?_; rintro e w' ⟨rfl, rfl⟩)
          go_region
          go_wp2
          refine ⟨⟨k + 1, by omega, by simp, by (repeat (first | (with_reducible apply Wl.bl_alloc) | (with_reducible apply Wl.bl_drewN) | (with_reducible apply Wl.bl_drew) | (with_reducible refine Wl.bl_set ?_ (by simp; try omega)) | (with_reducible exact Below.refl _ _) | (with_reducible assumption) | (with_reducible refine Wl.bl_trans ?_ (by assumption)))), Wl.blk_drew (blk_other H0.out (by simp)), ?_⟩, by simp [intOf]; omega⟩
          rw [HS.out]
          unfold addS
          rw [hi, if_pos rfl, HN.out]
          first | rw [H'.out 0 (by decide), H'.out 1 (by decide), H'.out 2 (by decide), ← H.out] | rw [H'.out 0 (by decide), H'.out 1 (by decide), ← H.out, H'.out 3 (by decide)] | rw [H'.out 0 (by decide), ← H.out, H'.out 2 (by decide), H'.out 3 (by decide)] | rw [← H.out, H'.out 1 (by decide), H'.out 2 (by decide), H'.out 3 (by decide)]
          exact Wl.blk_drew (Rc.set_blk H1.out rfl)
    · have hkk : k = xs.length := by omega
      subst hkk
      rw [List.take_length] at h1
      have H0 := Lib.hid h0
      have H1 := Lib.hid (h1); have c1_0 := (Wl.blk_cell H1.out 0).trans rfl; have c1_1 := (Wl.blk_cell H1.out 1).trans rfl; have c1_2 := (Wl.blk_cell H1.out 2).trans rfl; have c1_3 := (Wl.blk_cell H1.out 3).trans rfl; have f1_0 := Wl.blk_frozen H1.out 0; have f1_1 := Wl.blk_frozen H1.out 1; have f1_2 := Wl.blk_frozen H1.out 2; have f1_3 := Wl.blk_frozen H1.out 3
      have c0_0 := Wl.blk_cell H0.out 0; have c0_1 := Wl.blk_cell H0.out 1; have c0_2 := Wl.blk_cell H0.out 2; have c0_3 := Wl.blk_cell H0.out 3
      have f0_0 := Wl.blk_frozen H0.out 0; have f0_1 := Wl.blk_frozen H0.out 1; have f0_2 := Wl.blk_frozen H0.out 2; have f0_3 := Wl.blk_frozen H0.out 3
      clear h0 h1
      go_wp2_with fail
      refine bodyPost_ret (v := .agg #[.int .u64 (Sets.wd (setL xs) 0), .int .u64 (Sets.wd (setL xs) 1), .int .u64 (Sets.wd (setL xs) 2), .int .u64 (Sets.wd (setL xs) 3)]) ?_ rfl ⟨rfl, ?_⟩
      · have r : ((((wr.setCell ⟨w.heap.size, 0, none⟩ (.int .u64 (Sets.wd (setL xs) 0))).setCell ⟨w.heap.size, 1, none⟩ (.int .u64 (Sets.wd (setL xs) 1))).setCell ⟨w.heap.size, 2, none⟩ (.int .u64 (Sets.wd (setL xs) 2))).setCell ⟨w.heap.size, 3, none⟩ (.int .u64 (Sets.wd (setL xs) 3))).heap[w.heap.size]? = some (.cells #[.int .u64 (Sets.wd (setL xs) 0), .int .u64 (Sets.wd (setL xs) 1), .int .u64 (Sets.wd (setL xs) 2), .int .u64 (Sets.wd (setL xs) 3)] 25 (0, 0)) := Rc.set_blk (Rc.set_blk (Rc.set_blk (Rc.set_blk H0.out rfl) rfl) rfl) rfl
        have d0 := (Wl.blk_cell r 0).trans rfl
        have d1 := (Wl.blk_cell r 1).trans rfl
        have d2 := (Wl.blk_cell r 2).trans rfl
        have d3 := (Wl.blk_cell r 3).trans rfl
        simp [results, Tryd.results102, go_sem, d0, d1, d2, d3]
      · (repeat (first | (with_reducible apply Wl.bl_alloc) | (with_reducible apply Wl.bl_drewN) | (with_reducible apply Wl.bl_drew) | (with_reducible refine Wl.bl_set ?_ (by simp; try omega)) | (with_reducible exact Below.refl _ _) | (with_reducible assumption) | (with_reducible refine Wl.bl_trans ?_ (by assumption))))
end Go.Proofs.YtdaionnpgcdkdaaDoor
