/- The program's rolls and barriers as printed functions, on the words of sets. -/
import Derived.Test.YtdaionnpgcdkdaaDoorRefBar
set_option linter.unusedVariables false
set_option linter.unusedSimpArgs false
namespace Go.Proofs.YtdaionnpgcdkdaaDoor.RBar
open Go.RowKit Go.Proofs.YtdaionnpgcdkdaaDoorP.Bar Go.Proofs.YtdaionnpgcdkdaaDoorW.PrintWords
open Sets (hasS addS dropS lessS subS isId wd)
theorem roll_fine_f (m a : Nat) (hm : Sets.In m) (ha : Sets.In a) : roll_Fine.f (wd m 0) (wd m 1) (wd m 2) (wd m 3) (wd a 0) (wd a 1) (wd a 2) (wd a 3) = some (fineR m a) := by
  unfold roll_Fine.f
  rw [okS_wd, okS_wd, natS_of m hm, natS_of a ha]
  rfl
theorem roll_full_f (m a : Nat) (hm : Sets.In m) (ha : Sets.In a) : roll_Full.f (wd m 0) (wd m 1) (wd m 2) (wd m 3) (wd a 0) (wd a 1) (wd a 2) (wd a 3) = some (fullR m a) := by
  unfold roll_Full.f
  rw [okS_wd, okS_wd, natS_of m hm, natS_of a ha]
  rfl
theorem list_f (s : Nat) (hs : Sets.In s) : bitset_List.f (wd s 0) (wd s 1) (wd s 2) (wd s 3) = some (elsI s) := by
  unfold bitset_List.f
  rw [okS_wd, natS_of s hs]
  rfl
theorem bar_fine (t : Bool) (lim ph : Int) (m a : Nat) (hm : Sets.In m) (ha : Sets.In a) : barrier_Fine.f t lim (wd m 0) (wd m 1) (wd m 2) (wd m 3) (wd a 0) (wd a 1) (wd a 2) (wd a 3) ph = some (fineB lim ph m a) := by
  unfold barrier_Fine.f fineB
  rw [phase_fine, roll_fine_f m a hm ha]
  simp only [Option.bind_some]
  cases fineP ph lim <;> rfl
theorem phase_left (ph lim : Int) (h : fineP ph lim = true) : phase_Left.f ph lim = some (lim - ph) := by
  unfold phase_Left.f
  rw [phase_fine, h]
  rw [fineP_iff] at h
  simp only [Option.bind_some, if_true]
  congr 1
  unfold wrap64
  omega
theorem bar_ready (t : Bool) (lim ph : Int) (m a : Nat) (hm : Sets.In m) (ha : Sets.In a) : barrier_Ready.f t lim (wd m 0) (wd m 1) (wd m 2) (wd m 3) (wd a 0) (wd a 1) (wd a 2) (wd a 3) ph = some (readyB lim ph m a) := by
  unfold barrier_Ready.f readyB
  rw [bar_fine t lim ph m a hm ha, roll_full_f m a hm ha]
  simp only [Option.bind_some]
  cases hf : fineB lim ph m a with
  | false => rfl
  | true =>
    cases fullR m a with
    | false => rfl
    | true =>
      have hp : fineP ph lim = true := by unfold fineB at hf; rw [Bool.and_eq_true] at hf; exact hf.1
      rw [phase_left ph lim hp]
      simp only [Option.bind_some, if_true, Bool.true_and]
      congr 1
      apply decide_eq_decide.2
      omega
theorem roll_fire_f (m a : Nat) (hm : Sets.In m) (ha : Sets.In a) (h1 : fineR m a = true) (h2 : fullR m a = true) :
    roll_Fire.f (wd m 0) (wd m 1) (wd m 2) (wd m 3) (wd a 0) (wd a 1) (wd a 2) (wd a 3) = some (wd m 0, wd m 1, wd m 2, wd m 3, 0, 0, 0, 0, elsI a, 0) := by
  unfold roll_Fire.f
  rw [roll_fine_f m a hm ha, roll_full_f m a hm ha, list_f a ha, h1, h2]
  rfl
theorem phase_next (ph lim : Int) (h : fineP ph lim = true) (hl : ph < lim) : phase_Next.f ph lim = some (wrap64 (ph + 1), 0) := by
  unfold phase_Next.f
  rw [phase_fine, h]
  simp only [Option.bind_some, if_true]
  rw [if_neg (by omega)]
/-- What a fired barrier is, in the program's words. -/
def fireW (t : Bool) (lim ph : Int) (m a : Nat) : Bool × Int × Int × Int × Int × Int × Int × Int × Int × Int × Int × List Int × Int :=
  if fineB lim ph m a then (if readyB lim ph m a then (t, lim, wd m 0, wd m 1, wd m 2, wd m 3, wd 0 0, wd 0 1, wd 0 2, wd 0 3, wrap64 (ph + 1), elsI a, 0) else (t, lim, wd m 0, wd m 1, wd m 2, wd m 3, wd a 0, wd a 1, wd a 2, wd a 3, ph, [], 13)) else (t, lim, wd m 0, wd m 1, wd m 2, wd m 3, wd a 0, wd a 1, wd a 2, wd a 3, ph, [], 1)
theorem bar_fire (t : Bool) (lim ph : Int) (m a : Nat) (hm : Sets.In m) (ha : Sets.In a) : barrier_Fire.f t lim (wd m 0) (wd m 1) (wd m 2) (wd m 3) (wd a 0) (wd a 1) (wd a 2) (wd a 3) ph = some (fireW t lim ph m a) := by
  unfold barrier_Fire.f fireW
  rw [bar_fine t lim ph m a hm ha, bar_ready t lim ph m a hm ha]
  simp only [Option.bind_some]
  cases hf : fineB lim ph m a with
  | false => rfl
  | true =>
    cases hr : readyB lim ph m a with
    | false => rfl
    | true =>
      have h1 := hf
      unfold fineB at h1
      rw [Bool.and_eq_true] at h1
      have h2 := hr
      unfold readyB at h2
      rw [Bool.and_eq_true, Bool.and_eq_true, decide_eq_true_iff] at h2
      rw [roll_fire_f m a hm ha h1.2 h2.2.1]
      simp only [Option.bind_some, if_true]
      rw [phase_next ph lim h1.1 h2.2.2]
      rfl
theorem from_f (t : Bool) (lim ph : Int) (m a : Nat) (hm : Sets.In m) (ha : Sets.In a) : becketlaw22_From.f t lim (wd m 0) (wd m 1) (wd m 2) (wd m 3) (wd a 0) (wd a 1) (wd a 2) (wd a 3) ph = some (t, lim, elsI m, elsI a, ph) := by
  unfold becketlaw22_From.f becketlaw21_From.f
  rw [list_f m hm, list_f a ha]
  rfl
theorem words_f (l : List Int) : becketref04_Words.f l = some (wd (setL l) 0, wd (setL l) 1, wd (setL l) 2, wd (setL l) 3) := rfl
theorem plain_f (t : Bool) (lim ph : Int) (l l' : List Int) (k : Nat) (h : l.length ≤ 256) (h' : l'.length ≤ 256) (hk : 4000 ≤ k) : becketlaw22_Plain.f k t lim l l' ph = some (t, lim, elsI (setL l), elsI (setL l'), ph) := by
  unfold becketlaw22_Plain.f becketlaw21_Plain.f
  rw [of_f l k (by omega) (by omega), of_f l' k (by omega) (by omega)]
  rfl
theorem to_f (t : Bool) (lim ph : Int) (m a : Nat) (hm : Sets.In m) (ha : Sets.In a) (k : Nat) (hk : 4000 ≤ k) : becketlaw22_To.f k t lim (elsI m) (elsI a) ph = some (t, lim, wd m 0, wd m 1, wd m 2, wd m 3, wd a 0, wd a 1, wd a 2, wd a 3, ph) := by
  have lm := elsI_len m
  have la := elsI_len a
  unfold becketlaw22_To.f becketlaw21_Plain.f becketlaw21_To.f
  rw [of_f _ k (by omega) (by omega), of_f _ k (by omega) (by omega), setL_elsI m hm, setL_elsI a ha]
  simp only [Option.bind_some, words_f, setL_elsI m hm, setL_elsI a ha]
theorem law_same (t : Bool) (lim ph : Int) (a b : List Int) (k : Nat) (ha : a.length < 1000) (hb : b.length < 1000) (hk : 1000 ≤ k) : becketlaw22_Same.f k t lim a b ph t lim a b ph = some true := by
  unfold becketlaw22_Same.f becketlaw21_Same.f
  rw [same_f a a k ha hk, same_f b b k hb hk]
  simp
theorem zero_in : Sets.In 0 := by unfold Sets.In; decide
theorem els_zero : elsI 0 = [] := List.length_eq_zero_iff.1 ((els_pos 0 zero_in).2 rfl)
theorem alive_f (k : Nat) (hk : 50 ≤ k) : becketlaw22_alive.f k = some true := by
  have h : becketlaw22_alive.f 50 = some true := by kernel_rfl
  have more : ∀ d, becketlaw22_alive.f (50 + d) = some true := by
    intro d
    induction d with
    | zero => exact h
    | succ d ih => exact becketlaw22_alive.mono _ _ ih
  have := more (k - 50)
  rwa [show 50 + (k - 50) = k by omega] at this
end Go.Proofs.YtdaionnpgcdkdaaDoor.RBar
