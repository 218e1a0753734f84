/- becketlaw22.BarrierFires: the plain law. -/
import Derived.Test.YtdaionnpgcdkdaaDoorBarBar
set_option linter.unusedVariables false
set_option linter.unusedSimpArgs false
namespace Go.Proofs.YtdaionnpgcdkdaaDoor.RBar
open Go.RowKit Go.Proofs.YtdaionnpgcdkdaaDoorP.Bar Go.Proofs.YtdaionnpgcdkdaaDoorW.PrintWords
open Sets (hasS addS dropS lessS subS isId wd)
theorem fires_pure (t : Bool) (lim ph : Int) (l l' : List Int) : becketlaw22_BarrierFires.f 5000 t lim l l' ph = some true := by
  unfold becketlaw22_BarrierFires.f becketlaw22_Small.f
  rw [alive_f 5000 (by omega)]
  by_cases h1 : (l.length : Int) ≤ 40
  · rw [if_pos h1]
    by_cases h2 : (l'.length : Int) ≤ 40
    · simp only [Option.bind_some, h2, decide_true, if_true]
      have hm := setL_in l
      have ha := setL_in l'
      rw [plain_f t lim ph l l' 5000 (by omega) (by omega) (by omega)]
      generalize setL l = m at *
      generalize setL l' = a at *
      have lm := elsI_len m
      have la := elsI_len a
      simp only [Option.bind_some]
      rw [to_f t lim ph m a hm ha 5000 (by omega), ref_bar_fire t lim ph m a hm ha 5000 (by omega), ref_bar_ready t lim ph m a hm ha 5000 (by omega)]
      simp only [Option.bind_some]
      rw [bar_fire t lim ph m a hm ha, bar_ready t lim ph m a hm ha]
      simp only [Option.bind_some, beq_self_eq_true, if_true]
      unfold fireW fireB
      cases fineB lim ph m a with
      | false =>
        simp only [Bool.false_eq_true, if_false]
        rw [from_f t lim ph m a hm ha]
        simp only [Option.bind_some]
        rw [law_same t lim ph _ _ 5000 (by omega) (by omega) (by omega), same_f [] [] 5000 (by simp) (by omega)]
        simp
      | true =>
        cases readyB lim ph m a with
        | false =>
          simp only [Bool.false_eq_true, if_false, if_true]
          rw [from_f t lim ph m a hm ha]
          simp only [Option.bind_some]
          rw [law_same t lim ph _ _ 5000 (by omega) (by omega) (by omega), same_f [] [] 5000 (by simp) (by omega)]
          simp
        | true =>
          simp only [if_true]
          rw [from_f t lim _ m 0 hm zero_in, els_zero]
          simp only [Option.bind_some]
          rw [law_same t lim _ _ _ 5000 (by omega) (by simp) (by omega), same_f (elsI a) (elsI a) 5000 (by omega) (by omega)]
          simp
    · simp only [Option.bind_some, h2, decide_false, Bool.false_eq_true, if_false]
  · rw [if_neg h1]
    simp only [Option.bind_some, Bool.false_eq_true, if_false]
theorem fires_row (x : S47) {W : Prop} (h : W) : becketlaw22_BarrierFires.f 5000 x.f0.f0 x.f0.f1 x.f1.f0 x.f1.f1 x.f2 = some true := fires_pure _ _ _ _ _
end Go.Proofs.YtdaionnpgcdkdaaDoor.RBar
