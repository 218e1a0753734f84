/- Printed by a program of this session over the kit's print.py: the machine's side of Go functions as plain Lean functions, each with its proof. -/
import Derived.Test.YtdaionnpgcdkdaaDoorPBarx0
import Derived.Test.YtdaionnpgcdkdaaDoorPBarx3
import Derived.Test.YtdaionnpgcdkdaaDoorPBarx4
namespace Go.Proofs.YtdaionnpgcdkdaaDoorP.Bar
open Go.RowKit Go.Proofs.YtdaionnpgcdkdaaDoorW.PrintWords Go.Proofs.YtdaionnpgcdkdaaDoorW.PrintLast Go.Proofs.YtdaionnpgcdkdaaDoorW.PrintMore
attribute [local go_sem] max2_int min2_int max_two min_two max_three min_three max_four min_four   -- for this text's walks alone
set_option linter.unusedVariables false
set_option linter.unusedSimpArgs false

/-! ### becketlaw22_alive: function 21 -/
def becketlaw22_alive.f (k : Nat)  : Option (Bool) := (barrier_New.f false 1).bind fun bt209 => ((barrier_Enrol.f bt209.1 bt209.2.1 bt209.2.2.1 bt209.2.2.2.1 bt209.2.2.2.2.1 bt209.2.2.2.2.2.1 bt209.2.2.2.2.2.2.1 bt209.2.2.2.2.2.2.2.1 bt209.2.2.2.2.2.2.2.2.1 bt209.2.2.2.2.2.2.2.2.2.1 bt209.2.2.2.2.2.2.2.2.2.2.1 2).bind fun bt222 => ((barrier_Offer.f k bt222.1 bt222.2.1 bt222.2.2.1 bt222.2.2.2.1 bt222.2.2.2.2.1 bt222.2.2.2.2.2.1 bt222.2.2.2.2.2.2.1 bt222.2.2.2.2.2.2.2.1 bt222.2.2.2.2.2.2.2.2.1 bt222.2.2.2.2.2.2.2.2.2.1 bt222.2.2.2.2.2.2.2.2.2.2.1 2 true).bind fun bt235 => ((barrier_Offer.f k bt222.1 bt222.2.1 bt222.2.2.1 bt222.2.2.2.1 bt222.2.2.2.2.1 bt222.2.2.2.2.2.1 bt222.2.2.2.2.2.2.1 bt222.2.2.2.2.2.2.2.1 bt222.2.2.2.2.2.2.2.2.1 bt222.2.2.2.2.2.2.2.2.2.1 bt222.2.2.2.2.2.2.2.2.2.2.1 2 false).bind fun bt248 => ((barrier_Fire.f bt248.1 bt248.2.1 bt248.2.2.1 bt248.2.2.2.1 bt248.2.2.2.2.1 bt248.2.2.2.2.2.1 bt248.2.2.2.2.2.2.1 bt248.2.2.2.2.2.2.2.1 bt248.2.2.2.2.2.2.2.2.1 bt248.2.2.2.2.2.2.2.2.2.1 bt248.2.2.2.2.2.2.2.2.2.2.1).bind fun bt261 => ((barrier_Offer.f k bt261.1 bt261.2.1 bt261.2.2.1 bt261.2.2.2.1 bt261.2.2.2.2.1 bt261.2.2.2.2.2.1 bt261.2.2.2.2.2.2.1 bt261.2.2.2.2.2.2.2.1 bt261.2.2.2.2.2.2.2.2.1 bt261.2.2.2.2.2.2.2.2.2.1 bt261.2.2.2.2.2.2.2.2.2.2.1 2 false).bind fun bt277 => (if bt209.2.2.2.2.2.2.2.2.2.2.2 = 0 then (if bt222.2.2.2.2.2.2.2.2.2.2.2 = 0 then (if bt235.2.2.2.2.2.2.2.2.2.2.2 = 12 then (if bt248.2.2.2.2.2.2.2.2.2.2.2 = 0 then ((barrier_Ready.f bt248.1 bt248.2.1 bt248.2.2.1 bt248.2.2.2.1 bt248.2.2.2.2.1 bt248.2.2.2.2.2.1 bt248.2.2.2.2.2.2.1 bt248.2.2.2.2.2.2.2.1 bt248.2.2.2.2.2.2.2.2.1 bt248.2.2.2.2.2.2.2.2.2.1 bt248.2.2.2.2.2.2.2.2.2.2.1).bind fun t290 => (if t290 = true then ((barrier_Withdraw.f bt248.1 bt248.2.1 bt248.2.2.1 bt248.2.2.2.1 bt248.2.2.2.2.1 bt248.2.2.2.2.2.1 bt248.2.2.2.2.2.2.1 bt248.2.2.2.2.2.2.2.1 bt248.2.2.2.2.2.2.2.2.1 bt248.2.2.2.2.2.2.2.2.2.1 bt248.2.2.2.2.2.2.2.2.2.2.1 2).bind fun bt291 => ((barrier_Ready.f bt291.1 bt291.2.1 bt291.2.2.1 bt291.2.2.2.1 bt291.2.2.2.2.1 bt291.2.2.2.2.2.1 bt291.2.2.2.2.2.2.1 bt291.2.2.2.2.2.2.2.1 bt291.2.2.2.2.2.2.2.2.1 bt291.2.2.2.2.2.2.2.2.2.1 bt291.2.2.2.2.2.2.2.2.2.2).bind fun t302 => (if t302 = true then (none) else (if bt261.2.2.2.2.2.2.2.2.2.2.2.2 = 0 then (if bt261.2.2.2.2.2.2.2.2.2.2.1 = 1 then ((becketref02_Same.f k bt261.2.2.2.2.2.2.2.2.2.2.2.1 (([2] : List Int))).bind fun t306 => (if t306 = true then (if bt277.2.2.2.2.2.2.2.2.2.2.2 = 14 then ((barrier_Fine.f bt261.1 bt261.2.1 bt261.2.2.1 bt261.2.2.2.1 bt261.2.2.2.2.1 bt261.2.2.2.2.2.1 bt261.2.2.2.2.2.2.1 bt261.2.2.2.2.2.2.2.1 bt261.2.2.2.2.2.2.2.2.1 bt261.2.2.2.2.2.2.2.2.2.1 bt261.2.2.2.2.2.2.2.2.2.2.1).bind fun t307 => (if t307 = true then ((barrier_Check.f false 0).bind fun t308 => (some (t308 == 8))) else (none))) else (none)) else (none))) else (none)) else (none))))) else (none))) else (none)) else (none)) else (none)) else (none)))))))
theorem becketlaw22_alive.mono : ∀ k, LeO (becketlaw22_alive.f k ) (becketlaw22_alive.f (k + 1) ) := by
  intro  k
  unfold becketlaw22_alive.f
  repeat' first
      | (with_reducible exact barrier_Offer.mono _ _ _ _ _ _ _ _ _ _ _ _ _ _)
      | (with_reducible exact becketref02_Same.mono _ _ _)
      | (with_reducible exact LeO.refl _)
      | (with_reducible exact LeO.none _)
      | (with_reducible refine LeO.ite ?_ ?_)
      | (with_reducible refine LeO.bind ?_ (fun _ => ?_))
      | exact barrier_Offer.mono _ _ _ _ _ _ _ _ _ _ _ _ _ _
      | exact becketref02_Same.mono _ _ _
      | exact LeO.none _
      | refine LeO.ite ?_ ?_
      | refine LeO.bind ?_ (fun _ => ?_)
set_option maxHeartbeats 8000000 in
set_option maxRecDepth 100000 in
theorem becketlaw22_alive.calls (k : Nat)  (r : Bool) (w : World) (hG : Go.Proofs.YtdaionnpgcdkdaaDoor.GLW w) (h : becketlaw22_alive.f k  = some r) :
    Calls Tryd.prog 21 #[] w fun e w' => e = .returned (.bool r) ∧ Below w.heap.size w w' := by
  have hu43 := Tryd.underlying43
  have hu51 := Tryd.underlying51
  have HB := Aside0.mk (Below.refl w.heap.size w)
  have H : ((barrier_New.f false 1).bind fun bt209 => ((barrier_Enrol.f bt209.1 bt209.2.1 bt209.2.2.1 bt209.2.2.2.1 bt209.2.2.2.2.1 bt209.2.2.2.2.2.1 bt209.2.2.2.2.2.2.1 bt209.2.2.2.2.2.2.2.1 bt209.2.2.2.2.2.2.2.2.1 bt209.2.2.2.2.2.2.2.2.2.1 bt209.2.2.2.2.2.2.2.2.2.2.1 2).bind fun bt222 => ((barrier_Offer.f k bt222.1 bt222.2.1 bt222.2.2.1 bt222.2.2.2.1 bt222.2.2.2.2.1 bt222.2.2.2.2.2.1 bt222.2.2.2.2.2.2.1 bt222.2.2.2.2.2.2.2.1 bt222.2.2.2.2.2.2.2.2.1 bt222.2.2.2.2.2.2.2.2.2.1 bt222.2.2.2.2.2.2.2.2.2.2.1 2 true).bind fun bt235 => ((barrier_Offer.f k bt222.1 bt222.2.1 bt222.2.2.1 bt222.2.2.2.1 bt222.2.2.2.2.1 bt222.2.2.2.2.2.1 bt222.2.2.2.2.2.2.1 bt222.2.2.2.2.2.2.2.1 bt222.2.2.2.2.2.2.2.2.1 bt222.2.2.2.2.2.2.2.2.2.1 bt222.2.2.2.2.2.2.2.2.2.2.1 2 false).bind fun bt248 => ((barrier_Fire.f bt248.1 bt248.2.1 bt248.2.2.1 bt248.2.2.2.1 bt248.2.2.2.2.1 bt248.2.2.2.2.2.1 bt248.2.2.2.2.2.2.1 bt248.2.2.2.2.2.2.2.1 bt248.2.2.2.2.2.2.2.2.1 bt248.2.2.2.2.2.2.2.2.2.1 bt248.2.2.2.2.2.2.2.2.2.2.1).bind fun bt261 => ((barrier_Offer.f k bt261.1 bt261.2.1 bt261.2.2.1 bt261.2.2.2.1 bt261.2.2.2.2.1 bt261.2.2.2.2.2.1 bt261.2.2.2.2.2.2.1 bt261.2.2.2.2.2.2.2.1 bt261.2.2.2.2.2.2.2.2.1 bt261.2.2.2.2.2.2.2.2.2.1 bt261.2.2.2.2.2.2.2.2.2.2.1 2 false).bind fun bt277 => (if bt209.2.2.2.2.2.2.2.2.2.2.2 = 0 then (if bt222.2.2.2.2.2.2.2.2.2.2.2 = 0 then (if bt235.2.2.2.2.2.2.2.2.2.2.2 = 12 then (if bt248.2.2.2.2.2.2.2.2.2.2.2 = 0 then ((barrier_Ready.f bt248.1 bt248.2.1 bt248.2.2.1 bt248.2.2.2.1 bt248.2.2.2.2.1 bt248.2.2.2.2.2.1 bt248.2.2.2.2.2.2.1 bt248.2.2.2.2.2.2.2.1 bt248.2.2.2.2.2.2.2.2.1 bt248.2.2.2.2.2.2.2.2.2.1 bt248.2.2.2.2.2.2.2.2.2.2.1).bind fun t290 => (if t290 = true then ((barrier_Withdraw.f bt248.1 bt248.2.1 bt248.2.2.1 bt248.2.2.2.1 bt248.2.2.2.2.1 bt248.2.2.2.2.2.1 bt248.2.2.2.2.2.2.1 bt248.2.2.2.2.2.2.2.1 bt248.2.2.2.2.2.2.2.2.1 bt248.2.2.2.2.2.2.2.2.2.1 bt248.2.2.2.2.2.2.2.2.2.2.1 2).bind fun bt291 => ((barrier_Ready.f bt291.1 bt291.2.1 bt291.2.2.1 bt291.2.2.2.1 bt291.2.2.2.2.1 bt291.2.2.2.2.2.1 bt291.2.2.2.2.2.2.1 bt291.2.2.2.2.2.2.2.1 bt291.2.2.2.2.2.2.2.2.1 bt291.2.2.2.2.2.2.2.2.2.1 bt291.2.2.2.2.2.2.2.2.2.2).bind fun t302 => (if t302 = true then (none) else (if bt261.2.2.2.2.2.2.2.2.2.2.2.2 = 0 then (if bt261.2.2.2.2.2.2.2.2.2.2.1 = 1 then ((becketref02_Same.f k bt261.2.2.2.2.2.2.2.2.2.2.2.1 (([2] : List Int))).bind fun t306 => (if t306 = true then (if bt277.2.2.2.2.2.2.2.2.2.2.2 = 14 then ((barrier_Fine.f bt261.1 bt261.2.1 bt261.2.2.1 bt261.2.2.2.1 bt261.2.2.2.2.1 bt261.2.2.2.2.2.1 bt261.2.2.2.2.2.2.1 bt261.2.2.2.2.2.2.2.1 bt261.2.2.2.2.2.2.2.2.1 bt261.2.2.2.2.2.2.2.2.2.1 bt261.2.2.2.2.2.2.2.2.2.2.1).bind fun t307 => (if t307 = true then ((barrier_Check.f false 0).bind fun t308 => (some (t308 == 8))) else (none))) else (none)) else (none))) else (none)) else (none))))) else (none))) else (none)) else (none)) else (none)) else (none)))))))) = some r := h
  clear h
  replace H := Option.bind_eq_some_iff.mp H
  obtain ⟨⟨t209, t210, t211, t212, t213, t214, t215, t216, t217, t218, t219, t220⟩, A10, H⟩ := H
  replace H : ((barrier_Enrol.f t209 t210 t211 t212 t213 t214 t215 t216 t217 t218 t219 2).bind fun bt222 => ((barrier_Offer.f k bt222.1 bt222.2.1 bt222.2.2.1 bt222.2.2.2.1 bt222.2.2.2.2.1 bt222.2.2.2.2.2.1 bt222.2.2.2.2.2.2.1 bt222.2.2.2.2.2.2.2.1 bt222.2.2.2.2.2.2.2.2.1 bt222.2.2.2.2.2.2.2.2.2.1 bt222.2.2.2.2.2.2.2.2.2.2.1 2 true).bind fun bt235 => ((barrier_Offer.f k bt222.1 bt222.2.1 bt222.2.2.1 bt222.2.2.2.1 bt222.2.2.2.2.1 bt222.2.2.2.2.2.1 bt222.2.2.2.2.2.2.1 bt222.2.2.2.2.2.2.2.1 bt222.2.2.2.2.2.2.2.2.1 bt222.2.2.2.2.2.2.2.2.2.1 bt222.2.2.2.2.2.2.2.2.2.2.1 2 false).bind fun bt248 => ((barrier_Fire.f bt248.1 bt248.2.1 bt248.2.2.1 bt248.2.2.2.1 bt248.2.2.2.2.1 bt248.2.2.2.2.2.1 bt248.2.2.2.2.2.2.1 bt248.2.2.2.2.2.2.2.1 bt248.2.2.2.2.2.2.2.2.1 bt248.2.2.2.2.2.2.2.2.2.1 bt248.2.2.2.2.2.2.2.2.2.2.1).bind fun bt261 => ((barrier_Offer.f k bt261.1 bt261.2.1 bt261.2.2.1 bt261.2.2.2.1 bt261.2.2.2.2.1 bt261.2.2.2.2.2.1 bt261.2.2.2.2.2.2.1 bt261.2.2.2.2.2.2.2.1 bt261.2.2.2.2.2.2.2.2.1 bt261.2.2.2.2.2.2.2.2.2.1 bt261.2.2.2.2.2.2.2.2.2.2.1 2 false).bind fun bt277 => (if t220 = 0 then (if bt222.2.2.2.2.2.2.2.2.2.2.2 = 0 then (if bt235.2.2.2.2.2.2.2.2.2.2.2 = 12 then (if bt248.2.2.2.2.2.2.2.2.2.2.2 = 0 then ((barrier_Ready.f bt248.1 bt248.2.1 bt248.2.2.1 bt248.2.2.2.1 bt248.2.2.2.2.1 bt248.2.2.2.2.2.1 bt248.2.2.2.2.2.2.1 bt248.2.2.2.2.2.2.2.1 bt248.2.2.2.2.2.2.2.2.1 bt248.2.2.2.2.2.2.2.2.2.1 bt248.2.2.2.2.2.2.2.2.2.2.1).bind fun t290 => (if t290 = true then ((barrier_Withdraw.f bt248.1 bt248.2.1 bt248.2.2.1 bt248.2.2.2.1 bt248.2.2.2.2.1 bt248.2.2.2.2.2.1 bt248.2.2.2.2.2.2.1 bt248.2.2.2.2.2.2.2.1 bt248.2.2.2.2.2.2.2.2.1 bt248.2.2.2.2.2.2.2.2.2.1 bt248.2.2.2.2.2.2.2.2.2.2.1 2).bind fun bt291 => ((barrier_Ready.f bt291.1 bt291.2.1 bt291.2.2.1 bt291.2.2.2.1 bt291.2.2.2.2.1 bt291.2.2.2.2.2.1 bt291.2.2.2.2.2.2.1 bt291.2.2.2.2.2.2.2.1 bt291.2.2.2.2.2.2.2.2.1 bt291.2.2.2.2.2.2.2.2.2.1 bt291.2.2.2.2.2.2.2.2.2.2).bind fun t302 => (if t302 = true then (none) else (if bt261.2.2.2.2.2.2.2.2.2.2.2.2 = 0 then (if bt261.2.2.2.2.2.2.2.2.2.2.1 = 1 then ((becketref02_Same.f k bt261.2.2.2.2.2.2.2.2.2.2.2.1 (([2] : List Int))).bind fun t306 => (if t306 = true then (if bt277.2.2.2.2.2.2.2.2.2.2.2 = 14 then ((barrier_Fine.f bt261.1 bt261.2.1 bt261.2.2.1 bt261.2.2.2.1 bt261.2.2.2.2.1 bt261.2.2.2.2.2.1 bt261.2.2.2.2.2.2.1 bt261.2.2.2.2.2.2.2.1 bt261.2.2.2.2.2.2.2.2.1 bt261.2.2.2.2.2.2.2.2.2.1 bt261.2.2.2.2.2.2.2.2.2.2.1).bind fun t307 => (if t307 = true then ((barrier_Check.f false 0).bind fun t308 => (some (t308 == 8))) else (none))) else (none)) else (none))) else (none)) else (none))))) else (none))) else (none)) else (none)) else (none)) else (none))))))) = some r := H
  have A1 := Aside0.mk A10
  clear A10
  replace H := Option.bind_eq_some_iff.mp H
  obtain ⟨⟨t222, t223, t224, t225, t226, t227, t228, t229, t230, t231, t232, t233⟩, A20, H⟩ := H
  replace H : ((barrier_Offer.f k t222 t223 t224 t225 t226 t227 t228 t229 t230 t231 t232 2 true).bind fun bt235 => ((barrier_Offer.f k t222 t223 t224 t225 t226 t227 t228 t229 t230 t231 t232 2 false).bind fun bt248 => ((barrier_Fire.f bt248.1 bt248.2.1 bt248.2.2.1 bt248.2.2.2.1 bt248.2.2.2.2.1 bt248.2.2.2.2.2.1 bt248.2.2.2.2.2.2.1 bt248.2.2.2.2.2.2.2.1 bt248.2.2.2.2.2.2.2.2.1 bt248.2.2.2.2.2.2.2.2.2.1 bt248.2.2.2.2.2.2.2.2.2.2.1).bind fun bt261 => ((barrier_Offer.f k bt261.1 bt261.2.1 bt261.2.2.1 bt261.2.2.2.1 bt261.2.2.2.2.1 bt261.2.2.2.2.2.1 bt261.2.2.2.2.2.2.1 bt261.2.2.2.2.2.2.2.1 bt261.2.2.2.2.2.2.2.2.1 bt261.2.2.2.2.2.2.2.2.2.1 bt261.2.2.2.2.2.2.2.2.2.2.1 2 false).bind fun bt277 => (if t220 = 0 then (if t233 = 0 then (if bt235.2.2.2.2.2.2.2.2.2.2.2 = 12 then (if bt248.2.2.2.2.2.2.2.2.2.2.2 = 0 then ((barrier_Ready.f bt248.1 bt248.2.1 bt248.2.2.1 bt248.2.2.2.1 bt248.2.2.2.2.1 bt248.2.2.2.2.2.1 bt248.2.2.2.2.2.2.1 bt248.2.2.2.2.2.2.2.1 bt248.2.2.2.2.2.2.2.2.1 bt248.2.2.2.2.2.2.2.2.2.1 bt248.2.2.2.2.2.2.2.2.2.2.1).bind fun t290 => (if t290 = true then ((barrier_Withdraw.f bt248.1 bt248.2.1 bt248.2.2.1 bt248.2.2.2.1 bt248.2.2.2.2.1 bt248.2.2.2.2.2.1 bt248.2.2.2.2.2.2.1 bt248.2.2.2.2.2.2.2.1 bt248.2.2.2.2.2.2.2.2.1 bt248.2.2.2.2.2.2.2.2.2.1 bt248.2.2.2.2.2.2.2.2.2.2.1 2).bind fun bt291 => ((barrier_Ready.f bt291.1 bt291.2.1 bt291.2.2.1 bt291.2.2.2.1 bt291.2.2.2.2.1 bt291.2.2.2.2.2.1 bt291.2.2.2.2.2.2.1 bt291.2.2.2.2.2.2.2.1 bt291.2.2.2.2.2.2.2.2.1 bt291.2.2.2.2.2.2.2.2.2.1 bt291.2.2.2.2.2.2.2.2.2.2).bind fun t302 => (if t302 = true then (none) else (if bt261.2.2.2.2.2.2.2.2.2.2.2.2 = 0 then (if bt261.2.2.2.2.2.2.2.2.2.2.1 = 1 then ((becketref02_Same.f k bt261.2.2.2.2.2.2.2.2.2.2.2.1 (([2] : List Int))).bind fun t306 => (if t306 = true then (if bt277.2.2.2.2.2.2.2.2.2.2.2 = 14 then ((barrier_Fine.f bt261.1 bt261.2.1 bt261.2.2.1 bt261.2.2.2.1 bt261.2.2.2.2.1 bt261.2.2.2.2.2.1 bt261.2.2.2.2.2.2.1 bt261.2.2.2.2.2.2.2.1 bt261.2.2.2.2.2.2.2.2.1 bt261.2.2.2.2.2.2.2.2.2.1 bt261.2.2.2.2.2.2.2.2.2.2.1).bind fun t307 => (if t307 = true then ((barrier_Check.f false 0).bind fun t308 => (some (t308 == 8))) else (none))) else (none)) else (none))) else (none)) else (none))))) else (none))) else (none)) else (none)) else (none)) else (none)))))) = some r := H
  have A2 := Aside0.mk A20
  clear A20
  replace H := Option.bind_eq_some_iff.mp H
  obtain ⟨⟨t235, t236, t237, t238, t239, t240, t241, t242, t243, t244, t245, t246⟩, A30, H⟩ := H
  replace H : ((barrier_Offer.f k t222 t223 t224 t225 t226 t227 t228 t229 t230 t231 t232 2 false).bind fun bt248 => ((barrier_Fire.f bt248.1 bt248.2.1 bt248.2.2.1 bt248.2.2.2.1 bt248.2.2.2.2.1 bt248.2.2.2.2.2.1 bt248.2.2.2.2.2.2.1 bt248.2.2.2.2.2.2.2.1 bt248.2.2.2.2.2.2.2.2.1 bt248.2.2.2.2.2.2.2.2.2.1 bt248.2.2.2.2.2.2.2.2.2.2.1).bind fun bt261 => ((barrier_Offer.f k bt261.1 bt261.2.1 bt261.2.2.1 bt261.2.2.2.1 bt261.2.2.2.2.1 bt261.2.2.2.2.2.1 bt261.2.2.2.2.2.2.1 bt261.2.2.2.2.2.2.2.1 bt261.2.2.2.2.2.2.2.2.1 bt261.2.2.2.2.2.2.2.2.2.1 bt261.2.2.2.2.2.2.2.2.2.2.1 2 false).bind fun bt277 => (if t220 = 0 then (if t233 = 0 then (if t246 = 12 then (if bt248.2.2.2.2.2.2.2.2.2.2.2 = 0 then ((barrier_Ready.f bt248.1 bt248.2.1 bt248.2.2.1 bt248.2.2.2.1 bt248.2.2.2.2.1 bt248.2.2.2.2.2.1 bt248.2.2.2.2.2.2.1 bt248.2.2.2.2.2.2.2.1 bt248.2.2.2.2.2.2.2.2.1 bt248.2.2.2.2.2.2.2.2.2.1 bt248.2.2.2.2.2.2.2.2.2.2.1).bind fun t290 => (if t290 = true then ((barrier_Withdraw.f bt248.1 bt248.2.1 bt248.2.2.1 bt248.2.2.2.1 bt248.2.2.2.2.1 bt248.2.2.2.2.2.1 bt248.2.2.2.2.2.2.1 bt248.2.2.2.2.2.2.2.1 bt248.2.2.2.2.2.2.2.2.1 bt248.2.2.2.2.2.2.2.2.2.1 bt248.2.2.2.2.2.2.2.2.2.2.1 2).bind fun bt291 => ((barrier_Ready.f bt291.1 bt291.2.1 bt291.2.2.1 bt291.2.2.2.1 bt291.2.2.2.2.1 bt291.2.2.2.2.2.1 bt291.2.2.2.2.2.2.1 bt291.2.2.2.2.2.2.2.1 bt291.2.2.2.2.2.2.2.2.1 bt291.2.2.2.2.2.2.2.2.2.1 bt291.2.2.2.2.2.2.2.2.2.2).bind fun t302 => (if t302 = true then (none) else (if bt261.2.2.2.2.2.2.2.2.2.2.2.2 = 0 then (if bt261.2.2.2.2.2.2.2.2.2.2.1 = 1 then ((becketref02_Same.f k bt261.2.2.2.2.2.2.2.2.2.2.2.1 (([2] : List Int))).bind fun t306 => (if t306 = true then (if bt277.2.2.2.2.2.2.2.2.2.2.2 = 14 then ((barrier_Fine.f bt261.1 bt261.2.1 bt261.2.2.1 bt261.2.2.2.1 bt261.2.2.2.2.1 bt261.2.2.2.2.2.1 bt261.2.2.2.2.2.2.1 bt261.2.2.2.2.2.2.2.1 bt261.2.2.2.2.2.2.2.2.1 bt261.2.2.2.2.2.2.2.2.2.1 bt261.2.2.2.2.2.2.2.2.2.2.1).bind fun t307 => (if t307 = true then ((barrier_Check.f false 0).bind fun t308 => (some (t308 == 8))) else (none))) else (none)) else (none))) else (none)) else (none))))) else (none))) else (none)) else (none)) else (none)) else (none))))) = some r := H
  have A3 := Aside0.mk A30
  clear A30
  replace H := Option.bind_eq_some_iff.mp H
  obtain ⟨⟨t248, t249, t250, t251, t252, t253, t254, t255, t256, t257, t258, t259⟩, A40, H⟩ := H
  replace H : ((barrier_Fire.f t248 t249 t250 t251 t252 t253 t254 t255 t256 t257 t258).bind fun bt261 => ((barrier_Offer.f k bt261.1 bt261.2.1 bt261.2.2.1 bt261.2.2.2.1 bt261.2.2.2.2.1 bt261.2.2.2.2.2.1 bt261.2.2.2.2.2.2.1 bt261.2.2.2.2.2.2.2.1 bt261.2.2.2.2.2.2.2.2.1 bt261.2.2.2.2.2.2.2.2.2.1 bt261.2.2.2.2.2.2.2.2.2.2.1 2 false).bind fun bt277 => (if t220 = 0 then (if t233 = 0 then (if t246 = 12 then (if t259 = 0 then ((barrier_Ready.f t248 t249 t250 t251 t252 t253 t254 t255 t256 t257 t258).bind fun t290 => (if t290 = true then ((barrier_Withdraw.f t248 t249 t250 t251 t252 t253 t254 t255 t256 t257 t258 2).bind fun bt291 => ((barrier_Ready.f bt291.1 bt291.2.1 bt291.2.2.1 bt291.2.2.2.1 bt291.2.2.2.2.1 bt291.2.2.2.2.2.1 bt291.2.2.2.2.2.2.1 bt291.2.2.2.2.2.2.2.1 bt291.2.2.2.2.2.2.2.2.1 bt291.2.2.2.2.2.2.2.2.2.1 bt291.2.2.2.2.2.2.2.2.2.2).bind fun t302 => (if t302 = true then (none) else (if bt261.2.2.2.2.2.2.2.2.2.2.2.2 = 0 then (if bt261.2.2.2.2.2.2.2.2.2.2.1 = 1 then ((becketref02_Same.f k bt261.2.2.2.2.2.2.2.2.2.2.2.1 (([2] : List Int))).bind fun t306 => (if t306 = true then (if bt277.2.2.2.2.2.2.2.2.2.2.2 = 14 then ((barrier_Fine.f bt261.1 bt261.2.1 bt261.2.2.1 bt261.2.2.2.1 bt261.2.2.2.2.1 bt261.2.2.2.2.2.1 bt261.2.2.2.2.2.2.1 bt261.2.2.2.2.2.2.2.1 bt261.2.2.2.2.2.2.2.2.1 bt261.2.2.2.2.2.2.2.2.2.1 bt261.2.2.2.2.2.2.2.2.2.2.1).bind fun t307 => (if t307 = true then ((barrier_Check.f false 0).bind fun t308 => (some (t308 == 8))) else (none))) else (none)) else (none))) else (none)) else (none))))) else (none))) else (none)) else (none)) else (none)) else (none)))) = some r := H
  have A4 := Aside0.mk A40
  clear A40
  replace H := Option.bind_eq_some_iff.mp H
  obtain ⟨⟨t261, t262, t263, t264, t265, t266, t267, t268, t269, t270, t271, t272, t275⟩, A50, H⟩ := H
  replace H : ((barrier_Offer.f k t261 t262 t263 t264 t265 t266 t267 t268 t269 t270 t271 2 false).bind fun bt277 => (if t220 = 0 then (if t233 = 0 then (if t246 = 12 then (if t259 = 0 then ((barrier_Ready.f t248 t249 t250 t251 t252 t253 t254 t255 t256 t257 t258).bind fun t290 => (if t290 = true then ((barrier_Withdraw.f t248 t249 t250 t251 t252 t253 t254 t255 t256 t257 t258 2).bind fun bt291 => ((barrier_Ready.f bt291.1 bt291.2.1 bt291.2.2.1 bt291.2.2.2.1 bt291.2.2.2.2.1 bt291.2.2.2.2.2.1 bt291.2.2.2.2.2.2.1 bt291.2.2.2.2.2.2.2.1 bt291.2.2.2.2.2.2.2.2.1 bt291.2.2.2.2.2.2.2.2.2.1 bt291.2.2.2.2.2.2.2.2.2.2).bind fun t302 => (if t302 = true then (none) else (if t275 = 0 then (if t271 = 1 then ((becketref02_Same.f k t272 (([2] : List Int))).bind fun t306 => (if t306 = true then (if bt277.2.2.2.2.2.2.2.2.2.2.2 = 14 then ((barrier_Fine.f t261 t262 t263 t264 t265 t266 t267 t268 t269 t270 t271).bind fun t307 => (if t307 = true then ((barrier_Check.f false 0).bind fun t308 => (some (t308 == 8))) else (none))) else (none)) else (none))) else (none)) else (none))))) else (none))) else (none)) else (none)) else (none)) else (none))) = some r := H
  have A5 := Aside0.mk A50
  clear A50
  replace H := Option.bind_eq_some_iff.mp H
  obtain ⟨⟨t277, t278, t279, t280, t281, t282, t283, t284, t285, t286, t287, t288⟩, A60, H⟩ := H
  replace H : (if t220 = 0 then (if t233 = 0 then (if t246 = 12 then (if t259 = 0 then ((barrier_Ready.f t248 t249 t250 t251 t252 t253 t254 t255 t256 t257 t258).bind fun t290 => (if t290 = true then ((barrier_Withdraw.f t248 t249 t250 t251 t252 t253 t254 t255 t256 t257 t258 2).bind fun bt291 => ((barrier_Ready.f bt291.1 bt291.2.1 bt291.2.2.1 bt291.2.2.2.1 bt291.2.2.2.2.1 bt291.2.2.2.2.2.1 bt291.2.2.2.2.2.2.1 bt291.2.2.2.2.2.2.2.1 bt291.2.2.2.2.2.2.2.2.1 bt291.2.2.2.2.2.2.2.2.2.1 bt291.2.2.2.2.2.2.2.2.2.2).bind fun t302 => (if t302 = true then (none) else (if t275 = 0 then (if t271 = 1 then ((becketref02_Same.f k t272 (([2] : List Int))).bind fun t306 => (if t306 = true then (if t288 = 14 then ((barrier_Fine.f t261 t262 t263 t264 t265 t266 t267 t268 t269 t270 t271).bind fun t307 => (if t307 = true then ((barrier_Check.f false 0).bind fun t308 => (some (t308 == 8))) else (none))) else (none)) else (none))) else (none)) else (none))))) else (none))) else (none)) else (none)) else (none)) else (none)) = some r := H
  have A6 := Aside0.mk A60
  clear A60
  by_cases c7 : t220 = 0
  · rw [if_pos c7] at H
    have c7b0 : (t220 == 0) = true := beq_iff_eq.mpr c7
    have c7b1 : (t220 != 0) = false := bne_eq_false_iff_eq.mpr c7
    clear c7
    by_cases c8 : t233 = 0
    · rw [if_pos c8] at H
      have c8b0 : (t233 == 0) = true := beq_iff_eq.mpr c8
      have c8b1 : (t233 != 0) = false := bne_eq_false_iff_eq.mpr c8
      clear c8
      by_cases c9 : t246 = 12
      · rw [if_pos c9] at H
        have c9b0 : (t246 == 12) = true := beq_iff_eq.mpr c9
        have c9b1 : (t246 != 12) = false := bne_eq_false_iff_eq.mpr c9
        clear c9
        by_cases c10 : t259 = 0
        · rw [if_pos c10] at H
          have c10b0 : (t259 == 0) = true := beq_iff_eq.mpr c10
          have c10b1 : (t259 != 0) = false := bne_eq_false_iff_eq.mpr c10
          clear c10
          replace H := Option.bind_eq_some_iff.mp H
          obtain ⟨t290, A110, H⟩ := H
          replace H : (if t290 = true then ((barrier_Withdraw.f t248 t249 t250 t251 t252 t253 t254 t255 t256 t257 t258 2).bind fun bt291 => ((barrier_Ready.f bt291.1 bt291.2.1 bt291.2.2.1 bt291.2.2.2.1 bt291.2.2.2.2.1 bt291.2.2.2.2.2.1 bt291.2.2.2.2.2.2.1 bt291.2.2.2.2.2.2.2.1 bt291.2.2.2.2.2.2.2.2.1 bt291.2.2.2.2.2.2.2.2.2.1 bt291.2.2.2.2.2.2.2.2.2.2).bind fun t302 => (if t302 = true then (none) else (if t275 = 0 then (if t271 = 1 then ((becketref02_Same.f k t272 (([2] : List Int))).bind fun t306 => (if t306 = true then (if t288 = 14 then ((barrier_Fine.f t261 t262 t263 t264 t265 t266 t267 t268 t269 t270 t271).bind fun t307 => (if t307 = true then ((barrier_Check.f false 0).bind fun t308 => (some (t308 == 8))) else (none))) else (none)) else (none))) else (none)) else (none))))) else (none)) = some r := H
          have A11 := Aside0.mk A110
          clear A110
          by_cases c12 : t290 = true
          · subst c12
            have H1 : ((barrier_Withdraw.f t248 t249 t250 t251 t252 t253 t254 t255 t256 t257 t258 2).bind fun bt291 => ((barrier_Ready.f bt291.1 bt291.2.1 bt291.2.2.1 bt291.2.2.2.1 bt291.2.2.2.2.1 bt291.2.2.2.2.2.1 bt291.2.2.2.2.2.2.1 bt291.2.2.2.2.2.2.2.1 bt291.2.2.2.2.2.2.2.2.1 bt291.2.2.2.2.2.2.2.2.2.1 bt291.2.2.2.2.2.2.2.2.2.2).bind fun t302 => (if t302 = true then (none) else (if t275 = 0 then (if t271 = 1 then ((becketref02_Same.f k t272 (([2] : List Int))).bind fun t306 => (if t306 = true then (if t288 = 14 then ((barrier_Fine.f t261 t262 t263 t264 t265 t266 t267 t268 t269 t270 t271).bind fun t307 => (if t307 = true then ((barrier_Check.f false 0).bind fun t308 => (some (t308 == 8))) else (none))) else (none)) else (none))) else (none)) else (none))))) = some r := by rw [if_pos rfl] at H; exact H
            clear H
            have H := H1
            clear H1
            replace H := Option.bind_eq_some_iff.mp H
            obtain ⟨⟨t291, t292, t293, t294, t295, t296, t297, t298, t299, t300, t301⟩, A130, H⟩ := H
            replace H : ((barrier_Ready.f t291 t292 t293 t294 t295 t296 t297 t298 t299 t300 t301).bind fun t302 => (if t302 = true then (none) else (if t275 = 0 then (if t271 = 1 then ((becketref02_Same.f k t272 (([2] : List Int))).bind fun t306 => (if t306 = true then (if t288 = 14 then ((barrier_Fine.f t261 t262 t263 t264 t265 t266 t267 t268 t269 t270 t271).bind fun t307 => (if t307 = true then ((barrier_Check.f false 0).bind fun t308 => (some (t308 == 8))) else (none))) else (none)) else (none))) else (none)) else (none)))) = some r := H
            have A13 := Aside0.mk A130
            clear A130
            replace H := Option.bind_eq_some_iff.mp H
            obtain ⟨t302, A140, H⟩ := H
            replace H : (if t302 = true then (none) else (if t275 = 0 then (if t271 = 1 then ((becketref02_Same.f k t272 (([2] : List Int))).bind fun t306 => (if t306 = true then (if t288 = 14 then ((barrier_Fine.f t261 t262 t263 t264 t265 t266 t267 t268 t269 t270 t271).bind fun t307 => (if t307 = true then ((barrier_Check.f false 0).bind fun t308 => (some (t308 == 8))) else (none))) else (none)) else (none))) else (none)) else (none))) = some r := H
            have A14 := Aside0.mk A140
            clear A140
            by_cases c15 : t302 = true
            · subst c15
              have H1 : (none) = some r := by rw [if_pos rfl] at H; exact H
              clear H
              have H := H1
              clear H1
              exact absurd H (by simp)
            · replace c15 := Bool.eq_false_iff.mpr c15
              subst c15
              have H1 : (if t275 = 0 then (if t271 = 1 then ((becketref02_Same.f k t272 (([2] : List Int))).bind fun t306 => (if t306 = true then (if t288 = 14 then ((barrier_Fine.f t261 t262 t263 t264 t265 t266 t267 t268 t269 t270 t271).bind fun t307 => (if t307 = true then ((barrier_Check.f false 0).bind fun t308 => (some (t308 == 8))) else (none))) else (none)) else (none))) else (none)) else (none)) = some r := by rw [if_neg (show ¬ (false = true) by decide)] at H; exact H
              clear H
              have H := H1
              clear H1
              by_cases c16 : t275 = 0
              · rw [if_pos c16] at H
                have c16b0 : (t275 == 0) = true := beq_iff_eq.mpr c16
                have c16b1 : (t275 != 0) = false := bne_eq_false_iff_eq.mpr c16
                clear c16
                by_cases c17 : t271 = 1
                · rw [if_pos c17] at H
                  have c17b0 : (t271 == 1) = true := beq_iff_eq.mpr c17
                  have c17b1 : (t271 != 1) = false := bne_eq_false_iff_eq.mpr c17
                  clear c17
                  obtain ⟨y303, hy303⟩ : ∃ y_ : List Int, y_ = (([2] : List Int)) := ⟨_, rfl⟩
                  replace H : ((becketref02_Same.f k t272 y303).bind fun t306 => (if t306 = true then (if t288 = 14 then ((barrier_Fine.f t261 t262 t263 t264 t265 t266 t267 t268 t269 t270 t271).bind fun t307 => (if t307 = true then ((barrier_Check.f false 0).bind fun t308 => (some (t308 == 8))) else (none))) else (none)) else (none))) = some r := by first | (rw [hy303]; with_reducible exact H) | (have H2_ := (Option.bind_some _ _).symm.trans H; rw [hy303]; with_reducible exact H2_) | (have H2_ := (Option.bind_some _ _).symm.trans H; with_reducible exact H2_) | with_reducible exact H | (rw [hy303]; exact H) | exact H
                  have Ny303 := Aside0.mk hy303
                  clear hy303
                  replace H := Option.bind_eq_some_iff.mp H
                  obtain ⟨t306, A180, H⟩ := H
                  replace H : (if t306 = true then (if t288 = 14 then ((barrier_Fine.f t261 t262 t263 t264 t265 t266 t267 t268 t269 t270 t271).bind fun t307 => (if t307 = true then ((barrier_Check.f false 0).bind fun t308 => (some (t308 == 8))) else (none))) else (none)) else (none)) = some r := H
                  have A18 := Aside0.mk A180
                  clear A180
                  by_cases c19 : t306 = true
                  · subst c19
                    have H1 : (if t288 = 14 then ((barrier_Fine.f t261 t262 t263 t264 t265 t266 t267 t268 t269 t270 t271).bind fun t307 => (if t307 = true then ((barrier_Check.f false 0).bind fun t308 => (some (t308 == 8))) else (none))) else (none)) = some r := by rw [if_pos rfl] at H; exact H
                    clear H
                    have H := H1
                    clear H1
                    by_cases c20 : t288 = 14
                    · rw [if_pos c20] at H
                      have c20b0 : (t288 == 14) = true := beq_iff_eq.mpr c20
                      have c20b1 : (t288 != 14) = false := bne_eq_false_iff_eq.mpr c20
                      clear c20
                      replace H := Option.bind_eq_some_iff.mp H
                      obtain ⟨t307, A210, H⟩ := H
                      replace H : (if t307 = true then ((barrier_Check.f false 0).bind fun t308 => (some (t308 == 8))) else (none)) = some r := H
                      have A21 := Aside0.mk A210
                      clear A210
                      by_cases c22 : t307 = true
                      · subst c22
                        have H1 : ((barrier_Check.f false 0).bind fun t308 => (some (t308 == 8))) = some r := by rw [if_pos rfl] at H; exact H
                        clear H
                        have H := H1
                        clear H1
                        replace H := Option.bind_eq_some_iff.mp H
                        obtain ⟨t308, A230, H⟩ := H
                        replace H : (some (t308 == 8)) = some r := H
                        have A23 := Aside0.mk A230
                        clear A230
                        obtain rfl := Option.some.inj H
                        go_enter Tryd.func21, Tryd.ntmps21
                        go_wp2_with (first | ((with_reducible refine gate_callee (f := 31) rfl ?_); refine goesL_ (some 16) rfl rfl Tryd.func31 (by kernel_rfl) rfl #[.agg #[.bool false, .int .i64 1]] rfl (by (try simp only [List.map_toArray, List.map_cons, List.map_nil]); first | done | rfl | (simp only [List.length_drop, List.length_take]; rfl)) ?_; (with_reducible refine (barrier_New.calls false 1 t209 t210 t211 t212 t213 t214 t215 t216 t217 t218 t219 t220 _ A1.out).mono ?_); rintro e w24 ⟨rfl, hb⟩; refine ⟨_, rfl, ?_⟩; replace HB := Aside0.mk (below_step (by exact HB.out) hb); (try clear hb); (try clear hb2); (try clear hk); (try clear hi)) | ((with_reducible refine gate_dst (N := 1) rfl ?_); (try (refine gate_guard (by rfl) ?_; dsimp only)); refine box_event ?hg (N := 1) ?hd (cs := #[.bool false, .int .i64 0, .int .u64 0, .int .u64 0, .int .u64 0, .int .u64 0, .int .u64 0, .int .u64 0, .int .u64 0, .int .u64 0, .int .i64 0]) (t := 51) ?hr ?_; (case hd => rfl); (case hg => rfl); (case hr => first | (go_simp; done) | (go_simp; rfl)); intro gb221 hg w25 hbox hb; have BK221 := Aside0.mk (hbox); have GW221 := Aside0.mk ((by rw [hg]; exact (below_size (by exact HB.out)) : w.heap.size ≤ gb221)); have GE221 := Aside0.mk ((by rw [hg]; exact (below_size (by exact HB.out)) : w.heap.size ≤ gb221)); replace HB := Aside0.mk (below_step (by exact HB.out) hb); clear hb hbox hg; have hcz26_0 : w25.cell? ⟨gb221, 0, none⟩ = some (.bool false) := (blk_cell BK221.out 0).trans rfl; have hcz26_1 : w25.cell? ⟨gb221, 1, none⟩ = some (.int .i64 0) := (blk_cell BK221.out 1).trans rfl; have hcz26_2 : w25.cell? ⟨gb221, 2, none⟩ = some (.int .u64 0) := (blk_cell BK221.out 2).trans rfl; have hcz26_3 : w25.cell? ⟨gb221, 3, none⟩ = some (.int .u64 0) := (blk_cell BK221.out 3).trans rfl; have hcz26_4 : w25.cell? ⟨gb221, 4, none⟩ = some (.int .u64 0) := (blk_cell BK221.out 4).trans rfl; have hcz26_5 : w25.cell? ⟨gb221, 5, none⟩ = some (.int .u64 0) := (blk_cell BK221.out 5).trans rfl; have hcz26_6 : w25.cell? ⟨gb221, 6, none⟩ = some (.int .u64 0) := (blk_cell BK221.out 6).trans rfl; have hcz26_7 : w25.cell? ⟨gb221, 7, none⟩ = some (.int .u64 0) := (blk_cell BK221.out 7).trans rfl; have hcz26_8 : w25.cell? ⟨gb221, 8, none⟩ = some (.int .u64 0) := (blk_cell BK221.out 8).trans rfl; have hcz26_9 : w25.cell? ⟨gb221, 9, none⟩ = some (.int .u64 0) := (blk_cell BK221.out 9).trans rfl; have hcz26_10 : w25.cell? ⟨gb221, 10, none⟩ = some (.int .i64 0) := (blk_cell BK221.out 10).trans rfl; have hfz26_0 := blk_frozen BK221.out 0; have hfz26_1 := blk_frozen BK221.out 1; have hfz26_2 := blk_frozen BK221.out 2; have hfz26_3 := blk_frozen BK221.out 3; have hfz26_4 := blk_frozen BK221.out 4; have hfz26_5 := blk_frozen BK221.out 5; have hfz26_6 := blk_frozen BK221.out 6; have hfz26_7 := blk_frozen BK221.out 7; have hfz26_8 := blk_frozen BK221.out 8; have hfz26_9 := blk_frozen BK221.out 9; have hfz26_10 := blk_frozen BK221.out 10) | ((with_reducible refine gate_callee (f := 33) rfl ?_); refine goesL_ (some 21) rfl rfl Tryd.func33 (by kernel_rfl) rfl #[.agg #[.bool t209, .int .i64 t210, .int .u64 t211, .int .u64 t212, .int .u64 t213, .int .u64 t214, .int .u64 t215, .int .u64 t216, .int .u64 t217, .int .u64 t218, .int .i64 t219], .int .i64 2] rfl (by (try simp only [List.map_toArray, List.map_cons, List.map_nil]); first | done | rfl | (simp only [List.length_drop, List.length_take]; rfl)) ?_; (with_reducible refine (barrier_Enrol.calls t209 t210 t211 t212 t213 t214 t215 t216 t217 t218 t219 2 t222 t223 t224 t225 t226 t227 t228 t229 t230 t231 t232 t233 _ ?side1 A2.out).mono ?_); (case side1 => exact Go.Proofs.YtdaionnpgcdkdaaDoor.GLW.below hG (by repeat (first | (with_reducible first | exact HB.out | apply below_alloc | apply pw_below_drewN | apply below_drew1 | refine below_set ?_ GE221.out) | exact HB.out))); rintro e w27 ⟨rfl, hb⟩; refine ⟨_, rfl, ?_⟩; replace BK221 := Aside0.mk (blk_below (g := gb221) (o := .cells #[.bool t209, .int .i64 t210, .int .u64 t211, .int .u64 t212, .int .u64 t213, .int .u64 t214, .int .u64 t215, .int .u64 t216, .int .u64 t217, .int .u64 t218, .int .i64 t219] 51 (0, 0)) (by apply pt51_0_11; exact BK221.out) hb); replace HB := Aside0.mk (below_step (by repeat (first | (with_reducible first | exact HB.out | apply below_alloc | apply pw_below_drewN | apply below_drew1 | refine below_set ?_ GE221.out) | exact HB.out)) hb); (try clear hb); (try clear hb2); (try clear hk); (try clear hi)) | ((with_reducible refine gate_dst (N := 3) rfl ?_); (try (refine gate_guard (by rfl) ?_; dsimp only)); refine box_event ?hg (N := 3) ?hd (cs := #[.bool false, .int .i64 0, .int .u64 0, .int .u64 0, .int .u64 0, .int .u64 0, .int .u64 0, .int .u64 0, .int .u64 0, .int .u64 0, .int .i64 0]) (t := 51) ?hr ?_; (case hd => rfl); (case hg => rfl); (case hr => first | (go_simp; done) | (go_simp; rfl)); intro gb234 hg w28 hbox hb; have BK234 := Aside0.mk (hbox); have GW234 := Aside0.mk ((by rw [hg]; exact (below_size (by exact HB.out)) : w.heap.size ≤ gb234)); have GE234 := Aside0.mk ((by rw [hg]; exact (below_size (by exact HB.out)) : w.heap.size ≤ gb234)); replace HB := Aside0.mk (below_step (by exact HB.out) hb); have NB221_234 := Aside0.mk ((by rw [hg]; exact Nat.ne_of_lt (blk_lt BK221.out) : gb221 ≠ gb234)); have NB234_221 := Aside0.mk ((by rw [hg]; exact Nat.ne_of_gt (blk_lt BK221.out) : gb234 ≠ gb221)); replace BK221 := Aside0.mk (blk_below BK221.out hb); clear hb hbox hg; have hnb29 := NB234_221.out; have hnc29 := NB221_234.out; have hcz30_0 : w28.cell? ⟨gb234, 0, none⟩ = some (.bool false) := (blk_cell BK234.out 0).trans rfl; have hcz30_1 : w28.cell? ⟨gb234, 1, none⟩ = some (.int .i64 0) := (blk_cell BK234.out 1).trans rfl; have hcz30_2 : w28.cell? ⟨gb234, 2, none⟩ = some (.int .u64 0) := (blk_cell BK234.out 2).trans rfl; have hcz30_3 : w28.cell? ⟨gb234, 3, none⟩ = some (.int .u64 0) := (blk_cell BK234.out 3).trans rfl; have hcz30_4 : w28.cell? ⟨gb234, 4, none⟩ = some (.int .u64 0) := (blk_cell BK234.out 4).trans rfl; have hcz30_5 : w28.cell? ⟨gb234, 5, none⟩ = some (.int .u64 0) := (blk_cell BK234.out 5).trans rfl; have hcz30_6 : w28.cell? ⟨gb234, 6, none⟩ = some (.int .u64 0) := (blk_cell BK234.out 6).trans rfl; have hcz30_7 : w28.cell? ⟨gb234, 7, none⟩ = some (.int .u64 0) := (blk_cell BK234.out 7).trans rfl; have hcz30_8 : w28.cell? ⟨gb234, 8, none⟩ = some (.int .u64 0) := (blk_cell BK234.out 8).trans rfl; have hcz30_9 : w28.cell? ⟨gb234, 9, none⟩ = some (.int .u64 0) := (blk_cell BK234.out 9).trans rfl; have hcz30_10 : w28.cell? ⟨gb234, 10, none⟩ = some (.int .i64 0) := (blk_cell BK234.out 10).trans rfl; have hfz30_0 := blk_frozen BK234.out 0; have hfz30_1 := blk_frozen BK234.out 1; have hfz30_2 := blk_frozen BK234.out 2; have hfz30_3 := blk_frozen BK234.out 3; have hfz30_4 := blk_frozen BK234.out 4; have hfz30_5 := blk_frozen BK234.out 5; have hfz30_6 := blk_frozen BK234.out 6; have hfz30_7 := blk_frozen BK234.out 7; have hfz30_8 := blk_frozen BK234.out 8; have hfz30_9 := blk_frozen BK234.out 9; have hfz30_10 := blk_frozen BK234.out 10) | ((with_reducible refine gate_callee (f := 37) rfl ?_); refine goesL_ (some 26) rfl rfl Tryd.func37 (by kernel_rfl) rfl #[.agg #[.bool t222, .int .i64 t223, .int .u64 t224, .int .u64 t225, .int .u64 t226, .int .u64 t227, .int .u64 t228, .int .u64 t229, .int .u64 t230, .int .u64 t231, .int .i64 t232], .int .i64 2, .bool true] rfl (by (try simp only [List.map_toArray, List.map_cons, List.map_nil]); first | done | rfl | (simp only [List.length_drop, List.length_take]; rfl)) ?_; (with_reducible refine (barrier_Offer.calls k t222 t223 t224 t225 t226 t227 t228 t229 t230 t231 t232 2 true t235 t236 t237 t238 t239 t240 t241 t242 t243 t244 t245 t246 _ ?side1 A3.out).mono ?_); (case side1 => exact Go.Proofs.YtdaionnpgcdkdaaDoor.GLW.below hG (by repeat (first | (with_reducible first | exact HB.out | apply below_alloc | apply pw_below_drewN | apply below_drew1 | refine below_set ?_ GE221.out | refine below_set ?_ GE234.out) | exact HB.out))); rintro e w31 ⟨rfl, hb⟩; refine ⟨_, rfl, ?_⟩; replace BK221 := Aside0.mk (blk_below (g := gb221) (o := .cells #[.bool t209, .int .i64 t210, .int .u64 t211, .int .u64 t212, .int .u64 t213, .int .u64 t214, .int .u64 t215, .int .u64 t216, .int .u64 t217, .int .u64 t218, .int .i64 t219] 51 (0, 0)) (by (iterate 11 refine blk_far ?_ NB221_234.out _); exact BK221.out) hb); replace BK234 := Aside0.mk (blk_below (g := gb234) (o := .cells #[.bool t222, .int .i64 t223, .int .u64 t224, .int .u64 t225, .int .u64 t226, .int .u64 t227, .int .u64 t228, .int .u64 t229, .int .u64 t230, .int .u64 t231, .int .i64 t232] 51 (0, 0)) (by apply pt51_0_11; exact BK234.out) hb); replace HB := Aside0.mk (below_step (by repeat (first | (with_reducible first | exact HB.out | apply below_alloc | apply pw_below_drewN | apply below_drew1 | refine below_set ?_ GE221.out | refine below_set ?_ GE234.out) | exact HB.out)) hb); (try clear hb); (try clear hb2); (try clear hk); (try clear hi)) | ((with_reducible refine gate_dst (N := 5) rfl ?_); (try (refine gate_guard (by rfl) ?_; dsimp only)); refine box_event ?hg (N := 5) ?hd (cs := #[.bool false, .int .i64 0, .int .u64 0, .int .u64 0, .int .u64 0, .int .u64 0, .int .u64 0, .int .u64 0, .int .u64 0, .int .u64 0, .int .i64 0]) (t := 51) ?hr ?_; (case hd => rfl); (case hg => rfl); (case hr => first | (go_simp; done) | (go_simp; rfl)); intro gb247 hg w32 hbox hb; have BK247 := Aside0.mk (hbox); have GW247 := Aside0.mk ((by rw [hg]; exact (below_size (by exact HB.out)) : w.heap.size ≤ gb247)); have GE247 := Aside0.mk ((by rw [hg]; exact (below_size (by exact HB.out)) : w.heap.size ≤ gb247)); replace HB := Aside0.mk (below_step (by exact HB.out) hb); have NB221_247 := Aside0.mk ((by rw [hg]; exact Nat.ne_of_lt (blk_lt BK221.out) : gb221 ≠ gb247)); have NB247_221 := Aside0.mk ((by rw [hg]; exact Nat.ne_of_gt (blk_lt BK221.out) : gb247 ≠ gb221)); replace BK221 := Aside0.mk (blk_below BK221.out hb); have NB234_247 := Aside0.mk ((by rw [hg]; exact Nat.ne_of_lt (blk_lt BK234.out) : gb234 ≠ gb247)); have NB247_234 := Aside0.mk ((by rw [hg]; exact Nat.ne_of_gt (blk_lt BK234.out) : gb247 ≠ gb234)); replace BK234 := Aside0.mk (blk_below BK234.out hb); clear hb hbox hg; have hnb33 := NB247_221.out; have hnc33 := NB221_247.out; have hnb34 := NB247_234.out; have hnc34 := NB234_247.out; have hcz35_0 : w32.cell? ⟨gb247, 0, none⟩ = some (.bool false) := (blk_cell BK247.out 0).trans rfl; have hcz35_1 : w32.cell? ⟨gb247, 1, none⟩ = some (.int .i64 0) := (blk_cell BK247.out 1).trans rfl; have hcz35_2 : w32.cell? ⟨gb247, 2, none⟩ = some (.int .u64 0) := (blk_cell BK247.out 2).trans rfl; have hcz35_3 : w32.cell? ⟨gb247, 3, none⟩ = some (.int .u64 0) := (blk_cell BK247.out 3).trans rfl; have hcz35_4 : w32.cell? ⟨gb247, 4, none⟩ = some (.int .u64 0) := (blk_cell BK247.out 4).trans rfl; have hcz35_5 : w32.cell? ⟨gb247, 5, none⟩ = some (.int .u64 0) := (blk_cell BK247.out 5).trans rfl; have hcz35_6 : w32.cell? ⟨gb247, 6, none⟩ = some (.int .u64 0) := (blk_cell BK247.out 6).trans rfl; have hcz35_7 : w32.cell? ⟨gb247, 7, none⟩ = some (.int .u64 0) := (blk_cell BK247.out 7).trans rfl; have hcz35_8 : w32.cell? ⟨gb247, 8, none⟩ = some (.int .u64 0) := (blk_cell BK247.out 8).trans rfl; have hcz35_9 : w32.cell? ⟨gb247, 9, none⟩ = some (.int .u64 0) := (blk_cell BK247.out 9).trans rfl; have hcz35_10 : w32.cell? ⟨gb247, 10, none⟩ = some (.int .i64 0) := (blk_cell BK247.out 10).trans rfl; have hfz35_0 := blk_frozen BK247.out 0; have hfz35_1 := blk_frozen BK247.out 1; have hfz35_2 := blk_frozen BK247.out 2; have hfz35_3 := blk_frozen BK247.out 3; have hfz35_4 := blk_frozen BK247.out 4; have hfz35_5 := blk_frozen BK247.out 5; have hfz35_6 := blk_frozen BK247.out 6; have hfz35_7 := blk_frozen BK247.out 7; have hfz35_8 := blk_frozen BK247.out 8; have hfz35_9 := blk_frozen BK247.out 9; have hfz35_10 := blk_frozen BK247.out 10; have hcz36_0 : w32.cell? ⟨gb234, 0, none⟩ = some (.bool t222) := (blk_cell BK234.out 0).trans rfl; have hcz36_1 : w32.cell? ⟨gb234, 1, none⟩ = some (.int .i64 t223) := (blk_cell BK234.out 1).trans rfl; have hcz36_2 : w32.cell? ⟨gb234, 2, none⟩ = some (.int .u64 t224) := (blk_cell BK234.out 2).trans rfl; have hcz36_3 : w32.cell? ⟨gb234, 3, none⟩ = some (.int .u64 t225) := (blk_cell BK234.out 3).trans rfl; have hcz36_4 : w32.cell? ⟨gb234, 4, none⟩ = some (.int .u64 t226) := (blk_cell BK234.out 4).trans rfl; have hcz36_5 : w32.cell? ⟨gb234, 5, none⟩ = some (.int .u64 t227) := (blk_cell BK234.out 5).trans rfl; have hcz36_6 : w32.cell? ⟨gb234, 6, none⟩ = some (.int .u64 t228) := (blk_cell BK234.out 6).trans rfl; have hcz36_7 : w32.cell? ⟨gb234, 7, none⟩ = some (.int .u64 t229) := (blk_cell BK234.out 7).trans rfl; have hcz36_8 : w32.cell? ⟨gb234, 8, none⟩ = some (.int .u64 t230) := (blk_cell BK234.out 8).trans rfl; have hcz36_9 : w32.cell? ⟨gb234, 9, none⟩ = some (.int .u64 t231) := (blk_cell BK234.out 9).trans rfl; have hcz36_10 : w32.cell? ⟨gb234, 10, none⟩ = some (.int .i64 t232) := (blk_cell BK234.out 10).trans rfl; have hfz36_0 := blk_frozen BK234.out 0; have hfz36_1 := blk_frozen BK234.out 1; have hfz36_2 := blk_frozen BK234.out 2; have hfz36_3 := blk_frozen BK234.out 3; have hfz36_4 := blk_frozen BK234.out 4; have hfz36_5 := blk_frozen BK234.out 5; have hfz36_6 := blk_frozen BK234.out 6; have hfz36_7 := blk_frozen BK234.out 7; have hfz36_8 := blk_frozen BK234.out 8; have hfz36_9 := blk_frozen BK234.out 9; have hfz36_10 := blk_frozen BK234.out 10) | ((with_reducible refine gate_callee (f := 37) rfl ?_); refine goesL_ (some 31) rfl rfl Tryd.func37 (by kernel_rfl) rfl #[.agg #[.bool t222, .int .i64 t223, .int .u64 t224, .int .u64 t225, .int .u64 t226, .int .u64 t227, .int .u64 t228, .int .u64 t229, .int .u64 t230, .int .u64 t231, .int .i64 t232], .int .i64 2, .bool false] rfl (by (try simp only [List.map_toArray, List.map_cons, List.map_nil]); first | done | rfl | (simp only [List.length_drop, List.length_take]; rfl)) ?_; (with_reducible refine (barrier_Offer.calls k t222 t223 t224 t225 t226 t227 t228 t229 t230 t231 t232 2 false t248 t249 t250 t251 t252 t253 t254 t255 t256 t257 t258 t259 _ ?side1 A4.out).mono ?_); (case side1 => exact Go.Proofs.YtdaionnpgcdkdaaDoor.GLW.below hG (by repeat (first | (with_reducible first | exact HB.out | apply below_alloc | apply pw_below_drewN | apply below_drew1 | refine below_set ?_ GE221.out | refine below_set ?_ GE234.out | refine below_set ?_ GE247.out) | exact HB.out))); rintro e w37 ⟨rfl, hb⟩; refine ⟨_, rfl, ?_⟩; replace BK221 := Aside0.mk (blk_below (g := gb221) (o := .cells #[.bool t209, .int .i64 t210, .int .u64 t211, .int .u64 t212, .int .u64 t213, .int .u64 t214, .int .u64 t215, .int .u64 t216, .int .u64 t217, .int .u64 t218, .int .i64 t219] 51 (0, 0)) (by (iterate 11 refine blk_far ?_ NB221_247.out _); exact BK221.out) hb); replace BK234 := Aside0.mk (blk_below (g := gb234) (o := .cells #[.bool t222, .int .i64 t223, .int .u64 t224, .int .u64 t225, .int .u64 t226, .int .u64 t227, .int .u64 t228, .int .u64 t229, .int .u64 t230, .int .u64 t231, .int .i64 t232] 51 (0, 0)) (by (iterate 11 refine blk_far ?_ NB234_247.out _); exact BK234.out) hb); replace BK247 := Aside0.mk (blk_below (g := gb247) (o := .cells #[.bool t235, .int .i64 t236, .int .u64 t237, .int .u64 t238, .int .u64 t239, .int .u64 t240, .int .u64 t241, .int .u64 t242, .int .u64 t243, .int .u64 t244, .int .i64 t245] 51 (0, 0)) (by apply pt51_0_11; exact BK247.out) hb); replace HB := Aside0.mk (below_step (by repeat (first | (with_reducible first | exact HB.out | apply below_alloc | apply pw_below_drewN | apply below_drew1 | refine below_set ?_ GE221.out | refine below_set ?_ GE234.out | refine below_set ?_ GE247.out) | exact HB.out)) hb); (try clear hb); (try clear hb2); (try clear hk); (try clear hi)) | ((with_reducible refine gate_dst (N := 7) rfl ?_); (try (refine gate_guard (by rfl) ?_; dsimp only)); refine box_event ?hg (N := 7) ?hd (cs := #[.bool false, .int .i64 0, .int .u64 0, .int .u64 0, .int .u64 0, .int .u64 0, .int .u64 0, .int .u64 0, .int .u64 0, .int .u64 0, .int .i64 0]) (t := 51) ?hr ?_; (case hd => rfl); (case hg => rfl); (case hr => first | (go_simp; done) | (go_simp; rfl)); intro gb260 hg w38 hbox hb; have BK260 := Aside0.mk (hbox); have GW260 := Aside0.mk ((by rw [hg]; exact (below_size (by exact HB.out)) : w.heap.size ≤ gb260)); have GE260 := Aside0.mk ((by rw [hg]; exact (below_size (by exact HB.out)) : w.heap.size ≤ gb260)); replace HB := Aside0.mk (below_step (by exact HB.out) hb); have NB221_260 := Aside0.mk ((by rw [hg]; exact Nat.ne_of_lt (blk_lt BK221.out) : gb221 ≠ gb260)); have NB260_221 := Aside0.mk ((by rw [hg]; exact Nat.ne_of_gt (blk_lt BK221.out) : gb260 ≠ gb221)); replace BK221 := Aside0.mk (blk_below BK221.out hb); have NB234_260 := Aside0.mk ((by rw [hg]; exact Nat.ne_of_lt (blk_lt BK234.out) : gb234 ≠ gb260)); have NB260_234 := Aside0.mk ((by rw [hg]; exact Nat.ne_of_gt (blk_lt BK234.out) : gb260 ≠ gb234)); replace BK234 := Aside0.mk (blk_below BK234.out hb); have NB247_260 := Aside0.mk ((by rw [hg]; exact Nat.ne_of_lt (blk_lt BK247.out) : gb247 ≠ gb260)); have NB260_247 := Aside0.mk ((by rw [hg]; exact Nat.ne_of_gt (blk_lt BK247.out) : gb260 ≠ gb247)); replace BK247 := Aside0.mk (blk_below BK247.out hb); clear hb hbox hg; have hnb39 := NB260_221.out; have hnc39 := NB221_260.out; have hnb40 := NB260_234.out; have hnc40 := NB234_260.out; have hnb41 := NB260_247.out; have hnc41 := NB247_260.out; have hcz42_0 : w38.cell? ⟨gb260, 0, none⟩ = some (.bool false) := (blk_cell BK260.out 0).trans rfl; have hcz42_1 : w38.cell? ⟨gb260, 1, none⟩ = some (.int .i64 0) := (blk_cell BK260.out 1).trans rfl; have hcz42_2 : w38.cell? ⟨gb260, 2, none⟩ = some (.int .u64 0) := (blk_cell BK260.out 2).trans rfl; have hcz42_3 : w38.cell? ⟨gb260, 3, none⟩ = some (.int .u64 0) := (blk_cell BK260.out 3).trans rfl; have hcz42_4 : w38.cell? ⟨gb260, 4, none⟩ = some (.int .u64 0) := (blk_cell BK260.out 4).trans rfl; have hcz42_5 : w38.cell? ⟨gb260, 5, none⟩ = some (.int .u64 0) := (blk_cell BK260.out 5).trans rfl; have hcz42_6 : w38.cell? ⟨gb260, 6, none⟩ = some (.int .u64 0) := (blk_cell BK260.out 6).trans rfl; have hcz42_7 : w38.cell? ⟨gb260, 7, none⟩ = some (.int .u64 0) := (blk_cell BK260.out 7).trans rfl; have hcz42_8 : w38.cell? ⟨gb260, 8, none⟩ = some (.int .u64 0) := (blk_cell BK260.out 8).trans rfl; have hcz42_9 : w38.cell? ⟨gb260, 9, none⟩ = some (.int .u64 0) := (blk_cell BK260.out 9).trans rfl; have hcz42_10 : w38.cell? ⟨gb260, 10, none⟩ = some (.int .i64 0) := (blk_cell BK260.out 10).trans rfl; have hfz42_0 := blk_frozen BK260.out 0; have hfz42_1 := blk_frozen BK260.out 1; have hfz42_2 := blk_frozen BK260.out 2; have hfz42_3 := blk_frozen BK260.out 3; have hfz42_4 := blk_frozen BK260.out 4; have hfz42_5 := blk_frozen BK260.out 5; have hfz42_6 := blk_frozen BK260.out 6; have hfz42_7 := blk_frozen BK260.out 7; have hfz42_8 := blk_frozen BK260.out 8; have hfz42_9 := blk_frozen BK260.out 9; have hfz42_10 := blk_frozen BK260.out 10) | ((with_reducible refine gate_callee (f := 24) rfl ?_); refine goesL_ (some 36) rfl rfl Tryd.func24 (by kernel_rfl) rfl #[.agg #[.bool t248, .int .i64 t249, .int .u64 t250, .int .u64 t251, .int .u64 t252, .int .u64 t253, .int .u64 t254, .int .u64 t255, .int .u64 t256, .int .u64 t257, .int .i64 t258]] rfl (by (try simp only [List.map_toArray, List.map_cons, List.map_nil]); first | done | rfl | (simp only [List.length_drop, List.length_take]; rfl)) ?_; (with_reducible refine (barrier_Fire.calls t248 t249 t250 t251 t252 t253 t254 t255 t256 t257 t258 t261 t262 t263 t264 t265 t266 t267 t268 t269 t270 t271 t272 t275 _ ?side1 A5.out).mono ?_); (case side1 => exact Go.Proofs.YtdaionnpgcdkdaaDoor.GLW.below hG (by repeat (first | (with_reducible first | exact HB.out | apply below_alloc | apply pw_below_drewN | apply below_drew1 | refine below_set ?_ GE221.out | refine below_set ?_ GE234.out | refine below_set ?_ GE247.out | refine below_set ?_ GE260.out) | exact HB.out))); rintro e w43 ⟨v273, rfl, ho0, hb⟩; refine ⟨_, rfl, ?_⟩; have HO274 := Aside0.mk (Kd.R_lower ho0 (below_size (by repeat (first | (with_reducible first | exact HB.out | apply below_alloc | apply pw_below_drewN | apply below_drew1 | refine below_set ?_ GE221.out | refine below_set ?_ GE234.out | refine below_set ?_ GE247.out | refine below_set ?_ GE260.out) | exact HB.out)))); replace BK221 := Aside0.mk (blk_below (g := gb221) (o := .cells #[.bool t209, .int .i64 t210, .int .u64 t211, .int .u64 t212, .int .u64 t213, .int .u64 t214, .int .u64 t215, .int .u64 t216, .int .u64 t217, .int .u64 t218, .int .i64 t219] 51 (0, 0)) (by (iterate 11 refine blk_far ?_ NB221_260.out _); exact BK221.out) hb); replace BK234 := Aside0.mk (blk_below (g := gb234) (o := .cells #[.bool t222, .int .i64 t223, .int .u64 t224, .int .u64 t225, .int .u64 t226, .int .u64 t227, .int .u64 t228, .int .u64 t229, .int .u64 t230, .int .u64 t231, .int .i64 t232] 51 (0, 0)) (by (iterate 11 refine blk_far ?_ NB234_260.out _); exact BK234.out) hb); replace BK247 := Aside0.mk (blk_below (g := gb247) (o := .cells #[.bool t235, .int .i64 t236, .int .u64 t237, .int .u64 t238, .int .u64 t239, .int .u64 t240, .int .u64 t241, .int .u64 t242, .int .u64 t243, .int .u64 t244, .int .i64 t245] 51 (0, 0)) (by (iterate 11 refine blk_far ?_ NB247_260.out _); exact BK247.out) hb); replace BK260 := Aside0.mk (blk_below (g := gb260) (o := .cells #[.bool t248, .int .i64 t249, .int .u64 t250, .int .u64 t251, .int .u64 t252, .int .u64 t253, .int .u64 t254, .int .u64 t255, .int .u64 t256, .int .u64 t257, .int .i64 t258] 51 (0, 0)) (by apply pt51_0_11; exact BK260.out) hb); replace HB := Aside0.mk (below_step (by repeat (first | (with_reducible first | exact HB.out | apply below_alloc | apply pw_below_drewN | apply below_drew1 | refine below_set ?_ GE221.out | refine below_set ?_ GE234.out | refine below_set ?_ GE247.out | refine below_set ?_ GE260.out) | exact HB.out)) hb); (try clear hb); (try clear hb2); (try clear hk); (try clear hi); (try clear ho0)) | ((with_reducible refine gate_dst (N := 9) rfl ?_); (try (refine gate_guard (by rfl) ?_; dsimp only)); refine box_event ?hg (N := 9) ?hd (cs := #[.bool false, .int .i64 0, .int .u64 0, .int .u64 0, .int .u64 0, .int .u64 0, .int .u64 0, .int .u64 0, .int .u64 0, .int .u64 0, .int .i64 0]) (t := 51) ?hr ?_; (case hd => rfl); (case hg => rfl); (case hr => first | (go_simp; done) | (go_simp; rfl)); intro gb276 hg w44 hbox hb; replace HO274 := Aside0.mk (Kd.R_below (by exact HO274.out) hb); have BK276 := Aside0.mk (hbox); have GW276 := Aside0.mk ((by rw [hg]; exact (below_size (by exact HB.out)) : w.heap.size ≤ gb276)); have GE276 := Aside0.mk ((by rw [hg]; exact (below_size (by exact HB.out)) : w.heap.size ≤ gb276)); replace HB := Aside0.mk (below_step (by exact HB.out) hb); have NB221_276 := Aside0.mk ((by rw [hg]; exact Nat.ne_of_lt (blk_lt BK221.out) : gb221 ≠ gb276)); have NB276_221 := Aside0.mk ((by rw [hg]; exact Nat.ne_of_gt (blk_lt BK221.out) : gb276 ≠ gb221)); replace BK221 := Aside0.mk (blk_below BK221.out hb); have NB234_276 := Aside0.mk ((by rw [hg]; exact Nat.ne_of_lt (blk_lt BK234.out) : gb234 ≠ gb276)); have NB276_234 := Aside0.mk ((by rw [hg]; exact Nat.ne_of_gt (blk_lt BK234.out) : gb276 ≠ gb234)); replace BK234 := Aside0.mk (blk_below BK234.out hb); have NB247_276 := Aside0.mk ((by rw [hg]; exact Nat.ne_of_lt (blk_lt BK247.out) : gb247 ≠ gb276)); have NB276_247 := Aside0.mk ((by rw [hg]; exact Nat.ne_of_gt (blk_lt BK247.out) : gb276 ≠ gb247)); replace BK247 := Aside0.mk (blk_below BK247.out hb); have NB260_276 := Aside0.mk ((by rw [hg]; exact Nat.ne_of_lt (blk_lt BK260.out) : gb260 ≠ gb276)); have NB276_260 := Aside0.mk ((by rw [hg]; exact Nat.ne_of_gt (blk_lt BK260.out) : gb276 ≠ gb260)); replace BK260 := Aside0.mk (blk_below BK260.out hb); clear hb hbox hg; have hnb45 := NB276_221.out; have hnc45 := NB221_276.out; have hnb46 := NB276_234.out; have hnc46 := NB234_276.out; have hnb47 := NB276_247.out; have hnc47 := NB247_276.out; have hnb48 := NB276_260.out; have hnc48 := NB260_276.out; have hcz49_0 : w44.cell? ⟨gb276, 0, none⟩ = some (.bool false) := (blk_cell BK276.out 0).trans rfl; have hcz49_1 : w44.cell? ⟨gb276, 1, none⟩ = some (.int .i64 0) := (blk_cell BK276.out 1).trans rfl; have hcz49_2 : w44.cell? ⟨gb276, 2, none⟩ = some (.int .u64 0) := (blk_cell BK276.out 2).trans rfl; have hcz49_3 : w44.cell? ⟨gb276, 3, none⟩ = some (.int .u64 0) := (blk_cell BK276.out 3).trans rfl; have hcz49_4 : w44.cell? ⟨gb276, 4, none⟩ = some (.int .u64 0) := (blk_cell BK276.out 4).trans rfl; have hcz49_5 : w44.cell? ⟨gb276, 5, none⟩ = some (.int .u64 0) := (blk_cell BK276.out 5).trans rfl; have hcz49_6 : w44.cell? ⟨gb276, 6, none⟩ = some (.int .u64 0) := (blk_cell BK276.out 6).trans rfl; have hcz49_7 : w44.cell? ⟨gb276, 7, none⟩ = some (.int .u64 0) := (blk_cell BK276.out 7).trans rfl; have hcz49_8 : w44.cell? ⟨gb276, 8, none⟩ = some (.int .u64 0) := (blk_cell BK276.out 8).trans rfl; have hcz49_9 : w44.cell? ⟨gb276, 9, none⟩ = some (.int .u64 0) := (blk_cell BK276.out 9).trans rfl; have hcz49_10 : w44.cell? ⟨gb276, 10, none⟩ = some (.int .i64 0) := (blk_cell BK276.out 10).trans rfl; have hfz49_0 := blk_frozen BK276.out 0; have hfz49_1 := blk_frozen BK276.out 1; have hfz49_2 := blk_frozen BK276.out 2; have hfz49_3 := blk_frozen BK276.out 3; have hfz49_4 := blk_frozen BK276.out 4; have hfz49_5 := blk_frozen BK276.out 5; have hfz49_6 := blk_frozen BK276.out 6; have hfz49_7 := blk_frozen BK276.out 7; have hfz49_8 := blk_frozen BK276.out 8; have hfz49_9 := blk_frozen BK276.out 9; have hfz49_10 := blk_frozen BK276.out 10) | ((with_reducible refine gate_callee (f := 37) rfl ?_); refine goesL_ (some 42) rfl rfl Tryd.func37 (by kernel_rfl) rfl #[.agg #[.bool t261, .int .i64 t262, .int .u64 t263, .int .u64 t264, .int .u64 t265, .int .u64 t266, .int .u64 t267, .int .u64 t268, .int .u64 t269, .int .u64 t270, .int .i64 t271], .int .i64 2, .bool false] rfl (by (try simp only [List.map_toArray, List.map_cons, List.map_nil]); first | done | rfl | (simp only [List.length_drop, List.length_take]; rfl)) ?_; (with_reducible refine (barrier_Offer.calls k t261 t262 t263 t264 t265 t266 t267 t268 t269 t270 t271 2 false t277 t278 t279 t280 t281 t282 t283 t284 t285 t286 t287 t288 _ ?side1 A6.out).mono ?_); (case side1 => exact Go.Proofs.YtdaionnpgcdkdaaDoor.GLW.below hG (by repeat (first | (with_reducible first | exact HB.out | apply below_alloc | apply pw_below_drewN | apply below_drew1 | refine below_set ?_ GE221.out | refine below_set ?_ GE234.out | refine below_set ?_ GE247.out | refine below_set ?_ GE260.out | refine below_set ?_ GE276.out) | exact HB.out))); rintro e w50 ⟨rfl, hb⟩; refine ⟨_, rfl, ?_⟩; replace HO274 := Aside0.mk (Kd.R_below (by (with_reducible repeat (first | apply Kd.R_alloc | apply Kd.R_drewN | apply Kd.R_drew)); exact (Kd.R_mono (Kd.R_far (p := ⟨gb276, 10, none⟩) (Kd.R_far (p := ⟨gb276, 9, none⟩) (Kd.R_far (p := ⟨gb276, 8, none⟩) (Kd.R_far (p := ⟨gb276, 7, none⟩) (Kd.R_far (p := ⟨gb276, 6, none⟩) (Kd.R_far (p := ⟨gb276, 5, none⟩) (Kd.R_far (p := ⟨gb276, 4, none⟩) (Kd.R_far (p := ⟨gb276, 3, none⟩) (Kd.R_far (p := ⟨gb276, 2, none⟩) (Kd.R_far (p := ⟨gb276, 1, none⟩) (Kd.R_far (p := ⟨gb276, 0, none⟩) (Kd.R_types HO274.out BK276.out (by decide)) (fun _ hk => hk.2) (.bool t261)) (fun _ hk => hk.2) (.int .i64 t262)) (fun _ hk => hk.2) (.int .u64 t263)) (fun _ hk => hk.2) (.int .u64 t264)) (fun _ hk => hk.2) (.int .u64 t265)) (fun _ hk => hk.2) (.int .u64 t266)) (fun _ hk => hk.2) (.int .u64 t267)) (fun _ hk => hk.2) (.int .u64 t268)) (fun _ hk => hk.2) (.int .u64 t269)) (fun _ hk => hk.2) (.int .u64 t270)) (fun _ hk => hk.2) (.int .i64 t271)) (fun _ h_ => h_.1))) hb); replace BK221 := Aside0.mk (blk_below (g := gb221) (o := .cells #[.bool t209, .int .i64 t210, .int .u64 t211, .int .u64 t212, .int .u64 t213, .int .u64 t214, .int .u64 t215, .int .u64 t216, .int .u64 t217, .int .u64 t218, .int .i64 t219] 51 (0, 0)) (by (iterate 11 refine blk_far ?_ NB221_276.out _); exact BK221.out) hb); replace BK234 := Aside0.mk (blk_below (g := gb234) (o := .cells #[.bool t222, .int .i64 t223, .int .u64 t224, .int .u64 t225, .int .u64 t226, .int .u64 t227, .int .u64 t228, .int .u64 t229, .int .u64 t230, .int .u64 t231, .int .i64 t232] 51 (0, 0)) (by (iterate 11 refine blk_far ?_ NB234_276.out _); exact BK234.out) hb); replace BK247 := Aside0.mk (blk_below (g := gb247) (o := .cells #[.bool t235, .int .i64 t236, .int .u64 t237, .int .u64 t238, .int .u64 t239, .int .u64 t240, .int .u64 t241, .int .u64 t242, .int .u64 t243, .int .u64 t244, .int .i64 t245] 51 (0, 0)) (by (iterate 11 refine blk_far ?_ NB247_276.out _); exact BK247.out) hb); replace BK260 := Aside0.mk (blk_below (g := gb260) (o := .cells #[.bool t248, .int .i64 t249, .int .u64 t250, .int .u64 t251, .int .u64 t252, .int .u64 t253, .int .u64 t254, .int .u64 t255, .int .u64 t256, .int .u64 t257, .int .i64 t258] 51 (0, 0)) (by (iterate 11 refine blk_far ?_ NB260_276.out _); exact BK260.out) hb); replace BK276 := Aside0.mk (blk_below (g := gb276) (o := .cells #[.bool t261, .int .i64 t262, .int .u64 t263, .int .u64 t264, .int .u64 t265, .int .u64 t266, .int .u64 t267, .int .u64 t268, .int .u64 t269, .int .u64 t270, .int .i64 t271] 51 (0, 0)) (by apply pt51_0_11; exact BK276.out) hb); replace HB := Aside0.mk (below_step (by repeat (first | (with_reducible first | exact HB.out | apply below_alloc | apply pw_below_drewN | apply below_drew1 | refine below_set ?_ GE221.out | refine below_set ?_ GE234.out | refine below_set ?_ GE247.out | refine below_set ?_ GE260.out | refine below_set ?_ GE276.out) | exact HB.out)) hb); (try clear hb); (try clear hb2); (try clear hk); (try clear hi)) | ((with_reducible refine gate_dst (N := 12) rfl ?_); (try (refine gate_guard (by rfl) ?_; dsimp only)); refine box_event ?hg (N := 12) ?hd (cs := #[.bool false, .int .i64 0, .int .u64 0, .int .u64 0, .int .u64 0, .int .u64 0, .int .u64 0, .int .u64 0, .int .u64 0, .int .u64 0, .int .i64 0]) (t := 51) ?hr ?_; (case hd => rfl); (case hg => rfl); (case hr => first | (go_simp; done) | (go_simp; rfl)); intro gb289 hg w51 hbox hb; replace HO274 := Aside0.mk (Kd.R_below (by exact HO274.out) hb); have BK289 := Aside0.mk (hbox); have GW289 := Aside0.mk ((by rw [hg]; exact (below_size (by exact HB.out)) : w.heap.size ≤ gb289)); have GE289 := Aside0.mk ((by rw [hg]; exact (below_size (by exact HB.out)) : w.heap.size ≤ gb289)); replace HB := Aside0.mk (below_step (by exact HB.out) hb); have NB221_289 := Aside0.mk ((by rw [hg]; exact Nat.ne_of_lt (blk_lt BK221.out) : gb221 ≠ gb289)); have NB289_221 := Aside0.mk ((by rw [hg]; exact Nat.ne_of_gt (blk_lt BK221.out) : gb289 ≠ gb221)); replace BK221 := Aside0.mk (blk_below BK221.out hb); have NB234_289 := Aside0.mk ((by rw [hg]; exact Nat.ne_of_lt (blk_lt BK234.out) : gb234 ≠ gb289)); have NB289_234 := Aside0.mk ((by rw [hg]; exact Nat.ne_of_gt (blk_lt BK234.out) : gb289 ≠ gb234)); replace BK234 := Aside0.mk (blk_below BK234.out hb); have NB247_289 := Aside0.mk ((by rw [hg]; exact Nat.ne_of_lt (blk_lt BK247.out) : gb247 ≠ gb289)); have NB289_247 := Aside0.mk ((by rw [hg]; exact Nat.ne_of_gt (blk_lt BK247.out) : gb289 ≠ gb247)); replace BK247 := Aside0.mk (blk_below BK247.out hb); have NB260_289 := Aside0.mk ((by rw [hg]; exact Nat.ne_of_lt (blk_lt BK260.out) : gb260 ≠ gb289)); have NB289_260 := Aside0.mk ((by rw [hg]; exact Nat.ne_of_gt (blk_lt BK260.out) : gb289 ≠ gb260)); replace BK260 := Aside0.mk (blk_below BK260.out hb); have NB276_289 := Aside0.mk ((by rw [hg]; exact Nat.ne_of_lt (blk_lt BK276.out) : gb276 ≠ gb289)); have NB289_276 := Aside0.mk ((by rw [hg]; exact Nat.ne_of_gt (blk_lt BK276.out) : gb289 ≠ gb276)); replace BK276 := Aside0.mk (blk_below BK276.out hb); clear hb hbox hg; have hnb52 := NB289_221.out; have hnc52 := NB221_289.out; have hnb53 := NB289_234.out; have hnc53 := NB234_289.out; have hnb54 := NB289_247.out; have hnc54 := NB247_289.out; have hnb55 := NB289_260.out; have hnc55 := NB260_289.out; have hnb56 := NB289_276.out; have hnc56 := NB276_289.out; have hcz57_0 : w51.cell? ⟨gb289, 0, none⟩ = some (.bool false) := (blk_cell BK289.out 0).trans rfl; have hcz57_1 : w51.cell? ⟨gb289, 1, none⟩ = some (.int .i64 0) := (blk_cell BK289.out 1).trans rfl; have hcz57_2 : w51.cell? ⟨gb289, 2, none⟩ = some (.int .u64 0) := (blk_cell BK289.out 2).trans rfl; have hcz57_3 : w51.cell? ⟨gb289, 3, none⟩ = some (.int .u64 0) := (blk_cell BK289.out 3).trans rfl; have hcz57_4 : w51.cell? ⟨gb289, 4, none⟩ = some (.int .u64 0) := (blk_cell BK289.out 4).trans rfl; have hcz57_5 : w51.cell? ⟨gb289, 5, none⟩ = some (.int .u64 0) := (blk_cell BK289.out 5).trans rfl; have hcz57_6 : w51.cell? ⟨gb289, 6, none⟩ = some (.int .u64 0) := (blk_cell BK289.out 6).trans rfl; have hcz57_7 : w51.cell? ⟨gb289, 7, none⟩ = some (.int .u64 0) := (blk_cell BK289.out 7).trans rfl; have hcz57_8 : w51.cell? ⟨gb289, 8, none⟩ = some (.int .u64 0) := (blk_cell BK289.out 8).trans rfl; have hcz57_9 : w51.cell? ⟨gb289, 9, none⟩ = some (.int .u64 0) := (blk_cell BK289.out 9).trans rfl; have hcz57_10 : w51.cell? ⟨gb289, 10, none⟩ = some (.int .i64 0) := (blk_cell BK289.out 10).trans rfl; have hfz57_0 := blk_frozen BK289.out 0; have hfz57_1 := blk_frozen BK289.out 1; have hfz57_2 := blk_frozen BK289.out 2; have hfz57_3 := blk_frozen BK289.out 3; have hfz57_4 := blk_frozen BK289.out 4; have hfz57_5 := blk_frozen BK289.out 5; have hfz57_6 := blk_frozen BK289.out 6; have hfz57_7 := blk_frozen BK289.out 7; have hfz57_8 := blk_frozen BK289.out 8; have hfz57_9 := blk_frozen BK289.out 9; have hfz57_10 := blk_frozen BK289.out 10; have hcz58_0 : w51.cell? ⟨gb260, 0, none⟩ = some (.bool t248) := (blk_cell BK260.out 0).trans rfl; have hcz58_1 : w51.cell? ⟨gb260, 1, none⟩ = some (.int .i64 t249) := (blk_cell BK260.out 1).trans rfl; have hcz58_2 : w51.cell? ⟨gb260, 2, none⟩ = some (.int .u64 t250) := (blk_cell BK260.out 2).trans rfl; have hcz58_3 : w51.cell? ⟨gb260, 3, none⟩ = some (.int .u64 t251) := (blk_cell BK260.out 3).trans rfl; have hcz58_4 : w51.cell? ⟨gb260, 4, none⟩ = some (.int .u64 t252) := (blk_cell BK260.out 4).trans rfl; have hcz58_5 : w51.cell? ⟨gb260, 5, none⟩ = some (.int .u64 t253) := (blk_cell BK260.out 5).trans rfl; have hcz58_6 : w51.cell? ⟨gb260, 6, none⟩ = some (.int .u64 t254) := (blk_cell BK260.out 6).trans rfl; have hcz58_7 : w51.cell? ⟨gb260, 7, none⟩ = some (.int .u64 t255) := (blk_cell BK260.out 7).trans rfl; have hcz58_8 : w51.cell? ⟨gb260, 8, none⟩ = some (.int .u64 t256) := (blk_cell BK260.out 8).trans rfl; have hcz58_9 : w51.cell? ⟨gb260, 9, none⟩ = some (.int .u64 t257) := (blk_cell BK260.out 9).trans rfl; have hcz58_10 : w51.cell? ⟨gb260, 10, none⟩ = some (.int .i64 t258) := (blk_cell BK260.out 10).trans rfl; have hfz58_0 := blk_frozen BK260.out 0; have hfz58_1 := blk_frozen BK260.out 1; have hfz58_2 := blk_frozen BK260.out 2; have hfz58_3 := blk_frozen BK260.out 3; have hfz58_4 := blk_frozen BK260.out 4; have hfz58_5 := blk_frozen BK260.out 5; have hfz58_6 := blk_frozen BK260.out 6; have hfz58_7 := blk_frozen BK260.out 7; have hfz58_8 := blk_frozen BK260.out 8; have hfz58_9 := blk_frozen BK260.out 9; have hfz58_10 := blk_frozen BK260.out 10) | (go_at_call 26; (with_reducible refine (barrier_Ready.calls t248 t249 t250 t251 t252 t253 t254 t255 t256 t257 t258 true _ ?side1 A11.out).mono ?_); (case side1 => exact Go.Proofs.YtdaionnpgcdkdaaDoor.GLW.below hG (by repeat (first | (with_reducible first | exact HB.out | apply below_alloc | apply pw_below_drewN | apply below_drew1 | refine below_set ?_ GE221.out | refine below_set ?_ GE234.out | refine below_set ?_ GE247.out | refine below_set ?_ GE260.out | refine below_set ?_ GE276.out | refine below_set ?_ GE289.out) | exact HB.out))); rintro e w59 ⟨rfl, hb⟩; replace HO274 := Aside0.mk (Kd.R_below (by (with_reducible repeat (first | apply Kd.R_alloc | apply Kd.R_drewN | apply Kd.R_drew)); exact (Kd.R_mono (Kd.R_far (p := ⟨gb289, 10, none⟩) (Kd.R_far (p := ⟨gb289, 9, none⟩) (Kd.R_far (p := ⟨gb289, 8, none⟩) (Kd.R_far (p := ⟨gb289, 7, none⟩) (Kd.R_far (p := ⟨gb289, 6, none⟩) (Kd.R_far (p := ⟨gb289, 5, none⟩) (Kd.R_far (p := ⟨gb289, 4, none⟩) (Kd.R_far (p := ⟨gb289, 3, none⟩) (Kd.R_far (p := ⟨gb289, 2, none⟩) (Kd.R_far (p := ⟨gb289, 1, none⟩) (Kd.R_far (p := ⟨gb289, 0, none⟩) (Kd.R_types HO274.out BK289.out (by decide)) (fun _ hk => hk.2) (.bool t277)) (fun _ hk => hk.2) (.int .i64 t278)) (fun _ hk => hk.2) (.int .u64 t279)) (fun _ hk => hk.2) (.int .u64 t280)) (fun _ hk => hk.2) (.int .u64 t281)) (fun _ hk => hk.2) (.int .u64 t282)) (fun _ hk => hk.2) (.int .u64 t283)) (fun _ hk => hk.2) (.int .u64 t284)) (fun _ hk => hk.2) (.int .u64 t285)) (fun _ hk => hk.2) (.int .u64 t286)) (fun _ hk => hk.2) (.int .i64 t287)) (fun _ h_ => h_.1))) hb); replace BK221 := Aside0.mk (blk_below (g := gb221) (o := .cells #[.bool t209, .int .i64 t210, .int .u64 t211, .int .u64 t212, .int .u64 t213, .int .u64 t214, .int .u64 t215, .int .u64 t216, .int .u64 t217, .int .u64 t218, .int .i64 t219] 51 (0, 0)) (by (iterate 11 refine blk_far ?_ NB221_289.out _); exact BK221.out) hb); replace BK234 := Aside0.mk (blk_below (g := gb234) (o := .cells #[.bool t222, .int .i64 t223, .int .u64 t224, .int .u64 t225, .int .u64 t226, .int .u64 t227, .int .u64 t228, .int .u64 t229, .int .u64 t230, .int .u64 t231, .int .i64 t232] 51 (0, 0)) (by (iterate 11 refine blk_far ?_ NB234_289.out _); exact BK234.out) hb); replace BK247 := Aside0.mk (blk_below (g := gb247) (o := .cells #[.bool t235, .int .i64 t236, .int .u64 t237, .int .u64 t238, .int .u64 t239, .int .u64 t240, .int .u64 t241, .int .u64 t242, .int .u64 t243, .int .u64 t244, .int .i64 t245] 51 (0, 0)) (by (iterate 11 refine blk_far ?_ NB247_289.out _); exact BK247.out) hb); replace BK260 := Aside0.mk (blk_below (g := gb260) (o := .cells #[.bool t248, .int .i64 t249, .int .u64 t250, .int .u64 t251, .int .u64 t252, .int .u64 t253, .int .u64 t254, .int .u64 t255, .int .u64 t256, .int .u64 t257, .int .i64 t258] 51 (0, 0)) (by (iterate 11 refine blk_far ?_ NB260_289.out _); exact BK260.out) hb); replace BK276 := Aside0.mk (blk_below (g := gb276) (o := .cells #[.bool t261, .int .i64 t262, .int .u64 t263, .int .u64 t264, .int .u64 t265, .int .u64 t266, .int .u64 t267, .int .u64 t268, .int .u64 t269, .int .u64 t270, .int .i64 t271] 51 (0, 0)) (by (iterate 11 refine blk_far ?_ NB276_289.out _); exact BK276.out) hb); replace BK289 := Aside0.mk (blk_below (g := gb289) (o := .cells #[.bool t277, .int .i64 t278, .int .u64 t279, .int .u64 t280, .int .u64 t281, .int .u64 t282, .int .u64 t283, .int .u64 t284, .int .u64 t285, .int .u64 t286, .int .i64 t287] 51 (0, 0)) (by apply pt51_0_11; exact BK289.out) hb); replace HB := Aside0.mk (below_step (by repeat (first | (with_reducible first | exact HB.out | apply below_alloc | apply pw_below_drewN | apply below_drew1 | refine below_set ?_ GE221.out | refine below_set ?_ GE234.out | refine below_set ?_ GE247.out | refine below_set ?_ GE260.out | refine below_set ?_ GE276.out | refine below_set ?_ GE289.out) | exact HB.out)) hb); (try clear hb); (try clear hb2); (try clear hk); (try clear hi); have hcz60_0 : w59.cell? ⟨gb260, 0, none⟩ = some (.bool t248) := (blk_cell BK260.out 0).trans rfl; have hcz60_1 : w59.cell? ⟨gb260, 1, none⟩ = some (.int .i64 t249) := (blk_cell BK260.out 1).trans rfl; have hcz60_2 : w59.cell? ⟨gb260, 2, none⟩ = some (.int .u64 t250) := (blk_cell BK260.out 2).trans rfl; have hcz60_3 : w59.cell? ⟨gb260, 3, none⟩ = some (.int .u64 t251) := (blk_cell BK260.out 3).trans rfl; have hcz60_4 : w59.cell? ⟨gb260, 4, none⟩ = some (.int .u64 t252) := (blk_cell BK260.out 4).trans rfl; have hcz60_5 : w59.cell? ⟨gb260, 5, none⟩ = some (.int .u64 t253) := (blk_cell BK260.out 5).trans rfl; have hcz60_6 : w59.cell? ⟨gb260, 6, none⟩ = some (.int .u64 t254) := (blk_cell BK260.out 6).trans rfl; have hcz60_7 : w59.cell? ⟨gb260, 7, none⟩ = some (.int .u64 t255) := (blk_cell BK260.out 7).trans rfl; have hcz60_8 : w59.cell? ⟨gb260, 8, none⟩ = some (.int .u64 t256) := (blk_cell BK260.out 8).trans rfl; have hcz60_9 : w59.cell? ⟨gb260, 9, none⟩ = some (.int .u64 t257) := (blk_cell BK260.out 9).trans rfl; have hcz60_10 : w59.cell? ⟨gb260, 10, none⟩ = some (.int .i64 t258) := (blk_cell BK260.out 10).trans rfl; have hfz60_0 := blk_frozen BK260.out 0; have hfz60_1 := blk_frozen BK260.out 1; have hfz60_2 := blk_frozen BK260.out 2; have hfz60_3 := blk_frozen BK260.out 3; have hfz60_4 := blk_frozen BK260.out 4; have hfz60_5 := blk_frozen BK260.out 5; have hfz60_6 := blk_frozen BK260.out 6; have hfz60_7 := blk_frozen BK260.out 7; have hfz60_8 := blk_frozen BK260.out 8; have hfz60_9 := blk_frozen BK260.out 9; have hfz60_10 := blk_frozen BK260.out 10) | (go_at_call 39; (with_reducible refine (barrier_Withdraw.calls t248 t249 t250 t251 t252 t253 t254 t255 t256 t257 t258 2 t291 t292 t293 t294 t295 t296 t297 t298 t299 t300 t301 _ ?side1 A13.out).mono ?_); (case side1 => exact Go.Proofs.YtdaionnpgcdkdaaDoor.GLW.below hG (by exact HB.out)); rintro e w61 ⟨rfl, hb⟩; replace HO274 := Aside0.mk (Kd.R_below (by exact HO274.out) hb); replace BK221 := Aside0.mk (blk_below BK221.out hb); replace BK234 := Aside0.mk (blk_below BK234.out hb); replace BK247 := Aside0.mk (blk_below BK247.out hb); replace BK260 := Aside0.mk (blk_below BK260.out hb); replace BK276 := Aside0.mk (blk_below BK276.out hb); replace BK289 := Aside0.mk (blk_below BK289.out hb); replace HB := Aside0.mk (below_step (by exact HB.out) hb); (try clear hb); (try clear hb2); (try clear hk); (try clear hi)) | (go_at_call 26; (with_reducible refine (barrier_Ready.calls t291 t292 t293 t294 t295 t296 t297 t298 t299 t300 t301 false _ ?side1 A14.out).mono ?_); (case side1 => exact Go.Proofs.YtdaionnpgcdkdaaDoor.GLW.below hG (by exact HB.out)); rintro e w62 ⟨rfl, hb⟩; replace HO274 := Aside0.mk (Kd.R_below (by exact HO274.out) hb); replace BK221 := Aside0.mk (blk_below BK221.out hb); replace BK234 := Aside0.mk (blk_below BK234.out hb); replace BK247 := Aside0.mk (blk_below BK247.out hb); replace BK260 := Aside0.mk (blk_below BK260.out hb); replace BK276 := Aside0.mk (blk_below BK276.out hb); replace BK289 := Aside0.mk (blk_below BK289.out hb); replace HB := Aside0.mk (below_step (by exact HB.out) hb); (try clear hb); (try clear hb2); (try clear hk); (try clear hi); have hcz63_0 : w62.cell? ⟨gb276, 0, none⟩ = some (.bool t261) := (blk_cell BK276.out 0).trans rfl; have hcz63_1 : w62.cell? ⟨gb276, 1, none⟩ = some (.int .i64 t262) := (blk_cell BK276.out 1).trans rfl; have hcz63_2 : w62.cell? ⟨gb276, 2, none⟩ = some (.int .u64 t263) := (blk_cell BK276.out 2).trans rfl; have hcz63_3 : w62.cell? ⟨gb276, 3, none⟩ = some (.int .u64 t264) := (blk_cell BK276.out 3).trans rfl; have hcz63_4 : w62.cell? ⟨gb276, 4, none⟩ = some (.int .u64 t265) := (blk_cell BK276.out 4).trans rfl; have hcz63_5 : w62.cell? ⟨gb276, 5, none⟩ = some (.int .u64 t266) := (blk_cell BK276.out 5).trans rfl; have hcz63_6 : w62.cell? ⟨gb276, 6, none⟩ = some (.int .u64 t267) := (blk_cell BK276.out 6).trans rfl; have hcz63_7 : w62.cell? ⟨gb276, 7, none⟩ = some (.int .u64 t268) := (blk_cell BK276.out 7).trans rfl; have hcz63_8 : w62.cell? ⟨gb276, 8, none⟩ = some (.int .u64 t269) := (blk_cell BK276.out 8).trans rfl; have hcz63_9 : w62.cell? ⟨gb276, 9, none⟩ = some (.int .u64 t270) := (blk_cell BK276.out 9).trans rfl; have hcz63_10 : w62.cell? ⟨gb276, 10, none⟩ = some (.int .i64 t271) := (blk_cell BK276.out 10).trans rfl; have hfz63_0 := blk_frozen BK276.out 0; have hfz63_1 := blk_frozen BK276.out 1; have hfz63_2 := blk_frozen BK276.out 2; have hfz63_3 := blk_frozen BK276.out 3; have hfz63_4 := blk_frozen BK276.out 4; have hfz63_5 := blk_frozen BK276.out 5; have hfz63_6 := blk_frozen BK276.out 6; have hfz63_7 := blk_frozen BK276.out 7; have hfz63_8 := blk_frozen BK276.out 8; have hfz63_9 := blk_frozen BK276.out 9; have hfz63_10 := blk_frozen BK276.out 10) | ((with_reducible refine gate_dst (N := 80) rfl ?_); (try (refine gate_guard (by rfl) ?_; dsimp only)); refine Kd.R_lit (Kd.int .i64) _ 3 ?hg (N := 80) ?hd (xs := ([2] : List Int)) (inner := [.int .i64 2]) (ok := fun _ => True) (okp := fun _ => True) ?hr ?hp (fun _ hk => hk) trivial (Below.refl _ _) (Nat.le_refl _) (by simp) ?_; (case hd => rfl); (case hg => rfl); (case hr => first | (go_simp; done) | (go_simp; rfl)); (case hp => exact (Reps.one (show Kd.M (Kd.int .i64) _ _ _ 2 [.int .i64 2] from rfl) (Reps.none _ _))); intro v304 w64 ho65 hb hg_ hnew_; clear hg_ hnew_; (first | rw [← Ny303.out] at ho65 | (simp only [Int.reduceToNat] at ho65; rw [← Ny303.out] at ho65)); have HO305 := Aside0.mk (Kd.R_lower (Kd.R_new' ho65 (Kd.R_lt (by exact HO274.out))) (below_size (by exact HB.out))); replace HO274 := Aside0.mk (Kd.R_elder' (by exact HO274.out) (Kd.R_base ho65) hb); replace BK221 := Aside0.mk (blk_below BK221.out hb); replace BK234 := Aside0.mk (blk_below BK234.out hb); replace BK247 := Aside0.mk (blk_below BK247.out hb); replace BK260 := Aside0.mk (blk_below BK260.out hb); replace BK276 := Aside0.mk (blk_below BK276.out hb); replace BK289 := Aside0.mk (blk_below BK289.out hb); replace HB := Aside0.mk (below_step (by exact HB.out) hb); clear hb ho65; obtain ⟨Ao66, co66, eo66⟩ := Kd.R_slice HO274.out; subst eo66; obtain ⟨Ao67, co67, eo67⟩ := Kd.R_slice HO305.out; subst eo67) | (go_at_call 30; (with_reducible refine (becketref02_Same.calls k _ _ t272 _ _ y303 true _ ?side1 ?side2 ?side3 ?side4 A18.out).mono ?_); (case side1 => exact (Kd.R_reads' HO274.out).2.2); (case side2 => exact (Kd.R_reads' HO274.out).2.1); (case side3 => exact (Kd.R_reads' HO305.out).2.2); (case side4 => exact (Kd.R_reads' HO305.out).2.1); rintro e w' ⟨rfl, ⟨nd, rfl⟩⟩; have hcz68_0 : w64.cell? ⟨gb276, 0, none⟩ = some (.bool t261) := (blk_cell BK276.out 0).trans rfl; have hcz68_1 : w64.cell? ⟨gb276, 1, none⟩ = some (.int .i64 t262) := (blk_cell BK276.out 1).trans rfl; have hcz68_2 : w64.cell? ⟨gb276, 2, none⟩ = some (.int .u64 t263) := (blk_cell BK276.out 2).trans rfl; have hcz68_3 : w64.cell? ⟨gb276, 3, none⟩ = some (.int .u64 t264) := (blk_cell BK276.out 3).trans rfl; have hcz68_4 : w64.cell? ⟨gb276, 4, none⟩ = some (.int .u64 t265) := (blk_cell BK276.out 4).trans rfl; have hcz68_5 : w64.cell? ⟨gb276, 5, none⟩ = some (.int .u64 t266) := (blk_cell BK276.out 5).trans rfl; have hcz68_6 : w64.cell? ⟨gb276, 6, none⟩ = some (.int .u64 t267) := (blk_cell BK276.out 6).trans rfl; have hcz68_7 : w64.cell? ⟨gb276, 7, none⟩ = some (.int .u64 t268) := (blk_cell BK276.out 7).trans rfl; have hcz68_8 : w64.cell? ⟨gb276, 8, none⟩ = some (.int .u64 t269) := (blk_cell BK276.out 8).trans rfl; have hcz68_9 : w64.cell? ⟨gb276, 9, none⟩ = some (.int .u64 t270) := (blk_cell BK276.out 9).trans rfl; have hcz68_10 : w64.cell? ⟨gb276, 10, none⟩ = some (.int .i64 t271) := (blk_cell BK276.out 10).trans rfl; have hfz68_0 := blk_frozen BK276.out 0; have hfz68_1 := blk_frozen BK276.out 1; have hfz68_2 := blk_frozen BK276.out 2; have hfz68_3 := blk_frozen BK276.out 3; have hfz68_4 := blk_frozen BK276.out 4; have hfz68_5 := blk_frozen BK276.out 5; have hfz68_6 := blk_frozen BK276.out 6; have hfz68_7 := blk_frozen BK276.out 7; have hfz68_8 := blk_frozen BK276.out 8; have hfz68_9 := blk_frozen BK276.out 9; have hfz68_10 := blk_frozen BK276.out 10) | (go_at_call 41; (with_reducible refine (barrier_Fine.calls t261 t262 t263 t264 t265 t266 t267 t268 t269 t270 t271 true _ ?side1 A21.out).mono ?_); (case side1 => exact Go.Proofs.YtdaionnpgcdkdaaDoor.GLW.below hG (by repeat (first | (with_reducible first | exact HB.out | apply below_alloc | apply pw_below_drewN | apply below_drew1 | refine below_set ?_ GE221.out | refine below_set ?_ GE234.out | refine below_set ?_ GE247.out | refine below_set ?_ GE260.out | refine below_set ?_ GE276.out | refine below_set ?_ GE289.out) | exact HB.out))); rintro e w69 ⟨rfl, hb⟩; replace HO274 := Aside0.mk (Kd.R_below (by (with_reducible repeat (first | apply Kd.R_alloc | apply Kd.R_drewN | apply Kd.R_drew)); exact HO274.out) hb); replace HO305 := Aside0.mk (Kd.R_below (by (with_reducible repeat (first | apply Kd.R_alloc | apply Kd.R_drewN | apply Kd.R_drew)); exact HO305.out) hb); replace BK221 := Aside0.mk (blk_below (g := gb221) (o := .cells #[.bool t209, .int .i64 t210, .int .u64 t211, .int .u64 t212, .int .u64 t213, .int .u64 t214, .int .u64 t215, .int .u64 t216, .int .u64 t217, .int .u64 t218, .int .i64 t219] 51 (0, 0)) (by (with_reducible repeat (first | refine blk_drewN ?_ _ | refine blk_drew ?_ | refine blk_alloc ?_ _)); exact BK221.out) hb); replace BK234 := Aside0.mk (blk_below (g := gb234) (o := .cells #[.bool t222, .int .i64 t223, .int .u64 t224, .int .u64 t225, .int .u64 t226, .int .u64 t227, .int .u64 t228, .int .u64 t229, .int .u64 t230, .int .u64 t231, .int .i64 t232] 51 (0, 0)) (by (with_reducible repeat (first | refine blk_drewN ?_ _ | refine blk_drew ?_ | refine blk_alloc ?_ _)); exact BK234.out) hb); replace BK247 := Aside0.mk (blk_below (g := gb247) (o := .cells #[.bool t235, .int .i64 t236, .int .u64 t237, .int .u64 t238, .int .u64 t239, .int .u64 t240, .int .u64 t241, .int .u64 t242, .int .u64 t243, .int .u64 t244, .int .i64 t245] 51 (0, 0)) (by (with_reducible repeat (first | refine blk_drewN ?_ _ | refine blk_drew ?_ | refine blk_alloc ?_ _)); exact BK247.out) hb); replace BK260 := Aside0.mk (blk_below (g := gb260) (o := .cells #[.bool t248, .int .i64 t249, .int .u64 t250, .int .u64 t251, .int .u64 t252, .int .u64 t253, .int .u64 t254, .int .u64 t255, .int .u64 t256, .int .u64 t257, .int .i64 t258] 51 (0, 0)) (by (with_reducible repeat (first | refine blk_drewN ?_ _ | refine blk_drew ?_ | refine blk_alloc ?_ _)); exact BK260.out) hb); replace BK276 := Aside0.mk (blk_below (g := gb276) (o := .cells #[.bool t261, .int .i64 t262, .int .u64 t263, .int .u64 t264, .int .u64 t265, .int .u64 t266, .int .u64 t267, .int .u64 t268, .int .u64 t269, .int .u64 t270, .int .i64 t271] 51 (0, 0)) (by (with_reducible repeat (first | refine blk_drewN ?_ _ | refine blk_drew ?_ | refine blk_alloc ?_ _)); exact BK276.out) hb); replace BK289 := Aside0.mk (blk_below (g := gb289) (o := .cells #[.bool t277, .int .i64 t278, .int .u64 t279, .int .u64 t280, .int .u64 t281, .int .u64 t282, .int .u64 t283, .int .u64 t284, .int .u64 t285, .int .u64 t286, .int .i64 t287] 51 (0, 0)) (by (with_reducible repeat (first | refine blk_drewN ?_ _ | refine blk_drew ?_ | refine blk_alloc ?_ _)); exact BK289.out) hb); replace HB := Aside0.mk (below_step (by repeat (first | (with_reducible first | exact HB.out | apply below_alloc | apply pw_below_drewN | apply below_drew1 | refine below_set ?_ GE221.out | refine below_set ?_ GE234.out | refine below_set ?_ GE247.out | refine below_set ?_ GE260.out | refine below_set ?_ GE276.out | refine below_set ?_ GE289.out) | exact HB.out)) hb); (try clear hb); (try clear hb2); (try clear hk); (try clear hi)) | (go_at_call 43; (with_reducible refine (barrier_Check.calls false 0 t308 _ A23.out).mono ?_); rintro e w70 ⟨rfl, hb⟩; replace HO274 := Aside0.mk (Kd.R_below (by exact HO274.out) hb); replace HO305 := Aside0.mk (Kd.R_below (by exact HO305.out) hb); replace BK221 := Aside0.mk (blk_below BK221.out hb); replace BK234 := Aside0.mk (blk_below BK234.out hb); replace BK247 := Aside0.mk (blk_below BK247.out hb); replace BK260 := Aside0.mk (blk_below BK260.out hb); replace BK276 := Aside0.mk (blk_below BK276.out hb); replace BK289 := Aside0.mk (blk_below BK289.out hb); replace HB := Aside0.mk (below_step (by exact HB.out) hb); (try clear hb); (try clear hb2); (try clear hk); (try clear hi)))
                        go_ret
                        exact ⟨by first | rfl | (simp [errW_none, errW_some] <;> rfl) | (simp [*, errW_none, errW_some] <;> rfl), by exact HB.out⟩
                      · replace c22 := Bool.eq_false_iff.mpr c22
                        subst c22
                        have H1 : (none) = some r := by rw [if_neg (show ¬ (false = true) by decide)] at H; exact H
                        clear H
                        have H := H1
                        clear H1
                        exact absurd H (by simp)
                    · rw [if_neg c20] at H
                      exact absurd H (by simp)
                  · replace c19 := Bool.eq_false_iff.mpr c19
                    subst c19
                    have H1 : (none) = some r := by rw [if_neg (show ¬ (false = true) by decide)] at H; exact H
                    clear H
                    have H := H1
                    clear H1
                    exact absurd H (by simp)
                · rw [if_neg c17] at H
                  exact absurd H (by simp)
              · rw [if_neg c16] at H
                exact absurd H (by simp)
          · replace c12 := Bool.eq_false_iff.mpr c12
            subst c12
            have H1 : (none) = some r := by rw [if_neg (show ¬ (false = true) by decide)] at H; exact H
            clear H
            have H := H1
            clear H1
            exact absurd H (by simp)
        · rw [if_neg c10] at H
          exact absurd H (by simp)
      · rw [if_neg c9] at H
        exact absurd H (by simp)
    · rw [if_neg c8] at H
      exact absurd H (by simp)
  · rw [if_neg c7] at H
    exact absurd H (by simp)

/-! ### becketref04_Has: function 104 -/
def becketref04_Has.l0 : Nat → List Int → Int → Int → Option (Bool)
  | 0, _, _, _ => none
  | k + 1, x0, x1, x5 => if x5 < (x0.length : Int) then (if 0 ≤ x5 then (if (rd x0 x5) = x1 then (some true) else (becketref04_Has.l0 k x0 x1 (wrap64 (x5 + 1)))) else (none)) else (some false)
def becketref04_Has.f (k : Nat) (l0 : List Int) (a1 : Int) : Option (Bool) := becketref04_Has.l0 k l0 a1 0
theorem becketref04_Has.mono_l : ∀ k, (∀ y0 y1 y2, LeO (becketref04_Has.l0 k y0 y1 y2) (becketref04_Has.l0 (k + 1) y0 y1 y2))
  | 0 => fun _ _ _ r h => by simp [becketref04_Has.l0] at h
  | k + 1 => by
    have ih0 := becketref04_Has.mono_l k
    · intro y0 y1 y2
      unfold becketref04_Has.l0
      repeat' first
      | (with_reducible exact ih0 _ _ _)
      | (with_reducible exact LeO.refl _)
      | (with_reducible exact LeO.none _)
      | (with_reducible refine LeO.ite ?_ ?_)
      | (with_reducible refine LeO.bind ?_ (fun _ => ?_))
      | exact ih0 _ _ _
      | exact LeO.none _
      | refine LeO.ite ?_ ?_
      | refine LeO.bind ?_ (fun _ => ?_)
theorem becketref04_Has.mono : ∀ a0 a1 k, LeO (becketref04_Has.f k a0 a1) (becketref04_Has.f (k + 1) a0 a1) := by
  intro a0 a1 k
  have ih0 := becketref04_Has.mono_l k
  unfold becketref04_Has.f
  repeat' first
      | (with_reducible exact ih0 _ _ _)
      | (with_reducible exact LeO.refl _)
      | (with_reducible exact LeO.none _)
      | (with_reducible refine LeO.ite ?_ ?_)
      | (with_reducible refine LeO.bind ?_ (fun _ => ?_))
      | exact ih0 _ _ _
      | exact LeO.none _
      | refine LeO.ite ?_ ?_
      | refine LeO.bind ?_ (fun _ => ?_)
set_option maxHeartbeats 8000000 in
set_option maxRecDepth 100000 in
theorem becketref04_Has.calls (k : Nat) (A0 : Option Addr) (c0 : Nat) (l0 : List Int) (a1 : Int) (r : Bool) (w : World) (hr0 : Kd.C (Kd.int .i64) w A0 l0.length l0) (hc0 : l0.length ≤ c0) (h : becketref04_Has.f k l0 a1 = some r) :
    Calls Tryd.prog 104 #[.slice A0 l0.length c0, .int .i64 a1] w fun e w' => e = .returned (.bool r) ∧ Drawn0 w w' := by
  have HR0 := Aside0.mk hr0
  have HC0 := Aside0.mk hc0
  clear hr0 hc0
  have H : (becketref04_Has.l0 k l0 a1 0) = some r := h
  clear h
  have H' := Aside0.mk H
  clear H
  go_enter Tryd.func104, Tryd.ntmps104
  go_wp2
  go_loopg [5] k (fun kq v5 w' => ∃ (x5_1 : Int), v5 = .int .i64 x5_1 ∧ Aside0 (becketref04_Has.l0 kq l0 a1 x5_1 = some r) ∧ Aside0 (kq ≤ k) ∧ Drawn0 w w')
  case atStart => exact ⟨(0), (by first | rfl | (simp; done) | (simp [*]; done)), H', ⟨Nat.le_refl _⟩, by repeat (first | exact Drawn0.refl _ | apply Drawn0.step)⟩
  case round =>
    clear H'
    try clear c1
    try clear p2
    obtain ⟨x5_1, rfl, HA, HK1, ⟨m1, rfl⟩⟩ := hrel
    cases gk with
    | zero => exact absurd HA.out (by simp [becketref04_Has.l0])
    | succ k1 =>
      have H := HA.out
      clear HA
      simp only [becketref04_Has.l0] at H
      by_cases c3 : x5_1 < (l0.length : Int)
      · rw [if_pos c3] at H
        have c3b0 : decide (x5_1 < (l0.length : Int)) = true := decide_eq_true c3
        clear c3
        by_cases c4 : 0 ≤ x5_1
        · rw [if_pos c4] at H
          have c4b0 : decide (0 ≤ x5_1) = true := decide_eq_true c4
          clear c4
          by_cases c5 : (rd l0 x5_1) = a1
          · rw [if_pos c5] at H
            have c5b0 : ((rd l0 x5_1) == a1) = true := beq_iff_eq.mpr c5
            have c5b1 : ((rd l0 x5_1) != a1) = false := bne_eq_false_iff_eq.mpr c5
            clear c5
            obtain rfl := Option.some.inj H
            have p309 : 0 ≤ (x5_1 : Int) := of_decide_eq_true (by first | (with_reducible assumption) | assumption)
            have q309 : x5_1 < (l0.length : Int) := of_decide_eq_true (by first | (with_reducible assumption) | assumption)
            obtain ⟨ad309, e309, hx309_0⟩ := Kd.at_int HR0.out x5_1 p309 q309
            cases e309
            replace p309 := eq_true p309
            replace q309 := eq_true q309
            go_wp2
            go_ret
            exact ⟨by first | rfl | (simp; done) | (simp [*]; done), by repeat (first | exact Drawn0.refl _ | apply Drawn0.step)⟩
          · rw [if_neg c5] at H
            have c5b0 : ((rd l0 x5_1) == a1) = false := beq_eq_false_iff_ne.mpr c5
            have c5b1 : ((rd l0 x5_1) != a1) = true := bne_iff_ne.mpr c5
            have H' := Aside0.mk H
            clear H
            have p309 : 0 ≤ (x5_1 : Int) := of_decide_eq_true (by first | (with_reducible assumption) | assumption)
            have q309 : x5_1 < (l0.length : Int) := of_decide_eq_true (by first | (with_reducible assumption) | assumption)
            obtain ⟨ad309, e309, hx309_0⟩ := Kd.at_int HR0.out x5_1 p309 q309
            cases e309
            replace p309 := eq_true p309
            replace q309 := eq_true q309
            go_wp2
            go_roundg k1
            case measure => have := HK1.out; omega
            case rel => exact ⟨(wrap64 (x5_1 + 1)), (by first | rfl | (simp; done) | (simp [*]; done)), H', ⟨by have := HK1.out; omega⟩, by repeat (first | exact Drawn0.refl _ | apply Drawn0.step)⟩
        · rw [if_neg c4] at H
          exact absurd H (by simp)
      · rw [if_neg c3] at H
        have c3b0 : decide (x5_1 < (l0.length : Int)) = false := decide_eq_false c3
        clear c3
        obtain rfl := Option.some.inj H
        go_wp2
        go_ret
        exact ⟨by first | rfl | (simp; done) | (simp [*]; done), by repeat (first | exact Drawn0.refl _ | apply Drawn0.step)⟩

/-! ### becketref04_Of: function 101 -/
def becketref04_Of.l0 : Nat → List Int → List Int → Int → Option (List Int)
  | 0, _, _, _ => none
  | k + 1, x0, x3, x4 => if x4 ≤ 255 then ((becketref04_Has.f k x0 x4).bind fun t310 => (if t310 = true then (if x3.length < 17592186044416 then (becketref04_Of.l0 k x0 (x3 ++ [x4]) (wrap64 (x4 + 1))) else (none)) else (becketref04_Of.l0 k x0 x3 (wrap64 (x4 + 1))))) else (some x3)
def becketref04_Of.f (k : Nat) (l0 : List Int) : Option (List Int) := becketref04_Of.l0 k l0 ([] : List Int) 0
theorem becketref04_Of.mono_l : ∀ k, (∀ y0 y1 y2, LeO (becketref04_Of.l0 k y0 y1 y2) (becketref04_Of.l0 (k + 1) y0 y1 y2))
  | 0 => fun _ _ _ r h => by simp [becketref04_Of.l0] at h
  | k + 1 => by
    have ih0 := becketref04_Of.mono_l k
    · intro y0 y1 y2
      unfold becketref04_Of.l0
      repeat' first
      | (with_reducible exact ih0 _ _ _)
      | (with_reducible exact becketref04_Has.mono _ _ _)
      | (with_reducible exact LeO.refl _)
      | (with_reducible exact LeO.none _)
      | (with_reducible refine LeO.ite ?_ ?_)
      | (with_reducible refine LeO.bind ?_ (fun _ => ?_))
      | exact ih0 _ _ _
      | exact becketref04_Has.mono _ _ _
      | exact LeO.none _
      | refine LeO.ite ?_ ?_
      | refine LeO.bind ?_ (fun _ => ?_)
theorem becketref04_Of.mono : ∀ a0 k, LeO (becketref04_Of.f k a0) (becketref04_Of.f (k + 1) a0) := by
  intro a0 k
  have ih0 := becketref04_Of.mono_l k
  unfold becketref04_Of.f
  repeat' first
      | (with_reducible exact ih0 _ _ _)
      | (with_reducible exact becketref04_Has.mono _ _ _)
      | (with_reducible exact LeO.refl _)
      | (with_reducible exact LeO.none _)
      | (with_reducible refine LeO.ite ?_ ?_)
      | (with_reducible refine LeO.bind ?_ (fun _ => ?_))
      | exact ih0 _ _ _
      | exact becketref04_Has.mono _ _ _
      | exact LeO.none _
      | refine LeO.ite ?_ ?_
      | refine LeO.bind ?_ (fun _ => ?_)
set_option maxHeartbeats 8000000 in
set_option maxRecDepth 100000 in
theorem becketref04_Of.calls (k : Nat) (A0 : Option Addr) (c0 : Nat) (l0 : List Int) (r : List Int) (w : World) (hr0 : Kd.C (Kd.int .i64) w A0 l0.length l0) (hc0 : l0.length ≤ c0) (h : becketref04_Of.f k l0 = some r) :
    Calls Tryd.prog 101 #[.slice A0 l0.length c0] w fun e w' => ∃ v0_ : Value, e = .returned (v0_) ∧ Kd.R (Kd.int .i64) 3 w' w.heap.size (fun _ => True) v0_ r ∧ Below w.heap.size w w' := by
  have HR0 := Aside0.mk hr0
  have HC0 := Aside0.mk hc0
  clear hr0 hc0
  have HB := Aside0.mk (Below.refl w.heap.size w)
  have H : (becketref04_Of.l0 k l0 ([] : List Int) 0) = some r := h
  clear h
  have H' := Aside0.mk H
  clear H
  go_enter Tryd.func101, Tryd.ntmps101
  go_wp2
  go_loopg [3, 4] k (fun kq v3 v4 w' => ∃ (x3_1 : List Int) (x4_1 : Int), v4 = .int .i64 x4_1 ∧ Aside0 (becketref04_Of.l0 kq l0 x3_1 x4_1 = some r) ∧ Aside0 (kq ≤ k) ∧ Aside0 (Kd.R (Kd.int .i64) 3 w' w.heap.size (fun _ => True) v3 x3_1) ∧ Aside0 (Below w.heap.size w w'))
  case atStart => exact ⟨(([] : List Int)), (0), (by first | rfl | (simp; done) | (simp [*]; done)), H', ⟨Nat.le_refl _⟩, ⟨by first | exact Kd.R_nil _ _ _ _ _ | exact Kd.N_nil _ _ _ _ _ | exact Kd.V_nil _ _ _ _ _ | exact Kd.Q_nil _ _ _ _ _ | exact Kd.S_nil _ _ _ _ _⟩, ⟨by exact HB.out⟩⟩
  case round =>
    clear H'
    try clear c1
    obtain ⟨x3_1, x4_1, rfl, HA, HK1, HO_3, HB⟩ := hrel
    cases gk with
    | zero => exact absurd HA.out (by simp [becketref04_Of.l0])
    | succ k1 =>
      have H := HA.out
      clear HA
      simp only [becketref04_Of.l0] at H
      by_cases c2 : x4_1 ≤ 255
      · rw [if_pos c2] at H
        have c2b0 : decide (x4_1 ≤ 255) = true := decide_eq_true c2
        clear c2
        replace H := Option.bind_eq_some_iff.mp H
        obtain ⟨t310, A30, H⟩ := H
        replace H : (if t310 = true then (if x3_1.length < 17592186044416 then (becketref04_Of.l0 k1 l0 (x3_1 ++ [x4_1]) (wrap64 (x4_1 + 1))) else (none)) else (becketref04_Of.l0 k1 l0 x3_1 (wrap64 (x4_1 + 1)))) = some r := H
        have A3 := Aside0.mk A30
        clear A30
        by_cases c4 : t310 = true
        · subst c4
          have H1 : (if x3_1.length < 17592186044416 then (becketref04_Of.l0 k1 l0 (x3_1 ++ [x4_1]) (wrap64 (x4_1 + 1))) else (none)) = some r := by rw [if_pos rfl] at H; exact H
          clear H
          have H := H1
          clear H1
          by_cases c5 : x3_1.length < 17592186044416
          · rw [if_pos c5] at H
            have LMc5 := Aside0.mk c5
            clear c5
            obtain ⟨y311, hy311⟩ : ∃ y_ : List Int, y_ = (x3_1 ++ [x4_1]) := ⟨_, rfl⟩
            replace H : (becketref04_Of.l0 k1 l0 y311 (wrap64 (x4_1 + 1))) = some r := by first | (rw [hy311]; with_reducible exact H) | (have H2_ := (Option.bind_some _ _).symm.trans H; rw [hy311]; with_reducible exact H2_) | (have H2_ := (Option.bind_some _ _).symm.trans H; with_reducible exact H2_) | with_reducible exact H | (rw [hy311]; exact H) | exact H
            have Ny311 := Aside0.mk hy311
            clear hy311
            have H' := Aside0.mk H
            clear H
            go_wp2_with (first | ((with_reducible refine gate_callee (f := 104) rfl ?_); refine goesL_ (some 11) rfl rfl Tryd.func104 (by kernel_rfl) rfl #[.slice A0 l0.length c0, .int .i64 x4_1] rfl (by (try simp only [List.map_toArray, List.map_cons, List.map_nil]); first | done | rfl | (simp only [List.length_drop, List.length_take]; rfl)) ?_; (with_reducible refine (becketref04_Has.calls k1 _ _ l0 x4_1 true _ ?side1 ?side2 A3.out).mono ?_); (case side1 => exact (Kd.C_below HR0.out HB.out)); (case side2 => exact HC0.out); rintro e w' ⟨rfl, ⟨nd, rfl⟩⟩; refine ⟨_, rfl, ?_⟩) | ((with_reducible refine gate_builtin (b := .append) (xs := #[.tmp 12, .tmp 14]) rfl ?_); at_builtin; refine Kd.R_append (Kd.int .i64) (w0 := w) w.heap.size rfl (.tmp 12) (.tmp 14) 37 3 (.int .i64 0) 8 rfl Tryd.underlying37 info3 rfl (by decide) (by omega) u3 x3_1 x4_1 [.int .i64 x4_1] (fun _ => True) (fun _ => False) rfl rfl ?aP (fun _ hk => hk.elim) ?aF ?aO ?aB ?aS ?aL ?_; (case aP => exact rfl); (case aB => exact (by repeat (first | (with_reducible first | exact HB.out | apply below_alloc | apply pw_below_drewN | apply below_drew1) | exact HB.out))); (case aF => exact (fun _ _ => trivial)); (case aO => exact (by (with_reducible repeat (first | apply Kd.R_alloc | apply Kd.R_drewN | apply Kd.R_drew)); exact HO_3.out)); (case aS => exact (below_size (by repeat (first | (with_reducible first | exact HB.out | apply below_alloc | apply pw_below_drewN | apply below_drew1) | exact HB.out)))); (case aL => have := LMc5.out; omega); intro v312 w6 ho hb hg hat; rw [← Ny311.out] at ho; replace HB := Aside0.mk (hb); have HO313 := Aside0.mk (ho); clear HO_3; clear ho hb hg hat))
            go_roundg k1
            case measure => have := HK1.out; omega
            case rel => exact ⟨(y311), (wrap64 (x4_1 + 1)), (by first | rfl | (simp; done) | (simp [*]; done)), H', ⟨by have := HK1.out; omega⟩, ⟨by exact HO313.out⟩, ⟨by exact HB.out⟩⟩
          · rw [if_neg c5] at H
            exact absurd H (by simp)
        · replace c4 := Bool.eq_false_iff.mpr c4
          subst c4
          have H1 : (becketref04_Of.l0 k1 l0 x3_1 (wrap64 (x4_1 + 1))) = some r := by rw [if_neg (show ¬ (false = true) by decide)] at H; exact H
          clear H
          have H := H1
          clear H1
          have H' := Aside0.mk H
          clear H
          go_wp2_with (first | ((with_reducible refine gate_callee (f := 104) rfl ?_); refine goesL_ (some 11) rfl rfl Tryd.func104 (by kernel_rfl) rfl #[.slice A0 l0.length c0, .int .i64 x4_1] rfl (by (try simp only [List.map_toArray, List.map_cons, List.map_nil]); first | done | rfl | (simp only [List.length_drop, List.length_take]; rfl)) ?_; (with_reducible refine (becketref04_Has.calls k1 _ _ l0 x4_1 false _ ?side1 ?side2 A3.out).mono ?_); (case side1 => exact (Kd.C_below HR0.out HB.out)); (case side2 => exact HC0.out); rintro e w' ⟨rfl, ⟨nd, rfl⟩⟩; refine ⟨_, rfl, ?_⟩))
          go_roundg k1
          case measure => have := HK1.out; omega
          case rel => exact ⟨(x3_1), (wrap64 (x4_1 + 1)), (by first | rfl | (simp; done) | (simp [*]; done)), H', ⟨by have := HK1.out; omega⟩, ⟨by (with_reducible repeat (first | apply Kd.R_alloc | apply Kd.R_drewN | apply Kd.R_drew)); exact HO_3.out⟩, ⟨by repeat (first | (with_reducible first | exact HB.out | apply below_alloc | apply pw_below_drewN | apply below_drew1) | exact HB.out)⟩⟩
      · rw [if_neg c2] at H
        have c2b0 : decide (x4_1 ≤ 255) = false := decide_eq_false c2
        clear c2
        obtain rfl := Option.some.inj H
        go_wp2
        go_ret
        exact ⟨_, by first | rfl | (simp [errW_none, errW_some] <;> rfl) | (simp [*, errW_none, errW_some] <;> rfl), by exact HO_3.out, by exact HB.out⟩

/-! ### becketlaw21_Plain: function 74 -/
def becketlaw21_Plain.f (k : Nat) (l0_0 : List Int) (l0_1 : List Int) : Option (List Int × List Int) := (becketref04_Of.f k l0_0).bind fun t316 => ((becketref04_Of.f k l0_1).bind fun t319 => (some (t316, t319)))
theorem becketlaw21_Plain.mono : ∀ a0 a1 k, LeO (becketlaw21_Plain.f k a0 a1) (becketlaw21_Plain.f (k + 1) a0 a1) := by
  intro a0 a1 k
  unfold becketlaw21_Plain.f
  repeat' first
      | (with_reducible exact becketref04_Of.mono _ _)
      | (with_reducible exact LeO.refl _)
      | (with_reducible exact LeO.none _)
      | (with_reducible refine LeO.ite ?_ ?_)
      | (with_reducible refine LeO.bind ?_ (fun _ => ?_))
      | exact becketref04_Of.mono _ _
      | exact LeO.none _
      | refine LeO.ite ?_ ?_
      | refine LeO.bind ?_ (fun _ => ?_)
def becketlaw21_Plain.T1 : Bool × List (List Nat × List Nat) := (true, [([], []), ([0], [0]), ([1], [1]), ([], []), ([3], [3]), ([4, 2], [4]), ([2, 5], [2, 5]), ([6, 5, 0, 1, 2, 3, 4, 5, 6], [6])])
def becketlaw21_Plain.B1 : List Nat := [0, 1, 3, 0, 8, 31, 63, 127]
theorem becketlaw21_Plain.tab1 : rtab .any (opsOf Tryd.f74 1) = becketlaw21_Plain.T1 := by kernel_rfl
theorem becketlaw21_Plain.bits1 : waitsOk becketlaw21_Plain.T1.2 becketlaw21_Plain.B1 = true := by kernel_rfl
set_option maxHeartbeats 8000000 in
set_option maxRecDepth 100000 in
theorem becketlaw21_Plain.calls (k : Nat) (A0_0 : Option Addr) (c0_0 : Nat) (l0_0 : List Int) (A0_1 : Option Addr) (c0_1 : Nat) (l0_1 : List Int) (r1 : List Int) (r2 : List Int) (w : World) (hr0_0 : Kd.C (Kd.int .i64) w A0_0 l0_0.length l0_0) (hc0_0 : l0_0.length ≤ c0_0) (hr0_1 : Kd.C (Kd.int .i64) w A0_1 l0_1.length l0_1) (hc0_1 : l0_1.length ≤ c0_1) (h : becketlaw21_Plain.f k l0_0 l0_1 = some (r1, r2)) :
    Calls Tryd.prog 74 #[.agg #[.slice A0_0 l0_0.length c0_0, .slice A0_1 l0_1.length c0_1]] w fun e w' => ∃ v0_ v1_ : Value, e = .returned (.agg #[v0_, v1_]) ∧ Kd.R (Kd.int .i64) 3 w' w.heap.size (fun k_ => some k_ ≠ (v1_ : Value).ownBlock) v0_ r1 ∧ Kd.R (Kd.int .i64) 3 w' w.heap.size (fun k_ => some k_ ≠ (v0_ : Value).ownBlock) v1_ r2 ∧ Below w.heap.size w w' := by
  have hu45 := Tryd.underlying45
  have HR0_0 := Aside0.mk hr0_0
  have HC0_0 := Aside0.mk hc0_0
  clear hr0_0 hc0_0
  have HR0_1 := Aside0.mk hr0_1
  have HC0_1 := Aside0.mk hc0_1
  clear hr0_1 hc0_1
  have HB := Aside0.mk (Below.refl w.heap.size w)
  have H : ((becketref04_Of.f k l0_0).bind fun t316 => ((becketref04_Of.f k l0_1).bind fun t319 => (some (t316, t319)))) = some (r1, r2) := h
  clear h
  replace H := Option.bind_eq_some_iff.mp H
  obtain ⟨t316, A20, H⟩ := H
  replace H : ((becketref04_Of.f k l0_1).bind fun t319 => (some (t316, t319))) = some (r1, r2) := H
  have A2 := Aside0.mk A20
  clear A20
  replace H := Option.bind_eq_some_iff.mp H
  obtain ⟨t319, A30, H⟩ := H
  replace H : (some (t316, t319)) = some (r1, r2) := H
  have A3 := Aside0.mk A30
  clear A30
  simp only [Option.some.injEq, Prod.mk.injEq] at H
  obtain ⟨rfl, rfl⟩ := H
  go_enter Tryd.func74, Tryd.ntmps74
  try go_wp2_with (first | ((with_reducible refine gate_dst (N := 1) rfl ?_); refine box_event ?hg (N := 1) ?hd (cs := #[.slice A0_0 l0_0.length c0_0, .slice A0_1 l0_1.length c0_1]) (t := 45) ?hr ?_; (case hd => rfl); (case hg => rfl); (case hr => first | (go_simp; done) | (go_simp; rfl)); intro gb314 hg w4 hbox hb; have BK314 := Aside0.mk (hbox); have GW314 := Aside0.mk ((by rw [hg]; exact (below_size (by exact HB.out)) : w.heap.size ≤ gb314)); have GE314 := Aside0.mk ((by rw [hg]; exact (below_size (by exact HB.out)) : w.heap.size ≤ gb314)); replace HB := Aside0.mk (below_step (by exact HB.out) hb); clear hb hbox hg) | ((with_reducible refine gate_dst (N := 2) rfl ?_); refine box_event ?hg (N := 2) ?hd (cs := #[.slice none 0 0, .slice none 0 0]) (t := 45) ?hr ?_; (case hd => rfl); (case hg => rfl); (case hr => first | (go_simp; done) | (go_simp; rfl)); intro gb315 hg w5 hbox hb; have BK315 := Aside0.mk (hbox); have GW315 := Aside0.mk ((by rw [hg]; exact (below_size (by exact HB.out)) : w.heap.size ≤ gb315)); have GE315 := Aside0.mk ((by rw [hg]; exact (below_size (by exact HB.out)) : w.heap.size ≤ gb315)); replace HB := Aside0.mk (below_step (by exact HB.out) hb); have NB314_315 := Aside0.mk ((by rw [hg]; exact Nat.ne_of_lt (blk_lt BK314.out) : gb314 ≠ gb315)); have NB315_314 := Aside0.mk ((by rw [hg]; exact Nat.ne_of_gt (blk_lt BK314.out) : gb315 ≠ gb314)); replace BK314 := Aside0.mk (blk_below BK314.out hb); clear hb hbox hg))
  replace BK314 := Aside0.mk (blk_drew BK314.out)
  replace BK315 := Aside0.mk (blk_drew BK315.out)
  replace HB := Aside0.mk (below_drew1 HB.out)
  refine start_ (n := 8) (S := fun w' => w'.cell? ⟨gb314, 0, none⟩ = some (.slice A0_0 l0_0.length c0_0) ∧ w'.cell? ⟨gb314, 1, none⟩ = some (.slice A0_1 l0_1.length c0_1)) (ds := []) #[false, false, false, false, false, false, false, false] (by kernel_rfl) rfl rfl ⟨(blk_cell BK314.out 0).trans rfl, (blk_cell BK314.out 1).trans rfl⟩ (fun hHeld => ?_); refine with_tabW becketlaw21_Plain.tab1 becketlaw21_Plain.bits1 (fun HT_ HW_ => ?_)
  generalize w5.drew = w6 at BK314 BK315 HB hHeld ⊢
  refine pure_ (i := 0) (N := some 3) (v := ?_) (a' := ?_) #[true, false, false, false, false, false, false, false] rfl rfl (any_of HT_.out (by kernel_rfl)) (fun _ _ _ h => h) (Or.inl ⟨by rfl, ?_⟩) ?_ ?_
  rotate_left
  · intro w'
    go_simp
    with_reducible rfl
  rotate_left
  · simp only [Act.put, List.setIfInBounds_toArray, List.set_cons_zero, List.set_cons_succ, i64_w, i32_w]
    rfl
  refine pure_ (i := 3) (N := some 6) (v := ?_) (a' := ?_) #[true, false, false, true, false, false, false, false] rfl rfl (any_of HT_.out (by kernel_rfl)) (fun _ _ _ h => h) (Or.inl ⟨by rfl, ?_⟩) ?_ ?_
  rotate_left
  · intro w'
    go_simp
    with_reducible rfl
  rotate_left
  · simp only [Act.put, List.setIfInBounds_toArray, List.set_cons_zero, List.set_cons_succ, i64_w, i32_w]
    rfl
  refine take_ (i := 1) (N := some 4) (v := ?_) (a' := ?_) #[true, true, false, true, false, false, false, false] rfl rfl (take_ofW HT_.out HW_.out (by kernel_rfl)) (fun _ _ _ h => h) (Or.inl ⟨by rfl, ?_⟩) hHeld ?_ ?_
  rotate_left
  · rintro w' ⟨s0, s1⟩
    go_simp
    with_reducible rfl
  rotate_left
  · simp only [Act.put, List.setIfInBounds_toArray, List.set_cons_zero, List.set_cons_succ, i64_w, i32_w]
    rfl
  refine take_ (i := 4) (N := some 7) (v := ?_) (a' := ?_) #[true, true, false, true, true, false, false, false] rfl rfl (take_ofW HT_.out HW_.out (by kernel_rfl)) (fun _ _ _ h => h) (Or.inl ⟨by rfl, ?_⟩) hHeld ?_ ?_
  rotate_left
  · rintro w' ⟨s0, s1⟩
    go_simp
    with_reducible rfl
  rotate_left
  · simp only [Act.put, List.setIfInBounds_toArray, List.set_cons_zero, List.set_cons_succ, i64_w, i32_w]
    rfl
  refine one_ (i := 2) (N := some 5) #[true, true, true, true, true, false, false, false] rfl rfl (one_of HT_.out (by kernel_rfl)) (by decide) (fun K hK => ?_)
  refine goes_ Tryd.func101 (by kernel_rfl) rfl #[.slice A0_0 l0_0.length c0_0] (by rfl) rfl rfl (by (try simp only [List.map_toArray, List.map_cons, List.map_nil]); first | done | rfl | (simp only [List.length_drop, List.length_take]; rfl)) ?_
  with_reducible refine (becketref04_Of.calls k _ _ l0_0 t316 _ ?side1 ?side2 A2.out).mono ?_
  (case side1 => exact (Kd.C_below HR0_0.out HB.out))
  (case side2 => exact HC0_0.out)
  rintro e w7 ⟨v317, rfl, ho0, hb⟩
  refine ⟨_, rfl, ?_⟩
  have HO318 := Aside0.mk (Kd.R_lower ho0 (below_size (by exact HB.out)))
  replace BK314 := Aside0.mk (blk_below BK314.out hb)
  replace BK315 := Aside0.mk (blk_below BK315.out hb)
  replace HB := Aside0.mk (below_step (by exact HB.out) hb)
  (try clear hb)
  (try clear hb2)
  (try clear hk)
  (try clear hi)
  (try clear ho0)
  refine hK.out _ _ ⟨(blk_cell BK314.out 0).trans rfl, (blk_cell BK314.out 1).trans rfl⟩ (fun hHeld => ?_)
  clear hK K
  refine norm_ (a' := ?_) ?_ ?_
  rotate_left
  · show Act.put _ (some 5) _ = _
    simp only [Act.put, List.setIfInBounds_toArray, List.set_cons_zero, List.set_cons_succ, i64_w, i32_w]
    rfl
  refine one_ (i := 5) (N := some 8) #[true, true, true, true, true, true, false, false] rfl rfl (one_of HT_.out (by kernel_rfl)) (by decide) (fun K hK => ?_)
  refine goes_ Tryd.func101 (by kernel_rfl) rfl #[.slice A0_1 l0_1.length c0_1] (by rfl) rfl rfl (by (try simp only [List.map_toArray, List.map_cons, List.map_nil]); first | done | rfl | (simp only [List.length_drop, List.length_take]; rfl)) ?_
  with_reducible refine (becketref04_Of.calls k _ _ l0_1 t319 _ ?side1 ?side2 A3.out).mono ?_
  (case side1 => exact (Kd.C_below HR0_1.out HB.out))
  (case side2 => exact HC0_1.out)
  rintro e w8 ⟨v320, rfl, ho0, hb⟩
  refine ⟨_, rfl, ?_⟩
  have HO321 := Aside0.mk (Kd.R_lower (Kd.R_new' ho0 (Kd.R_lt (by exact HO318.out))) (below_size (by exact HB.out)))
  replace HO318 := Aside0.mk (Kd.R_elder' (by exact HO318.out) (Kd.R_base ho0) hb)
  replace BK314 := Aside0.mk (blk_below BK314.out hb)
  replace BK315 := Aside0.mk (blk_below BK315.out hb)
  replace HB := Aside0.mk (below_step (by exact HB.out) hb)
  (try clear hb)
  (try clear hb2)
  (try clear hk)
  (try clear hi)
  (try clear ho0)
  obtain ⟨Ao9, co9, eo9⟩ := Kd.R_slice HO321.out
  (first | subst eo9 | (injection eo9 with f1_ f2_ f3_; have f4_ := f1_.symm; have f5_ := f3_.symm; clear f1_ f2_ f3_; subst f4_; subst f5_))
  obtain ⟨Ao10, co10, eo10⟩ := Kd.R_slice HO318.out
  (first | subst eo10 | (injection eo10 with f1_ f2_ f3_; have f4_ := f1_.symm; have f5_ := f3_.symm; clear f1_ f2_ f3_; subst f4_; subst f5_))
  refine hK.out _ _ ⟨(blk_cell BK314.out 0).trans rfl, (blk_cell BK314.out 1).trans rfl⟩ (fun hHeld => ?_)
  clear hK K
  refine norm_ (a' := ?_) ?_ ?_
  rotate_left
  · show Act.put _ (some 8) _ = _
    simp only [Act.put, List.setIfInBounds_toArray, List.set_cons_zero, List.set_cons_succ, i64_w, i32_w]
    rfl
  refine pure_ (i := 6) (N := some 9) (v := ?_) (a' := ?_) #[true, true, true, true, true, true, true, false] rfl rfl (any_of HT_.out (by kernel_rfl)) (fun _ _ _ h => h) (Or.inl ⟨by rfl, ?_⟩) ?_ ?_
  rotate_left
  · intro w'
    go_simp
    with_reducible rfl
  rotate_left
  · simp only [Act.put, List.setIfInBounds_toArray, List.set_cons_zero, List.set_cons_succ, i64_w, i32_w]
    rfl
  refine one_ (i := 7) (N := none) #[true, true, true, true, true, true, true, true] rfl rfl (one_of HT_.out (by kernel_rfl)) (by decide) (fun K hK => ?_)
  have hs11 : w8.cell? ⟨gb315, 0, none⟩ = some (.slice none 0 0) := (blk_cell BK315.out 0).trans rfl
  have hfs11 := blk_frozen BK315.out 0
  have hns11_0 := NB314_315.out
  have hms11_0 := NB315_314.out
  have hs12 : w8.cell? ⟨gb315, 1, none⟩ = some (.slice none 0 0) := (blk_cell BK315.out 1).trans rfl
  have hfs12 := blk_frozen BK315.out 1
  have hns12_0 := NB314_315.out
  have hms12_0 := NB315_314.out
  refine skip_ (w1 := ?_) (by rfl) rfl ?_ ?_
  rotate_left
  · go_simp
    rfl
  refine hK.out _ _ ⟨((cell_far (p := ⟨gb315, _, none⟩) NB314_315.out _).trans (((cell_far (p := ⟨gb315, _, none⟩) NB314_315.out _).trans (hHeld.1)))), ((cell_far (p := ⟨gb315, _, none⟩) NB314_315.out _).trans (((cell_far (p := ⟨gb315, _, none⟩) NB314_315.out _).trans (hHeld.2))))⟩ (fun hHeld => ?_)
  clear hK K
  refine done_ (done_of HT_.out (by kernel_rfl)) ?_
  try go_wp2
  refine bodyPost_ret (results_cell_row rfl _ _ gb315 45 #[.slice Ao10 t316.length co10, .slice Ao9 t319.length co9] (0, 0) _ rfl (by apply pt45_0_2; exact BK315.out) Tryd.underlying45 rfl (by kernel_rfl)) rfl ?_
  exact ⟨_, _, by first | rfl | (simp [errW_none, errW_some] <;> rfl) | (simp [*, errW_none, errW_some] <;> rfl), by (with_reducible repeat (first | apply Kd.R_alloc | apply Kd.R_drewN | apply Kd.R_drew)); exact Kd.R_mono (Kd.R_far (p := ⟨gb315, 1, none⟩) (Kd.R_far (p := ⟨gb315, 0, none⟩) (Kd.R_types HO318.out BK315.out (by decide)) (fun _ hk => hk.2) (.slice Ao10 t316.length co10)) (fun _ hk => hk.2) (.slice Ao9 t319.length co9)) (fun _ hk => hk.1.2), by (with_reducible repeat (first | apply Kd.R_alloc | apply Kd.R_drewN | apply Kd.R_drew)); exact Kd.R_mono (Kd.R_far (p := ⟨gb315, 1, none⟩) (Kd.R_far (p := ⟨gb315, 0, none⟩) (Kd.R_types HO321.out BK315.out (by decide)) (fun _ hk => hk.2) (.slice Ao10 t316.length co10)) (fun _ hk => hk.2) (.slice Ao9 t319.length co9)) (fun _ hk => hk.1.2), by repeat (first | (with_reducible first | exact HB.out | apply below_alloc | apply pw_below_drewN | apply below_drew1 | refine below_set ?_ GE314.out | refine below_set ?_ GE315.out) | exact HB.out)⟩

/-! ### becketlaw22_Plain: function 22 -/
def becketlaw22_Plain.f (k : Nat) (a0_0 : Bool) (a0_1 : Int) (l0_2 : List Int) (l0_3 : List Int) (a0_4 : Int) : Option (Bool × Int × List Int × List Int × Int) := (becketlaw21_Plain.f k l0_2 l0_3).bind fun bt324 => (some (a0_0, a0_1, bt324.1, bt324.2, a0_4))
theorem becketlaw22_Plain.mono : ∀ a0 a1 a2 a3 a4 k, LeO (becketlaw22_Plain.f k a0 a1 a2 a3 a4) (becketlaw22_Plain.f (k + 1) a0 a1 a2 a3 a4) := by
  intro a0 a1 a2 a3 a4 k
  unfold becketlaw22_Plain.f
  repeat' first
      | (with_reducible exact becketlaw21_Plain.mono _ _ _)
      | (with_reducible exact LeO.refl _)
      | (with_reducible exact LeO.none _)
      | (with_reducible refine LeO.ite ?_ ?_)
      | (with_reducible refine LeO.bind ?_ (fun _ => ?_))
      | exact becketlaw21_Plain.mono _ _ _
      | exact LeO.none _
      | refine LeO.ite ?_ ?_
      | refine LeO.bind ?_ (fun _ => ?_)
def becketlaw22_Plain.T1 : Bool × List (List Nat × List Nat) := (true, [([], []), ([0], [0]), ([], []), ([2], [2]), ([3], [3]), ([], []), ([5], [5]), ([1, 4, 6], [1, 4, 6]), ([7, 4, 0, 1, 2, 3, 4, 5, 6, 7], [7])])
def becketlaw22_Plain.B1 : List Nat := [0, 1, 0, 4, 12, 0, 32, 127, 255]
theorem becketlaw22_Plain.tab1 : rtab .any (opsOf Tryd.f22 1) = becketlaw22_Plain.T1 := by kernel_rfl
theorem becketlaw22_Plain.bits1 : waitsOk becketlaw22_Plain.T1.2 becketlaw22_Plain.B1 = true := by kernel_rfl
set_option maxHeartbeats 8000000 in
set_option maxRecDepth 100000 in
theorem becketlaw22_Plain.calls (k : Nat) (a0_0 : Bool) (a0_1 : Int) (A0_2 : Option Addr) (c0_2 : Nat) (l0_2 : List Int) (A0_3 : Option Addr) (c0_3 : Nat) (l0_3 : List Int) (a0_4 : Int) (r1 : Bool) (r2 : Int) (r3 : List Int) (r4 : List Int) (r5 : Int) (w : World) (hr0_2 : Kd.C (Kd.int .i64) w A0_2 l0_2.length l0_2) (hc0_2 : l0_2.length ≤ c0_2) (hr0_3 : Kd.C (Kd.int .i64) w A0_3 l0_3.length l0_3) (hc0_3 : l0_3.length ≤ c0_3) (h : becketlaw22_Plain.f k a0_0 a0_1 l0_2 l0_3 a0_4 = some (r1, r2, r3, r4, r5)) :
    Calls Tryd.prog 22 #[.agg #[.bool a0_0, .int .i64 a0_1, .slice A0_2 l0_2.length c0_2, .slice A0_3 l0_3.length c0_3, .int .i64 a0_4]] w fun e w' => ∃ v2_ v3_ : Value, e = .returned (.agg #[.bool r1, .int .i64 r2, v2_, v3_, .int .i64 r5]) ∧ Kd.R (Kd.int .i64) 3 w' w.heap.size (fun k_ => some k_ ≠ (v3_ : Value).ownBlock) v2_ r3 ∧ Kd.R (Kd.int .i64) 3 w' w.heap.size (fun k_ => some k_ ≠ (v2_ : Value).ownBlock) v3_ r4 ∧ Below w.heap.size w w' := by
  have hu47 := Tryd.underlying47
  have hu43 := Tryd.underlying43
  have hu45 := Tryd.underlying45
  have HR0_2 := Aside0.mk hr0_2
  have HC0_2 := Aside0.mk hc0_2
  clear hr0_2 hc0_2
  have HR0_3 := Aside0.mk hr0_3
  have HC0_3 := Aside0.mk hc0_3
  clear hr0_3 hc0_3
  have HB := Aside0.mk (Below.refl w.heap.size w)
  have H : ((becketlaw21_Plain.f k l0_2 l0_3).bind fun bt324 => (some (a0_0, a0_1, bt324.1, bt324.2, a0_4))) = some (r1, r2, r3, r4, r5) := h
  clear h
  replace H := Option.bind_eq_some_iff.mp H
  obtain ⟨⟨t324, t327⟩, A20, H⟩ := H
  replace H : (some (a0_0, a0_1, t324, t327, a0_4)) = some (r1, r2, r3, r4, r5) := H
  have A2 := Aside0.mk A20
  clear A20
  simp only [Option.some.injEq, Prod.mk.injEq] at H
  obtain ⟨rfl, rfl, rfl, rfl, rfl⟩ := H
  go_enter Tryd.func22, Tryd.ntmps22
  try go_wp2_with (first | ((with_reducible refine gate_dst (N := 1) rfl ?_); refine box_event ?hg (N := 1) ?hd (cs := #[.bool a0_0, .int .i64 a0_1, .slice A0_2 l0_2.length c0_2, .slice A0_3 l0_3.length c0_3, .int .i64 a0_4]) (t := 47) ?hr ?_; (case hd => rfl); (case hg => rfl); (case hr => first | (go_simp; done) | (go_simp; rfl)); intro gb322 hg w3 hbox hb; have BK322 := Aside0.mk (hbox); have GW322 := Aside0.mk ((by rw [hg]; exact (below_size (by exact HB.out)) : w.heap.size ≤ gb322)); have GE322 := Aside0.mk ((by rw [hg]; exact (below_size (by exact HB.out)) : w.heap.size ≤ gb322)); replace HB := Aside0.mk (below_step (by exact HB.out) hb); clear hb hbox hg) | ((with_reducible refine gate_dst (N := 2) rfl ?_); refine box_event ?hg (N := 2) ?hd (cs := #[.bool false, .int .i64 0, .slice none 0 0, .slice none 0 0, .int .i64 0]) (t := 47) ?hr ?_; (case hd => rfl); (case hg => rfl); (case hr => first | (go_simp; done) | (go_simp; rfl)); intro gb323 hg w4 hbox hb; have BK323 := Aside0.mk (hbox); have GW323 := Aside0.mk ((by rw [hg]; exact (below_size (by exact HB.out)) : w.heap.size ≤ gb323)); have GE323 := Aside0.mk ((by rw [hg]; exact (below_size (by exact HB.out)) : w.heap.size ≤ gb323)); replace HB := Aside0.mk (below_step (by exact HB.out) hb); have NB322_323 := Aside0.mk ((by rw [hg]; exact Nat.ne_of_lt (blk_lt BK322.out) : gb322 ≠ gb323)); have NB323_322 := Aside0.mk ((by rw [hg]; exact Nat.ne_of_gt (blk_lt BK322.out) : gb323 ≠ gb322)); replace BK322 := Aside0.mk (blk_below BK322.out hb); clear hb hbox hg))
  replace BK322 := Aside0.mk (blk_drew BK322.out)
  replace BK323 := Aside0.mk (blk_drew BK323.out)
  replace HB := Aside0.mk (below_drew1 HB.out)
  refine start_ (n := 9) (S := fun w' => w'.cell? ⟨gb322, 0, none⟩ = some (.bool a0_0) ∧ w'.cell? ⟨gb322, 1, none⟩ = some (.int .i64 a0_1) ∧ w'.cell? ⟨gb322, 2, none⟩ = some (.slice A0_2 l0_2.length c0_2) ∧ w'.cell? ⟨gb322, 3, none⟩ = some (.slice A0_3 l0_3.length c0_3) ∧ w'.cell? ⟨gb322, 4, none⟩ = some (.int .i64 a0_4)) (ds := []) #[false, false, false, false, false, false, false, false, false] (by kernel_rfl) rfl rfl ⟨(blk_cell BK322.out 0).trans rfl, (blk_cell BK322.out 1).trans rfl, (blk_cell BK322.out 2).trans rfl, (blk_cell BK322.out 3).trans rfl, (blk_cell BK322.out 4).trans rfl⟩ (fun hHeld => ?_); refine with_tabW becketlaw22_Plain.tab1 becketlaw22_Plain.bits1 (fun HT_ HW_ => ?_)
  generalize w4.drew = w5 at BK322 BK323 HB hHeld ⊢
  refine pure_ (i := 0) (N := some 3) (v := ?_) (a' := ?_) #[true, false, false, false, false, false, false, false, false] rfl rfl (any_of HT_.out (by kernel_rfl)) (fun _ _ _ h => h) (Or.inl ⟨by rfl, ?_⟩) ?_ ?_
  rotate_left
  · intro w'
    go_simp
    with_reducible rfl
  rotate_left
  · simp only [Act.put, List.setIfInBounds_toArray, List.set_cons_zero, List.set_cons_succ, i64_w, i32_w]
    rfl
  refine pure_ (i := 2) (N := some 5) (v := ?_) (a' := ?_) #[true, false, true, false, false, false, false, false, false] rfl rfl (any_of HT_.out (by kernel_rfl)) (fun _ _ _ h => h) (Or.inl ⟨by rfl, ?_⟩) ?_ ?_
  rotate_left
  · intro w'
    go_simp
    with_reducible rfl
  rotate_left
  · simp only [Act.put, List.setIfInBounds_toArray, List.set_cons_zero, List.set_cons_succ, i64_w, i32_w]
    rfl
  refine pure_ (i := 5) (N := some 8) (v := ?_) (a' := ?_) #[true, false, true, false, false, true, false, false, false] rfl rfl (any_of HT_.out (by kernel_rfl)) (fun _ _ _ h => h) (Or.inl ⟨by rfl, ?_⟩) ?_ ?_
  rotate_left
  · intro w'
    go_simp
    with_reducible rfl
  rotate_left
  · simp only [Act.put, List.setIfInBounds_toArray, List.set_cons_zero, List.set_cons_succ, i64_w, i32_w]
    rfl
  refine take_ (i := 1) (N := some 4) (v := ?_) (a' := ?_) #[true, true, true, false, false, true, false, false, false] rfl rfl (take_ofW HT_.out HW_.out (by kernel_rfl)) (fun _ _ _ h => h) (Or.inl ⟨by rfl, ?_⟩) hHeld ?_ ?_
  rotate_left
  · rintro w' ⟨s0, s1, s2, s3, s4⟩
    go_simp
    with_reducible rfl
  rotate_left
  · simp only [Act.put, List.setIfInBounds_toArray, List.set_cons_zero, List.set_cons_succ, i64_w, i32_w]
    rfl
  refine take_ (i := 3) (N := some 6) (v := ?_) (a' := ?_) #[true, true, true, true, false, true, false, false, false] rfl rfl (take_ofW HT_.out HW_.out (by kernel_rfl)) (fun _ _ _ h => h) (Or.inl ⟨by rfl, ?_⟩) hHeld ?_ ?_
  rotate_left
  · rintro w' ⟨s0, s1, s2, s3, s4⟩
    go_simp
    with_reducible rfl
  rotate_left
  · simp only [Act.put, List.setIfInBounds_toArray, List.set_cons_zero, List.set_cons_succ, i64_w, i32_w]
    rfl
  refine take_ (i := 6) (N := some 9) (v := ?_) (a' := ?_) #[true, true, true, true, false, true, true, false, false] rfl rfl (take_ofW HT_.out HW_.out (by kernel_rfl)) (fun _ _ _ h => h) (Or.inl ⟨by rfl, ?_⟩) hHeld ?_ ?_
  rotate_left
  · rintro w' ⟨s0, s1, s2, s3, s4⟩
    go_simp
    with_reducible rfl
  rotate_left
  · simp only [Act.put, List.setIfInBounds_toArray, List.set_cons_zero, List.set_cons_succ, i64_w, i32_w]
    rfl
  refine one_ (i := 4) (N := some 7) #[true, true, true, true, true, true, true, false, false] rfl rfl (one_of HT_.out (by kernel_rfl)) (by decide) (fun K hK => ?_)
  refine goes_ Tryd.func74 (by kernel_rfl) rfl #[.agg #[.slice A0_2 l0_2.length c0_2, .slice A0_3 l0_3.length c0_3]] (by rfl) rfl rfl (by (try simp only [List.map_toArray, List.map_cons, List.map_nil]); first | done | rfl | (simp only [List.length_drop, List.length_take]; rfl)) ?_
  with_reducible refine (becketlaw21_Plain.calls k _ _ l0_2 _ _ l0_3 t324 t327 _ ?side1 ?side2 ?side3 ?side4 A2.out).mono ?_
  (case side1 => exact (Kd.C_below HR0_2.out HB.out))
  (case side2 => exact HC0_2.out)
  (case side3 => exact (Kd.C_below HR0_3.out HB.out))
  (case side4 => exact HC0_3.out)
  rintro e w6 ⟨v325, v328, rfl, ho0, ho1, hb⟩
  refine ⟨_, rfl, ?_⟩
  have HO326 := Aside0.mk (Kd.R_lower ho0 (below_size (by exact HB.out)))
  have HO329 := Aside0.mk (Kd.R_lower ho1 (below_size (by exact HB.out)))
  replace BK322 := Aside0.mk (blk_below BK322.out hb)
  replace BK323 := Aside0.mk (blk_below BK323.out hb)
  replace HB := Aside0.mk (below_step (by exact HB.out) hb)
  (try clear hb)
  (try clear hb2)
  (try clear hk)
  (try clear hi)
  (try clear ho0)
  (try clear ho1)
  obtain ⟨Ao7, co7, eo7⟩ := Kd.R_slice HO329.out
  (first | subst eo7 | (injection eo7 with f1_ f2_ f3_; have f4_ := f1_.symm; have f5_ := f3_.symm; clear f1_ f2_ f3_; subst f4_; subst f5_))
  obtain ⟨Ao8, co8, eo8⟩ := Kd.R_slice HO326.out
  (first | subst eo8 | (injection eo8 with f1_ f2_ f3_; have f4_ := f1_.symm; have f5_ := f3_.symm; clear f1_ f2_ f3_; subst f4_; subst f5_))
  refine hK.out _ _ ⟨(blk_cell BK322.out 0).trans rfl, (blk_cell BK322.out 1).trans rfl, (blk_cell BK322.out 2).trans rfl, (blk_cell BK322.out 3).trans rfl, (blk_cell BK322.out 4).trans rfl⟩ (fun hHeld => ?_)
  clear hK K
  refine norm_ (a' := ?_) ?_ ?_
  rotate_left
  · show Act.put _ (some 7) _ = _
    simp only [Act.put, List.setIfInBounds_toArray, List.set_cons_zero, List.set_cons_succ, i64_w, i32_w]
    rfl
  refine pure_ (i := 7) (N := some 10) (v := ?_) (a' := ?_) #[true, true, true, true, true, true, true, true, false] rfl rfl (any_of HT_.out (by kernel_rfl)) (fun _ _ _ h => h) (Or.inl ⟨by rfl, ?_⟩) ?_ ?_
  rotate_left
  · intro w'
    go_simp
    with_reducible rfl
  rotate_left
  · simp only [Act.put, List.setIfInBounds_toArray, List.set_cons_zero, List.set_cons_succ, i64_w, i32_w]
    rfl
  refine one_ (i := 8) (N := none) #[true, true, true, true, true, true, true, true, true] rfl rfl (one_of HT_.out (by kernel_rfl)) (by decide) (fun K hK => ?_)
  have hs9 : w6.cell? ⟨gb323, 0, none⟩ = some (.bool false) := (blk_cell BK323.out 0).trans rfl
  have hfs9 := blk_frozen BK323.out 0
  have hns9_0 := NB322_323.out
  have hms9_0 := NB323_322.out
  have hs10 : w6.cell? ⟨gb323, 1, none⟩ = some (.int .i64 0) := (blk_cell BK323.out 1).trans rfl
  have hfs10 := blk_frozen BK323.out 1
  have hns10_0 := NB322_323.out
  have hms10_0 := NB323_322.out
  have hs11 : w6.cell? ⟨gb323, 2, none⟩ = some (.slice none 0 0) := (blk_cell BK323.out 2).trans rfl
  have hfs11 := blk_frozen BK323.out 2
  have hns11_0 := NB322_323.out
  have hms11_0 := NB323_322.out
  have hs12 : w6.cell? ⟨gb323, 3, none⟩ = some (.slice none 0 0) := (blk_cell BK323.out 3).trans rfl
  have hfs12 := blk_frozen BK323.out 3
  have hns12_0 := NB322_323.out
  have hms12_0 := NB323_322.out
  have hs13 : w6.cell? ⟨gb323, 4, none⟩ = some (.int .i64 0) := (blk_cell BK323.out 4).trans rfl
  have hfs13 := blk_frozen BK323.out 4
  have hns13_0 := NB322_323.out
  have hms13_0 := NB323_322.out
  refine skip_ (w1 := ?_) (by rfl) rfl ?_ ?_
  rotate_left
  · go_simp
    rfl
  refine hK.out _ _ ⟨((cell_far (p := ⟨gb323, _, none⟩) NB322_323.out _).trans (((cell_far (p := ⟨gb323, _, none⟩) NB322_323.out _).trans (((cell_far (p := ⟨gb323, _, none⟩) NB322_323.out _).trans (((cell_far (p := ⟨gb323, _, none⟩) NB322_323.out _).trans (((cell_far (p := ⟨gb323, _, none⟩) NB322_323.out _).trans (hHeld.1)))))))))), ((cell_far (p := ⟨gb323, _, none⟩) NB322_323.out _).trans (((cell_far (p := ⟨gb323, _, none⟩) NB322_323.out _).trans (((cell_far (p := ⟨gb323, _, none⟩) NB322_323.out _).trans (((cell_far (p := ⟨gb323, _, none⟩) NB322_323.out _).trans (((cell_far (p := ⟨gb323, _, none⟩) NB322_323.out _).trans (hHeld.2.1)))))))))), ((cell_far (p := ⟨gb323, _, none⟩) NB322_323.out _).trans (((cell_far (p := ⟨gb323, _, none⟩) NB322_323.out _).trans (((cell_far (p := ⟨gb323, _, none⟩) NB322_323.out _).trans (((cell_far (p := ⟨gb323, _, none⟩) NB322_323.out _).trans (((cell_far (p := ⟨gb323, _, none⟩) NB322_323.out _).trans (hHeld.2.2.1)))))))))), ((cell_far (p := ⟨gb323, _, none⟩) NB322_323.out _).trans (((cell_far (p := ⟨gb323, _, none⟩) NB322_323.out _).trans (((cell_far (p := ⟨gb323, _, none⟩) NB322_323.out _).trans (((cell_far (p := ⟨gb323, _, none⟩) NB322_323.out _).trans (((cell_far (p := ⟨gb323, _, none⟩) NB322_323.out _).trans (hHeld.2.2.2.1)))))))))), ((cell_far (p := ⟨gb323, _, none⟩) NB322_323.out _).trans (((cell_far (p := ⟨gb323, _, none⟩) NB322_323.out _).trans (((cell_far (p := ⟨gb323, _, none⟩) NB322_323.out _).trans (((cell_far (p := ⟨gb323, _, none⟩) NB322_323.out _).trans (((cell_far (p := ⟨gb323, _, none⟩) NB322_323.out _).trans (hHeld.2.2.2.2))))))))))⟩ (fun hHeld => ?_)
  clear hK K
  refine done_ (done_of HT_.out (by kernel_rfl)) ?_
  try go_wp2
  refine bodyPost_ret (results_cell_row rfl _ _ gb323 47 #[.bool a0_0, .int .i64 a0_1, .slice Ao8 t324.length co8, .slice Ao7 t327.length co7, .int .i64 a0_4] (0, 0) _ rfl (by apply pt47_0_5; exact BK323.out) Tryd.underlying47 rfl (by kernel_rfl)) rfl ?_
  exact ⟨_, _, by first | rfl | (simp [errW_none, errW_some] <;> rfl) | (simp [*, errW_none, errW_some] <;> rfl), by (with_reducible repeat (first | apply Kd.R_alloc | apply Kd.R_drewN | apply Kd.R_drew)); exact Kd.R_mono (Kd.R_far (p := ⟨gb323, 4, none⟩) (Kd.R_far (p := ⟨gb323, 3, none⟩) (Kd.R_far (p := ⟨gb323, 2, none⟩) (Kd.R_far (p := ⟨gb323, 1, none⟩) (Kd.R_far (p := ⟨gb323, 0, none⟩) (Kd.R_types HO326.out BK323.out (by decide)) (fun _ hk => hk.2) (.bool a0_0)) (fun _ hk => hk.2) (.int .i64 a0_1)) (fun _ hk => hk.2) (.slice Ao8 t324.length co8)) (fun _ hk => hk.2) (.slice Ao7 t327.length co7)) (fun _ hk => hk.2) (.int .i64 a0_4)) (fun _ hk => hk.1), by (with_reducible repeat (first | apply Kd.R_alloc | apply Kd.R_drewN | apply Kd.R_drew)); exact Kd.R_mono (Kd.R_far (p := ⟨gb323, 4, none⟩) (Kd.R_far (p := ⟨gb323, 3, none⟩) (Kd.R_far (p := ⟨gb323, 2, none⟩) (Kd.R_far (p := ⟨gb323, 1, none⟩) (Kd.R_far (p := ⟨gb323, 0, none⟩) (Kd.R_types HO329.out BK323.out (by decide)) (fun _ hk => hk.2) (.bool a0_0)) (fun _ hk => hk.2) (.int .i64 a0_1)) (fun _ hk => hk.2) (.slice Ao8 t324.length co8)) (fun _ hk => hk.2) (.slice Ao7 t327.length co7)) (fun _ hk => hk.2) (.int .i64 a0_4)) (fun _ hk => hk.1), by repeat (first | (with_reducible first | exact HB.out | apply below_alloc | apply pw_below_drewN | apply below_drew1 | refine below_set ?_ GE322.out | refine below_set ?_ GE323.out) | exact HB.out)⟩

/-! ### becketref04_Words: function 102 -/
def becketref04_Words.f (l0 : List Int) : Option (Int × Int × Int × Int) := some (Go.Proofs.YtdaionnpgcdkdaaDoor.tupS (Go.Proofs.YtdaionnpgcdkdaaDoor.setL l0))
theorem becketref04_Words.calls (A0 : Option Addr) (c0 : Nat) (l0 : List Int) (r1 : Int) (r2 : Int) (r3 : Int) (r4 : Int) (w : World) (hr0 : Kd.C (Kd.int .i64) w A0 l0.length l0) (hc0 : l0.length ≤ c0) (h : becketref04_Words.f l0 = some (r1, r2, r3, r4)) :
    Calls Tryd.prog 102 #[.slice A0 l0.length c0] w fun e w' => e = .returned (.agg #[.int .u64 r1, .int .u64 r2, .int .u64 r3, .int .u64 r4]) ∧ Below w.heap.size w w' := by
  unfold becketref04_Words.f at h
  simp only [Go.Proofs.YtdaionnpgcdkdaaDoor.tupS, Option.some.injEq, Prod.mk.injEq] at h
  obtain ⟨rfl, rfl, rfl, rfl⟩ := h
  obtain ⟨_, hm, hc⟩ := Kd.reads_of_C (d := (0 : Int)) hr0
  exact Go.Proofs.YtdaionnpgcdkdaaDoor.words_any A0 l0 c0 w ⟨A0, c0, rfl, hm, hc⟩

end Go.Proofs.YtdaionnpgcdkdaaDoorP.Bar
