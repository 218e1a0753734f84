/- Printed by a program of this session over the kit's print.py: the machine's side of Go functions as plain Lean functions, each with its proof. -/
import Derived.Test.YtdaionnpgcdkdaaDoorPNewx0
import Derived.Test.YtdaionnpgcdkdaaDoorPNewx1
import Derived.Test.YtdaionnpgcdkdaaDoorPNewx2
import Derived.Test.YtdaionnpgcdkdaaDoorPNewx4
import Derived.Test.YtdaionnpgcdkdaaDoorPNewx5
import Derived.Test.YtdaionnpgcdkdaaDoorPNewx6
import Derived.Test.YtdaionnpgcdkdaaDoorPNewx7
namespace Go.Proofs.YtdaionnpgcdkdaaDoorP.New
open Go.RowKit Go.Proofs.YtdaionnpgcdkdaaDoorW.PrintWords Go.Proofs.YtdaionnpgcdkdaaDoorW.PrintLast Go.Proofs.YtdaionnpgcdkdaaDoorW.PrintMore
attribute [local go_sem] max2_int min2_int max_two min_two max_three min_three max_four min_four   -- for this text's walks alone
set_option linter.unusedVariables false
set_option linter.unusedSimpArgs false

attribute [local go_sem high] eqA26 eqA43
/-! ### becketlaw23_alive: function 47 -/
def becketlaw23_alive.f (k : Nat)  : Option (Bool) := (bartab_New.f k (([(⟨true, 5⟩ : S43), (⟨false, 5⟩ : S43)] : List (S43)))).bind fun bt259 => ((bartab_Enrol.f bt259.1 0 3).bind fun bt264 => ((bartab_Enrol.f bt264.1 1 3).bind fun bt268 => ((bartab_Offer.f k bt268.1 3 (([(⟨3, 0, 0, 0, 0⟩ : S132), (⟨3, 1, 0, 0, 0⟩ : S132)] : List (S132))) true).bind fun bt275 => ((bartab_Offer.f k bt268.1 3 (([(⟨3, 0, 0, 0, 0⟩ : S132)] : List (S132))) true).bind fun bt283 => ((bartab_Fire.f bt283.1 0).bind fun bt288 => ((bartab_Resign.f bt288.1 2 3).bind fun bt295 => (if bt259.2.1 = 0 then (if bt259.2.2 = 0 then (if bt264.2 = 0 then (if bt268.2 = 0 then (if bt275.2.1 = 1 then (if bt275.2.2 = 12 then (if bt283.2.2 = 0 then ((bartab_Ready.f k bt283.1).bind fun t299 => ((becketref02_Same.f k t299 (([0] : List Int))).bind fun t305 => (if t305 = true then ((bartab_Leave.f bt283.1 3).bind fun t306 => ((bartab_Ready.f k t306).bind fun t309 => (if (t309.length : Int) = 0 then (if bt288.2.2 = 0 then ((becketref02_Same.f k bt288.2.1 (([3] : List Int))).bind fun t315 => (if t315 = true then (if bt295.2 = 8 then ((bartab_Quit.f bt288.1 3).bind fun t316 => (if 1 < (t316.length : Int) then (some (((rd_T51 t316 1).f1.f0.f0) == 0 && (((rd_T51 t316 1).f1.f0.f1) == 0 && (((rd_T51 t316 1).f1.f0.f2) == 0 && (((rd_T51 t316 1).f1.f0.f3) == 0))))) else (none))) else (none)) else (none))) else (none)) else (none)))) else (none)))) else (none)) else (none)) else (none)) else (none)) else (none)) else (none)) else (none))))))))
theorem becketlaw23_alive.mono : ∀ k, LeO (becketlaw23_alive.f k ) (becketlaw23_alive.f (k + 1) ) := by
  intro  k
  unfold becketlaw23_alive.f
  repeat' first
      | (with_reducible exact bartab_New.mono _ _)
      | (with_reducible exact bartab_Offer.mono _ _ _ _ _)
      | (with_reducible exact bartab_Ready.mono _ _)
      | (with_reducible exact becketref02_Same.mono _ _ _)
      | (with_reducible exact LeO.refl _)
      | (with_reducible exact LeO.none _)
      | (with_reducible refine LeO.ite ?_ ?_)
      | (with_reducible refine LeO.bind ?_ (fun _ => ?_))
      | exact bartab_New.mono _ _
      | exact bartab_Offer.mono _ _ _ _ _
      | exact bartab_Ready.mono _ _
      | exact becketref02_Same.mono _ _ _
      | exact LeO.none _
      | refine LeO.ite ?_ ?_
      | refine LeO.bind ?_ (fun _ => ?_)
set_option maxHeartbeats 8000000 in
set_option maxRecDepth 100000 in
theorem becketlaw23_alive.calls (k : Nat)  (r : Bool) (w : World) (hG : Go.Proofs.YtdaionnpgcdkdaaDoor.GLW w) (h : becketlaw23_alive.f k  = some r) :
    Calls Tryd.prog 47 #[] w fun e w' => e = .returned (.bool r) ∧ Below w.heap.size w w' := by
  have hu43 := Tryd.underlying43
  have hu132 := Tryd.underlying132
  have hu26 := Tryd.underlying26
  have HB := Aside0.mk (Below.refl w.heap.size w)
  have H : ((bartab_New.f k (([(⟨true, 5⟩ : S43), (⟨false, 5⟩ : S43)] : List (S43)))).bind fun bt259 => ((bartab_Enrol.f bt259.1 0 3).bind fun bt264 => ((bartab_Enrol.f bt264.1 1 3).bind fun bt268 => ((bartab_Offer.f k bt268.1 3 (([(⟨3, 0, 0, 0, 0⟩ : S132), (⟨3, 1, 0, 0, 0⟩ : S132)] : List (S132))) true).bind fun bt275 => ((bartab_Offer.f k bt268.1 3 (([(⟨3, 0, 0, 0, 0⟩ : S132)] : List (S132))) true).bind fun bt283 => ((bartab_Fire.f bt283.1 0).bind fun bt288 => ((bartab_Resign.f bt288.1 2 3).bind fun bt295 => (if bt259.2.1 = 0 then (if bt259.2.2 = 0 then (if bt264.2 = 0 then (if bt268.2 = 0 then (if bt275.2.1 = 1 then (if bt275.2.2 = 12 then (if bt283.2.2 = 0 then ((bartab_Ready.f k bt283.1).bind fun t299 => ((becketref02_Same.f k t299 (([0] : List Int))).bind fun t305 => (if t305 = true then ((bartab_Leave.f bt283.1 3).bind fun t306 => ((bartab_Ready.f k t306).bind fun t309 => (if (t309.length : Int) = 0 then (if bt288.2.2 = 0 then ((becketref02_Same.f k bt288.2.1 (([3] : List Int))).bind fun t315 => (if t315 = true then (if bt295.2 = 8 then ((bartab_Quit.f bt288.1 3).bind fun t316 => (if 1 < (t316.length : Int) then (some (((rd_T51 t316 1).f1.f0.f0) == 0 && (((rd_T51 t316 1).f1.f0.f1) == 0 && (((rd_T51 t316 1).f1.f0.f2) == 0 && (((rd_T51 t316 1).f1.f0.f3) == 0))))) else (none))) else (none)) else (none))) else (none)) else (none)))) else (none)))) else (none)) else (none)) else (none)) else (none)) else (none)) else (none)) else (none))))))))) = some r := h
  clear h
  obtain ⟨y256, hy256⟩ : ∃ y_ : List (S43), y_ = (([(⟨true, 5⟩ : S43), (⟨false, 5⟩ : S43)] : List (S43))) := ⟨_, rfl⟩
  replace H : ((bartab_New.f k y256).bind fun bt259 => ((bartab_Enrol.f bt259.1 0 3).bind fun bt264 => ((bartab_Enrol.f bt264.1 1 3).bind fun bt268 => ((bartab_Offer.f k bt268.1 3 (([(⟨3, 0, 0, 0, 0⟩ : S132), (⟨3, 1, 0, 0, 0⟩ : S132)] : List (S132))) true).bind fun bt275 => ((bartab_Offer.f k bt268.1 3 (([(⟨3, 0, 0, 0, 0⟩ : S132)] : List (S132))) true).bind fun bt283 => ((bartab_Fire.f bt283.1 0).bind fun bt288 => ((bartab_Resign.f bt288.1 2 3).bind fun bt295 => (if bt259.2.1 = 0 then (if bt259.2.2 = 0 then (if bt264.2 = 0 then (if bt268.2 = 0 then (if bt275.2.1 = 1 then (if bt275.2.2 = 12 then (if bt283.2.2 = 0 then ((bartab_Ready.f k bt283.1).bind fun t299 => ((becketref02_Same.f k t299 (([0] : List Int))).bind fun t305 => (if t305 = true then ((bartab_Leave.f bt283.1 3).bind fun t306 => ((bartab_Ready.f k t306).bind fun t309 => (if (t309.length : Int) = 0 then (if bt288.2.2 = 0 then ((becketref02_Same.f k bt288.2.1 (([3] : List Int))).bind fun t315 => (if t315 = true then (if bt295.2 = 8 then ((bartab_Quit.f bt288.1 3).bind fun t316 => (if 1 < (t316.length : Int) then (some (((rd_T51 t316 1).f1.f0.f0) == 0 && (((rd_T51 t316 1).f1.f0.f1) == 0 && (((rd_T51 t316 1).f1.f0.f2) == 0 && (((rd_T51 t316 1).f1.f0.f3) == 0))))) else (none))) else (none)) else (none))) else (none)) else (none)))) else (none)))) else (none)) else (none)) else (none)) else (none)) else (none)) else (none)) else (none))))))))) = some r := by first | (rw [hy256]; with_reducible exact H) | (have H2_ := (Option.bind_some _ _).symm.trans H; rw [hy256]; with_reducible exact H2_) | (have H2_ := (Option.bind_some _ _).symm.trans H; with_reducible exact H2_) | with_reducible exact H | (rw [hy256]; exact H) | exact H
  have Ny256 := Aside0.mk hy256
  clear hy256
  replace H := Option.bind_eq_some_iff.mp H
  obtain ⟨⟨t259, t260, t261⟩, A10, H⟩ := H
  replace H : ((bartab_Enrol.f t259 0 3).bind fun bt264 => ((bartab_Enrol.f bt264.1 1 3).bind fun bt268 => ((bartab_Offer.f k bt268.1 3 (([(⟨3, 0, 0, 0, 0⟩ : S132), (⟨3, 1, 0, 0, 0⟩ : S132)] : List (S132))) true).bind fun bt275 => ((bartab_Offer.f k bt268.1 3 (([(⟨3, 0, 0, 0, 0⟩ : S132)] : List (S132))) true).bind fun bt283 => ((bartab_Fire.f bt283.1 0).bind fun bt288 => ((bartab_Resign.f bt288.1 2 3).bind fun bt295 => (if t260 = 0 then (if t261 = 0 then (if bt264.2 = 0 then (if bt268.2 = 0 then (if bt275.2.1 = 1 then (if bt275.2.2 = 12 then (if bt283.2.2 = 0 then ((bartab_Ready.f k bt283.1).bind fun t299 => ((becketref02_Same.f k t299 (([0] : List Int))).bind fun t305 => (if t305 = true then ((bartab_Leave.f bt283.1 3).bind fun t306 => ((bartab_Ready.f k t306).bind fun t309 => (if (t309.length : Int) = 0 then (if bt288.2.2 = 0 then ((becketref02_Same.f k bt288.2.1 (([3] : List Int))).bind fun t315 => (if t315 = true then (if bt295.2 = 8 then ((bartab_Quit.f bt288.1 3).bind fun t316 => (if 1 < (t316.length : Int) then (some (((rd_T51 t316 1).f1.f0.f0) == 0 && (((rd_T51 t316 1).f1.f0.f1) == 0 && (((rd_T51 t316 1).f1.f0.f2) == 0 && (((rd_T51 t316 1).f1.f0.f3) == 0))))) else (none))) else (none)) else (none))) else (none)) else (none)))) else (none)))) else (none)) else (none)) else (none)) else (none)) else (none)) else (none)) else (none)))))))) = some r := H
  have A1 := Aside0.mk A10
  clear A10
  replace H := Option.bind_eq_some_iff.mp H
  obtain ⟨⟨t264, t267⟩, A20, H⟩ := H
  replace H : ((bartab_Enrol.f t264 1 3).bind fun bt268 => ((bartab_Offer.f k bt268.1 3 (([(⟨3, 0, 0, 0, 0⟩ : S132), (⟨3, 1, 0, 0, 0⟩ : S132)] : List (S132))) true).bind fun bt275 => ((bartab_Offer.f k bt268.1 3 (([(⟨3, 0, 0, 0, 0⟩ : S132)] : List (S132))) true).bind fun bt283 => ((bartab_Fire.f bt283.1 0).bind fun bt288 => ((bartab_Resign.f bt288.1 2 3).bind fun bt295 => (if t260 = 0 then (if t261 = 0 then (if t267 = 0 then (if bt268.2 = 0 then (if bt275.2.1 = 1 then (if bt275.2.2 = 12 then (if bt283.2.2 = 0 then ((bartab_Ready.f k bt283.1).bind fun t299 => ((becketref02_Same.f k t299 (([0] : List Int))).bind fun t305 => (if t305 = true then ((bartab_Leave.f bt283.1 3).bind fun t306 => ((bartab_Ready.f k t306).bind fun t309 => (if (t309.length : Int) = 0 then (if bt288.2.2 = 0 then ((becketref02_Same.f k bt288.2.1 (([3] : List Int))).bind fun t315 => (if t315 = true then (if bt295.2 = 8 then ((bartab_Quit.f bt288.1 3).bind fun t316 => (if 1 < (t316.length : Int) then (some (((rd_T51 t316 1).f1.f0.f0) == 0 && (((rd_T51 t316 1).f1.f0.f1) == 0 && (((rd_T51 t316 1).f1.f0.f2) == 0 && (((rd_T51 t316 1).f1.f0.f3) == 0))))) else (none))) else (none)) else (none))) else (none)) else (none)))) else (none)))) else (none)) else (none)) else (none)) else (none)) else (none)) else (none)) else (none))))))) = some r := H
  have A2 := Aside0.mk A20
  clear A20
  replace H := Option.bind_eq_some_iff.mp H
  obtain ⟨⟨t268, t271⟩, A30, H⟩ := H
  replace H : ((bartab_Offer.f k t268 3 (([(⟨3, 0, 0, 0, 0⟩ : S132), (⟨3, 1, 0, 0, 0⟩ : S132)] : List (S132))) true).bind fun bt275 => ((bartab_Offer.f k t268 3 (([(⟨3, 0, 0, 0, 0⟩ : S132)] : List (S132))) true).bind fun bt283 => ((bartab_Fire.f bt283.1 0).bind fun bt288 => ((bartab_Resign.f bt288.1 2 3).bind fun bt295 => (if t260 = 0 then (if t261 = 0 then (if t267 = 0 then (if t271 = 0 then (if bt275.2.1 = 1 then (if bt275.2.2 = 12 then (if bt283.2.2 = 0 then ((bartab_Ready.f k bt283.1).bind fun t299 => ((becketref02_Same.f k t299 (([0] : List Int))).bind fun t305 => (if t305 = true then ((bartab_Leave.f bt283.1 3).bind fun t306 => ((bartab_Ready.f k t306).bind fun t309 => (if (t309.length : Int) = 0 then (if bt288.2.2 = 0 then ((becketref02_Same.f k bt288.2.1 (([3] : List Int))).bind fun t315 => (if t315 = true then (if bt295.2 = 8 then ((bartab_Quit.f bt288.1 3).bind fun t316 => (if 1 < (t316.length : Int) then (some (((rd_T51 t316 1).f1.f0.f0) == 0 && (((rd_T51 t316 1).f1.f0.f1) == 0 && (((rd_T51 t316 1).f1.f0.f2) == 0 && (((rd_T51 t316 1).f1.f0.f3) == 0))))) else (none))) else (none)) else (none))) else (none)) else (none)))) else (none)))) else (none)) else (none)) else (none)) else (none)) else (none)) else (none)) else (none)))))) = some r := H
  have A3 := Aside0.mk A30
  clear A30
  obtain ⟨y272, hy272⟩ : ∃ y_ : List (S132), y_ = (([(⟨3, 0, 0, 0, 0⟩ : S132), (⟨3, 1, 0, 0, 0⟩ : S132)] : List (S132))) := ⟨_, rfl⟩
  replace H : ((bartab_Offer.f k t268 3 y272 true).bind fun bt275 => ((bartab_Offer.f k t268 3 (([(⟨3, 0, 0, 0, 0⟩ : S132)] : List (S132))) true).bind fun bt283 => ((bartab_Fire.f bt283.1 0).bind fun bt288 => ((bartab_Resign.f bt288.1 2 3).bind fun bt295 => (if t260 = 0 then (if t261 = 0 then (if t267 = 0 then (if t271 = 0 then (if bt275.2.1 = 1 then (if bt275.2.2 = 12 then (if bt283.2.2 = 0 then ((bartab_Ready.f k bt283.1).bind fun t299 => ((becketref02_Same.f k t299 (([0] : List Int))).bind fun t305 => (if t305 = true then ((bartab_Leave.f bt283.1 3).bind fun t306 => ((bartab_Ready.f k t306).bind fun t309 => (if (t309.length : Int) = 0 then (if bt288.2.2 = 0 then ((becketref02_Same.f k bt288.2.1 (([3] : List Int))).bind fun t315 => (if t315 = true then (if bt295.2 = 8 then ((bartab_Quit.f bt288.1 3).bind fun t316 => (if 1 < (t316.length : Int) then (some (((rd_T51 t316 1).f1.f0.f0) == 0 && (((rd_T51 t316 1).f1.f0.f1) == 0 && (((rd_T51 t316 1).f1.f0.f2) == 0 && (((rd_T51 t316 1).f1.f0.f3) == 0))))) else (none))) else (none)) else (none))) else (none)) else (none)))) else (none)))) else (none)) else (none)) else (none)) else (none)) else (none)) else (none)) else (none)))))) = some r := by first | (rw [hy272]; with_reducible exact H) | (have H2_ := (Option.bind_some _ _).symm.trans H; rw [hy272]; with_reducible exact H2_) | (have H2_ := (Option.bind_some _ _).symm.trans H; with_reducible exact H2_) | with_reducible exact H | (rw [hy272]; exact H) | exact H
  have Ny272 := Aside0.mk hy272
  clear hy272
  replace H := Option.bind_eq_some_iff.mp H
  obtain ⟨⟨t275, t278, t279⟩, A40, H⟩ := H
  replace H : ((bartab_Offer.f k t268 3 (([(⟨3, 0, 0, 0, 0⟩ : S132)] : List (S132))) true).bind fun bt283 => ((bartab_Fire.f bt283.1 0).bind fun bt288 => ((bartab_Resign.f bt288.1 2 3).bind fun bt295 => (if t260 = 0 then (if t261 = 0 then (if t267 = 0 then (if t271 = 0 then (if t278 = 1 then (if t279 = 12 then (if bt283.2.2 = 0 then ((bartab_Ready.f k bt283.1).bind fun t299 => ((becketref02_Same.f k t299 (([0] : List Int))).bind fun t305 => (if t305 = true then ((bartab_Leave.f bt283.1 3).bind fun t306 => ((bartab_Ready.f k t306).bind fun t309 => (if (t309.length : Int) = 0 then (if bt288.2.2 = 0 then ((becketref02_Same.f k bt288.2.1 (([3] : List Int))).bind fun t315 => (if t315 = true then (if bt295.2 = 8 then ((bartab_Quit.f bt288.1 3).bind fun t316 => (if 1 < (t316.length : Int) then (some (((rd_T51 t316 1).f1.f0.f0) == 0 && (((rd_T51 t316 1).f1.f0.f1) == 0 && (((rd_T51 t316 1).f1.f0.f2) == 0 && (((rd_T51 t316 1).f1.f0.f3) == 0))))) else (none))) else (none)) else (none))) else (none)) else (none)))) else (none)))) else (none)) else (none)) else (none)) else (none)) else (none)) else (none)) else (none))))) = some r := H
  have A4 := Aside0.mk A40
  clear A40
  obtain ⟨y280, hy280⟩ : ∃ y_ : List (S132), y_ = (([(⟨3, 0, 0, 0, 0⟩ : S132)] : List (S132))) := ⟨_, rfl⟩
  replace H : ((bartab_Offer.f k t268 3 y280 true).bind fun bt283 => ((bartab_Fire.f bt283.1 0).bind fun bt288 => ((bartab_Resign.f bt288.1 2 3).bind fun bt295 => (if t260 = 0 then (if t261 = 0 then (if t267 = 0 then (if t271 = 0 then (if t278 = 1 then (if t279 = 12 then (if bt283.2.2 = 0 then ((bartab_Ready.f k bt283.1).bind fun t299 => ((becketref02_Same.f k t299 (([0] : List Int))).bind fun t305 => (if t305 = true then ((bartab_Leave.f bt283.1 3).bind fun t306 => ((bartab_Ready.f k t306).bind fun t309 => (if (t309.length : Int) = 0 then (if bt288.2.2 = 0 then ((becketref02_Same.f k bt288.2.1 (([3] : List Int))).bind fun t315 => (if t315 = true then (if bt295.2 = 8 then ((bartab_Quit.f bt288.1 3).bind fun t316 => (if 1 < (t316.length : Int) then (some (((rd_T51 t316 1).f1.f0.f0) == 0 && (((rd_T51 t316 1).f1.f0.f1) == 0 && (((rd_T51 t316 1).f1.f0.f2) == 0 && (((rd_T51 t316 1).f1.f0.f3) == 0))))) else (none))) else (none)) else (none))) else (none)) else (none)))) else (none)))) else (none)) else (none)) else (none)) else (none)) else (none)) else (none)) else (none))))) = some r := by first | (rw [hy280]; with_reducible exact H) | (have H2_ := (Option.bind_some _ _).symm.trans H; rw [hy280]; with_reducible exact H2_) | (have H2_ := (Option.bind_some _ _).symm.trans H; with_reducible exact H2_) | with_reducible exact H | (rw [hy280]; exact H) | exact H
  have Ny280 := Aside0.mk hy280
  clear hy280
  replace H := Option.bind_eq_some_iff.mp H
  obtain ⟨⟨t283, t286, t287⟩, A50, H⟩ := H
  replace H : ((bartab_Fire.f t283 0).bind fun bt288 => ((bartab_Resign.f bt288.1 2 3).bind fun bt295 => (if t260 = 0 then (if t261 = 0 then (if t267 = 0 then (if t271 = 0 then (if t278 = 1 then (if t279 = 12 then (if t287 = 0 then ((bartab_Ready.f k t283).bind fun t299 => ((becketref02_Same.f k t299 (([0] : List Int))).bind fun t305 => (if t305 = true then ((bartab_Leave.f t283 3).bind fun t306 => ((bartab_Ready.f k t306).bind fun t309 => (if (t309.length : Int) = 0 then (if bt288.2.2 = 0 then ((becketref02_Same.f k bt288.2.1 (([3] : List Int))).bind fun t315 => (if t315 = true then (if bt295.2 = 8 then ((bartab_Quit.f bt288.1 3).bind fun t316 => (if 1 < (t316.length : Int) then (some (((rd_T51 t316 1).f1.f0.f0) == 0 && (((rd_T51 t316 1).f1.f0.f1) == 0 && (((rd_T51 t316 1).f1.f0.f2) == 0 && (((rd_T51 t316 1).f1.f0.f3) == 0))))) else (none))) else (none)) else (none))) else (none)) else (none)))) else (none)))) else (none)) else (none)) else (none)) else (none)) else (none)) else (none)) else (none)))) = some r := H
  have A5 := Aside0.mk A50
  clear A50
  replace H := Option.bind_eq_some_iff.mp H
  obtain ⟨⟨t288, t291, t294⟩, A60, H⟩ := H
  replace H : ((bartab_Resign.f t288 2 3).bind fun bt295 => (if t260 = 0 then (if t261 = 0 then (if t267 = 0 then (if t271 = 0 then (if t278 = 1 then (if t279 = 12 then (if t287 = 0 then ((bartab_Ready.f k t283).bind fun t299 => ((becketref02_Same.f k t299 (([0] : List Int))).bind fun t305 => (if t305 = true then ((bartab_Leave.f t283 3).bind fun t306 => ((bartab_Ready.f k t306).bind fun t309 => (if (t309.length : Int) = 0 then (if t294 = 0 then ((becketref02_Same.f k t291 (([3] : List Int))).bind fun t315 => (if t315 = true then (if bt295.2 = 8 then ((bartab_Quit.f t288 3).bind fun t316 => (if 1 < (t316.length : Int) then (some (((rd_T51 t316 1).f1.f0.f0) == 0 && (((rd_T51 t316 1).f1.f0.f1) == 0 && (((rd_T51 t316 1).f1.f0.f2) == 0 && (((rd_T51 t316 1).f1.f0.f3) == 0))))) else (none))) else (none)) else (none))) else (none)) else (none)))) else (none)))) else (none)) else (none)) else (none)) else (none)) else (none)) else (none)) else (none))) = some r := H
  have A6 := Aside0.mk A60
  clear A60
  replace H := Option.bind_eq_some_iff.mp H
  obtain ⟨⟨t295, t298⟩, A70, H⟩ := H
  replace H : (if t260 = 0 then (if t261 = 0 then (if t267 = 0 then (if t271 = 0 then (if t278 = 1 then (if t279 = 12 then (if t287 = 0 then ((bartab_Ready.f k t283).bind fun t299 => ((becketref02_Same.f k t299 (([0] : List Int))).bind fun t305 => (if t305 = true then ((bartab_Leave.f t283 3).bind fun t306 => ((bartab_Ready.f k t306).bind fun t309 => (if (t309.length : Int) = 0 then (if t294 = 0 then ((becketref02_Same.f k t291 (([3] : List Int))).bind fun t315 => (if t315 = true then (if t298 = 8 then ((bartab_Quit.f t288 3).bind fun t316 => (if 1 < (t316.length : Int) then (some (((rd_T51 t316 1).f1.f0.f0) == 0 && (((rd_T51 t316 1).f1.f0.f1) == 0 && (((rd_T51 t316 1).f1.f0.f2) == 0 && (((rd_T51 t316 1).f1.f0.f3) == 0))))) else (none))) else (none)) else (none))) else (none)) else (none)))) else (none)))) else (none)) else (none)) else (none)) else (none)) else (none)) else (none)) else (none)) = some r := H
  have A7 := Aside0.mk A70
  clear A70
  by_cases c8 : t260 = 0
  · rw [if_pos c8] at H
    have c8b0 : (t260 == 0) = true := beq_iff_eq.mpr c8
    have c8b1 : (t260 != 0) = false := bne_eq_false_iff_eq.mpr c8
    clear c8
    by_cases c9 : t261 = 0
    · rw [if_pos c9] at H
      have c9b0 : (t261 == 0) = true := beq_iff_eq.mpr c9
      have c9b1 : (t261 != 0) = false := bne_eq_false_iff_eq.mpr c9
      clear c9
      by_cases c10 : t267 = 0
      · rw [if_pos c10] at H
        have c10b0 : (t267 == 0) = true := beq_iff_eq.mpr c10
        have c10b1 : (t267 != 0) = false := bne_eq_false_iff_eq.mpr c10
        clear c10
        by_cases c11 : t271 = 0
        · rw [if_pos c11] at H
          have c11b0 : (t271 == 0) = true := beq_iff_eq.mpr c11
          have c11b1 : (t271 != 0) = false := bne_eq_false_iff_eq.mpr c11
          clear c11
          by_cases c12 : t278 = 1
          · rw [if_pos c12] at H
            have c12b0 : (t278 == 1) = true := beq_iff_eq.mpr c12
            have c12b1 : (t278 != 1) = false := bne_eq_false_iff_eq.mpr c12
            clear c12
            by_cases c13 : t279 = 12
            · rw [if_pos c13] at H
              have c13b0 : (t279 == 12) = true := beq_iff_eq.mpr c13
              have c13b1 : (t279 != 12) = false := bne_eq_false_iff_eq.mpr c13
              clear c13
              by_cases c14 : t287 = 0
              · rw [if_pos c14] at H
                have c14b0 : (t287 == 0) = true := beq_iff_eq.mpr c14
                have c14b1 : (t287 != 0) = false := bne_eq_false_iff_eq.mpr c14
                clear c14
                replace H := Option.bind_eq_some_iff.mp H
                obtain ⟨t299, A150, H⟩ := H
                replace H : ((becketref02_Same.f k t299 (([0] : List Int))).bind fun t305 => (if t305 = true then ((bartab_Leave.f t283 3).bind fun t306 => ((bartab_Ready.f k t306).bind fun t309 => (if (t309.length : Int) = 0 then (if t294 = 0 then ((becketref02_Same.f k t291 (([3] : List Int))).bind fun t315 => (if t315 = true then (if t298 = 8 then ((bartab_Quit.f t288 3).bind fun t316 => (if 1 < (t316.length : Int) then (some (((rd_T51 t316 1).f1.f0.f0) == 0 && (((rd_T51 t316 1).f1.f0.f1) == 0 && (((rd_T51 t316 1).f1.f0.f2) == 0 && (((rd_T51 t316 1).f1.f0.f3) == 0))))) else (none))) else (none)) else (none))) else (none)) else (none)))) else (none))) = some r := H
                have A15 := Aside0.mk A150
                clear A150
                obtain ⟨y302, hy302⟩ : ∃ y_ : List Int, y_ = (([0] : List Int)) := ⟨_, rfl⟩
                replace H : ((becketref02_Same.f k t299 y302).bind fun t305 => (if t305 = true then ((bartab_Leave.f t283 3).bind fun t306 => ((bartab_Ready.f k t306).bind fun t309 => (if (t309.length : Int) = 0 then (if t294 = 0 then ((becketref02_Same.f k t291 (([3] : List Int))).bind fun t315 => (if t315 = true then (if t298 = 8 then ((bartab_Quit.f t288 3).bind fun t316 => (if 1 < (t316.length : Int) then (some (((rd_T51 t316 1).f1.f0.f0) == 0 && (((rd_T51 t316 1).f1.f0.f1) == 0 && (((rd_T51 t316 1).f1.f0.f2) == 0 && (((rd_T51 t316 1).f1.f0.f3) == 0))))) else (none))) else (none)) else (none))) else (none)) else (none)))) else (none))) = some r := by first | (rw [hy302]; with_reducible exact H) | (have H2_ := (Option.bind_some _ _).symm.trans H; rw [hy302]; with_reducible exact H2_) | (have H2_ := (Option.bind_some _ _).symm.trans H; with_reducible exact H2_) | with_reducible exact H | (rw [hy302]; exact H) | exact H
                have Ny302 := Aside0.mk hy302
                clear hy302
                replace H := Option.bind_eq_some_iff.mp H
                obtain ⟨t305, A160, H⟩ := H
                replace H : (if t305 = true then ((bartab_Leave.f t283 3).bind fun t306 => ((bartab_Ready.f k t306).bind fun t309 => (if (t309.length : Int) = 0 then (if t294 = 0 then ((becketref02_Same.f k t291 (([3] : List Int))).bind fun t315 => (if t315 = true then (if t298 = 8 then ((bartab_Quit.f t288 3).bind fun t316 => (if 1 < (t316.length : Int) then (some (((rd_T51 t316 1).f1.f0.f0) == 0 && (((rd_T51 t316 1).f1.f0.f1) == 0 && (((rd_T51 t316 1).f1.f0.f2) == 0 && (((rd_T51 t316 1).f1.f0.f3) == 0))))) else (none))) else (none)) else (none))) else (none)) else (none)))) else (none)) = some r := H
                have A16 := Aside0.mk A160
                clear A160
                by_cases c17 : t305 = true
                · subst c17
                  have H1 : ((bartab_Leave.f t283 3).bind fun t306 => ((bartab_Ready.f k t306).bind fun t309 => (if (t309.length : Int) = 0 then (if t294 = 0 then ((becketref02_Same.f k t291 (([3] : List Int))).bind fun t315 => (if t315 = true then (if t298 = 8 then ((bartab_Quit.f t288 3).bind fun t316 => (if 1 < (t316.length : Int) then (some (((rd_T51 t316 1).f1.f0.f0) == 0 && (((rd_T51 t316 1).f1.f0.f1) == 0 && (((rd_T51 t316 1).f1.f0.f2) == 0 && (((rd_T51 t316 1).f1.f0.f3) == 0))))) else (none))) else (none)) else (none))) else (none)) else (none)))) = some r := by rw [if_pos rfl] at H; exact H
                  clear H
                  have H := H1
                  clear H1
                  replace H := Option.bind_eq_some_iff.mp H
                  obtain ⟨t306, A180, H⟩ := H
                  replace H : ((bartab_Ready.f k t306).bind fun t309 => (if (t309.length : Int) = 0 then (if t294 = 0 then ((becketref02_Same.f k t291 (([3] : List Int))).bind fun t315 => (if t315 = true then (if t298 = 8 then ((bartab_Quit.f t288 3).bind fun t316 => (if 1 < (t316.length : Int) then (some (((rd_T51 t316 1).f1.f0.f0) == 0 && (((rd_T51 t316 1).f1.f0.f1) == 0 && (((rd_T51 t316 1).f1.f0.f2) == 0 && (((rd_T51 t316 1).f1.f0.f3) == 0))))) else (none))) else (none)) else (none))) else (none)) else (none))) = some r := H
                  have A18 := Aside0.mk A180
                  clear A180
                  replace H := Option.bind_eq_some_iff.mp H
                  obtain ⟨t309, A190, H⟩ := H
                  replace H : (if (t309.length : Int) = 0 then (if t294 = 0 then ((becketref02_Same.f k t291 (([3] : List Int))).bind fun t315 => (if t315 = true then (if t298 = 8 then ((bartab_Quit.f t288 3).bind fun t316 => (if 1 < (t316.length : Int) then (some (((rd_T51 t316 1).f1.f0.f0) == 0 && (((rd_T51 t316 1).f1.f0.f1) == 0 && (((rd_T51 t316 1).f1.f0.f2) == 0 && (((rd_T51 t316 1).f1.f0.f3) == 0))))) else (none))) else (none)) else (none))) else (none)) else (none)) = some r := H
                  have A19 := Aside0.mk A190
                  clear A190
                  by_cases c20 : (t309.length : Int) = 0
                  · rw [if_pos c20] at H
                    have c20b0 : ((t309.length : Int) == 0) = true := beq_iff_eq.mpr c20
                    have c20b1 : ((t309.length : Int) != 0) = false := bne_eq_false_iff_eq.mpr c20
                    clear c20
                    by_cases c21 : t294 = 0
                    · rw [if_pos c21] at H
                      have c21b0 : (t294 == 0) = true := beq_iff_eq.mpr c21
                      have c21b1 : (t294 != 0) = false := bne_eq_false_iff_eq.mpr c21
                      clear c21
                      obtain ⟨y312, hy312⟩ : ∃ y_ : List Int, y_ = (([3] : List Int)) := ⟨_, rfl⟩
                      replace H : ((becketref02_Same.f k t291 y312).bind fun t315 => (if t315 = true then (if t298 = 8 then ((bartab_Quit.f t288 3).bind fun t316 => (if 1 < (t316.length : Int) then (some (((rd_T51 t316 1).f1.f0.f0) == 0 && (((rd_T51 t316 1).f1.f0.f1) == 0 && (((rd_T51 t316 1).f1.f0.f2) == 0 && (((rd_T51 t316 1).f1.f0.f3) == 0))))) else (none))) else (none)) else (none))) = some r := by first | (rw [hy312]; with_reducible exact H) | (have H2_ := (Option.bind_some _ _).symm.trans H; rw [hy312]; with_reducible exact H2_) | (have H2_ := (Option.bind_some _ _).symm.trans H; with_reducible exact H2_) | with_reducible exact H | (rw [hy312]; exact H) | exact H
                      have Ny312 := Aside0.mk hy312
                      clear hy312
                      replace H := Option.bind_eq_some_iff.mp H
                      obtain ⟨t315, A220, H⟩ := H
                      replace H : (if t315 = true then (if t298 = 8 then ((bartab_Quit.f t288 3).bind fun t316 => (if 1 < (t316.length : Int) then (some (((rd_T51 t316 1).f1.f0.f0) == 0 && (((rd_T51 t316 1).f1.f0.f1) == 0 && (((rd_T51 t316 1).f1.f0.f2) == 0 && (((rd_T51 t316 1).f1.f0.f3) == 0))))) else (none))) else (none)) else (none)) = some r := H
                      have A22 := Aside0.mk A220
                      clear A220
                      by_cases c23 : t315 = true
                      · subst c23
                        have H1 : (if t298 = 8 then ((bartab_Quit.f t288 3).bind fun t316 => (if 1 < (t316.length : Int) then (some (((rd_T51 t316 1).f1.f0.f0) == 0 && (((rd_T51 t316 1).f1.f0.f1) == 0 && (((rd_T51 t316 1).f1.f0.f2) == 0 && (((rd_T51 t316 1).f1.f0.f3) == 0))))) else (none))) else (none)) = some r := by rw [if_pos rfl] at H; exact H
                        clear H
                        have H := H1
                        clear H1
                        by_cases c24 : t298 = 8
                        · rw [if_pos c24] at H
                          have c24b0 : (t298 == 8) = true := beq_iff_eq.mpr c24
                          have c24b1 : (t298 != 8) = false := bne_eq_false_iff_eq.mpr c24
                          clear c24
                          replace H := Option.bind_eq_some_iff.mp H
                          obtain ⟨t316, A250, H⟩ := H
                          replace H : (if 1 < (t316.length : Int) then (some (((rd_T51 t316 1).f1.f0.f0) == 0 && (((rd_T51 t316 1).f1.f0.f1) == 0 && (((rd_T51 t316 1).f1.f0.f2) == 0 && (((rd_T51 t316 1).f1.f0.f3) == 0))))) else (none)) = some r := H
                          have A25 := Aside0.mk A250
                          clear A250
                          by_cases c26 : 1 < (t316.length : Int)
                          · rw [if_pos c26] at H
                            have c26b0 : decide (1 < (t316.length : Int)) = true := decide_eq_true c26
                            have c26b1 : decide (1 < t316.length) = true := decide_eq_true (by omega)
                            clear c26
                            obtain rfl := Option.some.inj H
                            go_enter Tryd.func47, Tryd.ntmps47
                            go_wp2_with (first | ((with_reducible refine gate_dst (N := 22) rfl ?_); (try (refine gate_guard (by rfl) ?_; dsimp only)); refine Kd.R_lit k43 _ 43 ?hg (N := 22) ?hd (xs := ([(⟨true, 5⟩ : S43), (⟨false, 5⟩ : S43)] : List (S43))) (inner := [.bool true, .int .i64 5, .bool false, .int .i64 5]) (ok := fun _ => True) (okp := fun _ => True) ?hr ?hp (fun _ hk => hk) trivial (Below.refl _ _) (Nat.le_refl _) (by simp) ?_; (case hd => rfl); (case hg => rfl); (case hr => first | (go_simp; done) | (go_simp; rfl)); (case hp => exact (Reps.c2 (show Kd.M k43 _ _ _ (⟨true, 5⟩ : S43) [.bool true, .int .i64 5] from (k43_mkM _ _ _ (⟨true, 5⟩ : S43) )) (Reps.c2 (show Kd.M k43 _ _ _ (⟨false, 5⟩ : S43) [.bool false, .int .i64 5] from (k43_mkM _ _ _ (⟨false, 5⟩ : S43) )) (Reps.none _ _)))); intro v257 w27 ho28 hb hg_ hnew_; clear hg_ hnew_; (first | rw [← Ny256.out] at ho28 | (simp only [Int.reduceToNat] at ho28; rw [← Ny256.out] at ho28)); have HO258 := Aside0.mk (Kd.R_lower ho28 (below_size (by exact HB.out))); replace HB := Aside0.mk (below_step (by exact HB.out) hb); clear hb ho28; obtain ⟨Ao29, co29, eo29⟩ := Kd.R_slice HO258.out; subst eo29) | ((with_reducible refine gate_callee (f := 66) rfl ?_); refine goesL_ (some 23) rfl rfl Tryd.func66 (by kernel_rfl) rfl #[.slice Ao29 y256.length co29] rfl (by (try simp only [List.map_toArray, List.map_cons, List.map_nil]); first | done | rfl | (simp only [List.length_drop, List.length_take]; rfl)) ?_; (with_reducible refine (bartab_New.calls k _ _ y256 t259 t260 t261 _ ?side1 ?side2 A1.out).mono ?_); (case side1 => exact (Kd.R_reads' HO258.out).2.2); (case side2 => exact (Kd.R_reads' HO258.out).2.1); rintro e w30 ⟨v262, rfl, ho0, hb⟩; refine ⟨_, rfl, ?_⟩; replace HO258 := Aside0.mk (Kd.R_below (by exact HO258.out) hb); have HO263 := Aside0.mk (Kd.R_lower ho0 (below_size (by exact HB.out))); replace HB := Aside0.mk (below_step (by exact HB.out) hb); (try clear hb); (try clear hb2); (try clear hk); (try clear hi); (try clear ho0); obtain ⟨Ao31, co31, eo31⟩ := Kd.R_slice HO263.out; subst eo31) | ((with_reducible refine gate_callee (f := 58) rfl ?_); refine goesL_ (some 29) rfl rfl Tryd.func58 (by kernel_rfl) rfl #[.slice Ao31 t259.length co31, .int .i64 0, .int .i64 3] rfl (by (try simp only [List.map_toArray, List.map_cons, List.map_nil]); first | done | rfl | (simp only [List.length_drop, List.length_take]; rfl)) ?_; (with_reducible refine (bartab_Enrol.calls (fun k_ => some k_ = (.slice Ao31 t259.length co31 : Value).ownBlock) _ _ t259 0 3 t264 t267 _ ?side1 ?side2 A2.out).mono ?_); (case side1 => exact Go.Proofs.YtdaionnpgcdkdaaDoor.GLW.below hG (by exact HB.out)); (case side2 => exact Kd.R_V (Kd.R_tight rfl (Kd.R_apart' (HO263.out) (Kd.R_typed HO258.out) (by decide)))); rintro e w32 ⟨v265, rfl, ho0, hb⟩; refine ⟨_, rfl, ?_⟩; have HO266 := Aside0.mk (Kd.V_lower (Kd.V_mono (ok' := fun k_ => some k_ ≠ (.slice Ao29 y256.length co29 : Value).ownBlock) ho0 (fun k_ hk_ => Or.elim hk_ (fun hs_ => ((Kd.R_apart' (HO263.out) (Kd.R_typed HO258.out) (by decide)).1 k_ hs_.symm).2) (fun hn_ => (Kd.fresh' (Kd.R_lt (by exact HO258.out)) k_ hn_)))) (below_size (by exact HB.out))); replace HO258 := Aside0.mk (Kd.R_below (by exact HO258.out) hb); replace HO263 := Aside0.mk (Kd.R_below (by exact HO263.out) hb); replace HB := Aside0.mk (below_step (by exact HB.out) hb); (try clear hb); (try clear hb2); (try clear hk); (try clear hi); (try clear ho0); obtain ⟨Ao33, co33, eo33⟩ := Kd.V_slice HO266.out; subst eo33) | ((with_reducible refine gate_callee (f := 58) rfl ?_); refine goesL_ (some 34) rfl rfl Tryd.func58 (by kernel_rfl) rfl #[.slice Ao33 t264.length co33, .int .i64 1, .int .i64 3] rfl (by (try simp only [List.map_toArray, List.map_cons, List.map_nil]); first | done | rfl | (simp only [List.length_drop, List.length_take]; rfl)) ?_; (with_reducible refine (bartab_Enrol.calls (fun k_ => some k_ ≠ (.slice Ao29 y256.length co29 : Value).ownBlock) _ _ t264 1 3 t268 t271 _ ?side1 ?side2 A3.out).mono ?_); (case side1 => exact Go.Proofs.YtdaionnpgcdkdaaDoor.GLW.below hG (by exact HB.out)); (case side2 => exact HO266.out); rintro e w34 ⟨v269, rfl, ho0, hb⟩; refine ⟨_, rfl, ?_⟩; replace HO263 := Aside0.mk (Kd.R_below (by exact HO263.out) hb); replace HO266 := Aside0.mk (Kd.V_below (by exact HO266.out) hb); have HO270 := Aside0.mk (Kd.V_lower (Kd.V_mono (ok' := fun k_ => some k_ ≠ (.slice Ao29 y256.length co29 : Value).ownBlock) ho0 (fun k_ hk_ => Or.elim hk_ (fun hs_ => hs_) (fun hn_ => (Kd.fresh' (Kd.R_lt (by exact HO258.out)) k_ hn_)))) (below_size (by exact HB.out))); replace HO258 := Aside0.mk (Kd.R_below (by exact HO258.out) hb); replace HB := Aside0.mk (below_step (by exact HB.out) hb); (try clear hb); (try clear hb2); (try clear hk); (try clear hi); (try clear ho0)) | ((with_reducible refine gate_dst (N := 41) rfl ?_); (try (refine gate_guard (by rfl) ?_; dsimp only)); refine Kd.R_lit k132 _ 132 ?hg (N := 41) ?hd (xs := ([(⟨3, 0, 0, 0, 0⟩ : S132), (⟨3, 1, 0, 0, 0⟩ : S132)] : List (S132))) (inner := [.int .i64 3, .int .i64 0, .int .i64 0, .int .i64 0, .int .i64 0, .int .i64 3, .int .i64 1, .int .i64 0, .int .i64 0, .int .i64 0]) (ok := fun _ => True) (okp := fun _ => True) ?hr ?hp (fun _ hk => hk) trivial (Below.refl _ _) (Nat.le_refl _) (by simp) ?_; (case hd => rfl); (case hg => rfl); (case hr => first | (go_simp; done) | (go_simp; rfl)); (case hp => exact (Reps.c5 (show Kd.M k132 _ _ _ (⟨3, 0, 0, 0, 0⟩ : S132) [.int .i64 3, .int .i64 0, .int .i64 0, .int .i64 0, .int .i64 0] from (k132_mkM _ _ _ (⟨3, 0, 0, 0, 0⟩ : S132) )) (Reps.c5 (show Kd.M k132 _ _ _ (⟨3, 1, 0, 0, 0⟩ : S132) [.int .i64 3, .int .i64 1, .int .i64 0, .int .i64 0, .int .i64 0] from (k132_mkM _ _ _ (⟨3, 1, 0, 0, 0⟩ : S132) )) (Reps.none _ _)))); intro v273 w35 ho36 hb hg_ hnew_; clear hg_ hnew_; (first | rw [← Ny272.out] at ho36 | (simp only [Int.reduceToNat] at ho36; rw [← Ny272.out] at ho36)); replace HO258 := Aside0.mk (Kd.R_below (by exact HO258.out) hb); replace HO263 := Aside0.mk (Kd.R_below (by exact HO263.out) hb); replace HO266 := Aside0.mk (Kd.V_elder' (by exact HO266.out) (Kd.R_base ho36) hb); replace HO270 := Aside0.mk (Kd.V_elder' (by exact HO270.out) (Kd.R_base ho36) hb); have HO274 := Aside0.mk (Kd.R_lower ho36 (below_size (by exact HB.out))); replace HB := Aside0.mk (below_step (by exact HB.out) hb); clear hb ho36; obtain ⟨Ao37, co37, eo37⟩ := Kd.V_slice HO270.out; subst eo37; obtain ⟨Ao38, co38, eo38⟩ := Kd.R_slice HO274.out; subst eo38) | ((with_reducible refine gate_callee (f := 50) rfl ?_); refine goesL_ (some 42) rfl rfl Tryd.func50 (by kernel_rfl) rfl #[.slice Ao37 t268.length co37, .int .i64 3, .slice Ao38 y272.length co38, .bool true] rfl (by (try simp only [List.map_toArray, List.map_cons, List.map_nil]); first | done | rfl | (simp only [List.length_drop, List.length_take]; rfl)) ?_; (with_reducible refine (bartab_Offer.calls k (fun k_ => (some k_ ≠ (.slice Ao29 y256.length co29 : Value).ownBlock ∧ some k_ ≠ (.slice Ao38 y272.length co38 : Value).ownBlock)) _ _ t268 3 _ _ y272 true t275 t278 t279 _ ?side1 ?side2 ?side3 ?side4 A4.out).mono ?_); (case side1 => exact Go.Proofs.YtdaionnpgcdkdaaDoor.GLW.below hG (by exact HB.out)); (case side2 => exact HO270.out); (case side3 => exact (Kd.R_reads' HO274.out).2.2); (case side4 => exact (Kd.R_reads' HO274.out).2.1); rintro e w39 ⟨v276, rfl, ho0, hb⟩; refine ⟨_, rfl, ?_⟩; replace HO263 := Aside0.mk (Kd.R_below (by exact HO263.out) hb); replace HO266 := Aside0.mk (Kd.V_below (by exact HO266.out) hb); replace HO270 := Aside0.mk (Kd.V_below (by exact HO270.out) hb); have HO277 := Aside0.mk (Kd.V_lower (Kd.V_mono (ok' := fun k_ => some k_ ≠ (.slice Ao29 y256.length co29 : Value).ownBlock ∧ some k_ ≠ (.slice Ao38 y272.length co38 : Value).ownBlock) ho0 (fun k_ hk_ => ⟨Or.elim hk_ (fun hs_ => hs_.1) (fun hn_ => (Kd.fresh' (Kd.R_lt (by exact HO258.out)) k_ hn_)), Or.elim hk_ (fun hs_ => hs_.2) (fun hn_ => (Kd.fresh' (Kd.R_lt (by exact HO274.out)) k_ hn_))⟩)) (below_size (by exact HB.out))); replace HO258 := Aside0.mk (Kd.R_below (by exact HO258.out) hb); replace HO274 := Aside0.mk (Kd.R_below (by exact HO274.out) hb); replace HB := Aside0.mk (below_step (by exact HB.out) hb); (try clear hb); (try clear hb2); (try clear hk); (try clear hi); (try clear ho0)) | ((with_reducible refine gate_dst (N := 49) rfl ?_); (try (refine gate_guard (by rfl) ?_; dsimp only)); refine Kd.R_lit k132 _ 132 ?hg (N := 49) ?hd (xs := ([(⟨3, 0, 0, 0, 0⟩ : S132)] : List (S132))) (inner := [.int .i64 3, .int .i64 0, .int .i64 0, .int .i64 0, .int .i64 0]) (ok := fun _ => True) (okp := fun _ => True) ?hr ?hp (fun _ hk => hk) trivial (Below.refl _ _) (Nat.le_refl _) (by simp) ?_; (case hd => rfl); (case hg => rfl); (case hr => first | (go_simp; done) | (go_simp; rfl)); (case hp => exact (Reps.c5 (show Kd.M k132 _ _ _ (⟨3, 0, 0, 0, 0⟩ : S132) [.int .i64 3, .int .i64 0, .int .i64 0, .int .i64 0, .int .i64 0] from (k132_mkM _ _ _ (⟨3, 0, 0, 0, 0⟩ : S132) )) (Reps.none _ _))); intro v281 w40 ho41 hb hg_ hnew_; clear hg_ hnew_; (first | rw [← Ny280.out] at ho41 | (simp only [Int.reduceToNat] at ho41; rw [← Ny280.out] at ho41)); replace HO258 := Aside0.mk (Kd.R_below (by exact HO258.out) hb); replace HO263 := Aside0.mk (Kd.R_below (by exact HO263.out) hb); replace HO266 := Aside0.mk (Kd.V_elder' (by exact HO266.out) (Kd.R_base ho41) hb); replace HO270 := Aside0.mk (Kd.V_elder' (by exact HO270.out) (Kd.R_base ho41) hb); replace HO277 := Aside0.mk (Kd.V_elder' (by exact HO277.out) (Kd.R_base ho41) hb); have HO282 := Aside0.mk (Kd.R_lower (Kd.R_new' ho41 (Kd.R_lt (by exact HO274.out))) (below_size (by exact HB.out))); replace HO274 := Aside0.mk (Kd.R_elder' (by exact HO274.out) (Kd.R_base ho41) hb); replace HB := Aside0.mk (below_step (by exact HB.out) hb); clear hb ho41; obtain ⟨Ao42, co42, eo42⟩ := Kd.R_slice HO282.out; subst eo42) | ((with_reducible refine gate_callee (f := 50) rfl ?_); refine goesL_ (some 50) rfl rfl Tryd.func50 (by kernel_rfl) rfl #[.slice Ao37 t268.length co37, .int .i64 3, .slice Ao42 y280.length co42, .bool true] rfl (by (try simp only [List.map_toArray, List.map_cons, List.map_nil]); first | done | rfl | (simp only [List.length_drop, List.length_take]; rfl)) ?_; (with_reducible refine (bartab_Offer.calls k (fun k_ => ((some k_ ≠ (.slice Ao29 y256.length co29 : Value).ownBlock ∧ some k_ ≠ (.slice Ao38 y272.length co38 : Value).ownBlock) ∧ some k_ ≠ (.slice Ao42 y280.length co42 : Value).ownBlock)) _ _ t268 3 _ _ y280 true t283 t286 t287 _ ?side1 ?side2 ?side3 ?side4 A5.out).mono ?_); (case side1 => exact Go.Proofs.YtdaionnpgcdkdaaDoor.GLW.below hG (by exact HB.out)); (case side2 => exact HO270.out); (case side3 => exact (Kd.R_reads' HO282.out).2.2); (case side4 => exact (Kd.R_reads' HO282.out).2.1); rintro e w43 ⟨v284, rfl, ho0, hb⟩; refine ⟨_, rfl, ?_⟩; replace HO263 := Aside0.mk (Kd.R_below (by exact HO263.out) hb); replace HO266 := Aside0.mk (Kd.V_below (by exact HO266.out) hb); replace HO270 := Aside0.mk (Kd.V_below (by exact HO270.out) hb); replace HO277 := Aside0.mk (Kd.V_below (by exact HO277.out) hb); have HO285 := Aside0.mk (Kd.V_lower (Kd.V_mono (ok' := fun k_ => some k_ ≠ (.slice Ao29 y256.length co29 : Value).ownBlock ∧ some k_ ≠ (.slice Ao38 y272.length co38 : Value).ownBlock ∧ some k_ ≠ (.slice Ao42 y280.length co42 : Value).ownBlock) ho0 (fun k_ hk_ => ⟨Or.elim hk_ (fun hs_ => hs_.1.1) (fun hn_ => (Kd.fresh' (Kd.R_lt (by exact HO258.out)) k_ hn_)), Or.elim hk_ (fun hs_ => hs_.1.2) (fun hn_ => (Kd.fresh' (Kd.R_lt (by exact HO274.out)) k_ hn_)), Or.elim hk_ (fun hs_ => hs_.2) (fun hn_ => (Kd.fresh' (Kd.R_lt (by exact HO282.out)) k_ hn_))⟩)) (below_size (by exact HB.out))); replace HO258 := Aside0.mk (Kd.R_below (by exact HO258.out) hb); replace HO274 := Aside0.mk (Kd.R_below (by exact HO274.out) hb); replace HO282 := Aside0.mk (Kd.R_below (by exact HO282.out) hb); replace HB := Aside0.mk (below_step (by exact HB.out) hb); (try clear hb); (try clear hb2); (try clear hk); (try clear hi); (try clear ho0); obtain ⟨Ao44, co44, eo44⟩ := Kd.V_slice HO285.out; subst eo44) | ((with_reducible refine gate_callee (f := 62) rfl ?_); refine goesL_ (some 56) rfl rfl Tryd.func62 (by kernel_rfl) rfl #[.slice Ao44 t283.length co44, .int .i64 0] rfl (by (try simp only [List.map_toArray, List.map_cons, List.map_nil]); first | done | rfl | (simp only [List.length_drop, List.length_take]; rfl)) ?_; (with_reducible refine (bartab_Fire.calls (fun k_ => (some k_ ≠ (.slice Ao29 y256.length co29 : Value).ownBlock ∧ (some k_ ≠ (.slice Ao38 y272.length co38 : Value).ownBlock ∧ some k_ ≠ (.slice Ao42 y280.length co42 : Value).ownBlock))) _ _ t283 0 t288 t291 t294 _ ?side1 ?side2 A6.out).mono ?_); (case side1 => exact Go.Proofs.YtdaionnpgcdkdaaDoor.GLW.below hG (by exact HB.out)); (case side2 => exact HO285.out); rintro e w45 ⟨v289, v292, rfl, ho0, ho1, hb⟩; refine ⟨_, rfl, ?_⟩; replace HO263 := Aside0.mk (Kd.R_below (by exact HO263.out) hb); replace HO266 := Aside0.mk (Kd.V_below (by exact HO266.out) hb); replace HO270 := Aside0.mk (Kd.V_below (by exact HO270.out) hb); replace HO277 := Aside0.mk (Kd.V_below (by exact HO277.out) hb); replace HO285 := Aside0.mk (Kd.V_below (by exact HO285.out) hb); have HO290 := Aside0.mk (Kd.V_lower (Kd.V_mono (ok' := fun k_ => some k_ ≠ (.slice Ao29 y256.length co29 : Value).ownBlock ∧ some k_ ≠ (.slice Ao38 y272.length co38 : Value).ownBlock ∧ some k_ ≠ (.slice Ao42 y280.length co42 : Value).ownBlock) ho0 (fun k_ hk_ => ⟨Or.elim hk_ (fun hs_ => hs_.1) (fun hn_ => (Kd.fresh' (Kd.R_lt (by exact HO258.out)) k_ hn_)), Or.elim hk_ (fun hs_ => hs_.2.1) (fun hn_ => (Kd.fresh' (Kd.R_lt (by exact HO274.out)) k_ hn_)), Or.elim hk_ (fun hs_ => hs_.2.2) (fun hn_ => (Kd.fresh' (Kd.R_lt (by exact HO282.out)) k_ hn_))⟩)) (below_size (by exact HB.out))); have HO293 := Aside0.mk (Kd.V_lower (Kd.V_mono (ok' := fun k_ => some k_ ≠ (.slice Ao29 y256.length co29 : Value).ownBlock ∧ some k_ ≠ (.slice Ao38 y272.length co38 : Value).ownBlock ∧ some k_ ≠ (.slice Ao42 y280.length co42 : Value).ownBlock) ho1 (fun k_ hk_ => ⟨Or.elim hk_ (fun hs_ => hs_.1) (fun hn_ => (Kd.fresh' (Kd.R_lt (by exact HO258.out)) k_ hn_)), Or.elim hk_ (fun hs_ => hs_.2.1) (fun hn_ => (Kd.fresh' (Kd.R_lt (by exact HO274.out)) k_ hn_)), Or.elim hk_ (fun hs_ => hs_.2.2) (fun hn_ => (Kd.fresh' (Kd.R_lt (by exact HO282.out)) k_ hn_))⟩)) (below_size (by exact HB.out))); replace HO258 := Aside0.mk (Kd.R_below (by exact HO258.out) hb); replace HO274 := Aside0.mk (Kd.R_below (by exact HO274.out) hb); replace HO282 := Aside0.mk (Kd.R_below (by exact HO282.out) hb); replace HB := Aside0.mk (below_step (by exact HB.out) hb); (try clear hb); (try clear hb2); (try clear hk); (try clear hi); (try clear ho0); (try clear ho1); obtain ⟨Ao46, co46, eo46⟩ := Kd.V_slice HO290.out; subst eo46) | ((with_reducible refine gate_callee (f := 60) rfl ?_); refine goesL_ (some 62) rfl rfl Tryd.func60 (by kernel_rfl) rfl #[.slice Ao46 t288.length co46, .int .i64 2, .int .i64 3] rfl (by (try simp only [List.map_toArray, List.map_cons, List.map_nil]); first | done | rfl | (simp only [List.length_drop, List.length_take]; rfl)) ?_; (with_reducible refine (bartab_Resign.calls (fun k_ => (some k_ ≠ (.slice Ao29 y256.length co29 : Value).ownBlock ∧ (some k_ ≠ (.slice Ao38 y272.length co38 : Value).ownBlock ∧ some k_ ≠ (.slice Ao42 y280.length co42 : Value).ownBlock))) _ _ t288 2 3 t295 t298 _ ?side1 ?side2 A7.out).mono ?_); (case side1 => exact Go.Proofs.YtdaionnpgcdkdaaDoor.GLW.below hG (by exact HB.out)); (case side2 => exact HO290.out); rintro e w47 ⟨v296, rfl, ho0, hb⟩; refine ⟨_, rfl, ?_⟩; replace HO263 := Aside0.mk (Kd.R_below (by exact HO263.out) hb); replace HO266 := Aside0.mk (Kd.V_below (by exact HO266.out) hb); replace HO270 := Aside0.mk (Kd.V_below (by exact HO270.out) hb); replace HO277 := Aside0.mk (Kd.V_below (by exact HO277.out) hb); replace HO285 := Aside0.mk (Kd.V_below (by exact HO285.out) hb); replace HO290 := Aside0.mk (Kd.V_below (by exact HO290.out) hb); replace HO293 := Aside0.mk (Kd.V_below (by exact HO293.out) hb); have HO297 := Aside0.mk (Kd.V_lower (Kd.V_mono (ok' := fun k_ => some k_ ≠ (.slice Ao29 y256.length co29 : Value).ownBlock ∧ some k_ ≠ (.slice Ao38 y272.length co38 : Value).ownBlock ∧ some k_ ≠ (.slice Ao42 y280.length co42 : Value).ownBlock) ho0 (fun k_ hk_ => ⟨Or.elim hk_ (fun hs_ => hs_.1) (fun hn_ => (Kd.fresh' (Kd.R_lt (by exact HO258.out)) k_ hn_)), Or.elim hk_ (fun hs_ => hs_.2.1) (fun hn_ => (Kd.fresh' (Kd.R_lt (by exact HO274.out)) k_ hn_)), Or.elim hk_ (fun hs_ => hs_.2.2) (fun hn_ => (Kd.fresh' (Kd.R_lt (by exact HO282.out)) k_ hn_))⟩)) (below_size (by exact HB.out))); replace HO258 := Aside0.mk (Kd.R_below (by exact HO258.out) hb); replace HO274 := Aside0.mk (Kd.R_below (by exact HO274.out) hb); replace HO282 := Aside0.mk (Kd.R_below (by exact HO282.out) hb); replace HB := Aside0.mk (below_step (by exact HB.out) hb); (try clear hb); (try clear hb2); (try clear hk); (try clear hi); (try clear ho0)) | (go_at_call 64; (with_reducible refine (bartab_Ready.calls k _ _ t283 t299 _ ?side1 ?side2 ?side3 A15.out).mono ?_); (case side1 => exact Go.Proofs.YtdaionnpgcdkdaaDoor.GLW.below hG (by exact HB.out)); (case side2 => exact (Kd.V_reads' HO285.out).2.2); (case side3 => exact (Kd.V_reads' HO285.out).2.1); rintro e w48 ⟨v300, rfl, ho0, hb⟩; replace HO258 := Aside0.mk (Kd.R_below (by exact HO258.out) hb); replace HO263 := Aside0.mk (Kd.R_below (by exact HO263.out) hb); replace HO266 := Aside0.mk (Kd.V_elder' (by exact HO266.out) (Kd.R_base ho0) hb); replace HO270 := Aside0.mk (Kd.V_elder' (by exact HO270.out) (Kd.R_base ho0) hb); replace HO274 := Aside0.mk (Kd.R_below (by exact HO274.out) hb); replace HO277 := Aside0.mk (Kd.V_elder' (by exact HO277.out) (Kd.R_base ho0) hb); replace HO282 := Aside0.mk (Kd.R_below (by exact HO282.out) hb); replace HO285 := Aside0.mk (Kd.V_elder' (by exact HO285.out) (Kd.R_base ho0) hb); replace HO290 := Aside0.mk (Kd.V_elder' (by exact HO290.out) (Kd.R_base ho0) hb); replace HO293 := Aside0.mk (Kd.V_elder' (by exact HO293.out) (Kd.R_base ho0) hb); replace HO297 := Aside0.mk (Kd.V_elder' (by exact HO297.out) (Kd.R_base ho0) hb); have HO301 := Aside0.mk (Kd.R_lower ho0 (below_size (by exact HB.out))); replace HB := Aside0.mk (below_step (by exact HB.out) hb); (try clear hb); (try clear hb2); (try clear hk); (try clear hi); (try clear ho0)) | ((with_reducible refine gate_dst (N := 94) rfl ?_); (try (refine gate_guard (by rfl) ?_; dsimp only)); refine Kd.R_lit (Kd.int .i64) _ 3 ?hg (N := 94) ?hd (xs := ([0] : List Int)) (inner := [.int .i64 0]) (ok := fun _ => True) (okp := fun _ => True) ?hr ?hp (fun _ hk => hk) trivial (Below.refl _ _) (Nat.le_refl _) (by simp) ?_; (case hd => rfl); (case hg => rfl); (case hr => first | (go_simp; done) | (go_simp; rfl)); (case hp => exact (Reps.one (show Kd.M (Kd.int .i64) _ _ _ 0 [.int .i64 0] from rfl) (Reps.none _ _))); intro v303 w49 ho50 hb hg_ hnew_; clear hg_ hnew_; (first | rw [← Ny302.out] at ho50 | (simp only [Int.reduceToNat] at ho50; rw [← Ny302.out] at ho50)); replace HO258 := Aside0.mk (Kd.R_below (by exact HO258.out) hb); replace HO263 := Aside0.mk (Kd.R_below (by exact HO263.out) hb); replace HO266 := Aside0.mk (Kd.V_elder' (by exact HO266.out) (Kd.R_base ho50) hb); replace HO270 := Aside0.mk (Kd.V_elder' (by exact HO270.out) (Kd.R_base ho50) hb); replace HO274 := Aside0.mk (Kd.R_below (by exact HO274.out) hb); replace HO277 := Aside0.mk (Kd.V_elder' (by exact HO277.out) (Kd.R_base ho50) hb); replace HO282 := Aside0.mk (Kd.R_below (by exact HO282.out) hb); replace HO285 := Aside0.mk (Kd.V_elder' (by exact HO285.out) (Kd.R_base ho50) hb); replace HO290 := Aside0.mk (Kd.V_elder' (by exact HO290.out) (Kd.R_base ho50) hb); replace HO293 := Aside0.mk (Kd.V_elder' (by exact HO293.out) (Kd.R_base ho50) hb); replace HO297 := Aside0.mk (Kd.V_elder' (by exact HO297.out) (Kd.R_base ho50) hb); have HO304 := Aside0.mk (Kd.R_lower (Kd.R_new' ho50 (Kd.R_lt (by exact HO301.out))) (below_size (by exact HB.out))); replace HO301 := Aside0.mk (Kd.R_elder' (by exact HO301.out) (Kd.R_base ho50) hb); replace HB := Aside0.mk (below_step (by exact HB.out) hb); clear hb ho50; obtain ⟨Ao51, co51, eo51⟩ := Kd.R_slice HO301.out; subst eo51; obtain ⟨Ao52, co52, eo52⟩ := Kd.R_slice HO304.out; subst eo52) | (go_at_call 30; (with_reducible refine (becketref02_Same.calls k _ _ t299 _ _ y302 true _ ?side1 ?side2 ?side3 ?side4 A16.out).mono ?_); (case side1 => exact (Kd.R_reads' HO301.out).2.2); (case side2 => exact (Kd.R_reads' HO301.out).2.1); (case side3 => exact (Kd.R_reads' HO304.out).2.2); (case side4 => exact (Kd.R_reads' HO304.out).2.1); rintro e w' ⟨rfl, ⟨nd, rfl⟩⟩) | (go_at_call 54; (with_reducible refine (bartab_Leave.calls _ _ t283 3 t306 _ ?side1 ?side2 ?side3 A18.out).mono ?_); (case side1 => exact Go.Proofs.YtdaionnpgcdkdaaDoor.GLW.below hG (by repeat (first | (with_reducible first | exact HB.out | apply below_alloc | apply pw_below_drewN | apply below_drew1) | exact HB.out))); (case side2 => repeat (first | exact (Kd.V_reads' HO285.out).2.2 | (with_reducible refine Kd.C_alloc ?_ _) | (with_reducible refine Kd.C_drewN ?_ _) | (with_reducible refine Kd.C_drew ?_))); (case side3 => exact (Kd.V_reads' HO285.out).2.1); rintro e w53 ⟨v307, rfl, ho0, hb⟩; replace HO258 := Aside0.mk (Kd.R_below (by (with_reducible repeat (first | apply Kd.R_alloc | apply Kd.R_drewN | apply Kd.R_drew)); exact HO258.out) hb); replace HO266 := Aside0.mk (Kd.V_elder' (by (with_reducible repeat (first | apply Kd.V_alloc | apply Kd.V_drewN | apply Kd.V_drew)); exact HO266.out) (Kd.R_base ho0) hb); replace HO270 := Aside0.mk (Kd.V_elder' (by (with_reducible repeat (first | apply Kd.V_alloc | apply Kd.V_drewN | apply Kd.V_drew)); exact HO270.out) (Kd.R_base ho0) hb); replace HO274 := Aside0.mk (Kd.R_below (by (with_reducible repeat (first | apply Kd.R_alloc | apply Kd.R_drewN | apply Kd.R_drew)); exact HO274.out) hb); replace HO277 := Aside0.mk (Kd.V_elder' (by (with_reducible repeat (first | apply Kd.V_alloc | apply Kd.V_drewN | apply Kd.V_drew)); exact HO277.out) (Kd.R_base ho0) hb); replace HO282 := Aside0.mk (Kd.R_below (by (with_reducible repeat (first | apply Kd.R_alloc | apply Kd.R_drewN | apply Kd.R_drew)); exact HO282.out) hb); replace HO285 := Aside0.mk (Kd.V_elder' (by (with_reducible repeat (first | apply Kd.V_alloc | apply Kd.V_drewN | apply Kd.V_drew)); exact HO285.out) (Kd.R_base ho0) hb); replace HO290 := Aside0.mk (Kd.V_elder' (by (with_reducible repeat (first | apply Kd.V_alloc | apply Kd.V_drewN | apply Kd.V_drew)); exact HO290.out) (Kd.R_base ho0) hb); replace HO293 := Aside0.mk (Kd.V_elder' (by (with_reducible repeat (first | apply Kd.V_alloc | apply Kd.V_drewN | apply Kd.V_drew)); exact HO293.out) (Kd.R_base ho0) hb); replace HO297 := Aside0.mk (Kd.V_elder' (by (with_reducible repeat (first | apply Kd.V_alloc | apply Kd.V_drewN | apply Kd.V_drew)); exact HO297.out) (Kd.R_base ho0) hb); replace HO301 := Aside0.mk (Kd.R_below (by (with_reducible repeat (first | apply Kd.R_alloc | apply Kd.R_drewN | apply Kd.R_drew)); exact HO301.out) hb); replace HO304 := Aside0.mk (Kd.R_below (by (with_reducible repeat (first | apply Kd.R_alloc | apply Kd.R_drewN | apply Kd.R_drew)); exact HO304.out) hb); have HO308 := Aside0.mk (Kd.R_lower (Kd.R_new' ho0 (Kd.R_lt (by (with_reducible repeat (first | apply Kd.R_alloc | apply Kd.R_drewN | apply Kd.R_drew)); exact HO263.out))) (below_size (by repeat (first | (with_reducible first | exact HB.out | apply below_alloc | apply pw_below_drewN | apply below_drew1) | exact HB.out)))); replace HO263 := Aside0.mk (Kd.R_elder' (by (with_reducible repeat (first | apply Kd.R_alloc | apply Kd.R_drewN | apply Kd.R_drew)); exact HO263.out) (Kd.R_base ho0) hb); replace HB := Aside0.mk (below_step (by repeat (first | (with_reducible first | exact HB.out | apply below_alloc | apply pw_below_drewN | apply below_drew1) | exact HB.out)) hb); (try clear hb); (try clear hb2); (try clear hk); (try clear hi); (try clear ho0); obtain ⟨Ao54, co54, eo54⟩ := Kd.R_slice HO308.out; subst eo54) | (go_at_call 64; (with_reducible refine (bartab_Ready.calls k _ _ t306 t309 _ ?side1 ?side2 ?side3 A19.out).mono ?_); (case side1 => exact Go.Proofs.YtdaionnpgcdkdaaDoor.GLW.below hG (by exact HB.out)); (case side2 => exact (Kd.R_reads' HO308.out).2.2); (case side3 => exact (Kd.R_reads' HO308.out).2.1); rintro e w55 ⟨v310, rfl, ho0, hb⟩; replace HO258 := Aside0.mk (Kd.R_below (by exact HO258.out) hb); replace HO263 := Aside0.mk (Kd.R_below (by exact HO263.out) hb); replace HO266 := Aside0.mk (Kd.V_elder' (by exact HO266.out) (Kd.R_base ho0) hb); replace HO270 := Aside0.mk (Kd.V_elder' (by exact HO270.out) (Kd.R_base ho0) hb); replace HO274 := Aside0.mk (Kd.R_below (by exact HO274.out) hb); replace HO277 := Aside0.mk (Kd.V_elder' (by exact HO277.out) (Kd.R_base ho0) hb); replace HO282 := Aside0.mk (Kd.R_below (by exact HO282.out) hb); replace HO285 := Aside0.mk (Kd.V_elder' (by exact HO285.out) (Kd.R_base ho0) hb); replace HO290 := Aside0.mk (Kd.V_elder' (by exact HO290.out) (Kd.R_base ho0) hb); replace HO293 := Aside0.mk (Kd.V_elder' (by exact HO293.out) (Kd.R_base ho0) hb); replace HO297 := Aside0.mk (Kd.V_elder' (by exact HO297.out) (Kd.R_base ho0) hb); replace HO308 := Aside0.mk (Kd.R_below (by exact HO308.out) hb); have HO311 := Aside0.mk (Kd.R_lower (Kd.R_new' (Kd.R_new' ho0 (Kd.R_lt (by exact HO301.out))) (Kd.R_lt (by exact HO304.out))) (below_size (by exact HB.out))); replace HO301 := Aside0.mk (Kd.R_elder' (by exact HO301.out) (Kd.R_base ho0) hb); replace HO304 := Aside0.mk (Kd.R_elder' (by exact HO304.out) (Kd.R_base ho0) hb); replace HB := Aside0.mk (below_step (by exact HB.out) hb); (try clear hb); (try clear hb2); (try clear hk); (try clear hi); (try clear ho0); obtain ⟨Ao56, co56, eo56⟩ := Kd.R_slice HO311.out; subst eo56) | ((with_reducible refine gate_dst (N := 110) rfl ?_); (try (refine gate_guard (by rfl) ?_; dsimp only)); refine Kd.R_lit (Kd.int .i64) _ 3 ?hg (N := 110) ?hd (xs := ([3] : List Int)) (inner := [.int .i64 3]) (ok := fun _ => True) (okp := fun _ => True) ?hr ?hp (fun _ hk => hk) trivial (Below.refl _ _) (Nat.le_refl _) (by simp) ?_; (case hd => rfl); (case hg => rfl); (case hr => first | (go_simp; done) | (go_simp; rfl)); (case hp => exact (Reps.one (show Kd.M (Kd.int .i64) _ _ _ 3 [.int .i64 3] from rfl) (Reps.none _ _))); intro v313 w57 ho58 hb hg_ hnew_; clear hg_ hnew_; (first | rw [← Ny312.out] at ho58 | (simp only [Int.reduceToNat] at ho58; rw [← Ny312.out] at ho58)); replace HO258 := Aside0.mk (Kd.R_below (by exact HO258.out) hb); replace HO263 := Aside0.mk (Kd.R_below (by exact HO263.out) hb); replace HO266 := Aside0.mk (Kd.V_elder' (by exact HO266.out) (Kd.R_base ho58) hb); replace HO270 := Aside0.mk (Kd.V_elder' (by exact HO270.out) (Kd.R_base ho58) hb); replace HO274 := Aside0.mk (Kd.R_below (by exact HO274.out) hb); replace HO277 := Aside0.mk (Kd.V_elder' (by exact HO277.out) (Kd.R_base ho58) hb); replace HO282 := Aside0.mk (Kd.R_below (by exact HO282.out) hb); replace HO285 := Aside0.mk (Kd.V_elder' (by exact HO285.out) (Kd.R_base ho58) hb); replace HO290 := Aside0.mk (Kd.V_elder' (by exact HO290.out) (Kd.R_base ho58) hb); replace HO293 := Aside0.mk (Kd.V_elder' (by exact HO293.out) (Kd.R_base ho58) hb); replace HO297 := Aside0.mk (Kd.V_elder' (by exact HO297.out) (Kd.R_base ho58) hb); replace HO308 := Aside0.mk (Kd.R_below (by exact HO308.out) hb); have HO314 := Aside0.mk (Kd.R_lower (Kd.R_new' (Kd.R_new' (Kd.R_new' ho58 (Kd.R_lt (by exact HO301.out))) (Kd.R_lt (by exact HO304.out))) (Kd.R_lt (by exact HO311.out))) (below_size (by exact HB.out))); replace HO301 := Aside0.mk (Kd.R_elder' (by exact HO301.out) (Kd.R_base ho58) hb); replace HO304 := Aside0.mk (Kd.R_elder' (by exact HO304.out) (Kd.R_base ho58) hb); replace HO311 := Aside0.mk (Kd.R_elder' (by exact HO311.out) (Kd.R_base ho58) hb); replace HB := Aside0.mk (below_step (by exact HB.out) hb); clear hb ho58; obtain ⟨Ao59, co59, eo59⟩ := Kd.V_slice HO293.out; subst eo59; obtain ⟨Ao60, co60, eo60⟩ := Kd.R_slice HO314.out; subst eo60) | (go_at_call 30; (with_reducible refine (becketref02_Same.calls k _ _ t291 _ _ y312 true _ ?side1 ?side2 ?side3 ?side4 A22.out).mono ?_); (case side1 => exact (Kd.V_reads' HO293.out).2.2); (case side2 => exact (Kd.V_reads' HO293.out).2.1); (case side3 => exact (Kd.R_reads' HO314.out).2.2); (case side4 => exact (Kd.R_reads' HO314.out).2.1); rintro e w' ⟨rfl, ⟨nd, rfl⟩⟩) | (go_at_call 56; (with_reducible refine (bartab_Quit.calls _ _ t288 3 t316 _ ?side1 ?side2 ?side3 A25.out).mono ?_); (case side1 => exact Go.Proofs.YtdaionnpgcdkdaaDoor.GLW.below hG (by repeat (first | (with_reducible first | exact HB.out | apply below_alloc | apply pw_below_drewN | apply below_drew1) | exact HB.out))); (case side2 => repeat (first | exact (Kd.V_reads' HO290.out).2.2 | (with_reducible refine Kd.C_alloc ?_ _) | (with_reducible refine Kd.C_drewN ?_ _) | (with_reducible refine Kd.C_drew ?_))); (case side3 => exact (Kd.V_reads' HO290.out).2.1); rintro e w61 ⟨v317, rfl, ho0, hb⟩; replace HO258 := Aside0.mk (Kd.R_below (by (with_reducible repeat (first | apply Kd.R_alloc | apply Kd.R_drewN | apply Kd.R_drew)); exact HO258.out) hb); replace HO266 := Aside0.mk (Kd.V_elder' (by (with_reducible repeat (first | apply Kd.V_alloc | apply Kd.V_drewN | apply Kd.V_drew)); exact HO266.out) (Kd.R_base ho0) hb); replace HO270 := Aside0.mk (Kd.V_elder' (by (with_reducible repeat (first | apply Kd.V_alloc | apply Kd.V_drewN | apply Kd.V_drew)); exact HO270.out) (Kd.R_base ho0) hb); replace HO274 := Aside0.mk (Kd.R_below (by (with_reducible repeat (first | apply Kd.R_alloc | apply Kd.R_drewN | apply Kd.R_drew)); exact HO274.out) hb); replace HO277 := Aside0.mk (Kd.V_elder' (by (with_reducible repeat (first | apply Kd.V_alloc | apply Kd.V_drewN | apply Kd.V_drew)); exact HO277.out) (Kd.R_base ho0) hb); replace HO282 := Aside0.mk (Kd.R_below (by (with_reducible repeat (first | apply Kd.R_alloc | apply Kd.R_drewN | apply Kd.R_drew)); exact HO282.out) hb); replace HO285 := Aside0.mk (Kd.V_elder' (by (with_reducible repeat (first | apply Kd.V_alloc | apply Kd.V_drewN | apply Kd.V_drew)); exact HO285.out) (Kd.R_base ho0) hb); replace HO290 := Aside0.mk (Kd.V_elder' (by (with_reducible repeat (first | apply Kd.V_alloc | apply Kd.V_drewN | apply Kd.V_drew)); exact HO290.out) (Kd.R_base ho0) hb); replace HO293 := Aside0.mk (Kd.V_elder' (by (with_reducible repeat (first | apply Kd.V_alloc | apply Kd.V_drewN | apply Kd.V_drew)); exact HO293.out) (Kd.R_base ho0) hb); replace HO297 := Aside0.mk (Kd.V_elder' (by (with_reducible repeat (first | apply Kd.V_alloc | apply Kd.V_drewN | apply Kd.V_drew)); exact HO297.out) (Kd.R_base ho0) hb); replace HO301 := Aside0.mk (Kd.R_below (by (with_reducible repeat (first | apply Kd.R_alloc | apply Kd.R_drewN | apply Kd.R_drew)); exact HO301.out) hb); replace HO304 := Aside0.mk (Kd.R_below (by (with_reducible repeat (first | apply Kd.R_alloc | apply Kd.R_drewN | apply Kd.R_drew)); exact HO304.out) hb); replace HO311 := Aside0.mk (Kd.R_below (by (with_reducible repeat (first | apply Kd.R_alloc | apply Kd.R_drewN | apply Kd.R_drew)); exact HO311.out) hb); replace HO314 := Aside0.mk (Kd.R_below (by (with_reducible repeat (first | apply Kd.R_alloc | apply Kd.R_drewN | apply Kd.R_drew)); exact HO314.out) hb); have HO318 := Aside0.mk (Kd.R_lower (Kd.R_new' (Kd.R_new' ho0 (Kd.R_lt (by (with_reducible repeat (first | apply Kd.R_alloc | apply Kd.R_drewN | apply Kd.R_drew)); exact HO263.out))) (Kd.R_lt (by (with_reducible repeat (first | apply Kd.R_alloc | apply Kd.R_drewN | apply Kd.R_drew)); exact HO308.out))) (below_size (by repeat (first | (with_reducible first | exact HB.out | apply below_alloc | apply pw_below_drewN | apply below_drew1) | exact HB.out)))); replace HO263 := Aside0.mk (Kd.R_elder' (by (with_reducible repeat (first | apply Kd.R_alloc | apply Kd.R_drewN | apply Kd.R_drew)); exact HO263.out) (Kd.R_base ho0) hb); replace HO308 := Aside0.mk (Kd.R_elder' (by (with_reducible repeat (first | apply Kd.R_alloc | apply Kd.R_drewN | apply Kd.R_drew)); exact HO308.out) (Kd.R_base ho0) hb); replace HB := Aside0.mk (below_step (by repeat (first | (with_reducible first | exact HB.out | apply below_alloc | apply pw_below_drewN | apply below_drew1) | exact HB.out)) hb); (try clear hb); (try clear hb2); (try clear hk); (try clear hi); (try clear ho0); obtain ⟨Ao62, co62, eo62⟩ := Kd.R_slice HO318.out; subst eo62; have p319 : 0 ≤ (1 : Int) := (by omega); have q319 : 1 < (t316.length : Int) := of_decide_eq_true (by first | (with_reducible assumption) | assumption); obtain ⟨ad319, e319, hx319_0, hx319_1, hx319_2, hx319_3, hx319_4, hx319_5, hx319_6, hx319_7, hx319_8, hx319_9, hx319_10⟩ := at_T51 (Kd.R_reads' HO318.out).2.2 1 p319 q319; cases e319; (try simp only [show (1 : Int).toNat = 1 from rfl, Nat.reduceMul, Nat.reduceEqDiff, Go.Addr.add, ↓reduceIte] at hx319_0); (try simp only [show (1 : Int).toNat = 1 from rfl, Nat.reduceMul, Nat.reduceEqDiff, Go.Addr.add, ↓reduceIte] at hx319_1); (try simp only [show (1 : Int).toNat = 1 from rfl, Nat.reduceMul, Nat.reduceEqDiff, Go.Addr.add, ↓reduceIte] at hx319_2); (try simp only [show (1 : Int).toNat = 1 from rfl, Nat.reduceMul, Nat.reduceEqDiff, Go.Addr.add, ↓reduceIte] at hx319_3); (try simp only [show (1 : Int).toNat = 1 from rfl, Nat.reduceMul, Nat.reduceEqDiff, Go.Addr.add, ↓reduceIte] at hx319_4); (try simp only [show (1 : Int).toNat = 1 from rfl, Nat.reduceMul, Nat.reduceEqDiff, Go.Addr.add, ↓reduceIte] at hx319_5); (try simp only [show (1 : Int).toNat = 1 from rfl, Nat.reduceMul, Nat.reduceEqDiff, Go.Addr.add, ↓reduceIte] at hx319_6); (try simp only [show (1 : Int).toNat = 1 from rfl, Nat.reduceMul, Nat.reduceEqDiff, Go.Addr.add, ↓reduceIte] at hx319_7); (try simp only [show (1 : Int).toNat = 1 from rfl, Nat.reduceMul, Nat.reduceEqDiff, Go.Addr.add, ↓reduceIte] at hx319_8); (try simp only [show (1 : Int).toNat = 1 from rfl, Nat.reduceMul, Nat.reduceEqDiff, Go.Addr.add, ↓reduceIte] at hx319_9); (try simp only [show (1 : Int).toNat = 1 from rfl, Nat.reduceMul, Nat.reduceEqDiff, Go.Addr.add, ↓reduceIte] at hx319_10); have qi319 : (1 < t316.length) = True := eq_true (by omega); (try rw [show ((1 : Int)).toNat = 1 from rfl] at hx319_0); (try rw [show 1 * 11 = 11 from rfl] at hx319_0); (try rw [show ((1 : Int)).toNat = 1 from rfl] at hx319_1); (try rw [show 1 * 11 = 11 from rfl] at hx319_1); (try rw [show ((1 : Int)).toNat = 1 from rfl] at hx319_2); (try rw [show 1 * 11 = 11 from rfl] at hx319_2); (try rw [show ((1 : Int)).toNat = 1 from rfl] at hx319_3); (try rw [show 1 * 11 = 11 from rfl] at hx319_3); (try rw [show ((1 : Int)).toNat = 1 from rfl] at hx319_4); (try rw [show 1 * 11 = 11 from rfl] at hx319_4); (try rw [show ((1 : Int)).toNat = 1 from rfl] at hx319_5); (try rw [show 1 * 11 = 11 from rfl] at hx319_5); (try rw [show ((1 : Int)).toNat = 1 from rfl] at hx319_6); (try rw [show 1 * 11 = 11 from rfl] at hx319_6); (try rw [show ((1 : Int)).toNat = 1 from rfl] at hx319_7); (try rw [show 1 * 11 = 11 from rfl] at hx319_7); (try rw [show ((1 : Int)).toNat = 1 from rfl] at hx319_8); (try rw [show 1 * 11 = 11 from rfl] at hx319_8); (try rw [show ((1 : Int)).toNat = 1 from rfl] at hx319_9); (try rw [show 1 * 11 = 11 from rfl] at hx319_9); (try rw [show ((1 : Int)).toNat = 1 from rfl] at hx319_10); (try rw [show 1 * 11 = 11 from rfl] at hx319_10); replace p319 := eq_true p319; replace q319 := eq_true q319))
                            go_ret
                            exact ⟨by first | rfl | (simp [errW_none, errW_some] <;> rfl) | (simp [*, errW_none, errW_some] <;> rfl), by exact HB.out⟩
                          · rw [if_neg c26] at H
                            exact absurd H (by simp)
                        · rw [if_neg c24] at H
                          exact absurd H (by simp)
                      · replace c23 := Bool.eq_false_iff.mpr c23
                        subst c23
                        have H1 : (none) = some r := by rw [if_neg (show ¬ (false = true) by decide)] at H; exact H
                        clear H
                        have H := H1
                        clear H1
                        exact absurd H (by simp)
                    · rw [if_neg c21] at H
                      exact absurd H (by simp)
                  · rw [if_neg c20] at H
                    exact absurd H (by simp)
                · replace c17 := Bool.eq_false_iff.mpr c17
                  subst c17
                  have H1 : (none) = some r := by rw [if_neg (show ¬ (false = true) by decide)] at H; exact H
                  clear H
                  have H := H1
                  clear H1
                  exact absurd H (by simp)
              · rw [if_neg c14] at H
                exact absurd H (by simp)
            · rw [if_neg c13] at H
              exact absurd H (by simp)
          · rw [if_neg c12] at H
            exact absurd H (by simp)
        · rw [if_neg c11] at H
          exact absurd H (by simp)
      · rw [if_neg c10] at H
        exact absurd H (by simp)
    · rw [if_neg c9] at H
      exact absurd H (by simp)
  · rw [if_neg c8] at H
    exact absurd H (by simp)

/-! ### becketlaw21_Same: function 80 -/
def becketlaw21_Same.f (k : Nat) (l0_0 : List Int) (l0_1 : List Int) (l1_0 : List Int) (l1_1 : List Int) : Option (Bool) := (becketref02_Same.f k l0_0 l1_0).bind fun t322 => (if t322 = true then ((becketref02_Same.f k l0_1 l1_1).bind fun t323 => (some t323)) else (some false))
theorem becketlaw21_Same.mono : ∀ a0 a1 a2 a3 k, LeO (becketlaw21_Same.f k a0 a1 a2 a3) (becketlaw21_Same.f (k + 1) a0 a1 a2 a3) := by
  intro a0 a1 a2 a3 k
  unfold becketlaw21_Same.f
  repeat' first
      | (with_reducible exact becketref02_Same.mono _ _ _)
      | (with_reducible exact LeO.refl _)
      | (with_reducible exact LeO.none _)
      | (with_reducible refine LeO.ite ?_ ?_)
      | (with_reducible refine LeO.bind ?_ (fun _ => ?_))
      | exact becketref02_Same.mono _ _ _
      | exact LeO.none _
      | refine LeO.ite ?_ ?_
      | refine LeO.bind ?_ (fun _ => ?_)
set_option maxHeartbeats 8000000 in
set_option maxRecDepth 100000 in
theorem becketlaw21_Same.calls (k : Nat) (A0_0 : Option Addr) (c0_0 : Nat) (l0_0 : List Int) (A0_1 : Option Addr) (c0_1 : Nat) (l0_1 : List Int) (A1_0 : Option Addr) (c1_0 : Nat) (l1_0 : List Int) (A1_1 : Option Addr) (c1_1 : Nat) (l1_1 : List Int) (r : Bool) (w : World) (hr0_0 : Kd.C (Kd.int .i64) w A0_0 l0_0.length l0_0) (hc0_0 : l0_0.length ≤ c0_0) (hr0_1 : Kd.C (Kd.int .i64) w A0_1 l0_1.length l0_1) (hc0_1 : l0_1.length ≤ c0_1) (hr1_0 : Kd.C (Kd.int .i64) w A1_0 l1_0.length l1_0) (hc1_0 : l1_0.length ≤ c1_0) (hr1_1 : Kd.C (Kd.int .i64) w A1_1 l1_1.length l1_1) (hc1_1 : l1_1.length ≤ c1_1) (h : becketlaw21_Same.f k l0_0 l0_1 l1_0 l1_1 = some r) :
    Calls Tryd.prog 80 #[.agg #[.slice A0_0 l0_0.length c0_0, .slice A0_1 l0_1.length c0_1], .agg #[.slice A1_0 l1_0.length c1_0, .slice A1_1 l1_1.length c1_1]] w fun e w' => e = .returned (.bool r) ∧ Below w.heap.size w w' := by
  have hu45 := Tryd.underlying45
  have HR0_0 := Aside0.mk hr0_0
  have HC0_0 := Aside0.mk hc0_0
  clear hr0_0 hc0_0
  have HR0_1 := Aside0.mk hr0_1
  have HC0_1 := Aside0.mk hc0_1
  clear hr0_1 hc0_1
  have HR1_0 := Aside0.mk hr1_0
  have HC1_0 := Aside0.mk hc1_0
  clear hr1_0 hc1_0
  have HR1_1 := Aside0.mk hr1_1
  have HC1_1 := Aside0.mk hc1_1
  clear hr1_1 hc1_1
  have HB := Aside0.mk (Below.refl w.heap.size w)
  have H : ((becketref02_Same.f k l0_0 l1_0).bind fun t322 => (if t322 = true then ((becketref02_Same.f k l0_1 l1_1).bind fun t323 => (some t323)) else (some false))) = some r := h
  clear h
  replace H := Option.bind_eq_some_iff.mp H
  obtain ⟨t322, A30, H⟩ := H
  replace H : (if t322 = true then ((becketref02_Same.f k l0_1 l1_1).bind fun t323 => (some t323)) else (some false)) = some r := H
  have A3 := Aside0.mk A30
  clear A30
  by_cases c4 : t322 = true
  · subst c4
    have H1 : ((becketref02_Same.f k l0_1 l1_1).bind fun t323 => (some t323)) = some r := by rw [if_pos rfl] at H; exact H
    clear H
    have H := H1
    clear H1
    replace H := Option.bind_eq_some_iff.mp H
    obtain ⟨t323, A50, H⟩ := H
    replace H : (some t323) = some r := H
    have A5 := Aside0.mk A50
    clear A50
    obtain rfl := Option.some.inj H
    go_enter Tryd.func80, Tryd.ntmps80
    go_wp2_with (first | ((with_reducible refine gate_dst (N := 2) rfl ?_); refine box_event ?hg (N := 2) ?hd (cs := #[.slice A0_0 l0_0.length c0_0, .slice A0_1 l0_1.length c0_1]) (t := 45) ?hr ?_; (case hd => rfl); (case hg => rfl); (case hr => first | (go_simp; done) | (go_simp; rfl)); intro gb320 hg w6 hbox hb; have BK320 := Aside0.mk (hbox); have GW320 := Aside0.mk ((by rw [hg]; exact (below_size (by exact HB.out)) : w.heap.size ≤ gb320)); have GE320 := Aside0.mk ((by rw [hg]; exact (below_size (by exact HB.out)) : w.heap.size ≤ gb320)); replace HB := Aside0.mk (below_step (by exact HB.out) hb); clear hb hbox hg) | ((with_reducible refine gate_dst (N := 3) rfl ?_); refine box_event ?hg (N := 3) ?hd (cs := #[.slice A1_0 l1_0.length c1_0, .slice A1_1 l1_1.length c1_1]) (t := 45) ?hr ?_; (case hd => rfl); (case hg => rfl); (case hr => first | (go_simp; done) | (go_simp; rfl)); intro gb321 hg w7 hbox hb; have BK321 := Aside0.mk (hbox); have GW321 := Aside0.mk ((by rw [hg]; exact (below_size (by exact HB.out)) : w.heap.size ≤ gb321)); have GE321 := Aside0.mk ((by rw [hg]; exact (below_size (by exact HB.out)) : w.heap.size ≤ gb321)); replace HB := Aside0.mk (below_step (by exact HB.out) hb); have NB320_321 := Aside0.mk ((by rw [hg]; exact Nat.ne_of_lt (blk_lt BK320.out) : gb320 ≠ gb321)); have NB321_320 := Aside0.mk ((by rw [hg]; exact Nat.ne_of_gt (blk_lt BK320.out) : gb321 ≠ gb320)); replace BK320 := Aside0.mk (blk_below BK320.out hb); clear hb hbox hg; have hnb8 := NB320_321.out; have hnc8 := NB321_320.out; have hcz9_0 : w7.cell? ⟨gb320, 0, none⟩ = some (.slice A0_0 l0_0.length c0_0) := (blk_cell BK320.out 0).trans rfl; have hcz9_1 : w7.cell? ⟨gb320, 1, none⟩ = some (.slice A0_1 l0_1.length c0_1) := (blk_cell BK320.out 1).trans rfl; have hfz9_0 := blk_frozen BK320.out 0; have hfz9_1 := blk_frozen BK320.out 1; have hcz10_0 : w7.cell? ⟨gb321, 0, none⟩ = some (.slice A1_0 l1_0.length c1_0) := (blk_cell BK321.out 0).trans rfl; have hcz10_1 : w7.cell? ⟨gb321, 1, none⟩ = some (.slice A1_1 l1_1.length c1_1) := (blk_cell BK321.out 1).trans rfl; have hfz10_0 := blk_frozen BK321.out 0; have hfz10_1 := blk_frozen BK321.out 1) | ((with_reducible refine gate_callee (f := 30) rfl ?_); refine goesL_ (some 9) rfl rfl Tryd.func30 (by kernel_rfl) rfl #[.slice A0_0 l0_0.length c0_0, .slice A1_0 l1_0.length c1_0] rfl (by (try simp only [List.map_toArray, List.map_cons, List.map_nil]); first | done | rfl | (simp only [List.length_drop, List.length_take]; rfl)) ?_; (with_reducible refine (becketref02_Same.calls k _ _ l0_0 _ _ l1_0 true _ ?side1 ?side2 ?side3 ?side4 A3.out).mono ?_); (case side1 => exact (Kd.C_below HR0_0.out HB.out)); (case side2 => exact HC0_0.out); (case side3 => exact (Kd.C_below HR1_0.out HB.out)); (case side4 => exact HC1_0.out); rintro e w' ⟨rfl, ⟨nd, rfl⟩⟩; refine ⟨_, rfl, ?_⟩) | (go_at_call 30; (with_reducible refine (becketref02_Same.calls k _ _ l0_1 _ _ l1_1 t323 _ ?side1 ?side2 ?side3 ?side4 A5.out).mono ?_); (case side1 => repeat (first | exact (Kd.C_below HR0_1.out (by repeat (first | (with_reducible first | exact HB.out | apply below_alloc | apply pw_below_drewN | apply below_drew1 | refine below_set ?_ GE320.out | refine below_set ?_ GE321.out) | exact HB.out))) | (with_reducible refine Kd.C_alloc ?_ _) | (with_reducible refine Kd.C_drewN ?_ _) | (with_reducible refine Kd.C_drew ?_))); (case side2 => exact HC0_1.out); (case side3 => repeat (first | exact (Kd.C_below HR1_1.out (by repeat (first | (with_reducible first | exact HB.out | apply below_alloc | apply pw_below_drewN | apply below_drew1 | refine below_set ?_ GE320.out | refine below_set ?_ GE321.out) | exact HB.out))) | (with_reducible refine Kd.C_alloc ?_ _) | (with_reducible refine Kd.C_drewN ?_ _) | (with_reducible refine Kd.C_drew ?_))); (case side4 => exact HC1_1.out); rintro e w' ⟨rfl, ⟨nd, rfl⟩⟩))
    go_ret
    exact ⟨by first | rfl | (simp [errW_none, errW_some] <;> rfl) | (simp [*, errW_none, errW_some] <;> rfl), by repeat (first | (with_reducible first | exact HB.out | apply below_alloc | apply pw_below_drewN | apply below_drew1 | refine below_set ?_ GE320.out | refine below_set ?_ GE321.out) | exact HB.out)⟩
  · replace c4 := Bool.eq_false_iff.mpr c4
    subst c4
    have H1 : (some false) = some r := by rw [if_neg (show ¬ (false = true) by decide)] at H; exact H
    clear H
    have H := H1
    clear H1
    obtain rfl := Option.some.inj H
    go_enter Tryd.func80, Tryd.ntmps80
    go_wp2_with (first | ((with_reducible refine gate_dst (N := 2) rfl ?_); refine box_event ?hg (N := 2) ?hd (cs := #[.slice A0_0 l0_0.length c0_0, .slice A0_1 l0_1.length c0_1]) (t := 45) ?hr ?_; (case hd => rfl); (case hg => rfl); (case hr => first | (go_simp; done) | (go_simp; rfl)); intro gb320 hg w11 hbox hb; have BK320 := Aside0.mk (hbox); have GW320 := Aside0.mk ((by rw [hg]; exact (below_size (by exact HB.out)) : w.heap.size ≤ gb320)); have GE320 := Aside0.mk ((by rw [hg]; exact (below_size (by exact HB.out)) : w.heap.size ≤ gb320)); replace HB := Aside0.mk (below_step (by exact HB.out) hb); clear hb hbox hg) | ((with_reducible refine gate_dst (N := 3) rfl ?_); refine box_event ?hg (N := 3) ?hd (cs := #[.slice A1_0 l1_0.length c1_0, .slice A1_1 l1_1.length c1_1]) (t := 45) ?hr ?_; (case hd => rfl); (case hg => rfl); (case hr => first | (go_simp; done) | (go_simp; rfl)); intro gb321 hg w12 hbox hb; have BK321 := Aside0.mk (hbox); have GW321 := Aside0.mk ((by rw [hg]; exact (below_size (by exact HB.out)) : w.heap.size ≤ gb321)); have GE321 := Aside0.mk ((by rw [hg]; exact (below_size (by exact HB.out)) : w.heap.size ≤ gb321)); replace HB := Aside0.mk (below_step (by exact HB.out) hb); have NB320_321 := Aside0.mk ((by rw [hg]; exact Nat.ne_of_lt (blk_lt BK320.out) : gb320 ≠ gb321)); have NB321_320 := Aside0.mk ((by rw [hg]; exact Nat.ne_of_gt (blk_lt BK320.out) : gb321 ≠ gb320)); replace BK320 := Aside0.mk (blk_below BK320.out hb); clear hb hbox hg; have hnb13 := NB320_321.out; have hnc13 := NB321_320.out; have hcz14_0 : w12.cell? ⟨gb320, 0, none⟩ = some (.slice A0_0 l0_0.length c0_0) := (blk_cell BK320.out 0).trans rfl; have hcz14_1 : w12.cell? ⟨gb320, 1, none⟩ = some (.slice A0_1 l0_1.length c0_1) := (blk_cell BK320.out 1).trans rfl; have hfz14_0 := blk_frozen BK320.out 0; have hfz14_1 := blk_frozen BK320.out 1; have hcz15_0 : w12.cell? ⟨gb321, 0, none⟩ = some (.slice A1_0 l1_0.length c1_0) := (blk_cell BK321.out 0).trans rfl; have hcz15_1 : w12.cell? ⟨gb321, 1, none⟩ = some (.slice A1_1 l1_1.length c1_1) := (blk_cell BK321.out 1).trans rfl; have hfz15_0 := blk_frozen BK321.out 0; have hfz15_1 := blk_frozen BK321.out 1) | ((with_reducible refine gate_callee (f := 30) rfl ?_); refine goesL_ (some 9) rfl rfl Tryd.func30 (by kernel_rfl) rfl #[.slice A0_0 l0_0.length c0_0, .slice A1_0 l1_0.length c1_0] rfl (by (try simp only [List.map_toArray, List.map_cons, List.map_nil]); first | done | rfl | (simp only [List.length_drop, List.length_take]; rfl)) ?_; (with_reducible refine (becketref02_Same.calls k _ _ l0_0 _ _ l1_0 false _ ?side1 ?side2 ?side3 ?side4 A3.out).mono ?_); (case side1 => exact (Kd.C_below HR0_0.out HB.out)); (case side2 => exact HC0_0.out); (case side3 => exact (Kd.C_below HR1_0.out HB.out)); (case side4 => exact HC1_0.out); rintro e w' ⟨rfl, ⟨nd, rfl⟩⟩; refine ⟨_, rfl, ?_⟩))
    go_ret
    exact ⟨by first | rfl | (simp [errW_none, errW_some] <;> rfl) | (simp [*, errW_none, errW_some] <;> rfl), by repeat (first | (with_reducible first | exact HB.out | apply below_alloc | apply pw_below_drewN | apply below_drew1 | refine below_set ?_ GE320.out | refine below_set ?_ GE321.out) | exact HB.out)⟩

/-! ### becketlaw22_Same: function 28 -/
def becketlaw22_Same.f (k : Nat) (a0_0 : Bool) (a0_1 : Int) (l0_2 : List Int) (l0_3 : List Int) (a0_4 : Int) (a1_0 : Bool) (a1_1 : Int) (l1_2 : List Int) (l1_3 : List Int) (a1_4 : Int) : Option (Bool) := if (a0_0 == a1_0 && (a0_1 == a1_1)) = true then ((becketlaw21_Same.f k l0_2 l0_3 l1_2 l1_3).bind fun t326 => (if t326 = true then (some (a0_4 == a1_4)) else (some false))) else (some false)
theorem becketlaw22_Same.mono : ∀ a0 a1 a2 a3 a4 a5 a6 a7 a8 a9 k, LeO (becketlaw22_Same.f k a0 a1 a2 a3 a4 a5 a6 a7 a8 a9) (becketlaw22_Same.f (k + 1) a0 a1 a2 a3 a4 a5 a6 a7 a8 a9) := by
  intro a0 a1 a2 a3 a4 a5 a6 a7 a8 a9 k
  unfold becketlaw22_Same.f
  repeat' first
      | (with_reducible exact becketlaw21_Same.mono _ _ _ _ _)
      | (with_reducible exact LeO.refl _)
      | (with_reducible exact LeO.none _)
      | (with_reducible refine LeO.ite ?_ ?_)
      | (with_reducible refine LeO.bind ?_ (fun _ => ?_))
      | exact becketlaw21_Same.mono _ _ _ _ _
      | exact LeO.none _
      | refine LeO.ite ?_ ?_
      | refine LeO.bind ?_ (fun _ => ?_)
set_option maxHeartbeats 8000000 in
set_option maxRecDepth 100000 in
theorem becketlaw22_Same.calls (k : Nat) (a0_0 : Bool) (a0_1 : Int) (A0_2 : Option Addr) (c0_2 : Nat) (l0_2 : List Int) (A0_3 : Option Addr) (c0_3 : Nat) (l0_3 : List Int) (a0_4 : Int) (a1_0 : Bool) (a1_1 : Int) (A1_2 : Option Addr) (c1_2 : Nat) (l1_2 : List Int) (A1_3 : Option Addr) (c1_3 : Nat) (l1_3 : List Int) (a1_4 : Int) (r : Bool) (w : World) (hr0_2 : Kd.C (Kd.int .i64) w A0_2 l0_2.length l0_2) (hc0_2 : l0_2.length ≤ c0_2) (hr0_3 : Kd.C (Kd.int .i64) w A0_3 l0_3.length l0_3) (hc0_3 : l0_3.length ≤ c0_3) (hr1_2 : Kd.C (Kd.int .i64) w A1_2 l1_2.length l1_2) (hc1_2 : l1_2.length ≤ c1_2) (hr1_3 : Kd.C (Kd.int .i64) w A1_3 l1_3.length l1_3) (hc1_3 : l1_3.length ≤ c1_3) (h : becketlaw22_Same.f k a0_0 a0_1 l0_2 l0_3 a0_4 a1_0 a1_1 l1_2 l1_3 a1_4 = some r) :
    Calls Tryd.prog 28 #[.agg #[.bool a0_0, .int .i64 a0_1, .slice A0_2 l0_2.length c0_2, .slice A0_3 l0_3.length c0_3, .int .i64 a0_4], .agg #[.bool a1_0, .int .i64 a1_1, .slice A1_2 l1_2.length c1_2, .slice A1_3 l1_3.length c1_3, .int .i64 a1_4]] w fun e w' => e = .returned (.bool r) ∧ Below w.heap.size w w' := by
  have hu47 := Tryd.underlying47
  have hu43 := Tryd.underlying43
  have hu45 := Tryd.underlying45
  have HR0_2 := Aside0.mk hr0_2
  have HC0_2 := Aside0.mk hc0_2
  clear hr0_2 hc0_2
  have HR0_3 := Aside0.mk hr0_3
  have HC0_3 := Aside0.mk hc0_3
  clear hr0_3 hc0_3
  have HR1_2 := Aside0.mk hr1_2
  have HC1_2 := Aside0.mk hc1_2
  clear hr1_2 hc1_2
  have HR1_3 := Aside0.mk hr1_3
  have HC1_3 := Aside0.mk hc1_3
  clear hr1_3 hc1_3
  have HB := Aside0.mk (Below.refl w.heap.size w)
  have H : (if (a0_0 == a1_0 && (a0_1 == a1_1)) = true then ((becketlaw21_Same.f k l0_2 l0_3 l1_2 l1_3).bind fun t326 => (if t326 = true then (some (a0_4 == a1_4)) else (some false))) else (some false)) = some r := h
  clear h
  by_cases c3 : (a0_0 == a1_0 && (a0_1 == a1_1)) = true
  · rw [if_pos c3] at H
    have c3b0 : (a0_0 == a1_0 && (a0_1 == a1_1)) = true := c3
    (try (have c3b1 : decide (a0_0 = a1_0 && (a0_1 == a1_1)) = true := by simpa using c3))
    (try (have c3b2 : (a0_0 == a1_0 && (a0_1 == a1_1)) = true := by simpa using c3))
    clear c3
    replace H := Option.bind_eq_some_iff.mp H
    obtain ⟨t326, A40, H⟩ := H
    replace H : (if t326 = true then (some (a0_4 == a1_4)) else (some false)) = some r := H
    have A4 := Aside0.mk A40
    clear A40
    by_cases c5 : t326 = true
    · subst c5
      have H1 : (some (a0_4 == a1_4)) = some r := by rw [if_pos rfl] at H; exact H
      clear H
      have H := H1
      clear H1
      obtain rfl := Option.some.inj H
      go_enter Tryd.func28, Tryd.ntmps28
      go_wp2_with (first | ((with_reducible refine gate_dst (N := 2) rfl ?_); refine box_event ?hg (N := 2) ?hd (cs := #[.bool a0_0, .int .i64 a0_1, .slice A0_2 l0_2.length c0_2, .slice A0_3 l0_3.length c0_3, .int .i64 a0_4]) (t := 47) ?hr ?_; (case hd => rfl); (case hg => rfl); (case hr => first | (go_simp; done) | (go_simp; rfl)); intro gb324 hg w6 hbox hb; have BK324 := Aside0.mk (hbox); have GW324 := Aside0.mk ((by rw [hg]; exact (below_size (by exact HB.out)) : w.heap.size ≤ gb324)); have GE324 := Aside0.mk ((by rw [hg]; exact (below_size (by exact HB.out)) : w.heap.size ≤ gb324)); replace HB := Aside0.mk (below_step (by exact HB.out) hb); clear hb hbox hg) | ((with_reducible refine gate_dst (N := 3) rfl ?_); refine box_event ?hg (N := 3) ?hd (cs := #[.bool a1_0, .int .i64 a1_1, .slice A1_2 l1_2.length c1_2, .slice A1_3 l1_3.length c1_3, .int .i64 a1_4]) (t := 47) ?hr ?_; (case hd => rfl); (case hg => rfl); (case hr => first | (go_simp; done) | (go_simp; rfl)); intro gb325 hg w7 hbox hb; have BK325 := Aside0.mk (hbox); have GW325 := Aside0.mk ((by rw [hg]; exact (below_size (by exact HB.out)) : w.heap.size ≤ gb325)); have GE325 := Aside0.mk ((by rw [hg]; exact (below_size (by exact HB.out)) : w.heap.size ≤ gb325)); replace HB := Aside0.mk (below_step (by exact HB.out) hb); have NB324_325 := Aside0.mk ((by rw [hg]; exact Nat.ne_of_lt (blk_lt BK324.out) : gb324 ≠ gb325)); have NB325_324 := Aside0.mk ((by rw [hg]; exact Nat.ne_of_gt (blk_lt BK324.out) : gb325 ≠ gb324)); replace BK324 := Aside0.mk (blk_below BK324.out hb); clear hb hbox hg; have hnb8 := NB324_325.out; have hnc8 := NB325_324.out; have hcz9_0 : w7.cell? ⟨gb324, 0, none⟩ = some (.bool a0_0) := (blk_cell BK324.out 0).trans rfl; have hcz9_1 : w7.cell? ⟨gb324, 1, none⟩ = some (.int .i64 a0_1) := (blk_cell BK324.out 1).trans rfl; have hcz9_2 : w7.cell? ⟨gb324, 2, none⟩ = some (.slice A0_2 l0_2.length c0_2) := (blk_cell BK324.out 2).trans rfl; have hcz9_3 : w7.cell? ⟨gb324, 3, none⟩ = some (.slice A0_3 l0_3.length c0_3) := (blk_cell BK324.out 3).trans rfl; have hcz9_4 : w7.cell? ⟨gb324, 4, none⟩ = some (.int .i64 a0_4) := (blk_cell BK324.out 4).trans rfl; have hfz9_0 := blk_frozen BK324.out 0; have hfz9_1 := blk_frozen BK324.out 1; have hfz9_2 := blk_frozen BK324.out 2; have hfz9_3 := blk_frozen BK324.out 3; have hfz9_4 := blk_frozen BK324.out 4; have hcz10_0 : w7.cell? ⟨gb325, 0, none⟩ = some (.bool a1_0) := (blk_cell BK325.out 0).trans rfl; have hcz10_1 : w7.cell? ⟨gb325, 1, none⟩ = some (.int .i64 a1_1) := (blk_cell BK325.out 1).trans rfl; have hcz10_2 : w7.cell? ⟨gb325, 2, none⟩ = some (.slice A1_2 l1_2.length c1_2) := (blk_cell BK325.out 2).trans rfl; have hcz10_3 : w7.cell? ⟨gb325, 3, none⟩ = some (.slice A1_3 l1_3.length c1_3) := (blk_cell BK325.out 3).trans rfl; have hcz10_4 : w7.cell? ⟨gb325, 4, none⟩ = some (.int .i64 a1_4) := (blk_cell BK325.out 4).trans rfl; have hfz10_0 := blk_frozen BK325.out 0; have hfz10_1 := blk_frozen BK325.out 1; have hfz10_2 := blk_frozen BK325.out 2; have hfz10_3 := blk_frozen BK325.out 3; have hfz10_4 := blk_frozen BK325.out 4) | (go_at_call 80; (with_reducible refine (becketlaw21_Same.calls k _ _ l0_2 _ _ l0_3 _ _ l1_2 _ _ l1_3 true _ ?side1 ?side2 ?side3 ?side4 ?side5 ?side6 ?side7 ?side8 A4.out).mono ?_); (case side1 => exact (Kd.C_below HR0_2.out HB.out)); (case side2 => exact HC0_2.out); (case side3 => exact (Kd.C_below HR0_3.out HB.out)); (case side4 => exact HC0_3.out); (case side5 => exact (Kd.C_below HR1_2.out HB.out)); (case side6 => exact HC1_2.out); (case side7 => exact (Kd.C_below HR1_3.out HB.out)); (case side8 => exact HC1_3.out); rintro e w11 ⟨rfl, hb⟩; replace BK324 := Aside0.mk (blk_below BK324.out hb); replace BK325 := Aside0.mk (blk_below BK325.out hb); replace HB := Aside0.mk (below_step (by exact HB.out) hb); (try clear hb); (try clear hb2); (try clear hk); (try clear hi); have hcz12_0 : w11.cell? ⟨gb324, 0, none⟩ = some (.bool a0_0) := (blk_cell BK324.out 0).trans rfl; have hcz12_1 : w11.cell? ⟨gb324, 1, none⟩ = some (.int .i64 a0_1) := (blk_cell BK324.out 1).trans rfl; have hcz12_2 : w11.cell? ⟨gb324, 2, none⟩ = some (.slice A0_2 l0_2.length c0_2) := (blk_cell BK324.out 2).trans rfl; have hcz12_3 : w11.cell? ⟨gb324, 3, none⟩ = some (.slice A0_3 l0_3.length c0_3) := (blk_cell BK324.out 3).trans rfl; have hcz12_4 : w11.cell? ⟨gb324, 4, none⟩ = some (.int .i64 a0_4) := (blk_cell BK324.out 4).trans rfl; have hfz12_0 := blk_frozen BK324.out 0; have hfz12_1 := blk_frozen BK324.out 1; have hfz12_2 := blk_frozen BK324.out 2; have hfz12_3 := blk_frozen BK324.out 3; have hfz12_4 := blk_frozen BK324.out 4; have hcz13_0 : w11.cell? ⟨gb325, 0, none⟩ = some (.bool a1_0) := (blk_cell BK325.out 0).trans rfl; have hcz13_1 : w11.cell? ⟨gb325, 1, none⟩ = some (.int .i64 a1_1) := (blk_cell BK325.out 1).trans rfl; have hcz13_2 : w11.cell? ⟨gb325, 2, none⟩ = some (.slice A1_2 l1_2.length c1_2) := (blk_cell BK325.out 2).trans rfl; have hcz13_3 : w11.cell? ⟨gb325, 3, none⟩ = some (.slice A1_3 l1_3.length c1_3) := (blk_cell BK325.out 3).trans rfl; have hcz13_4 : w11.cell? ⟨gb325, 4, none⟩ = some (.int .i64 a1_4) := (blk_cell BK325.out 4).trans rfl; have hfz13_0 := blk_frozen BK325.out 0; have hfz13_1 := blk_frozen BK325.out 1; have hfz13_2 := blk_frozen BK325.out 2; have hfz13_3 := blk_frozen BK325.out 3; have hfz13_4 := blk_frozen BK325.out 4))
      go_ret
      exact ⟨by first | rfl | (simp [errW_none, errW_some] <;> rfl) | (simp [*, errW_none, errW_some] <;> rfl), by exact HB.out⟩
    · replace c5 := Bool.eq_false_iff.mpr c5
      subst c5
      have H1 : (some false) = some r := by rw [if_neg (show ¬ (false = true) by decide)] at H; exact H
      clear H
      have H := H1
      clear H1
      obtain rfl := Option.some.inj H
      go_enter Tryd.func28, Tryd.ntmps28
      go_wp2_with (first | ((with_reducible refine gate_dst (N := 2) rfl ?_); refine box_event ?hg (N := 2) ?hd (cs := #[.bool a0_0, .int .i64 a0_1, .slice A0_2 l0_2.length c0_2, .slice A0_3 l0_3.length c0_3, .int .i64 a0_4]) (t := 47) ?hr ?_; (case hd => rfl); (case hg => rfl); (case hr => first | (go_simp; done) | (go_simp; rfl)); intro gb324 hg w14 hbox hb; have BK324 := Aside0.mk (hbox); have GW324 := Aside0.mk ((by rw [hg]; exact (below_size (by exact HB.out)) : w.heap.size ≤ gb324)); have GE324 := Aside0.mk ((by rw [hg]; exact (below_size (by exact HB.out)) : w.heap.size ≤ gb324)); replace HB := Aside0.mk (below_step (by exact HB.out) hb); clear hb hbox hg) | ((with_reducible refine gate_dst (N := 3) rfl ?_); refine box_event ?hg (N := 3) ?hd (cs := #[.bool a1_0, .int .i64 a1_1, .slice A1_2 l1_2.length c1_2, .slice A1_3 l1_3.length c1_3, .int .i64 a1_4]) (t := 47) ?hr ?_; (case hd => rfl); (case hg => rfl); (case hr => first | (go_simp; done) | (go_simp; rfl)); intro gb325 hg w15 hbox hb; have BK325 := Aside0.mk (hbox); have GW325 := Aside0.mk ((by rw [hg]; exact (below_size (by exact HB.out)) : w.heap.size ≤ gb325)); have GE325 := Aside0.mk ((by rw [hg]; exact (below_size (by exact HB.out)) : w.heap.size ≤ gb325)); replace HB := Aside0.mk (below_step (by exact HB.out) hb); have NB324_325 := Aside0.mk ((by rw [hg]; exact Nat.ne_of_lt (blk_lt BK324.out) : gb324 ≠ gb325)); have NB325_324 := Aside0.mk ((by rw [hg]; exact Nat.ne_of_gt (blk_lt BK324.out) : gb325 ≠ gb324)); replace BK324 := Aside0.mk (blk_below BK324.out hb); clear hb hbox hg; have hnb16 := NB324_325.out; have hnc16 := NB325_324.out; have hcz17_0 : w15.cell? ⟨gb324, 0, none⟩ = some (.bool a0_0) := (blk_cell BK324.out 0).trans rfl; have hcz17_1 : w15.cell? ⟨gb324, 1, none⟩ = some (.int .i64 a0_1) := (blk_cell BK324.out 1).trans rfl; have hcz17_2 : w15.cell? ⟨gb324, 2, none⟩ = some (.slice A0_2 l0_2.length c0_2) := (blk_cell BK324.out 2).trans rfl; have hcz17_3 : w15.cell? ⟨gb324, 3, none⟩ = some (.slice A0_3 l0_3.length c0_3) := (blk_cell BK324.out 3).trans rfl; have hcz17_4 : w15.cell? ⟨gb324, 4, none⟩ = some (.int .i64 a0_4) := (blk_cell BK324.out 4).trans rfl; have hfz17_0 := blk_frozen BK324.out 0; have hfz17_1 := blk_frozen BK324.out 1; have hfz17_2 := blk_frozen BK324.out 2; have hfz17_3 := blk_frozen BK324.out 3; have hfz17_4 := blk_frozen BK324.out 4; have hcz18_0 : w15.cell? ⟨gb325, 0, none⟩ = some (.bool a1_0) := (blk_cell BK325.out 0).trans rfl; have hcz18_1 : w15.cell? ⟨gb325, 1, none⟩ = some (.int .i64 a1_1) := (blk_cell BK325.out 1).trans rfl; have hcz18_2 : w15.cell? ⟨gb325, 2, none⟩ = some (.slice A1_2 l1_2.length c1_2) := (blk_cell BK325.out 2).trans rfl; have hcz18_3 : w15.cell? ⟨gb325, 3, none⟩ = some (.slice A1_3 l1_3.length c1_3) := (blk_cell BK325.out 3).trans rfl; have hcz18_4 : w15.cell? ⟨gb325, 4, none⟩ = some (.int .i64 a1_4) := (blk_cell BK325.out 4).trans rfl; have hfz18_0 := blk_frozen BK325.out 0; have hfz18_1 := blk_frozen BK325.out 1; have hfz18_2 := blk_frozen BK325.out 2; have hfz18_3 := blk_frozen BK325.out 3; have hfz18_4 := blk_frozen BK325.out 4) | (go_at_call 80; (with_reducible refine (becketlaw21_Same.calls k _ _ l0_2 _ _ l0_3 _ _ l1_2 _ _ l1_3 false _ ?side1 ?side2 ?side3 ?side4 ?side5 ?side6 ?side7 ?side8 A4.out).mono ?_); (case side1 => exact (Kd.C_below HR0_2.out HB.out)); (case side2 => exact HC0_2.out); (case side3 => exact (Kd.C_below HR0_3.out HB.out)); (case side4 => exact HC0_3.out); (case side5 => exact (Kd.C_below HR1_2.out HB.out)); (case side6 => exact HC1_2.out); (case side7 => exact (Kd.C_below HR1_3.out HB.out)); (case side8 => exact HC1_3.out); rintro e w19 ⟨rfl, hb⟩; replace BK324 := Aside0.mk (blk_below BK324.out hb); replace BK325 := Aside0.mk (blk_below BK325.out hb); replace HB := Aside0.mk (below_step (by exact HB.out) hb); (try clear hb); (try clear hb2); (try clear hk); (try clear hi)))
      go_ret
      exact ⟨by first | rfl | (simp [errW_none, errW_some] <;> rfl) | (simp [*, errW_none, errW_some] <;> rfl), by exact HB.out⟩
  · rw [if_neg c3] at H
    have c3b0 : (a0_0 == a1_0 && (a0_1 == a1_1)) = false := by simpa using c3
    (try (have c3b1 : decide (a0_0 = a1_0 && (a0_1 == a1_1)) = false := by simpa using c3))
    (try (have c3b2 : (a0_0 == a1_0 && (a0_1 == a1_1)) = false := by simpa using c3))
    (try (have c3b3 : ¬ (a0_0 = a1_0 && (a0_1 == a1_1)) := by simpa using c3))
    clear c3
    obtain rfl := Option.some.inj H
    go_enter Tryd.func28, Tryd.ntmps28
    go_wp2_with (first | ((with_reducible refine gate_dst (N := 2) rfl ?_); refine box_event ?hg (N := 2) ?hd (cs := #[.bool a0_0, .int .i64 a0_1, .slice A0_2 l0_2.length c0_2, .slice A0_3 l0_3.length c0_3, .int .i64 a0_4]) (t := 47) ?hr ?_; (case hd => rfl); (case hg => rfl); (case hr => first | (go_simp; done) | (go_simp; rfl)); intro gb324 hg w20 hbox hb; have BK324 := Aside0.mk (hbox); have GW324 := Aside0.mk ((by rw [hg]; exact (below_size (by exact HB.out)) : w.heap.size ≤ gb324)); have GE324 := Aside0.mk ((by rw [hg]; exact (below_size (by exact HB.out)) : w.heap.size ≤ gb324)); replace HB := Aside0.mk (below_step (by exact HB.out) hb); clear hb hbox hg) | ((with_reducible refine gate_dst (N := 3) rfl ?_); refine box_event ?hg (N := 3) ?hd (cs := #[.bool a1_0, .int .i64 a1_1, .slice A1_2 l1_2.length c1_2, .slice A1_3 l1_3.length c1_3, .int .i64 a1_4]) (t := 47) ?hr ?_; (case hd => rfl); (case hg => rfl); (case hr => first | (go_simp; done) | (go_simp; rfl)); intro gb325 hg w21 hbox hb; have BK325 := Aside0.mk (hbox); have GW325 := Aside0.mk ((by rw [hg]; exact (below_size (by exact HB.out)) : w.heap.size ≤ gb325)); have GE325 := Aside0.mk ((by rw [hg]; exact (below_size (by exact HB.out)) : w.heap.size ≤ gb325)); replace HB := Aside0.mk (below_step (by exact HB.out) hb); have NB324_325 := Aside0.mk ((by rw [hg]; exact Nat.ne_of_lt (blk_lt BK324.out) : gb324 ≠ gb325)); have NB325_324 := Aside0.mk ((by rw [hg]; exact Nat.ne_of_gt (blk_lt BK324.out) : gb325 ≠ gb324)); replace BK324 := Aside0.mk (blk_below BK324.out hb); clear hb hbox hg; have hnb22 := NB324_325.out; have hnc22 := NB325_324.out; have hcz23_0 : w21.cell? ⟨gb324, 0, none⟩ = some (.bool a0_0) := (blk_cell BK324.out 0).trans rfl; have hcz23_1 : w21.cell? ⟨gb324, 1, none⟩ = some (.int .i64 a0_1) := (blk_cell BK324.out 1).trans rfl; have hcz23_2 : w21.cell? ⟨gb324, 2, none⟩ = some (.slice A0_2 l0_2.length c0_2) := (blk_cell BK324.out 2).trans rfl; have hcz23_3 : w21.cell? ⟨gb324, 3, none⟩ = some (.slice A0_3 l0_3.length c0_3) := (blk_cell BK324.out 3).trans rfl; have hcz23_4 : w21.cell? ⟨gb324, 4, none⟩ = some (.int .i64 a0_4) := (blk_cell BK324.out 4).trans rfl; have hfz23_0 := blk_frozen BK324.out 0; have hfz23_1 := blk_frozen BK324.out 1; have hfz23_2 := blk_frozen BK324.out 2; have hfz23_3 := blk_frozen BK324.out 3; have hfz23_4 := blk_frozen BK324.out 4; have hcz24_0 : w21.cell? ⟨gb325, 0, none⟩ = some (.bool a1_0) := (blk_cell BK325.out 0).trans rfl; have hcz24_1 : w21.cell? ⟨gb325, 1, none⟩ = some (.int .i64 a1_1) := (blk_cell BK325.out 1).trans rfl; have hcz24_2 : w21.cell? ⟨gb325, 2, none⟩ = some (.slice A1_2 l1_2.length c1_2) := (blk_cell BK325.out 2).trans rfl; have hcz24_3 : w21.cell? ⟨gb325, 3, none⟩ = some (.slice A1_3 l1_3.length c1_3) := (blk_cell BK325.out 3).trans rfl; have hcz24_4 : w21.cell? ⟨gb325, 4, none⟩ = some (.int .i64 a1_4) := (blk_cell BK325.out 4).trans rfl; have hfz24_0 := blk_frozen BK325.out 0; have hfz24_1 := blk_frozen BK325.out 1; have hfz24_2 := blk_frozen BK325.out 2; have hfz24_3 := blk_frozen BK325.out 3; have hfz24_4 := blk_frozen BK325.out 4))
    go_ret
    exact ⟨by first | rfl | (simp [errW_none, errW_some] <;> rfl) | (simp [*, errW_none, errW_some] <;> rfl), by exact HB.out⟩

/-! ### becketlaw23_Same: function 52 -/
def becketlaw23_Same.l0 : Nat → List (S47) → List (S47) → Int → Int → Option (Bool)
  | 0, _, _, _, _ => none
  | k + 1, x0, x1, x12, x13 => if x13 < x12 then (if 0 ≤ x13 then (if x13 < (x0.length : Int) then (if x13 < (x1.length : Int) then ((becketlaw22_Same.f k ((rd_T47 x0 x13).f0.f0) ((rd_T47 x0 x13).f0.f1) ((rd_T47 x0 x13).f1.f0) ((rd_T47 x0 x13).f1.f1) ((rd_T47 x0 x13).f2) ((rd_T47 x1 x13).f0.f0) ((rd_T47 x1 x13).f0.f1) ((rd_T47 x1 x13).f1.f0) ((rd_T47 x1 x13).f1.f1) ((rd_T47 x1 x13).f2)).bind fun t329 => (if t329 = true then (becketlaw23_Same.l0 k x0 x1 x12 (wrap64 (x13 + 1))) else (some false))) else (none)) else (none)) else (none)) else (some true)
def becketlaw23_Same.f (k : Nat) (l0 : List (S47)) (l1 : List (S47)) : Option (Bool) := if (l0.length : Int) = (l1.length : Int) then (becketlaw23_Same.l0 k l0 l1 (l0.length : Int) 0) else (some false)
theorem becketlaw23_Same.mono_l : ∀ k, (∀ y0 y1 y2 y3, LeO (becketlaw23_Same.l0 k y0 y1 y2 y3) (becketlaw23_Same.l0 (k + 1) y0 y1 y2 y3))
  | 0 => fun _ _ _ _ r h => by simp [becketlaw23_Same.l0] at h
  | k + 1 => by
    have ih0 := becketlaw23_Same.mono_l k
    · intro y0 y1 y2 y3
      unfold becketlaw23_Same.l0
      repeat' first
      | (with_reducible exact ih0 _ _ _ _)
      | (with_reducible exact becketlaw22_Same.mono _ _ _ _ _ _ _ _ _ _ _)
      | (with_reducible exact LeO.refl _)
      | (with_reducible exact LeO.none _)
      | (with_reducible refine LeO.ite ?_ ?_)
      | (with_reducible refine LeO.bind ?_ (fun _ => ?_))
      | exact ih0 _ _ _ _
      | exact becketlaw22_Same.mono _ _ _ _ _ _ _ _ _ _ _
      | exact LeO.none _
      | refine LeO.ite ?_ ?_
      | refine LeO.bind ?_ (fun _ => ?_)
theorem becketlaw23_Same.mono : ∀ a0 a1 k, LeO (becketlaw23_Same.f k a0 a1) (becketlaw23_Same.f (k + 1) a0 a1) := by
  intro a0 a1 k
  have ih0 := becketlaw23_Same.mono_l k
  unfold becketlaw23_Same.f
  repeat' first
      | (with_reducible exact ih0 _ _ _ _)
      | (with_reducible exact becketlaw22_Same.mono _ _ _ _ _ _ _ _ _ _ _)
      | (with_reducible exact LeO.refl _)
      | (with_reducible exact LeO.none _)
      | (with_reducible refine LeO.ite ?_ ?_)
      | (with_reducible refine LeO.bind ?_ (fun _ => ?_))
      | exact ih0 _ _ _ _
      | exact becketlaw22_Same.mono _ _ _ _ _ _ _ _ _ _ _
      | exact LeO.none _
      | refine LeO.ite ?_ ?_
      | refine LeO.bind ?_ (fun _ => ?_)
def becketlaw23_Same.T6 : Bool × List (List Nat × List Nat) := (true, [([], []), ([], []), ([0, 1], [0, 1]), ([2], [2]), ([], []), ([], []), ([4, 5], [4, 5]), ([6], [6]), ([3, 7], [3, 7]), ([8], [8])])
def becketlaw23_Same.B6 : List Nat := [0, 0, 3, 7, 0, 0, 48, 112, 255, 511]
theorem becketlaw23_Same.tab6 : rtab .any (opsOf Tryd.f52 6) = becketlaw23_Same.T6 := by kernel_rfl
theorem becketlaw23_Same.bits6 : waitsOk becketlaw23_Same.T6.2 becketlaw23_Same.B6 = true := by kernel_rfl
set_option maxHeartbeats 8000000 in
set_option maxRecDepth 100000 in
theorem becketlaw23_Same.calls (k : Nat) (A0 : Option Addr) (c0 : Nat) (l0 : List (S47)) (A1 : Option Addr) (c1 : Nat) (l1 : List (S47)) (r : Bool) (w : World) (hr0 : Kd.C k47 w A0 l0.length l0) (hc0 : l0.length ≤ c0) (hr1 : Kd.C k47 w A1 l1.length l1) (hc1 : l1.length ≤ c1) (h : becketlaw23_Same.f k l0 l1 = some r) :
    Calls Tryd.prog 52 #[.slice A0 l0.length c0, .slice A1 l1.length c1] w fun e w' => e = .returned (.bool r) ∧ Below w.heap.size w w' := by
  have hu47 := Tryd.underlying47
  have HR0 := Aside0.mk hr0
  have HC0 := Aside0.mk hc0
  clear hr0 hc0
  have HR1 := Aside0.mk hr1
  have HC1 := Aside0.mk hc1
  clear hr1 hc1
  have HB := Aside0.mk (Below.refl w.heap.size w)
  have H : (if (l0.length : Int) = (l1.length : Int) then (becketlaw23_Same.l0 k l0 l1 (l0.length : Int) 0) else (some false)) = some r := h
  clear h
  by_cases c3 : (l0.length : Int) = (l1.length : Int)
  · rw [if_pos c3] at H
    have c3b0 : ((l0.length : Int) == (l1.length : Int)) = true := beq_iff_eq.mpr c3
    have c3b1 : ((l0.length : Int) != (l1.length : Int)) = false := bne_eq_false_iff_eq.mpr c3
    have c3b2 : (l0.length == l1.length) = true := by first | simpa using c3 | (simp at c3 ⊢; omega)
    clear c3
    have H' := Aside0.mk H
    clear H
    go_enter Tryd.func52, Tryd.ntmps52
    go_wp2
    go_loopg [13] k (fun kq v13 w' => ∃ (x13_1 : Int), v13 = .int .i64 x13_1 ∧ Aside0 (becketlaw23_Same.l0 kq l0 l1 (l0.length : Int) x13_1 = some r) ∧ Aside0 (kq ≤ k) ∧ Aside0 (Below w.heap.size w w'))
    case atStart => exact ⟨(0), (by first | rfl | (simp; done) | (simp [*]; done)), H', ⟨Nat.le_refl _⟩, ⟨by exact HB.out⟩⟩
    case round =>
      clear H'
      try clear c1
      try clear p2
      try clear c3
      try clear c3b0
      try clear c3b1
      try clear c3b2
      obtain ⟨x13_1, rfl, HA, HK1, HB⟩ := hrel
      cases gk with
      | zero => exact absurd HA.out (by simp [becketlaw23_Same.l0])
      | succ k1 =>
        have H := HA.out
        clear HA
        simp only [becketlaw23_Same.l0] at H
        by_cases c4 : x13_1 < (l0.length : Int)
        · rw [if_pos c4] at H
          have c4b0 : decide (x13_1 < (l0.length : Int)) = true := decide_eq_true c4
          clear c4
          by_cases c5 : 0 ≤ x13_1
          · rw [if_pos c5] at H
            have c5b0 : decide (0 ≤ x13_1) = true := decide_eq_true c5
            clear c5
            by_cases c6 : x13_1 < (l0.length : Int)
            · rw [if_pos c6] at H
              have c6b0 : decide (x13_1 < (l0.length : Int)) = true := decide_eq_true c6
              clear c6
              by_cases c7 : x13_1 < (l1.length : Int)
              · rw [if_pos c7] at H
                have c7b0 : decide (x13_1 < (l1.length : Int)) = true := decide_eq_true c7
                clear c7
                replace H := Option.bind_eq_some_iff.mp H
                obtain ⟨t329, A80, H⟩ := H
                replace H : (if t329 = true then (becketlaw23_Same.l0 k1 l0 l1 (l0.length : Int) (wrap64 (x13_1 + 1))) else (some false)) = some r := H
                have A8 := Aside0.mk A80
                clear A80
                by_cases c9 : t329 = true
                · subst c9
                  have H1 : (becketlaw23_Same.l0 k1 l0 l1 (l0.length : Int) (wrap64 (x13_1 + 1))) = some r := by rw [if_pos rfl] at H; exact H
                  clear H
                  have H := H1
                  clear H1
                  have H' := Aside0.mk H
                  clear H
                  try go_wp2
                  replace HB := Aside0.mk (below_drew1 HB.out)
                  have p327 : 0 ≤ (x13_1 : Int) := of_decide_eq_true (by first | (with_reducible assumption) | assumption)
                  have q327 : x13_1 < (l0.length : Int) := of_decide_eq_true (by first | (with_reducible assumption) | assumption)
                  obtain ⟨ad327, A327_2, c327_2, A327_3, c327_3, e327, hx327_0, hx327_1, hx327_2, hx327_3, hx327_4, hl327_2, hi327_2, hl327_3, hi327_3⟩ := at_T47 HR0.out x13_1 p327 q327
                  have hw327_4 := hx327_4
                  have hw327_3 := hx327_3
                  have hw327_2 := hx327_2
                  have hw327_1 := hx327_1
                  have hw327_0 := hx327_0
                  cases e327
                  replace hx327_0 := (HB.out.cell (World.block_lt_of_cell? w _ hx327_0)).trans hx327_0
                  replace hx327_1 := (HB.out.cell (World.block_lt_of_cell? w _ hx327_1)).trans hx327_1
                  replace hx327_2 := (HB.out.cell (World.block_lt_of_cell? w _ hx327_2)).trans hx327_2
                  replace hx327_3 := (HB.out.cell (World.block_lt_of_cell? w _ hx327_3)).trans hx327_3
                  replace hx327_4 := (HB.out.cell (World.block_lt_of_cell? w _ hx327_4)).trans hx327_4
                  have HR327_2 := Aside0.mk hi327_2
                  have HC327_2 := Aside0.mk hl327_2
                  clear hi327_2 hl327_2
                  have HR327_3 := Aside0.mk hi327_3
                  have HC327_3 := Aside0.mk hl327_3
                  clear hi327_3 hl327_3
                  replace p327 := eq_true p327
                  replace q327 := eq_true q327
                  have p328 : 0 ≤ (x13_1 : Int) := of_decide_eq_true (by first | (with_reducible assumption) | assumption)
                  have q328 : x13_1 < (l1.length : Int) := of_decide_eq_true (by first | (with_reducible assumption) | assumption)
                  obtain ⟨ad328, A328_2, c328_2, A328_3, c328_3, e328, hx328_0, hx328_1, hx328_2, hx328_3, hx328_4, hl328_2, hi328_2, hl328_3, hi328_3⟩ := at_T47 HR1.out x13_1 p328 q328
                  have hw328_4 := hx328_4
                  have hw328_3 := hx328_3
                  have hw328_2 := hx328_2
                  have hw328_1 := hx328_1
                  have hw328_0 := hx328_0
                  cases e328
                  replace hx328_0 := (HB.out.cell (World.block_lt_of_cell? w _ hx328_0)).trans hx328_0
                  replace hx328_1 := (HB.out.cell (World.block_lt_of_cell? w _ hx328_1)).trans hx328_1
                  replace hx328_2 := (HB.out.cell (World.block_lt_of_cell? w _ hx328_2)).trans hx328_2
                  replace hx328_3 := (HB.out.cell (World.block_lt_of_cell? w _ hx328_3)).trans hx328_3
                  replace hx328_4 := (HB.out.cell (World.block_lt_of_cell? w _ hx328_4)).trans hx328_4
                  have HR328_2 := Aside0.mk hi328_2
                  have HC328_2 := Aside0.mk hl328_2
                  clear hi328_2 hl328_2
                  have HR328_3 := Aside0.mk hi328_3
                  have HC328_3 := Aside0.mk hl328_3
                  clear hi328_3 hl328_3
                  replace p328 := eq_true p328
                  replace q328 := eq_true q328
                  refine start_ (n := 10) (S := fun w' => w'.cell? (ad327.add ((x13_1).toNat * 5)) = some (.bool ((rd_T47 l0 x13_1).f0.f0)) ∧ w'.cell? ⟨(ad327.add ((x13_1).toNat * 5)).block, (ad327.add ((x13_1).toNat * 5)).off + 1, none⟩ = some (.int .i64 ((rd_T47 l0 x13_1).f0.f1)) ∧ w'.cell? ⟨(ad327.add ((x13_1).toNat * 5)).block, (ad327.add ((x13_1).toNat * 5)).off + 2, none⟩ = some (.slice A327_2 ((rd_T47 l0 x13_1).f1.f0).length c327_2) ∧ w'.cell? ⟨(ad327.add ((x13_1).toNat * 5)).block, (ad327.add ((x13_1).toNat * 5)).off + 3, none⟩ = some (.slice A327_3 ((rd_T47 l0 x13_1).f1.f1).length c327_3) ∧ w'.cell? ⟨(ad327.add ((x13_1).toNat * 5)).block, (ad327.add ((x13_1).toNat * 5)).off + 4, none⟩ = some (.int .i64 ((rd_T47 l0 x13_1).f2)) ∧ w'.cell? (ad328.add ((x13_1).toNat * 5)) = some (.bool ((rd_T47 l1 x13_1).f0.f0)) ∧ w'.cell? ⟨(ad328.add ((x13_1).toNat * 5)).block, (ad328.add ((x13_1).toNat * 5)).off + 1, none⟩ = some (.int .i64 ((rd_T47 l1 x13_1).f0.f1)) ∧ w'.cell? ⟨(ad328.add ((x13_1).toNat * 5)).block, (ad328.add ((x13_1).toNat * 5)).off + 2, none⟩ = some (.slice A328_2 ((rd_T47 l1 x13_1).f1.f0).length c328_2) ∧ w'.cell? ⟨(ad328.add ((x13_1).toNat * 5)).block, (ad328.add ((x13_1).toNat * 5)).off + 3, none⟩ = some (.slice A328_3 ((rd_T47 l1 x13_1).f1.f1).length c328_3) ∧ w'.cell? ⟨(ad328.add ((x13_1).toNat * 5)).block, (ad328.add ((x13_1).toNat * 5)).off + 4, none⟩ = some (.int .i64 ((rd_T47 l1 x13_1).f2))) (ds := []) #[false, false, false, false, false, false, false, false, false, false] (by kernel_rfl) rfl rfl ⟨((HB.out.cell (World.block_lt_of_cell? w _ hw327_0)).trans hw327_0), ((HB.out.cell (World.block_lt_of_cell? w _ hw327_1)).trans hw327_1), ((HB.out.cell (World.block_lt_of_cell? w _ hw327_2)).trans hw327_2), ((HB.out.cell (World.block_lt_of_cell? w _ hw327_3)).trans hw327_3), ((HB.out.cell (World.block_lt_of_cell? w _ hw327_4)).trans hw327_4), ((HB.out.cell (World.block_lt_of_cell? w _ hw328_0)).trans hw328_0), ((HB.out.cell (World.block_lt_of_cell? w _ hw328_1)).trans hw328_1), ((HB.out.cell (World.block_lt_of_cell? w _ hw328_2)).trans hw328_2), ((HB.out.cell (World.block_lt_of_cell? w _ hw328_3)).trans hw328_3), ((HB.out.cell (World.block_lt_of_cell? w _ hw328_4)).trans hw328_4)⟩ (fun hHeld => ?_); refine with_tabW becketlaw23_Same.tab6 becketlaw23_Same.bits6 (fun HT_ HW_ => ?_)
                  generalize wr.drew = w10 at HB HR327_2 HR327_3 HR328_2 HR328_3 hx327_0 hx327_1 hx327_2 hx327_3 hx327_4 hx328_0 hx328_1 hx328_2 hx328_3 hx328_4 hHeld ⊢
                  refine pure_ (i := 0) (N := some 16) (v := ?_) (a' := ?_) #[true, false, false, false, false, false, false, false, false, false] rfl rfl (any_of HT_.out (by kernel_rfl)) (fun _ _ _ h => h) (Or.inl ⟨by rfl, ?_⟩) ?_ ?_
                  rotate_left
                  · intro w'
                    go_simp
                    with_reducible rfl
                  rotate_left
                  · simp only [Act.put, List.setIfInBounds_toArray, List.set_cons_zero, List.set_cons_succ, i64_w, i32_w]
                    rfl
                  refine pure_ (i := 1) (N := some 17) (v := ?_) (a' := ?_) #[true, true, false, false, false, false, false, false, false, false] rfl rfl (any_of HT_.out (by kernel_rfl)) (fun _ _ _ h => h) (Or.inl ⟨by rfl, ?_⟩) ?_ ?_
                  rotate_left
                  · intro w'
                    go_simp
                    with_reducible rfl
                  rotate_left
                  · simp only [Act.put, List.setIfInBounds_toArray, List.set_cons_zero, List.set_cons_succ, i64_w, i32_w]
                    rfl
                  refine pure_ (i := 2) (N := some 18) (v := ?_) (a' := ?_) #[true, true, true, false, false, false, false, false, false, false] rfl rfl (any_of HT_.out (by kernel_rfl)) (fun _ _ _ h => h) (Or.inl ⟨by rfl, ?_⟩) ?_ ?_
                  rotate_left
                  · intro w'
                    go_simp
                    with_reducible rfl
                  rotate_left
                  · simp only [Act.put, List.setIfInBounds_toArray, List.set_cons_zero, List.set_cons_succ, i64_w, i32_w]
                    rfl
                  refine pure_ (i := 4) (N := some 20) (v := ?_) (a' := ?_) #[true, true, true, false, true, false, false, false, false, false] rfl rfl (any_of HT_.out (by kernel_rfl)) (fun _ _ _ h => h) (Or.inl ⟨by rfl, ?_⟩) ?_ ?_
                  rotate_left
                  · intro w'
                    go_simp
                    with_reducible rfl
                  rotate_left
                  · simp only [Act.put, List.setIfInBounds_toArray, List.set_cons_zero, List.set_cons_succ, i64_w, i32_w]
                    rfl
                  refine pure_ (i := 5) (N := some 21) (v := ?_) (a' := ?_) #[true, true, true, false, true, true, false, false, false, false] rfl rfl (any_of HT_.out (by kernel_rfl)) (fun _ _ _ h => h) (Or.inl ⟨by rfl, ?_⟩) ?_ ?_
                  rotate_left
                  · intro w'
                    go_simp
                    with_reducible rfl
                  rotate_left
                  · simp only [Act.put, List.setIfInBounds_toArray, List.set_cons_zero, List.set_cons_succ, i64_w, i32_w]
                    rfl
                  refine pure_ (i := 6) (N := some 22) (v := ?_) (a' := ?_) #[true, true, true, false, true, true, true, false, false, false] rfl rfl (any_of HT_.out (by kernel_rfl)) (fun _ _ _ h => h) (Or.inl ⟨by rfl, ?_⟩) ?_ ?_
                  rotate_left
                  · intro w'
                    go_simp
                    with_reducible rfl
                  rotate_left
                  · simp only [Act.put, List.setIfInBounds_toArray, List.set_cons_zero, List.set_cons_succ, i64_w, i32_w]
                    rfl
                  refine take_ (i := 3) (N := some 19) (v := ?_) (a' := ?_) #[true, true, true, true, true, true, true, false, false, false] rfl rfl (take_ofW HT_.out HW_.out (by kernel_rfl)) (fun _ _ _ h => h) (Or.inl ⟨by rfl, ?_⟩) hHeld ?_ ?_
                  rotate_left
                  · rintro w' ⟨s0, s1, s2, s3, s4, s5, s6, s7, s8, s9⟩
                    go_simp
                    with_reducible rfl
                  rotate_left
                  · simp only [Act.put, List.setIfInBounds_toArray, List.set_cons_zero, List.set_cons_succ, i64_w, i32_w]
                    rfl
                  refine take_ (i := 7) (N := some 23) (v := ?_) (a' := ?_) #[true, true, true, true, true, true, true, true, false, false] rfl rfl (take_ofW HT_.out HW_.out (by kernel_rfl)) (fun _ _ _ h => h) (Or.inl ⟨by rfl, ?_⟩) hHeld ?_ ?_
                  rotate_left
                  · rintro w' ⟨s0, s1, s2, s3, s4, s5, s6, s7, s8, s9⟩
                    go_simp
                    with_reducible rfl
                  rotate_left
                  · simp only [Act.put, List.setIfInBounds_toArray, List.set_cons_zero, List.set_cons_succ, i64_w, i32_w]
                    rfl
                  refine one_ (i := 8) (N := some 24) #[true, true, true, true, true, true, true, true, true, false] rfl rfl (one_of HT_.out (by kernel_rfl)) (by decide) (fun K hK => ?_)
                  refine goes_ Tryd.func28 (by kernel_rfl) rfl #[.agg #[.bool ((rd_T47 l0 x13_1).f0.f0), .int .i64 ((rd_T47 l0 x13_1).f0.f1), .slice A327_2 ((rd_T47 l0 x13_1).f1.f0).length c327_2, .slice A327_3 ((rd_T47 l0 x13_1).f1.f1).length c327_3, .int .i64 ((rd_T47 l0 x13_1).f2)], .agg #[.bool ((rd_T47 l1 x13_1).f0.f0), .int .i64 ((rd_T47 l1 x13_1).f0.f1), .slice A328_2 ((rd_T47 l1 x13_1).f1.f0).length c328_2, .slice A328_3 ((rd_T47 l1 x13_1).f1.f1).length c328_3, .int .i64 ((rd_T47 l1 x13_1).f2)]] (by rfl) rfl rfl (by (try simp only [List.map_toArray, List.map_cons, List.map_nil]); first | done | rfl | (simp only [List.length_drop, List.length_take]; rfl)) ?_
                  with_reducible refine (becketlaw22_Same.calls k1 ((rd_T47 l0 x13_1).f0.f0) ((rd_T47 l0 x13_1).f0.f1) _ _ ((rd_T47 l0 x13_1).f1.f0) _ _ ((rd_T47 l0 x13_1).f1.f1) ((rd_T47 l0 x13_1).f2) ((rd_T47 l1 x13_1).f0.f0) ((rd_T47 l1 x13_1).f0.f1) _ _ ((rd_T47 l1 x13_1).f1.f0) _ _ ((rd_T47 l1 x13_1).f1.f1) ((rd_T47 l1 x13_1).f2) true _ ?side1 ?side2 ?side3 ?side4 ?side5 ?side6 ?side7 ?side8 A8.out).mono ?_
                  (case side1 => exact (Kd.C_below HR327_2.out HB.out))
                  (case side2 => exact HC327_2.out)
                  (case side3 => exact (Kd.C_below HR327_3.out HB.out))
                  (case side4 => exact HC327_3.out)
                  (case side5 => exact (Kd.C_below HR328_2.out HB.out))
                  (case side6 => exact HC328_2.out)
                  (case side7 => exact (Kd.C_below HR328_3.out HB.out))
                  (case side8 => exact HC328_3.out)
                  rintro e w11 ⟨rfl, hb⟩
                  refine ⟨_, rfl, ?_⟩
                  replace HB := Aside0.mk (below_step (by exact HB.out) hb)
                  (try clear hb)
                  (try clear hb2)
                  (try clear hk)
                  (try clear hi)
                  refine hK.out _ _ ⟨((HB.out.cell (World.block_lt_of_cell? w _ hw327_0)).trans hw327_0), ((HB.out.cell (World.block_lt_of_cell? w _ hw327_1)).trans hw327_1), ((HB.out.cell (World.block_lt_of_cell? w _ hw327_2)).trans hw327_2), ((HB.out.cell (World.block_lt_of_cell? w _ hw327_3)).trans hw327_3), ((HB.out.cell (World.block_lt_of_cell? w _ hw327_4)).trans hw327_4), ((HB.out.cell (World.block_lt_of_cell? w _ hw328_0)).trans hw328_0), ((HB.out.cell (World.block_lt_of_cell? w _ hw328_1)).trans hw328_1), ((HB.out.cell (World.block_lt_of_cell? w _ hw328_2)).trans hw328_2), ((HB.out.cell (World.block_lt_of_cell? w _ hw328_3)).trans hw328_3), ((HB.out.cell (World.block_lt_of_cell? w _ hw328_4)).trans hw328_4)⟩ (fun hHeld => ?_)
                  clear hK K
                  refine norm_ (a' := ?_) ?_ ?_
                  rotate_left
                  · show Act.put _ (some 24) _ = _
                    simp only [Act.put, List.setIfInBounds_toArray, List.set_cons_zero, List.set_cons_succ, i64_w, i32_w]
                    rfl
                  refine pure_ (i := 9) (N := some 25) (v := ?_) (a' := ?_) #[true, true, true, true, true, true, true, true, true, true] rfl rfl (any_of HT_.out (by kernel_rfl)) (fun _ _ _ h => h) (Or.inl ⟨by rfl, ?_⟩) ?_ ?_
                  rotate_left
                  · intro w'
                    go_simp
                    with_reducible rfl
                  rotate_left
                  · simp only [Act.put, List.setIfInBounds_toArray, List.set_cons_zero, List.set_cons_succ, i64_w, i32_w]
                    rfl
                  refine done_ (done_of HT_.out (by kernel_rfl)) ?_
                  try go_wp2
                  go_roundg k1
                  case measure => have := HK1.out; omega
                  case rel => exact ⟨(wrap64 (x13_1 + 1)), (by first | rfl | (simp; done) | (simp [*]; done)), H', ⟨by have := HK1.out; omega⟩, ⟨by exact HB.out⟩⟩
                · replace c9 := Bool.eq_false_iff.mpr c9
                  subst c9
                  have H1 : (some false) = some r := by rw [if_neg (show ¬ (false = true) by decide)] at H; exact H
                  clear H
                  have H := H1
                  clear H1
                  obtain rfl := Option.some.inj H
                  try go_wp2
                  replace HB := Aside0.mk (below_drew1 HB.out)
                  have p327 : 0 ≤ (x13_1 : Int) := of_decide_eq_true (by first | (with_reducible assumption) | assumption)
                  have q327 : x13_1 < (l0.length : Int) := of_decide_eq_true (by first | (with_reducible assumption) | assumption)
                  obtain ⟨ad327, A327_2, c327_2, A327_3, c327_3, e327, hx327_0, hx327_1, hx327_2, hx327_3, hx327_4, hl327_2, hi327_2, hl327_3, hi327_3⟩ := at_T47 HR0.out x13_1 p327 q327
                  have hw327_4 := hx327_4
                  have hw327_3 := hx327_3
                  have hw327_2 := hx327_2
                  have hw327_1 := hx327_1
                  have hw327_0 := hx327_0
                  cases e327
                  replace hx327_0 := (HB.out.cell (World.block_lt_of_cell? w _ hx327_0)).trans hx327_0
                  replace hx327_1 := (HB.out.cell (World.block_lt_of_cell? w _ hx327_1)).trans hx327_1
                  replace hx327_2 := (HB.out.cell (World.block_lt_of_cell? w _ hx327_2)).trans hx327_2
                  replace hx327_3 := (HB.out.cell (World.block_lt_of_cell? w _ hx327_3)).trans hx327_3
                  replace hx327_4 := (HB.out.cell (World.block_lt_of_cell? w _ hx327_4)).trans hx327_4
                  have HR327_2 := Aside0.mk hi327_2
                  have HC327_2 := Aside0.mk hl327_2
                  clear hi327_2 hl327_2
                  have HR327_3 := Aside0.mk hi327_3
                  have HC327_3 := Aside0.mk hl327_3
                  clear hi327_3 hl327_3
                  replace p327 := eq_true p327
                  replace q327 := eq_true q327
                  have p328 : 0 ≤ (x13_1 : Int) := of_decide_eq_true (by first | (with_reducible assumption) | assumption)
                  have q328 : x13_1 < (l1.length : Int) := of_decide_eq_true (by first | (with_reducible assumption) | assumption)
                  obtain ⟨ad328, A328_2, c328_2, A328_3, c328_3, e328, hx328_0, hx328_1, hx328_2, hx328_3, hx328_4, hl328_2, hi328_2, hl328_3, hi328_3⟩ := at_T47 HR1.out x13_1 p328 q328
                  have hw328_4 := hx328_4
                  have hw328_3 := hx328_3
                  have hw328_2 := hx328_2
                  have hw328_1 := hx328_1
                  have hw328_0 := hx328_0
                  cases e328
                  replace hx328_0 := (HB.out.cell (World.block_lt_of_cell? w _ hx328_0)).trans hx328_0
                  replace hx328_1 := (HB.out.cell (World.block_lt_of_cell? w _ hx328_1)).trans hx328_1
                  replace hx328_2 := (HB.out.cell (World.block_lt_of_cell? w _ hx328_2)).trans hx328_2
                  replace hx328_3 := (HB.out.cell (World.block_lt_of_cell? w _ hx328_3)).trans hx328_3
                  replace hx328_4 := (HB.out.cell (World.block_lt_of_cell? w _ hx328_4)).trans hx328_4
                  have HR328_2 := Aside0.mk hi328_2
                  have HC328_2 := Aside0.mk hl328_2
                  clear hi328_2 hl328_2
                  have HR328_3 := Aside0.mk hi328_3
                  have HC328_3 := Aside0.mk hl328_3
                  clear hi328_3 hl328_3
                  replace p328 := eq_true p328
                  replace q328 := eq_true q328
                  refine start_ (n := 10) (S := fun w' => w'.cell? (ad327.add ((x13_1).toNat * 5)) = some (.bool ((rd_T47 l0 x13_1).f0.f0)) ∧ w'.cell? ⟨(ad327.add ((x13_1).toNat * 5)).block, (ad327.add ((x13_1).toNat * 5)).off + 1, none⟩ = some (.int .i64 ((rd_T47 l0 x13_1).f0.f1)) ∧ w'.cell? ⟨(ad327.add ((x13_1).toNat * 5)).block, (ad327.add ((x13_1).toNat * 5)).off + 2, none⟩ = some (.slice A327_2 ((rd_T47 l0 x13_1).f1.f0).length c327_2) ∧ w'.cell? ⟨(ad327.add ((x13_1).toNat * 5)).block, (ad327.add ((x13_1).toNat * 5)).off + 3, none⟩ = some (.slice A327_3 ((rd_T47 l0 x13_1).f1.f1).length c327_3) ∧ w'.cell? ⟨(ad327.add ((x13_1).toNat * 5)).block, (ad327.add ((x13_1).toNat * 5)).off + 4, none⟩ = some (.int .i64 ((rd_T47 l0 x13_1).f2)) ∧ w'.cell? (ad328.add ((x13_1).toNat * 5)) = some (.bool ((rd_T47 l1 x13_1).f0.f0)) ∧ w'.cell? ⟨(ad328.add ((x13_1).toNat * 5)).block, (ad328.add ((x13_1).toNat * 5)).off + 1, none⟩ = some (.int .i64 ((rd_T47 l1 x13_1).f0.f1)) ∧ w'.cell? ⟨(ad328.add ((x13_1).toNat * 5)).block, (ad328.add ((x13_1).toNat * 5)).off + 2, none⟩ = some (.slice A328_2 ((rd_T47 l1 x13_1).f1.f0).length c328_2) ∧ w'.cell? ⟨(ad328.add ((x13_1).toNat * 5)).block, (ad328.add ((x13_1).toNat * 5)).off + 3, none⟩ = some (.slice A328_3 ((rd_T47 l1 x13_1).f1.f1).length c328_3) ∧ w'.cell? ⟨(ad328.add ((x13_1).toNat * 5)).block, (ad328.add ((x13_1).toNat * 5)).off + 4, none⟩ = some (.int .i64 ((rd_T47 l1 x13_1).f2))) (ds := []) #[false, false, false, false, false, false, false, false, false, false] (by kernel_rfl) rfl rfl ⟨((HB.out.cell (World.block_lt_of_cell? w _ hw327_0)).trans hw327_0), ((HB.out.cell (World.block_lt_of_cell? w _ hw327_1)).trans hw327_1), ((HB.out.cell (World.block_lt_of_cell? w _ hw327_2)).trans hw327_2), ((HB.out.cell (World.block_lt_of_cell? w _ hw327_3)).trans hw327_3), ((HB.out.cell (World.block_lt_of_cell? w _ hw327_4)).trans hw327_4), ((HB.out.cell (World.block_lt_of_cell? w _ hw328_0)).trans hw328_0), ((HB.out.cell (World.block_lt_of_cell? w _ hw328_1)).trans hw328_1), ((HB.out.cell (World.block_lt_of_cell? w _ hw328_2)).trans hw328_2), ((HB.out.cell (World.block_lt_of_cell? w _ hw328_3)).trans hw328_3), ((HB.out.cell (World.block_lt_of_cell? w _ hw328_4)).trans hw328_4)⟩ (fun hHeld => ?_); refine with_tabW becketlaw23_Same.tab6 becketlaw23_Same.bits6 (fun HT_ HW_ => ?_)
                  generalize wr.drew = w12 at HB HR327_2 HR327_3 HR328_2 HR328_3 hx327_0 hx327_1 hx327_2 hx327_3 hx327_4 hx328_0 hx328_1 hx328_2 hx328_3 hx328_4 hHeld ⊢
                  refine pure_ (i := 0) (N := some 16) (v := ?_) (a' := ?_) #[true, false, false, false, false, false, false, false, false, false] rfl rfl (any_of HT_.out (by kernel_rfl)) (fun _ _ _ h => h) (Or.inl ⟨by rfl, ?_⟩) ?_ ?_
                  rotate_left
                  · intro w'
                    go_simp
                    with_reducible rfl
                  rotate_left
                  · simp only [Act.put, List.setIfInBounds_toArray, List.set_cons_zero, List.set_cons_succ, i64_w, i32_w]
                    rfl
                  refine pure_ (i := 1) (N := some 17) (v := ?_) (a' := ?_) #[true, true, false, false, false, false, false, false, false, false] rfl rfl (any_of HT_.out (by kernel_rfl)) (fun _ _ _ h => h) (Or.inl ⟨by rfl, ?_⟩) ?_ ?_
                  rotate_left
                  · intro w'
                    go_simp
                    with_reducible rfl
                  rotate_left
                  · simp only [Act.put, List.setIfInBounds_toArray, List.set_cons_zero, List.set_cons_succ, i64_w, i32_w]
                    rfl
                  refine pure_ (i := 2) (N := some 18) (v := ?_) (a' := ?_) #[true, true, true, false, false, false, false, false, false, false] rfl rfl (any_of HT_.out (by kernel_rfl)) (fun _ _ _ h => h) (Or.inl ⟨by rfl, ?_⟩) ?_ ?_
                  rotate_left
                  · intro w'
                    go_simp
                    with_reducible rfl
                  rotate_left
                  · simp only [Act.put, List.setIfInBounds_toArray, List.set_cons_zero, List.set_cons_succ, i64_w, i32_w]
                    rfl
                  refine pure_ (i := 4) (N := some 20) (v := ?_) (a' := ?_) #[true, true, true, false, true, false, false, false, false, false] rfl rfl (any_of HT_.out (by kernel_rfl)) (fun _ _ _ h => h) (Or.inl ⟨by rfl, ?_⟩) ?_ ?_
                  rotate_left
                  · intro w'
                    go_simp
                    with_reducible rfl
                  rotate_left
                  · simp only [Act.put, List.setIfInBounds_toArray, List.set_cons_zero, List.set_cons_succ, i64_w, i32_w]
                    rfl
                  refine pure_ (i := 5) (N := some 21) (v := ?_) (a' := ?_) #[true, true, true, false, true, true, false, false, false, false] rfl rfl (any_of HT_.out (by kernel_rfl)) (fun _ _ _ h => h) (Or.inl ⟨by rfl, ?_⟩) ?_ ?_
                  rotate_left
                  · intro w'
                    go_simp
                    with_reducible rfl
                  rotate_left
                  · simp only [Act.put, List.setIfInBounds_toArray, List.set_cons_zero, List.set_cons_succ, i64_w, i32_w]
                    rfl
                  refine pure_ (i := 6) (N := some 22) (v := ?_) (a' := ?_) #[true, true, true, false, true, true, true, false, false, false] rfl rfl (any_of HT_.out (by kernel_rfl)) (fun _ _ _ h => h) (Or.inl ⟨by rfl, ?_⟩) ?_ ?_
                  rotate_left
                  · intro w'
                    go_simp
                    with_reducible rfl
                  rotate_left
                  · simp only [Act.put, List.setIfInBounds_toArray, List.set_cons_zero, List.set_cons_succ, i64_w, i32_w]
                    rfl
                  refine take_ (i := 3) (N := some 19) (v := ?_) (a' := ?_) #[true, true, true, true, true, true, true, false, false, false] rfl rfl (take_ofW HT_.out HW_.out (by kernel_rfl)) (fun _ _ _ h => h) (Or.inl ⟨by rfl, ?_⟩) hHeld ?_ ?_
                  rotate_left
                  · rintro w' ⟨s0, s1, s2, s3, s4, s5, s6, s7, s8, s9⟩
                    go_simp
                    with_reducible rfl
                  rotate_left
                  · simp only [Act.put, List.setIfInBounds_toArray, List.set_cons_zero, List.set_cons_succ, i64_w, i32_w]
                    rfl
                  refine take_ (i := 7) (N := some 23) (v := ?_) (a' := ?_) #[true, true, true, true, true, true, true, true, false, false] rfl rfl (take_ofW HT_.out HW_.out (by kernel_rfl)) (fun _ _ _ h => h) (Or.inl ⟨by rfl, ?_⟩) hHeld ?_ ?_
                  rotate_left
                  · rintro w' ⟨s0, s1, s2, s3, s4, s5, s6, s7, s8, s9⟩
                    go_simp
                    with_reducible rfl
                  rotate_left
                  · simp only [Act.put, List.setIfInBounds_toArray, List.set_cons_zero, List.set_cons_succ, i64_w, i32_w]
                    rfl
                  refine one_ (i := 8) (N := some 24) #[true, true, true, true, true, true, true, true, true, false] rfl rfl (one_of HT_.out (by kernel_rfl)) (by decide) (fun K hK => ?_)
                  refine goes_ Tryd.func28 (by kernel_rfl) rfl #[.agg #[.bool ((rd_T47 l0 x13_1).f0.f0), .int .i64 ((rd_T47 l0 x13_1).f0.f1), .slice A327_2 ((rd_T47 l0 x13_1).f1.f0).length c327_2, .slice A327_3 ((rd_T47 l0 x13_1).f1.f1).length c327_3, .int .i64 ((rd_T47 l0 x13_1).f2)], .agg #[.bool ((rd_T47 l1 x13_1).f0.f0), .int .i64 ((rd_T47 l1 x13_1).f0.f1), .slice A328_2 ((rd_T47 l1 x13_1).f1.f0).length c328_2, .slice A328_3 ((rd_T47 l1 x13_1).f1.f1).length c328_3, .int .i64 ((rd_T47 l1 x13_1).f2)]] (by rfl) rfl rfl (by (try simp only [List.map_toArray, List.map_cons, List.map_nil]); first | done | rfl | (simp only [List.length_drop, List.length_take]; rfl)) ?_
                  with_reducible refine (becketlaw22_Same.calls k1 ((rd_T47 l0 x13_1).f0.f0) ((rd_T47 l0 x13_1).f0.f1) _ _ ((rd_T47 l0 x13_1).f1.f0) _ _ ((rd_T47 l0 x13_1).f1.f1) ((rd_T47 l0 x13_1).f2) ((rd_T47 l1 x13_1).f0.f0) ((rd_T47 l1 x13_1).f0.f1) _ _ ((rd_T47 l1 x13_1).f1.f0) _ _ ((rd_T47 l1 x13_1).f1.f1) ((rd_T47 l1 x13_1).f2) false _ ?side1 ?side2 ?side3 ?side4 ?side5 ?side6 ?side7 ?side8 A8.out).mono ?_
                  (case side1 => exact (Kd.C_below HR327_2.out HB.out))
                  (case side2 => exact HC327_2.out)
                  (case side3 => exact (Kd.C_below HR327_3.out HB.out))
                  (case side4 => exact HC327_3.out)
                  (case side5 => exact (Kd.C_below HR328_2.out HB.out))
                  (case side6 => exact HC328_2.out)
                  (case side7 => exact (Kd.C_below HR328_3.out HB.out))
                  (case side8 => exact HC328_3.out)
                  rintro e w13 ⟨rfl, hb⟩
                  refine ⟨_, rfl, ?_⟩
                  replace HB := Aside0.mk (below_step (by exact HB.out) hb)
                  (try clear hb)
                  (try clear hb2)
                  (try clear hk)
                  (try clear hi)
                  refine hK.out _ _ ⟨((HB.out.cell (World.block_lt_of_cell? w _ hw327_0)).trans hw327_0), ((HB.out.cell (World.block_lt_of_cell? w _ hw327_1)).trans hw327_1), ((HB.out.cell (World.block_lt_of_cell? w _ hw327_2)).trans hw327_2), ((HB.out.cell (World.block_lt_of_cell? w _ hw327_3)).trans hw327_3), ((HB.out.cell (World.block_lt_of_cell? w _ hw327_4)).trans hw327_4), ((HB.out.cell (World.block_lt_of_cell? w _ hw328_0)).trans hw328_0), ((HB.out.cell (World.block_lt_of_cell? w _ hw328_1)).trans hw328_1), ((HB.out.cell (World.block_lt_of_cell? w _ hw328_2)).trans hw328_2), ((HB.out.cell (World.block_lt_of_cell? w _ hw328_3)).trans hw328_3), ((HB.out.cell (World.block_lt_of_cell? w _ hw328_4)).trans hw328_4)⟩ (fun hHeld => ?_)
                  clear hK K
                  refine norm_ (a' := ?_) ?_ ?_
                  rotate_left
                  · show Act.put _ (some 24) _ = _
                    simp only [Act.put, List.setIfInBounds_toArray, List.set_cons_zero, List.set_cons_succ, i64_w, i32_w]
                    rfl
                  refine pure_ (i := 9) (N := some 25) (v := ?_) (a' := ?_) #[true, true, true, true, true, true, true, true, true, true] rfl rfl (any_of HT_.out (by kernel_rfl)) (fun _ _ _ h => h) (Or.inl ⟨by rfl, ?_⟩) ?_ ?_
                  rotate_left
                  · intro w'
                    go_simp
                    with_reducible rfl
                  rotate_left
                  · simp only [Act.put, List.setIfInBounds_toArray, List.set_cons_zero, List.set_cons_succ, i64_w, i32_w]
                    rfl
                  refine done_ (done_of HT_.out (by kernel_rfl)) ?_
                  try go_wp2
                  go_ret
                  exact ⟨by first | rfl | (simp [errW_none, errW_some] <;> rfl) | (simp [*, errW_none, errW_some] <;> rfl), by exact HB.out⟩
              · rw [if_neg c7] at H
                exact absurd H (by simp)
            · rw [if_neg c6] at H
              exact absurd H (by simp)
          · rw [if_neg c5] at H
            exact absurd H (by simp)
        · rw [if_neg c4] at H
          have c4b0 : decide (x13_1 < (l0.length : Int)) = false := decide_eq_false c4
          clear c4
          obtain rfl := Option.some.inj H
          go_wp2
          go_ret
          exact ⟨by first | rfl | (simp [errW_none, errW_some] <;> rfl) | (simp [*, errW_none, errW_some] <;> rfl), by exact HB.out⟩
  · rw [if_neg c3] at H
    have c3b0 : ((l0.length : Int) == (l1.length : Int)) = false := beq_eq_false_iff_ne.mpr c3
    have c3b1 : ((l0.length : Int) != (l1.length : Int)) = true := bne_iff_ne.mpr c3
    have c3b2 : (l0.length == l1.length) = false := by first | simpa using c3 | (simp at c3 ⊢; omega)
    obtain rfl := Option.some.inj H
    go_enter Tryd.func52, Tryd.ntmps52
    go_wp2
    go_ret
    exact ⟨by first | rfl | (simp [errW_none, errW_some] <;> rfl) | (simp [*, errW_none, errW_some] <;> rfl), by exact HB.out⟩

end Go.Proofs.YtdaionnpgcdkdaaDoorP.New
