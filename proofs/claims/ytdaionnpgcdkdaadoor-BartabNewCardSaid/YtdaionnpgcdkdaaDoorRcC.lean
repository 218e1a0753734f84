/- becketlaw21.RollCounts: from the row's condition to the walk. -/
import Derived.Test.YtdaionnpgcdkdaaDoorCards
import Derived.Test.YtdaionnpgcdkdaaDoorTie
import Derived.Test.YtdaionnpgcdkdaaDoorLs
import Derived.ProofKit
import Derived.OpenShut
import Derived.ReadAgain
import Derived.Carry
import Derived.Deep.Slices
import Derived.Deep.DeepHandedRow
import Derived.Lib.LaidTab
set_option linter.unusedVariables false
set_option linter.unusedSimpArgs false
namespace Go.Proofs.YtdaionnpgcdkdaaDoor.Gl
open Go.ChangeShapes Go.WideShapes Go.ChangeAt Go.RowKit Go.Deep
theorem gBru : Tryd.prog.globalNamed "math/bits.deBruijn64tab" = some 1 := by kernel_rfl
theorem gEv : Tryd.prog.globalNamed "becket/roll.everybody" = some 0 := by kernel_rfl
theorem tBru : (Tryd.prog.globals[(1 : Nat)]?).map (·.type) = some 153 := by kernel_rfl
theorem tEv : (Tryd.prog.globals[(0 : Nat)]?).map (·.type) = some 26 := by kernel_rfl
theorem cells295 : Tryd.prog.cellsOf 153 = 64 := by kernel_rfl
theorem cellsSet : Tryd.prog.cellsOf 26 = 4 := by kernel_rfl
theorem cellsU8 : Tryd.prog.cellsOf 5 = 1 := by kernel_rfl
theorem cellsU64 : Tryd.prog.cellsOf 24 = 1 := by kernel_rfl
theorem u295 : Tryd.prog.underlying 153 = some (.array 64 5) := by kernel_rfl
theorem uSet : Tryd.prog.underlying 26 = some (.array 4 24) := by kernel_rfl
theorem uU8 : Tryd.prog.underlying 5 = some (.int .u8) := by kernel_rfl
theorem uU64 : Tryd.prog.underlying 24 = some (.int .u64) := by kernel_rfl
theorem laid_tail {P : Program} {W : World} {x : String × DataW Unit} {l : List (String × DataW Unit)} (h : laidMet P (x :: l) W) : laidMet P l W := by
  obtain ⟨ps, ⟨g', t', cs, fuel, p, q, hg', ht', hvar, hd, htl, e⟩, hn, hh⟩ := h
  subst e
  exact ⟨q, htl, (List.nodup_append.1 hn).2.1, fun b off hm => hh b off (List.mem_append_right _ hm)⟩
theorem gl_of_laid {W : World} (h : laidMet Tryd.prog [("math/bits.deBruijn64tab", Rows.laid_math_bits_deBruijn64tab), ("becket/roll.everybody", Rows.laid_becket_roll_everybody)] W) : GL W := by
  have h1 : Lib.TabIs Tryd.prog W "math/bits.deBruijn64tab" .u8 (Lib.deBruijn64tab.map fun n : Nat => (n : Int)) := Lib.tabIs_of_head (rest := [("becket/roll.everybody", Rows.laid_becket_roll_everybody)]) gBru tBru u295 uU8 cellsU8 cells295 h
  have h2 : Lib.TabIs Tryd.prog W "becket/roll.everybody" .u64 [65535, 0, 0, 0] := Lib.tabIs_of_head (rest := []) gEv tEv uSet uU64 cellsU64 cellsSet (laid_tail h)
  refine ⟨h2.cell gEv 0 (by decide), h2.cell gEv 1 (by decide), h2.cell gEv 2 (by decide), h2.cell gEv 3 (by decide), fun j hj => ?_⟩
  have hl : Lib.deBruijn64tab.length = 64 := by decide
  have := h1.cell gBru j (by simp [hl, hj])
  rw [this]
  simp [List.getD, hl, hj]
theorem own : ownKnob Tryd.prog.godebug = none := by kernel_rfl
theorem kids : Kids Tryd.prog (· < Tryd.prog.types.size) := kids_rows (by kernel_rfl) (by kernel_rfl)
theorem full : ∀ t e, t < Tryd.prog.types.size → Tryd.prog.underlying t = some (.slice e) → 0 < Tryd.prog.cellsOf e := slices_full_of Tryd.prog (by kernel_rfl)
/-- Arguments that are only read are read again behind the call as they were. -/
theorem still {H : Type} {enc : TypeId × Value → H} {W W' : World} {ts : List TypeId} {vs : List Value} {ds : List (DataW H)} {ps : List MemPlace} (hT : ∀ t ∈ ts, t < Tryd.prog.types.size)
    (h : DataW.TrodAll enc Tryd.prog W 0 (fun _ => true) true ts vs ds ps) (hlt : ∀ x ∈ ps, x.block < W.heap.size) (hb : Below W.heap.size W W') (sp : Nat → Bool) (hs : ∀ x ∈ ps, sp x.block = true) :
    DataW.TrodAll enc Tryd.prog W' 0 sp true ts vs ds ps := by
  have h1 := DataW.TrodAll.respare kids full hT h hs
  clear h hT
  induction ts generalizing vs ds ps with
  | nil =>
    cases vs <;> cases ds <;> first | exact h1 | exact h1.elim
  | cons t ts ih =>
    cases vs with
    | nil => exact h1.elim
    | cons v vs =>
      cases ds with
      | nil => exact h1.elim
      | cons d ds =>
        obtain ⟨p, q, ⟨n, hn⟩, h2, e⟩ := h1
        subst e
        exact ⟨p, q, ⟨n, DataW.trod_carry n _ _ _ hn (fun x hx => hb.same (hlt x (by simp [hx])))⟩, ih (fun x hx => hlt x (by simp [hx])) (fun x hx => hs x (by simp [hx])) h2, rfl⟩
end Go.Proofs.YtdaionnpgcdkdaaDoor.Gl
