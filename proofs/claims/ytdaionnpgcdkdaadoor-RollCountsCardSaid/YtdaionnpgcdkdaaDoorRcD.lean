/- becketlaw21.RollCounts: the argument opened, the row, the card. -/
import Derived.Test.YtdaionnpgcdkdaaDoorRcC
set_option linter.unusedVariables false
set_option linter.unusedSimpArgs false
namespace Go.Proofs.YtdaionnpgcdkdaaDoor.rollCounts
open Go.ChangeShapes Go.WideShapes Go.ChangeAt Go.RowKit Go.Deep
theorem u22 : Tryd.prog.underlying 22 = some (.slice 30) := by kernel_rfl
theorem u30 : Tryd.prog.underlying 30 = some (.array 2 5) := by kernel_rfl
theorem cells30 : Tryd.prog.cellsOf 30 = 2 := by kernel_rfl
set_option maxRecDepth 100000 in
theorem pairs_open {H : Type} {enc : TypeId × Value → H} {W : World} {v : Value} {d : DataW H} {ps : List MemPlace} {fuel : Nat}
    (h : DataW.trod enc Tryd.prog W 0 (fun _ => true) true fuel 22 [v] = some (d, ps)) : ∃ A xs c, v = .slice A xs.length c ∧ xs.length ≤ 9223372036854775807 ∧ PairsAt W A xs := by
  rcases open_slice u22 h with ⟨hcs, hx⟩ | ⟨a, len, cap, m, n, D, Pl, hcs, _, hl, hm, hmm, hx, hrows⟩
  · simp at hcs
    exact ⟨none, [], 0, hcs, by simp, fun x hx => by simp at hx, fun h => by simp at h⟩
  simp at hcs
  have hml : len ≤ m := by rw [hmm]; simp; exact hl
  have each : ∀ i, i < len → ∃ q : Int × Int, (0 ≤ q.1 ∧ q.1 ≤ 255 ∧ 0 ≤ q.2 ∧ q.2 ≤ 255) ∧ W.cell? (a.add (i * 2)) = some (.int .u8 q.1) ∧ W.cell? { block := (a.add (i * 2)).block, off := (a.add (i * 2)).off + 1 } = some (.int .u8 q.2) := by
    intro i hi
    obtain ⟨cs', h1, h2⟩ := hrows i (by omega)
    rw [cells30] at h1
    obtain ⟨_, hlen, hcell⟩ := World.cells?_some h1
    obtain ⟨xs, k, hk, hxy, _, hxl, hf⟩ := DataW.trod_array u30 h2
    match xs, hxl, cs', hlen with
    | [y0, y1], _, [v0, v1], _ =>
      have g0 := hf 0 (by decide)
      have g1 := hf 1 (by decide)
      simp [Gl.cellsU8] at g0 g1
      obtain ⟨n0, e0, _, w0⟩ := DataW.trod_int Gl.uU8 g0
      obtain ⟨n1, e1, _, w1⟩ := DataW.trod_int Gl.uU8 g1
      simp at e0 e1
      subst e0 e1
      have c0 := hcell 0 (by omega)
      have c1 := hcell 1 (by omega)
      have b0 := bounds_u8 w0
      have b1 := bounds_u8 w1
      exact ⟨(n0, n1), ⟨b0.1, b0.2, b1.1, b1.2⟩, by simpa [Addr.add] using c0, by simpa [Addr.add] using c1⟩
  obtain ⟨q, hq⟩ := choose_lt each
  refine ⟨some a, (List.range len).map q, cap, by simp [hcs], by simp; unfold maxLen at hm; omega, ?_, fun _ => ⟨a, rfl, fun j hj => ?_⟩⟩
  · intro x hx
    simp at hx
    obtain ⟨i, hi, rfl⟩ := hx
    exact (hq i hi).1
  · simp at hj
    have e : ((List.range len).map q).getD j (0, 0) = q j := by simp [List.getD, hj]
    rw [e]
    exact (hq j hj).2
set_option maxRecDepth 100000 in
theorem contract (H : Type) (enc : TypeId × Value → H) (W : World) (base : Nat) (args : Array Value) (ds gs : List (DataW H)) (before : List MemPlace)
    (hval : ∀ (j : Nat) t v, Tryd.f3.params[j]? = some t → args[j]? = some v → Value.okWide Tryd.prog W .any base t v)
    (hW : DataW.Whole enc Tryd.prog Tryd.f3.params.toList Rows.rollCountsSpec.vars false W args.toList ds gs before) (hL : laidMetH Tryd.prog Rows.rollCountsRow.laid W) :
    Calls Tryd.prog 3 args W fun e W' => ∃ v, e = .returned v ∧ Rows.rollCountsSpec.post enc Tryd.prog Tryd.f3 false true false false W args v W' := by
  have hW' := hW
  obtain ⟨p, q, hA0, hV, rfl, hfz, hnd⟩ := hW
  have hA : DataW.TrodAll enc Tryd.prog W 0 (fun _ => true) true Tryd.f3.params.toList args.toList ds p := hA0
  have hAk := hA
  rw [Tryd.params3] at hA hval
  obtain ⟨v0, vs0, d0, ds0, p0, q0, hargs, rfl, rfl, h0, r0⟩ := trodAll_cons hA
  obtain ⟨rfl, rfl, rfl⟩ := trodAll_nil r0
  obtain rfl : args = #[v0] := by cases args; simp_all
  obtain ⟨rfl, rfl⟩ := trodVars_none hV
  obtain ⟨a0, len, cap, rfl⟩ := okWide_slice u22 (hval 0 22 v0 rfl rfl)
  obtain ⟨fuel, hf⟩ := h0
  obtain ⟨A, xs, c, hv, hm, hP⟩ := pairs_open (v := .slice a0 len cap) hf
  rw [hv]
  rw [hv] at hW' hAk
  have hlt := hW'.lt
  refine (rollCounts_walk A xs c W (Gl.gl_of_laid hL) hP hm).mono fun e W' ⟨he, hb⟩ => ?_
  subst he
  refine ⟨_, rfl, _, _, _, [], _, [], hW', trodAll_cons_mk (shut_bool Tryd.underlying4 _) trodAll_mk0, Gl.still (by rw [Tryd.params3]; decide) hAk (fun x hx => hlt x (by simpa using hx)) hb _ (fun x hx => by simpa using hlt x (by simpa using hx)), rfl, hb.frame _, fun h => by cases h⟩
end Go.Proofs.YtdaionnpgcdkdaaDoor.rollCounts
