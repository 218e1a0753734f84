/- becketlaw23.BartabNew: the plain law. -/
import Derived.Test.YtdaionnpgcdkdaaDoorPNewx
set_option linter.unusedVariables false
set_option linter.unusedSimpArgs false
namespace Go.Proofs.YtdaionnpgcdkdaaDoor.RNew
open Go.RowKit Go.Proofs.YtdaionnpgcdkdaaDoorP.New Go.Proofs.YtdaionnpgcdkdaaDoorW.PrintWords
theorem rd_nat (l : List Int) (i : Nat) (h : i < l.length) : rd l (i : Int) = l[i] := by simp [rd, List.getD, h]
theorem wrap_nat (i : Nat) (h : i < 9223372036854775807) : wrap64 ((i : Int) + 1) = ((i + 1 : Nat) : Int) := by unfold wrap64; omega
theorem same_l0 (a b : List Int) (hl : a.length < 1000) (he : a.length = b.length) : ∀ (d i k : Nat), i + d = a.length → d < k → becketref02_Same.l0 k a b (i : Int) = some (decide (a.drop i = b.drop i)) := by
  intro d
  induction d with
  | zero =>
    intro i k hi hk
    obtain ⟨k, rfl⟩ : ∃ m, k = m + 1 := ⟨k - 1, by omega⟩
    simp only [becketref02_Same.l0]
    rw [if_neg (by omega), List.drop_of_length_le (by omega), List.drop_of_length_le (by omega)]
    simp
  | succ d ih =>
    intro i k hi hk
    obtain ⟨k, rfl⟩ : ∃ m, k = m + 1 := ⟨k - 1, by omega⟩
    have hlt : i < a.length := by omega
    have hlt' : i < b.length := by omega
    simp only [becketref02_Same.l0]
    rw [if_pos (by omega), if_pos (by omega), if_pos (by omega), rd_nat a i hlt, rd_nat b i hlt', wrap_nat i (by omega), List.drop_eq_getElem_cons hlt, List.drop_eq_getElem_cons hlt']
    by_cases h : a[i] = b[i]
    · rw [if_pos h, ih (i + 1) k (by omega) (by omega)]
      congr 1
      apply decide_eq_decide.2
      rw [List.cons.injEq]
      exact ⟨fun e => ⟨h, e⟩, fun e => e.2⟩
    · rw [if_neg h, decide_eq_false (fun e => h (List.cons.inj e).1)]
theorem same_f (a b : List Int) (k : Nat) (hl : a.length < 1000) (hk : 1000 ≤ k) : becketref02_Same.f k a b = some (decide (a = b)) := by
  unfold becketref02_Same.f
  by_cases he : a.length = b.length
  · rw [if_pos (by omega)]
    have := same_l0 a b hl he a.length 0 k (by omega) (by omega)
    simpa using this
  · rw [if_neg (by omega), decide_eq_false (fun h => he (by rw [h]))]
theorem law_same (t : Bool) (lim ph : Int) (a b : List Int) (k : Nat) (ha : a.length < 1000) (hb : b.length < 1000) (hk : 1000 ≤ k) : becketlaw22_Same.f k t lim a b ph t lim a b ph = some true := by
  unfold becketlaw22_Same.f becketlaw21_Same.f
  rw [same_f a a k ha hk, same_f b b k hb hk]
  simp
theorem list_zero : bitset_List.f 0 0 0 0 = some [] := by kernel_rfl
theorem from_zero (t : Bool) (lim : Int) : becketlaw22_From.f t lim 0 0 0 0 0 0 0 0 0 = some (t, lim, [], [], 0) := by
  unfold becketlaw22_From.f becketlaw21_From.f
  rw [list_zero]
  rfl
theorem alive_f (k : Nat) (hk : 100 ≤ k) : becketlaw23_alive.f k = some true := by
  have h : becketlaw23_alive.f 100 = some true := by kernel_rfl
  have more : ∀ d, becketlaw23_alive.f (100 + d) = some true := by
    intro d
    induction d with
    | zero => exact h
    | succ d ih => exact becketlaw23_alive.mono _ _ ih
  have := more (k - 100)
  rwa [show 100 + (k - 100) = k by omega] at this
def toW (c : S43) : S51 := ⟨⟨c.f0, c.f1⟩, ⟨⟨0, 0, 0, 0⟩, ⟨0, 0, 0, 0⟩⟩, 0⟩
def toI (c : S43) : S47 := ⟨⟨c.f0, c.f1⟩, ⟨[], []⟩, 0⟩
theorem bar_new (t : Bool) (lim : Int) : barrier_New.f t lim = if 1 ≤ lim ∧ lim ≤ 65535 then some (t, lim, 0, 0, 0, 0, 0, 0, 0, 0, 0, 0) else some (false, 0, 0, 0, 0, 0, 0, 0, 0, 0, 0, 8) := by
  unfold barrier_New.f barrier_Check.f phase_Fine.f
  by_cases h1 : 1 ≤ lim
  · by_cases h2 : lim ≤ 65535
    · rw [if_pos (show 1 ≤ lim ∧ lim ≤ 65535 from ⟨h1, h2⟩)]
      simp [h1, h2, show (0 : Int) ≤ lim by omega]
    · rw [if_neg (show ¬ (1 ≤ lim ∧ lim ≤ 65535) from fun h => h2 h.2)]
      simp [h1, h2]
  · rw [if_neg (show ¬ (1 ≤ lim ∧ lim ≤ 65535) from fun h => h1 h.1)]
    simp [h1]
theorem ref_new (t : Bool) (lim : Int) : becketref22_New.f t lim = if 1 ≤ lim ∧ lim ≤ 65535 then some (t, lim, [], [], 0, 0) else some (false, 0, [], [], 0, 8) := by
  unfold becketref22_New.f becketref22_Check.f
  by_cases h1 : 1 ≤ lim
  · by_cases h2 : lim ≤ 65535
    · rw [if_pos (show 1 ≤ lim ∧ lim ≤ 65535 from ⟨h1, h2⟩)]
      simp [show ¬ lim < 1 by omega, show ¬ 65535 < lim by omega]
    · rw [if_neg (show ¬ (1 ≤ lim ∧ lim ≤ 65535) from fun h => h2 h.2)]
      simp [show ¬ lim < 1 by omega, show 65535 < lim by omega]
  · rw [if_neg (show ¬ (1 ≤ lim ∧ lim ≤ 65535) from fun h => h1 h.1)]
    simp [show lim < 1 by omega]
theorem rd43_nat (l : List S43) (i : Nat) (h : i < l.length) : rd_T43 l (i : Int) = l[i] := by simp [rd_T43, List.getD, h]
theorem rd51_nat (l : List S51) (i : Nat) (h : i < l.length) : rd_T51 l (i : Int) = l[i] := by simp [rd_T51, List.getD, h]
theorem rd47_nat (l : List S47) (i : Nat) (h : i < l.length) : rd_T47 l (i : Int) = l[i] := by simp [rd_T47, List.getD, h]
theorem new_l0 (l : List S43) (hl : l.length ≤ 8) : ∀ (d i k : Nat), i + d = l.length → d < k → ∃ (ys : List S43) (n e : Int), ys.length ≤ 8 ∧ bartab_New.l0 k ((l.take i).map toW) l (l.length : Int) (i : Int) = some (ys.map toW, n, e) ∧ becketref23_New.l0 k l ((l.take i).map toI) (i : Int) = some (ys.map toI, n, e) := by
  intro d
  induction d with
  | zero =>
    intro i k hi hk
    obtain ⟨k, rfl⟩ : ∃ m, k = m + 1 := ⟨k - 1, by omega⟩
    refine ⟨l.take i, 0, 0, by rw [List.length_take]; omega, ?_, ?_⟩
    · simp only [bartab_New.l0]
      rw [if_neg (by omega)]
    · simp only [becketref23_New.l0]
      rw [if_neg (by omega)]
  | succ d ih =>
    intro i k hi hk
    obtain ⟨k, rfl⟩ : ∃ m, k = m + 1 := ⟨k - 1, by omega⟩
    have hlt : i < l.length := by omega
    have hlen : (l.take i).length = i := by rw [List.length_take]; omega
    simp only [bartab_New.l0, becketref23_New.l0]
    rw [if_pos (by omega), if_pos (by omega), if_pos (by omega), if_pos (by omega), if_pos (by omega), rd43_nat l i hlt, bar_new, ref_new]
    by_cases hc : 1 ≤ (l[i]).f1 ∧ (l[i]).f1 ≤ 65535
    · rw [if_pos hc, if_pos hc]
      simp only [Option.bind_some, if_true]
      rw [if_pos (by rw [List.length_map, hlen]; omega), if_pos (by rw [List.length_map, hlen]; omega), wrap_nat i (by omega)]
      have e1 : (l.take i).map toW ++ [toW l[i]] = (l.take (i + 1)).map toW := by rw [List.take_succ_eq_append_getElem hlt, List.map_append]; rfl
      have e2 : (l.take i).map toI ++ [toI l[i]] = (l.take (i + 1)).map toI := by rw [List.take_succ_eq_append_getElem hlt, List.map_append]; rfl
      have := ih (i + 1) k (by omega) (by omega)
      rw [← e1, ← e2] at this
      exact this
    · rw [if_neg hc, if_neg hc]
      exact ⟨[], (i : Int), 8, by simp, by simp, by simp⟩
theorem from_l0 (ys : List S43) (hl : ys.length ≤ 8) : ∀ (d i k : Nat), i + d = ys.length → d < k → becketlaw23_From.l0 k ((ys.take i).map toI) (ys.map toW) (ys.length : Int) (i : Int) = some (ys.map toI) := by
  intro d
  induction d with
  | zero =>
    intro i k hi hk
    obtain ⟨k, rfl⟩ : ∃ m, k = m + 1 := ⟨k - 1, by omega⟩
    simp only [becketlaw23_From.l0]
    rw [if_neg (by omega), List.take_of_length_le (by omega)]
  | succ d ih =>
    intro i k hi hk
    obtain ⟨k, rfl⟩ : ∃ m, k = m + 1 := ⟨k - 1, by omega⟩
    have hlt : i < ys.length := by omega
    have hlen : (ys.take i).length = i := by rw [List.length_take]; omega
    simp only [becketlaw23_From.l0]
    rw [if_pos (by omega), if_pos (by omega), if_pos (by rw [List.length_map]; omega), rd51_nat (ys.map toW) i (by rw [List.length_map]; omega), List.getElem_map]
    simp only [toW]
    rw [from_zero]
    simp only [Option.bind_some]
    rw [if_pos (by rw [List.length_map, hlen]; omega), wrap_nat i (by omega)]
    have e2 : (ys.take i).map toI ++ [toI ys[i]] = (ys.take (i + 1)).map toI := by rw [List.take_succ_eq_append_getElem hlt, List.map_append]; rfl
    have := ih (i + 1) k (by omega) (by omega)
    rw [← e2] at this
    exact this
theorem same_l23 (ys : List S43) (hl : ys.length ≤ 8) : ∀ (d i k : Nat), i + d = ys.length → 1000 + d < k → becketlaw23_Same.l0 k (ys.map toI) (ys.map toI) (ys.length : Int) (i : Int) = some true := by
  intro d
  induction d with
  | zero =>
    intro i k hi hk
    obtain ⟨k, rfl⟩ : ∃ m, k = m + 1 := ⟨k - 1, by omega⟩
    simp only [becketlaw23_Same.l0]
    rw [if_neg (by omega)]
  | succ d ih =>
    intro i k hi hk
    obtain ⟨k, rfl⟩ : ∃ m, k = m + 1 := ⟨k - 1, by omega⟩
    have hlt : i < ys.length := by omega
    simp only [becketlaw23_Same.l0]
    rw [if_pos (by omega), if_pos (by omega), if_pos (by rw [List.length_map]; omega), if_pos (by rw [List.length_map]; omega), law_same _ _ _ _ _ k (by rw [rd47_nat _ i (by rw [List.length_map]; omega), List.getElem_map]; simp [toI]) (by rw [rd47_nat _ i (by rw [List.length_map]; omega), List.getElem_map]; simp [toI]) (by omega)]
    simp only [Option.bind_some, if_true]
    rw [wrap_nat i (by omega)]
    exact ih (i + 1) k (by omega) (by omega)
theorem new_pure (l : List S43) : becketlaw23_BartabNew.f 5000 l = some true := by
  unfold becketlaw23_BartabNew.f
  rw [alive_f 5000 (by omega)]
  by_cases h : (l.length : Int) > 20
  · rw [if_pos h]
    rfl
  · rw [if_neg h]
    obtain ⟨ys, n, e, hy, h1, h2⟩ : ∃ (ys : List S43) (n e : Int), ys.length ≤ 8 ∧ bartab_New.f 5000 l = some (ys.map toW, n, e) ∧ becketref23_New.f 5000 l = some (ys.map toI, n, e) := by
      unfold bartab_New.f becketref23_New.f
      by_cases h8 : (l.length : Int) > 8
      · rw [if_pos h8, if_pos h8]
        exact ⟨[], 8, 5, by simp, rfl, rfl⟩
      · rw [if_neg h8, if_neg h8]
        have := new_l0 l (by omega) l.length 0 5000 (by omega) (by omega)
        simpa using this
    have h3 : becketlaw23_From.f 5000 (ys.map toW) = some (ys.map toI) := by
      unfold becketlaw23_From.f
      have := from_l0 ys hy ys.length 0 5000 (by omega) (by omega)
      simpa using this
    have h4 : becketlaw23_Same.f 5000 (ys.map toI) (ys.map toI) = some true := by
      unfold becketlaw23_Same.f
      rw [if_pos rfl, List.length_map]
      exact same_l23 ys hy ys.length 0 5000 (by omega) (by omega)
    rw [h1, h2]
    simp only [Option.bind_some]
    rw [h3]
    simp only [Option.bind_some]
    rw [h4]
    simp
theorem new_row (l : List S43) {W : Prop} (h : W) : becketlaw23_BartabNew.f 5000 l = some true := new_pure l
end Go.Proofs.YtdaionnpgcdkdaaDoor.RNew
