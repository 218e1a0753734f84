/- becketlaw21.RollCounts: the walk. -/
import Derived.Test.YtdaionnpgcdkdaaDoorRcA
import Derived.Deep.DeepCutAuto
import Derived.Deep.LoopGhost
set_option linter.unusedVariables false
set_option linter.unusedSimpArgs false
namespace Go.Proofs.YtdaionnpgcdkdaaDoor
open Go.RowKit
open Sets (hasS addS dropS lessS subS isId)
/-- The slice v is read as the pairs xs of bytes. -/
def PairsAt (W : World) (A : Option Addr) (xs : List (Int × Int)) : Prop :=
  (∀ x ∈ xs, 0 ≤ x.1 ∧ x.1 ≤ 255 ∧ 0 ≤ x.2 ∧ x.2 ≤ 255) ∧ (0 < xs.length → ∃ ad, A = some ad ∧ ∀ j, j < xs.length → W.cell? (ad.add (j * 2)) = some (.int .u8 (xs.getD j (0, 0)).1) ∧ W.cell? { block := (ad.add (j * 2)).block, off := (ad.add (j * 2)).off + 1 } = some (.int .u8 (xs.getD j (0, 0)).2))
open Rc
theorem bools_zero : bools 0 = #[.bool false, .bool false, .bool false, .bool false, .bool false, .bool false, .bool false, .bool false, .bool false, .bool false, .bool false, .bool false, .bool false, .bool false, .bool false, .bool false] := by
  refine (bools_ext (by rfl) fun i hi => ?_).symm
  obtain rfl | rfl | rfl | rfl | rfl | rfl | rfl | rfl | rfl | rfl | rfl | rfl | rfl | rfl | rfl | rfl : i = 0 ∨ i = 1 ∨ i = 2 ∨ i = 3 ∨ i = 4 ∨ i = 5 ∨ i = 6 ∨ i = 7 ∨ i = 8 ∨ i = 9 ∨ i = 10 ∨ i = 11 ∨ i = 12 ∨ i = 13 ∨ i = 14 ∨ i = 15 := by omega
  all_goals rfl
/-- Is there one among the j lowest? Are the j lowest of the two alike? -/
def someB (m j : Nat) : Bool := (List.range j).any m.testBit
def allB (m a j : Nat) : Bool := (List.range j).all fun q => a.testBit q == m.testBit q
theorem someB_succ (m j : Nat) : someB m (j + 1) = (someB m j || m.testBit j) := by simp [someB, List.range_succ]
theorem allB_succ (m a j : Nat) : allB m a (j + 1) = (allB m a j && (a.testBit j == m.testBit j)) := by simp [allB, List.range_succ]
theorem full_iff {m a : Nat} (h : fineR m a = true) : fullR m a = (someB m 16 && allB m a 16) := by
  have hf := h
  rw [fine_iff] at hf
  unfold fullR
  rw [h, Bool.true_and]
  by_cases e : a = m
  · subst e
    have h1 : allB a a 16 = true := by simp [allB]
    rw [h1]
    simp only [decide_true, Bool.true_and, Bool.and_true]
    cases hs : someB a 16 with
    | true =>
      by_cases hz : a = 0
      · subst hz; simp [someB] at hs
      · simp [hz]
    | false =>
      have : a = 0 := by
        apply Nat.eq_of_testBit_eq
        intro i
        rw [Nat.zero_testBit]
        cases hb : a.testBit i with
        | false => rfl
        | true =>
          have hi := hf.1 i hb
          simp [someB] at hs
          have := hs i hi
          rw [hb] at this
          cases this
      simp [this]
  · have h1 : allB m a 16 = false := by
      cases hb : allB m a 16 with
      | false => rfl
      | true =>
        refine absurd ?_ e
        apply Nat.eq_of_testBit_eq
        intro i
        simp [allB] at hb
        by_cases hi : i < 16
        · exact hb i hi
        · cases hm : m.testBit i with
          | true => exact absurd (hf.1 i hm) hi
          | false => exact at_of_in h i hm
    rw [h1]
    simp [e]
structure RC (B : Nat) (W : World) (m a i t : Nat) : Prop where
  r : W.heap[B]? = some (.cells #[.int .u64 (Sets.wd m 0), .int .u64 (Sets.wd m 1), .int .u64 (Sets.wd m 2), .int .u64 (Sets.wd m 3), .int .u64 (Sets.wd a 0), .int .u64 (Sets.wd a 1), .int .u64 (Sets.wd a 2), .int .u64 (Sets.wd a 3)] 28 (0, 0))
  i : W.heap[B + 1]? = some (.cells (bools i) 29 (0, 0))
  t : W.heap[B + 1 + 1]? = some (.cells (bools t) 29 (0, 0))
theorem RC.after {B : Nat} {W W' : World} {m a i t : Nat} (h : RC B W m a i t) (hb : Below W.heap.size W W') : RC B W' m a i t :=
  ⟨Wl.blk_after h.r hb, Wl.blk_after h.i hb, Wl.blk_after h.t hb⟩
theorem RC.alloc {B : Nat} {W : World} {m a i t : Nat} (h : RC B W m a i t) (o : Obj) : RC B (W.alloc o) m a i t :=
  ⟨Wl.blk_alloc h.r o, Wl.blk_alloc h.i o, Wl.blk_alloc h.t o⟩
theorem RC.drewN {B : Nat} {W : World} {m a i t : Nat} (h : RC B W m a i t) (n : Nat) : RC B (W.drewN n) m a i t := ⟨h.r, h.i, h.t⟩
theorem RC.lt {B : Nat} {W : World} {m a i t : Nat} (h : RC B W m a i t) : B + 1 + 1 < W.heap.size := Wl.blk_lt h.t
theorem other_blk {W : World} {p : Addr} {v : Value} {g : Nat} {o : Obj} (h : W.heap[g]? = some o) (e : g ≠ p.block) : (W.setCell p v).heap[g]? = some o := (Below.heap_setCell W p v g e).trans h
theorem roll_cells {B : Nat} {W : World} {u0 u1 u2 u3 u4 u5 u6 u7 : Value} (v0 v1 v2 v3 v4 v5 v6 v7 : Value) (h : W.heap[B]? = some (.cells #[u0, u1, u2, u3, u4, u5, u6, u7] 28 (0, 0))) :
    ((((((((W.setCell ⟨B, 0, none⟩ v0).setCell ⟨B, 1, none⟩ v1).setCell ⟨B, 2, none⟩ v2).setCell ⟨B, 3, none⟩ v3).setCell ⟨B, 4, none⟩ v4).setCell ⟨B, 5, none⟩ v5).setCell ⟨B, 6, none⟩ v6).setCell ⟨B, 7, none⟩ v7).heap[B]? = some (.cells #[v0, v1, v2, v3, v4, v5, v6, v7] 28 (0, 0)) := by
  have h0 := set_blk (p := 0) (v := v0) (cs' := #[v0, u1, u2, u3, u4, u5, u6, u7]) h rfl
  have h1 := set_blk (p := 1) (v := v1) (cs' := #[v0, v1, u2, u3, u4, u5, u6, u7]) h0 rfl
  have h2 := set_blk (p := 2) (v := v2) (cs' := #[v0, v1, v2, u3, u4, u5, u6, u7]) h1 rfl
  have h3 := set_blk (p := 3) (v := v3) (cs' := #[v0, v1, v2, v3, u4, u5, u6, u7]) h2 rfl
  have h4 := set_blk (p := 4) (v := v4) (cs' := #[v0, v1, v2, v3, v4, u5, u6, u7]) h3 rfl
  have h5 := set_blk (p := 5) (v := v5) (cs' := #[v0, v1, v2, v3, v4, v5, u6, u7]) h4 rfl
  have h6 := set_blk (p := 6) (v := v6) (cs' := #[v0, v1, v2, v3, v4, v5, v6, u7]) h5 rfl
  have h7 := set_blk (p := 7) (v := v7) (cs' := #[v0, v1, v2, v3, v4, v5, v6, v7]) h6 rfl
  exact h7
theorem roll_other {B : Nat} {W : World} (v0 v1 v2 v3 v4 v5 v6 v7 : Value) {g : Nat} {o : Obj} (h : W.heap[g]? = some o) (e : g ≠ B) :
    ((((((((W.setCell ⟨B, 0, none⟩ v0).setCell ⟨B, 1, none⟩ v1).setCell ⟨B, 2, none⟩ v2).setCell ⟨B, 3, none⟩ v3).setCell ⟨B, 4, none⟩ v4).setCell ⟨B, 5, none⟩ v5).setCell ⟨B, 6, none⟩ v6).setCell ⟨B, 7, none⟩ v7).heap[g]? = some o := by
  iterate 8 refine other_blk ?_ e
  exact h
theorem RC.roll {B : Nat} {W : World} {m a i t : Nat} (h : RC B W m a i t) (m' a' : Nat) :
    RC B ((((((((W.setCell ⟨B, 0, none⟩ (.int .u64 (Sets.wd m' 0))).setCell ⟨B, 1, none⟩ (.int .u64 (Sets.wd m' 1))).setCell ⟨B, 2, none⟩ (.int .u64 (Sets.wd m' 2))).setCell ⟨B, 3, none⟩ (.int .u64 (Sets.wd m' 3))).setCell ⟨B, 4, none⟩ (.int .u64 (Sets.wd a' 0))).setCell ⟨B, 5, none⟩ (.int .u64 (Sets.wd a' 1))).setCell ⟨B, 6, none⟩ (.int .u64 (Sets.wd a' 2))).setCell ⟨B, 7, none⟩ (.int .u64 (Sets.wd a' 3))) m' a' i t := by
  exact ⟨roll_cells _ _ _ _ _ _ _ _ h.r, roll_other _ _ _ _ _ _ _ _ h.i (by omega), roll_other _ _ _ _ _ _ _ _ h.t (by omega)⟩
theorem at_cells {B : Nat} {W : World} {u0 u1 u2 u3 u4 u5 u6 u7 u8 u9 u10 u11 u12 u13 u14 u15 : Value} (h : W.heap[B]? = some (.cells #[u0, u1, u2, u3, u4, u5, u6, u7, u8, u9, u10, u11, u12, u13, u14, u15] 29 (0, 0))) :
    ((((((((((((((((W.setCell ⟨B, 0, none⟩ (.bool false)).setCell ⟨B, 1, none⟩ (.bool false)).setCell ⟨B, 2, none⟩ (.bool false)).setCell ⟨B, 3, none⟩ (.bool false)).setCell ⟨B, 4, none⟩ (.bool false)).setCell ⟨B, 5, none⟩ (.bool false)).setCell ⟨B, 6, none⟩ (.bool false)).setCell ⟨B, 7, none⟩ (.bool false)).setCell ⟨B, 8, none⟩ (.bool false)).setCell ⟨B, 9, none⟩ (.bool false)).setCell ⟨B, 10, none⟩ (.bool false)).setCell ⟨B, 11, none⟩ (.bool false)).setCell ⟨B, 12, none⟩ (.bool false)).setCell ⟨B, 13, none⟩ (.bool false)).setCell ⟨B, 14, none⟩ (.bool false)).setCell ⟨B, 15, none⟩ (.bool false)).heap[B]? = some (.cells #[.bool false, .bool false, .bool false, .bool false, .bool false, .bool false, .bool false, .bool false, .bool false, .bool false, .bool false, .bool false, .bool false, .bool false, .bool false, .bool false] 29 (0, 0)) := by
  have h0 := set_blk (p := 0) (v := .bool false) (cs' := #[.bool false, u1, u2, u3, u4, u5, u6, u7, u8, u9, u10, u11, u12, u13, u14, u15]) h rfl
  have h1 := set_blk (p := 1) (v := .bool false) (cs' := #[.bool false, .bool false, u2, u3, u4, u5, u6, u7, u8, u9, u10, u11, u12, u13, u14, u15]) h0 rfl
  have h2 := set_blk (p := 2) (v := .bool false) (cs' := #[.bool false, .bool false, .bool false, u3, u4, u5, u6, u7, u8, u9, u10, u11, u12, u13, u14, u15]) h1 rfl
  have h3 := set_blk (p := 3) (v := .bool false) (cs' := #[.bool false, .bool false, .bool false, .bool false, u4, u5, u6, u7, u8, u9, u10, u11, u12, u13, u14, u15]) h2 rfl
  have h4 := set_blk (p := 4) (v := .bool false) (cs' := #[.bool false, .bool false, .bool false, .bool false, .bool false, u5, u6, u7, u8, u9, u10, u11, u12, u13, u14, u15]) h3 rfl
  have h5 := set_blk (p := 5) (v := .bool false) (cs' := #[.bool false, .bool false, .bool false, .bool false, .bool false, .bool false, u6, u7, u8, u9, u10, u11, u12, u13, u14, u15]) h4 rfl
  have h6 := set_blk (p := 6) (v := .bool false) (cs' := #[.bool false, .bool false, .bool false, .bool false, .bool false, .bool false, .bool false, u7, u8, u9, u10, u11, u12, u13, u14, u15]) h5 rfl
  have h7 := set_blk (p := 7) (v := .bool false) (cs' := #[.bool false, .bool false, .bool false, .bool false, .bool false, .bool false, .bool false, .bool false, u8, u9, u10, u11, u12, u13, u14, u15]) h6 rfl
  have h8 := set_blk (p := 8) (v := .bool false) (cs' := #[.bool false, .bool false, .bool false, .bool false, .bool false, .bool false, .bool false, .bool false, .bool false, u9, u10, u11, u12, u13, u14, u15]) h7 rfl
  have h9 := set_blk (p := 9) (v := .bool false) (cs' := #[.bool false, .bool false, .bool false, .bool false, .bool false, .bool false, .bool false, .bool false, .bool false, .bool false, u10, u11, u12, u13, u14, u15]) h8 rfl
  have h10 := set_blk (p := 10) (v := .bool false) (cs' := #[.bool false, .bool false, .bool false, .bool false, .bool false, .bool false, .bool false, .bool false, .bool false, .bool false, .bool false, u11, u12, u13, u14, u15]) h9 rfl
  have h11 := set_blk (p := 11) (v := .bool false) (cs' := #[.bool false, .bool false, .bool false, .bool false, .bool false, .bool false, .bool false, .bool false, .bool false, .bool false, .bool false, .bool false, u12, u13, u14, u15]) h10 rfl
  have h12 := set_blk (p := 12) (v := .bool false) (cs' := #[.bool false, .bool false, .bool false, .bool false, .bool false, .bool false, .bool false, .bool false, .bool false, .bool false, .bool false, .bool false, .bool false, u13, u14, u15]) h11 rfl
  have h13 := set_blk (p := 13) (v := .bool false) (cs' := #[.bool false, .bool false, .bool false, .bool false, .bool false, .bool false, .bool false, .bool false, .bool false, .bool false, .bool false, .bool false, .bool false, .bool false, u14, u15]) h12 rfl
  have h14 := set_blk (p := 14) (v := .bool false) (cs' := #[.bool false, .bool false, .bool false, .bool false, .bool false, .bool false, .bool false, .bool false, .bool false, .bool false, .bool false, .bool false, .bool false, .bool false, .bool false, u15]) h13 rfl
  have h15 := set_blk (p := 15) (v := .bool false) (cs' := #[.bool false, .bool false, .bool false, .bool false, .bool false, .bool false, .bool false, .bool false, .bool false, .bool false, .bool false, .bool false, .bool false, .bool false, .bool false, .bool false]) h14 rfl
  exact h15
theorem at_other {B : Nat} {W : World} {g : Nat} {o : Obj} (h : W.heap[g]? = some o) (e : g ≠ B) :
    ((((((((((((((((W.setCell ⟨B, 0, none⟩ (.bool false)).setCell ⟨B, 1, none⟩ (.bool false)).setCell ⟨B, 2, none⟩ (.bool false)).setCell ⟨B, 3, none⟩ (.bool false)).setCell ⟨B, 4, none⟩ (.bool false)).setCell ⟨B, 5, none⟩ (.bool false)).setCell ⟨B, 6, none⟩ (.bool false)).setCell ⟨B, 7, none⟩ (.bool false)).setCell ⟨B, 8, none⟩ (.bool false)).setCell ⟨B, 9, none⟩ (.bool false)).setCell ⟨B, 10, none⟩ (.bool false)).setCell ⟨B, 11, none⟩ (.bool false)).setCell ⟨B, 12, none⟩ (.bool false)).setCell ⟨B, 13, none⟩ (.bool false)).setCell ⟨B, 14, none⟩ (.bool false)).setCell ⟨B, 15, none⟩ (.bool false)).heap[g]? = some o := by
  iterate 16 refine other_blk ?_ e
  exact h
theorem bools_open (s : Nat) : bools s = #[.bool (s.testBit 0), .bool (s.testBit 1), .bool (s.testBit 2), .bool (s.testBit 3), .bool (s.testBit 4), .bool (s.testBit 5), .bool (s.testBit 6), .bool (s.testBit 7), .bool (s.testBit 8), .bool (s.testBit 9), .bool (s.testBit 10), .bool (s.testBit 11), .bool (s.testBit 12), .bool (s.testBit 13), .bool (s.testBit 14), .bool (s.testBit 15)] := by
  refine (bools_ext (by rfl) fun i hi => ?_).symm
  obtain rfl | rfl | rfl | rfl | rfl | rfl | rfl | rfl | rfl | rfl | rfl | rfl | rfl | rfl | rfl | rfl : i = 0 ∨ i = 1 ∨ i = 2 ∨ i = 3 ∨ i = 4 ∨ i = 5 ∨ i = 6 ∨ i = 7 ∨ i = 8 ∨ i = 9 ∨ i = 10 ∨ i = 11 ∨ i = 12 ∨ i = 13 ∨ i = 14 ∨ i = 15 := by omega
  all_goals rfl
theorem RC.zeros {B : Nat} {W : World} {m a i t : Nat} (h : RC B W m a i t) :
    RC B ((((((((((((((((W.setCell ⟨B + 1 + 1, 0, none⟩ (.bool false)).setCell ⟨B + 1 + 1, 1, none⟩ (.bool false)).setCell ⟨B + 1 + 1, 2, none⟩ (.bool false)).setCell ⟨B + 1 + 1, 3, none⟩ (.bool false)).setCell ⟨B + 1 + 1, 4, none⟩ (.bool false)).setCell ⟨B + 1 + 1, 5, none⟩ (.bool false)).setCell ⟨B + 1 + 1, 6, none⟩ (.bool false)).setCell ⟨B + 1 + 1, 7, none⟩ (.bool false)).setCell ⟨B + 1 + 1, 8, none⟩ (.bool false)).setCell ⟨B + 1 + 1, 9, none⟩ (.bool false)).setCell ⟨B + 1 + 1, 10, none⟩ (.bool false)).setCell ⟨B + 1 + 1, 11, none⟩ (.bool false)).setCell ⟨B + 1 + 1, 12, none⟩ (.bool false)).setCell ⟨B + 1 + 1, 13, none⟩ (.bool false)).setCell ⟨B + 1 + 1, 14, none⟩ (.bool false)).setCell ⟨B + 1 + 1, 15, none⟩ (.bool false)) m a i 0 :=
  ⟨at_other h.r (by omega), at_other h.i (by omega), by
    have h0 := h.t
    rw [bools_open] at h0
    rw [bools_zero]
    exact at_cells h0⟩
theorem RC.in_ {B : Nat} {W : World} {m a i t : Nat} (h : RC B W m a i t) {p : Nat} {b : Bool} (i' : Nat) (e : ∀ j, j < 16 → i'.testBit j = if j = p then b else i.testBit j) :
    RC B (W.setCell ⟨B + 1, p, none⟩ (.bool b)) m a i' t :=
  ⟨other_blk h.r (by simp), set_blk h.i (bools_set _ _ _ _ e), other_blk h.t (by simp)⟩
theorem RC.at_ {B : Nat} {W : World} {m a i t : Nat} (h : RC B W m a i t) {p : Nat} {b : Bool} (t' : Nat) (e : ∀ j, j < 16 → t'.testBit j = if j = p then b else t.testBit j) :
    RC B (W.setCell ⟨B + 1 + 1, p, none⟩ (.bool b)) m a i t' :=
  ⟨other_blk h.r (by simp; omega), other_blk h.i (by simp), set_blk h.t (bools_set _ _ _ _ e)⟩
theorem e_same {s p : Nat} {b : Bool} (h : s.testBit p = b) : ∀ j, j < 16 → s.testBit j = if j = p then b else s.testBit j := by
  intro j _
  by_cases e : j = p
  · subst e; simp [h]
  · simp [e]
theorem e_add {s p : Nat} (hp : p < 16) : ∀ j, j < 16 → (addS s (p : Int)).testBit j = if j = p then true else s.testBit j := by
  intro j _
  rw [add_bit s p j hp]
  by_cases e : j = p <;> simp [e]
theorem e_drop {s p : Nat} (hp : p < 16) : ∀ j, j < 16 → (dropS s (p : Int)).testBit j = if j = p then false else s.testBit j := by
  intro j _
  rw [drop_bit s p j hp]
  by_cases e : j = p <;> simp [e]
set_option maxRecDepth 20000 in
set_option maxHeartbeats 4000000 in
theorem rollCounts_walk (A : Option Addr) (xs : List (Int × Int)) (c : Nat) (w : World) (hG : GL w) (hx : PairsAt w A xs) (hm : xs.length ≤ 9223372036854775807) :
    Calls Tryd.prog 3 #[.slice A xs.length c] w fun e w' => e = .returned (.bool true) ∧ Below w.heap.size w w' := by
  by_cases hl : 60 < xs.length
  · go_enter Tryd.func3, Tryd.ntmps3
    have hl' : (60 : Int) < (xs.length : Int) := by omega
    go_wp2_with fail
    refine (alive_any _ hG).mono ?_
    rintro e w1 ⟨rfl, hb1⟩
    go_wp2_with fail
    exact bodyPost_ret (v := .bool true) (by simp [results, Tryd.results3, go_sem]) rfl ⟨rfl, by (repeat (first | (with_reducible apply Wl.bl_alloc) | (with_reducible apply Wl.bl_drewN) | (with_reducible apply Wl.bl_drew) | (with_reducible refine Wl.bl_set ?_ (by simp; try omega)) | (with_reducible exact Below.refl _ _) | (with_reducible assumption) | (with_reducible refine Wl.bl_trans ?_ (by assumption))))⟩
  · go_enter Tryd.func3, Tryd.ntmps3
    have hl' : ¬ (60 : Int) < (xs.length : Int) := by omega
    go_wp2_with fail
    go_loopw [23] (fun i wr => ∃ k : Nat, k ≤ xs.length ∧ i = .int .i64 k ∧ Below w.heap.size w wr ∧ ∃ m a, fineR m a = true ∧ RC w.heap.size wr m a m a) (fun i _ => xs.length - (intOf i).toNat)
    case atStart =>
      refine ⟨0, Nat.zero_le _, rfl, by (repeat (first | (with_reducible apply Wl.bl_alloc) | (with_reducible apply Wl.bl_drewN) | (with_reducible apply Wl.bl_drew) | (with_reducible refine Wl.bl_set ?_ (by simp; try omega)) | (with_reducible exact Below.refl _ _) | (with_reducible assumption) | (with_reducible refine Wl.bl_trans ?_ (by assumption)))), 0, 0, by decide, ?_, ?_, ?_⟩
      · have h := Wl.blk_alloc (Wl.blk_alloc (Wl.new_blk w (.cells #[.int .u64 0, .int .u64 0, .int .u64 0, .int .u64 0, .int .u64 0, .int .u64 0, .int .u64 0, .int .u64 0] 28)) (.cells #[.bool false, .bool false, .bool false, .bool false, .bool false, .bool false, .bool false, .bool false, .bool false, .bool false, .bool false, .bool false, .bool false, .bool false, .bool false, .bool false] 29)) (.cells #[.bool false, .bool false, .bool false, .bool false, .bool false, .bool false, .bool false, .bool false, .bool false, .bool false, .bool false, .bool false, .bool false, .bool false, .bool false, .bool false] 29)
        simp only [wd_none]
        exact h
      · rw [bools_zero]
        exact Wl.blk_alloc (Wl.new_blk1 _ _ _) _
      · rw [bools_zero]
        exact Wl.new_blk2 _ _ _ _
    case round =>
      obtain ⟨k, hk, rfl, hb, m, a, hf, hR⟩ := hrel
      by_cases hlt : k < xs.length
      · have hlt' : (k : Int) < (xs.length : Int) := by omega
        obtain ⟨ad, rfl, hc⟩ := hx.2 (by omega)
        obtain ⟨g0, g1⟩ := hc k hlt
        have g0 := cell_below hb g0
        have g1 := cell_below hb g1
        obtain ⟨⟨x0, x1⟩, hX⟩ : ∃ X : Int × Int, X = xs.getD k (0, 0) := ⟨_, rfl⟩
        rw [← hX] at g0 g1
        clear hc
        simp only [] at g0 g1
        have hxb := hx.1 (x0, x1) (by rw [hX]; simp [hlt])
        clear hX
        simp only [] at hxb
        obtain ⟨p, hp, hx0⟩ : ∃ p : Nat, p < 16 ∧ x0.tmod 16 = (p : Int) := ⟨x0.toNat % 16, by omega, by rw [Int.tmod_eq_emod_of_nonneg hxb.1]; omega⟩
        obtain ⟨q, hq, hx1⟩ : ∃ q : Nat, q < 5 ∧ x1.tmod 5 = (q : Int) := ⟨x1.toNat % 5, by omega, by rw [Int.tmod_eq_emod_of_nonneg hxb.2.2.1]; omega⟩
        have HF := Lib.hid hf
        have HR := Lib.hid hR
        have y2 : w.heap.size + 1 + 1 < wr.heap.size := hR.lt
        have y1 : w.heap.size + 1 < wr.heap.size := by omega
        have y0 : w.heap.size < wr.heap.size := by omega
        clear hf hR
        go_upto_block 2 with (fail)
        go_cut [] (fun wc => Below w.heap.size w wc ∧ ∃ m a, fineR m a = true ∧ RC w.heap.size wc m a m a)
        case first =>
          obtain rfl | rfl | rfl | rfl | rfl : q = 0 ∨ q = 1 ∨ q = 2 ∨ q = 3 ∨ q = 4 := by omega
          · cases hb0 : m.testBit p with
            | true =>
              have k1 := roll_enrol m a (in_fine HF.out).1 (in_fine HF.out).2 p
              rw [enrol_t HF.out hp hb0] at k1
              have HY := Lib.hid (HR.out.r); have c3_0 := (Wl.blk_cell HY.out 0).trans rfl; have c3_1 := (Wl.blk_cell HY.out 1).trans rfl; have c3_2 := (Wl.blk_cell HY.out 2).trans rfl; have c3_3 := (Wl.blk_cell HY.out 3).trans rfl; have c3_4 := (Wl.blk_cell HY.out 4).trans rfl; have c3_5 := (Wl.blk_cell HY.out 5).trans rfl; have c3_6 := (Wl.blk_cell HY.out 6).trans rfl; have c3_7 := (Wl.blk_cell HY.out 7).trans rfl; have f3_0 := Wl.blk_frozen HY.out 0; have f3_1 := Wl.blk_frozen HY.out 1; have f3_2 := Wl.blk_frozen HY.out 2; have f3_3 := Wl.blk_frozen HY.out 3; have f3_4 := Wl.blk_frozen HY.out 4; have f3_5 := Wl.blk_frozen HY.out 5; have f3_6 := Wl.blk_frozen HY.out 6; have f3_7 := Wl.blk_frozen HY.out 7
              go_wp2_with fail
              refine (k1 _ (hG.below (by (repeat (first | (with_reducible apply Wl.bl_alloc) | (with_reducible apply Wl.bl_drewN) | (with_reducible apply Wl.bl_drew) | (with_reducible refine Wl.bl_set ?_ (by simp; try omega)) | (with_reducible exact Below.refl _ _) | (with_reducible assumption) | (with_reducible refine Wl.bl_trans ?_ (by assumption))))))).mono ?_
              rintro e w1 ⟨rfl, hb1⟩
              clear c3_0 c3_1 c3_2 c3_3 c3_4 c3_5 c3_6 c3_7 f3_0 f3_1 f3_2 f3_3 f3_4 f3_5 f3_6 f3_7
              have HR1 := Lib.hid ((HR.out.alloc _).after hb1)
              have HY1 := Lib.hid (HR1.out.r); have c3_0 := (Wl.blk_cell HY1.out 0).trans rfl; have c3_1 := (Wl.blk_cell HY1.out 1).trans rfl; have c3_2 := (Wl.blk_cell HY1.out 2).trans rfl; have c3_3 := (Wl.blk_cell HY1.out 3).trans rfl; have c3_4 := (Wl.blk_cell HY1.out 4).trans rfl; have c3_5 := (Wl.blk_cell HY1.out 5).trans rfl; have c3_6 := (Wl.blk_cell HY1.out 6).trans rfl; have c3_7 := (Wl.blk_cell HY1.out 7).trans rfl; have f3_0 := Wl.blk_frozen HY1.out 0; have f3_1 := Wl.blk_frozen HY1.out 1; have f3_2 := Wl.blk_frozen HY1.out 2; have f3_3 := Wl.blk_frozen HY1.out 3; have f3_4 := Wl.blk_frozen HY1.out 4; have f3_5 := Wl.blk_frozen HY1.out 5; have f3_6 := Wl.blk_frozen HY1.out 6; have f3_7 := Wl.blk_frozen HY1.out 7
              have ci := (Wl.blk_cell HR1.out.i p).trans (bools_at m p hp)
              have fi := Wl.blk_frozen HR1.out.i p
              have ct := (Wl.blk_cell HR1.out.t p).trans (bools_at a p hp)
              have ft := Wl.blk_frozen HR1.out.t p
              rw [hb0] at ci
              go_wp2_with fail
              go_meet
              case rel => exact ⟨by (repeat (first | (with_reducible apply Wl.bl_alloc) | (with_reducible apply Wl.bl_drewN) | (with_reducible apply Wl.bl_drew) | (with_reducible refine Wl.bl_set ?_ (by simp; try omega)) | (with_reducible exact Below.refl _ _) | (with_reducible assumption) | (with_reducible refine Wl.bl_trans ?_ (by assumption)))), _, _, HF.out, (HR1.out.roll m a).in_ _ (e_same hb0)⟩
            | false =>
              have k1 := roll_enrol m a (in_fine HF.out).1 (in_fine HF.out).2 p
              rw [enrol_f HF.out hp hb0] at k1
              have HY := Lib.hid (HR.out.r); have c3_0 := (Wl.blk_cell HY.out 0).trans rfl; have c3_1 := (Wl.blk_cell HY.out 1).trans rfl; have c3_2 := (Wl.blk_cell HY.out 2).trans rfl; have c3_3 := (Wl.blk_cell HY.out 3).trans rfl; have c3_4 := (Wl.blk_cell HY.out 4).trans rfl; have c3_5 := (Wl.blk_cell HY.out 5).trans rfl; have c3_6 := (Wl.blk_cell HY.out 6).trans rfl; have c3_7 := (Wl.blk_cell HY.out 7).trans rfl; have f3_0 := Wl.blk_frozen HY.out 0; have f3_1 := Wl.blk_frozen HY.out 1; have f3_2 := Wl.blk_frozen HY.out 2; have f3_3 := Wl.blk_frozen HY.out 3; have f3_4 := Wl.blk_frozen HY.out 4; have f3_5 := Wl.blk_frozen HY.out 5; have f3_6 := Wl.blk_frozen HY.out 6; have f3_7 := Wl.blk_frozen HY.out 7
              go_wp2_with fail
              refine (k1 _ (hG.below (by (repeat (first | (with_reducible apply Wl.bl_alloc) | (with_reducible apply Wl.bl_drewN) | (with_reducible apply Wl.bl_drew) | (with_reducible refine Wl.bl_set ?_ (by simp; try omega)) | (with_reducible exact Below.refl _ _) | (with_reducible assumption) | (with_reducible refine Wl.bl_trans ?_ (by assumption))))))).mono ?_
              rintro e w1 ⟨rfl, hb1⟩
              clear c3_0 c3_1 c3_2 c3_3 c3_4 c3_5 c3_6 c3_7 f3_0 f3_1 f3_2 f3_3 f3_4 f3_5 f3_6 f3_7
              have HR1 := Lib.hid ((HR.out.alloc _).after hb1)
              have HY1 := Lib.hid (HR1.out.r); have c3_0 := (Wl.blk_cell HY1.out 0).trans rfl; have c3_1 := (Wl.blk_cell HY1.out 1).trans rfl; have c3_2 := (Wl.blk_cell HY1.out 2).trans rfl; have c3_3 := (Wl.blk_cell HY1.out 3).trans rfl; have c3_4 := (Wl.blk_cell HY1.out 4).trans rfl; have c3_5 := (Wl.blk_cell HY1.out 5).trans rfl; have c3_6 := (Wl.blk_cell HY1.out 6).trans rfl; have c3_7 := (Wl.blk_cell HY1.out 7).trans rfl; have f3_0 := Wl.blk_frozen HY1.out 0; have f3_1 := Wl.blk_frozen HY1.out 1; have f3_2 := Wl.blk_frozen HY1.out 2; have f3_3 := Wl.blk_frozen HY1.out 3; have f3_4 := Wl.blk_frozen HY1.out 4; have f3_5 := Wl.blk_frozen HY1.out 5; have f3_6 := Wl.blk_frozen HY1.out 6; have f3_7 := Wl.blk_frozen HY1.out 7
              have ci := (Wl.blk_cell HR1.out.i p).trans (bools_at m p hp)
              have fi := Wl.blk_frozen HR1.out.i p
              have ct := (Wl.blk_cell HR1.out.t p).trans (bools_at a p hp)
              have ft := Wl.blk_frozen HR1.out.t p
              rw [hb0] at ci
              go_wp2_with fail
              go_meet
              case rel => exact ⟨by (repeat (first | (with_reducible apply Wl.bl_alloc) | (with_reducible apply Wl.bl_drewN) | (with_reducible apply Wl.bl_drew) | (with_reducible refine Wl.bl_set ?_ (by simp; try omega)) | (with_reducible exact Below.refl _ _) | (with_reducible assumption) | (with_reducible refine Wl.bl_trans ?_ (by assumption)))), _, _, fine_add HF.out hp, (HR1.out.roll _ a).in_ _ (e_add hp)⟩
          · cases hb0 : m.testBit p with
            | true =>
              have k1 := roll_resign m a (in_fine HF.out).1 (in_fine HF.out).2 p
              rw [resign_t HF.out hp hb0] at k1
              have HY := Lib.hid (HR.out.r); have c3_0 := (Wl.blk_cell HY.out 0).trans rfl; have c3_1 := (Wl.blk_cell HY.out 1).trans rfl; have c3_2 := (Wl.blk_cell HY.out 2).trans rfl; have c3_3 := (Wl.blk_cell HY.out 3).trans rfl; have c3_4 := (Wl.blk_cell HY.out 4).trans rfl; have c3_5 := (Wl.blk_cell HY.out 5).trans rfl; have c3_6 := (Wl.blk_cell HY.out 6).trans rfl; have c3_7 := (Wl.blk_cell HY.out 7).trans rfl; have f3_0 := Wl.blk_frozen HY.out 0; have f3_1 := Wl.blk_frozen HY.out 1; have f3_2 := Wl.blk_frozen HY.out 2; have f3_3 := Wl.blk_frozen HY.out 3; have f3_4 := Wl.blk_frozen HY.out 4; have f3_5 := Wl.blk_frozen HY.out 5; have f3_6 := Wl.blk_frozen HY.out 6; have f3_7 := Wl.blk_frozen HY.out 7
              go_wp2_with fail
              refine (k1 _ (hG.below (by (repeat (first | (with_reducible apply Wl.bl_alloc) | (with_reducible apply Wl.bl_drewN) | (with_reducible apply Wl.bl_drew) | (with_reducible refine Wl.bl_set ?_ (by simp; try omega)) | (with_reducible exact Below.refl _ _) | (with_reducible assumption) | (with_reducible refine Wl.bl_trans ?_ (by assumption))))))).mono ?_
              rintro e w1 ⟨rfl, hb1⟩
              clear c3_0 c3_1 c3_2 c3_3 c3_4 c3_5 c3_6 c3_7 f3_0 f3_1 f3_2 f3_3 f3_4 f3_5 f3_6 f3_7
              have HR1 := Lib.hid ((HR.out.alloc _).after hb1)
              have HY1 := Lib.hid (HR1.out.r); have c3_0 := (Wl.blk_cell HY1.out 0).trans rfl; have c3_1 := (Wl.blk_cell HY1.out 1).trans rfl; have c3_2 := (Wl.blk_cell HY1.out 2).trans rfl; have c3_3 := (Wl.blk_cell HY1.out 3).trans rfl; have c3_4 := (Wl.blk_cell HY1.out 4).trans rfl; have c3_5 := (Wl.blk_cell HY1.out 5).trans rfl; have c3_6 := (Wl.blk_cell HY1.out 6).trans rfl; have c3_7 := (Wl.blk_cell HY1.out 7).trans rfl; have f3_0 := Wl.blk_frozen HY1.out 0; have f3_1 := Wl.blk_frozen HY1.out 1; have f3_2 := Wl.blk_frozen HY1.out 2; have f3_3 := Wl.blk_frozen HY1.out 3; have f3_4 := Wl.blk_frozen HY1.out 4; have f3_5 := Wl.blk_frozen HY1.out 5; have f3_6 := Wl.blk_frozen HY1.out 6; have f3_7 := Wl.blk_frozen HY1.out 7
              have ci := (Wl.blk_cell HR1.out.i p).trans (bools_at m p hp)
              have fi := Wl.blk_frozen HR1.out.i p
              have ct := (Wl.blk_cell HR1.out.t p).trans (bools_at a p hp)
              have ft := Wl.blk_frozen HR1.out.t p
              rw [hb0] at ci
              go_wp2_with fail
              go_meet
              case rel => exact ⟨by (repeat (first | (with_reducible apply Wl.bl_alloc) | (with_reducible apply Wl.bl_drewN) | (with_reducible apply Wl.bl_drew) | (with_reducible refine Wl.bl_set ?_ (by simp; try omega)) | (with_reducible exact Below.refl _ _) | (with_reducible assumption) | (with_reducible refine Wl.bl_trans ?_ (by assumption)))), _, _, fine_resign HF.out hp, ((HR1.out.roll _ _).in_ _ (e_drop hp)).at_ _ (e_drop hp)⟩
            | false =>
              have k1 := roll_resign m a (in_fine HF.out).1 (in_fine HF.out).2 p
              rw [resign_f HF.out hp hb0] at k1
              have HY := Lib.hid (HR.out.r); have c3_0 := (Wl.blk_cell HY.out 0).trans rfl; have c3_1 := (Wl.blk_cell HY.out 1).trans rfl; have c3_2 := (Wl.blk_cell HY.out 2).trans rfl; have c3_3 := (Wl.blk_cell HY.out 3).trans rfl; have c3_4 := (Wl.blk_cell HY.out 4).trans rfl; have c3_5 := (Wl.blk_cell HY.out 5).trans rfl; have c3_6 := (Wl.blk_cell HY.out 6).trans rfl; have c3_7 := (Wl.blk_cell HY.out 7).trans rfl; have f3_0 := Wl.blk_frozen HY.out 0; have f3_1 := Wl.blk_frozen HY.out 1; have f3_2 := Wl.blk_frozen HY.out 2; have f3_3 := Wl.blk_frozen HY.out 3; have f3_4 := Wl.blk_frozen HY.out 4; have f3_5 := Wl.blk_frozen HY.out 5; have f3_6 := Wl.blk_frozen HY.out 6; have f3_7 := Wl.blk_frozen HY.out 7
              go_wp2_with fail
              refine (k1 _ (hG.below (by (repeat (first | (with_reducible apply Wl.bl_alloc) | (with_reducible apply Wl.bl_drewN) | (with_reducible apply Wl.bl_drew) | (with_reducible refine Wl.bl_set ?_ (by simp; try omega)) | (with_reducible exact Below.refl _ _) | (with_reducible assumption) | (with_reducible refine Wl.bl_trans ?_ (by assumption))))))).mono ?_
              rintro e w1 ⟨rfl, hb1⟩
              clear c3_0 c3_1 c3_2 c3_3 c3_4 c3_5 c3_6 c3_7 f3_0 f3_1 f3_2 f3_3 f3_4 f3_5 f3_6 f3_7
              have HR1 := Lib.hid ((HR.out.alloc _).after hb1)
              have HY1 := Lib.hid (HR1.out.r); have c3_0 := (Wl.blk_cell HY1.out 0).trans rfl; have c3_1 := (Wl.blk_cell HY1.out 1).trans rfl; have c3_2 := (Wl.blk_cell HY1.out 2).trans rfl; have c3_3 := (Wl.blk_cell HY1.out 3).trans rfl; have c3_4 := (Wl.blk_cell HY1.out 4).trans rfl; have c3_5 := (Wl.blk_cell HY1.out 5).trans rfl; have c3_6 := (Wl.blk_cell HY1.out 6).trans rfl; have c3_7 := (Wl.blk_cell HY1.out 7).trans rfl; have f3_0 := Wl.blk_frozen HY1.out 0; have f3_1 := Wl.blk_frozen HY1.out 1; have f3_2 := Wl.blk_frozen HY1.out 2; have f3_3 := Wl.blk_frozen HY1.out 3; have f3_4 := Wl.blk_frozen HY1.out 4; have f3_5 := Wl.blk_frozen HY1.out 5; have f3_6 := Wl.blk_frozen HY1.out 6; have f3_7 := Wl.blk_frozen HY1.out 7
              have ci := (Wl.blk_cell HR1.out.i p).trans (bools_at m p hp)
              have fi := Wl.blk_frozen HR1.out.i p
              have ct := (Wl.blk_cell HR1.out.t p).trans (bools_at a p hp)
              have ft := Wl.blk_frozen HR1.out.t p
              rw [hb0] at ci
              go_wp2_with fail
              go_meet
              case rel => exact ⟨by (repeat (first | (with_reducible apply Wl.bl_alloc) | (with_reducible apply Wl.bl_drewN) | (with_reducible apply Wl.bl_drew) | (with_reducible refine Wl.bl_set ?_ (by simp; try omega)) | (with_reducible exact Below.refl _ _) | (with_reducible assumption) | (with_reducible refine Wl.bl_trans ?_ (by assumption)))), _, _, HF.out, ((HR1.out.roll _ _).in_ _ (e_same hb0)).at_ _ (e_same (at_of_in HF.out p hb0))⟩
          · cases hb0 : m.testBit p with
            | true =>
              cases hb1a : a.testBit p with
              | true =>
                have k1 := roll_offer m a (in_fine HF.out).1 (in_fine HF.out).2 p
                rw [offer_tt HF.out hp hb0 hb1a] at k1
                have HY := Lib.hid (HR.out.r); have c3_0 := (Wl.blk_cell HY.out 0).trans rfl; have c3_1 := (Wl.blk_cell HY.out 1).trans rfl; have c3_2 := (Wl.blk_cell HY.out 2).trans rfl; have c3_3 := (Wl.blk_cell HY.out 3).trans rfl; have c3_4 := (Wl.blk_cell HY.out 4).trans rfl; have c3_5 := (Wl.blk_cell HY.out 5).trans rfl; have c3_6 := (Wl.blk_cell HY.out 6).trans rfl; have c3_7 := (Wl.blk_cell HY.out 7).trans rfl; have f3_0 := Wl.blk_frozen HY.out 0; have f3_1 := Wl.blk_frozen HY.out 1; have f3_2 := Wl.blk_frozen HY.out 2; have f3_3 := Wl.blk_frozen HY.out 3; have f3_4 := Wl.blk_frozen HY.out 4; have f3_5 := Wl.blk_frozen HY.out 5; have f3_6 := Wl.blk_frozen HY.out 6; have f3_7 := Wl.blk_frozen HY.out 7
                go_wp2_with fail
                refine (k1 _ (hG.below (by (repeat (first | (with_reducible apply Wl.bl_alloc) | (with_reducible apply Wl.bl_drewN) | (with_reducible apply Wl.bl_drew) | (with_reducible refine Wl.bl_set ?_ (by simp; try omega)) | (with_reducible exact Below.refl _ _) | (with_reducible assumption) | (with_reducible refine Wl.bl_trans ?_ (by assumption))))))).mono ?_
                rintro e w1 ⟨rfl, hb1⟩
                clear c3_0 c3_1 c3_2 c3_3 c3_4 c3_5 c3_6 c3_7 f3_0 f3_1 f3_2 f3_3 f3_4 f3_5 f3_6 f3_7
                have HR1 := Lib.hid ((HR.out.alloc _).after hb1)
                have HY1 := Lib.hid (HR1.out.r); have c3_0 := (Wl.blk_cell HY1.out 0).trans rfl; have c3_1 := (Wl.blk_cell HY1.out 1).trans rfl; have c3_2 := (Wl.blk_cell HY1.out 2).trans rfl; have c3_3 := (Wl.blk_cell HY1.out 3).trans rfl; have c3_4 := (Wl.blk_cell HY1.out 4).trans rfl; have c3_5 := (Wl.blk_cell HY1.out 5).trans rfl; have c3_6 := (Wl.blk_cell HY1.out 6).trans rfl; have c3_7 := (Wl.blk_cell HY1.out 7).trans rfl; have f3_0 := Wl.blk_frozen HY1.out 0; have f3_1 := Wl.blk_frozen HY1.out 1; have f3_2 := Wl.blk_frozen HY1.out 2; have f3_3 := Wl.blk_frozen HY1.out 3; have f3_4 := Wl.blk_frozen HY1.out 4; have f3_5 := Wl.blk_frozen HY1.out 5; have f3_6 := Wl.blk_frozen HY1.out 6; have f3_7 := Wl.blk_frozen HY1.out 7
                have ci := (Wl.blk_cell HR1.out.i p).trans (bools_at m p hp)
                have fi := Wl.blk_frozen HR1.out.i p
                have ct := (Wl.blk_cell HR1.out.t p).trans (bools_at a p hp)
                have ft := Wl.blk_frozen HR1.out.t p
                rw [hb0] at ci
                rw [hb1a] at ct
                go_wp2_with fail
                go_meet
                case rel => exact ⟨by (repeat (first | (with_reducible apply Wl.bl_alloc) | (with_reducible apply Wl.bl_drewN) | (with_reducible apply Wl.bl_drew) | (with_reducible refine Wl.bl_set ?_ (by simp; try omega)) | (with_reducible exact Below.refl _ _) | (with_reducible assumption) | (with_reducible refine Wl.bl_trans ?_ (by assumption)))), _, _, HF.out, (HR1.out.roll _ _).at_ _ (e_same hb1a)⟩
              | false =>
                have k1 := roll_offer m a (in_fine HF.out).1 (in_fine HF.out).2 p
                rw [offer_tf HF.out hp hb0 hb1a] at k1
                have HY := Lib.hid (HR.out.r); have c3_0 := (Wl.blk_cell HY.out 0).trans rfl; have c3_1 := (Wl.blk_cell HY.out 1).trans rfl; have c3_2 := (Wl.blk_cell HY.out 2).trans rfl; have c3_3 := (Wl.blk_cell HY.out 3).trans rfl; have c3_4 := (Wl.blk_cell HY.out 4).trans rfl; have c3_5 := (Wl.blk_cell HY.out 5).trans rfl; have c3_6 := (Wl.blk_cell HY.out 6).trans rfl; have c3_7 := (Wl.blk_cell HY.out 7).trans rfl; have f3_0 := Wl.blk_frozen HY.out 0; have f3_1 := Wl.blk_frozen HY.out 1; have f3_2 := Wl.blk_frozen HY.out 2; have f3_3 := Wl.blk_frozen HY.out 3; have f3_4 := Wl.blk_frozen HY.out 4; have f3_5 := Wl.blk_frozen HY.out 5; have f3_6 := Wl.blk_frozen HY.out 6; have f3_7 := Wl.blk_frozen HY.out 7
                go_wp2_with fail
                refine (k1 _ (hG.below (by (repeat (first | (with_reducible apply Wl.bl_alloc) | (with_reducible apply Wl.bl_drewN) | (with_reducible apply Wl.bl_drew) | (with_reducible refine Wl.bl_set ?_ (by simp; try omega)) | (with_reducible exact Below.refl _ _) | (with_reducible assumption) | (with_reducible refine Wl.bl_trans ?_ (by assumption))))))).mono ?_
                rintro e w1 ⟨rfl, hb1⟩
                clear c3_0 c3_1 c3_2 c3_3 c3_4 c3_5 c3_6 c3_7 f3_0 f3_1 f3_2 f3_3 f3_4 f3_5 f3_6 f3_7
                have HR1 := Lib.hid ((HR.out.alloc _).after hb1)
                have HY1 := Lib.hid (HR1.out.r); have c3_0 := (Wl.blk_cell HY1.out 0).trans rfl; have c3_1 := (Wl.blk_cell HY1.out 1).trans rfl; have c3_2 := (Wl.blk_cell HY1.out 2).trans rfl; have c3_3 := (Wl.blk_cell HY1.out 3).trans rfl; have c3_4 := (Wl.blk_cell HY1.out 4).trans rfl; have c3_5 := (Wl.blk_cell HY1.out 5).trans rfl; have c3_6 := (Wl.blk_cell HY1.out 6).trans rfl; have c3_7 := (Wl.blk_cell HY1.out 7).trans rfl; have f3_0 := Wl.blk_frozen HY1.out 0; have f3_1 := Wl.blk_frozen HY1.out 1; have f3_2 := Wl.blk_frozen HY1.out 2; have f3_3 := Wl.blk_frozen HY1.out 3; have f3_4 := Wl.blk_frozen HY1.out 4; have f3_5 := Wl.blk_frozen HY1.out 5; have f3_6 := Wl.blk_frozen HY1.out 6; have f3_7 := Wl.blk_frozen HY1.out 7
                have ci := (Wl.blk_cell HR1.out.i p).trans (bools_at m p hp)
                have fi := Wl.blk_frozen HR1.out.i p
                have ct := (Wl.blk_cell HR1.out.t p).trans (bools_at a p hp)
                have ft := Wl.blk_frozen HR1.out.t p
                rw [hb0] at ci
                rw [hb1a] at ct
                go_wp2_with fail
                go_meet
                case rel => exact ⟨by (repeat (first | (with_reducible apply Wl.bl_alloc) | (with_reducible apply Wl.bl_drewN) | (with_reducible apply Wl.bl_drew) | (with_reducible refine Wl.bl_set ?_ (by simp; try omega)) | (with_reducible exact Below.refl _ _) | (with_reducible assumption) | (with_reducible refine Wl.bl_trans ?_ (by assumption)))), _, _, fine_offer HF.out hp hb0, (HR1.out.roll _ _).at_ _ (e_add hp)⟩
            | false =>
              have k1 := roll_offer m a (in_fine HF.out).1 (in_fine HF.out).2 p
              rw [offer_f HF.out hp hb0] at k1
              have HY := Lib.hid (HR.out.r); have c3_0 := (Wl.blk_cell HY.out 0).trans rfl; have c3_1 := (Wl.blk_cell HY.out 1).trans rfl; have c3_2 := (Wl.blk_cell HY.out 2).trans rfl; have c3_3 := (Wl.blk_cell HY.out 3).trans rfl; have c3_4 := (Wl.blk_cell HY.out 4).trans rfl; have c3_5 := (Wl.blk_cell HY.out 5).trans rfl; have c3_6 := (Wl.blk_cell HY.out 6).trans rfl; have c3_7 := (Wl.blk_cell HY.out 7).trans rfl; have f3_0 := Wl.blk_frozen HY.out 0; have f3_1 := Wl.blk_frozen HY.out 1; have f3_2 := Wl.blk_frozen HY.out 2; have f3_3 := Wl.blk_frozen HY.out 3; have f3_4 := Wl.blk_frozen HY.out 4; have f3_5 := Wl.blk_frozen HY.out 5; have f3_6 := Wl.blk_frozen HY.out 6; have f3_7 := Wl.blk_frozen HY.out 7
              go_wp2_with fail
              refine (k1 _ (hG.below (by (repeat (first | (with_reducible apply Wl.bl_alloc) | (with_reducible apply Wl.bl_drewN) | (with_reducible apply Wl.bl_drew) | (with_reducible refine Wl.bl_set ?_ (by simp; try omega)) | (with_reducible exact Below.refl _ _) | (with_reducible assumption) | (with_reducible refine Wl.bl_trans ?_ (by assumption))))))).mono ?_
              rintro e w1 ⟨rfl, hb1⟩
              clear c3_0 c3_1 c3_2 c3_3 c3_4 c3_5 c3_6 c3_7 f3_0 f3_1 f3_2 f3_3 f3_4 f3_5 f3_6 f3_7
              have HR1 := Lib.hid ((HR.out.alloc _).after hb1)
              have HY1 := Lib.hid (HR1.out.r); have c3_0 := (Wl.blk_cell HY1.out 0).trans rfl; have c3_1 := (Wl.blk_cell HY1.out 1).trans rfl; have c3_2 := (Wl.blk_cell HY1.out 2).trans rfl; have c3_3 := (Wl.blk_cell HY1.out 3).trans rfl; have c3_4 := (Wl.blk_cell HY1.out 4).trans rfl; have c3_5 := (Wl.blk_cell HY1.out 5).trans rfl; have c3_6 := (Wl.blk_cell HY1.out 6).trans rfl; have c3_7 := (Wl.blk_cell HY1.out 7).trans rfl; have f3_0 := Wl.blk_frozen HY1.out 0; have f3_1 := Wl.blk_frozen HY1.out 1; have f3_2 := Wl.blk_frozen HY1.out 2; have f3_3 := Wl.blk_frozen HY1.out 3; have f3_4 := Wl.blk_frozen HY1.out 4; have f3_5 := Wl.blk_frozen HY1.out 5; have f3_6 := Wl.blk_frozen HY1.out 6; have f3_7 := Wl.blk_frozen HY1.out 7
              have ci := (Wl.blk_cell HR1.out.i p).trans (bools_at m p hp)
              have fi := Wl.blk_frozen HR1.out.i p
              have ct := (Wl.blk_cell HR1.out.t p).trans (bools_at a p hp)
              have ft := Wl.blk_frozen HR1.out.t p
              rw [hb0] at ci
              go_wp2_with fail
              go_meet
              case rel => exact ⟨by (repeat (first | (with_reducible apply Wl.bl_alloc) | (with_reducible apply Wl.bl_drewN) | (with_reducible apply Wl.bl_drew) | (with_reducible refine Wl.bl_set ?_ (by simp; try omega)) | (with_reducible exact Below.refl _ _) | (with_reducible assumption) | (with_reducible refine Wl.bl_trans ?_ (by assumption)))), _, _, HF.out, (HR1.out.roll _ _).at_ _ (e_same (at_of_in HF.out p hb0))⟩
          · cases hb0 : m.testBit p with
            | true =>
              cases hb1a : a.testBit p with
              | true =>
                have k1 := roll_offer m a (in_fine HF.out).1 (in_fine HF.out).2 p
                rw [offer_tt HF.out hp hb0 hb1a] at k1
                have HY := Lib.hid (HR.out.r); have c3_0 := (Wl.blk_cell HY.out 0).trans rfl; have c3_1 := (Wl.blk_cell HY.out 1).trans rfl; have c3_2 := (Wl.blk_cell HY.out 2).trans rfl; have c3_3 := (Wl.blk_cell HY.out 3).trans rfl; have c3_4 := (Wl.blk_cell HY.out 4).trans rfl; have c3_5 := (Wl.blk_cell HY.out 5).trans rfl; have c3_6 := (Wl.blk_cell HY.out 6).trans rfl; have c3_7 := (Wl.blk_cell HY.out 7).trans rfl; have f3_0 := Wl.blk_frozen HY.out 0; have f3_1 := Wl.blk_frozen HY.out 1; have f3_2 := Wl.blk_frozen HY.out 2; have f3_3 := Wl.blk_frozen HY.out 3; have f3_4 := Wl.blk_frozen HY.out 4; have f3_5 := Wl.blk_frozen HY.out 5; have f3_6 := Wl.blk_frozen HY.out 6; have f3_7 := Wl.blk_frozen HY.out 7
                go_wp2_with fail
                refine (k1 _ (hG.below (by (repeat (first | (with_reducible apply Wl.bl_alloc) | (with_reducible apply Wl.bl_drewN) | (with_reducible apply Wl.bl_drew) | (with_reducible refine Wl.bl_set ?_ (by simp; try omega)) | (with_reducible exact Below.refl _ _) | (with_reducible assumption) | (with_reducible refine Wl.bl_trans ?_ (by assumption))))))).mono ?_
                rintro e w1 ⟨rfl, hb1⟩
                clear c3_0 c3_1 c3_2 c3_3 c3_4 c3_5 c3_6 c3_7 f3_0 f3_1 f3_2 f3_3 f3_4 f3_5 f3_6 f3_7
                have HR1 := Lib.hid ((HR.out.alloc _).after hb1)
                have HY1 := Lib.hid (HR1.out.r); have c3_0 := (Wl.blk_cell HY1.out 0).trans rfl; have c3_1 := (Wl.blk_cell HY1.out 1).trans rfl; have c3_2 := (Wl.blk_cell HY1.out 2).trans rfl; have c3_3 := (Wl.blk_cell HY1.out 3).trans rfl; have c3_4 := (Wl.blk_cell HY1.out 4).trans rfl; have c3_5 := (Wl.blk_cell HY1.out 5).trans rfl; have c3_6 := (Wl.blk_cell HY1.out 6).trans rfl; have c3_7 := (Wl.blk_cell HY1.out 7).trans rfl; have f3_0 := Wl.blk_frozen HY1.out 0; have f3_1 := Wl.blk_frozen HY1.out 1; have f3_2 := Wl.blk_frozen HY1.out 2; have f3_3 := Wl.blk_frozen HY1.out 3; have f3_4 := Wl.blk_frozen HY1.out 4; have f3_5 := Wl.blk_frozen HY1.out 5; have f3_6 := Wl.blk_frozen HY1.out 6; have f3_7 := Wl.blk_frozen HY1.out 7
                have ci := (Wl.blk_cell HR1.out.i p).trans (bools_at m p hp)
                have fi := Wl.blk_frozen HR1.out.i p
                have ct := (Wl.blk_cell HR1.out.t p).trans (bools_at a p hp)
                have ft := Wl.blk_frozen HR1.out.t p
                rw [hb0] at ci
                rw [hb1a] at ct
                go_wp2_with fail
                go_meet
                case rel => exact ⟨by (repeat (first | (with_reducible apply Wl.bl_alloc) | (with_reducible apply Wl.bl_drewN) | (with_reducible apply Wl.bl_drew) | (with_reducible refine Wl.bl_set ?_ (by simp; try omega)) | (with_reducible exact Below.refl _ _) | (with_reducible assumption) | (with_reducible refine Wl.bl_trans ?_ (by assumption)))), _, _, HF.out, (HR1.out.roll _ _).at_ _ (e_same hb1a)⟩
              | false =>
                have k1 := roll_offer m a (in_fine HF.out).1 (in_fine HF.out).2 p
                rw [offer_tf HF.out hp hb0 hb1a] at k1
                have HY := Lib.hid (HR.out.r); have c3_0 := (Wl.blk_cell HY.out 0).trans rfl; have c3_1 := (Wl.blk_cell HY.out 1).trans rfl; have c3_2 := (Wl.blk_cell HY.out 2).trans rfl; have c3_3 := (Wl.blk_cell HY.out 3).trans rfl; have c3_4 := (Wl.blk_cell HY.out 4).trans rfl; have c3_5 := (Wl.blk_cell HY.out 5).trans rfl; have c3_6 := (Wl.blk_cell HY.out 6).trans rfl; have c3_7 := (Wl.blk_cell HY.out 7).trans rfl; have f3_0 := Wl.blk_frozen HY.out 0; have f3_1 := Wl.blk_frozen HY.out 1; have f3_2 := Wl.blk_frozen HY.out 2; have f3_3 := Wl.blk_frozen HY.out 3; have f3_4 := Wl.blk_frozen HY.out 4; have f3_5 := Wl.blk_frozen HY.out 5; have f3_6 := Wl.blk_frozen HY.out 6; have f3_7 := Wl.blk_frozen HY.out 7
                go_wp2_with fail
                refine (k1 _ (hG.below (by (repeat (first | (with_reducible apply Wl.bl_alloc) | (with_reducible apply Wl.bl_drewN) | (with_reducible apply Wl.bl_drew) | (with_reducible refine Wl.bl_set ?_ (by simp; try omega)) | (with_reducible exact Below.refl _ _) | (with_reducible assumption) | (with_reducible refine Wl.bl_trans ?_ (by assumption))))))).mono ?_
                rintro e w1 ⟨rfl, hb1⟩
                clear c3_0 c3_1 c3_2 c3_3 c3_4 c3_5 c3_6 c3_7 f3_0 f3_1 f3_2 f3_3 f3_4 f3_5 f3_6 f3_7
                have HR1 := Lib.hid ((HR.out.alloc _).after hb1)
                have HY1 := Lib.hid (HR1.out.r); have c3_0 := (Wl.blk_cell HY1.out 0).trans rfl; have c3_1 := (Wl.blk_cell HY1.out 1).trans rfl; have c3_2 := (Wl.blk_cell HY1.out 2).trans rfl; have c3_3 := (Wl.blk_cell HY1.out 3).trans rfl; have c3_4 := (Wl.blk_cell HY1.out 4).trans rfl; have c3_5 := (Wl.blk_cell HY1.out 5).trans rfl; have c3_6 := (Wl.blk_cell HY1.out 6).trans rfl; have c3_7 := (Wl.blk_cell HY1.out 7).trans rfl; have f3_0 := Wl.blk_frozen HY1.out 0; have f3_1 := Wl.blk_frozen HY1.out 1; have f3_2 := Wl.blk_frozen HY1.out 2; have f3_3 := Wl.blk_frozen HY1.out 3; have f3_4 := Wl.blk_frozen HY1.out 4; have f3_5 := Wl.blk_frozen HY1.out 5; have f3_6 := Wl.blk_frozen HY1.out 6; have f3_7 := Wl.blk_frozen HY1.out 7
                have ci := (Wl.blk_cell HR1.out.i p).trans (bools_at m p hp)
                have fi := Wl.blk_frozen HR1.out.i p
                have ct := (Wl.blk_cell HR1.out.t p).trans (bools_at a p hp)
                have ft := Wl.blk_frozen HR1.out.t p
                rw [hb0] at ci
                rw [hb1a] at ct
                go_wp2_with fail
                go_meet
                case rel => exact ⟨by (repeat (first | (with_reducible apply Wl.bl_alloc) | (with_reducible apply Wl.bl_drewN) | (with_reducible apply Wl.bl_drew) | (with_reducible refine Wl.bl_set ?_ (by simp; try omega)) | (with_reducible exact Below.refl _ _) | (with_reducible assumption) | (with_reducible refine Wl.bl_trans ?_ (by assumption)))), _, _, fine_offer HF.out hp hb0, (HR1.out.roll _ _).at_ _ (e_add hp)⟩
            | false =>
              have k1 := roll_offer m a (in_fine HF.out).1 (in_fine HF.out).2 p
              rw [offer_f HF.out hp hb0] at k1
              have HY := Lib.hid (HR.out.r); have c3_0 := (Wl.blk_cell HY.out 0).trans rfl; have c3_1 := (Wl.blk_cell HY.out 1).trans rfl; have c3_2 := (Wl.blk_cell HY.out 2).trans rfl; have c3_3 := (Wl.blk_cell HY.out 3).trans rfl; have c3_4 := (Wl.blk_cell HY.out 4).trans rfl; have c3_5 := (Wl.blk_cell HY.out 5).trans rfl; have c3_6 := (Wl.blk_cell HY.out 6).trans rfl; have c3_7 := (Wl.blk_cell HY.out 7).trans rfl; have f3_0 := Wl.blk_frozen HY.out 0; have f3_1 := Wl.blk_frozen HY.out 1; have f3_2 := Wl.blk_frozen HY.out 2; have f3_3 := Wl.blk_frozen HY.out 3; have f3_4 := Wl.blk_frozen HY.out 4; have f3_5 := Wl.blk_frozen HY.out 5; have f3_6 := Wl.blk_frozen HY.out 6; have f3_7 := Wl.blk_frozen HY.out 7
              go_wp2_with fail
              refine (k1 _ (hG.below (by (repeat (first | (with_reducible apply Wl.bl_alloc) | (with_reducible apply Wl.bl_drewN) | (with_reducible apply Wl.bl_drew) | (with_reducible refine Wl.bl_set ?_ (by simp; try omega)) | (with_reducible exact Below.refl _ _) | (with_reducible assumption) | (with_reducible refine Wl.bl_trans ?_ (by assumption))))))).mono ?_
              rintro e w1 ⟨rfl, hb1⟩
              clear c3_0 c3_1 c3_2 c3_3 c3_4 c3_5 c3_6 c3_7 f3_0 f3_1 f3_2 f3_3 f3_4 f3_5 f3_6 f3_7
              have HR1 := Lib.hid ((HR.out.alloc _).after hb1)
              have HY1 := Lib.hid (HR1.out.r); have c3_0 := (Wl.blk_cell HY1.out 0).trans rfl; have c3_1 := (Wl.blk_cell HY1.out 1).trans rfl; have c3_2 := (Wl.blk_cell HY1.out 2).trans rfl; have c3_3 := (Wl.blk_cell HY1.out 3).trans rfl; have c3_4 := (Wl.blk_cell HY1.out 4).trans rfl; have c3_5 := (Wl.blk_cell HY1.out 5).trans rfl; have c3_6 := (Wl.blk_cell HY1.out 6).trans rfl; have c3_7 := (Wl.blk_cell HY1.out 7).trans rfl; have f3_0 := Wl.blk_frozen HY1.out 0; have f3_1 := Wl.blk_frozen HY1.out 1; have f3_2 := Wl.blk_frozen HY1.out 2; have f3_3 := Wl.blk_frozen HY1.out 3; have f3_4 := Wl.blk_frozen HY1.out 4; have f3_5 := Wl.blk_frozen HY1.out 5; have f3_6 := Wl.blk_frozen HY1.out 6; have f3_7 := Wl.blk_frozen HY1.out 7
              have ci := (Wl.blk_cell HR1.out.i p).trans (bools_at m p hp)
              have fi := Wl.blk_frozen HR1.out.i p
              have ct := (Wl.blk_cell HR1.out.t p).trans (bools_at a p hp)
              have ft := Wl.blk_frozen HR1.out.t p
              rw [hb0] at ci
              go_wp2_with fail
              go_meet
              case rel => exact ⟨by (repeat (first | (with_reducible apply Wl.bl_alloc) | (with_reducible apply Wl.bl_drewN) | (with_reducible apply Wl.bl_drew) | (with_reducible refine Wl.bl_set ?_ (by simp; try omega)) | (with_reducible exact Below.refl _ _) | (with_reducible assumption) | (with_reducible refine Wl.bl_trans ?_ (by assumption)))), _, _, HF.out, (HR1.out.roll _ _).at_ _ (e_same (at_of_in HF.out p hb0))⟩
          · cases hb1a : a.testBit p with
            | true =>
              have k1 := roll_withdraw m a (in_fine HF.out).1 (in_fine HF.out).2 p
              rw [withdraw_t HF.out hp hb1a] at k1
              have HY := Lib.hid (HR.out.r); have c3_0 := (Wl.blk_cell HY.out 0).trans rfl; have c3_1 := (Wl.blk_cell HY.out 1).trans rfl; have c3_2 := (Wl.blk_cell HY.out 2).trans rfl; have c3_3 := (Wl.blk_cell HY.out 3).trans rfl; have c3_4 := (Wl.blk_cell HY.out 4).trans rfl; have c3_5 := (Wl.blk_cell HY.out 5).trans rfl; have c3_6 := (Wl.blk_cell HY.out 6).trans rfl; have c3_7 := (Wl.blk_cell HY.out 7).trans rfl; have f3_0 := Wl.blk_frozen HY.out 0; have f3_1 := Wl.blk_frozen HY.out 1; have f3_2 := Wl.blk_frozen HY.out 2; have f3_3 := Wl.blk_frozen HY.out 3; have f3_4 := Wl.blk_frozen HY.out 4; have f3_5 := Wl.blk_frozen HY.out 5; have f3_6 := Wl.blk_frozen HY.out 6; have f3_7 := Wl.blk_frozen HY.out 7
              go_wp2_with fail
              refine (k1 _ (hG.below (by (repeat (first | (with_reducible apply Wl.bl_alloc) | (with_reducible apply Wl.bl_drewN) | (with_reducible apply Wl.bl_drew) | (with_reducible refine Wl.bl_set ?_ (by simp; try omega)) | (with_reducible exact Below.refl _ _) | (with_reducible assumption) | (with_reducible refine Wl.bl_trans ?_ (by assumption))))))).mono ?_
              rintro e w1 ⟨rfl, hb1⟩
              clear c3_0 c3_1 c3_2 c3_3 c3_4 c3_5 c3_6 c3_7 f3_0 f3_1 f3_2 f3_3 f3_4 f3_5 f3_6 f3_7
              have HR1 := Lib.hid ((HR.out.alloc _).after hb1)
              have HY1 := Lib.hid (HR1.out.r); have c3_0 := (Wl.blk_cell HY1.out 0).trans rfl; have c3_1 := (Wl.blk_cell HY1.out 1).trans rfl; have c3_2 := (Wl.blk_cell HY1.out 2).trans rfl; have c3_3 := (Wl.blk_cell HY1.out 3).trans rfl; have c3_4 := (Wl.blk_cell HY1.out 4).trans rfl; have c3_5 := (Wl.blk_cell HY1.out 5).trans rfl; have c3_6 := (Wl.blk_cell HY1.out 6).trans rfl; have c3_7 := (Wl.blk_cell HY1.out 7).trans rfl; have f3_0 := Wl.blk_frozen HY1.out 0; have f3_1 := Wl.blk_frozen HY1.out 1; have f3_2 := Wl.blk_frozen HY1.out 2; have f3_3 := Wl.blk_frozen HY1.out 3; have f3_4 := Wl.blk_frozen HY1.out 4; have f3_5 := Wl.blk_frozen HY1.out 5; have f3_6 := Wl.blk_frozen HY1.out 6; have f3_7 := Wl.blk_frozen HY1.out 7
              have ci := (Wl.blk_cell HR1.out.i p).trans (bools_at m p hp)
              have fi := Wl.blk_frozen HR1.out.i p
              have ct := (Wl.blk_cell HR1.out.t p).trans (bools_at a p hp)
              have ft := Wl.blk_frozen HR1.out.t p
              rw [hb1a] at ct
              go_wp2_with fail
              go_meet
              case rel => exact ⟨by (repeat (first | (with_reducible apply Wl.bl_alloc) | (with_reducible apply Wl.bl_drewN) | (with_reducible apply Wl.bl_drew) | (with_reducible refine Wl.bl_set ?_ (by simp; try omega)) | (with_reducible exact Below.refl _ _) | (with_reducible assumption) | (with_reducible refine Wl.bl_trans ?_ (by assumption)))), _, _, fine_withdraw HF.out hp, (HR1.out.roll _ _).at_ _ (e_drop hp)⟩
            | false =>
              have k1 := roll_withdraw m a (in_fine HF.out).1 (in_fine HF.out).2 p
              rw [withdraw_f HF.out hp hb1a] at k1
              have HY := Lib.hid (HR.out.r); have c3_0 := (Wl.blk_cell HY.out 0).trans rfl; have c3_1 := (Wl.blk_cell HY.out 1).trans rfl; have c3_2 := (Wl.blk_cell HY.out 2).trans rfl; have c3_3 := (Wl.blk_cell HY.out 3).trans rfl; have c3_4 := (Wl.blk_cell HY.out 4).trans rfl; have c3_5 := (Wl.blk_cell HY.out 5).trans rfl; have c3_6 := (Wl.blk_cell HY.out 6).trans rfl; have c3_7 := (Wl.blk_cell HY.out 7).trans rfl; have f3_0 := Wl.blk_frozen HY.out 0; have f3_1 := Wl.blk_frozen HY.out 1; have f3_2 := Wl.blk_frozen HY.out 2; have f3_3 := Wl.blk_frozen HY.out 3; have f3_4 := Wl.blk_frozen HY.out 4; have f3_5 := Wl.blk_frozen HY.out 5; have f3_6 := Wl.blk_frozen HY.out 6; have f3_7 := Wl.blk_frozen HY.out 7
              go_wp2_with fail
              refine (k1 _ (hG.below (by (repeat (first | (with_reducible apply Wl.bl_alloc) | (with_reducible apply Wl.bl_drewN) | (with_reducible apply Wl.bl_drew) | (with_reducible refine Wl.bl_set ?_ (by simp; try omega)) | (with_reducible exact Below.refl _ _) | (with_reducible assumption) | (with_reducible refine Wl.bl_trans ?_ (by assumption))))))).mono ?_
              rintro e w1 ⟨rfl, hb1⟩
              clear c3_0 c3_1 c3_2 c3_3 c3_4 c3_5 c3_6 c3_7 f3_0 f3_1 f3_2 f3_3 f3_4 f3_5 f3_6 f3_7
              have HR1 := Lib.hid ((HR.out.alloc _).after hb1)
              have HY1 := Lib.hid (HR1.out.r); have c3_0 := (Wl.blk_cell HY1.out 0).trans rfl; have c3_1 := (Wl.blk_cell HY1.out 1).trans rfl; have c3_2 := (Wl.blk_cell HY1.out 2).trans rfl; have c3_3 := (Wl.blk_cell HY1.out 3).trans rfl; have c3_4 := (Wl.blk_cell HY1.out 4).trans rfl; have c3_5 := (Wl.blk_cell HY1.out 5).trans rfl; have c3_6 := (Wl.blk_cell HY1.out 6).trans rfl; have c3_7 := (Wl.blk_cell HY1.out 7).trans rfl; have f3_0 := Wl.blk_frozen HY1.out 0; have f3_1 := Wl.blk_frozen HY1.out 1; have f3_2 := Wl.blk_frozen HY1.out 2; have f3_3 := Wl.blk_frozen HY1.out 3; have f3_4 := Wl.blk_frozen HY1.out 4; have f3_5 := Wl.blk_frozen HY1.out 5; have f3_6 := Wl.blk_frozen HY1.out 6; have f3_7 := Wl.blk_frozen HY1.out 7
              have ci := (Wl.blk_cell HR1.out.i p).trans (bools_at m p hp)
              have fi := Wl.blk_frozen HR1.out.i p
              have ct := (Wl.blk_cell HR1.out.t p).trans (bools_at a p hp)
              have ft := Wl.blk_frozen HR1.out.t p
              rw [hb1a] at ct
              go_wp2_with fail
              go_meet
              case rel => exact ⟨by (repeat (first | (with_reducible apply Wl.bl_alloc) | (with_reducible apply Wl.bl_drewN) | (with_reducible apply Wl.bl_drew) | (with_reducible refine Wl.bl_set ?_ (by simp; try omega)) | (with_reducible exact Below.refl _ _) | (with_reducible assumption) | (with_reducible refine Wl.bl_trans ?_ (by assumption)))), _, _, HF.out, (HR1.out.roll _ _).at_ _ (e_same hb1a)⟩
        case rest =>
          obtain ⟨hbc, m, a, hf, hR⟩ := hcut
          have HF := Lib.hid hf
          have HR := Lib.hid hR
          clear hf hR g0 g1
          go_wp2_with fail
          go_loopw [11, 12, 108] (fun s t i wr => ∃ j : Nat, j ≤ 16 ∧ i = .int .i64 j ∧ s = .bool (someB m j) ∧ t = .bool (allB m a j) ∧ Below wc.heap.size wc wr) (fun _ _ i _ => 16 - (intOf i).toNat)
          case atStart => exact ⟨0, by omega, rfl, rfl, rfl, Below.refl _ _⟩
          case round =>
            obtain ⟨j, hj, rfl, rfl, rfl, hb2⟩ := hrel
            have HR2 := Lib.hid (HR.out.after hb2)
            by_cases hj16 : j < 16
            · have hj' : (j : Int) < 16 := by omega
              have ci := (Wl.blk_cell HR2.out.i j).trans (bools_at m j hj16)
              have ct := (Wl.blk_cell HR2.out.t j).trans (bools_at a j hj16)
              have hs1 := Lib.hid (someB_succ m j)
              have ha1 := Lib.hid (allB_succ m a j)
              obtain ⟨S, hS⟩ : ∃ S : Bool, S = someB m j := ⟨_, rfl⟩
              obtain ⟨T, hT⟩ : ∃ T : Bool, T = allB m a j := ⟨_, rfl⟩
              rw [← hS, ← hT]
              rw [← hS] at hs1
              rw [← hT] at ha1
              clear hS hT
              cases S <;> cases T
              all_goals go_wp2_with fail
              all_goals go_quiet (fail)
              all_goals go_wp2_with fail
              all_goals exact ⟨⟨j + 1, by omega, by simp, by rw [hs1.out]; simp, by rw [ha1.out]; simp, by (repeat (first | (with_reducible apply Wl.bl_alloc) | (with_reducible apply Wl.bl_drewN) | (with_reducible apply Wl.bl_drew) | (with_reducible refine Wl.bl_set ?_ (by simp; try omega)) | (with_reducible exact Below.refl _ _) | (with_reducible assumption) | (with_reducible refine Wl.bl_trans ?_ (by assumption))))⟩, by simp [intOf]; omega⟩
            · have hj0 : j = 16 := by omega
              subst hj0
              clear hj16 hj
              have HFull := full_iff HF.out
              have HZ := Lib.hid (HR2.out.r); have c3_0 := (Wl.blk_cell HZ.out 0).trans rfl; have c3_1 := (Wl.blk_cell HZ.out 1).trans rfl; have c3_2 := (Wl.blk_cell HZ.out 2).trans rfl; have c3_3 := (Wl.blk_cell HZ.out 3).trans rfl; have c3_4 := (Wl.blk_cell HZ.out 4).trans rfl; have c3_5 := (Wl.blk_cell HZ.out 5).trans rfl; have c3_6 := (Wl.blk_cell HZ.out 6).trans rfl; have c3_7 := (Wl.blk_cell HZ.out 7).trans rfl; have f3_0 := Wl.blk_frozen HZ.out 0; have f3_1 := Wl.blk_frozen HZ.out 1; have f3_2 := Wl.blk_frozen HZ.out 2; have f3_3 := Wl.blk_frozen HZ.out 3; have f3_4 := Wl.blk_frozen HZ.out 4; have f3_5 := Wl.blk_frozen HZ.out 5; have f3_6 := Wl.blk_frozen HZ.out 6; have f3_7 := Wl.blk_frozen HZ.out 7
              obtain ⟨S, hS⟩ : ∃ S : Bool, S = someB m 16 := ⟨_, rfl⟩
              obtain ⟨T, hT⟩ : ∃ T : Bool, T = allB m a 16 := ⟨_, rfl⟩
              rw [← hS, ← hT] at HFull
              rw [← hS, ← hT]
              clear hS hT
              have kf := fun w hG => roll_full m a (in_fine HF.out).1 (in_fine HF.out).2 w hG
              rw [HFull] at kf
              cases hST : S && T with
              | true => 
                obtain ⟨rfl, rfl⟩ : S = true ∧ T = true := by simpa using hST
                clear hST
                simp only [Bool.and_self] at kf HFull
                have KF := Lib.hid kf
                clear kf
                have HFull := Lib.hid HFull
                go_wp2_with fail
                refine (KF.out _ (hG.below (by (repeat (first | (with_reducible apply Wl.bl_alloc) | (with_reducible apply Wl.bl_drewN) | (with_reducible apply Wl.bl_drew) | (with_reducible refine Wl.bl_set ?_ (by simp; try omega)) | (with_reducible exact Below.refl _ _) | (with_reducible assumption) | (with_reducible refine Wl.bl_trans ?_ (by assumption))))))).mono ?_
                rintro e w3 ⟨rfl, hb3⟩
                have HR3 := Lib.hid (HR2.out.after hb3)
                clear c3_0 c3_1 c3_2 c3_3 c3_4 c3_5 c3_6 c3_7 f3_0 f3_1 f3_2 f3_3 f3_4 f3_5 f3_6 f3_7
                have HZ3 := Lib.hid (HR3.out.r); have c3_0 := (Wl.blk_cell HZ3.out 0).trans rfl; have c3_1 := (Wl.blk_cell HZ3.out 1).trans rfl; have c3_2 := (Wl.blk_cell HZ3.out 2).trans rfl; have c3_3 := (Wl.blk_cell HZ3.out 3).trans rfl; have c3_4 := (Wl.blk_cell HZ3.out 4).trans rfl; have c3_5 := (Wl.blk_cell HZ3.out 5).trans rfl; have c3_6 := (Wl.blk_cell HZ3.out 6).trans rfl; have c3_7 := (Wl.blk_cell HZ3.out 7).trans rfl; have f3_0 := Wl.blk_frozen HZ3.out 0; have f3_1 := Wl.blk_frozen HZ3.out 1; have f3_2 := Wl.blk_frozen HZ3.out 2; have f3_3 := Wl.blk_frozen HZ3.out 3; have f3_4 := Wl.blk_frozen HZ3.out 4; have f3_5 := Wl.blk_frozen HZ3.out 5; have f3_6 := Wl.blk_frozen HZ3.out 6; have f3_7 := Wl.blk_frozen HZ3.out 7
                go_wp2_with fail
                refine (KF.out _ (hG.below (by (repeat (first | (with_reducible apply Wl.bl_alloc) | (with_reducible apply Wl.bl_drewN) | (with_reducible apply Wl.bl_drew) | (with_reducible refine Wl.bl_set ?_ (by simp; try omega)) | (with_reducible exact Below.refl _ _) | (with_reducible assumption) | (with_reducible refine Wl.bl_trans ?_ (by assumption))))))).mono ?_
                rintro e w4 ⟨rfl, hb4⟩
                have HR4 := Lib.hid (HR3.out.after hb4)
                clear c3_0 c3_1 c3_2 c3_3 c3_4 c3_5 c3_6 c3_7 f3_0 f3_1 f3_2 f3_3 f3_4 f3_5 f3_6 f3_7
                have HZ4 := Lib.hid (HR4.out.r); have c3_0 := (Wl.blk_cell HZ4.out 0).trans rfl; have c3_1 := (Wl.blk_cell HZ4.out 1).trans rfl; have c3_2 := (Wl.blk_cell HZ4.out 2).trans rfl; have c3_3 := (Wl.blk_cell HZ4.out 3).trans rfl; have c3_4 := (Wl.blk_cell HZ4.out 4).trans rfl; have c3_5 := (Wl.blk_cell HZ4.out 5).trans rfl; have c3_6 := (Wl.blk_cell HZ4.out 6).trans rfl; have c3_7 := (Wl.blk_cell HZ4.out 7).trans rfl; have f3_0 := Wl.blk_frozen HZ4.out 0; have f3_1 := Wl.blk_frozen HZ4.out 1; have f3_2 := Wl.blk_frozen HZ4.out 2; have f3_3 := Wl.blk_frozen HZ4.out 3; have f3_4 := Wl.blk_frozen HZ4.out 4; have f3_5 := Wl.blk_frozen HZ4.out 5; have f3_6 := Wl.blk_frozen HZ4.out 6; have f3_7 := Wl.blk_frozen HZ4.out 7
                have y04 : w.heap.size < w4.heap.size := Wl.blk_lt HR4.out.r
                have hfire : fireR m a = (m, 0, elsI a, 0) := by unfold fireR; rw [HF.out, HFull.out]; rfl
                have k5 := fun w hG => roll_fire m a (in_fine HF.out).1 (in_fine HF.out).2 w hG
                rw [hfire] at k5
                clear hfire
                simp only [wd_none] at k5
                have K5 := Lib.hid k5
                clear k5
                have ham : a = m := by have h := HFull.out; unfold fullR at h; rw [HF.out] at h; simp at h; exact h.1
                subst ham
                go_wp2_with fail
                refine (K5.out _ (hG.below (by (repeat (first | (with_reducible apply Wl.bl_alloc) | (with_reducible apply Wl.bl_drewN) | (with_reducible apply Wl.bl_drew) | (with_reducible refine Wl.bl_set ?_ (by simp; try omega)) | (with_reducible exact Below.refl _ _) | (with_reducible assumption) | (with_reducible refine Wl.bl_trans ?_ (by assumption))))))).mono ?_
                rintro e w5 ⟨v5, rfl, hv5, hb5⟩
                obtain ⟨A5, c5, rfl, hl5, hv5'⟩ := hv5
                clear hv5' hl5
                rw [elsI_length]
                have HR5 := Lib.hid (HR4.out.after hb5)
                clear c3_0 c3_1 c3_2 c3_3 c3_4 c3_5 c3_6 c3_7 f3_0 f3_1 f3_2 f3_3 f3_4 f3_5 f3_6 f3_7
                have HZ5 := Lib.hid (HR5.out.r); have c3_0 := (Wl.blk_cell HZ5.out 0).trans rfl; have c3_1 := (Wl.blk_cell HZ5.out 1).trans rfl; have c3_2 := (Wl.blk_cell HZ5.out 2).trans rfl; have c3_3 := (Wl.blk_cell HZ5.out 3).trans rfl; have c3_4 := (Wl.blk_cell HZ5.out 4).trans rfl; have c3_5 := (Wl.blk_cell HZ5.out 5).trans rfl; have c3_6 := (Wl.blk_cell HZ5.out 6).trans rfl; have c3_7 := (Wl.blk_cell HZ5.out 7).trans rfl; have f3_0 := Wl.blk_frozen HZ5.out 0; have f3_1 := Wl.blk_frozen HZ5.out 1; have f3_2 := Wl.blk_frozen HZ5.out 2; have f3_3 := Wl.blk_frozen HZ5.out 3; have f3_4 := Wl.blk_frozen HZ5.out 4; have f3_5 := Wl.blk_frozen HZ5.out 5; have f3_6 := Wl.blk_frozen HZ5.out 6; have f3_7 := Wl.blk_frozen HZ5.out 7
                have y05 : w.heap.size < w5.heap.size := Wl.blk_lt HR5.out.r
                have q1 : ∀ w, (binOp .neq 26 (.agg #[.int .u64 (Sets.wd a 0), .int .u64 (Sets.wd a 1), .int .u64 (Sets.wd a 2), .int .u64 (Sets.wd a 3)]) (.agg #[.int .u64 (Sets.wd a 0), .int .u64 (Sets.wd a 1), .int .u64 (Sets.wd a 2), .int .u64 (Sets.wd a 3)])).run Tryd.prog w = .ok (.bool false) w := fun w => by rw [neq_sets a a (in_fine HF.out).1 (in_fine HF.out).1]; simp
                go_wp2_with fail
                refine (len_any a _).mono ?_
                rintro e w6 ⟨rfl, hb6⟩
                have HR6 := Lib.hid ((HR5.out.alloc _).after hb6)
                clear c3_0 c3_1 c3_2 c3_3 c3_4 c3_5 c3_6 c3_7 f3_0 f3_1 f3_2 f3_3 f3_4 f3_5 f3_6 f3_7 y05 y04 q1
                have HX14 := Lib.hid (Wl.blk_after (Wl.new_blk _ _) hb6); have c14_0 := (Wl.blk_cell HX14.out 0).trans rfl; have c14_1 := (Wl.blk_cell HX14.out 1).trans rfl; have c14_2 := (Wl.blk_cell HX14.out 2).trans rfl; have c14_3 := (Wl.blk_cell HX14.out 3).trans rfl; have c14_4 := (Wl.blk_cell HX14.out 4).trans rfl; have c14_5 := (Wl.blk_cell HX14.out 5).trans rfl; have c14_6 := (Wl.blk_cell HX14.out 6).trans rfl; have c14_7 := (Wl.blk_cell HX14.out 7).trans rfl; have f14_0 := Wl.blk_frozen HX14.out 0; have f14_1 := Wl.blk_frozen HX14.out 1; have f14_2 := Wl.blk_frozen HX14.out 2; have f14_3 := Wl.blk_frozen HX14.out 3; have f14_4 := Wl.blk_frozen HX14.out 4; have f14_5 := Wl.blk_frozen HX14.out 5; have f14_6 := Wl.blk_frozen HX14.out 6; have f14_7 := Wl.blk_frozen HX14.out 7
                have HZ6 := Lib.hid (HR6.out.r); have c3_0 := (Wl.blk_cell HZ6.out 0).trans rfl; have c3_1 := (Wl.blk_cell HZ6.out 1).trans rfl; have c3_2 := (Wl.blk_cell HZ6.out 2).trans rfl; have c3_3 := (Wl.blk_cell HZ6.out 3).trans rfl; have c3_4 := (Wl.blk_cell HZ6.out 4).trans rfl; have c3_5 := (Wl.blk_cell HZ6.out 5).trans rfl; have c3_6 := (Wl.blk_cell HZ6.out 6).trans rfl; have c3_7 := (Wl.blk_cell HZ6.out 7).trans rfl; have f3_0 := Wl.blk_frozen HZ6.out 0; have f3_1 := Wl.blk_frozen HZ6.out 1; have f3_2 := Wl.blk_frozen HZ6.out 2; have f3_3 := Wl.blk_frozen HZ6.out 3; have f3_4 := Wl.blk_frozen HZ6.out 4; have f3_5 := Wl.blk_frozen HZ6.out 5; have f3_6 := Wl.blk_frozen HZ6.out 6; have f3_7 := Wl.blk_frozen HZ6.out 7
                have d0 := (Wl.blk_cell HR6.out.t 0).trans (bools_at a 0 (by decide)); have g0 := Wl.blk_frozen HR6.out.t 0
                have d1 := (Wl.blk_cell HR6.out.t 1).trans (bools_at a 1 (by decide)); have g1 := Wl.blk_frozen HR6.out.t 1
                have d2 := (Wl.blk_cell HR6.out.t 2).trans (bools_at a 2 (by decide)); have g2 := Wl.blk_frozen HR6.out.t 2
                have d3 := (Wl.blk_cell HR6.out.t 3).trans (bools_at a 3 (by decide)); have g3 := Wl.blk_frozen HR6.out.t 3
                have d4 := (Wl.blk_cell HR6.out.t 4).trans (bools_at a 4 (by decide)); have g4 := Wl.blk_frozen HR6.out.t 4
                have d5 := (Wl.blk_cell HR6.out.t 5).trans (bools_at a 5 (by decide)); have g5 := Wl.blk_frozen HR6.out.t 5
                have d6 := (Wl.blk_cell HR6.out.t 6).trans (bools_at a 6 (by decide)); have g6 := Wl.blk_frozen HR6.out.t 6
                have d7 := (Wl.blk_cell HR6.out.t 7).trans (bools_at a 7 (by decide)); have g7 := Wl.blk_frozen HR6.out.t 7
                have d8 := (Wl.blk_cell HR6.out.t 8).trans (bools_at a 8 (by decide)); have g8 := Wl.blk_frozen HR6.out.t 8
                have d9 := (Wl.blk_cell HR6.out.t 9).trans (bools_at a 9 (by decide)); have g9 := Wl.blk_frozen HR6.out.t 9
                have d10 := (Wl.blk_cell HR6.out.t 10).trans (bools_at a 10 (by decide)); have g10 := Wl.blk_frozen HR6.out.t 10
                have d11 := (Wl.blk_cell HR6.out.t 11).trans (bools_at a 11 (by decide)); have g11 := Wl.blk_frozen HR6.out.t 11
                have d12 := (Wl.blk_cell HR6.out.t 12).trans (bools_at a 12 (by decide)); have g12 := Wl.blk_frozen HR6.out.t 12
                have d13 := (Wl.blk_cell HR6.out.t 13).trans (bools_at a 13 (by decide)); have g13 := Wl.blk_frozen HR6.out.t 13
                have d14 := (Wl.blk_cell HR6.out.t 14).trans (bools_at a 14 (by decide)); have g14 := Wl.blk_frozen HR6.out.t 14
                have d15 := (Wl.blk_cell HR6.out.t 15).trans (bools_at a 15 (by decide)); have g15 := Wl.blk_frozen HR6.out.t 15
                go_wp2_with fail
                have hz := (HR6.out.roll a 0).zeros
                simp only [wd_none] at hz
                refine ⟨⟨k + 1, by omega, by simp, by (repeat (first | (with_reducible apply Wl.bl_alloc) | (with_reducible apply Wl.bl_drewN) | (with_reducible apply Wl.bl_drew) | (with_reducible refine Wl.bl_set ?_ (by simp; try omega)) | (with_reducible exact Below.refl _ _) | (with_reducible assumption) | (with_reducible refine Wl.bl_trans ?_ (by assumption)))), a, 0, fine_zero HF.out, hz⟩, by simp [intOf]; omega⟩
              | false =>
                have KF := Lib.hid kf
                clear kf
                have HFull := Lib.hid HFull
                cases S <;> cases T
                case false.false | false.true | true.false => 
                  simp only [Bool.and_self, Bool.and_false, Bool.false_and] at KF
                  go_wp2_with fail
                  refine (KF.out _ (hG.below (by (repeat (first | (with_reducible apply Wl.bl_alloc) | (with_reducible apply Wl.bl_drewN) | (with_reducible apply Wl.bl_drew) | (with_reducible refine Wl.bl_set ?_ (by simp; try omega)) | (with_reducible exact Below.refl _ _) | (with_reducible assumption) | (with_reducible refine Wl.bl_trans ?_ (by assumption))))))).mono ?_
                  rintro e w3 ⟨rfl, hb3⟩
                  have HR3 := Lib.hid (HR2.out.after hb3)
                  clear c3_0 c3_1 c3_2 c3_3 c3_4 c3_5 c3_6 c3_7 f3_0 f3_1 f3_2 f3_3 f3_4 f3_5 f3_6 f3_7
                  have HZ3 := Lib.hid (HR3.out.r); have c3_0 := (Wl.blk_cell HZ3.out 0).trans rfl; have c3_1 := (Wl.blk_cell HZ3.out 1).trans rfl; have c3_2 := (Wl.blk_cell HZ3.out 2).trans rfl; have c3_3 := (Wl.blk_cell HZ3.out 3).trans rfl; have c3_4 := (Wl.blk_cell HZ3.out 4).trans rfl; have c3_5 := (Wl.blk_cell HZ3.out 5).trans rfl; have c3_6 := (Wl.blk_cell HZ3.out 6).trans rfl; have c3_7 := (Wl.blk_cell HZ3.out 7).trans rfl; have f3_0 := Wl.blk_frozen HZ3.out 0; have f3_1 := Wl.blk_frozen HZ3.out 1; have f3_2 := Wl.blk_frozen HZ3.out 2; have f3_3 := Wl.blk_frozen HZ3.out 3; have f3_4 := Wl.blk_frozen HZ3.out 4; have f3_5 := Wl.blk_frozen HZ3.out 5; have f3_6 := Wl.blk_frozen HZ3.out 6; have f3_7 := Wl.blk_frozen HZ3.out 7
                  go_wp2_with fail
                  refine (KF.out _ (hG.below (by (repeat (first | (with_reducible apply Wl.bl_alloc) | (with_reducible apply Wl.bl_drewN) | (with_reducible apply Wl.bl_drew) | (with_reducible refine Wl.bl_set ?_ (by simp; try omega)) | (with_reducible exact Below.refl _ _) | (with_reducible assumption) | (with_reducible refine Wl.bl_trans ?_ (by assumption))))))).mono ?_
                  rintro e w4 ⟨rfl, hb4⟩
                  have HR4 := Lib.hid (HR3.out.after hb4)
                  go_wp2_with fail
                  go_roundw
                  case rel => exact ⟨k + 1, by omega, by simp, by (repeat (first | (with_reducible apply Wl.bl_alloc) | (with_reducible apply Wl.bl_drewN) | (with_reducible apply Wl.bl_drew) | (with_reducible refine Wl.bl_set ?_ (by simp; try omega)) | (with_reducible exact Below.refl _ _) | (with_reducible assumption) | (with_reducible refine Wl.bl_trans ?_ (by assumption)))), m, a, HF.out, HR4.out⟩
                  case measure => simp [intOf]; omega
                case true.true => cases hST
      · have hkk : k = xs.length := by omega
        subst hkk
        have HF := Lib.hid hf
        have HZ := Lib.hid (hR.r); have c3_0 := (Wl.blk_cell HZ.out 0).trans rfl; have c3_1 := (Wl.blk_cell HZ.out 1).trans rfl; have c3_2 := (Wl.blk_cell HZ.out 2).trans rfl; have c3_3 := (Wl.blk_cell HZ.out 3).trans rfl; have c3_4 := (Wl.blk_cell HZ.out 4).trans rfl; have c3_5 := (Wl.blk_cell HZ.out 5).trans rfl; have c3_6 := (Wl.blk_cell HZ.out 6).trans rfl; have c3_7 := (Wl.blk_cell HZ.out 7).trans rfl; have f3_0 := Wl.blk_frozen HZ.out 0; have f3_1 := Wl.blk_frozen HZ.out 1; have f3_2 := Wl.blk_frozen HZ.out 2; have f3_3 := Wl.blk_frozen HZ.out 3; have f3_4 := Wl.blk_frozen HZ.out 4; have f3_5 := Wl.blk_frozen HZ.out 5; have f3_6 := Wl.blk_frozen HZ.out 6; have f3_7 := Wl.blk_frozen HZ.out 7
        have k1 := roll_fine m a (in_fine hf).1 (in_fine hf).2
        rw [hf] at k1
        clear hf hR
        go_wp2_with fail
        refine (k1 _ (hG.below (by (repeat (first | (with_reducible apply Wl.bl_alloc) | (with_reducible apply Wl.bl_drewN) | (with_reducible apply Wl.bl_drew) | (with_reducible refine Wl.bl_set ?_ (by simp; try omega)) | (with_reducible exact Below.refl _ _) | (with_reducible assumption) | (with_reducible refine Wl.bl_trans ?_ (by assumption))))))).mono ?_
        rintro e w1 ⟨rfl, hb1⟩
        go_wp2_with fail
        refine (alive_any _ (hG.below (by (repeat (first | (with_reducible apply Wl.bl_alloc) | (with_reducible apply Wl.bl_drewN) | (with_reducible apply Wl.bl_drew) | (with_reducible refine Wl.bl_set ?_ (by simp; try omega)) | (with_reducible exact Below.refl _ _) | (with_reducible assumption) | (with_reducible refine Wl.bl_trans ?_ (by assumption))))))).mono ?_
        rintro e w2 ⟨rfl, hb2⟩
        go_wp2_with fail
        exact bodyPost_ret (v := .bool true) (by simp [results, Tryd.results3, go_sem]) rfl ⟨rfl, by (repeat (first | (with_reducible apply Wl.bl_alloc) | (with_reducible apply Wl.bl_drewN) | (with_reducible apply Wl.bl_drew) | (with_reducible refine Wl.bl_set ?_ (by simp; try omega)) | (with_reducible exact Below.refl _ _) | (with_reducible assumption) | (with_reducible refine Wl.bl_trans ?_ (by assumption))))⟩
end Go.Proofs.YtdaionnpgcdkdaaDoor
