/- copy between slices of elements of any number of cells; rows of elements without slices inside. -/
import Derived.Test.YtdaionnpgcdkdaaDoorHg
import Derived.Laws.CopyOwn
set_option linter.unusedVariables false
set_option linter.unusedSimpArgs false
namespace Go.Proofs.YtdaionnpgcdkdaaDoor
open Go Go.RowKit Go.Proofs.YtdaionnpgcdkdaaDoorW.PrintWords
theorem run_copy_cells {P : Program} (w : World) (dT sT ty elem : TypeId) (size n g dLen dCap : Nat) (sp : Option Addr) (sLen sCap : Nat) (cur : Array Value) (t : TypeId) (cs : List Value)
    (hu : P.underlying dT = some (.slice elem)) (hs : (P.info? elem).map (·.size) = some size)
    (hg : w.heap[g]? = some (.cells cur t (0, 0))) (hn : Nat.min sLen dLen = n) (hcs : cs.length = n * size)
    (hsrc : 0 < n → ∃ a, sp = some a ∧ ∀ j v, cs[j]? = some v → w.cell? (a.add j) = some v) (hfit : cs.length ≤ cur.size) (h1 : ∀ v ∈ cs, v.oneCell' = true) :
    (Builtin.copy_ #[dT, sT] ty #[.slice (some ⟨g, 0, none⟩) dLen dCap, .slice sp sLen sCap]).run P w = .ok (goInt n) (w.setRow g (cur.toList.take 0 ++ cs ++ cur.toList.drop (0 + cs.length)).toArray) := by
  have hst := run_storeCells_at P g 0 t cs 0 cur w hg (by simpa using hfit) h1
  cases hq : P.info? elem with
  | none => simp [hq] at hs
  | some i =>
    have hi : i.size = size := by simpa [hq] using hs
    by_cases h0 : 0 < n
    · obtain ⟨a, rfl, hc⟩ := hsrc h0
      have hl := run_loadCells_list (P := P) w a cs hc
      rw [hcs] at hl
      simp [Builtin.copy_, run_underlying hu, Builtin.lenOf, Builtin.firstCells, sizeOf, typeInfo, hq, hi, hn, hl, hst]
    · obtain rfl : n = 0 := by omega
      have hcs' : cs = [] := List.length_eq_zero_iff.1 (by simpa using hcs)
      subst hcs'
      have hl : ∀ (x : Addr), (loadCells x 0).run P w = .ok #[] w := fun x => by simpa using run_loadCells_list (P := P) w x [] (by simp)
      have hst' : (storeCells ⟨g, 0, none⟩ []).run P w = .ok () (w.setRow g cur) := by simpa using hst
      cases sp <;> simp [Builtin.copy_, run_underlying hu, Builtin.lenOf, Builtin.firstCells, sizeOf, typeInfo, hq, hi, hn, hl, hst']
theorem wpList_copy_cells {P : Program} {w : World} {ops : Array Oper} {rest : List Oper} {o : Oper} {a : Act} {Q : Exit → Act → World → Prop} (hgd : o.guard = none) (d s : Operand) (dT sT : TypeId)
    (ho : o.op = .call { callee := .builtin .copy, args := #[d, s], argTypes := #[dT, sT] }) (elem : TypeId) (size n : Nat) (hu : P.underlying dT = some (.slice elem)) (hsz : (P.info? elem).map (·.size) = some size)
    (g dLen dCap : Nat) (sp : Option Addr) (sLen sCap : Nat) (hd : a.eval d = .slice (some ⟨g, 0, none⟩) dLen dCap) (hs : a.eval s = .slice sp sLen sCap)
    (cur : Array Value) (t : TypeId) (hg : w.heap[g]? = some (.cells cur t (0, 0))) (cs : List Value) (hn : Nat.min sLen dLen = n) (hcs : cs.length = n * size)
    (hsrc : 0 < n → ∃ a, sp = some a ∧ ∀ j v, cs[j]? = some v → w.cell? (a.add j) = some v) (hfit : cs.length ≤ cur.size) (h1 : ∀ v ∈ cs, v.oneCell' = true)
    (h : ∀ w', Hid (w'.heap[g]? = some (.cells (cs ++ cur.toList.drop cs.length).toArray t (0, 0))) → (∀ B w0, Below B w0 w → B ≤ g → Below B w0 w') → wpList P ops Q rest (a.put o.dst (goInt n)) w') : wpList P ops Q (o :: rest) a w := by
  refine wpList_plain hgd fun K hK => ?_
  have hrun := run_copy_cells (P := P) w dT sT o.type elem size n g dLen dCap sp sLen sCap cur t cs hu hsz hg hn hcs hsrc hfit h1
  unfold Oper.wp
  simp only [execOp, ho, resolve, invoke, builtin]
  simp [hd, hs, hrun, Result.andThen]
  refine hK _ _ (h _ (show _ = _ from ?_) (fun B w0 hb hB => below_setRow hb hB _))
  simpa using setRow_heap w g cur _ t _ hg
/-- A kind whose values are just their cells. -/
structure FlatKd {α : Type} (d : Kd α) (enc : α → List Value) : Prop where
  k : ∀ W x cs, d.K W x cs → cs = enc x
  m : ∀ W base ok x, d.M W base ok x (enc x)
  len : ∀ x, (enc x).length = d.sz
theorem flat_len {α : Type} {d : Kd α} {enc : α → List Value} (F : FlatKd d enc) (xs : List α) : (xs.flatMap enc).length = xs.length * d.sz := by
  induction xs with
  | nil => simp
  | cons x xs ih => rw [List.flatMap_cons, List.length_append, F.len, ih, List.length_cons, Nat.succ_mul, Nat.add_comm]
theorem flat_seg {α : Type} {d : Kd α} {enc : α → List Value} (F : FlatKd d enc) (xs : List α) : ∀ (j : Nat) (p : α), xs[j]? = some p → ((xs.flatMap enc).drop (j * d.sz)).take d.sz = enc p := by
  induction xs with
  | nil => intro j p h; simp at h
  | cons x xs ih =>
    intro j p h
    cases j with
    | zero =>
      obtain rfl : x = p := by simpa using h
      rw [List.flatMap_cons, Nat.zero_mul, List.drop_zero, List.take_append_of_le_length (by rw [F.len]; exact Nat.le_refl _), List.take_of_length_le (by rw [F.len]; exact Nat.le_refl _)]
    | succ j =>
      rw [List.flatMap_cons, Nat.succ_mul, Nat.add_comm, ← List.drop_drop, show d.sz = (enc x).length from (F.len x).symm, List.drop_left, F.len]
      exact ih j p (by simpa using h)
theorem R_of_flat {α : Type} {d : Kd α} {enc : α → List Value} (F : FlatKd d enc) {W : World} {base : Nat} {e : TypeId} {v : Value} {xs : List α} (h : W.ownsRow base e d.sz v xs.length (xs.flatMap enc)) : Kd.R d e W base (fun _ => True) v xs :=
  ⟨fun _ _ => trivial, _, h, flat_len F xs, fun j p hj => by rw [flat_seg F xs j p hj]; exact F.m _ _ _ _⟩
theorem flat_cell {α : Type} {d : Kd α} {enc : α → List Value} (F : FlatKd d enc) (hz : 0 < d.sz) {W : World} {A : Option Addr} {xs : List α} (h : d.C W A xs.length xs) (h0 : 0 < xs.length) :
    ∃ a, A = some a ∧ ∀ j v, (xs.flatMap enc)[j]? = some v → W.cell? (a.add j) = some v := by
  obtain ⟨a, e0, hc2⟩ := h.2.2 h0
  refine ⟨a, e0, fun j v hj => ?_⟩
  have hl := (List.getElem?_eq_some_iff.1 hj).1
  rw [flat_len F] at hl
  have hq : j / d.sz < xs.length := Nat.div_lt_of_lt_mul (by rwa [Nat.mul_comm] at hl)
  obtain ⟨c, hcl, hK, hcell⟩ := hc2 (j / d.sz) _ (List.getElem?_eq_getElem hq)
  obtain rfl := F.k _ _ _ hK
  have hseg := flat_seg F xs (j / d.sz) _ (List.getElem?_eq_getElem hq)
  have hm : j % d.sz < d.sz := Nat.mod_lt _ hz
  have e : j = j / d.sz * d.sz + j % d.sz := by rw [Nat.mul_comm]; exact (Nat.div_add_mod j d.sz).symm
  have := hcell (j % d.sz) v (by
    rw [← hseg, List.getElem?_take, if_pos hm, List.getElem?_drop, ← e]
    exact hj)
  rwa [← e] at this
/-- Cells laid one behind the other from a place on. -/
def putAll (a : Array Value) (o : Nat) : List Value → Array Value
  | [] => a
  | v :: c => putAll (a.setIfInBounds o v) (o + 1) c
theorem putAll_list : ∀ (c : List Value) (a : Array Value) (o : Nat), o + c.length ≤ a.size → (putAll a o c).toList = a.toList.take o ++ c ++ a.toList.drop (o + c.length)
  | [], a, o, _ => by simp [putAll]
  | v :: c, a, o, h => by
    have h' : o + (c.length + 1) ≤ a.size := by simpa using h
    have e := list_seg_step a.toList o v c (by simpa using h')
    rw [putAll, putAll_list c (a.setIfInBounds o v) (o + 1) (by simp; omega), Array.toList_setIfInBounds, List.length_cons]
    exact e
theorem flat_set {α : Type} {d : Kd α} {enc : α → List Value} (F : FlatKd d enc) (x' : α) : ∀ (xs : List α) (i : Nat), i < xs.length → ∀ rest : List Value,
    (xs.flatMap enc ++ rest).take (i * d.sz) ++ enc x' ++ (xs.flatMap enc ++ rest).drop (i * d.sz + (enc x').length) = (xs.set i x').flatMap enc ++ rest := by
  intro xs
  induction xs with
  | nil => intro i h; simp at h
  | cons x xs ih =>
    intro i h rest
    cases i with
    | zero =>
      rw [Nat.zero_mul, List.take_zero, Nat.zero_add, List.nil_append, List.set_cons_zero, List.flatMap_cons, List.flatMap_cons, F.len, show d.sz = (enc x).length from (F.len x).symm, List.append_assoc, List.drop_left, List.append_assoc]
    | succ i =>
      have hx := F.len x
      have e1 : (i + 1) * d.sz = (enc x).length + i * d.sz := by rw [hx, Nat.succ_mul, Nat.add_comm]
      have hi := ih i (by simpa using h) rest
      rw [List.append_assoc] at hi
      rw [List.flatMap_cons, List.set_cons_succ, List.flatMap_cons, e1, Nat.add_assoc]
      simp only [List.append_assoc, List.take_length_add_append, List.drop_length_add_append]
      rw [hi]
/-- Cells stored one behind the other. -/
def setAll (W : World) (g o : Nat) : List Value → World
  | [] => W
  | v :: c => setAll (W.setCell ⟨g, o, none⟩ v) g (o + 1) c
theorem setAll_blk : ∀ (c : List Value) (W : World) (g o : Nat) (a : Array Value) (t : TypeId), W.heap[g]? = some (.cells a t (0, 0)) → (setAll W g o c).heap[g]? = some (.cells (putAll a o c) t (0, 0))
  | [], _, _, _, _, _, h => h
  | v :: c, W, g, o, a, t, h => setAll_blk c _ g (o + 1) _ t (blk_put h o v rfl)
theorem setAll_full (c : List Value) {W : World} {g : Nat} {a : Array Value} {t : TypeId} (h : W.heap[g]? = some (.cells a t (0, 0))) (hl : a.size = c.length) : (setAll W g 0 c).heap[g]? = some (.cells c.toArray t (0, 0)) := by
  rw [setAll_blk c W g 0 a t h]
  have e := putAll_list c a 0 (by omega)
  rw [List.take_zero, List.nil_append, Nat.zero_add, ← hl, ← Array.length_toList, List.drop_length, List.append_nil] at e
  exact congrArg (fun x => some (Obj.cells x t (0, 0))) (Array.ext' e)
theorem bl_chain {w W W' : World} {b : Nat} (h : Below w.heap.size w W) (hb : w.heap.size ≤ b) (k : Below b W W') : Below w.heap.size w W' :=
  h.trans ⟨k.os, k.tape, k.output, k.size, fun i hi => k.block i (Nat.lt_of_lt_of_le hi hb)⟩
theorem setAll_other {g k : Nat} (hk : k ≠ g) : ∀ (c : List Value) (W : World) (o : Nat), (setAll W g o c).heap[k]? = W.heap[k]?
  | [], _, _ => rfl
  | _ :: c, W, o => (setAll_other hk c _ (o + 1)).trans (Below.heap_setCell W ⟨g, o, none⟩ _ k hk)
theorem setAll_below {B : Nat} {w0 : World} {g : Nat} (hg : B ≤ g) : ∀ (c : List Value) (W : World) (o : Nat), Below B w0 W → Below B w0 (setAll W g o c)
  | [], _, _, h => h
  | _ :: c, _, o, h => setAll_below hg c _ (o + 1) (h.setCell hg _)
theorem flat_get {α : Type} {d : Kd α} {enc : α → List Value} (F : FlatKd d enc) (done ts : List α) (t : α) (rest : List Value) (j : Nat) (hj : j < d.sz) : ((done ++ t :: ts).flatMap enc ++ rest)[done.length * d.sz + j]? = (enc t)[j]? := by
  have h1 := flat_len F done
  have h2 : (enc t).length = d.sz := F.len t
  rw [List.flatMap_append, List.flatMap_cons, List.append_assoc, List.getElem?_append_right (by omega), h1, Nat.add_sub_cancel_left, List.append_assoc, List.getElem?_append_left (by omega)]
theorem flat_store {α : Type} {d : Kd α} {enc : α → List Value} (F : FlatKd d enc) (xs : List α) (i : Nat) (hi : i < xs.length) (x' : α) (rest : List Value) {W : World} {g : Nat} {t : TypeId}
    (h : W.heap[g]? = some (.cells (xs.flatMap enc ++ rest).toArray t (0, 0))) : (setAll W g (i * d.sz) (enc x')).heap[g]? = some (.cells ((xs.set i x').flatMap enc ++ rest).toArray t (0, 0)) := by
  have h1 := setAll_blk (enc x') W g (i * d.sz) _ t h
  have hf := flat_len F xs
  have hx := F.len x'
  have hle : i * d.sz + d.sz ≤ xs.length * d.sz := by rw [← Nat.succ_mul]; exact Nat.mul_le_mul_right _ hi
  have e := putAll_list (enc x') (xs.flatMap enc ++ rest).toArray (i * d.sz) (by simp only [List.size_toArray, List.length_append]; omega)
  rw [flat_set F x' xs i hi rest] at e
  rw [h1]
  congr 2
  have := congrArg List.toArray e
  simpa using this
end Go.Proofs.YtdaionnpgcdkdaaDoor
