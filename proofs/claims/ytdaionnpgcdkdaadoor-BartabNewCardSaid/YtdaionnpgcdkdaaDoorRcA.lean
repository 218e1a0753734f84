/- Plain facts for becketlaw21.RollCounts: the roll's acts on sets below 2^16, bit by bit. -/
import Derived.Test.YtdaionnpgcdkdaaDoorRollE
set_option linter.unusedVariables false
set_option linter.unusedSimpArgs false
namespace Go.Proofs.YtdaionnpgcdkdaaDoor
open Go.RowKit
open Sets (hasS addS dropS lessS subS isId)
theorem in_lit {x : Nat} (h : x < 2 ^ 256) : Sets.In x := h
namespace Rc
theorem sub_iff (a b : Nat) : subS a b = true ↔ ∀ i, a.testBit i = true → b.testBit i = true := by
  unfold subS lessS
  rw [decide_eq_true_iff]
  constructor
  · intro h i hi
    have := congrArg (fun x => x.testBit i) h
    simp [hi] at this
    exact this
  · intro h
    apply Nat.eq_of_testBit_eq
    intro i
    have := h i
    simp
    cases ha : a.testBit i <;> simp_all
theorem every_bit (i : Nat) : (65535 : Nat).testBit i = decide (i < 16) := Nat.testBit_two_pow_sub_one 16 i
theorem fine_iff (m a : Nat) : fineR m a = true ↔ (∀ i, m.testBit i = true → i < 16) ∧ (∀ i, a.testBit i = true → m.testBit i = true) := by
  unfold fineR
  rw [Bool.and_eq_true, sub_iff, sub_iff]
  simp only [every_bit, decide_eq_true_iff]
theorem in_fine {m a : Nat} (h : fineR m a = true) : Sets.In m ∧ Sets.In a := by
  rw [fine_iff] at h
  refine ⟨in_lit (Nat.lt_pow_two_of_testBit _ fun i hi => ?_), in_lit (Nat.lt_pow_two_of_testBit _ fun i hi => ?_)⟩
  · cases hb : m.testBit i with
    | false => rfl
    | true => have := h.1 i hb; omega
  · cases hb : a.testBit i with
    | false => rfl
    | true => have := h.1 i (h.2 i hb); omega
theorem id_nat (p : Nat) (hp : p < 16) : isId (p : Int) = true := by rw [Sets.isId_iff]; omega
theorem has_nat (m p : Nat) (hp : p < 16) : hasS m (p : Int) = m.testBit p := by
  simp [hasS, id_nat p hp]
theorem asked0 {m a : Nat} (h : fineR m a = true) (p : Nat) (hp : p < 16) : askedR m a (p : Int) = 0 := by
  unfold askedR
  rw [h, has_nat _ p hp, every_bit]
  simp [hp]
theorem add_bit (m p i : Nat) (hp : p < 16) : (addS m (p : Int)).testBit i = (m.testBit i || decide (i = p)) := by
  unfold addS
  rw [if_pos (id_nat p hp)]
  simp [Nat.testBit_two_pow, eq_comm]
theorem drop_bit (m p i : Nat) (hp : p < 16) : (dropS m (p : Int)).testBit i = (m.testBit i && !decide (i = p)) := by
  unfold dropS
  rw [if_pos (id_nat p hp)]
  simp [Nat.testBit_two_pow]
  cases m.testBit i <;> simp [eq_comm]
theorem enrol_t {m a : Nat} (h : fineR m a = true) {p : Nat} (hp : p < 16) (hb : m.testBit p = true) : enrolR m a (p : Int) = (m, a, 7) := by
  simp [enrolR, asked0 h p hp, has_nat _ p hp, hb]
theorem enrol_f {m a : Nat} (h : fineR m a = true) {p : Nat} (hp : p < 16) (hb : m.testBit p = false) : enrolR m a (p : Int) = (addS m p, a, 0) := by
  simp [enrolR, asked0 h p hp, has_nat _ p hp, hb]
theorem resign_t {m a : Nat} (h : fineR m a = true) {p : Nat} (hp : p < 16) (hb : m.testBit p = true) : resignR m a (p : Int) = (dropS m p, dropS a p, 0) := by
  simp [resignR, asked0 h p hp, has_nat _ p hp, hb]
theorem resign_f {m a : Nat} (h : fineR m a = true) {p : Nat} (hp : p < 16) (hb : m.testBit p = false) : resignR m a (p : Int) = (m, a, 6) := by
  simp [resignR, asked0 h p hp, has_nat _ p hp, hb]
theorem offer_tt {m a : Nat} (h : fineR m a = true) {p : Nat} (hp : p < 16) (hb : m.testBit p = true) (ha : a.testBit p = true) : offerR m a (p : Int) = (m, a, 7) := by
  simp [offerR, asked0 h p hp, has_nat _ p hp, hb, ha]
theorem offer_tf {m a : Nat} (h : fineR m a = true) {p : Nat} (hp : p < 16) (hb : m.testBit p = true) (ha : a.testBit p = false) : offerR m a (p : Int) = (m, addS a p, 0) := by
  simp [offerR, asked0 h p hp, has_nat _ p hp, hb, ha]
theorem offer_f {m a : Nat} (h : fineR m a = true) {p : Nat} (hp : p < 16) (hb : m.testBit p = false) : offerR m a (p : Int) = (m, a, 6) := by
  simp [offerR, asked0 h p hp, has_nat _ p hp, hb]
theorem withdraw_t {m a : Nat} (h : fineR m a = true) {p : Nat} (hp : p < 16) (ha : a.testBit p = true) : withdrawR m a (p : Int) = (m, dropS a p, true) := by
  simp [withdrawR, h, has_nat _ p hp, ha]
theorem withdraw_f {m a : Nat} (h : fineR m a = true) {p : Nat} (hp : p < 16) (ha : a.testBit p = false) : withdrawR m a (p : Int) = (m, a, false) := by
  simp [withdrawR, h, has_nat _ p hp, ha]
theorem fine_add {m a p : Nat} (h : fineR m a = true) (hp : p < 16) : fineR (addS m p) a = true := by
  rw [fine_iff] at h ⊢
  refine ⟨fun i hi => ?_, fun i hi => ?_⟩
  · rw [add_bit m p i hp] at hi
    simp at hi
    rcases hi with hi | hi
    · exact h.1 i hi
    · omega
  · rw [add_bit m p i hp, h.2 i hi]; rfl
theorem fine_resign {m a p : Nat} (h : fineR m a = true) (hp : p < 16) : fineR (dropS m p) (dropS a p) = true := by
  rw [fine_iff] at h ⊢
  refine ⟨fun i hi => ?_, fun i hi => ?_⟩
  · rw [drop_bit m p i hp] at hi
    simp at hi
    exact h.1 i hi.1
  · rw [drop_bit a p i hp] at hi
    simp at hi
    rw [drop_bit m p i hp, h.2 i hi.1]
    simp [hi.2]
theorem fine_offer {m a p : Nat} (h : fineR m a = true) (hp : p < 16) (hb : m.testBit p = true) : fineR m (addS a p) = true := by
  rw [fine_iff] at h ⊢
  refine ⟨h.1, fun i hi => ?_⟩
  rw [add_bit a p i hp] at hi
  simp at hi
  rcases hi with hi | rfl
  · exact h.2 i hi
  · exact hb
theorem fine_withdraw {m a p : Nat} (h : fineR m a = true) (hp : p < 16) : fineR m (dropS a p) = true := by
  rw [fine_iff] at h ⊢
  refine ⟨h.1, fun i hi => ?_⟩
  rw [drop_bit a p i hp] at hi
  simp at hi
  exact h.2 i hi.1
theorem fine_zero {m a : Nat} (h : fineR m a = true) : fineR m 0 = true := by
  rw [fine_iff] at h ⊢
  exact ⟨h.1, fun i hi => by simp at hi⟩
theorem at_of_in {m a : Nat} (h : fineR m a = true) (p : Nat) (hb : m.testBit p = false) : a.testBit p = false := by
  rw [fine_iff] at h
  cases ha : a.testBit p with
  | false => rfl
  | true => rw [h.2 p ha] at hb; cases hb
/-- The sixteen lowest bits, as Booleans. -/
def bools (s : Nat) : Array Value := (Array.range 16).map fun i => .bool (s.testBit i)
theorem bools_at (s i : Nat) (h : i < 16) : (bools s)[i]? = some (.bool (s.testBit i)) := by
  simp [bools, h]
theorem bools_ext {s : Nat} {A : Array Value} (hs : A.size = 16) (h : ∀ i, i < 16 → A[i]? = some (.bool (s.testBit i))) : A = bools s := by
  apply Array.ext_getElem?
  intro i
  by_cases hi : i < 16
  · rw [h i hi, bools_at s i hi]
  · rw [Array.getElem?_eq_none (by omega), Array.getElem?_eq_none (by simp [bools]; omega)]
theorem bools_set (s s' p : Nat) (b : Bool) (h : ∀ i, i < 16 → s'.testBit i = if i = p then b else s.testBit i) : (bools s).setIfInBounds p (.bool b) = bools s' := by
  apply bools_ext
  · simp [bools]
  intro i hi
  rw [h i hi, Array.getElem?_setIfInBounds]
  by_cases e : p = i
  · subst e; simp [bools, hi]
  · rw [if_neg e, if_neg (fun x => e x.symm), bools_at s i hi]
theorem set_blk {W : World} {g p : Nat} {cs cs' : Array Value} {t : TypeId} {z : Nat × Nat} {v : Value} (h : W.heap[g]? = some (.cells cs t z)) (e : cs.setIfInBounds p v = cs') : (W.setCell ⟨g, p, none⟩ v).heap[g]? = some (.cells cs' t z) := by
  subst e
  show (W.heap.modify g _)[g]? = _
  rw [Array.getElem?_modify, if_pos rfl, h]
  rfl
end Rc
end Go.Proofs.YtdaionnpgcdkdaaDoor
