/- The lowest bit of a word; the next number of a set. Plain facts, no program. -/
import Derived.Lib.TrailingZeros
import Derived.Laws.Bits64b
import Derived.Test.YtdaionnpgcdkdaaDoorSet
set_option linter.unusedVariables false
namespace Go.Proofs.YtdaionnpgcdkdaaDoor.Ctz
open Go.Lib (ctz)

theorem key (x a : Nat) (hx : x < 18446744073709551616) (hx0 : x ≠ 0) (hlow : x &&& (18446744073709551616 - x) = a) :
    IntKind.u64.wrap (bits BinOp.and IntKind.u64 (x : Int) (IntKind.u64.wrap (-(x : Int))) * 285870213051353865) / 288230376151711744 = ((a * 285870213051353865 % 18446744073709551616 / 288230376151711744 : Nat) : Int) := by
  have e1 : IntKind.u64.wrap (-(x : Int)) = ((18446744073709551616 - x : Nat) : Int) := by rw [IntKind.wrap_u64]; omega
  rw [e1, bits_and_u64_nat x _ hx (by omega), hlow, IntKind.wrap_u64]
  omega
/-- The index into the table. -/
def idx (x : Nat) : Nat := 2 ^ ctz 64 x * 285870213051353865 % 18446744073709551616 / 288230376151711744
theorem idx_key (x : Nat) (hx : x < 18446744073709551616) (hx0 : x ≠ 0) :
    IntKind.u64.wrap (bits BinOp.and IntKind.u64 (x : Int) (IntKind.u64.wrap (-(x : Int))) * 285870213051353865) / 288230376151711744 = (idx x : Int) := by
  obtain ⟨hlow, hk⟩ := Lib.lowest_bit 64 x hx0 hx
  exact key x _ hx hx0 hlow
theorem idx_lt (x : Nat) (hx : x < 18446744073709551616) (hx0 : x ≠ 0) : idx x < 64 := by
  obtain ⟨hlow, hk⟩ := Lib.lowest_bit 64 x hx0 hx
  exact (Lib.deBruijn64_at _ hk).1
theorem idx_tab (x : Nat) (hx : x < 18446744073709551616) (hx0 : x ≠ 0) : Lib.deBruijn64tab.getD (idx x) 0 = ctz 64 x := by
  obtain ⟨hlow, hk⟩ := Lib.lowest_bit 64 x hx0 hx
  exact (Lib.deBruijn64_at _ hk).2
/-- The lowest bit of a word that is set. -/
theorem ctz_spec (x : Nat) (hx : x < 18446744073709551616) (hx0 : x ≠ 0) : ctz 64 x < 64 ∧ x.testBit (ctz 64 x) = true ∧ ∀ i, i < ctz 64 x → x.testBit i = false := by
  obtain ⟨m, hm, hk⟩ := Lib.ctzFrom_spec 64 x (by omega) hx
  have e : ctz 64 x = Lib.ctzFrom 64 x := by simp [ctz, hx0]
  rw [e]
  generalize Lib.ctzFrom 64 x = c at *
  subst hm
  refine ⟨hk, ?_, fun i hi => ?_⟩
  · rw [Nat.mul_comm, Nat.testBit_mul_two_pow]
    simp [Nat.testBit_zero]
  · rw [Nat.mul_comm, Nat.testBit_mul_two_pow]
    simp [Nat.not_le.2 hi]

/-- The word at which the search looks: from bit r on. -/
def mword (s k r : Nat) : Nat := (Sets.wd s k).toNat / 2 ^ r * 2 ^ r
theorem mword_lt (s k r : Nat) : mword s k r < 18446744073709551616 := by
  have h1 := Sets.wd_hi s k
  have h0 := Sets.wd_lo s k
  have : mword s k r ≤ (Sets.wd s k).toNat := Nat.div_mul_le_self _ _
  omega
theorem mword_zero (s k : Nat) : mword s k 0 = (Sets.wd s k).toNat := by simp [mword]
theorem mword_bit (s k r i : Nat) (hi : i < 64) : (mword s k r).testBit i = (decide (r ≤ i) && s.testBit (64 * k + i)) := by
  unfold mword
  rw [Nat.testBit_mul_two_pow]
  by_cases h : r ≤ i
  · rw [Nat.testBit_div_two_pow, show i - r + r = i by omega, Sets.wd_bit]
    simp [hi]
  · simp [h]
theorem mword_hi (s k r : Nat) (h : mword s k r ≠ 0) : ∃ i, i < 64 ∧ r ≤ i ∧ s.testBit (64 * k + i) = true := by
  obtain ⟨h1, h2, _⟩ := ctz_spec _ (mword_lt s k r) h
  rw [mword_bit s k r _ h1] at h2
  simp at h2
  exact ⟨_, h1, h2.1, h2.2⟩
/-- m is the next number of the set from n on. -/
structure Next (s n m : Nat) : Prop where
  lt : m < 256
  le : n ≤ m
  has : s.testBit m = true
  least : ∀ i, n ≤ i → i < m → s.testBit i = false
/-- There is none from n on. -/
def None (s n : Nat) : Prop := ∀ i, n ≤ i → i < 256 → s.testBit i = false
/-- Nothing from n on, below word k. -/
def Upto (s n k : Nat) : Prop := ∀ i, n ≤ i → i < 64 * k → s.testBit i = false
theorem upto_start (s n : Nat) : Upto s n (n / 64) := fun i h1 h2 => by omega
/-- The bit from which the search looks at word k. -/
def low (n k : Nat) : Nat := if k = n / 64 then n % 64 else 0
theorem upto_next (s n k : Nat) (hk : n / 64 ≤ k) (h : Upto s n k) (hz : mword s k (low n k) = 0) : Upto s n (k + 1) := fun i h1 h2 => by
  by_cases hi : i < 64 * k
  · exact h i h1 hi
  · have e : i = 64 * k + (i - 64 * k) := by omega
    have hb := mword_bit s k (low n k) (i - 64 * k) (by omega)
    rw [hz, ← e] at hb
    have hl : low n k ≤ i - 64 * k := by
      unfold low
      split <;> omega
    simpa [hl] using hb
theorem next_here (s n k : Nat) (hk : n / 64 ≤ k) (hk4 : k < 4) (h : Upto s n k) (hz : mword s k (low n k) ≠ 0) : Next s n (64 * k + ctz 64 (mword s k (low n k))) := by
  obtain ⟨h1, h2, h3⟩ := ctz_spec _ (mword_lt s k (low n k)) hz
  generalize ctz 64 (mword s k (low n k)) = c at *
  rw [mword_bit s k _ _ h1] at h2
  simp at h2
  have hl : n ≤ 64 * k + low n k := by
    unfold low
    split <;> omega
  refine ⟨by omega, by omega, h2.2, fun i hn hi => ?_⟩
  by_cases hlt : i < 64 * k
  · exact h i hn hlt
  · have e : i = 64 * k + (i - 64 * k) := by omega
    have hb := h3 (i - 64 * k) (by omega)
    rw [mword_bit s k _ _ (by omega), ← e] at hb
    have hl' : low n k ≤ i - 64 * k := by
      unfold low
      split <;> omega
    simpa [hl'] using hb
theorem none_all (s n : Nat) (h : Upto s n 4) : None s n := fun i h1 h2 => h i h1 (by omega)
theorem none_far (s n : Nat) (h : 256 ≤ n) : None s n := fun i h1 h2 => by omega
/-- The numbers of a set from n on. -/
def from_ (s n : Nat) : List Nat := (Sets.els s).filter (fun i => decide (n ≤ i))
theorem from_zero (s : Nat) : from_ s 0 = Sets.els s := by simp [from_]
theorem split_range (m : Nat) (hm : m < 256) : List.range 256 = List.range m ++ m :: (List.range (255 - m)).map (m + 1 + ·) := by
  rw [show (256 : Nat) = m + ((255 - m) + 1) by omega, List.range_add, List.range_succ_eq_map, List.map_cons, List.map_map]
  rw [Nat.add_zero]
  congr 2
  apply List.map_congr_left
  intro i _
  simp; omega
theorem from_next (s n m : Nat) (h : Next s n m) : from_ s n = m :: from_ s (m + 1) := by
  unfold from_ Sets.els
  rw [List.filter_filter, List.filter_filter, split_range m h.lt, List.filter_append, List.filter_append, List.filter_cons, List.filter_cons]
  have e1 : (List.range m).filter (fun a => decide (n ≤ a) && s.testBit a) = [] := by
    rw [List.filter_eq_nil_iff]
    intro a ha
    have := List.mem_range.1 ha
    by_cases hn : n ≤ a
    · simp [h.least a hn this]
    · simp [hn]
  have e2 : (List.range m).filter (fun a => decide (m + 1 ≤ a) && s.testBit a) = [] := by
    rw [List.filter_eq_nil_iff]
    intro a ha
    have := List.mem_range.1 ha
    have : ¬ m + 1 ≤ a := by omega
    simp [this]
  rw [e1, e2]
  have e3 : (decide (n ≤ m) && s.testBit m) = true := by simp [h.le, h.has]
  have e4 : ¬ ((decide (m + 1 ≤ m) && s.testBit m) = true) := by simp; omega
  rw [if_pos e3, if_neg e4]
  simp only [List.nil_append]
  congr 1
  apply List.filter_congr
  intro a ha
  obtain ⟨i, _, rfl⟩ := List.mem_map.1 ha
  have hle := h.le
  have t1 : n ≤ m + 1 + i := by omega
  have t2 : m + 1 ≤ m + 1 + i := by omega
  simp [t1, t2]
theorem from_none (s n : Nat) (h : None s n) : from_ s n = [] := by
  unfold from_ Sets.els
  rw [List.filter_filter, List.filter_eq_nil_iff]
  intro a ha
  have := List.mem_range.1 ha
  by_cases hn : n ≤ a
  · simp [h a hn this]
  · simp [hn]
end Go.Proofs.YtdaionnpgcdkdaaDoor.Ctz
