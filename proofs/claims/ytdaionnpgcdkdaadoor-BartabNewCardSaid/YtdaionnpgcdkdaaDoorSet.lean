/- Sets of numbers from 0 to 255 as one natural number, bit by bit; their four words. Plain facts, no program. -/
import Derived.Laws.BitsAllLaws
namespace Go.Proofs.YtdaionnpgcdkdaaDoor.Sets

/-- Is the number an id? -/
def isId (n : Int) : Bool := decide (0 ≤ n) && decide (n ≤ 255)
theorem isId_iff (n : Int) : isId n = true ↔ 0 ≤ n ∧ n ≤ 255 := by simp [isId]
/-- Word k of a set. -/
def wd (s k : Nat) : Int := ((s / 2 ^ (64 * k) % 2 ^ 64 : Nat) : Int)
theorem wd_lo (s k : Nat) : 0 ≤ wd s k := Int.natCast_nonneg _
theorem wd_hi (s k : Nat) : wd s k < 18446744073709551616 := by
  have : s / 2 ^ (64 * k) % 2 ^ 64 < 2 ^ 64 := Nat.mod_lt _ (by decide)
  unfold wd
  omega
theorem wd_bit (s k i : Nat) : (wd s k).toNat.testBit i = (decide (i < 64) && s.testBit (64 * k + i)) := by
  unfold wd
  rw [Int.toNat_natCast, Nat.testBit_mod_two_pow, Nat.testBit_div_two_pow, Nat.add_comm i]
theorem wd_ext (s k : Nat) (x : Nat) (h : ∀ i, i < 64 → x.testBit i = s.testBit (64 * k + i)) (hx : x < 2 ^ 64) : wd s k = (x : Int) := by
  unfold wd
  congr 1
  apply Nat.eq_of_testBit_eq
  intro i
  rw [Nat.testBit_mod_two_pow, Nat.testBit_div_two_pow, Nat.add_comm i]
  by_cases hi : i < 64
  · simp [hi, h i hi]
  · simp only [hi, decide_false, Bool.false_and]
    exact (Nat.testBit_lt_two_pow (Nat.lt_of_lt_of_le hx (Nat.pow_le_pow_right (by decide) (by omega)))).symm

/-- A set has the number. -/
def hasS (s : Nat) (n : Int) : Bool := isId n && s.testBit n.toNat
def addS (s : Nat) (n : Int) : Nat := if isId n then s ||| 2 ^ n.toNat else s
def dropS (s : Nat) (n : Int) : Nat := if isId n then s ^^^ (s &&& 2 ^ n.toNat) else s
def lessS (a b : Nat) : Nat := a ^^^ (a &&& b)
def subS (a b : Nat) : Bool := decide (lessS a b = 0)

/-- A set's numbers, rising. -/
def els (s : Nat) : List Nat := (List.range 256).filter s.testBit
theorem bit_lt (x i : Nat) (hx : x < 2 ^ 64) (hi : ¬ i < 64) : x.testBit i = false :=
  Nat.testBit_lt_two_pow (Nat.lt_of_lt_of_le hx (Nat.pow_le_pow_right (by decide) (by omega)))

theorem has_word (s q j : Nat) (hj : j < 64) : (Go.bits .and .u64 (wd s q / 2 ^ j) 1 == 1) = s.testBit (64 * q + j) := by
  have e : wd s q / 2 ^ j = (((wd s q).toNat / 2 ^ j : Nat) : Int) := by
    have := wd_lo s q
    rw [Int.natCast_ediv, Int.toNat_of_nonneg this]; simp
  have hlt : (wd s q).toNat / 2 ^ j < 18446744073709551616 := Nat.lt_of_le_of_lt (Nat.div_le_self _ _) (by have := wd_hi s q; have := wd_lo s q; omega)
  have hb : ((wd s q).toNat / 2 ^ j) % 2 = (s.testBit (64 * q + j)).toNat := by
    have h := wd_bit s q j
    rw [decide_eq_true hj, Bool.true_and] at h
    rw [← h, Nat.testBit_eq_decide_div_mod_eq]
    rcases Nat.mod_two_eq_zero_or_one ((wd s q).toNat / 2 ^ j) with h | h <;> simp [h]
  rw [e]
  have h1 := u64_and_nat ((wd s q).toNat / 2 ^ j) 1 hlt (by decide)
  have h1' : Go.bits .and .u64 (((wd s q).toNat / 2 ^ j : Nat) : Int) 1 = (((wd s q).toNat / 2 ^ j &&& 1 : Nat) : Int) := h1
  rw [h1', nat_mask1, hb]
  cases s.testBit (64 * q + j) <;> rfl

theorem two_pow_lt (j : Nat) (hj : j < 64) : (2 : Nat) ^ j < 18446744073709551616 := by
  have : (2 : Nat) ^ j < 2 ^ 64 := Nat.pow_lt_pow_right (by decide) hj
  simpa using this
theorem wrap_pow (j : Nat) (hj : j < 64) : IntKind.u64.wrap (2 ^ j) = ((2 ^ j : Nat) : Int) := by
  have e : (2 : Int) ^ j = ((2 ^ j : Nat) : Int) := by simp
  rw [e]
  have := two_pow_lt j hj
  simp only [IntKind.wrap, IntKind.bits, IntKind.signed]
  simp only [Bool.false_and]
  rw [if_neg (by simp)]
  have h2 : ((2 : Int) ^ 64) = 18446744073709551616 := by decide
  rw [h2]
  generalize 2 ^ j = x at *
  omega

theorem wd_nat (s k : Nat) : ∃ x : Nat, wd s k = (x : Int) ∧ x < 2 ^ 64 ∧ ∀ i, i < 64 → x.testBit i = s.testBit (64 * k + i) := by
  refine ⟨(wd s k).toNat, ?_, ?_, fun i hi => ?_⟩
  · exact (Int.toNat_of_nonneg (wd_lo s k)).symm
  · have := wd_hi s k; have := wd_lo s k; omega
  · rw [wd_bit]; simp [hi]

theorem add_word (s q j : Nat) (hj : j < 64) : Go.bits .or .u64 (wd s q) (IntKind.u64.wrap (2 ^ j)) = wd (s ||| 2 ^ (64 * q + j)) q := by
  obtain ⟨x, e, hx, hb⟩ := wd_nat s q
  rw [e, wrap_pow j hj, u64_or_nat x (2 ^ j) (by simpa using hx) (two_pow_lt j hj)]
  refine (wd_ext _ _ _ (fun i hi => ?_) (Nat.or_lt_two_pow hx (by simpa using two_pow_lt j hj))).symm
  rw [Nat.testBit_or, Nat.testBit_or, hb i hi, Nat.testBit_two_pow, Nat.testBit_two_pow]
  congr 1
  simp
theorem other_word (s t k : Nat) (h : ∀ i, i < 64 → t.testBit (64 * k + i) = s.testBit (64 * k + i)) : wd t k = wd s k := by
  obtain ⟨x, e, hx, hb⟩ := wd_nat s k
  rw [e]
  exact wd_ext _ _ _ (fun i hi => by rw [hb i hi, h i hi]) hx
theorem add_other (s q j k : Nat) (hj : j < 64) (hk : k ≠ q) : wd (s ||| 2 ^ (64 * q + j)) k = wd s k :=
  other_word _ _ _ fun i hi => by
    rw [Nat.testBit_or, Nat.testBit_two_pow]
    rw [decide_eq_false (by omega), Bool.or_false]
theorem drop_bits (s m i : Nat) : (s ^^^ (s &&& 2 ^ m)).testBit i = (s.testBit i && !decide (m = i)) := by
  rw [Nat.testBit_xor, Nat.testBit_and, Nat.testBit_two_pow]
  cases s.testBit i <;> simp
theorem andNot_bits (x y i : Nat) (hy : y < 2 ^ 64) (hi : i < 64) : (x &&& (18446744073709551615 - y)).testBit i = (x.testBit i && !y.testBit i) := by
  rw [Nat.testBit_and]
  congr 1
  have := Nat.testBit_two_pow_sub_succ hy i
  rw [show (2 ^ 64 - (y + 1)) = 18446744073709551615 - y by omega] at this
  rw [this]; simp [hi]
theorem andNot_lt (x y : Nat) (hx : x < 2 ^ 64) : (x &&& (18446744073709551615 - y)) < 2 ^ 64 := Nat.lt_of_le_of_lt Nat.and_le_left hx
theorem drop_word (s q j : Nat) (hj : j < 64) : Go.bits .andNot .u64 (wd s q) (IntKind.u64.wrap (2 ^ j)) = wd (s ^^^ (s &&& 2 ^ (64 * q + j))) q := by
  obtain ⟨x, e, hx, hb⟩ := wd_nat s q
  rw [e, wrap_pow j hj, u64_andNot_nat x (2 ^ j) (by simpa using hx) (two_pow_lt j hj)]
  refine (wd_ext _ _ _ (fun i hi => ?_) (andNot_lt _ _ hx)).symm
  rw [andNot_bits _ _ _ (by simpa using two_pow_lt j hj) hi, drop_bits, hb i hi, Nat.testBit_two_pow]
  congr 2
  simp
theorem drop_other (s q j k : Nat) (hj : j < 64) (hk : k ≠ q) : wd (s ^^^ (s &&& 2 ^ (64 * q + j))) k = wd s k :=
  other_word _ _ _ fun i hi => by
    rw [drop_bits, decide_eq_false (by omega)]; simp
theorem less_bits (a b i : Nat) : (lessS a b).testBit i = (a.testBit i && !b.testBit i) := by
  unfold lessS
  rw [Nat.testBit_xor, Nat.testBit_and]
  cases a.testBit i <;> simp
theorem less_word (a b q : Nat) : Go.bits .andNot .u64 (wd a q) (wd b q) = wd (lessS a b) q := by
  obtain ⟨x, e, hx, hb⟩ := wd_nat a q
  obtain ⟨y, e', hy, hb'⟩ := wd_nat b q
  rw [e, e', u64_andNot_nat x y (by simpa using hx) (by simpa using hy)]
  refine (wd_ext _ _ _ (fun i hi => ?_) (andNot_lt _ _ hx)).symm
  rw [andNot_bits _ _ _ hy hi, less_bits, hb i hi, hb' i hi]
/-- Two sets with the same words are the same. -/
theorem eq_of_words (a b : Nat) (ha : a < 2 ^ 256) (hb : b < 2 ^ 256) (h : ∀ k, k < 4 → wd a k = wd b k) : a = b := by
  apply Nat.eq_of_testBit_eq
  intro i
  by_cases hi : i < 256
  · have h1 := wd_bit a (i / 64) (i % 64)
    have h2 := wd_bit b (i / 64) (i % 64)
    rw [h (i / 64) (by omega), h2] at h1
    have e : 64 * (i / 64) + i % 64 = i := by omega
    have hm : i % 64 < 64 := by omega
    rw [e] at h1
    simpa [hm] using h1.symm
  · rw [Nat.testBit_lt_two_pow (Nat.lt_of_lt_of_le ha (Nat.pow_le_pow_right (by decide) (by omega))), Nat.testBit_lt_two_pow (Nat.lt_of_lt_of_le hb (Nat.pow_le_pow_right (by decide) (by omega)))]
theorem wd_zero (k : Nat) : wd 0 k = 0 := by simp [wd]
theorem same_words (a b : Nat) (ha : a < 2 ^ 256) (hb : b < 2 ^ 256) : (wd a 0 == wd b 0 && (wd a 1 == wd b 1 && (wd a 2 == wd b 2 && wd a 3 == wd b 3))) = decide (a = b) := by
  by_cases h : a = b
  · subst h; simp
  · rw [decide_eq_false h]
    cases e : (wd a 0 == wd b 0 && (wd a 1 == wd b 1 && (wd a 2 == wd b 2 && wd a 3 == wd b 3))) with
    | false => rfl
    | true =>
      simp only [Bool.and_eq_true, beq_iff_eq] at e
      obtain ⟨h0, h1, h2, h3⟩ := e
      exact absurd (eq_of_words a b ha hb fun k hk => by match k, hk with | 0, _ => exact h0 | 1, _ => exact h1 | 2, _ => exact h2 | 3, _ => exact h3) h
/-- A set of numbers from 0 to 255. -/
def In (s : Nat) : Prop := s < 2 ^ 256
theorem zero_words (a : Nat) (ha : a < 2 ^ 256) : (wd a 0 == 0 && (wd a 1 == 0 && (wd a 2 == 0 && wd a 3 == 0))) = decide (a = 0) := by
  have := same_words a 0 ha (by decide)
  simpa [wd_zero] using this
theorem add_lt (s : Nat) (n : Int) (h : In s) : In (addS s n) := by
  unfold addS In at *
  split
  · rename_i hi
    have := (isId_iff n).1 hi
    exact Nat.or_lt_two_pow h (Nat.pow_lt_pow_right (by decide) (by omega))
  · exact h
theorem xor_and_lt (s t : Nat) (h : s < 2 ^ 256) : s ^^^ (s &&& t) < 2 ^ 256 := Nat.xor_lt_two_pow h (Nat.lt_of_le_of_lt Nat.and_le_left h)
theorem drop_lt (s : Nat) (n : Int) (h : In s) : In (dropS s n) := by
  unfold dropS In at *
  split
  · exact xor_and_lt s _ h
  · exact h
theorem less_lt (a b : Nat) (h : In a) : In (lessS a b) := xor_and_lt a b h
end Go.Proofs.YtdaionnpgcdkdaaDoor.Sets
