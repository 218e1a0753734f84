/- How many bits of a 64-bit word are set, as math/bits counts them. Plain facts, no program. -/
import Derived.Laws.BitsAllLaws
import Derived.RowKit
import Derived.Laws.Bits128
import Derived.Test.YtdaionnpgcdkdaaDoorSet
namespace Go.Proofs.YtdaionnpgcdkdaaDoor.Pop
open Go.RowKit (wrap64)

/-- The sum of the n low digits of x to the base 2^b. -/
def dsum (b : Nat) : Nat → Nat → Nat
  | 0, _ => 0
  | n + 1, x => x % 2 ^ b + dsum b n (x / 2 ^ b)
/-- Each of the n low digits is at most k. -/
def alle (b k : Nat) : Nat → Nat → Prop
  | 0, _ => True
  | n + 1, x => x % 2 ^ b ≤ k ∧ alle b k n (x / 2 ^ b)
def mask (b : Nat) : Nat → Nat
  | 0 => 0
  | n + 1 => (2 ^ b - 1) + 2 ^ (2 * b) * mask b n

theorem and_mask (b x m : Nat) : x &&& ((2 ^ b - 1) + 2 ^ (2 * b) * m) = x % 2 ^ b + 2 ^ (2 * b) * ((x / 2 ^ (2 * b)) &&& m) := by
  have h2 : (2 : Nat) ^ b ≤ 2 ^ (2 * b) := Nat.pow_le_pow_right (by decide) (by omega)
  have h1 : (2 : Nat) ^ b - 1 < 2 ^ (2 * b) := by have := Nat.two_pow_pos b; omega
  have h3 : x % 2 ^ b < 2 ^ (2 * b) := Nat.lt_of_lt_of_le (Nat.mod_lt _ (Nat.two_pow_pos b)) h2
  apply Nat.eq_of_testBit_eq
  intro i
  rw [Nat.testBit_and, Nat.add_comm (2 ^ b - 1), Nat.testBit_two_pow_mul_add _ h1, Nat.add_comm (x % 2 ^ b), Nat.testBit_two_pow_mul_add _ h3, Nat.testBit_two_pow_sub_one, Nat.testBit_mod_two_pow, Nat.testBit_and, Nat.testBit_div_two_pow]
  by_cases hi : i < 2 * b
  · rw [if_pos hi, if_pos hi, Bool.and_comm]
  · rw [if_neg hi, if_neg hi]
    congr 2
    omega
theorem div_sq (x b : Nat) : x / 2 ^ (2 * b) = x / 2 ^ b / 2 ^ b := by
  rw [Nat.div_div_eq_div_mul, ← Nat.pow_add]; congr 2; omega
theorem comm_div (x b : Nat) : x / 2 ^ b / 2 ^ (2 * b) = x / 2 ^ (2 * b) / 2 ^ b := by
  rw [Nat.div_div_eq_div_mul, Nat.div_div_eq_div_mul, Nat.mul_comm]
theorem sq (b : Nat) : (2 : Nat) ^ (2 * b) = 2 ^ b * 2 ^ b := by rw [← Nat.pow_add]; congr 1; omega

theorem low_digit (B p q A C : Nat) (hB : 2 ≤ B) (hp : p < B) (hq : q < B) : (p + B * B * A + (q + B * B * C)) % (B * B) = p + q ∧ (p + B * B * A + (q + B * B * C)) / (B * B) = A + C := by
  have hlt : p + q < B * B := by
    have : 2 * B ≤ B * B := Nat.mul_le_mul_right B hB
    omega
  have e : p + B * B * A + (q + B * B * C) = (p + q) + B * B * (A + C) := by rw [Nat.mul_add]; omega
  rw [e]
  exact ⟨by rw [Nat.add_mul_mod_self_left, Nat.mod_eq_of_lt hlt], by rw [Nat.add_mul_div_left _ _ (by omega), Nat.div_eq_of_lt hlt]; omega⟩

/-- One step: neighbours are added. -/
theorem step (b : Nat) (hb : 1 ≤ b) : ∀ (n x : Nat), dsum (2 * b) n ((x / 2 ^ b &&& mask b n) + (x &&& mask b n)) = dsum b (2 * n) x
  | 0, _ => rfl
  | n + 1, x => by
    have hB : 2 ≤ 2 ^ b := by
      have : 2 ^ 1 ≤ 2 ^ b := Nat.pow_le_pow_right (by decide) hb
      simpa using this
    have ih := step b hb n (x / 2 ^ (2 * b))
    obtain ⟨l1, l2⟩ := low_digit (2 ^ b) (x / 2 ^ b % 2 ^ b) (x % 2 ^ b) ((x / 2 ^ b / 2 ^ (2 * b)) &&& mask b n) ((x / 2 ^ (2 * b)) &&& mask b n) hB (Nat.mod_lt _ (by omega)) (Nat.mod_lt _ (by omega))
    rw [show mask b (n + 1) = (2 ^ b - 1) + 2 ^ (2 * b) * mask b n from rfl, and_mask, and_mask]
    rw [show 2 * (n + 1) = 2 * n + 1 + 1 by omega]
    simp only [dsum]
    rw [← sq] at l1 l2
    rw [l1, l2, comm_div, ih, div_sq]
    omega
theorem step_le (b k : Nat) (hb : 1 ≤ b) : ∀ (n x : Nat), alle b k (2 * n) x → alle (2 * b) (2 * k) n ((x / 2 ^ b &&& mask b n) + (x &&& mask b n))
  | 0, _, _ => trivial
  | n + 1, x, h => by
    have hB : 2 ≤ 2 ^ b := by
      have : 2 ^ 1 ≤ 2 ^ b := Nat.pow_le_pow_right (by decide) hb
      simpa using this
    rw [show 2 * (n + 1) = 2 * n + 1 + 1 by omega] at h
    obtain ⟨h1, h2, h3⟩ := h
    rw [← div_sq] at h3
    have ih := step_le b k hb n (x / 2 ^ (2 * b)) h3
    obtain ⟨l1, l2⟩ := low_digit (2 ^ b) (x / 2 ^ b % 2 ^ b) (x % 2 ^ b) ((x / 2 ^ b / 2 ^ (2 * b)) &&& mask b n) ((x / 2 ^ (2 * b)) &&& mask b n) hB (Nat.mod_lt _ (by omega)) (Nat.mod_lt _ (by omega))
    rw [show mask b (n + 1) = (2 ^ b - 1) + 2 ^ (2 * b) * mask b n from rfl, and_mask, and_mask]
    rw [← sq] at l1 l2
    refine ⟨?_, ?_⟩
    · rw [l1]; omega
    · rw [l2, comm_div]; exact ih
theorem step_lt (b : Nat) (hb : 1 ≤ b) : ∀ (n x : Nat), (x / 2 ^ b &&& mask b n) + (x &&& mask b n) < 2 ^ (2 * b * n)
  | 0, x => by simp [mask]
  | n + 1, x => by
    have hB : 2 ≤ 2 ^ b := by
      have : 2 ^ 1 ≤ 2 ^ b := Nat.pow_le_pow_right (by decide) hb
      simpa using this
    have ih := step_lt b hb n (x / 2 ^ (2 * b))
    obtain ⟨l1, l2⟩ := low_digit (2 ^ b) (x / 2 ^ b % 2 ^ b) (x % 2 ^ b) ((x / 2 ^ b / 2 ^ (2 * b)) &&& mask b n) ((x / 2 ^ (2 * b)) &&& mask b n) hB (Nat.mod_lt _ (by omega)) (Nat.mod_lt _ (by omega))
    rw [show mask b (n + 1) = (2 ^ b - 1) + 2 ^ (2 * b) * mask b n from rfl, and_mask, and_mask]
    rw [← sq] at l1 l2
    rw [← comm_div] at ih
    rw [← l2] at ih
    rw [show 2 * b * (n + 1) = 2 * b * n + 2 * b by rw [Nat.mul_add, Nat.mul_one], Nat.pow_add]
    exact (Nat.div_lt_iff_lt_mul (Nat.two_pow_pos _)).1 ih

theorem bits_le : ∀ (n x : Nat), alle 1 1 n x
  | 0, _ => trivial
  | n + 1, x => ⟨by have := Nat.mod_lt x (show 0 < 2 ^ 1 by decide); simp at this ⊢; omega, bits_le n _⟩

/-- The third step, to the base 16, the digits being at most 4. -/
theorem third : ∀ (n x : Nat), alle 4 4 (2 * n) x → x < 256 ^ n →
    dsum 8 n ((x / 16 + x) &&& mask 4 n) = dsum 4 (2 * n) x ∧ alle 8 8 n ((x / 16 + x) &&& mask 4 n)
  | 0, _, _, _ => ⟨rfl, trivial⟩
  | n + 1, x, h, hx => by
    rw [show 2 * (n + 1) = 2 * n + 1 + 1 by omega] at h
    obtain ⟨h1, h2, h3⟩ := h
    have e256 : (2 : Nat) ^ (2 * 4) = 256 := by decide
    have e16 : (2 : Nat) ^ 4 = 16 := by decide
    rw [← div_sq] at h3
    rw [e256] at h3
    rw [e16] at h1 h2
    have hx' : x / 256 < 256 ^ n := (Nat.div_lt_iff_lt_mul (by decide)).2 (by rw [Nat.pow_succ] at hx; exact hx)
    obtain ⟨ih1, ih2⟩ := third n (x / 256) h3 hx'
    have hn : x / 256 % 16 ≤ 4 := by
      cases n with
      | zero => simp at hx'; omega
      | succ n =>
        rw [show 2 * (n + 1) = 2 * n + 1 + 1 by omega] at h3
        have := h3.1
        rwa [e16] at this
    obtain ⟨p, q, y, ep, eq, ey, ex⟩ : ∃ p q y : Nat, p = x % 16 ∧ q = x / 16 % 16 ∧ y = x / 256 ∧ x = p + 16 * q + 256 * y := ⟨_, _, _, rfl, rfl, rfl, by omega⟩
    have d1 : (x / 16 + x) % 16 = x % 16 + x / 16 % 16 := by rw [← ep, ← eq]; rw [← ep] at h1; rw [← eq] at h2; clear ep eq ey; omega
    have d2 : (x / 16 + x) / 256 = x / 256 / 16 + x / 256 := by
      rw [← ey]; rw [← ep] at h1; rw [← eq] at h2; rw [← ey] at hn
      have e1 : x / 16 = q + 16 * y := by clear ep eq ey; omega
      rw [e1]
      obtain ⟨r, s, er, es, e2⟩ : ∃ r s : Nat, r = y % 16 ∧ s = y / 16 ∧ y = r + 16 * s := ⟨_, _, rfl, rfl, by omega⟩
      rw [← es]; rw [← er] at hn
      clear ep eq ey er es e1
      omega
    rw [show mask 4 (n + 1) = (2 ^ 4 - 1) + 2 ^ (2 * 4) * mask 4 n from rfl, and_mask, e256, e16, d1, d2]
    rw [show 2 * (n + 1) = 2 * n + 1 + 1 by omega]
    have e8 : (2 : Nat) ^ 8 = 256 := by decide
    generalize (x / 256 / 16 + x / 256) &&& mask 4 n = A at *
    have m1 : (x % 16 + x / 16 % 16 + 256 * A) % 256 = x % 16 + x / 16 % 16 := by omega
    have m2 : (x % 16 + x / 16 % 16 + 256 * A) / 256 = A := by omega
    refine ⟨?_, ?_, ?_⟩
    · simp only [dsum]
      rw [e8, m1, m2, ih1, e16, show x / 256 = x / 16 / 16 by omega]
      omega
    · rw [e8, m1]; omega
    · rw [e8, m2]; exact ih2

set_option maxHeartbeats 2000000 in
/-- The last three steps. -/
theorem last (z : Nat) (h : alle 8 8 8 z) (hz : z < 18446744073709551616) :
    z + z / 256 < 18446744073709551616 ∧ (z + z / 256) + (z + z / 256) / 65536 < 18446744073709551616 ∧
    (z + z / 256) + (z + z / 256) / 65536 + ((z + z / 256) + (z + z / 256) / 65536) / 4294967296 < 9223372036854775808 ∧
    ((z + z / 256) + (z + z / 256) / 65536 + ((z + z / 256) + (z + z / 256) / 65536) / 4294967296) % 128 = dsum 8 8 z := by
  have e8 : (2 : Nat) ^ 8 = 256 := by decide
  simp only [alle, dsum, e8] at h ⊢
  obtain ⟨h0, h1, h2, h3, h4, h5, h6, h7, _⟩ := h
  generalize e1 : z / 256 = z1 at *
  generalize e2 : z1 / 256 = z2 at *
  generalize e3 : z2 / 256 = z3 at *
  generalize e4 : z3 / 256 = z4 at *
  generalize e5 : z4 / 256 = z5 at *
  generalize e6 : z5 / 256 = z6 at *
  generalize e7 : z6 / 256 = z7 at *
  have l1 : z1 < 72057594037927936 := by clear e2 e3 e4 e5 e6 e7; omega
  have l2 : z2 < 281474976710656 := by clear e1 e3 e4 e5 e6 e7; omega
  have l3 : z3 < 1099511627776 := by clear e1 e2 e4 e5 e6 e7; omega
  have l4 : z4 < 4294967296 := by clear e1 e2 e3 e5 e6 e7; omega
  have l5 : z5 < 16777216 := by clear e1 e2 e3 e4 e6 e7; omega
  have l6 : z6 < 65536 := by clear e1 e2 e3 e4 e5 e7; omega
  have l7 : z7 < 256 := by clear e1 e2 e3 e4 e5 e6; omega
  obtain ⟨b0, f0⟩ : ∃ b, b = z % 256 := ⟨_, rfl⟩
  obtain ⟨b1, f1⟩ : ∃ b, b = z1 % 256 := ⟨_, rfl⟩
  obtain ⟨b2, f2⟩ : ∃ b, b = z2 % 256 := ⟨_, rfl⟩
  obtain ⟨b3, f3⟩ : ∃ b, b = z3 % 256 := ⟨_, rfl⟩
  obtain ⟨b4, f4⟩ : ∃ b, b = z4 % 256 := ⟨_, rfl⟩
  obtain ⟨b5, f5⟩ : ∃ b, b = z5 % 256 := ⟨_, rfl⟩
  obtain ⟨b6, f6⟩ : ∃ b, b = z6 % 256 := ⟨_, rfl⟩
  obtain ⟨b7, f7⟩ : ∃ b, b = z7 % 256 := ⟨_, rfl⟩
  rw [← f0] at h0 ⊢
  rw [← f1] at h1 ⊢
  rw [← f2] at h2 ⊢
  rw [← f3] at h3 ⊢
  rw [← f4] at h4 ⊢
  rw [← f5] at h5 ⊢
  rw [← f6] at h6 ⊢
  rw [← f7] at h7 ⊢
  have g7 : z7 = b7 := by omega
  have g6 : z6 = b6 + 256 * z7 := by omega
  have g5 : z5 = b5 + 256 * z6 := by omega
  have g4 : z4 = b4 + 256 * z5 := by omega
  have g3 : z3 = b3 + 256 * z4 := by omega
  have g2 : z2 = b2 + 256 * z3 := by omega
  have g1 : z1 = b1 + 256 * z2 := by omega
  have g0 : z = b0 + 256 * z1 := by omega
  clear e1 e2 e3 e4 e5 e6 e7 f0 f1 f2 f3 f4 f5 f6 f7 hz l1 l2 l3 l4 l5 l6 l7
  have ez1 : z1 = b1 + 256 * b2 + 65536 * b3 + 16777216 * b4 + 4294967296 * b5 + 1099511627776 * b6 + 281474976710656 * b7 := by omega
  have ez : z = b0 + 256 * b1 + 65536 * b2 + 16777216 * b3 + 4294967296 * b4 + 1099511627776 * b5 + 281474976710656 * b6 + 72057594037927936 * b7 := by omega
  clear g0 g1 g2 g3 g4 g5 g6 g7
  subst ez1
  subst ez
  have y2 : (b0 + 256 * b1 + 65536 * b2 + 16777216 * b3 + 4294967296 * b4 + 1099511627776 * b5 + 281474976710656 * b6 + 72057594037927936 * b7 + (b1 + 256 * b2 + 65536 * b3 + 16777216 * b4 + 4294967296 * b5 + 1099511627776 * b6 + 281474976710656 * b7)) / 65536 = (b2 + b3) + 256 * (b3 + b4) + 65536 * (b4 + b5) + 16777216 * (b5 + b6) + 4294967296 * (b6 + b7) + 1099511627776 * b7 := by omega
  rw [y2]
  have y3 : (b0 + 256 * b1 + 65536 * b2 + 16777216 * b3 + 4294967296 * b4 + 1099511627776 * b5 + 281474976710656 * b6 + 72057594037927936 * b7 + (b1 + 256 * b2 + 65536 * b3 + 16777216 * b4 + 4294967296 * b5 + 1099511627776 * b6 + 281474976710656 * b7) + ((b2 + b3) + 256 * (b3 + b4) + 65536 * (b4 + b5) + 16777216 * (b5 + b6) + 4294967296 * (b6 + b7) + 1099511627776 * b7)) / 4294967296 = (b4 + b5 + b6 + b7) + 256 * (b5 + b6 + b7) + 65536 * (b6 + b7) + 16777216 * b7 := by omega
  rw [y3]
  omega

/-- Sixteen digits of at most 4: no carry behind the top. -/
theorem top_digit (y : Nat) (h : alle 4 4 16 y) (hy : y < 18446744073709551616) : y < 5764607523034234880 := by
  have e : (2 : Nat) ^ 4 = 16 := by decide
  simp only [alle, e] at h
  omega
/-- What the code reckons. -/
def swar (x : Int) : Int :=
  let y1 := IntKind.u64.wrap (Go.bits .and .u64 (x / 2) 6148914691236517205 + Go.bits .and .u64 x 6148914691236517205)
  let y2 := IntKind.u64.wrap (Go.bits .and .u64 (y1 / 4) 3689348814741910323 + Go.bits .and .u64 y1 3689348814741910323)
  let y3 := Go.bits .and .u64 (IntKind.u64.wrap (y2 / 16 + y2)) 1085102592571150095
  let y4 := IntKind.u64.wrap (y3 + y3 / 256)
  let y5 := IntKind.u64.wrap (y4 + y4 / 65536)
  let y6 := IntKind.u64.wrap (y5 + y5 / 4294967296)
  Go.bits .and .i64 (wrap64 y6) 127
theorem and_u64 (x m : Nat) (hx : x < 18446744073709551616) (hm : m < 18446744073709551616) : Go.bits .and .u64 (x : Int) (m : Int) = ((x &&& m : Nat) : Int) := u64_and_nat x m hx hm
theorem wrap_u64 (x : Nat) (hx : x < 18446744073709551616) : IntKind.u64.wrap (x : Int) = (x : Int) := by
  simp only [IntKind.wrap, IntKind.bits, IntKind.signed, Bool.false_and]
  rw [if_neg (by simp)]
  have h2 : ((2 : Int) ^ 64) = 18446744073709551616 := by decide
  rw [h2]
  omega
theorem swar_pop (x : Nat) (hx : x < 18446744073709551616) : swar (x : Int) = (dsum 1 64 x : Int) := by
  have m0 : mask 1 32 = 6148914691236517205 := by decide
  have m1 : mask 2 16 = 3689348814741910323 := by decide
  have m2 : mask 4 8 = 1085102592571150095 := by decide
  have s1 := step 1 (by decide) 32 x
  have a1 := step_le 1 1 (by decide) 32 x (bits_le 64 x)
  have t1 := step_lt 1 (by decide) 32 x
  rw [m0] at s1 a1 t1
  rw [show (2 : Nat) ^ 1 = 2 by decide] at s1 a1 t1
  rw [show (2 : Nat) ^ (2 * 1 * 32) = 18446744073709551616 by decide] at t1
  obtain ⟨y1, e1⟩ : ∃ y, y = (x / 2 &&& 6148914691236517205) + (x &&& 6148914691236517205) := ⟨_, rfl⟩
  rw [← e1] at s1 a1 t1
  have s2 := step 2 (by decide) 16 y1
  have a2 := step_le 2 2 (by decide) 16 y1 a1
  have t2 := step_lt 2 (by decide) 16 y1
  rw [m1] at s2 a2 t2
  rw [show (2 : Nat) ^ 2 = 4 by decide] at s2 a2 t2
  rw [show (2 : Nat) ^ (2 * 2 * 16) = 18446744073709551616 by decide] at t2
  obtain ⟨y2, e2⟩ : ∃ y, y = (y1 / 4 &&& 3689348814741910323) + (y1 &&& 3689348814741910323) := ⟨_, rfl⟩
  rw [← e2] at s2 a2 t2
  obtain ⟨s3, a3⟩ := third 8 y2 a2 (by rw [show (256 : Nat) ^ 8 = 18446744073709551616 by decide]; exact t2)
  rw [m2] at s3 a3
  have q2 : y2 / 16 + y2 < 18446744073709551616 := by
    have h0 := top_digit y2 a2 t2
    omega
  obtain ⟨y3, e3⟩ : ∃ y, y = (y2 / 16 + y2) &&& 1085102592571150095 := ⟨_, rfl⟩
  rw [← e3] at s3 a3
  have t3 : y3 < 18446744073709551616 := by rw [e3]; exact Nat.lt_of_le_of_lt Nat.and_le_left q2
  obtain ⟨u1, u2, u3, u4⟩ := last y3 a3 t3
  have c2 : ((x : Int) / 2) = ((x / 2 : Nat) : Int) := by omega
  have f1 : IntKind.u64.wrap (Go.bits .and .u64 ((x : Int) / 2) 6148914691236517205 + Go.bits .and .u64 (x : Int) 6148914691236517205) = (y1 : Int) := by
    have g1 := and_u64 (x / 2) 6148914691236517205 (by omega) (by decide)
    have g2 := and_u64 x 6148914691236517205 hx (by decide)
    have g3 : Go.bits .and .u64 ((x : Int) / 2) 6148914691236517205 = ((x / 2 &&& 6148914691236517205 : Nat) : Int) := by rw [c2]; exact g1
    have g4 : Go.bits .and .u64 (x : Int) 6148914691236517205 = ((x &&& 6148914691236517205 : Nat) : Int) := g2
    rw [g3, g4, ← Int.natCast_add, ← e1]
    exact wrap_u64 _ t1
  have f2 : IntKind.u64.wrap (Go.bits .and .u64 ((y1 : Int) / 4) 3689348814741910323 + Go.bits .and .u64 (y1 : Int) 3689348814741910323) = (y2 : Int) := by
    have g1 := and_u64 (y1 / 4) 3689348814741910323 (by omega) (by decide)
    have g2 := and_u64 y1 3689348814741910323 t1 (by decide)
    have g3 : Go.bits .and .u64 ((y1 : Int) / 4) 3689348814741910323 = ((y1 / 4 &&& 3689348814741910323 : Nat) : Int) := by rw [show ((y1 : Int) / 4) = ((y1 / 4 : Nat) : Int) by omega]; exact g1
    have g4 : Go.bits .and .u64 (y1 : Int) 3689348814741910323 = ((y1 &&& 3689348814741910323 : Nat) : Int) := g2
    rw [g3, g4, ← Int.natCast_add, ← e2]
    exact wrap_u64 _ t2
  have f3 : Go.bits .and .u64 (IntKind.u64.wrap ((y2 : Int) / 16 + (y2 : Int))) 1085102592571150095 = (y3 : Int) := by
    have g1 := and_u64 (y2 / 16 + y2) 1085102592571150095 q2 (by decide)
    rw [show ((y2 : Int) / 16 + (y2 : Int)) = ((y2 / 16 + y2 : Nat) : Int) by omega, wrap_u64 _ q2, e3]
    exact g1
  have f4 : IntKind.u64.wrap ((y3 : Int) + (y3 : Int) / 256) = ((y3 + y3 / 256 : Nat) : Int) := by
    rw [show ((y3 : Int) + (y3 : Int) / 256) = ((y3 + y3 / 256 : Nat) : Int) by omega]; exact wrap_u64 _ u1
  generalize y3 + y3 / 256 = y4 at *
  have f5 : IntKind.u64.wrap ((y4 : Int) + (y4 : Int) / 65536) = ((y4 + y4 / 65536 : Nat) : Int) := by
    rw [show ((y4 : Int) + (y4 : Int) / 65536) = ((y4 + y4 / 65536 : Nat) : Int) by omega]; exact wrap_u64 _ u2
  generalize y4 + y4 / 65536 = y5 at *
  have f6 : IntKind.u64.wrap ((y5 : Int) + (y5 : Int) / 4294967296) = ((y5 + y5 / 4294967296 : Nat) : Int) := by
    rw [show ((y5 : Int) + (y5 : Int) / 4294967296) = ((y5 + y5 / 4294967296 : Nat) : Int) by omega]; exact wrap_u64 _ (by omega)
  generalize y5 + y5 / 4294967296 = y6 at *
  unfold swar
  simp only [f1, f2, f3, f4, f5, f6]
  have w6 : wrap64 (y6 : Int) = (y6 : Int) := by unfold wrap64; omega
  rw [w6, i64_and127, ← s1, ← s2, ← s3, ← u4]
  omega

theorem dsum_count : ∀ (n x : Nat), dsum 1 n x = ((List.range n).filter x.testBit).length
  | 0, _ => rfl
  | n + 1, x => by
    have ih := dsum_count n (x / 2)
    rw [List.range_succ_eq_map, List.filter_cons, List.filter_map, dsum, show (2 : Nat) ^ 1 = 2 by decide, ih]
    have e : (x.testBit ∘ Nat.succ) = (x / 2).testBit := by funext i; simp [Nat.testBit_succ]
    rw [e]
    have h0 : x.testBit 0 = decide (x % 2 = 1) := by rw [Nat.testBit_zero]
    rw [h0]
    rcases Nat.mod_two_eq_zero_or_one x with h | h
    · rw [h]; simp
    · rw [h]; simp; omega
/-- The numbers of all four words together. -/
theorem card (s : Nat) : dsum 1 64 (Sets.wd s 0).toNat + dsum 1 64 (Sets.wd s 1).toNat + dsum 1 64 (Sets.wd s 2).toNat + dsum 1 64 (Sets.wd s 3).toNat = (Sets.els s).length := by
  have part (k : Nat) : dsum 1 64 (Sets.wd s k).toNat = (((List.range 64).map (64 * k + ·)).filter s.testBit).length := by
    rw [dsum_count, List.filter_map, List.length_map]
    congr 1
    apply List.filter_congr
    intro i hi
    rw [Sets.wd_bit]
    simp [List.mem_range.1 hi]
  have e : List.range 256 = (List.range 64).map (64 * 0 + ·) ++ ((List.range 64).map (64 * 1 + ·) ++ ((List.range 64).map (64 * 2 + ·) ++ (List.range 64).map (64 * 3 + ·))) := by decide +kernel
  rw [part 0, part 1, part 2, part 3]
  unfold Sets.els
  rw [e, List.filter_append, List.filter_append, List.filter_append, List.length_append, List.length_append, List.length_append]
  omega
theorem word_pop (s k : Nat) : swar (Sets.wd s k) = (dsum 1 64 (Sets.wd s k).toNat : Int) := by
  have h := swar_pop (Sets.wd s k).toNat (by have := Sets.wd_hi s k; have := Sets.wd_lo s k; omega)
  rw [Int.toNat_of_nonneg (Sets.wd_lo s k)] at h
  exact h
theorem dsum_le (n x : Nat) : dsum 1 n x ≤ n := by
  rw [dsum_count]
  have := List.length_filter_le x.testBit (List.range n)
  simpa using this
theorem swar_range (s k : Nat) : 0 ≤ swar (Sets.wd s k) ∧ swar (Sets.wd s k) ≤ 64 := by
  have := dsum_le 64 (Sets.wd s k).toNat
  rw [word_pop]
  omega
theorem swar_card (s : Nat) : swar (Sets.wd s 0) + swar (Sets.wd s 1) + swar (Sets.wd s 2) + swar (Sets.wd s 3) = ((Sets.els s).length : Int) := by
  rw [word_pop, word_pop, word_pop, word_pop, ← card s]
  omega
end Go.Proofs.YtdaionnpgcdkdaaDoor.Pop
