/- The contracts of sets and rolls over four or eight plain words, as the printed texts want them; what the laid variables hold, as a hidden hypothesis. -/
import Derived.Test.YtdaionnpgcdkdaaDoorRollE
import Derived.Test.YtdaionnpgcdkdaaDoorT0
set_option linter.unusedVariables false
set_option linter.unusedSimpArgs false
namespace Go.Proofs.YtdaionnpgcdkdaaDoor
open Go.RowKit
open Sets (hasS addS dropS lessS subS isId)
/-- What the laid variables hold, not to be looked into. -/
structure GLW (w : World) : Prop where mk :: (out : GL w)
theorem GLW.below {w w' : World} (h : GLW w) (hb : Below w.heap.size w w') : GLW w' := ⟨h.out.below hb⟩
def okW (a : Int) : Bool := decide (0 ≤ a) && decide (a < 18446744073709551616)
def okS (a b c d : Int) : Bool := okW a && (okW b && (okW c && okW d))
def natS (a b c d : Int) : Nat := a.toNat + 2 ^ 64 * b.toNat + 2 ^ 128 * c.toNat + 2 ^ 192 * d.toNat
def tupS (s : Nat) : Int × Int × Int × Int := (Sets.wd s 0, Sets.wd s 1, Sets.wd s 2, Sets.wd s 3)
theorem okS_iff {a b c d : Int} : okS a b c d = true ↔ (0 ≤ a ∧ a < 18446744073709551616) ∧ (0 ≤ b ∧ b < 18446744073709551616) ∧ (0 ≤ c ∧ c < 18446744073709551616) ∧ (0 ≤ d ∧ d < 18446744073709551616) := by
  simp [okS, okW, and_assoc]
theorem natS_wd {a b c d : Int} (h : okS a b c d = true) : Sets.wd (natS a b c d) 0 = a ∧ Sets.wd (natS a b c d) 1 = b ∧ Sets.wd (natS a b c d) 2 = c ∧ Sets.wd (natS a b c d) 3 = d := by
  rw [okS_iff] at h
  obtain ⟨⟨a0, a1⟩, ⟨b0, b1⟩, ⟨c0, c1⟩, ⟨d0, d1⟩⟩ := h
  obtain ⟨x, rfl⟩ := Int.eq_ofNat_of_zero_le a0
  obtain ⟨y, rfl⟩ := Int.eq_ofNat_of_zero_le b0
  obtain ⟨z, rfl⟩ := Int.eq_ofNat_of_zero_le c0
  obtain ⟨u, rfl⟩ := Int.eq_ofNat_of_zero_le d0
  simp only [natS, Int.toNat_natCast, Sets.wd]
  have hx : x < 18446744073709551616 := by omega
  have hy : y < 18446744073709551616 := by omega
  have hz : z < 18446744073709551616 := by omega
  have hu : u < 18446744073709551616 := by omega
  refine ⟨?_, ?_, ?_, ?_⟩ <;> congr 1 <;> omega
theorem natS_in {a b c d : Int} (h : okS a b c d = true) : Sets.In (natS a b c d) := by
  rw [okS_iff] at h
  unfold Sets.In natS
  omega
theorem wd_ok (s k : Nat) : okW (Sets.wd s k) = true := by
  have := Sets.wd_lo s k
  have := Sets.wd_hi s k
  simp [okW, *]
theorem okS_wd (s : Nat) : okS (Sets.wd s 0) (Sets.wd s 1) (Sets.wd s 2) (Sets.wd s 3) = true := by
  simp [okS, wd_ok]
theorem natS_of (s : Nat) (h : Sets.In s) : natS (Sets.wd s 0) (Sets.wd s 1) (Sets.wd s 2) (Sets.wd s 3) = s := by
  refine Sets.eq_of_words _ _ (natS_in (okS_wd s)) h fun k hk => ?_
  have := natS_wd (okS_wd s)
  match k, hk with
  | 0, _ => exact this.1
  | 1, _ => exact this.2.1
  | 2, _ => exact this.2.2.1
  | 3, _ => exact this.2.2.2
theorem has_words {a b c d : Int} (h : okS a b c d = true) (p : Int) (w : World) :
    Calls Tryd.prog 45 #[.agg #[.int .u64 a, .int .u64 b, .int .u64 c, .int .u64 d], .int .i64 p] w fun e w' => e = .returned (.bool (hasS (natS a b c d) p)) ∧ Below w.heap.size w w' := by
  have := has_any (natS a b c d) p w
  rwa [(natS_wd h).1, (natS_wd h).2.1, (natS_wd h).2.2.1, (natS_wd h).2.2.2] at this
theorem add_words {a b c d : Int} (h : okS a b c d = true) (p : Int) (w : World) :
    Calls Tryd.prog 69 #[.agg #[.int .u64 a, .int .u64 b, .int .u64 c, .int .u64 d], .int .i64 p] w fun e w' => e = .returned (.agg #[.int .u64 (Sets.wd (addS (natS a b c d) p) 0), .int .u64 (Sets.wd (addS (natS a b c d) p) 1), .int .u64 (Sets.wd (addS (natS a b c d) p) 2), .int .u64 (Sets.wd (addS (natS a b c d) p) 3)]) ∧ Below w.heap.size w w' := by
  have := add_any (natS a b c d) p w
  rwa [(natS_wd h).1, (natS_wd h).2.1, (natS_wd h).2.2.1, (natS_wd h).2.2.2] at this
theorem drop_words {a b c d : Int} (h : okS a b c d = true) (p : Int) (w : World) :
    Calls Tryd.prog 70 #[.agg #[.int .u64 a, .int .u64 b, .int .u64 c, .int .u64 d], .int .i64 p] w fun e w' => e = .returned (.agg #[.int .u64 (Sets.wd (dropS (natS a b c d) p) 0), .int .u64 (Sets.wd (dropS (natS a b c d) p) 1), .int .u64 (Sets.wd (dropS (natS a b c d) p) 2), .int .u64 (Sets.wd (dropS (natS a b c d) p) 3)]) ∧ Below w.heap.size w w' := by
  have := drop_any (natS a b c d) p w
  rwa [(natS_wd h).1, (natS_wd h).2.1, (natS_wd h).2.2.1, (natS_wd h).2.2.2] at this
theorem len_words {a b c d : Int} (h : okS a b c d = true) (w : World) :
    Calls Tryd.prog 18 #[.agg #[.int .u64 a, .int .u64 b, .int .u64 c, .int .u64 d]] w fun e w' => e = .returned (.int .i64 (Sets.els (natS a b c d)).length) ∧ Below w.heap.size w w' := by
  have := len_any (natS a b c d) w
  rwa [(natS_wd h).1, (natS_wd h).2.1, (natS_wd h).2.2.1, (natS_wd h).2.2.2] at this
theorem list_words {a b c d : Int} (h : okS a b c d = true) (w : World) (hG : GL w) :
    Calls Tryd.prog 71 #[.agg #[.int .u64 a, .int .u64 b, .int .u64 c, .int .u64 d]] w fun e w' => ∃ v, e = .returned v ∧ w'.ownsRow w.heap.size 3 1 v (elsI (natS a b c d)).length ((elsI (natS a b c d)).map fun x => .int .i64 x) ∧ Below w.heap.size w w' := by
  have := (callsIn_wide.1 (list_in (natS a b c d) w hG hG.two)).mono (R' := fun e w' => ∃ v, e = .returned v ∧ w'.ownsRow w.heap.size 3 1 v (elsI (natS a b c d)).length ((elsI (natS a b c d)).map fun x => .int .i64 x) ∧ Below w.heap.size w w') (by
    rintro e w' ⟨v, rfl, ho, _, hb⟩
    refine ⟨v, rfl, ?_, hb⟩
    have e : (elsI (natS a b c d)).map (fun x => Value.int .i64 x) = ints (Sets.els (natS a b c d)) := by simp [elsI, ints]
    rw [e, elsI_length]
    exact ho)
  rwa [(natS_wd h).1, (natS_wd h).2.1, (natS_wd h).2.2.1, (natS_wd h).2.2.2] at this
theorem fine_words {a b c d x y z u : Int} (h : okS a b c d = true) (k : okS x y z u = true) (w : World) (hG : GL w) :
    Calls Tryd.prog 19 #[.agg #[.int .u64 a, .int .u64 b, .int .u64 c, .int .u64 d, .int .u64 x, .int .u64 y, .int .u64 z, .int .u64 u]] w fun e w' => e = .returned (.bool (fineR (natS a b c d) (natS x y z u))) ∧ Below w.heap.size w w' := by
  have := roll_fine (natS a b c d) (natS x y z u) (natS_in h) (natS_in k) w hG
  rwa [(natS_wd h).1, (natS_wd h).2.1, (natS_wd h).2.2.1, (natS_wd h).2.2.2, (natS_wd k).1, (natS_wd k).2.1, (natS_wd k).2.2.1, (natS_wd k).2.2.2] at this
theorem asked_words {a b c d x y z u : Int} (h : okS a b c d = true) (k : okS x y z u = true) (p : Int) (w : World) (hG : GL w) :
    Calls Tryd.prog 68 #[.agg #[.int .u64 a, .int .u64 b, .int .u64 c, .int .u64 d, .int .u64 x, .int .u64 y, .int .u64 z, .int .u64 u], .int .i64 p] w fun e w' => e = .returned (.int .i64 (askedR (natS a b c d) (natS x y z u) p)) ∧ Below w.heap.size w w' := by
  have := roll_asked (natS a b c d) (natS x y z u) (natS_in h) (natS_in k) p w hG
  rwa [(natS_wd h).1, (natS_wd h).2.1, (natS_wd h).2.2.1, (natS_wd h).2.2.2, (natS_wd k).1, (natS_wd k).2.1, (natS_wd k).2.2.1, (natS_wd k).2.2.2] at this
def tupR {α : Type} (r : Nat × Nat × α) : Int × Int × Int × Int × Int × Int × Int × Int × α := (Sets.wd r.1 0, Sets.wd r.1 1, Sets.wd r.1 2, Sets.wd r.1 3, Sets.wd r.2.1 0, Sets.wd r.2.1 1, Sets.wd r.2.1 2, Sets.wd r.2.1 3, r.2.2)
theorem enrol_words {a b c d x y z u : Int} (h : okS a b c d = true) (k : okS x y z u = true) (p : Int) (w : World) (hG : GL w) :
    Calls Tryd.prog 12 #[.agg #[.int .u64 a, .int .u64 b, .int .u64 c, .int .u64 d, .int .u64 x, .int .u64 y, .int .u64 z, .int .u64 u], .int .i64 p] w fun e w' => e = .returned (.tuple #[.agg #[.int .u64 (Sets.wd ((enrolR (natS a b c d) (natS x y z u) p).1) 0), .int .u64 (Sets.wd ((enrolR (natS a b c d) (natS x y z u) p).1) 1), .int .u64 (Sets.wd ((enrolR (natS a b c d) (natS x y z u) p).1) 2), .int .u64 (Sets.wd ((enrolR (natS a b c d) (natS x y z u) p).1) 3), .int .u64 (Sets.wd ((enrolR (natS a b c d) (natS x y z u) p).2.1) 0), .int .u64 (Sets.wd ((enrolR (natS a b c d) (natS x y z u) p).2.1) 1), .int .u64 (Sets.wd ((enrolR (natS a b c d) (natS x y z u) p).2.1) 2), .int .u64 (Sets.wd ((enrolR (natS a b c d) (natS x y z u) p).2.1) 3)], .int .i64 (enrolR (natS a b c d) (natS x y z u) p).2.2]) ∧ Below w.heap.size w w' := by
  have := roll_enrol (natS a b c d) (natS x y z u) (natS_in h) (natS_in k) p w hG
  rwa [(natS_wd h).1, (natS_wd h).2.1, (natS_wd h).2.2.1, (natS_wd h).2.2.2, (natS_wd k).1, (natS_wd k).2.1, (natS_wd k).2.2.1, (natS_wd k).2.2.2] at this
theorem resign_words {a b c d x y z u : Int} (h : okS a b c d = true) (k : okS x y z u = true) (p : Int) (w : World) (hG : GL w) :
    Calls Tryd.prog 13 #[.agg #[.int .u64 a, .int .u64 b, .int .u64 c, .int .u64 d, .int .u64 x, .int .u64 y, .int .u64 z, .int .u64 u], .int .i64 p] w fun e w' => e = .returned (.tuple #[.agg #[.int .u64 (Sets.wd ((resignR (natS a b c d) (natS x y z u) p).1) 0), .int .u64 (Sets.wd ((resignR (natS a b c d) (natS x y z u) p).1) 1), .int .u64 (Sets.wd ((resignR (natS a b c d) (natS x y z u) p).1) 2), .int .u64 (Sets.wd ((resignR (natS a b c d) (natS x y z u) p).1) 3), .int .u64 (Sets.wd ((resignR (natS a b c d) (natS x y z u) p).2.1) 0), .int .u64 (Sets.wd ((resignR (natS a b c d) (natS x y z u) p).2.1) 1), .int .u64 (Sets.wd ((resignR (natS a b c d) (natS x y z u) p).2.1) 2), .int .u64 (Sets.wd ((resignR (natS a b c d) (natS x y z u) p).2.1) 3)], .int .i64 (resignR (natS a b c d) (natS x y z u) p).2.2]) ∧ Below w.heap.size w w' := by
  have := roll_resign (natS a b c d) (natS x y z u) (natS_in h) (natS_in k) p w hG
  rwa [(natS_wd h).1, (natS_wd h).2.1, (natS_wd h).2.2.1, (natS_wd h).2.2.2, (natS_wd k).1, (natS_wd k).2.1, (natS_wd k).2.2.1, (natS_wd k).2.2.2] at this
theorem offer_words {a b c d x y z u : Int} (h : okS a b c d = true) (k : okS x y z u = true) (p : Int) (w : World) (hG : GL w) :
    Calls Tryd.prog 14 #[.agg #[.int .u64 a, .int .u64 b, .int .u64 c, .int .u64 d, .int .u64 x, .int .u64 y, .int .u64 z, .int .u64 u], .int .i64 p] w fun e w' => e = .returned (.tuple #[.agg #[.int .u64 (Sets.wd ((offerR (natS a b c d) (natS x y z u) p).1) 0), .int .u64 (Sets.wd ((offerR (natS a b c d) (natS x y z u) p).1) 1), .int .u64 (Sets.wd ((offerR (natS a b c d) (natS x y z u) p).1) 2), .int .u64 (Sets.wd ((offerR (natS a b c d) (natS x y z u) p).1) 3), .int .u64 (Sets.wd ((offerR (natS a b c d) (natS x y z u) p).2.1) 0), .int .u64 (Sets.wd ((offerR (natS a b c d) (natS x y z u) p).2.1) 1), .int .u64 (Sets.wd ((offerR (natS a b c d) (natS x y z u) p).2.1) 2), .int .u64 (Sets.wd ((offerR (natS a b c d) (natS x y z u) p).2.1) 3)], .int .i64 (offerR (natS a b c d) (natS x y z u) p).2.2]) ∧ Below w.heap.size w w' := by
  have := roll_offer (natS a b c d) (natS x y z u) (natS_in h) (natS_in k) p w hG
  rwa [(natS_wd h).1, (natS_wd h).2.1, (natS_wd h).2.2.1, (natS_wd h).2.2.2, (natS_wd k).1, (natS_wd k).2.1, (natS_wd k).2.2.1, (natS_wd k).2.2.2] at this
theorem withdraw_words {a b c d x y z u : Int} (h : okS a b c d = true) (k : okS x y z u = true) (p : Int) (w : World) (hG : GL w) :
    Calls Tryd.prog 15 #[.agg #[.int .u64 a, .int .u64 b, .int .u64 c, .int .u64 d, .int .u64 x, .int .u64 y, .int .u64 z, .int .u64 u], .int .i64 p] w fun e w' => e = .returned (.tuple #[.agg #[.int .u64 (Sets.wd ((withdrawR (natS a b c d) (natS x y z u) p).1) 0), .int .u64 (Sets.wd ((withdrawR (natS a b c d) (natS x y z u) p).1) 1), .int .u64 (Sets.wd ((withdrawR (natS a b c d) (natS x y z u) p).1) 2), .int .u64 (Sets.wd ((withdrawR (natS a b c d) (natS x y z u) p).1) 3), .int .u64 (Sets.wd ((withdrawR (natS a b c d) (natS x y z u) p).2.1) 0), .int .u64 (Sets.wd ((withdrawR (natS a b c d) (natS x y z u) p).2.1) 1), .int .u64 (Sets.wd ((withdrawR (natS a b c d) (natS x y z u) p).2.1) 2), .int .u64 (Sets.wd ((withdrawR (natS a b c d) (natS x y z u) p).2.1) 3)], .bool (withdrawR (natS a b c d) (natS x y z u) p).2.2]) ∧ Below w.heap.size w w' := by
  have := roll_withdraw (natS a b c d) (natS x y z u) (natS_in h) (natS_in k) p w hG
  rwa [(natS_wd h).1, (natS_wd h).2.1, (natS_wd h).2.2.1, (natS_wd h).2.2.2, (natS_wd k).1, (natS_wd k).2.1, (natS_wd k).2.2.1, (natS_wd k).2.2.2] at this
theorem full_words {a b c d x y z u : Int} (h : okS a b c d = true) (k : okS x y z u = true) (w : World) (hG : GL w) :
    Calls Tryd.prog 16 #[.agg #[.int .u64 a, .int .u64 b, .int .u64 c, .int .u64 d, .int .u64 x, .int .u64 y, .int .u64 z, .int .u64 u]] w fun e w' => e = .returned (.bool (fullR (natS a b c d) (natS x y z u))) ∧ Below w.heap.size w w' := by
  have := roll_full (natS a b c d) (natS x y z u) (natS_in h) (natS_in k) w hG
  rwa [(natS_wd h).1, (natS_wd h).2.1, (natS_wd h).2.2.1, (natS_wd h).2.2.2, (natS_wd k).1, (natS_wd k).2.1, (natS_wd k).2.2.1, (natS_wd k).2.2.2] at this
open Go.Proofs.YtdaionnpgcdkdaaDoorW.PrintWords in
theorem Kd_ints {W : World} {base : Nat} {e : TypeId} {v : Value} {xs : List Int} (h : W.ownsRow base e 1 v xs.length (xs.map fun x => .int .i64 x)) : Kd.R (Kd.int .i64) e W base (fun _ => True) v xs :=
  Kd.R_of_own h (fun _ _ => trivial)
end Go.Proofs.YtdaionnpgcdkdaaDoor
