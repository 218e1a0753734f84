/- The document's sets, rolls and barriers as printed functions: what they answer on rising lists. -/
import Derived.Test.YtdaionnpgcdkdaaDoorPBarx
import Derived.Test.YtdaionnpgcdkdaaDoorWo
set_option linter.unusedVariables false
set_option linter.unusedSimpArgs false
namespace Go.Proofs.YtdaionnpgcdkdaaDoor.RBar
open Go.RowKit Go.Proofs.YtdaionnpgcdkdaaDoorP.Bar Go.Proofs.YtdaionnpgcdkdaaDoorW.PrintWords
open Sets (hasS addS dropS lessS subS isId)
theorem rd_nat (l : List Int) (i : Nat) (h : i < l.length) : rd l (i : Int) = l[i] := by simp [rd, List.getD, h]
theorem wrap_nat (i : Nat) (h : i < 9223372036854775807) : wrap64 ((i : Int) + 1) = ((i + 1 : Nat) : Int) := by unfold wrap64; omega
theorem has_l0 (l : List Int) (x : Int) (hl : l.length < 1000) : ∀ (d i k : Nat), i + d = l.length → d < k → becketref04_Has.l0 k l x (i : Int) = some (decide (x ∈ l.drop i)) := by
  intro d
  induction d with
  | zero =>
    intro i k hi hk
    obtain ⟨k, rfl⟩ : ∃ m, k = m + 1 := ⟨k - 1, by omega⟩
    simp only [becketref04_Has.l0]
    rw [if_neg (by omega), List.drop_of_length_le (by omega)]
    simp
  | succ d ih =>
    intro i k hi hk
    obtain ⟨k, rfl⟩ : ∃ m, k = m + 1 := ⟨k - 1, by omega⟩
    have hlt : i < l.length := by omega
    simp only [becketref04_Has.l0]
    rw [if_pos (by omega), if_pos (by omega), rd_nat l i hlt, List.drop_eq_getElem_cons hlt]
    by_cases h : l[i] = x
    · rw [if_pos h, decide_eq_true (by rw [h]; exact List.mem_cons_self ..)]
    · rw [if_neg h, wrap_nat i (by omega), ih (i + 1) k (by omega) (by omega)]
      congr 1
      apply decide_eq_decide.2
      rw [List.mem_cons]
      exact ⟨.inr, fun e => e.elim (fun e => absurd e.symm h) id⟩
theorem has_f (l : List Int) (x : Int) (k : Nat) (hl : l.length < 1000) (hk : 1000 ≤ k) : becketref04_Has.f k l x = some (decide (x ∈ l)) := by
  have := has_l0 l x hl l.length 0 k (by omega) (by omega)
  simpa [becketref04_Has.f] using this
/-- The ids below j that are in a list. -/
def inL (l : List Int) (j : Nat) : List Int := ((List.range j).filter fun (i : Nat) => decide ((i : Int) ∈ l)).map fun (i : Nat) => (i : Int)
theorem inL_succ (l : List Int) (j : Nat) : inL l (j + 1) = inL l j ++ if (j : Int) ∈ l then [(j : Int)] else [] := by
  unfold inL
  rw [List.range_succ, List.filter_append, List.map_append]
  by_cases h : (j : Int) ∈ l <;> simp [h]
theorem inL_length (l : List Int) (j : Nat) : (inL l j).length ≤ j := by
  unfold inL
  rw [List.length_map]
  have := List.length_filter_le (fun i : Nat => decide ((i : Int) ∈ l)) (List.range j)
  simpa using this
theorem of_l0 (l : List Int) (hl : l.length < 1000) : ∀ (d j k : Nat), j + d = 256 → 1000 + d < k → becketref04_Of.l0 k l (inL l j) (j : Int) = some (inL l 256) := by
  intro d
  induction d with
  | zero =>
    intro j k hj hk
    obtain ⟨k, rfl⟩ : ∃ m, k = m + 1 := ⟨k - 1, by omega⟩
    obtain rfl : j = 256 := by omega
    simp only [becketref04_Of.l0]
    rw [if_neg (by omega)]
  | succ d ih =>
    intro j k hj hk
    obtain ⟨k, rfl⟩ : ∃ m, k = m + 1 := ⟨k - 1, by omega⟩
    have hz := inL_length l j
    simp only [becketref04_Of.l0]
    rw [if_pos (by omega), has_f l _ k hl (by omega), wrap_nat j (by omega)]
    simp only [Option.bind_some, decide_eq_true_eq]
    have hs := inL_succ l j
    by_cases h : (j : Int) ∈ l
    · rw [if_pos h, if_pos (by omega)]
      rw [if_pos h] at hs
      rw [← hs]
      exact ih (j + 1) k (by omega) (by omega)
    · rw [if_neg h]
      rw [if_neg h, List.append_nil] at hs
      rw [← hs]
      exact ih (j + 1) k (by omega) (by omega)
theorem add_bits (s i : Nat) (n : Int) : (addS s n).testBit i = (s.testBit i || decide (i < 256 ∧ n = (i : Int))) := by
  unfold addS
  cases h : isId n with
  | true =>
    have := (Sets.isId_iff n).1 h
    rw [if_pos rfl, Nat.testBit_or, Nat.testBit_two_pow]
    congr 1
    apply decide_eq_decide.2
    omega
  | false =>
    have : ¬ (i < 256 ∧ n = (i : Int)) := by
      intro hc
      have : isId n = true := by rw [Sets.isId_iff]; omega
      rw [h] at this; cases this
    simp [this]
theorem setL_bits (l : List Int) (i : Nat) : (setL l).testBit i = decide (i < 256 ∧ (i : Int) ∈ l) := by
  have : ∀ (l : List Int) (s : Nat), (l.foldl addS s).testBit i = (s.testBit i || decide (i < 256 ∧ (i : Int) ∈ l)) := by
    intro l
    induction l with
    | nil => intro s; simp
    | cons x l ih =>
      intro s
      rw [List.foldl_cons, ih, add_bits, Bool.or_assoc]
      congr 1
      rw [← Bool.decide_or]
      apply decide_eq_decide.2
      rw [List.mem_cons]
      constructor
      · rintro (⟨h, e⟩ | ⟨h, e⟩)
        · exact ⟨h, .inl e.symm⟩
        · exact ⟨h, .inr e⟩
      · rintro ⟨h, e | e⟩
        · exact .inl ⟨h, e.symm⟩
        · exact .inr ⟨h, e⟩
  simpa [setL] using this l 0
theorem inL_eq (l : List Int) : inL l 256 = elsI (setL l) := by
  unfold inL elsI Sets.els
  congr 1
  apply List.filter_congr
  intro i hi
  rw [setL_bits]
  have := List.mem_range.1 hi
  simp [this]
theorem of_f (l : List Int) (k : Nat) (hl : l.length < 1000) (hk : 2000 ≤ k) : becketref04_Of.f k l = some (elsI (setL l)) := by
  rw [← inL_eq]
  exact of_l0 l hl 256 0 k (by omega) (by omega)
theorem mem_elsI (s : Nat) (x : Int) : x ∈ elsI s ↔ hasS s x = true := by
  unfold elsI Sets.els hasS
  rw [List.mem_map]
  constructor
  · rintro ⟨i, hi, rfl⟩
    rw [List.mem_filter, List.mem_range] at hi
    have : isId (i : Int) = true := by rw [Sets.isId_iff]; omega
    simp [this, hi.2]
  · intro h
    rw [Bool.and_eq_true, Sets.isId_iff] at h
    exact ⟨x.toNat, List.mem_filter.2 ⟨List.mem_range.2 (by omega), h.2⟩, by omega⟩
theorem elsI_len (s : Nat) : (elsI s).length ≤ 256 := by rw [elsI_length]; exact els_length s
theorem setL_elsI (s : Nat) (h : Sets.In s) : setL (elsI s) = s := by
  apply Nat.eq_of_testBit_eq
  intro i
  rw [setL_bits]
  by_cases hi : i < 256
  · have e : ((i : Int) ∈ elsI s) ↔ s.testBit i = true := by
      rw [mem_elsI]
      have : isId (i : Int) = true := by rw [Sets.isId_iff]; omega
      simp [hasS, this]
    rw [Bool.eq_iff_iff, decide_eq_true_iff]
    exact ⟨fun h => e.1 h.2, fun h => ⟨hi, e.2 h⟩⟩
  · rw [decide_eq_false (fun h => hi h.1)]
    exact (Nat.testBit_lt_two_pow (Nat.lt_of_lt_of_le h (Nat.pow_le_pow_right (by decide) (by omega)))).symm
theorem less_l0 (a b : List Int) (ha : a.length < 1000) (hb : b.length < 1000) : ∀ (d i k : Nat) (acc : List Int), i + d = a.length → acc.length ≤ i → 1000 + d < k → becketref04_Less.l0 k a b acc (i : Int) = some (acc ++ (a.drop i).filter fun x => !decide (x ∈ b)) := by
  intro d
  induction d with
  | zero =>
    intro i k acc hi _ hk
    obtain ⟨k, rfl⟩ : ∃ m, k = m + 1 := ⟨k - 1, by omega⟩
    simp only [becketref04_Less.l0]
    rw [if_neg (by omega), List.drop_of_length_le (by omega)]
    simp
  | succ d ih =>
    intro i k acc hi hz hk
    obtain ⟨k, rfl⟩ : ∃ m, k = m + 1 := ⟨k - 1, by omega⟩
    have hlt : i < a.length := by omega
    simp only [becketref04_Less.l0]
    rw [if_pos (by omega), if_pos (by omega), rd_nat a i hlt, has_f b _ k hb (by omega), wrap_nat i (by omega), List.drop_eq_getElem_cons hlt]
    simp only [Option.bind_some, decide_eq_true_eq]
    by_cases h : a[i] ∈ b
    · rw [if_pos h, ih (i + 1) k acc (by omega) (by omega) (by omega), List.filter_cons_of_neg (by simp [h])]
    · rw [if_neg h, if_pos (by omega), ih (i + 1) k _ (by omega) (by simp; omega) (by omega), List.filter_cons_of_pos (by simp [h]), List.append_assoc]
      rfl
theorem less_f (a b : List Int) (k : Nat) (ha : a.length < 1000) (hb : b.length < 1000) (hk : 2000 ≤ k) : becketref04_Less.f k a b = some (a.filter fun x => !decide (x ∈ b)) := by
  have := less_l0 a b ha hb a.length 0 k [] (by omega) (by simp) (by omega)
  simpa [becketref04_Less.f] using this
theorem fine_l0 (m a : List Int) (hm : m.length < 1000) (ha : a.length < 1000) : ∀ (d i k : Nat), i + d = m.length → 2000 + d < k → becketref21_Fine.l0 k (i : Int) m a = some (decide (∀ x ∈ m.drop i, 0 ≤ x ∧ x ≤ 15) && decide (a.filter (fun x => !decide (x ∈ m)) = [])) := by
  intro d
  induction d with
  | zero =>
    intro i k hi hk
    obtain ⟨k, rfl⟩ : ∃ m, k = m + 1 := ⟨k - 1, by omega⟩
    simp only [becketref21_Fine.l0]
    rw [if_neg (by omega), List.drop_of_length_le (by omega), less_f a m k ha hm (by omega)]
    simp only [Option.bind_some, Option.some.injEq]
    cases a.filter (fun x => !decide (x ∈ m)) <;> simp <;> omega
  | succ d ih =>
    intro i k hi hk
    obtain ⟨k, rfl⟩ : ∃ m, k = m + 1 := ⟨k - 1, by omega⟩
    have hlt : i < m.length := by omega
    simp only [becketref21_Fine.l0]
    rw [if_pos (by omega), if_pos (by omega), rd_nat m i hlt, wrap_nat i (by omega), List.drop_eq_getElem_cons hlt]
    by_cases h0 : m[i] < 0
    · rw [if_pos h0, decide_eq_false (fun h => by have := (h _ (List.mem_cons_self ..)).1; omega)]; rfl
    · rw [if_neg h0]
      by_cases h1 : m[i] > 15
      · rw [if_pos h1, decide_eq_false (fun h => by have := (h _ (List.mem_cons_self ..)).2; omega)]; rfl
      · rw [if_neg h1, ih (i + 1) k (by omega) (by omega)]
        congr 2
        apply decide_eq_decide.2
        rw [List.forall_mem_cons]
        exact ⟨fun h => ⟨by omega, h⟩, fun h => h.2⟩
theorem bit_lt {s i : Nat} (h : Sets.In s) (hb : s.testBit i = true) : i < 256 := by
  by_cases hi : i < 256
  · exact hi
  · rw [Nat.testBit_lt_two_pow (Nat.lt_of_lt_of_le h (Nat.pow_le_pow_right (by decide) (by omega)))] at hb
    cases hb
theorem mem_bit (s i : Nat) (hi : i < 256) : ((i : Int) ∈ elsI s) ↔ s.testBit i = true := by
  rw [mem_elsI]
  have : isId (i : Int) = true := by rw [Sets.isId_iff]; omega
  simp [hasS, this]
theorem mem_cast {s : Nat} {x : Int} (h : x ∈ elsI s) : ∃ i : Nat, x = (i : Int) ∧ i < 256 := by
  unfold elsI at h
  obtain ⟨i, hi, rfl⟩ := List.mem_map.1 h
  unfold Sets.els at hi
  exact ⟨i, rfl, List.mem_range.1 (List.mem_filter.1 hi).1⟩
theorem sub_els (m a : Nat) (hm : Sets.In m) (ha : Sets.In a) : ((elsI a).filter (fun x => !decide (x ∈ elsI m)) = []) ↔ ∀ i, a.testBit i = true → m.testBit i = true := by
  rw [List.filter_eq_nil_iff]
  constructor
  · intro h i hi
    have hl := bit_lt ha hi
    have := h _ ((mem_bit a i hl).2 hi)
    simp at this
    exact (mem_bit m i hl).1 this
  · intro h x hx
    obtain ⟨i, rfl, hl⟩ := mem_cast hx
    have := (mem_bit m i hl).2 (h i ((mem_bit a i hl).1 hx))
    simp [this]
theorem ref_fine (m a : Nat) (hm : Sets.In m) (ha : Sets.In a) (k : Nat) (hk : 4000 ≤ k) : becketref21_Fine.f k (elsI m) (elsI a) = some (fineR m a) := by
  have lm := elsI_len m
  have la := elsI_len a
  have := fine_l0 (elsI m) (elsI a) (by omega) (by omega) (elsI m).length 0 k (by omega) (by omega)
  rw [List.drop_zero] at this
  unfold becketref21_Fine.f
  rw [show ((0 : Nat) : Int) = 0 from rfl] at this
  rw [this]
  congr 1
  rw [Bool.eq_iff_iff, Bool.and_eq_true, decide_eq_true_iff, decide_eq_true_iff, Rc.fine_iff, sub_els m a hm ha]
  constructor
  · rintro ⟨h, h'⟩
    refine ⟨fun i hi => ?_, h'⟩
    have := h _ ((mem_bit m i (bit_lt hm hi)).2 hi)
    omega
  · rintro ⟨h, h'⟩
    refine ⟨fun x hx => ?_, h'⟩
    obtain ⟨i, rfl, hl⟩ := mem_cast hx
    have := h i ((mem_bit m i hl).1 hx)
    omega
theorem els_pos (m : Nat) (hm : Sets.In m) : (elsI m).length = 0 ↔ m = 0 := by
  constructor
  · intro h
    have h' : elsI m = [] := List.length_eq_zero_iff.1 h
    rw [← setL_elsI m hm, h']
    rfl
  · rintro rfl
    rw [elsI_length]
    decide
theorem els_sub (m a : Nat) (h : ∀ i, a.testBit i = true → m.testBit i = true) : (elsI a) = (elsI m).filter (fun x => decide (x ∈ elsI a)) := by
  have e : Sets.els a = (Sets.els m).filter a.testBit := by
    unfold Sets.els
    rw [List.filter_filter]
    apply List.filter_congr
    intro i _
    cases ha : a.testBit i with
    | false => simp
    | true => simp [h i ha]
  conv => lhs; unfold elsI; rw [e]
  conv => rhs; arg 2; unfold elsI
  rw [List.filter_map]
  congr 1
  apply List.filter_congr
  intro i hi
  have hl : i < 256 := by
    unfold Sets.els at hi
    exact List.mem_range.1 (List.mem_filter.1 hi).1
  have := mem_bit a i hl
  show a.testBit i = decide ((i : Int) ∈ elsI a)
  rw [Bool.eq_iff_iff, decide_eq_true_iff]
  exact this.symm
theorem els_same (m a : Nat) (hm : Sets.In m) (ha : Sets.In a) (h : ∀ i, a.testBit i = true → m.testBit i = true) : (elsI a).length = (elsI m).length ↔ a = m := by
  constructor
  · intro hl
    have e := els_sub m a h
    rw [e] at hl
    have := List.filter_sublist (p := fun x => decide (x ∈ elsI a)) (l := elsI m)
    have := this.eq_of_length hl
    rw [this] at e
    rw [← setL_elsI m hm, ← setL_elsI a ha, e]
  · rintro rfl; rfl
theorem ref_full (m a : Nat) (hm : Sets.In m) (ha : Sets.In a) (k : Nat) (hk : 4000 ≤ k) : becketref21_Full.f k (elsI m) (elsI a) = some (fullR m a) := by
  unfold becketref21_Full.f
  rw [ref_fine m a hm ha k hk, Option.bind_some]
  unfold fullR
  cases hf : fineR m a with
  | false => rfl
  | true =>
    have hs := ((Rc.fine_iff m a).1 hf).2
    rw [if_pos rfl, Bool.true_and]
    have e := els_same m a hm ha hs
    have p := els_pos m hm
    by_cases hz : m = 0
    · have : ¬ ((elsI m).length : Int) > 0 := by have := p.2 hz; omega
      rw [if_neg this]
      by_cases h : a = m
      · simp [h, hz]
      · simp [h]
    · have : ((elsI m).length : Int) > 0 := by have := mt p.1 hz; omega
      rw [if_pos this]
      congr 1
      by_cases h : a = m
      · subst h; simp [hz]
      · have : ¬ (elsI a).length = (elsI m).length := fun x => h (e.1 x)
        have : ((((elsI a).length : Int)) == ((elsI m).length : Int)) = false := by simp; omega
        rw [this]; simp [h]
theorem ref_fire (m a : Nat) (hm : Sets.In m) (ha : Sets.In a) (k : Nat) (hk : 4000 ≤ k) :
    becketref21_Fire.f k (elsI m) (elsI a) = some (if fineR m a then (if fullR m a then (elsI m, [], elsI a, 0) else (elsI m, elsI a, [], 13)) else (elsI m, elsI a, [], 1)) := by
  unfold becketref21_Fire.f
  rw [ref_fine m a hm ha k hk, ref_full m a hm ha k hk]
  simp only [Option.bind_some]
  cases fineR m a <;> cases fullR m a <;> rfl
theorem same_l0 (a b : List Int) (hl : a.length < 1000) (he : a.length = b.length) : ∀ (d i k : Nat), i + d = a.length → d < k → becketref02_Same.l0 k a b (i : Int) = some (decide (a.drop i = b.drop i)) := by
  intro d
  induction d with
  | zero =>
    intro i k hi hk
    obtain ⟨k, rfl⟩ : ∃ m, k = m + 1 := ⟨k - 1, by omega⟩
    simp only [becketref02_Same.l0]
    rw [if_neg (by omega), List.drop_of_length_le (by omega), List.drop_of_length_le (by omega)]
    simp
  | succ d ih =>
    intro i k hi hk
    obtain ⟨k, rfl⟩ : ∃ m, k = m + 1 := ⟨k - 1, by omega⟩
    have hlt : i < a.length := by omega
    have hlt' : i < b.length := by omega
    simp only [becketref02_Same.l0]
    rw [if_pos (by omega), if_pos (by omega), if_pos (by omega), rd_nat a i hlt, rd_nat b i hlt', wrap_nat i (by omega), List.drop_eq_getElem_cons hlt, List.drop_eq_getElem_cons hlt']
    by_cases h : a[i] = b[i]
    · rw [if_pos h, ih (i + 1) k (by omega) (by omega)]
      congr 1
      apply decide_eq_decide.2
      rw [List.cons.injEq]
      exact ⟨fun e => ⟨h, e⟩, fun e => e.2⟩
    · rw [if_neg h, decide_eq_false (fun e => h (List.cons.inj e).1)]
theorem same_f (a b : List Int) (k : Nat) (hl : a.length < 1000) (hk : 1000 ≤ k) : becketref02_Same.f k a b = some (decide (a = b)) := by
  unfold becketref02_Same.f
  by_cases he : a.length = b.length
  · rw [if_pos (by omega)]
    have := same_l0 a b hl he a.length 0 k (by omega) (by omega)
    simpa using this
  · rw [if_neg (by omega), decide_eq_false (fun h => he (by rw [h]))]
def fineP (ph lim : Int) : Bool := decide (1 ≤ lim) && (decide (lim ≤ 65535) && (decide (0 ≤ ph) && decide (ph ≤ lim)))
theorem fineP_iff (ph lim : Int) : fineP ph lim = true ↔ 1 ≤ lim ∧ lim ≤ 65535 ∧ 0 ≤ ph ∧ ph ≤ lim := by simp [fineP]
theorem phase_fine (ph lim : Int) : phase_Fine.f ph lim = some (fineP ph lim) := by
  unfold phase_Fine.f fineP
  by_cases h1 : 1 ≤ lim <;> by_cases h2 : lim ≤ 65535 <;> by_cases h3 : 0 ≤ ph <;> simp [h1, h2, h3]
theorem ref_phase (ph lim : Int) : becketref20_Fine.f ph lim = some (fineP ph lim) := by
  unfold becketref20_Fine.f fineP
  by_cases h1 : 1 ≤ lim <;> by_cases h2 : lim ≤ 65535 <;> by_cases h3 : 0 ≤ ph <;> simp [h1, h2, h3]
def fineB (lim ph : Int) (m a : Nat) : Bool := fineP ph lim && fineR m a
def readyB (lim ph : Int) (m a : Nat) : Bool := fineB lim ph m a && (fullR m a && decide (ph < lim))
theorem ref_bar_fine (t : Bool) (lim ph : Int) (m a : Nat) (hm : Sets.In m) (ha : Sets.In a) (k : Nat) (hk : 4000 ≤ k) : becketref22_Fine.f k t lim (elsI m) (elsI a) ph = some (fineB lim ph m a) := by
  unfold becketref22_Fine.f fineB
  rw [ref_phase, ref_fine m a hm ha k hk]
  simp only [Option.bind_some]
  cases fineP ph lim <;> rfl
theorem ref_bar_ready (t : Bool) (lim ph : Int) (m a : Nat) (hm : Sets.In m) (ha : Sets.In a) (k : Nat) (hk : 4000 ≤ k) : becketref22_Ready.f k t lim (elsI m) (elsI a) ph = some (readyB lim ph m a) := by
  unfold becketref22_Ready.f readyB
  rw [ref_bar_fine t lim ph m a hm ha k hk, ref_full m a hm ha k hk]
  simp only [Option.bind_some]
  cases fineB lim ph m a <;> cases fullR m a <;> rfl
/-- What a fired barrier is, in the document's lists. -/
def fireB (t : Bool) (lim ph : Int) (m a : Nat) : Bool × Int × List Int × List Int × Int × List Int × Int :=
  if fineB lim ph m a then (if readyB lim ph m a then (t, lim, elsI m, [], wrap64 (ph + 1), elsI a, 0) else (t, lim, elsI m, elsI a, ph, [], 13)) else (t, lim, elsI m, elsI a, ph, [], 1)
theorem ref_bar_fire (t : Bool) (lim ph : Int) (m a : Nat) (hm : Sets.In m) (ha : Sets.In a) (k : Nat) (hk : 4000 ≤ k) : becketref22_Fire.f k t lim (elsI m) (elsI a) ph = some (fireB t lim ph m a) := by
  unfold becketref22_Fire.f fireB
  rw [ref_bar_fine t lim ph m a hm ha k hk, ref_bar_ready t lim ph m a hm ha k hk, ref_fire m a hm ha k hk]
  simp only [Option.bind_some]
  cases hf : fineB lim ph m a with
  | false => rfl
  | true =>
    cases hr : readyB lim ph m a with
    | false => rfl
    | true =>
      have h1 : fineR m a = true := by unfold fineB at hf; rw [Bool.and_eq_true] at hf; exact hf.2
      have h2 : fullR m a = true := by unfold readyB at hr; rw [Bool.and_eq_true, Bool.and_eq_true] at hr; exact hr.2.1
      rw [h1, h2]
      rfl
end Go.Proofs.YtdaionnpgcdkdaaDoor.RBar
