/- bitset.List, a range over the iterator bitset.All. -/
import Derived.Test.YtdaionnpgcdkdaaDoorBs
import Derived.RangeFuncBox
import Derived.RangeFuncLeaves
import Derived.Shelf.Abstract
import Derived.OwnWalkIn
import Derived.TacticsInMore
import Derived.LoopNIn
import Derived.LoopIn
import Derived.Maps.AppendAt
set_option linter.unusedVariables false
set_option linter.unusedSimpArgs false
namespace Go.Proofs.YtdaionnpgcdkdaaDoor
open Go.RowKit Go.Shelf
attribute [local go_sem] Oper.semAt_some

/-- The box of a set lies in the world. -/
def SetAt (W : World) (B : Nat) (s : Nat) : Prop := W.heap[B]? = some (.cells #[.int .u64 (Sets.wd s 0), .int .u64 (Sets.wd s 1), .int .u64 (Sets.wd s 2), .int .u64 (Sets.wd s 3)] 26 (0, 0))
theorem SetAt.lt {W : World} {B s : Nat} (h : SetAt W B s) : B < W.heap.size := (Array.getElem?_eq_some_iff.1 h).1
theorem SetAt.cells {W : World} {B s : Nat} (h : SetAt W B s) : W.cell? ⟨B, 0, none⟩ = some (.int .u64 (Sets.wd s 0)) ∧ W.cell? ⟨B, 1, none⟩ = some (.int .u64 (Sets.wd s 1)) ∧ W.cell? ⟨B, 2, none⟩ = some (.int .u64 (Sets.wd s 2)) ∧ W.cell? ⟨B, 3, none⟩ = some (.int .u64 (Sets.wd s 3)) := by
  simp [World.cell?, show W.heap[B]? = _ from h]
/-- What a round keeps: the iterator's own box, and the variables. -/
def Kb (B : Nat) (A W : World) : Prop := A.heap.size ≤ W.heap.size ∧ ∀ i, (i = B ∨ i < 2) → i < A.heap.size → W.heap[i]? = A.heap[i]?
theorem Kb.trans {B : Nat} {A W V : World} (h : Kb B A W) (k : Kb B W V) : Kb B A V :=
  ⟨Nat.le_trans h.1 k.1, fun i hi hl => (k.2 i hi (Nat.lt_of_lt_of_le hl h.1)).trans (h.2 i hi hl)⟩
theorem Kb.of_below {B : Nat} {A W : World} (h : Below A.heap.size A W) : Kb B A W := ⟨h.size, fun i _ hl => h.block i hl⟩
theorem SetAt.kept {A W : World} {B s : Nat} (h : SetAt A B s) (k : Kb B A W) : SetAt W B s := (k.2 B (.inl rfl) h.lt).trans h
theorem cell_kept_block {A W : World} {b o : Nat} {v : Value} (e : W.heap[b]? = A.heap[b]?) (h : A.cell? ⟨b, o, none⟩ = some v) : W.cell? ⟨b, o, none⟩ = some v := by
  rw [← h]; simp [World.cell?, e]
theorem GL.kept {A W : World} {B : Nat} (h : GL A) (k : Kb B A W) (hs : 2 ≤ A.heap.size) : GL W :=
  ⟨cell_kept_block (k.2 _ (.inr (by decide)) (by omega)) h.e0, cell_kept_block (k.2 _ (.inr (by decide)) (by omega)) h.e1, cell_kept_block (k.2 _ (.inr (by decide)) (by omega)) h.e2, cell_kept_block (k.2 _ (.inr (by decide)) (by omega)) h.e3,
   fun j hj => cell_kept_block (k.2 _ (.inr (by decide)) (by omega)) (h.tab j hj)⟩
theorem grown_of_below {w w1 : World} (h : Below w.heap.size w w1) (row : Option Nat) : w.grownBy w1 row := ⟨h.os, h.tape, h.output, h.size, fun i hi _ => h.block i hi⟩

/-- What Next tells. -/
def NextIs (s n : Nat) (g : Bool) (m : Nat) : Prop := (g = true → Ctz.Next s n m) ∧ (g = false → Ctz.None s n ∧ m = 0)
theorem next_any (s : Nat) (n : Nat) (hn : n ≤ 256) (w : World) (hG : GL w) :
    Calls Tryd.prog 109 #[.agg #[.int .u64 (Sets.wd s 0), .int .u64 (Sets.wd s 1), .int .u64 (Sets.wd s 2), .int .u64 (Sets.wd s 3)], .int .i64 n] w fun e w' => (∃ g m, NextIs s n g m ∧ e = .returned (.tuple #[.int .i64 (m : Int), .bool g])) ∧ Below w.heap.size w w' := by
  refine (next_walk s n hn w hG).mono ?_
  rintro e w' ⟨⟨m, ⟨h, rfl⟩ | ⟨h, rfl⟩⟩, hb⟩
  · exact ⟨⟨true, m, ⟨fun _ => h, fun h => by cases h⟩, rfl⟩, hb⟩
  · exact ⟨⟨false, 0, ⟨fun h => (by cases h), fun _ => ⟨h, rfl⟩⟩, rfl⟩, hb⟩
/-- Between two rounds. -/
def Left (s : Nat) (pre : List Nat) (g : Bool) (m : Nat) : Prop := (g = true → m < 256 ∧ Sets.els s = pre ++ m :: Ctz.from_ s (m + 1)) ∧ (g = false → Sets.els s = pre)
theorem left_start (s : Nat) (g : Bool) (m : Nat) (h : NextIs s 0 g m) : Left s [] g m :=
  ⟨fun e => ⟨(h.1 e).lt, by rw [← Ctz.from_zero, Ctz.from_next s 0 m (h.1 e)]; rfl⟩, fun e => by rw [← Ctz.from_zero, Ctz.from_none s 0 (h.2 e).1]⟩
theorem left_next (s : Nat) (pre : List Nat) (m : Nat) (hl : Left s pre true m) (g : Bool) (m' : Nat) (h : NextIs s (m + 1) g m') : Left s (pre ++ [m]) g m' := by
  obtain ⟨h1, h2⟩ := hl.1 rfl
  refine ⟨fun e => ⟨(h.1 e).lt, ?_⟩, fun e => ?_⟩
  · rw [h2, Ctz.from_next s (m + 1) m' (h.1 e)]; simp
  · rw [h2, Ctz.from_none s (m + 1) (h.2 e).1]
theorem left_short (s : Nat) (pre : List Nat) (m : Nat) (hl : Left s pre true m) : pre.length < 256 := by
  have h := (hl.1 rfl).2
  have hl := congrArg List.length h
  have : (Sets.els s).length ≤ 256 := by
    have := List.length_filter_le s.testBit (List.range 256)
    simpa [Sets.els] using this
  simp at hl
  omega
def meas (i b : Value) : Nat := match b with | .bool true => 257 - (intOf i).toNat | _ => 0
theorem meas_true (m : Nat) : meas (.int .i64 (m : Int)) (.bool true) = 257 - m := by simp [meas, intOf]
theorem meas_false (v : Value) : meas v (.bool false) = 0 := rfl

set_option maxRecDepth 100000 in
set_option maxHeartbeats 2000000 in
theorem all1_in (n l Bn s : Nat) (J Jx : List Nat → World → Prop) (hn : 1 ≤ n)
    (hY : ∀ pre x W, J pre W → pre.length < 256 → YieldAt Fence.wide (n - 1) Tryd.prog l #[.int .i64 (x : Nat)] W fun e W' =>
      (e = .returned (.bool true) ∧ J (pre ++ [x]) W' ∧ Kb Bn W W') ∨ (e = .returned (.bool false) ∧ Jx (pre ++ [x]) W'))
    (W : World) (hJ : AbidesFrom W.heap.size J) (hS : SetAt W Bn s) (hG : GL W) (h2 : 2 ≤ W.heap.size) (h0 : J [] W) :
    CallsIn Fence.wide n Tryd.prog 108 #[.func (.yield l) #[] #[], .pointer (some ⟨Bn, 0, none⟩)] W fun e W' => (∃ v, e = .returned v) ∧
      ((∃ ys, ys = Sets.els s ∧ J ys W') ∨ (∃ pre, pre <+: Sets.els s ∧ Jx pre W')) := by
  obtain ⟨c0, c1, c2, c3⟩ := hS.cells
  refine callsIn_of_wp Tryd.func108 rfl trivial ?_ rfl
  simp only [Tryd.ntmps108, List.size_toArray, List.length_cons, List.length_nil, Nat.reduceAdd, Nat.reduceSub, Array.replicate_succ, Array.replicate_zero, List.push_toArray, List.append_toArray, List.nil_append, List.cons_append]
  have HS := Lib.hid hS
  clear hS
  gi_wp2_with (refine ⟨trivial, ?_⟩; gi_at_call 109; refine (callsIn_wide.2 (next_any s 0 (by omega) _ hG)).mono ?_; rintro e w1 ⟨⟨g0, m0, hN, rfl⟩, hb1⟩)
  have hJ1 : J [] w1 := hJ [] W w1 none h0 (grown_of_below hb1 none) (fun r e => by cases e)
  have hS1 := HS.out.kept (Kb.of_below hb1)
  have hG1 := hG.below hb1
  have hW1 : 2 ≤ w1.heap.size := Nat.le_trans h2 hb1.size
  clear c0 c1 c2 c3 HS hG h0 hb1
  gi_loopw [3, 4] (fun i b wr => ∃ (pre : List Nat) (g : Bool) (m : Nat), b = .bool g ∧ i = .int .i64 m ∧ Left s pre g m ∧ J pre wr ∧ SetAt wr Bn s ∧ GL wr ∧ 2 ≤ wr.heap.size)
      (fun i b _ => meas i b)
  case atStart => exact ⟨[], g0, m0, rfl, rfl, left_start s g0 m0 hN, hJ1, hS1, hG1, hW1⟩
  case round =>
    clear hJ1 hS1 hG1 hW1 hN
    obtain ⟨pre, g, m, rfl, rfl, hL, hJr, hSr, hGr, hWr⟩ := hrel
    have HS := Lib.hid hSr
    clear hSr
    cases g with
    | false =>
      gi_wp2
      go_end0
      exact ⟨⟨_, rfl⟩, .inl ⟨pre, (hL.2 rfl).symm, hJr⟩⟩
    | true =>
      obtain ⟨fn, tmps, assign, body, hy, hR⟩ := hY pre m wr hJr (left_short s pre m hL)
      have hm := (hL.1 rfl).1
      gi_wp2_with fail
      refine hR.mono ?_
      rintro e W3 (⟨rfl, hJ3, hk3⟩ | ⟨rfl, hJx3⟩)
      · have HS3 := Lib.hid (HS.out.kept hk3)
        have hG3 := hGr.kept hk3 hWr
        have hW3 : 2 ≤ W3.heap.size := Nat.le_trans hWr hk3.1
        obtain ⟨c0, c1, c2, c3⟩ := HS3.out.cells
        gi_wp2_with (refine ⟨trivial, ?_⟩; gi_at_call 109; refine (callsIn_wide.2 (next_any s (m + 1) (by omega) _ hG3)).mono ?_; rintro e w4 ⟨⟨g', m', hN, rfl⟩, hb4⟩)
        refine ⟨⟨pre ++ [m], g', m', rfl, rfl, left_next s pre m hL g' m' hN, hJ _ W3 w4 none hJ3 (grown_of_below hb4 none) (fun r e => by cases e), HS3.out.kept (Kb.of_below hb4), hG3.below hb4, Nat.le_trans hW3 hb4.size⟩, ?_⟩
        rw [meas_true]
        cases g' with
        | false => rw [meas_false]; omega
        | true =>
          have := (hN.1 rfl).le
          have := (hN.1 rfl).lt
          rw [meas_true]
          omega
      · gi_wp2_with fail
        refine bodyPost_ret (results_none rfl _ _ _) rfl ?_
        exact ⟨⟨_, rfl⟩, .inr ⟨pre ++ [m], ⟨Ctz.from_ s (m + 1), by rw [(hL.1 rfl).2]; simp⟩, hJx3⟩⟩

theorem all_any (s : Nat) (w : World) :
    Calls Tryd.prog 99 #[.agg #[.int .u64 (Sets.wd s 0), .int .u64 (Sets.wd s 1), .int .u64 (Sets.wd s 2), .int .u64 (Sets.wd s 3)]] w fun e w' => e = .returned (.func (.func 108) #[] #[.pointer (some ⟨w.heap.size, 0, none⟩)]) ∧ w' = w.alloc (.cells #[.int .u64 (Sets.wd s 0), .int .u64 (Sets.wd s 1), .int .u64 (Sets.wd s 2), .int .u64 (Sets.wd s 3)] 26) := by
  go_enter Tryd.func99, Tryd.ntmps99
  go_wp2
  go_ret
  exact ⟨rfl, rfl⟩
theorem all_stops (n Bn s : Nat) (hn : 1 ≤ n) (w : World) (hS : SetAt w Bn s) (hG : GL w) (h2 : 2 ≤ w.heap.size) :
    SeqStopsK Fence.wide n Tryd.prog 108 #[.pointer (some ⟨Bn, 0, none⟩)] (fun x : Nat => #[Value.int .i64 (x : Nat)]) (Kb Bn) (fun ys => ys = Sets.els s) (fun pre => pre <+: Sets.els s) 256 w := fun l J Jx W hW hJ _ hY h0 =>
  all1_in n l Bn s J Jx hn hY W hJ (hS.kept (Kb.of_below hW)) (hG.below hW) (Nat.le_trans h2 hW.size) h0

theorem info3 : (Tryd.prog.info? 3).map (fun i => (i.zero, i.size, i.bytes)) = some (some (.int .i64 0), 1, 8) := by kernel_rfl
/-- A list of numbers, as Go's ints. -/
def ints (l : List Nat) : List Value := l.map fun x => .int .i64 (x : Nat)
theorem Kb_put (W : World) (l : Nat) (o o' : Obj) (B : Nat) (hB : B < l) (h2 : 2 ≤ l) (h : W.heap[l]? = some o) : Kb B W (W.putObj l o') :=
  ⟨by simp [World.putObj], fun i hi _ => World.putObj_heap_other (by rcases hi with rfl | hi <;> omega)⟩
theorem setAt_own (B s : Nat) : Own (fun (_ : List Nat) W => SetAt W B s) := by
  rintro _ X Y row h hg hrow
  refine (hg.block B h.lt (fun e' => ?_)).trans h
  obtain ⟨o, ho, hc⟩ := hrow B e'.symm
  rw [show X.heap[B]? = _ from h] at ho; cases ho; cases hc
theorem own_apart {W : World} {base k B s : Nat} {v : Value} {xs : List Value} (h : W.ownsRow base 3 1 v k xs) (hS : SetAt W B s) : some B ≠ v.ownBlock := by
  rcases h.2 with ⟨rfl, _⟩ | ⟨g, cap, cur, rfl, _, hgb, _⟩
  · simp [Value.ownBlock]
  · intro e'
    obtain rfl : B = g := by simpa [Value.ownBlock] using e'
    have := (show W.heap[B]? = _ from hS).symm.trans hgb
    simp at this
theorem kb_append {W w1 : World} {B n₀ L : Nat} {v : Value} {tmp : Obj} {u : Value} (hg : (W.alloc tmp).grownBy w1 v.ownBlock) (hne : some B ≠ v.ownBlock) (hB : B < W.heap.size) (hLB : L ≠ B) (hn₀ : 2 ≤ n₀) (hb : Below n₀ W (w1.setCell ⟨L, 0, none⟩ u)) : Kb B W (w1.setCell ⟨L, 0, none⟩ u) := by
  refine ⟨hb.size, fun i hi hl => ?_⟩
  rcases hi with rfl | hi
  · rw [Below.heap_setCell _ _ _ i (fun e => hLB e.symm), hg.block i (by simp; omega) hne]
    exact Below.heap_alloc _ _ _ hl
  · exact hb.block i (by omega)
theorem ints_snoc (l : List Nat) (x : Nat) : ints (l ++ [x]) = ints l ++ [.int .i64 (x : Nat)] := by simp [ints]
theorem ints_length (l : List Nat) : (ints l).length = l.length := by simp [ints]

set_option maxRecDepth 100000 in
set_option maxHeartbeats 2000000 in
theorem list_in (s : Nat) (w : World) (hG : GL w) (h2 : 2 ≤ w.heap.size) :
    CallsIn Fence.wide 4 Tryd.prog 71 #[.agg #[.int .u64 (Sets.wd s 0), .int .u64 (Sets.wd s 1), .int .u64 (Sets.wd s 2), .int .u64 (Sets.wd s 3)]] w fun e W' => ∃ v, e = .returned v ∧ W'.ownsRow w.heap.size 3 1 v (Sets.els s).length (ints (Sets.els s)) ∧ (v = .slice none 0 0 ↔ Sets.els s = []) ∧ Below w.heap.size w W' := by
  obtain ⟨i0, hi, hz0, hz1, hz2⟩ := info_parts info3
  refine callsIn_of_wp_marks Tryd.func71 rfl trivial ?_ rfl
  simp only [Tryd.ntmps71, List.size_toArray, List.length_cons, List.length_nil, Nat.reduceAdd, Nat.reduceSub, Array.replicate_succ, Array.replicate_zero, List.push_toArray, List.append_toArray, List.nil_append, List.cons_append]
  gi_wp2_with (refine ⟨trivial, ?_⟩; gi_at_call 99; refine (callsIn_wide.2 (all_any s _)).mono ?_; rintro e w' ⟨rfl, rfl⟩)
  have bL := Boxed.new (w.alloc (.cells #[.int .u64 (Sets.wd s 0), .int .u64 (Sets.wd s 1), .int .u64 (Sets.wd s 2), .int .u64 (Sets.wd s 3)] 26)) 37 (.slice none 0 0)
  rw [World.size_alloc] at bL
  obtain ⟨W0, hW0⟩ : ∃ W0, ((w.alloc (.cells #[.int .u64 (Sets.wd s 0), .int .u64 (Sets.wd s 1), .int .u64 (Sets.wd s 2), .int .u64 (Sets.wd s 3)] 26)).alloc (.cells #[.slice none 0 0] 37)).alloc (.cells #[.int .u64 (Sets.wd s 0), .int .u64 (Sets.wd s 1), .int .u64 (Sets.wd s 2), .int .u64 (Sets.wd s 3)] 26) = W0 := ⟨_, rfl⟩
  have hsz : W0.heap.size = w.heap.size + 3 := by rw [← hW0]; simp
  have bS : SetAt W0 (w.heap.size + 1 + 1) s := by
    have := World.alloc_heap_new ((w.alloc (.cells #[.int .u64 (Sets.wd s 0), .int .u64 (Sets.wd s 1), .int .u64 (Sets.wd s 2), .int .u64 (Sets.wd s 3)] 26)).alloc (.cells #[.slice none 0 0] 37)) (.cells #[.int .u64 (Sets.wd s 0), .int .u64 (Sets.wd s 1), .int .u64 (Sets.wd s 2), .int .u64 (Sets.wd s 3)] 26)
    rw [World.size_alloc, World.size_alloc, hW0] at this
    exact this
  have bL0 : Boxed W0 (w.heap.size + 1) 37 (.slice none 0 0) := by rw [← hW0]; exact bL.alloc _
  have hB0 : Below w.heap.size w W0 := by rw [← hW0]; exact (((Below.refl _ w).alloc (Nat.le_refl _) _).alloc (by simp) _).alloc (by simp; omega) _
  have hG0 : GL W0 := hG.below hB0
  rw [hW0]
  refine wpIn_rangeFunc_ownF rfl (by omega) (gf := 108) (lb := #[.pointer (some ⟨w.heap.size + 1 + 1, 0, none⟩)]) rfl trivial (enters_of Tryd.func108 (by kernel_rfl) rfl)
    (all_stops (4 - 1) (w.heap.size + 1 + 1) s (by omega) W0 bS hG0 (by omega)) (fun h k => Kb.trans h k) (fun W l o o' hl h ho _ => Kb_put W l o o' (w.heap.size + 1 + 1) (by omega) (by omega) h) (Below.refl _ _) (fun _ => rfl)
    (fun pre W => ((∃ v, Boxed W (w.heap.size + 1) 37 v ∧ W.ownsRow w.heap.size 3 1 v pre.length (ints pre) ∧ (v = .slice none 0 0 ↔ pre = [])) ∧ SetAt W (w.heap.size + 1 + 1) s) ∧ Below w.heap.size w W)
    (fun _ _ _ => False)
    (OwnFrom.and (OwnFrom.and (Own.from (holdsRow_own w.heap.size (w.heap.size + 1) 37 3 1 (fun pre => pre.length) ints (fun pre v => v = .slice none 0 0 ↔ pre = [])) _) (Own.from (setAt_own _ _) _)) (ownFrom_below (Nat.le_refl _) (by omega)))
    (fun _ _ _ _ _ hs _ _ => hs)
    ⟨⟨⟨_, bL0, World.ownsRow_nil _ _ _ _, by simp⟩, bS⟩, hB0⟩
    (fun x => { tmps := #[.agg #[.int .u64 (Sets.wd s 0), .int .u64 (Sets.wd s 1), .int .u64 (Sets.wd s 2), .int .u64 (Sets.wd s 3)], .pointer (some ⟨w.heap.size, 0, none⟩), .slice none 0 0, .pointer (some ⟨w.heap.size + 1, 0, none⟩), .int .i64 (x : Nat), .agg #[.int .u64 (Sets.wd s 0), .int .u64 (Sets.wd s 1), .int .u64 (Sets.wd s 2), .int .u64 (Sets.wd s 3)], .func (.func 108) #[] #[.pointer (some ⟨w.heap.size + 1 + 1, 0, none⟩)], .int .i64 (x : Nat), undef, undef, undef, undef, undef], defers := [] }) ?assign ?body ?done ?stop
  case assign =>
    intro l x W K hK
    gi_wp2
    exact hK
  case body =>
    rintro l pre x W ⟨⟨⟨v, hv, hrow, hnil⟩, hS⟩, hB⟩ hlt
    have hc := hv.cell
    have HS := Lib.hid hS
    clear hS
    have hnl := ints_length pre
    have HN := Lib.hid hnl
    clear hnl
    gi_wp2_with (gi_at_builtin; refine wpListIn_append_own _ rfl _ _ 37 rfl w.heap.size 3 i0 (.int .i64 0) 1 8 Tryd.underlying37 hi hz0 hz1 hz2 rfl (by decide) _ _ _ rfl (hrow.alloc _) ⟨W.heap.size, 0, none⟩ 1 1 [.int .i64 (x : Nat)] rfl rfl (cell_one_new _ _ _) (by simp [Value.oneCell']) (by unfold maxLen; omega) (by omega) (by have := hB.size; simp; omega) ?_; intro v' w1 hown' hgrow _; obtain ⟨g', cap', rfl⟩ := ownsRow_succ hown'; have hne := own_apart hrow HS.out; obtain ⟨hv1, hv2, hr2, hk2, hb2⟩ := hv.appended (by decide) hrow hB.size (by omega) hown' hgrow; have hc1 := hv1.cell; have hf1 := hv1.frozen)
    have hkb := kb_append hgrow hne HS.out.lt (by omega) (by omega) hb2
    exact ⟨hk2, hkb, ⟨⟨_, hv2, by rw [ints_snoc]; simpa using hr2, by simp⟩, HS.out.kept hkb⟩, hB.trans hb2⟩
  case done =>
    rintro D ys W hD rfl ⟨⟨⟨v, hv, hrow, hnil⟩, hS⟩, hB⟩ hK
    have hc := hv.cell
    clear hS
    gi_wp2
    refine ⟨by simp, .inl ⟨_, _, rfl, run_takeDeferred hK, ?_⟩⟩
    exact ⟨_, results_tmp rfl _ _ _, v, rfl, ownsRow_putObj hrow _ hK rfl, hnil, hB.trans (belowK_b (w := w) (Nat.le_refl _) W D _ _ (by omega) hK rfl rfl)⟩
  case stop =>
    rintro D c pre W _ _ h _
    exact h.elim
/-- The slice v is read as the numbers xs. -/
def IntsAt (W : World) (v : Value) (xs : List Int) : Prop :=
  ∃ A c, v = .slice A xs.length c ∧ xs.length ≤ 9223372036854775807 ∧ (0 < xs.length → ∃ ad, A = some ad ∧ ∀ j, j < xs.length → W.cell? (ad.add j) = some (.int .i64 (xs.getD j 0)))
theorem IntsAt.nil (W : World) : IntsAt W (.slice none 0 0) [] := ⟨none, 0, rfl, by simp, fun h => by simp at h⟩
theorem IntsAt.below {w w' : World} (hb : Below w.heap.size w w') {v : Value} {xs : List Int} (h : IntsAt w v xs) : IntsAt w' v xs := by
  obtain ⟨A, c, e, hm, hr⟩ := h
  refine ⟨A, c, e, hm, fun h0 => ?_⟩
  obtain ⟨ad, ea, hc⟩ := hr h0
  exact ⟨ad, ea, fun j hj => cell_below hb (hc j hj)⟩
theorem add_plain (g j : Nat) : (⟨g, 0, none⟩ : Addr).add j = ⟨g, j, none⟩ := by unfold Addr.add; split <;> simp_all
/-- The slice v lies in a block from B on, and is read as the numbers xs. -/
def IntsFrom (B : Nat) (W : World) (v : Value) (xs : List Int) : Prop :=
  ∃ A c, v = .slice A xs.length c ∧ xs.length ≤ 9223372036854775807 ∧ (0 < xs.length → ∃ g, A = some ⟨g, 0, none⟩ ∧ B ≤ g ∧ ∀ j, j < xs.length → W.cell? ⟨g, j, none⟩ = some (.int .i64 (xs.getD j 0)))
theorem IntsFrom.at_ {B : Nat} {W : World} {v : Value} {xs : List Int} (h : IntsFrom B W v xs) : IntsAt W v xs := by
  obtain ⟨A, c, e, hm, hr⟩ := h
  refine ⟨A, c, e, hm, fun h0 => ?_⟩
  obtain ⟨g, ea, _, hc⟩ := hr h0
  exact ⟨_, ea, fun j hj => by rw [add_plain]; exact hc j hj⟩
theorem IntsFrom.nil (B : Nat) (W : World) : IntsFrom B W (.slice none 0 0) [] := ⟨none, 0, rfl, by simp, fun h => by simp at h⟩
theorem IntsFrom.below {B : Nat} {w w' : World} (hb : Below w.heap.size w w') {v : Value} {xs : List Int} (h : IntsFrom B w v xs) : IntsFrom B w' v xs := by
  obtain ⟨A, c, e, hm, hr⟩ := h
  refine ⟨A, c, e, hm, fun h0 => ?_⟩
  obtain ⟨g, ea, hB, hc⟩ := hr h0
  exact ⟨g, ea, hB, fun j hj => cell_below hb (hc j hj)⟩
theorem IntsFrom.set {B : Nat} {w : World} {v : Value} {xs : List Int} (h : IntsFrom B w v xs) {p : Addr} (hp : p.block < B) (u : Value) : IntsFrom B (w.setCell p u) v xs := by
  obtain ⟨A, c, e, hm, hr⟩ := h
  refine ⟨A, c, e, hm, fun h0 => ?_⟩
  obtain ⟨g, ea, hB, hc⟩ := hr h0
  exact ⟨g, ea, hB, fun j hj => cell_kept_block (Below.heap_setCell _ _ _ g (fun e => by omega)) (hc j hj)⟩
theorem IntsFrom.lower {B B' : Nat} {w : World} {v : Value} {xs : List Int} (h : IntsFrom B w v xs) (hB : B' ≤ B) : IntsFrom B' w v xs := by
  obtain ⟨A, c, e, hm, hr⟩ := h
  exact ⟨A, c, e, hm, fun h0 => by obtain ⟨g, ea, hg, hc⟩ := hr h0; exact ⟨g, ea, by omega, hc⟩⟩
/-- What a slice owns it may be read as. -/
theorem IntsFrom.of_owns {W : World} {base : Nat} {e : TypeId} {v : Value} {xs : List Int} (h : W.ownsRow base e 1 v xs.length (xs.map fun x => .int .i64 x)) (hm : xs.length ≤ 9223372036854775807) : IntsFrom base W v xs := by
  rcases h.2 with ⟨rfl, hn⟩ | ⟨g, cap, cur, rfl, hb, hg, hr⟩
  · rw [List.length_eq_zero_iff] at hn
    subst hn
    exact IntsFrom.nil _ W
  · refine ⟨_, _, rfl, hm, fun _ => ⟨g, rfl, hb, fun j hj => ?_⟩⟩
    rw [Wl.blk_cell hg j]
    have ht := congrArg (fun l => l[j]?) hr.2.2.2
    simp only [Nat.mul_one] at ht
    rw [List.getElem?_take, if_pos hj, Array.getElem?_toList] at ht
    rw [ht]
    simp [hj]
end Go.Proofs.YtdaionnpgcdkdaaDoor
