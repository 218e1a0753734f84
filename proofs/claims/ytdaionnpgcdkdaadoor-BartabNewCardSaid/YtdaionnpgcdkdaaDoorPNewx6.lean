/- Printed by a program of this session over the kit's print.py: the machine's side of Go functions as plain Lean functions, each with its proof. -/
import Derived.Test.YtdaionnpgcdkdaaDoorPNewx0
import Derived.Test.YtdaionnpgcdkdaaDoorPNewx4
import Derived.Test.YtdaionnpgcdkdaaDoorPNewx5
namespace Go.Proofs.YtdaionnpgcdkdaaDoorP.New
open Go.RowKit Go.Proofs.YtdaionnpgcdkdaaDoorW.PrintWords Go.Proofs.YtdaionnpgcdkdaaDoorW.PrintLast Go.Proofs.YtdaionnpgcdkdaaDoorW.PrintMore
attribute [local go_sem] max2_int min2_int max_two min_two max_three min_three max_four min_four   -- for this text's walks alone
set_option linter.unusedVariables false
set_option linter.unusedSimpArgs false

/-! ### bartab_Quit: function 56 -/
def bartab_quit1 (a1 : Int) (x : S51) : Option S51 := (barrier_Resign.f x.f0.f0 x.f0.f1 x.f1.f0.f0 x.f1.f0.f1 x.f1.f0.f2 x.f1.f0.f3 x.f1.f1.f0 x.f1.f1.f1 x.f1.f1.f2 x.f1.f1.f3 x.f2 a1).map fun t => if t.2.2.2.2.2.2.2.2.2.2.2 = 0 then ⟨⟨t.1, t.2.1⟩, ⟨⟨t.2.2.1, t.2.2.2.1, t.2.2.2.2.1, t.2.2.2.2.2.1⟩, ⟨t.2.2.2.2.2.2.1, t.2.2.2.2.2.2.2.1, t.2.2.2.2.2.2.2.2.1, t.2.2.2.2.2.2.2.2.2.1⟩⟩, t.2.2.2.2.2.2.2.2.2.2.1⟩ else x

def bartab_Quit.f (l0 : List (S51)) (a1 : Int) : Option ((List (S51))) := if l0.length < 1599289640401 then bartab_allM (bartab_quit1 a1) l0 else none
theorem bartab_Quit.calls (A0 : Option Addr) (c0 : Nat) (l0 : List (S51)) (a1 : Int) (r : List (S51)) (w : World) (hG : Go.Proofs.YtdaionnpgcdkdaaDoor.GLW w) (hr0 : Kd.C k51 w A0 l0.length l0) (hc0 : l0.length ≤ c0) (h : bartab_Quit.f l0 a1 = some r) :
    Calls Tryd.prog 56 #[.slice A0 l0.length c0, .int .i64 a1] w fun e w' => ∃ v0_ : Value, e = .returned (v0_) ∧ Kd.R k51 51 w' w.heap.size (fun _ => True) v0_ r ∧ Below w.heap.size w w' := by
  unfold bartab_Quit.f at h
  split at h
  case isFalse => cases h
  rename_i hlim
  have HG := Aside0.mk hG
  have HR := Aside0.mk hr0
  have HL := Aside0.mk hlim
  have H' := Aside0.mk h
  clear hG hr0 hlim h
  go_enter Tryd.func56, Tryd.ntmps56
  go_wp2_with fail
  refine (twin_any A0 c0 l0 _ HR.out HL.out).mono ?_
  rintro e w1 ⟨g, cap, rest, rfl, hg, hc, hm, hl, hgg, hb⟩
  have HC := Aside0.mk hc
  have HM := Aside0.mk hm
  have HLL := Aside0.mk hl
  have HGG := Aside0.mk hgg
  have HB1 := Aside0.mk hb
  have HGE := Aside0.mk hg
  clear hc hm hl hgg hb hg
  go_wp2_with fail
  go_loopg [14] l0.length (fun kq v12 w' => ∃ (done todo : List S51) (x : Int), v12 = .int .i64 x ∧ Aside0 (x = (done.length : Int)) ∧ Aside0 (kq = todo.length) ∧ Aside0 (done.length + todo.length = l0.length) ∧ Aside0 (∃ ys, bartab_allM (bartab_quit1 a1) todo = some ys ∧ r = done ++ ys) ∧ Aside0 (w'.heap[g]? = some (.cells ((done ++ todo).flatMap enc51 ++ rest).toArray 51 (0, 0))) ∧ Aside0 (Below w.heap.size w w'))
  case atStart => exact ⟨[], l0, 0, rfl, ⟨rfl⟩, ⟨rfl⟩, ⟨by simp⟩, ⟨⟨_, H'.out, rfl⟩⟩, HGG, HB1⟩
  case round =>
    clear H'
    obtain ⟨done, todo, x, rfl, HX, HK, HN, HA, HGB, HB⟩ := hrel
    cases todo with
    | nil =>
      have c1b : decide (x < (l0.length : Int)) = false := decide_eq_false (by have := HX.out; have := HN.out; simp at this; omega)
      have HD := Aside0.mk (show done.length = l0.length by have := HN.out; simpa using this)
      go_wp2_with fail
      go_ret
      obtain ⟨ys, ha, hr⟩ := HA.out
      obtain rfl := Option.some.inj ha
      have hg2 := HGB.out
      rw [List.append_nil] at hr hg2
      subst hr
      have hlr := HD.out
      have hrow := twin_row (W := _) (base := w.heap.size) (g := g) (cap := cap) (l := r) (rest := rest) HGE.out (by rw [hlr]; exact HC.out) HM.out (by
        rw [List.length_append, Go.Proofs.YtdaionnpgcdkdaaDoor.flat_len flat51, hlr, ← Go.Proofs.YtdaionnpgcdkdaaDoor.flat_len flat51 l0, ← List.length_append]
        exact HLL.out) hg2
      rw [hlr] at hrow
      exact ⟨_, rfl, hrow, HB.out⟩
    | cons t ts =>
      obtain ⟨ys, ha, hr⟩ := HA.out
      obtain ⟨y, hy, ha⟩ := Option.bind_eq_some_iff.1 ha
      obtain ⟨ys', hys, rfl⟩ := Option.map_eq_some_iff.1 ha
      have HXN := HX.out
      have HNN : done.length + (ts.length + 1) = l0.length := HN.out
      have hxn : x.toNat = done.length := by omega
      have p0 : (0 ≤ x) = True := eq_true (by omega)
      have p1 : (x < (l0.length : Int)) = True := eq_true (by omega)
      have c1b : decide (x < (l0.length : Int)) = true := decide_eq_true (by omega)
      have cc : ∀ (W : World), W.heap[g]? = some (.cells ((done ++ t :: ts).flatMap enc51 ++ rest).toArray 51 (0, 0)) → ∀ j v, j < 11 → (enc51 t)[j]? = some v → W.cell? ⟨g, x.toNat * 11 + j, none⟩ = some v := fun W hW j v hj hv => by
        rw [Go.Proofs.YtdaionnpgcdkdaaDoor.Wl.blk_cell hW, hxn, List.getElem?_toArray]
        exact (Go.Proofs.YtdaionnpgcdkdaaDoor.flat_get flat51 done ts t rest j hj).trans hv
      have HCC := Aside0.mk cc
      have lt0 := Go.Proofs.YtdaionnpgcdkdaaDoor.Wl.blk_lt HGB.out
      have g_0 : World.cell? _ ⟨g, x.toNat * 11, none⟩ = some _ := HCC.out _ HGB.out 0 _ (by decide) rfl; have g_f0 := Go.Proofs.YtdaionnpgcdkdaaDoor.Wl.blk_frozen HGB.out (x.toNat * 11)
      have g_1 := HCC.out _ HGB.out 1 _ (by decide) rfl; have g_f1 := Go.Proofs.YtdaionnpgcdkdaaDoor.Wl.blk_frozen HGB.out (x.toNat * 11 + 1)
      have g_2 := HCC.out _ HGB.out 2 _ (by decide) rfl; have g_f2 := Go.Proofs.YtdaionnpgcdkdaaDoor.Wl.blk_frozen HGB.out (x.toNat * 11 + 2)
      have g_3 := HCC.out _ HGB.out 3 _ (by decide) rfl; have g_f3 := Go.Proofs.YtdaionnpgcdkdaaDoor.Wl.blk_frozen HGB.out (x.toNat * 11 + 3)
      have g_4 := HCC.out _ HGB.out 4 _ (by decide) rfl; have g_f4 := Go.Proofs.YtdaionnpgcdkdaaDoor.Wl.blk_frozen HGB.out (x.toNat * 11 + 4)
      have g_5 := HCC.out _ HGB.out 5 _ (by decide) rfl; have g_f5 := Go.Proofs.YtdaionnpgcdkdaaDoor.Wl.blk_frozen HGB.out (x.toNat * 11 + 5)
      have g_6 := HCC.out _ HGB.out 6 _ (by decide) rfl; have g_f6 := Go.Proofs.YtdaionnpgcdkdaaDoor.Wl.blk_frozen HGB.out (x.toNat * 11 + 6)
      have g_7 := HCC.out _ HGB.out 7 _ (by decide) rfl; have g_f7 := Go.Proofs.YtdaionnpgcdkdaaDoor.Wl.blk_frozen HGB.out (x.toNat * 11 + 7)
      have g_8 := HCC.out _ HGB.out 8 _ (by decide) rfl; have g_f8 := Go.Proofs.YtdaionnpgcdkdaaDoor.Wl.blk_frozen HGB.out (x.toNat * 11 + 8)
      have g_9 := HCC.out _ HGB.out 9 _ (by decide) rfl; have g_f9 := Go.Proofs.YtdaionnpgcdkdaaDoor.Wl.blk_frozen HGB.out (x.toNat * 11 + 9)
      have g_10 := HCC.out _ HGB.out 10 _ (by decide) rfl; have g_f10 := Go.Proofs.YtdaionnpgcdkdaaDoor.Wl.blk_frozen HGB.out (x.toNat * 11 + 10)
      have HH : Aside0 (bartab_allM (bartab_quit1 a1) ts = some ys' ∧ r = (done ++ [y]) ++ ys') := ⟨hys, by rw [hr]; simp⟩
      have HNX := Aside0.mk hxn
      have HN2 := Aside0.mk HNN
      clear cc ha hys hr HXN HNN hxn
      obtain ⟨⟨y0, y1, y2, y3, y4, y5, y6, y7, y8, y9, y10, er⟩, hw, hy⟩ := Option.map_eq_some_iff.1 hy
      have HWD := Aside0.mk hw
      have HY := Aside0.mk hy
      clear hw hy
      go_wp2_with fail
      refine (barrier_Resign.calls t.f0.f0 t.f0.f1 t.f1.f0.f0 t.f1.f0.f1 t.f1.f0.f2 t.f1.f0.f3 t.f1.f1.f0 t.f1.f1.f1 t.f1.f1.f2 t.f1.f1.f3 t.f2 a1 y0 y1 y2 y3 y4 y5 y6 y7 y8 y9 y10 er _ (HG.out.below (Go.Proofs.YtdaionnpgcdkdaaDoor.Wl.bl_alloc HB.out _)) HWD.out).mono ?_
      rintro e w2 ⟨rfl, hb2⟩
      have HB2 := Aside0.mk (Go.Proofs.YtdaionnpgcdkdaaDoor.Wl.bl_trans (Go.Proofs.YtdaionnpgcdkdaaDoor.Wl.bl_alloc HB.out _) hb2)
      have HG2 := Aside0.mk (Go.Proofs.YtdaionnpgcdkdaaDoor.Wl.blk_after (Go.Proofs.YtdaionnpgcdkdaaDoor.Wl.blk_alloc HGB.out _) hb2)
      have lt2 := Go.Proofs.YtdaionnpgcdkdaaDoor.Wl.blk_lt HG2.out
      clear hb2
      have h_0 : World.cell? _ ⟨g, x.toNat * 11, none⟩ = some _ := HCC.out _ HG2.out 0 _ (by decide) rfl; have h_f0 := Go.Proofs.YtdaionnpgcdkdaaDoor.Wl.blk_frozen HG2.out (x.toNat * 11)
      have h_1 := HCC.out _ HG2.out 1 _ (by decide) rfl; have h_f1 := Go.Proofs.YtdaionnpgcdkdaaDoor.Wl.blk_frozen HG2.out (x.toNat * 11 + 1)
      have h_2 := HCC.out _ HG2.out 2 _ (by decide) rfl; have h_f2 := Go.Proofs.YtdaionnpgcdkdaaDoor.Wl.blk_frozen HG2.out (x.toNat * 11 + 2)
      have h_3 := HCC.out _ HG2.out 3 _ (by decide) rfl; have h_f3 := Go.Proofs.YtdaionnpgcdkdaaDoor.Wl.blk_frozen HG2.out (x.toNat * 11 + 3)
      have h_4 := HCC.out _ HG2.out 4 _ (by decide) rfl; have h_f4 := Go.Proofs.YtdaionnpgcdkdaaDoor.Wl.blk_frozen HG2.out (x.toNat * 11 + 4)
      have h_5 := HCC.out _ HG2.out 5 _ (by decide) rfl; have h_f5 := Go.Proofs.YtdaionnpgcdkdaaDoor.Wl.blk_frozen HG2.out (x.toNat * 11 + 5)
      have h_6 := HCC.out _ HG2.out 6 _ (by decide) rfl; have h_f6 := Go.Proofs.YtdaionnpgcdkdaaDoor.Wl.blk_frozen HG2.out (x.toNat * 11 + 6)
      have h_7 := HCC.out _ HG2.out 7 _ (by decide) rfl; have h_f7 := Go.Proofs.YtdaionnpgcdkdaaDoor.Wl.blk_frozen HG2.out (x.toNat * 11 + 7)
      have h_8 := HCC.out _ HG2.out 8 _ (by decide) rfl; have h_f8 := Go.Proofs.YtdaionnpgcdkdaaDoor.Wl.blk_frozen HG2.out (x.toNat * 11 + 8)
      have h_9 := HCC.out _ HG2.out 9 _ (by decide) rfl; have h_f9 := Go.Proofs.YtdaionnpgcdkdaaDoor.Wl.blk_frozen HG2.out (x.toNat * 11 + 9)
      have h_10 := HCC.out _ HG2.out 10 _ (by decide) rfl; have h_f10 := Go.Proofs.YtdaionnpgcdkdaaDoor.Wl.blk_frozen HG2.out (x.toNat * 11 + 10)
      by_cases he : er = 0
      · have hy := HY.out
        rw [if_pos he] at hy
        subst hy
        have heb : (er == 0) = true := by simp [he]
        clear he HY
        go_wp2_with fail
        have hst := Go.Proofs.YtdaionnpgcdkdaaDoor.flat_store flat51 (done ++ t :: ts) x.toNat (by have := HNX.out; simp; omega) ⟨⟨y0, y1⟩, ⟨⟨y2, y3, y4, y5⟩, ⟨y6, y7, y8, y9⟩⟩, y10⟩ rest HG2.out
        have hbe := Go.Proofs.YtdaionnpgcdkdaaDoor.setAll_below HGE.out (enc51 ⟨⟨y0, y1⟩, ⟨⟨y2, y3, y4, y5⟩, ⟨y6, y7, y8, y9⟩⟩, y10⟩) w2 (x.toNat * 11) HB2.out
        have hse : (done ++ t :: ts).set x.toNat (⟨⟨y0, y1⟩, ⟨⟨y2, y3, y4, y5⟩, ⟨y6, y7, y8, y9⟩⟩, y10⟩ : S51) = done ++ [⟨⟨y0, y1⟩, ⟨⟨y2, y3, y4, y5⟩, ⟨y6, y7, y8, y9⟩⟩, y10⟩] ++ ts := by rw [HNX.out]; simp
        rw [hse] at hst
        have HST := Aside0.mk (Go.Proofs.YtdaionnpgcdkdaaDoor.Wl.blk_alloc hst (.cells #[.bool y0, .int .i64 y1, .int .u64 y2, .int .u64 y3, .int .u64 y4, .int .u64 y5, .int .u64 y6, .int .u64 y7, .int .u64 y8, .int .u64 y9, .int .i64 y10] 51 (0, 0)))
        have HBE := Aside0.mk (Go.Proofs.YtdaionnpgcdkdaaDoor.Wl.bl_alloc hbe (.cells #[.bool y0, .int .i64 y1, .int .u64 y2, .int .u64 y3, .int .u64 y4, .int .u64 y5, .int .u64 y6, .int .u64 y7, .int .u64 y8, .int .u64 y9, .int .i64 y10] 51 (0, 0)))
        clear hst hbe hse
        go_roundg ts.length
        case measure => have := HK.out; simp at this; omega
        case rel => exact ⟨done ++ [⟨⟨y0, y1⟩, ⟨⟨y2, y3, y4, y5⟩, ⟨y6, y7, y8, y9⟩⟩, y10⟩], ts, wrap64 (x + 1), (by first | rfl | (simp; done) | (simp [*]; done)), ⟨by have := HX.out; have := HN2.out; have := HL.out; rw [List.length_append]; simp [wrap64]; omega⟩, ⟨rfl⟩, ⟨by have := HN2.out; simp; omega⟩, ⟨⟨_, HH.out⟩⟩, ⟨by exact HST.out⟩, ⟨by exact HBE.out⟩⟩
      · have hy := HY.out
        rw [if_neg he] at hy
        subst hy
        have heb : (er == 0) = false := by simp [he]
        clear he HY
        go_wp2_with fail
        have hst := HG2.out
        rw [show done ++ t :: ts = done ++ [t] ++ ts by simp] at hst
        have HST := Aside0.mk hst
        clear hst
        go_roundg ts.length
        case measure => have := HK.out; simp at this; omega
        case rel => exact ⟨done ++ [t], ts, wrap64 (x + 1), (by first | rfl | (simp; done) | (simp [*]; done)), ⟨by have := HX.out; have := HN2.out; have := HL.out; rw [List.length_append]; simp [wrap64]; omega⟩, ⟨rfl⟩, ⟨by have := HN2.out; simp; omega⟩, ⟨⟨_, HH.out⟩⟩, ⟨by exact Go.Proofs.YtdaionnpgcdkdaaDoor.Wl.blk_alloc HST.out _⟩, ⟨by exact Go.Proofs.YtdaionnpgcdkdaaDoor.Wl.bl_alloc HB2.out _⟩⟩



/-! ### roll_Enrol: function 12 -/
def roll_Enrol.f (a0_0 : Int) (a0_1 : Int) (a0_2 : Int) (a0_3 : Int) (a0_4 : Int) (a0_5 : Int) (a0_6 : Int) (a0_7 : Int) (a1 : Int) : Option (Int × Int × Int × Int × Int × Int × Int × Int × Int) := if Go.Proofs.YtdaionnpgcdkdaaDoor.okS a0_0 a0_1 a0_2 a0_3 && Go.Proofs.YtdaionnpgcdkdaaDoor.okS a0_4 a0_5 a0_6 a0_7 then some (Go.Proofs.YtdaionnpgcdkdaaDoor.tupR (Go.Proofs.YtdaionnpgcdkdaaDoor.enrolR (Go.Proofs.YtdaionnpgcdkdaaDoor.natS a0_0 a0_1 a0_2 a0_3) (Go.Proofs.YtdaionnpgcdkdaaDoor.natS a0_4 a0_5 a0_6 a0_7) a1)) else none
theorem roll_Enrol.calls (a0_0 : Int) (a0_1 : Int) (a0_2 : Int) (a0_3 : Int) (a0_4 : Int) (a0_5 : Int) (a0_6 : Int) (a0_7 : Int) (a1 : Int) (r1 : Int) (r2 : Int) (r3 : Int) (r4 : Int) (r5 : Int) (r6 : Int) (r7 : Int) (r8 : Int) (r9 : Int) (w : World) (hG : Go.Proofs.YtdaionnpgcdkdaaDoor.GLW w) (h : roll_Enrol.f a0_0 a0_1 a0_2 a0_3 a0_4 a0_5 a0_6 a0_7 a1 = some (r1, r2, r3, r4, r5, r6, r7, r8, r9)) :
    Calls Tryd.prog 12 #[.agg #[.int .u64 a0_0, .int .u64 a0_1, .int .u64 a0_2, .int .u64 a0_3, .int .u64 a0_4, .int .u64 a0_5, .int .u64 a0_6, .int .u64 a0_7], .int .i64 a1] w fun e w' => e = .returned (.tuple #[.agg #[.int .u64 r1, .int .u64 r2, .int .u64 r3, .int .u64 r4, .int .u64 r5, .int .u64 r6, .int .u64 r7, .int .u64 r8], .int .i64 r9]) ∧ Below w.heap.size w w' := by
  unfold roll_Enrol.f at h
  split at h
  · rename_i hk
    rw [Bool.and_eq_true] at hk
    simp only [Go.Proofs.YtdaionnpgcdkdaaDoor.tupR, Option.some.injEq, Prod.mk.injEq] at h
    obtain ⟨rfl, rfl, rfl, rfl, rfl, rfl, rfl, rfl, rfl⟩ := h
    exact Go.Proofs.YtdaionnpgcdkdaaDoor.enrol_words hk.1 hk.2 a1 w hG.out
  · cases h

/-! ### barrier_Enrol: function 33 -/
def barrier_Enrol.f (a0_0 : Bool) (a0_1 : Int) (a0_2 : Int) (a0_3 : Int) (a0_4 : Int) (a0_5 : Int) (a0_6 : Int) (a0_7 : Int) (a0_8 : Int) (a0_9 : Int) (a0_10 : Int) (a1 : Int) : Option (Bool × Int × Int × Int × Int × Int × Int × Int × Int × Int × Int × Int) := (barrier_Fine.f a0_0 a0_1 a0_2 a0_3 a0_4 a0_5 a0_6 a0_7 a0_8 a0_9 a0_10).bind fun t174 => (if t174 = true then ((roll_Enrol.f a0_2 a0_3 a0_4 a0_5 a0_6 a0_7 a0_8 a0_9 a1).bind fun bt175 => ((barrier_Bar_with.f a0_0 a0_1 a0_2 a0_3 a0_4 a0_5 a0_6 a0_7 a0_8 a0_9 a0_10 bt175.1 bt175.2.1 bt175.2.2.1 bt175.2.2.2.1 bt175.2.2.2.2.1 bt175.2.2.2.2.2.1 bt175.2.2.2.2.2.2.1 bt175.2.2.2.2.2.2.2.1 bt175.2.2.2.2.2.2.2.2).bind fun bt184 => (some (bt184.1, bt184.2.1, bt184.2.2.1, bt184.2.2.2.1, bt184.2.2.2.2.1, bt184.2.2.2.2.2.1, bt184.2.2.2.2.2.2.1, bt184.2.2.2.2.2.2.2.1, bt184.2.2.2.2.2.2.2.2.1, bt184.2.2.2.2.2.2.2.2.2.1, bt184.2.2.2.2.2.2.2.2.2.2.1, bt184.2.2.2.2.2.2.2.2.2.2.2)))) else (some (a0_0, a0_1, a0_2, a0_3, a0_4, a0_5, a0_6, a0_7, a0_8, a0_9, a0_10, 1)))
def barrier_Enrol.T3 : Bool × List (List Nat × List Nat) := (true, [([], []), ([], []), ([1], [1]), ([], []), ([2, 3], [2, 3]), ([4], [4]), ([4], [4]), ([0, 5, 6, 4], [0, 5, 6]), ([7], [7]), ([7], [7]), ([8, 7, 0, 1, 2, 3, 4, 5, 6, 7, 8, 9], [8]), ([9, 10, 0, 1, 2, 3, 4, 5, 6, 7, 8, 9, 10], [9])])
def barrier_Enrol.B3 : List Nat := [0, 0, 2, 0, 14, 30, 30, 127, 255, 255, 1023, 2047]
theorem barrier_Enrol.tab3 : rtab .any (opsOf Tryd.f33 3) = barrier_Enrol.T3 := by kernel_rfl
theorem barrier_Enrol.bits3 : waitsOk barrier_Enrol.T3.2 barrier_Enrol.B3 = true := by kernel_rfl
set_option maxHeartbeats 8000000 in
set_option maxRecDepth 100000 in
theorem barrier_Enrol.calls (a0_0 : Bool) (a0_1 : Int) (a0_2 : Int) (a0_3 : Int) (a0_4 : Int) (a0_5 : Int) (a0_6 : Int) (a0_7 : Int) (a0_8 : Int) (a0_9 : Int) (a0_10 : Int) (a1 : Int) (r1 : Bool) (r2 : Int) (r3 : Int) (r4 : Int) (r5 : Int) (r6 : Int) (r7 : Int) (r8 : Int) (r9 : Int) (r10 : Int) (r11 : Int) (r12 : Int) (w : World) (hG : Go.Proofs.YtdaionnpgcdkdaaDoor.GLW w) (h : barrier_Enrol.f a0_0 a0_1 a0_2 a0_3 a0_4 a0_5 a0_6 a0_7 a0_8 a0_9 a0_10 a1 = some (r1, r2, r3, r4, r5, r6, r7, r8, r9, r10, r11, r12)) :
    Calls Tryd.prog 33 #[.agg #[.bool a0_0, .int .i64 a0_1, .int .u64 a0_2, .int .u64 a0_3, .int .u64 a0_4, .int .u64 a0_5, .int .u64 a0_6, .int .u64 a0_7, .int .u64 a0_8, .int .u64 a0_9, .int .i64 a0_10], .int .i64 a1] w fun e w' => e = .returned (.tuple #[.agg #[.bool r1, .int .i64 r2, .int .u64 r3, .int .u64 r4, .int .u64 r5, .int .u64 r6, .int .u64 r7, .int .u64 r8, .int .u64 r9, .int .u64 r10, .int .i64 r11], .int .i64 r12]) ∧ Below w.heap.size w w' := by
  have hu51 := Tryd.underlying51
  have hu28 := Tryd.underlying28
  have HB := Aside0.mk (Below.refl w.heap.size w)
  have H : ((barrier_Fine.f a0_0 a0_1 a0_2 a0_3 a0_4 a0_5 a0_6 a0_7 a0_8 a0_9 a0_10).bind fun t174 => (if t174 = true then ((roll_Enrol.f a0_2 a0_3 a0_4 a0_5 a0_6 a0_7 a0_8 a0_9 a1).bind fun bt175 => ((barrier_Bar_with.f a0_0 a0_1 a0_2 a0_3 a0_4 a0_5 a0_6 a0_7 a0_8 a0_9 a0_10 bt175.1 bt175.2.1 bt175.2.2.1 bt175.2.2.2.1 bt175.2.2.2.2.1 bt175.2.2.2.2.2.1 bt175.2.2.2.2.2.2.1 bt175.2.2.2.2.2.2.2.1 bt175.2.2.2.2.2.2.2.2).bind fun bt184 => (some (bt184.1, bt184.2.1, bt184.2.2.1, bt184.2.2.2.1, bt184.2.2.2.2.1, bt184.2.2.2.2.2.1, bt184.2.2.2.2.2.2.1, bt184.2.2.2.2.2.2.2.1, bt184.2.2.2.2.2.2.2.2.1, bt184.2.2.2.2.2.2.2.2.2.1, bt184.2.2.2.2.2.2.2.2.2.2.1, bt184.2.2.2.2.2.2.2.2.2.2.2)))) else (some (a0_0, a0_1, a0_2, a0_3, a0_4, a0_5, a0_6, a0_7, a0_8, a0_9, a0_10, 1)))) = some (r1, r2, r3, r4, r5, r6, r7, r8, r9, r10, r11, r12) := h
  clear h
  replace H := Option.bind_eq_some_iff.mp H
  obtain ⟨t174, A30, H⟩ := H
  replace H : (if t174 = true then ((roll_Enrol.f a0_2 a0_3 a0_4 a0_5 a0_6 a0_7 a0_8 a0_9 a1).bind fun bt175 => ((barrier_Bar_with.f a0_0 a0_1 a0_2 a0_3 a0_4 a0_5 a0_6 a0_7 a0_8 a0_9 a0_10 bt175.1 bt175.2.1 bt175.2.2.1 bt175.2.2.2.1 bt175.2.2.2.2.1 bt175.2.2.2.2.2.1 bt175.2.2.2.2.2.2.1 bt175.2.2.2.2.2.2.2.1 bt175.2.2.2.2.2.2.2.2).bind fun bt184 => (some (bt184.1, bt184.2.1, bt184.2.2.1, bt184.2.2.2.1, bt184.2.2.2.2.1, bt184.2.2.2.2.2.1, bt184.2.2.2.2.2.2.1, bt184.2.2.2.2.2.2.2.1, bt184.2.2.2.2.2.2.2.2.1, bt184.2.2.2.2.2.2.2.2.2.1, bt184.2.2.2.2.2.2.2.2.2.2.1, bt184.2.2.2.2.2.2.2.2.2.2.2)))) else (some (a0_0, a0_1, a0_2, a0_3, a0_4, a0_5, a0_6, a0_7, a0_8, a0_9, a0_10, 1))) = some (r1, r2, r3, r4, r5, r6, r7, r8, r9, r10, r11, r12) := H
  have A3 := Aside0.mk A30
  clear A30
  by_cases c4 : t174 = true
  · subst c4
    have H1 : ((roll_Enrol.f a0_2 a0_3 a0_4 a0_5 a0_6 a0_7 a0_8 a0_9 a1).bind fun bt175 => ((barrier_Bar_with.f a0_0 a0_1 a0_2 a0_3 a0_4 a0_5 a0_6 a0_7 a0_8 a0_9 a0_10 bt175.1 bt175.2.1 bt175.2.2.1 bt175.2.2.2.1 bt175.2.2.2.2.1 bt175.2.2.2.2.2.1 bt175.2.2.2.2.2.2.1 bt175.2.2.2.2.2.2.2.1 bt175.2.2.2.2.2.2.2.2).bind fun bt184 => (some (bt184.1, bt184.2.1, bt184.2.2.1, bt184.2.2.2.1, bt184.2.2.2.2.1, bt184.2.2.2.2.2.1, bt184.2.2.2.2.2.2.1, bt184.2.2.2.2.2.2.2.1, bt184.2.2.2.2.2.2.2.2.1, bt184.2.2.2.2.2.2.2.2.2.1, bt184.2.2.2.2.2.2.2.2.2.2.1, bt184.2.2.2.2.2.2.2.2.2.2.2)))) = some (r1, r2, r3, r4, r5, r6, r7, r8, r9, r10, r11, r12) := by rw [if_pos rfl] at H; exact H
    clear H
    have H := H1
    clear H1
    replace H := Option.bind_eq_some_iff.mp H
    obtain ⟨⟨t175, t176, t177, t178, t179, t180, t181, t182, t183⟩, A50, H⟩ := H
    replace H : ((barrier_Bar_with.f a0_0 a0_1 a0_2 a0_3 a0_4 a0_5 a0_6 a0_7 a0_8 a0_9 a0_10 t175 t176 t177 t178 t179 t180 t181 t182 t183).bind fun bt184 => (some (bt184.1, bt184.2.1, bt184.2.2.1, bt184.2.2.2.1, bt184.2.2.2.2.1, bt184.2.2.2.2.2.1, bt184.2.2.2.2.2.2.1, bt184.2.2.2.2.2.2.2.1, bt184.2.2.2.2.2.2.2.2.1, bt184.2.2.2.2.2.2.2.2.2.1, bt184.2.2.2.2.2.2.2.2.2.2.1, bt184.2.2.2.2.2.2.2.2.2.2.2))) = some (r1, r2, r3, r4, r5, r6, r7, r8, r9, r10, r11, r12) := H
    have A5 := Aside0.mk A50
    clear A50
    replace H := Option.bind_eq_some_iff.mp H
    obtain ⟨⟨t184, t185, t186, t187, t188, t189, t190, t191, t192, t193, t194, t195⟩, A60, H⟩ := H
    replace H : (some (t184, t185, t186, t187, t188, t189, t190, t191, t192, t193, t194, t195)) = some (r1, r2, r3, r4, r5, r6, r7, r8, r9, r10, r11, r12) := H
    have A6 := Aside0.mk A60
    clear A60
    simp only [Option.some.injEq, Prod.mk.injEq] at H
    obtain ⟨rfl, rfl, rfl, rfl, rfl, rfl, rfl, rfl, rfl, rfl, rfl, rfl⟩ := H
    go_enter Tryd.func33, Tryd.ntmps33
    try go_wp2_with (first | ((with_reducible refine gate_dst (N := 2) rfl ?_); refine box_event ?hg (N := 2) ?hd (cs := #[.bool a0_0, .int .i64 a0_1, .int .u64 a0_2, .int .u64 a0_3, .int .u64 a0_4, .int .u64 a0_5, .int .u64 a0_6, .int .u64 a0_7, .int .u64 a0_8, .int .u64 a0_9, .int .i64 a0_10]) (t := 51) ?hr ?_; (case hd => rfl); (case hg => rfl); (case hr => first | (go_simp; done) | (go_simp; rfl)); intro gb172 hg w7 hbox hb; have BK172 := Aside0.mk (hbox); have GW172 := Aside0.mk ((by rw [hg]; exact (below_size (by exact HB.out)) : w.heap.size ≤ gb172)); have GE172 := Aside0.mk ((by rw [hg]; exact (below_size (by exact HB.out)) : w.heap.size ≤ gb172)); replace HB := Aside0.mk (below_step (by exact HB.out) hb); clear hb hbox hg) | ((with_reducible refine gate_dst (N := 4) rfl ?_); refine box_event ?hg (N := 4) ?hd (cs := #[.bool false, .int .i64 0, .int .u64 0, .int .u64 0, .int .u64 0, .int .u64 0, .int .u64 0, .int .u64 0, .int .u64 0, .int .u64 0, .int .i64 0]) (t := 51) ?hr ?_; (case hd => rfl); (case hg => rfl); (case hr => first | (go_simp; done) | (go_simp; rfl)); intro gb173 hg w8 hbox hb; have BK173 := Aside0.mk (hbox); have GW173 := Aside0.mk ((by rw [hg]; exact (below_size (by exact HB.out)) : w.heap.size ≤ gb173)); have GE173 := Aside0.mk ((by rw [hg]; exact (below_size (by exact HB.out)) : w.heap.size ≤ gb173)); replace HB := Aside0.mk (below_step (by exact HB.out) hb); have NB172_173 := Aside0.mk ((by rw [hg]; exact Nat.ne_of_lt (blk_lt BK172.out) : gb172 ≠ gb173)); have NB173_172 := Aside0.mk ((by rw [hg]; exact Nat.ne_of_gt (blk_lt BK172.out) : gb173 ≠ gb172)); replace BK172 := Aside0.mk (blk_below BK172.out hb); clear hb hbox hg; have hnb9 := NB172_173.out; have hnc9 := NB173_172.out; have hcz10_0 : w8.cell? ⟨gb172, 0, none⟩ = some (.bool a0_0) := (blk_cell BK172.out 0).trans rfl; have hcz10_1 : w8.cell? ⟨gb172, 1, none⟩ = some (.int .i64 a0_1) := (blk_cell BK172.out 1).trans rfl; have hcz10_2 : w8.cell? ⟨gb172, 2, none⟩ = some (.int .u64 a0_2) := (blk_cell BK172.out 2).trans rfl; have hcz10_3 : w8.cell? ⟨gb172, 3, none⟩ = some (.int .u64 a0_3) := (blk_cell BK172.out 3).trans rfl; have hcz10_4 : w8.cell? ⟨gb172, 4, none⟩ = some (.int .u64 a0_4) := (blk_cell BK172.out 4).trans rfl; have hcz10_5 : w8.cell? ⟨gb172, 5, none⟩ = some (.int .u64 a0_5) := (blk_cell BK172.out 5).trans rfl; have hcz10_6 : w8.cell? ⟨gb172, 6, none⟩ = some (.int .u64 a0_6) := (blk_cell BK172.out 6).trans rfl; have hcz10_7 : w8.cell? ⟨gb172, 7, none⟩ = some (.int .u64 a0_7) := (blk_cell BK172.out 7).trans rfl; have hcz10_8 : w8.cell? ⟨gb172, 8, none⟩ = some (.int .u64 a0_8) := (blk_cell BK172.out 8).trans rfl; have hcz10_9 : w8.cell? ⟨gb172, 9, none⟩ = some (.int .u64 a0_9) := (blk_cell BK172.out 9).trans rfl; have hcz10_10 : w8.cell? ⟨gb172, 10, none⟩ = some (.int .i64 a0_10) := (blk_cell BK172.out 10).trans rfl; have hfz10_0 := blk_frozen BK172.out 0; have hfz10_1 := blk_frozen BK172.out 1; have hfz10_2 := blk_frozen BK172.out 2; have hfz10_3 := blk_frozen BK172.out 3; have hfz10_4 := blk_frozen BK172.out 4; have hfz10_5 := blk_frozen BK172.out 5; have hfz10_6 := blk_frozen BK172.out 6; have hfz10_7 := blk_frozen BK172.out 7; have hfz10_8 := blk_frozen BK172.out 8; have hfz10_9 := blk_frozen BK172.out 9; have hfz10_10 := blk_frozen BK172.out 10) | ((with_reducible refine gate_callee (f := 41) rfl ?_); refine goesL_ (some 7) rfl rfl Tryd.func41 (by kernel_rfl) rfl #[.agg #[.bool a0_0, .int .i64 a0_1, .int .u64 a0_2, .int .u64 a0_3, .int .u64 a0_4, .int .u64 a0_5, .int .u64 a0_6, .int .u64 a0_7, .int .u64 a0_8, .int .u64 a0_9, .int .i64 a0_10]] rfl (by (try simp only [List.map_toArray, List.map_cons, List.map_nil]); first | done | rfl | (simp only [List.length_drop, List.length_take]; rfl)) ?_; (with_reducible refine (barrier_Fine.calls a0_0 a0_1 a0_2 a0_3 a0_4 a0_5 a0_6 a0_7 a0_8 a0_9 a0_10 true _ ?side1 A3.out).mono ?_); (case side1 => exact Go.Proofs.YtdaionnpgcdkdaaDoor.GLW.below hG (by exact HB.out)); rintro e w11 ⟨rfl, hb⟩; refine ⟨_, rfl, ?_⟩; replace BK172 := Aside0.mk (blk_below BK172.out hb); replace BK173 := Aside0.mk (blk_below BK173.out hb); replace HB := Aside0.mk (below_step (by exact HB.out) hb); (try clear hb); (try clear hb2); (try clear hk); (try clear hi)))
    replace BK172 := Aside0.mk (blk_drew BK172.out)
    replace BK173 := Aside0.mk (blk_drew BK173.out)
    replace HB := Aside0.mk (below_drew1 HB.out)
    refine start_ (n := 12) (S := fun w' => w'.cell? ⟨gb172, 0, none⟩ = some (.bool a0_0) ∧ w'.cell? ⟨gb172, 1, none⟩ = some (.int .i64 a0_1) ∧ w'.cell? ⟨gb172, 2, none⟩ = some (.int .u64 a0_2) ∧ w'.cell? ⟨gb172, 3, none⟩ = some (.int .u64 a0_3) ∧ w'.cell? ⟨gb172, 4, none⟩ = some (.int .u64 a0_4) ∧ w'.cell? ⟨gb172, 5, none⟩ = some (.int .u64 a0_5) ∧ w'.cell? ⟨gb172, 6, none⟩ = some (.int .u64 a0_6) ∧ w'.cell? ⟨gb172, 7, none⟩ = some (.int .u64 a0_7) ∧ w'.cell? ⟨gb172, 8, none⟩ = some (.int .u64 a0_8) ∧ w'.cell? ⟨gb172, 9, none⟩ = some (.int .u64 a0_9) ∧ w'.cell? ⟨gb172, 10, none⟩ = some (.int .i64 a0_10)) (ds := []) #[false, false, false, false, false, false, false, false, false, false, false, false] (by kernel_rfl) rfl rfl ⟨(blk_cell BK172.out 0).trans rfl, (blk_cell BK172.out 1).trans rfl, (blk_cell BK172.out 2).trans rfl, (blk_cell BK172.out 3).trans rfl, (blk_cell BK172.out 4).trans rfl, (blk_cell BK172.out 5).trans rfl, (blk_cell BK172.out 6).trans rfl, (blk_cell BK172.out 7).trans rfl, (blk_cell BK172.out 8).trans rfl, (blk_cell BK172.out 9).trans rfl, (blk_cell BK172.out 10).trans rfl⟩ (fun hHeld => ?_); refine with_tabW barrier_Enrol.tab3 barrier_Enrol.bits3 (fun HT_ HW_ => ?_)
    generalize w11.drew = w12 at BK172 BK173 HB hHeld ⊢
    refine pure_ (i := 1) (N := some 11) (v := ?_) (a' := ?_) #[false, true, false, false, false, false, false, false, false, false, false, false] rfl rfl (any_of HT_.out (by kernel_rfl)) (fun _ _ _ h => h) (Or.inl ⟨by rfl, ?_⟩) ?_ ?_
    rotate_left
    · intro w'
      go_simp
      with_reducible rfl
    rotate_left
    · simp only [Act.put, List.setIfInBounds_toArray, List.set_cons_zero, List.set_cons_succ, i64_w, i32_w]
      rfl
    refine pure_ (i := 3) (N := some 13) (v := ?_) (a' := ?_) #[false, true, false, true, false, false, false, false, false, false, false, false] rfl rfl (any_of HT_.out (by kernel_rfl)) (fun _ _ _ h => h) (Or.inl ⟨by rfl, ?_⟩) ?_ ?_
    rotate_left
    · intro w'
      go_simp
      with_reducible rfl
    rotate_left
    · simp only [Act.put, List.setIfInBounds_toArray, List.set_cons_zero, List.set_cons_succ, i64_w, i32_w]
      rfl
    refine take_ (i := 0) (N := some 10) (v := ?_) (a' := ?_) #[true, true, false, true, false, false, false, false, false, false, false, false] rfl rfl (take_ofW HT_.out HW_.out (by kernel_rfl)) (fun _ _ _ h => h) (Or.inl ⟨by rfl, ?_⟩) hHeld ?_ ?_
    rotate_left
    · rintro w' ⟨s0, s1, s2, s3, s4, s5, s6, s7, s8, s9, s10⟩
      go_simp
      with_reducible rfl
    rotate_left
    · simp only [Act.put, List.setIfInBounds_toArray, List.set_cons_zero, List.set_cons_succ, i64_w, i32_w]
      rfl
    refine take_ (i := 2) (N := some 12) (v := ?_) (a' := ?_) #[true, true, true, true, false, false, false, false, false, false, false, false] rfl rfl (take_ofW HT_.out HW_.out (by kernel_rfl)) (fun _ _ _ h => h) (Or.inl ⟨by rfl, ?_⟩) hHeld ?_ ?_
    rotate_left
    · rintro w' ⟨s0, s1, s2, s3, s4, s5, s6, s7, s8, s9, s10⟩
      go_simp
      with_reducible rfl
    rotate_left
    · simp only [Act.put, List.setIfInBounds_toArray, List.set_cons_zero, List.set_cons_succ, i64_w, i32_w]
      rfl
    refine one_ (i := 4) (N := some 14) #[true, true, true, true, true, false, false, false, false, false, false, false] rfl rfl (one_of HT_.out (by kernel_rfl)) (by decide) (fun K hK => ?_)
    refine goes_ Tryd.func12 (by kernel_rfl) rfl #[.agg #[.int .u64 a0_2, .int .u64 a0_3, .int .u64 a0_4, .int .u64 a0_5, .int .u64 a0_6, .int .u64 a0_7, .int .u64 a0_8, .int .u64 a0_9], .int .i64 a1] (by rfl) rfl rfl (by (try simp only [List.map_toArray, List.map_cons, List.map_nil]); first | done | rfl | (simp only [List.length_drop, List.length_take]; rfl)) ?_
    with_reducible refine (roll_Enrol.calls a0_2 a0_3 a0_4 a0_5 a0_6 a0_7 a0_8 a0_9 a1 t175 t176 t177 t178 t179 t180 t181 t182 t183 _ ?side1 A5.out).mono ?_
    (case side1 => exact Go.Proofs.YtdaionnpgcdkdaaDoor.GLW.below hG (by exact HB.out))
    rintro e w13 ⟨rfl, hb⟩
    refine ⟨_, rfl, ?_⟩
    replace BK172 := Aside0.mk (blk_below BK172.out hb)
    replace BK173 := Aside0.mk (blk_below BK173.out hb)
    replace HB := Aside0.mk (below_step (by exact HB.out) hb)
    (try clear hb)
    (try clear hb2)
    (try clear hk)
    (try clear hi)
    refine hK.out _ _ ⟨(blk_cell BK172.out 0).trans rfl, (blk_cell BK172.out 1).trans rfl, (blk_cell BK172.out 2).trans rfl, (blk_cell BK172.out 3).trans rfl, (blk_cell BK172.out 4).trans rfl, (blk_cell BK172.out 5).trans rfl, (blk_cell BK172.out 6).trans rfl, (blk_cell BK172.out 7).trans rfl, (blk_cell BK172.out 8).trans rfl, (blk_cell BK172.out 9).trans rfl, (blk_cell BK172.out 10).trans rfl⟩ (fun hHeld => ?_)
    clear hK K
    refine norm_ (a' := ?_) ?_ ?_
    rotate_left
    · show Act.put _ (some 14) _ = _
      simp only [Act.put, List.setIfInBounds_toArray, List.set_cons_zero, List.set_cons_succ, i64_w, i32_w]
      rfl
    refine pure_ (i := 5) (N := some 15) (v := ?_) (a' := ?_) #[true, true, true, true, true, true, false, false, false, false, false, false] rfl rfl (any_of HT_.out (by kernel_rfl)) (fun _ _ _ h => h) (Or.inl ⟨by rfl, ?_⟩) ?_ ?_
    rotate_left
    · intro w'
      go_simp
      with_reducible rfl
    rotate_left
    · simp only [Act.put, List.setIfInBounds_toArray, List.set_cons_zero, List.set_cons_succ, i64_w, i32_w]
      rfl
    refine pure_ (i := 6) (N := some 16) (v := ?_) (a' := ?_) #[true, true, true, true, true, true, true, false, false, false, false, false] rfl rfl (any_of HT_.out (by kernel_rfl)) (fun _ _ _ h => h) (Or.inl ⟨by rfl, ?_⟩) ?_ ?_
    rotate_left
    · intro w'
      go_simp
      with_reducible rfl
    rotate_left
    · simp only [Act.put, List.setIfInBounds_toArray, List.set_cons_zero, List.set_cons_succ, i64_w, i32_w]
      rfl
    refine one_ (i := 7) (N := some 17) #[true, true, true, true, true, true, true, true, false, false, false, false] rfl rfl (one_of HT_.out (by kernel_rfl)) (by decide) (fun K hK => ?_)
    refine goes_ Tryd.func82 (by kernel_rfl) rfl #[.agg #[.bool a0_0, .int .i64 a0_1, .int .u64 a0_2, .int .u64 a0_3, .int .u64 a0_4, .int .u64 a0_5, .int .u64 a0_6, .int .u64 a0_7, .int .u64 a0_8, .int .u64 a0_9, .int .i64 a0_10], .agg #[.int .u64 t175, .int .u64 t176, .int .u64 t177, .int .u64 t178, .int .u64 t179, .int .u64 t180, .int .u64 t181, .int .u64 t182], .int .i64 t183] (by rfl) rfl rfl (by (try simp only [List.map_toArray, List.map_cons, List.map_nil]); first | done | rfl | (simp only [List.length_drop, List.length_take]; rfl)) ?_
    with_reducible refine (barrier_Bar_with.calls a0_0 a0_1 a0_2 a0_3 a0_4 a0_5 a0_6 a0_7 a0_8 a0_9 a0_10 t175 t176 t177 t178 t179 t180 t181 t182 t183 t184 t185 t186 t187 t188 t189 t190 t191 t192 t193 t194 t195 _ A6.out).mono ?_
    rintro e w14 ⟨rfl, hb⟩
    refine ⟨_, rfl, ?_⟩
    replace BK172 := Aside0.mk (blk_below BK172.out hb)
    replace BK173 := Aside0.mk (blk_below BK173.out hb)
    replace HB := Aside0.mk (below_step (by exact HB.out) hb)
    (try clear hb)
    (try clear hb2)
    (try clear hk)
    (try clear hi)
    refine hK.out _ _ ⟨(blk_cell BK172.out 0).trans rfl, (blk_cell BK172.out 1).trans rfl, (blk_cell BK172.out 2).trans rfl, (blk_cell BK172.out 3).trans rfl, (blk_cell BK172.out 4).trans rfl, (blk_cell BK172.out 5).trans rfl, (blk_cell BK172.out 6).trans rfl, (blk_cell BK172.out 7).trans rfl, (blk_cell BK172.out 8).trans rfl, (blk_cell BK172.out 9).trans rfl, (blk_cell BK172.out 10).trans rfl⟩ (fun hHeld => ?_)
    clear hK K
    refine norm_ (a' := ?_) ?_ ?_
    rotate_left
    · show Act.put _ (some 17) _ = _
      simp only [Act.put, List.setIfInBounds_toArray, List.set_cons_zero, List.set_cons_succ, i64_w, i32_w]
      rfl
    refine pure_ (i := 8) (N := some 18) (v := ?_) (a' := ?_) #[true, true, true, true, true, true, true, true, true, false, false, false] rfl rfl (any_of HT_.out (by kernel_rfl)) (fun _ _ _ h => h) (Or.inl ⟨by rfl, ?_⟩) ?_ ?_
    rotate_left
    · intro w'
      go_simp
      with_reducible rfl
    rotate_left
    · simp only [Act.put, List.setIfInBounds_toArray, List.set_cons_zero, List.set_cons_succ, i64_w, i32_w]
      rfl
    refine pure_ (i := 9) (N := some 19) (v := ?_) (a' := ?_) #[true, true, true, true, true, true, true, true, true, true, false, false] rfl rfl (any_of HT_.out (by kernel_rfl)) (fun _ _ _ h => h) (Or.inl ⟨by rfl, ?_⟩) ?_ ?_
    rotate_left
    · intro w'
      go_simp
      with_reducible rfl
    rotate_left
    · simp only [Act.put, List.setIfInBounds_toArray, List.set_cons_zero, List.set_cons_succ, i64_w, i32_w]
      rfl
    refine one_ (i := 10) (N := none) #[true, true, true, true, true, true, true, true, true, true, true, false] rfl rfl (one_of HT_.out (by kernel_rfl)) (by decide) (fun K hK => ?_)
    have hs15 : w14.cell? ⟨gb173, 0, none⟩ = some (.bool false) := (blk_cell BK173.out 0).trans rfl
    have hfs15 := blk_frozen BK173.out 0
    have hns15_0 := NB172_173.out
    have hms15_0 := NB173_172.out
    have hs16 : w14.cell? ⟨gb173, 1, none⟩ = some (.int .i64 0) := (blk_cell BK173.out 1).trans rfl
    have hfs16 := blk_frozen BK173.out 1
    have hns16_0 := NB172_173.out
    have hms16_0 := NB173_172.out
    have hs17 : w14.cell? ⟨gb173, 2, none⟩ = some (.int .u64 0) := (blk_cell BK173.out 2).trans rfl
    have hfs17 := blk_frozen BK173.out 2
    have hns17_0 := NB172_173.out
    have hms17_0 := NB173_172.out
    have hs18 : w14.cell? ⟨gb173, 3, none⟩ = some (.int .u64 0) := (blk_cell BK173.out 3).trans rfl
    have hfs18 := blk_frozen BK173.out 3
    have hns18_0 := NB172_173.out
    have hms18_0 := NB173_172.out
    have hs19 : w14.cell? ⟨gb173, 4, none⟩ = some (.int .u64 0) := (blk_cell BK173.out 4).trans rfl
    have hfs19 := blk_frozen BK173.out 4
    have hns19_0 := NB172_173.out
    have hms19_0 := NB173_172.out
    have hs20 : w14.cell? ⟨gb173, 5, none⟩ = some (.int .u64 0) := (blk_cell BK173.out 5).trans rfl
    have hfs20 := blk_frozen BK173.out 5
    have hns20_0 := NB172_173.out
    have hms20_0 := NB173_172.out
    have hs21 : w14.cell? ⟨gb173, 6, none⟩ = some (.int .u64 0) := (blk_cell BK173.out 6).trans rfl
    have hfs21 := blk_frozen BK173.out 6
    have hns21_0 := NB172_173.out
    have hms21_0 := NB173_172.out
    have hs22 : w14.cell? ⟨gb173, 7, none⟩ = some (.int .u64 0) := (blk_cell BK173.out 7).trans rfl
    have hfs22 := blk_frozen BK173.out 7
    have hns22_0 := NB172_173.out
    have hms22_0 := NB173_172.out
    have hs23 : w14.cell? ⟨gb173, 8, none⟩ = some (.int .u64 0) := (blk_cell BK173.out 8).trans rfl
    have hfs23 := blk_frozen BK173.out 8
    have hns23_0 := NB172_173.out
    have hms23_0 := NB173_172.out
    have hs24 : w14.cell? ⟨gb173, 9, none⟩ = some (.int .u64 0) := (blk_cell BK173.out 9).trans rfl
    have hfs24 := blk_frozen BK173.out 9
    have hns24_0 := NB172_173.out
    have hms24_0 := NB173_172.out
    have hs25 : w14.cell? ⟨gb173, 10, none⟩ = some (.int .i64 0) := (blk_cell BK173.out 10).trans rfl
    have hfs25 := blk_frozen BK173.out 10
    have hns25_0 := NB172_173.out
    have hms25_0 := NB173_172.out
    refine skip_ (w1 := ?_) (by rfl) rfl ?_ ?_
    rotate_left
    · go_simp
      rfl
    refine hK.out _ _ ⟨((cell_far (p := ⟨gb173, _, none⟩) NB172_173.out _).trans (((cell_far (p := ⟨gb173, _, none⟩) NB172_173.out _).trans (((cell_far (p := ⟨gb173, _, none⟩) NB172_173.out _).trans (((cell_far (p := ⟨gb173, _, none⟩) NB172_173.out _).trans (((cell_far (p := ⟨gb173, _, none⟩) NB172_173.out _).trans (((cell_far (p := ⟨gb173, _, none⟩) NB172_173.out _).trans (((cell_far (p := ⟨gb173, _, none⟩) NB172_173.out _).trans (((cell_far (p := ⟨gb173, _, none⟩) NB172_173.out _).trans (((cell_far (p := ⟨gb173, _, none⟩) NB172_173.out _).trans (((cell_far (p := ⟨gb173, _, none⟩) NB172_173.out _).trans (((cell_far (p := ⟨gb173, _, none⟩) NB172_173.out _).trans (hHeld.1)))))))))))))))))))))), ((cell_far (p := ⟨gb173, _, none⟩) NB172_173.out _).trans (((cell_far (p := ⟨gb173, _, none⟩) NB172_173.out _).trans (((cell_far (p := ⟨gb173, _, none⟩) NB172_173.out _).trans (((cell_far (p := ⟨gb173, _, none⟩) NB172_173.out _).trans (((cell_far (p := ⟨gb173, _, none⟩) NB172_173.out _).trans (((cell_far (p := ⟨gb173, _, none⟩) NB172_173.out _).trans (((cell_far (p := ⟨gb173, _, none⟩) NB172_173.out _).trans (((cell_far (p := ⟨gb173, _, none⟩) NB172_173.out _).trans (((cell_far (p := ⟨gb173, _, none⟩) NB172_173.out _).trans (((cell_far (p := ⟨gb173, _, none⟩) NB172_173.out _).trans (((cell_far (p := ⟨gb173, _, none⟩) NB172_173.out _).trans (hHeld.2.1)))))))))))))))))))))), ((cell_far (p := ⟨gb173, _, none⟩) NB172_173.out _).trans (((cell_far (p := ⟨gb173, _, none⟩) NB172_173.out _).trans (((cell_far (p := ⟨gb173, _, none⟩) NB172_173.out _).trans (((cell_far (p := ⟨gb173, _, none⟩) NB172_173.out _).trans (((cell_far (p := ⟨gb173, _, none⟩) NB172_173.out _).trans (((cell_far (p := ⟨gb173, _, none⟩) NB172_173.out _).trans (((cell_far (p := ⟨gb173, _, none⟩) NB172_173.out _).trans (((cell_far (p := ⟨gb173, _, none⟩) NB172_173.out _).trans (((cell_far (p := ⟨gb173, _, none⟩) NB172_173.out _).trans (((cell_far (p := ⟨gb173, _, none⟩) NB172_173.out _).trans (((cell_far (p := ⟨gb173, _, none⟩) NB172_173.out _).trans (hHeld.2.2.1)))))))))))))))))))))), ((cell_far (p := ⟨gb173, _, none⟩) NB172_173.out _).trans (((cell_far (p := ⟨gb173, _, none⟩) NB172_173.out _).trans (((cell_far (p := ⟨gb173, _, none⟩) NB172_173.out _).trans (((cell_far (p := ⟨gb173, _, none⟩) NB172_173.out _).trans (((cell_far (p := ⟨gb173, _, none⟩) NB172_173.out _).trans (((cell_far (p := ⟨gb173, _, none⟩) NB172_173.out _).trans (((cell_far (p := ⟨gb173, _, none⟩) NB172_173.out _).trans (((cell_far (p := ⟨gb173, _, none⟩) NB172_173.out _).trans (((cell_far (p := ⟨gb173, _, none⟩) NB172_173.out _).trans (((cell_far (p := ⟨gb173, _, none⟩) NB172_173.out _).trans (((cell_far (p := ⟨gb173, _, none⟩) NB172_173.out _).trans (hHeld.2.2.2.1)))))))))))))))))))))), ((cell_far (p := ⟨gb173, _, none⟩) NB172_173.out _).trans (((cell_far (p := ⟨gb173, _, none⟩) NB172_173.out _).trans (((cell_far (p := ⟨gb173, _, none⟩) NB172_173.out _).trans (((cell_far (p := ⟨gb173, _, none⟩) NB172_173.out _).trans (((cell_far (p := ⟨gb173, _, none⟩) NB172_173.out _).trans (((cell_far (p := ⟨gb173, _, none⟩) NB172_173.out _).trans (((cell_far (p := ⟨gb173, _, none⟩) NB172_173.out _).trans (((cell_far (p := ⟨gb173, _, none⟩) NB172_173.out _).trans (((cell_far (p := ⟨gb173, _, none⟩) NB172_173.out _).trans (((cell_far (p := ⟨gb173, _, none⟩) NB172_173.out _).trans (((cell_far (p := ⟨gb173, _, none⟩) NB172_173.out _).trans (hHeld.2.2.2.2.1)))))))))))))))))))))), ((cell_far (p := ⟨gb173, _, none⟩) NB172_173.out _).trans (((cell_far (p := ⟨gb173, _, none⟩) NB172_173.out _).trans (((cell_far (p := ⟨gb173, _, none⟩) NB172_173.out _).trans (((cell_far (p := ⟨gb173, _, none⟩) NB172_173.out _).trans (((cell_far (p := ⟨gb173, _, none⟩) NB172_173.out _).trans (((cell_far (p := ⟨gb173, _, none⟩) NB172_173.out _).trans (((cell_far (p := ⟨gb173, _, none⟩) NB172_173.out _).trans (((cell_far (p := ⟨gb173, _, none⟩) NB172_173.out _).trans (((cell_far (p := ⟨gb173, _, none⟩) NB172_173.out _).trans (((cell_far (p := ⟨gb173, _, none⟩) NB172_173.out _).trans (((cell_far (p := ⟨gb173, _, none⟩) NB172_173.out _).trans (hHeld.2.2.2.2.2.1)))))))))))))))))))))), ((cell_far (p := ⟨gb173, _, none⟩) NB172_173.out _).trans (((cell_far (p := ⟨gb173, _, none⟩) NB172_173.out _).trans (((cell_far (p := ⟨gb173, _, none⟩) NB172_173.out _).trans (((cell_far (p := ⟨gb173, _, none⟩) NB172_173.out _).trans (((cell_far (p := ⟨gb173, _, none⟩) NB172_173.out _).trans (((cell_far (p := ⟨gb173, _, none⟩) NB172_173.out _).trans (((cell_far (p := ⟨gb173, _, none⟩) NB172_173.out _).trans (((cell_far (p := ⟨gb173, _, none⟩) NB172_173.out _).trans (((cell_far (p := ⟨gb173, _, none⟩) NB172_173.out _).trans (((cell_far (p := ⟨gb173, _, none⟩) NB172_173.out _).trans (((cell_far (p := ⟨gb173, _, none⟩) NB172_173.out _).trans (hHeld.2.2.2.2.2.2.1)))))))))))))))))))))), ((cell_far (p := ⟨gb173, _, none⟩) NB172_173.out _).trans (((cell_far (p := ⟨gb173, _, none⟩) NB172_173.out _).trans (((cell_far (p := ⟨gb173, _, none⟩) NB172_173.out _).trans (((cell_far (p := ⟨gb173, _, none⟩) NB172_173.out _).trans (((cell_far (p := ⟨gb173, _, none⟩) NB172_173.out _).trans (((cell_far (p := ⟨gb173, _, none⟩) NB172_173.out _).trans (((cell_far (p := ⟨gb173, _, none⟩) NB172_173.out _).trans (((cell_far (p := ⟨gb173, _, none⟩) NB172_173.out _).trans (((cell_far (p := ⟨gb173, _, none⟩) NB172_173.out _).trans (((cell_far (p := ⟨gb173, _, none⟩) NB172_173.out _).trans (((cell_far (p := ⟨gb173, _, none⟩) NB172_173.out _).trans (hHeld.2.2.2.2.2.2.2.1)))))))))))))))))))))), ((cell_far (p := ⟨gb173, _, none⟩) NB172_173.out _).trans (((cell_far (p := ⟨gb173, _, none⟩) NB172_173.out _).trans (((cell_far (p := ⟨gb173, _, none⟩) NB172_173.out _).trans (((cell_far (p := ⟨gb173, _, none⟩) NB172_173.out _).trans (((cell_far (p := ⟨gb173, _, none⟩) NB172_173.out _).trans (((cell_far (p := ⟨gb173, _, none⟩) NB172_173.out _).trans (((cell_far (p := ⟨gb173, _, none⟩) NB172_173.out _).trans (((cell_far (p := ⟨gb173, _, none⟩) NB172_173.out _).trans (((cell_far (p := ⟨gb173, _, none⟩) NB172_173.out _).trans (((cell_far (p := ⟨gb173, _, none⟩) NB172_173.out _).trans (((cell_far (p := ⟨gb173, _, none⟩) NB172_173.out _).trans (hHeld.2.2.2.2.2.2.2.2.1)))))))))))))))))))))), ((cell_far (p := ⟨gb173, _, none⟩) NB172_173.out _).trans (((cell_far (p := ⟨gb173, _, none⟩) NB172_173.out _).trans (((cell_far (p := ⟨gb173, _, none⟩) NB172_173.out _).trans (((cell_far (p := ⟨gb173, _, none⟩) NB172_173.out _).trans (((cell_far (p := ⟨gb173, _, none⟩) NB172_173.out _).trans (((cell_far (p := ⟨gb173, _, none⟩) NB172_173.out _).trans (((cell_far (p := ⟨gb173, _, none⟩) NB172_173.out _).trans (((cell_far (p := ⟨gb173, _, none⟩) NB172_173.out _).trans (((cell_far (p := ⟨gb173, _, none⟩) NB172_173.out _).trans (((cell_far (p := ⟨gb173, _, none⟩) NB172_173.out _).trans (((cell_far (p := ⟨gb173, _, none⟩) NB172_173.out _).trans (hHeld.2.2.2.2.2.2.2.2.2.1)))))))))))))))))))))), ((cell_far (p := ⟨gb173, _, none⟩) NB172_173.out _).trans (((cell_far (p := ⟨gb173, _, none⟩) NB172_173.out _).trans (((cell_far (p := ⟨gb173, _, none⟩) NB172_173.out _).trans (((cell_far (p := ⟨gb173, _, none⟩) NB172_173.out _).trans (((cell_far (p := ⟨gb173, _, none⟩) NB172_173.out _).trans (((cell_far (p := ⟨gb173, _, none⟩) NB172_173.out _).trans (((cell_far (p := ⟨gb173, _, none⟩) NB172_173.out _).trans (((cell_far (p := ⟨gb173, _, none⟩) NB172_173.out _).trans (((cell_far (p := ⟨gb173, _, none⟩) NB172_173.out _).trans (((cell_far (p := ⟨gb173, _, none⟩) NB172_173.out _).trans (((cell_far (p := ⟨gb173, _, none⟩) NB172_173.out _).trans (hHeld.2.2.2.2.2.2.2.2.2.2))))))))))))))))))))))⟩ (fun hHeld => ?_)
    clear hK K
    refine pure_ (i := 11) (N := some 5) (v := ?_) (a' := ?_) #[true, true, true, true, true, true, true, true, true, true, true, true] rfl rfl (any_of HT_.out (by kernel_rfl)) (fun _ _ _ h => h) (Or.inl ⟨by rfl, ?_⟩) ?_ ?_
    rotate_left
    · intro w'
      go_simp
      with_reducible rfl
    rotate_left
    · simp only [Act.put, List.setIfInBounds_toArray, List.set_cons_zero, List.set_cons_succ, i64_w, i32_w]
      rfl
    refine done_ (done_of HT_.out (by kernel_rfl)) ?_
    try go_wp2
    refine bodyPost_ret (results_ct rfl _ _ gb173 51 #[.bool t184, .int .i64 t185, .int .u64 t186, .int .u64 t187, .int .u64 t188, .int .u64 t189, .int .u64 t190, .int .u64 t191, .int .u64 t192, .int .u64 t193, .int .i64 t194] (0, 0) _ rfl (by apply pt51_0_11; exact BK173.out) Tryd.underlying51 rfl (by kernel_rfl)) rfl ?_
    exact ⟨by first | rfl | (simp [errW_none, errW_some] <;> rfl) | (simp [*, errW_none, errW_some] <;> rfl), by repeat (first | (with_reducible first | exact HB.out | apply below_alloc | apply pw_below_drewN | apply below_drew1 | refine below_set ?_ GE172.out | refine below_set ?_ GE173.out) | exact HB.out)⟩
  · replace c4 := Bool.eq_false_iff.mpr c4
    subst c4
    have H1 : (some (a0_0, a0_1, a0_2, a0_3, a0_4, a0_5, a0_6, a0_7, a0_8, a0_9, a0_10, 1)) = some (r1, r2, r3, r4, r5, r6, r7, r8, r9, r10, r11, r12) := by rw [if_neg (show ¬ (false = true) by decide)] at H; exact H
    clear H
    have H := H1
    clear H1
    simp only [Option.some.injEq, Prod.mk.injEq] at H
    obtain ⟨rfl, rfl, rfl, rfl, rfl, rfl, rfl, rfl, rfl, rfl, rfl, rfl⟩ := H
    go_enter Tryd.func33, Tryd.ntmps33
    go_wp2_with (first | ((with_reducible refine gate_dst (N := 2) rfl ?_); refine box_event ?hg (N := 2) ?hd (cs := #[.bool a0_0, .int .i64 a0_1, .int .u64 a0_2, .int .u64 a0_3, .int .u64 a0_4, .int .u64 a0_5, .int .u64 a0_6, .int .u64 a0_7, .int .u64 a0_8, .int .u64 a0_9, .int .i64 a0_10]) (t := 51) ?hr ?_; (case hd => rfl); (case hg => rfl); (case hr => first | (go_simp; done) | (go_simp; rfl)); intro gb172 hg w26 hbox hb; have BK172 := Aside0.mk (hbox); have GW172 := Aside0.mk ((by rw [hg]; exact (below_size (by exact HB.out)) : w.heap.size ≤ gb172)); have GE172 := Aside0.mk ((by rw [hg]; exact (below_size (by exact HB.out)) : w.heap.size ≤ gb172)); replace HB := Aside0.mk (below_step (by exact HB.out) hb); clear hb hbox hg) | ((with_reducible refine gate_dst (N := 4) rfl ?_); refine box_event ?hg (N := 4) ?hd (cs := #[.bool false, .int .i64 0, .int .u64 0, .int .u64 0, .int .u64 0, .int .u64 0, .int .u64 0, .int .u64 0, .int .u64 0, .int .u64 0, .int .i64 0]) (t := 51) ?hr ?_; (case hd => rfl); (case hg => rfl); (case hr => first | (go_simp; done) | (go_simp; rfl)); intro gb173 hg w27 hbox hb; have BK173 := Aside0.mk (hbox); have GW173 := Aside0.mk ((by rw [hg]; exact (below_size (by exact HB.out)) : w.heap.size ≤ gb173)); have GE173 := Aside0.mk ((by rw [hg]; exact (below_size (by exact HB.out)) : w.heap.size ≤ gb173)); replace HB := Aside0.mk (below_step (by exact HB.out) hb); have NB172_173 := Aside0.mk ((by rw [hg]; exact Nat.ne_of_lt (blk_lt BK172.out) : gb172 ≠ gb173)); have NB173_172 := Aside0.mk ((by rw [hg]; exact Nat.ne_of_gt (blk_lt BK172.out) : gb173 ≠ gb172)); replace BK172 := Aside0.mk (blk_below BK172.out hb); clear hb hbox hg; have hnb28 := NB172_173.out; have hnc28 := NB173_172.out; have hcz29_0 : w27.cell? ⟨gb172, 0, none⟩ = some (.bool a0_0) := (blk_cell BK172.out 0).trans rfl; have hcz29_1 : w27.cell? ⟨gb172, 1, none⟩ = some (.int .i64 a0_1) := (blk_cell BK172.out 1).trans rfl; have hcz29_2 : w27.cell? ⟨gb172, 2, none⟩ = some (.int .u64 a0_2) := (blk_cell BK172.out 2).trans rfl; have hcz29_3 : w27.cell? ⟨gb172, 3, none⟩ = some (.int .u64 a0_3) := (blk_cell BK172.out 3).trans rfl; have hcz29_4 : w27.cell? ⟨gb172, 4, none⟩ = some (.int .u64 a0_4) := (blk_cell BK172.out 4).trans rfl; have hcz29_5 : w27.cell? ⟨gb172, 5, none⟩ = some (.int .u64 a0_5) := (blk_cell BK172.out 5).trans rfl; have hcz29_6 : w27.cell? ⟨gb172, 6, none⟩ = some (.int .u64 a0_6) := (blk_cell BK172.out 6).trans rfl; have hcz29_7 : w27.cell? ⟨gb172, 7, none⟩ = some (.int .u64 a0_7) := (blk_cell BK172.out 7).trans rfl; have hcz29_8 : w27.cell? ⟨gb172, 8, none⟩ = some (.int .u64 a0_8) := (blk_cell BK172.out 8).trans rfl; have hcz29_9 : w27.cell? ⟨gb172, 9, none⟩ = some (.int .u64 a0_9) := (blk_cell BK172.out 9).trans rfl; have hcz29_10 : w27.cell? ⟨gb172, 10, none⟩ = some (.int .i64 a0_10) := (blk_cell BK172.out 10).trans rfl; have hfz29_0 := blk_frozen BK172.out 0; have hfz29_1 := blk_frozen BK172.out 1; have hfz29_2 := blk_frozen BK172.out 2; have hfz29_3 := blk_frozen BK172.out 3; have hfz29_4 := blk_frozen BK172.out 4; have hfz29_5 := blk_frozen BK172.out 5; have hfz29_6 := blk_frozen BK172.out 6; have hfz29_7 := blk_frozen BK172.out 7; have hfz29_8 := blk_frozen BK172.out 8; have hfz29_9 := blk_frozen BK172.out 9; have hfz29_10 := blk_frozen BK172.out 10) | ((with_reducible refine gate_callee (f := 41) rfl ?_); refine goesL_ (some 7) rfl rfl Tryd.func41 (by kernel_rfl) rfl #[.agg #[.bool a0_0, .int .i64 a0_1, .int .u64 a0_2, .int .u64 a0_3, .int .u64 a0_4, .int .u64 a0_5, .int .u64 a0_6, .int .u64 a0_7, .int .u64 a0_8, .int .u64 a0_9, .int .i64 a0_10]] rfl (by (try simp only [List.map_toArray, List.map_cons, List.map_nil]); first | done | rfl | (simp only [List.length_drop, List.length_take]; rfl)) ?_; (with_reducible refine (barrier_Fine.calls a0_0 a0_1 a0_2 a0_3 a0_4 a0_5 a0_6 a0_7 a0_8 a0_9 a0_10 false _ ?side1 A3.out).mono ?_); (case side1 => exact Go.Proofs.YtdaionnpgcdkdaaDoor.GLW.below hG (by exact HB.out)); rintro e w30 ⟨rfl, hb⟩; refine ⟨_, rfl, ?_⟩; replace BK172 := Aside0.mk (blk_below BK172.out hb); replace BK173 := Aside0.mk (blk_below BK173.out hb); replace HB := Aside0.mk (below_step (by exact HB.out) hb); (try clear hb); (try clear hb2); (try clear hk); (try clear hi); have hcz31_0 : w30.cell? ⟨gb172, 0, none⟩ = some (.bool a0_0) := (blk_cell BK172.out 0).trans rfl; have hcz31_1 : w30.cell? ⟨gb172, 1, none⟩ = some (.int .i64 a0_1) := (blk_cell BK172.out 1).trans rfl; have hcz31_2 : w30.cell? ⟨gb172, 2, none⟩ = some (.int .u64 a0_2) := (blk_cell BK172.out 2).trans rfl; have hcz31_3 : w30.cell? ⟨gb172, 3, none⟩ = some (.int .u64 a0_3) := (blk_cell BK172.out 3).trans rfl; have hcz31_4 : w30.cell? ⟨gb172, 4, none⟩ = some (.int .u64 a0_4) := (blk_cell BK172.out 4).trans rfl; have hcz31_5 : w30.cell? ⟨gb172, 5, none⟩ = some (.int .u64 a0_5) := (blk_cell BK172.out 5).trans rfl; have hcz31_6 : w30.cell? ⟨gb172, 6, none⟩ = some (.int .u64 a0_6) := (blk_cell BK172.out 6).trans rfl; have hcz31_7 : w30.cell? ⟨gb172, 7, none⟩ = some (.int .u64 a0_7) := (blk_cell BK172.out 7).trans rfl; have hcz31_8 : w30.cell? ⟨gb172, 8, none⟩ = some (.int .u64 a0_8) := (blk_cell BK172.out 8).trans rfl; have hcz31_9 : w30.cell? ⟨gb172, 9, none⟩ = some (.int .u64 a0_9) := (blk_cell BK172.out 9).trans rfl; have hcz31_10 : w30.cell? ⟨gb172, 10, none⟩ = some (.int .i64 a0_10) := (blk_cell BK172.out 10).trans rfl; have hfz31_0 := blk_frozen BK172.out 0; have hfz31_1 := blk_frozen BK172.out 1; have hfz31_2 := blk_frozen BK172.out 2; have hfz31_3 := blk_frozen BK172.out 3; have hfz31_4 := blk_frozen BK172.out 4; have hfz31_5 := blk_frozen BK172.out 5; have hfz31_6 := blk_frozen BK172.out 6; have hfz31_7 := blk_frozen BK172.out 7; have hfz31_8 := blk_frozen BK172.out 8; have hfz31_9 := blk_frozen BK172.out 9; have hfz31_10 := blk_frozen BK172.out 10; have hcz32_0 : w30.cell? ⟨gb173, 0, none⟩ = some (.bool false) := (blk_cell BK173.out 0).trans rfl; have hcz32_1 : w30.cell? ⟨gb173, 1, none⟩ = some (.int .i64 0) := (blk_cell BK173.out 1).trans rfl; have hcz32_2 : w30.cell? ⟨gb173, 2, none⟩ = some (.int .u64 0) := (blk_cell BK173.out 2).trans rfl; have hcz32_3 : w30.cell? ⟨gb173, 3, none⟩ = some (.int .u64 0) := (blk_cell BK173.out 3).trans rfl; have hcz32_4 : w30.cell? ⟨gb173, 4, none⟩ = some (.int .u64 0) := (blk_cell BK173.out 4).trans rfl; have hcz32_5 : w30.cell? ⟨gb173, 5, none⟩ = some (.int .u64 0) := (blk_cell BK173.out 5).trans rfl; have hcz32_6 : w30.cell? ⟨gb173, 6, none⟩ = some (.int .u64 0) := (blk_cell BK173.out 6).trans rfl; have hcz32_7 : w30.cell? ⟨gb173, 7, none⟩ = some (.int .u64 0) := (blk_cell BK173.out 7).trans rfl; have hcz32_8 : w30.cell? ⟨gb173, 8, none⟩ = some (.int .u64 0) := (blk_cell BK173.out 8).trans rfl; have hcz32_9 : w30.cell? ⟨gb173, 9, none⟩ = some (.int .u64 0) := (blk_cell BK173.out 9).trans rfl; have hcz32_10 : w30.cell? ⟨gb173, 10, none⟩ = some (.int .i64 0) := (blk_cell BK173.out 10).trans rfl; have hfz32_0 := blk_frozen BK173.out 0; have hfz32_1 := blk_frozen BK173.out 1; have hfz32_2 := blk_frozen BK173.out 2; have hfz32_3 := blk_frozen BK173.out 3; have hfz32_4 := blk_frozen BK173.out 4; have hfz32_5 := blk_frozen BK173.out 5; have hfz32_6 := blk_frozen BK173.out 6; have hfz32_7 := blk_frozen BK173.out 7; have hfz32_8 := blk_frozen BK173.out 8; have hfz32_9 := blk_frozen BK173.out 9; have hfz32_10 := blk_frozen BK173.out 10))
    refine bodyPost_ret (results_ct rfl _ _ gb173 51 #[.bool a0_0, .int .i64 a0_1, .int .u64 a0_2, .int .u64 a0_3, .int .u64 a0_4, .int .u64 a0_5, .int .u64 a0_6, .int .u64 a0_7, .int .u64 a0_8, .int .u64 a0_9, .int .i64 a0_10] (0, 0) _ rfl (by apply pt51_0_11; exact BK173.out) Tryd.underlying51 rfl (by kernel_rfl)) rfl ?_
    exact ⟨by first | rfl | (simp [errW_none, errW_some] <;> rfl) | (simp [*, errW_none, errW_some] <;> rfl), by repeat (first | (with_reducible first | exact HB.out | apply below_alloc | apply pw_below_drewN | apply below_drew1 | refine below_set ?_ GE172.out | refine below_set ?_ GE173.out) | exact HB.out)⟩

/-! ### bartab_Enrol: function 58 -/
set_option maxRecDepth 20000 in
set_option maxHeartbeats 1000000 in
theorem change_err_Enrol (A0 : Option Addr) (c0 : Nat) (l0 : List S51) (i : Int) (p0 : Addr) (w : World) (hr0 : Kd.C k51 w A0 l0.length l0) (hlim : l0.length < 1599289640401) (h0 : 0 ≤ i) (h1 : i < l0.length)
    (x' : S51) (er : Int) (he : er ≠ 0) (K : World → Prop)
    (hcl : Calls Tryd.prog 96 #[.agg #[.bool (rd_T51 l0 i).f0.f0, .int .i64 (rd_T51 l0 i).f0.f1, .int .u64 (rd_T51 l0 i).f1.f0.f0, .int .u64 (rd_T51 l0 i).f1.f0.f1, .int .u64 (rd_T51 l0 i).f1.f0.f2, .int .u64 (rd_T51 l0 i).f1.f0.f3, .int .u64 (rd_T51 l0 i).f1.f1.f0, .int .u64 (rd_T51 l0 i).f1.f1.f1, .int .u64 (rd_T51 l0 i).f1.f1.f2, .int .u64 (rd_T51 l0 i).f1.f1.f3, .int .i64 (rd_T51 l0 i).f2], .pointer (some p0)] w fun e w1 => e = .returned (.tuple #[.agg #[.bool x'.f0.f0, .int .i64 x'.f0.f1, .int .u64 x'.f1.f0.f0, .int .u64 x'.f1.f0.f1, .int .u64 x'.f1.f0.f2, .int .u64 x'.f1.f0.f3, .int .u64 x'.f1.f1.f0, .int .u64 x'.f1.f1.f1, .int .u64 x'.f1.f1.f2, .int .u64 x'.f1.f1.f3, .int .i64 x'.f2], .int .i64 er]) ∧ K w1) :
    Calls Tryd.prog 91 #[.slice A0 l0.length c0, .int .i64 i, .func (.func 96) #[] #[.pointer (some p0)]] w fun e w' => e = .returned (.tuple #[.slice A0 l0.length c0, .int .i64 er]) ∧ ∃ w1, K w1 ∧ Below w1.heap.size w1 w' := by
  have HL := Lib.hid hlim
  obtain ⟨ad, ea, g0, g1, g2, g3, g4, g5, g6, g7, g8, g9, g10⟩ := at_T51 hr0 i h0 h1
  subst ea
  have HC := Lib.hid hcl
  have he' : (er != 0) = true := by simpa using he
  clear hlim hr0 hcl he
  go_enter Tryd.func91, Tryd.ntmps91
  go_wp2_with fail
  refine HC.out.mono ?_
  rintro e w1 ⟨rfl, hK⟩
  have HK := Lib.hid hK
  clear hK
  go_wp2_with fail
  go_ret2
  exact ⟨rfl, w1, HK.out, (Below.refl _ _).alloc (Nat.le_refl _) _⟩
set_option maxRecDepth 20000 in
set_option maxHeartbeats 2000000 in
theorem change_ok_Enrol (A0 : Option Addr) (c0 : Nat) (l0 : List S51) (i : Int) (p0 : Addr) (w : World) (hr0 : Kd.C k51 w A0 l0.length l0) (hlim : l0.length < 1599289640401) (h0 : 0 ≤ i) (h1 : i < l0.length)
    (x' : S51) (K : World → Prop) (hKC : ∀ w1, K w1 → Kd.C k51 w1 A0 l0.length l0)
    (hcl : Calls Tryd.prog 96 #[.agg #[.bool (rd_T51 l0 i).f0.f0, .int .i64 (rd_T51 l0 i).f0.f1, .int .u64 (rd_T51 l0 i).f1.f0.f0, .int .u64 (rd_T51 l0 i).f1.f0.f1, .int .u64 (rd_T51 l0 i).f1.f0.f2, .int .u64 (rd_T51 l0 i).f1.f0.f3, .int .u64 (rd_T51 l0 i).f1.f1.f0, .int .u64 (rd_T51 l0 i).f1.f1.f1, .int .u64 (rd_T51 l0 i).f1.f1.f2, .int .u64 (rd_T51 l0 i).f1.f1.f3, .int .i64 (rd_T51 l0 i).f2], .pointer (some p0)] w fun e w1 => e = .returned (.tuple #[.agg #[.bool x'.f0.f0, .int .i64 x'.f0.f1, .int .u64 x'.f1.f0.f0, .int .u64 x'.f1.f0.f1, .int .u64 x'.f1.f0.f2, .int .u64 x'.f1.f0.f3, .int .u64 x'.f1.f1.f0, .int .u64 x'.f1.f1.f1, .int .u64 x'.f1.f1.f2, .int .u64 x'.f1.f1.f3, .int .i64 x'.f2], .int .i64 0]) ∧ K w1) :
    Calls Tryd.prog 91 #[.slice A0 l0.length c0, .int .i64 i, .func (.func 96) #[] #[.pointer (some p0)]] w fun e w' => ∃ v w1, e = .returned (.tuple #[v, .int .i64 0]) ∧ K w1 ∧ Below w1.heap.size w1 w' ∧ Kd.R k51 51 w' w1.heap.size (fun _ => True) v (l0.set i.toNat x') := by
  have HL := Lib.hid hlim
  obtain ⟨ad, ea, g0, g1, g2, g3, g4, g5, g6, g7, g8, g9, g10⟩ := at_T51 hr0 i h0 h1
  subst ea
  have HC := Lib.hid hcl
  clear hlim hr0 hcl
  go_enter Tryd.func91, Tryd.ntmps91
  go_wp2_with fail
  refine HC.out.mono ?_
  rintro e w1 ⟨rfl, hK⟩
  have HK := Lib.hid hK
  clear hK
  go_wp2_with fail
  refine (twin_any _ c0 l0 _ ((hKC _ HK.out).imp_ ((Below.refl _ _).alloc (Nat.le_refl _) _) (fun _ _ hp => k51.K_below ((Below.refl _ _).alloc (Nat.le_refl _) _) hp)) HL.out).mono ?_
  rintro e w2 ⟨g, cap, rest, rfl, hg, hc, hm, hlen, hgg, hb2⟩
  obtain ⟨L, hL⟩ : ∃ L, L = l0.flatMap enc51 ++ rest := ⟨_, rfl⟩
  rw [← hL] at hgg hlen
  have hsp : i.toNat * 11 + 11 ≤ L.length := by
    have : (l0.flatMap enc51).length = l0.length * 11 := Go.Proofs.YtdaionnpgcdkdaaDoor.flat_len flat51 l0
    rw [hL, List.length_append, this]
    omega
  have HX := Lib.hid (Go.Proofs.YtdaionnpgcdkdaaDoor.Wl.blk_after (Go.Proofs.YtdaionnpgcdkdaaDoor.Wl.new_blk w1 _) hb2)
  have HGG := Lib.hid hgg
  have y0 : w1.heap.size < w2.heap.size := Go.Proofs.YtdaionnpgcdkdaaDoor.Wl.blk_lt HX.out
  have cc : ∀ j, j < 11 → w2.cell? ⟨g, i.toNat * 11 + j, none⟩ = some (L.getD (i.toNat * 11 + j) undef) := fun j hj => by
    rw [Go.Proofs.YtdaionnpgcdkdaaDoor.Wl.blk_cell hgg]
    simp [List.getD, show i.toNat * 11 + j < L.length by omega]
  have x0 := (Go.Proofs.YtdaionnpgcdkdaaDoor.Wl.blk_cell HX.out 0).trans rfl; have z0 := Go.Proofs.YtdaionnpgcdkdaaDoor.Wl.blk_frozen HX.out 0
  have x1 := (Go.Proofs.YtdaionnpgcdkdaaDoor.Wl.blk_cell HX.out 1).trans rfl; have z1 := Go.Proofs.YtdaionnpgcdkdaaDoor.Wl.blk_frozen HX.out 1
  have x2 := (Go.Proofs.YtdaionnpgcdkdaaDoor.Wl.blk_cell HX.out 2).trans rfl; have z2 := Go.Proofs.YtdaionnpgcdkdaaDoor.Wl.blk_frozen HX.out 2
  have x3 := (Go.Proofs.YtdaionnpgcdkdaaDoor.Wl.blk_cell HX.out 3).trans rfl; have z3 := Go.Proofs.YtdaionnpgcdkdaaDoor.Wl.blk_frozen HX.out 3
  have x4 := (Go.Proofs.YtdaionnpgcdkdaaDoor.Wl.blk_cell HX.out 4).trans rfl; have z4 := Go.Proofs.YtdaionnpgcdkdaaDoor.Wl.blk_frozen HX.out 4
  have x5 := (Go.Proofs.YtdaionnpgcdkdaaDoor.Wl.blk_cell HX.out 5).trans rfl; have z5 := Go.Proofs.YtdaionnpgcdkdaaDoor.Wl.blk_frozen HX.out 5
  have x6 := (Go.Proofs.YtdaionnpgcdkdaaDoor.Wl.blk_cell HX.out 6).trans rfl; have z6 := Go.Proofs.YtdaionnpgcdkdaaDoor.Wl.blk_frozen HX.out 6
  have x7 := (Go.Proofs.YtdaionnpgcdkdaaDoor.Wl.blk_cell HX.out 7).trans rfl; have z7 := Go.Proofs.YtdaionnpgcdkdaaDoor.Wl.blk_frozen HX.out 7
  have x8 := (Go.Proofs.YtdaionnpgcdkdaaDoor.Wl.blk_cell HX.out 8).trans rfl; have z8 := Go.Proofs.YtdaionnpgcdkdaaDoor.Wl.blk_frozen HX.out 8
  have x9 := (Go.Proofs.YtdaionnpgcdkdaaDoor.Wl.blk_cell HX.out 9).trans rfl; have z9 := Go.Proofs.YtdaionnpgcdkdaaDoor.Wl.blk_frozen HX.out 9
  have x10 := (Go.Proofs.YtdaionnpgcdkdaaDoor.Wl.blk_cell HX.out 10).trans rfl; have z10 := Go.Proofs.YtdaionnpgcdkdaaDoor.Wl.blk_frozen HX.out 10
  have y_0 : w2.cell? ⟨g, i.toNat * 11, none⟩ = some (L.getD (i.toNat * 11) undef) := cc 0 (by decide); have f0 := Go.Proofs.YtdaionnpgcdkdaaDoor.Wl.blk_frozen HGG.out (i.toNat * 11)
  have y_1 := cc 1 (by decide); have f1 := Go.Proofs.YtdaionnpgcdkdaaDoor.Wl.blk_frozen HGG.out (i.toNat * 11 + 1)
  have y_2 := cc 2 (by decide); have f2 := Go.Proofs.YtdaionnpgcdkdaaDoor.Wl.blk_frozen HGG.out (i.toNat * 11 + 2)
  have y_3 := cc 3 (by decide); have f3 := Go.Proofs.YtdaionnpgcdkdaaDoor.Wl.blk_frozen HGG.out (i.toNat * 11 + 3)
  have y_4 := cc 4 (by decide); have f4 := Go.Proofs.YtdaionnpgcdkdaaDoor.Wl.blk_frozen HGG.out (i.toNat * 11 + 4)
  have y_5 := cc 5 (by decide); have f5 := Go.Proofs.YtdaionnpgcdkdaaDoor.Wl.blk_frozen HGG.out (i.toNat * 11 + 5)
  have y_6 := cc 6 (by decide); have f6 := Go.Proofs.YtdaionnpgcdkdaaDoor.Wl.blk_frozen HGG.out (i.toNat * 11 + 6)
  have y_7 := cc 7 (by decide); have f7 := Go.Proofs.YtdaionnpgcdkdaaDoor.Wl.blk_frozen HGG.out (i.toNat * 11 + 7)
  have y_8 := cc 8 (by decide); have f8 := Go.Proofs.YtdaionnpgcdkdaaDoor.Wl.blk_frozen HGG.out (i.toNat * 11 + 8)
  have y_9 := cc 9 (by decide); have f9 := Go.Proofs.YtdaionnpgcdkdaaDoor.Wl.blk_frozen HGG.out (i.toNat * 11 + 9)
  have y_10 := cc 10 (by decide); have f10 := Go.Proofs.YtdaionnpgcdkdaaDoor.Wl.blk_frozen HGG.out (i.toNat * 11 + 10)
  have HL2 := Lib.hid hL
  have HLEN := Lib.hid hlen
  have HSP := Lib.hid hsp
  have hgB : w1.heap.size < g := Nat.lt_of_succ_le (by simpa using hg)
  have HC2 := Lib.hid hc
  have HM2 := Lib.hid hm
  clear hL hlen hgg cc hsp hc hm hg
  simp only
  go_wp2_with fail
  go_ret2
  have hi' : i.toNat < l0.length := by omega
  have hb3 : Below w1.heap.size w1 w2 := Go.Proofs.YtdaionnpgcdkdaaDoor.Wl.bl_trans ((Below.refl _ _).alloc (Nat.le_refl _) _) hb2
  have hst := Go.Proofs.YtdaionnpgcdkdaaDoor.flat_store flat51 l0 i.toNat hi' x' rest (W := w2) (by rw [← HL2.out]; exact HGG.out)
  refine ⟨_, w1, rfl, HK.out, Go.Proofs.YtdaionnpgcdkdaaDoor.setAll_below (Nat.le_of_lt hgB) (enc51 x') w2 (i.toNat * 11) hb3, ?_⟩
  have hln : (l0.set i.toNat x').length = l0.length := List.length_set ..
  have hrow := twin_row (W := Go.Proofs.YtdaionnpgcdkdaaDoor.setAll w2 g (i.toNat * 11) (enc51 x')) (base := w1.heap.size) (g := g) (cap := cap) (l := l0.set i.toNat x') (rest := rest) (Nat.le_of_lt hgB) (by rw [hln]; exact HC2.out) HM2.out (by
    rw [List.length_append, Go.Proofs.YtdaionnpgcdkdaaDoor.flat_len flat51, hln, ← Go.Proofs.YtdaionnpgcdkdaaDoor.flat_len flat51 l0, ← List.length_append, ← HL2.out]
    exact HLEN.out) hst
  rw [hln] at hrow
  exact hrow
theorem change_in_Enrol (P : Nat → Prop) (A0 : Option Addr) (c0 : Nat) (l0 : List S51) (i : Int) (p0 : Addr) (w : World) (hs : Kd.V k51 51 w w.heap.size P (.slice A0 l0.length c0) l0) (hlim : l0.length < 1599289640401) (h0 : 0 ≤ i) (h1 : i < l0.length)
    (x' : S51) (er : Int) (K : World → Prop) (hKV : ∀ w1, K w1 → Kd.V k51 51 w1 w1.heap.size P (.slice A0 l0.length c0) l0) (hKS : ∀ w1, K w1 → w.heap.size ≤ w1.heap.size)
    (hcl : Calls Tryd.prog 96 #[.agg #[.bool (rd_T51 l0 i).f0.f0, .int .i64 (rd_T51 l0 i).f0.f1, .int .u64 (rd_T51 l0 i).f1.f0.f0, .int .u64 (rd_T51 l0 i).f1.f0.f1, .int .u64 (rd_T51 l0 i).f1.f0.f2, .int .u64 (rd_T51 l0 i).f1.f0.f3, .int .u64 (rd_T51 l0 i).f1.f1.f0, .int .u64 (rd_T51 l0 i).f1.f1.f1, .int .u64 (rd_T51 l0 i).f1.f1.f2, .int .u64 (rd_T51 l0 i).f1.f1.f3, .int .i64 (rd_T51 l0 i).f2], .pointer (some p0)] w fun e w1 => e = .returned (.tuple #[.agg #[.bool x'.f0.f0, .int .i64 x'.f0.f1, .int .u64 x'.f1.f0.f0, .int .u64 x'.f1.f0.f1, .int .u64 x'.f1.f0.f2, .int .u64 x'.f1.f0.f3, .int .u64 x'.f1.f1.f0, .int .u64 x'.f1.f1.f1, .int .u64 x'.f1.f1.f2, .int .u64 x'.f1.f1.f3, .int .i64 x'.f2], .int .i64 er]) ∧ K w1) :
    Calls Tryd.prog 91 #[.slice A0 l0.length c0, .int .i64 i, .func (.func 96) #[] #[.pointer (some p0)]] w fun e w' => ∃ v w1, e = .returned (.tuple #[v, .int .i64 er]) ∧ K w1 ∧ Below w1.heap.size w1 w' ∧ Kd.V k51 51 w' w.heap.size (fun k => P k ∨ w.heap.size ≤ k) v (if er = 0 then l0.set i.toNat x' else l0) := by
  have hr0 := (Kd.V_reads' hs).2.2
  by_cases he : er = 0
  · subst he
    refine (change_ok_Enrol A0 c0 l0 i p0 w hr0 hlim h0 h1 x' K (fun w1 hk => (Kd.V_reads' (hKV w1 hk)).2.2) hcl).mono ?_
    rintro e w' ⟨v, w1, rfl, hk, hb, hr⟩
    refine ⟨v, w1, rfl, hk, hb, ?_⟩
    rw [if_pos rfl]
    exact Kd.V_mono (Kd.R_V (Kd.R_bound hr)) (fun k h => .inr (Nat.le_trans (hKS w1 hk) h.2.1))
  · refine (change_err_Enrol A0 c0 l0 i p0 w hr0 hlim h0 h1 x' er he K hcl).mono ?_
    rintro e w' ⟨rfl, w1, hk, hb⟩
    refine ⟨_, w1, rfl, hk, hb, ?_⟩
    rw [if_neg he]
    exact Kd.V_mono (Kd.V_below (hKV w1 hk) hb) (fun k h => .inl h)
set_option maxRecDepth 20000 in
set_option maxHeartbeats 2000000 in
theorem clos_Enrol (x : S51) (b0 : Nat) (p : Int) (y0 : Bool) (y1 y2 y3 y4 y5 y6 y7 y8 y9 y10 : Int) (er : Int) (W : World) (hG : Go.Proofs.YtdaionnpgcdkdaaDoor.GLW W) (hp0 : W.cell? ⟨b0, 0, none⟩ = some (.int .i64 p)) (h : barrier_Enrol.f x.f0.f0 x.f0.f1 x.f1.f0.f0 x.f1.f0.f1 x.f1.f0.f2 x.f1.f0.f3 x.f1.f1.f0 x.f1.f1.f1 x.f1.f1.f2 x.f1.f1.f3 x.f2 p = some (y0, y1, y2, y3, y4, y5, y6, y7, y8, y9, y10, er)) :
    Calls Tryd.prog 96 #[.agg #[.bool x.f0.f0, .int .i64 x.f0.f1, .int .u64 x.f1.f0.f0, .int .u64 x.f1.f0.f1, .int .u64 x.f1.f0.f2, .int .u64 x.f1.f0.f3, .int .u64 x.f1.f1.f0, .int .u64 x.f1.f1.f1, .int .u64 x.f1.f1.f2, .int .u64 x.f1.f1.f3, .int .i64 x.f2], .pointer (some ⟨b0, 0, none⟩)] W fun e w' => e = .returned (.tuple #[.agg #[.bool y0, .int .i64 y1, .int .u64 y2, .int .u64 y3, .int .u64 y4, .int .u64 y5, .int .u64 y6, .int .u64 y7, .int .u64 y8, .int .u64 y9, .int .i64 y10], .int .i64 er]) ∧ Below W.heap.size W w' := by
  have HH := Lib.hid h
  have HG := Lib.hid hG
  have lt0 : b0 < W.heap.size := World.block_lt_of_cell? W _ hp0
  clear h hG
  go_enter Tryd.func96, Tryd.ntmps96
  go_wp2_with fail
  refine (barrier_Enrol.calls x.f0.f0 x.f0.f1 x.f1.f0.f0 x.f1.f0.f1 x.f1.f0.f2 x.f1.f0.f3 x.f1.f1.f0 x.f1.f1.f1 x.f1.f1.f2 x.f1.f1.f3 x.f2 p y0 y1 y2 y3 y4 y5 y6 y7 y8 y9 y10 er _ (HG.out.below (((Below.refl _ _).alloc (Nat.le_refl _) _).alloc (by simp) _)) HH.out).mono ?_
  rintro e w1 ⟨rfl, hb⟩
  have HB := Lib.hid (Go.Proofs.YtdaionnpgcdkdaaDoor.Wl.blk_after (Go.Proofs.YtdaionnpgcdkdaaDoor.Wl.new_blk1 W _ _) hb)
  have HBB := Lib.hid hb
  have hz : W.heap.size + 1 < w1.heap.size := Go.Proofs.YtdaionnpgcdkdaaDoor.Wl.blk_lt HB.out
  have x0 := (Go.Proofs.YtdaionnpgcdkdaaDoor.Wl.blk_cell HB.out 0).trans rfl; have z0 := Go.Proofs.YtdaionnpgcdkdaaDoor.Wl.blk_frozen HB.out 0
  have x1 := (Go.Proofs.YtdaionnpgcdkdaaDoor.Wl.blk_cell HB.out 1).trans rfl; have z1 := Go.Proofs.YtdaionnpgcdkdaaDoor.Wl.blk_frozen HB.out 1
  have x2 := (Go.Proofs.YtdaionnpgcdkdaaDoor.Wl.blk_cell HB.out 2).trans rfl; have z2 := Go.Proofs.YtdaionnpgcdkdaaDoor.Wl.blk_frozen HB.out 2
  have x3 := (Go.Proofs.YtdaionnpgcdkdaaDoor.Wl.blk_cell HB.out 3).trans rfl; have z3 := Go.Proofs.YtdaionnpgcdkdaaDoor.Wl.blk_frozen HB.out 3
  have x4 := (Go.Proofs.YtdaionnpgcdkdaaDoor.Wl.blk_cell HB.out 4).trans rfl; have z4 := Go.Proofs.YtdaionnpgcdkdaaDoor.Wl.blk_frozen HB.out 4
  have x5 := (Go.Proofs.YtdaionnpgcdkdaaDoor.Wl.blk_cell HB.out 5).trans rfl; have z5 := Go.Proofs.YtdaionnpgcdkdaaDoor.Wl.blk_frozen HB.out 5
  have x6 := (Go.Proofs.YtdaionnpgcdkdaaDoor.Wl.blk_cell HB.out 6).trans rfl; have z6 := Go.Proofs.YtdaionnpgcdkdaaDoor.Wl.blk_frozen HB.out 6
  have x7 := (Go.Proofs.YtdaionnpgcdkdaaDoor.Wl.blk_cell HB.out 7).trans rfl; have z7 := Go.Proofs.YtdaionnpgcdkdaaDoor.Wl.blk_frozen HB.out 7
  have x8 := (Go.Proofs.YtdaionnpgcdkdaaDoor.Wl.blk_cell HB.out 8).trans rfl; have z8 := Go.Proofs.YtdaionnpgcdkdaaDoor.Wl.blk_frozen HB.out 8
  have x9 := (Go.Proofs.YtdaionnpgcdkdaaDoor.Wl.blk_cell HB.out 9).trans rfl; have z9 := Go.Proofs.YtdaionnpgcdkdaaDoor.Wl.blk_frozen HB.out 9
  have x10 := (Go.Proofs.YtdaionnpgcdkdaaDoor.Wl.blk_cell HB.out 10).trans rfl; have z10 := Go.Proofs.YtdaionnpgcdkdaaDoor.Wl.blk_frozen HB.out 10
  clear hb
  go_wp2_with fail
  have hr := Go.Proofs.YtdaionnpgcdkdaaDoor.setAll_full [.bool y0, .int .i64 y1, .int .u64 y2, .int .u64 y3, .int .u64 y4, .int .u64 y5, .int .u64 y6, .int .u64 y7, .int .u64 y8, .int .u64 y9, .int .i64 y10] HB.out rfl
  refine bodyPost_ret (v := .tuple #[.agg #[.bool y0, .int .i64 y1, .int .u64 y2, .int .u64 y3, .int .u64 y4, .int .u64 y5, .int .u64 y6, .int .u64 y7, .int .u64 y8, .int .u64 y9, .int .i64 y10], .int .i64 er]) ?_ rfl ⟨rfl, Go.Proofs.YtdaionnpgcdkdaaDoor.setAll_below (by omega) [.bool y0, .int .i64 y1, .int .u64 y2, .int .u64 y3, .int .u64 y4, .int .u64 y5, .int .u64 y6, .int .u64 y7, .int .u64 y8, .int .u64 y9, .int .i64 y10] w1 0 (Go.Proofs.YtdaionnpgcdkdaaDoor.Wl.bl_trans (((Below.refl _ _).alloc (Nat.le_refl _) _).alloc (by simp) _) HBB.out)⟩
  have d0 : World.cell? _ ⟨W.heap.size + 1, 0, none⟩ = some (.bool y0) := (Go.Proofs.YtdaionnpgcdkdaaDoor.Wl.blk_cell hr 0).trans rfl
  have d1 : World.cell? _ ⟨W.heap.size + 1, 1, none⟩ = some (.int .i64 y1) := (Go.Proofs.YtdaionnpgcdkdaaDoor.Wl.blk_cell hr 1).trans rfl
  have d2 : World.cell? _ ⟨W.heap.size + 1, 2, none⟩ = some (.int .u64 y2) := (Go.Proofs.YtdaionnpgcdkdaaDoor.Wl.blk_cell hr 2).trans rfl
  have d3 : World.cell? _ ⟨W.heap.size + 1, 3, none⟩ = some (.int .u64 y3) := (Go.Proofs.YtdaionnpgcdkdaaDoor.Wl.blk_cell hr 3).trans rfl
  have d4 : World.cell? _ ⟨W.heap.size + 1, 4, none⟩ = some (.int .u64 y4) := (Go.Proofs.YtdaionnpgcdkdaaDoor.Wl.blk_cell hr 4).trans rfl
  have d5 : World.cell? _ ⟨W.heap.size + 1, 5, none⟩ = some (.int .u64 y5) := (Go.Proofs.YtdaionnpgcdkdaaDoor.Wl.blk_cell hr 5).trans rfl
  have d6 : World.cell? _ ⟨W.heap.size + 1, 6, none⟩ = some (.int .u64 y6) := (Go.Proofs.YtdaionnpgcdkdaaDoor.Wl.blk_cell hr 6).trans rfl
  have d7 : World.cell? _ ⟨W.heap.size + 1, 7, none⟩ = some (.int .u64 y7) := (Go.Proofs.YtdaionnpgcdkdaaDoor.Wl.blk_cell hr 7).trans rfl
  have d8 : World.cell? _ ⟨W.heap.size + 1, 8, none⟩ = some (.int .u64 y8) := (Go.Proofs.YtdaionnpgcdkdaaDoor.Wl.blk_cell hr 8).trans rfl
  have d9 : World.cell? _ ⟨W.heap.size + 1, 9, none⟩ = some (.int .u64 y9) := (Go.Proofs.YtdaionnpgcdkdaaDoor.Wl.blk_cell hr 9).trans rfl
  have d10 : World.cell? _ ⟨W.heap.size + 1, 10, none⟩ = some (.int .i64 y10) := (Go.Proofs.YtdaionnpgcdkdaaDoor.Wl.blk_cell hr 10).trans rfl
  simp only [Go.Proofs.YtdaionnpgcdkdaaDoor.setAll] at d0 d1 d2 d3 d4 d5 d6 d7 d8 d9 d10
  simp [results, Tryd.results96, go_sem, d0, d1, d2, d3, d4, d5, d6, d7, d8, d9, d10]
set_option maxRecDepth 20000 in
set_option maxHeartbeats 1000000 in
theorem walk_Enrol (A0 : Option Addr) (c0 n : Nat) (i p : Int) (w : World) (er : Int) (Q : Value → World → Prop) (hn : (n : Int) ≤ 9223372036854775807)
    (hc : ∀ W b, Below w.heap.size w W → W.cell? ⟨b, 0, none⟩ = some (.int .i64 p) → Calls Tryd.prog 91 #[.slice A0 n c0, .int .i64 i, .func (.func 96) #[] #[.pointer (some ⟨b, 0, none⟩)]] W fun e w' => ∃ v, e = .returned (.tuple #[v, .int .i64 er]) ∧ Q v w') :
    Calls Tryd.prog 58 #[.slice A0 n c0, .int .i64 i, .int .i64 p] w fun e w' => ∃ v, e = .returned (.tuple #[v, .int .i64 er]) ∧ Q v w' := by
  have HC := Lib.hid hc
  clear hc
  go_enter Tryd.func58, Tryd.ntmps58
  go_wp2_with fail
  refine (HC.out _ w.heap.size ?_ ?_).mono ?_
  · exact (Below.refl _ _).alloc (Nat.le_refl _) _
  · exact Go.Proofs.YtdaionnpgcdkdaaDoor.Wl.blk_cell (Go.Proofs.YtdaionnpgcdkdaaDoor.Wl.new_blk w _) 0
  rintro e w1 ⟨v, rfl, hq⟩
  have HQ := Lib.hid hq
  clear hq
  go_wp2_with fail
  go_ret2
  exact ⟨_, rfl, HQ.out⟩

def bartab_Enrol.f (l0 : List (S51)) (a1 : Int) (a2 : Int) : Option ((List (S51)) × Int) := if l0.length < 1599289640401 then (if 0 ≤ a1 ∧ a1 < (l0.length : Int) then ((barrier_Enrol.f (rd_T51 l0 a1).f0.f0 (rd_T51 l0 a1).f0.f1 (rd_T51 l0 a1).f1.f0.f0 (rd_T51 l0 a1).f1.f0.f1 (rd_T51 l0 a1).f1.f0.f2 (rd_T51 l0 a1).f1.f0.f3 (rd_T51 l0 a1).f1.f1.f0 (rd_T51 l0 a1).f1.f1.f1 (rd_T51 l0 a1).f1.f1.f2 (rd_T51 l0 a1).f1.f1.f3 (rd_T51 l0 a1).f2 a2).bind fun t => if t.2.2.2.2.2.2.2.2.2.2.2 = 0 then some (l0.set a1.toNat ⟨⟨t.1, t.2.1⟩, ⟨⟨t.2.2.1, t.2.2.2.1, t.2.2.2.2.1, t.2.2.2.2.2.1⟩, ⟨t.2.2.2.2.2.2.1, t.2.2.2.2.2.2.2.1, t.2.2.2.2.2.2.2.2.1, t.2.2.2.2.2.2.2.2.2.1⟩⟩, t.2.2.2.2.2.2.2.2.2.2.1⟩, 0) else some (l0, t.2.2.2.2.2.2.2.2.2.2.2)) else some (l0, 8)) else none
theorem bartab_Enrol.calls (P0_ : Nat → Prop) (A0 : Option Addr) (c0 : Nat) (l0 : List (S51)) (a1 : Int) (a2 : Int) (r1 : List (S51)) (r2 : Int) (w : World) (hG : Go.Proofs.YtdaionnpgcdkdaaDoor.GLW w) (hs0 : Kd.V k51 51 w w.heap.size (fun k_ => P0_ k_) (.slice A0 l0.length c0) l0) (h : bartab_Enrol.f l0 a1 a2 = some (r1, r2)) :
    Calls Tryd.prog 58 #[.slice A0 l0.length c0, .int .i64 a1, .int .i64 a2] w fun e w' => ∃ v0_ : Value, e = .returned (.tuple #[v0_, .int .i64 r2]) ∧ Kd.V k51 51 w' w.heap.size (fun k_ => (P0_ k_ ∨ w.heap.size ≤ k_)) v0_ r1 ∧ Below w.heap.size w w' := by
  unfold bartab_Enrol.f at h
  split at h
  case isFalse => cases h
  rename_i hlim
  refine walk_Enrol A0 c0 l0.length a1 a2 w r2 (fun v w' => Kd.V k51 51 w' w.heap.size (fun k_ => (P0_ k_ ∨ w.heap.size ≤ k_)) v r1 ∧ Below w.heap.size w w') (by omega) ?_
  intro W b hbW hp
  have hle := hbW.size
  split at h
  · rename_i hi
    obtain ⟨⟨y0, y1, y2, y3, y4, y5, y6, y7, y8, y9, y10, er⟩, ht, h⟩ := Option.bind_eq_some_iff.1 h
    have hV := Kd.V_below hs0 hbW
    refine (change_in_Enrol P0_ A0 c0 l0 a1 _ W hV hlim hi.1 hi.2 ⟨⟨y0, y1⟩, ⟨⟨y2, y3, y4, y5⟩, ⟨y6, y7, y8, y9⟩⟩, y10⟩ er (fun w1 => Below W.heap.size W w1) (fun _ h => Kd.V_below hV h) (fun _ h => h.size) (clos_Enrol _ b a2 y0 y1 y2 y3 y4 y5 y6 y7 y8 y9 y10 er W (hG.below hbW) hp ht)).mono ?_
    rintro e w' ⟨v, w1, rfl, hk, hb, hv⟩
    have hbb : Below w.heap.size w w' := Go.Proofs.YtdaionnpgcdkdaaDoor.Wl.bl_trans hbW (Go.Proofs.YtdaionnpgcdkdaaDoor.Wl.bl_trans hk hb)
    dsimp only at h
    split at h
    · rename_i he
      obtain ⟨rfl, rfl⟩ := Prod.mk.inj (Option.some.inj h)
      rw [if_pos he] at hv
      subst he
      exact ⟨v, rfl, Kd.V_mono hv (fun k h => h.imp id (Nat.le_trans hle)), hbb⟩
    · rename_i he
      obtain ⟨rfl, rfl⟩ := Prod.mk.inj (Option.some.inj h)
      rw [if_neg he] at hv
      exact ⟨v, rfl, Kd.V_mono hv (fun k h => h.imp id (Nat.le_trans hle)), hbb⟩
  · rename_i hi
    obtain ⟨rfl, rfl⟩ := Prod.mk.inj (Option.some.inj h)
    refine (change_out 96 _ A0 c0 l0 a1 W hi).mono ?_
    rintro e w' ⟨rfl, hb⟩
    have hbb : Below w.heap.size w w' := Go.Proofs.YtdaionnpgcdkdaaDoor.Wl.bl_trans hbW hb
    exact ⟨_, rfl, Kd.V_mono (Kd.V_below hs0 hbb) (fun k h => .inl h), hbb⟩


/-! ### bartab_Resign: function 60 -/
set_option maxRecDepth 20000 in
set_option maxHeartbeats 1000000 in
theorem change_err_Resign (A0 : Option Addr) (c0 : Nat) (l0 : List S51) (i : Int) (p0 : Addr) (w : World) (hr0 : Kd.C k51 w A0 l0.length l0) (hlim : l0.length < 1599289640401) (h0 : 0 ≤ i) (h1 : i < l0.length)
    (x' : S51) (er : Int) (he : er ≠ 0) (K : World → Prop)
    (hcl : Calls Tryd.prog 97 #[.agg #[.bool (rd_T51 l0 i).f0.f0, .int .i64 (rd_T51 l0 i).f0.f1, .int .u64 (rd_T51 l0 i).f1.f0.f0, .int .u64 (rd_T51 l0 i).f1.f0.f1, .int .u64 (rd_T51 l0 i).f1.f0.f2, .int .u64 (rd_T51 l0 i).f1.f0.f3, .int .u64 (rd_T51 l0 i).f1.f1.f0, .int .u64 (rd_T51 l0 i).f1.f1.f1, .int .u64 (rd_T51 l0 i).f1.f1.f2, .int .u64 (rd_T51 l0 i).f1.f1.f3, .int .i64 (rd_T51 l0 i).f2], .pointer (some p0)] w fun e w1 => e = .returned (.tuple #[.agg #[.bool x'.f0.f0, .int .i64 x'.f0.f1, .int .u64 x'.f1.f0.f0, .int .u64 x'.f1.f0.f1, .int .u64 x'.f1.f0.f2, .int .u64 x'.f1.f0.f3, .int .u64 x'.f1.f1.f0, .int .u64 x'.f1.f1.f1, .int .u64 x'.f1.f1.f2, .int .u64 x'.f1.f1.f3, .int .i64 x'.f2], .int .i64 er]) ∧ K w1) :
    Calls Tryd.prog 91 #[.slice A0 l0.length c0, .int .i64 i, .func (.func 97) #[] #[.pointer (some p0)]] w fun e w' => e = .returned (.tuple #[.slice A0 l0.length c0, .int .i64 er]) ∧ ∃ w1, K w1 ∧ Below w1.heap.size w1 w' := by
  have HL := Lib.hid hlim
  obtain ⟨ad, ea, g0, g1, g2, g3, g4, g5, g6, g7, g8, g9, g10⟩ := at_T51 hr0 i h0 h1
  subst ea
  have HC := Lib.hid hcl
  have he' : (er != 0) = true := by simpa using he
  clear hlim hr0 hcl he
  go_enter Tryd.func91, Tryd.ntmps91
  go_wp2_with fail
  refine HC.out.mono ?_
  rintro e w1 ⟨rfl, hK⟩
  have HK := Lib.hid hK
  clear hK
  go_wp2_with fail
  go_ret2
  exact ⟨rfl, w1, HK.out, (Below.refl _ _).alloc (Nat.le_refl _) _⟩
set_option maxRecDepth 20000 in
set_option maxHeartbeats 2000000 in
theorem change_ok_Resign (A0 : Option Addr) (c0 : Nat) (l0 : List S51) (i : Int) (p0 : Addr) (w : World) (hr0 : Kd.C k51 w A0 l0.length l0) (hlim : l0.length < 1599289640401) (h0 : 0 ≤ i) (h1 : i < l0.length)
    (x' : S51) (K : World → Prop) (hKC : ∀ w1, K w1 → Kd.C k51 w1 A0 l0.length l0)
    (hcl : Calls Tryd.prog 97 #[.agg #[.bool (rd_T51 l0 i).f0.f0, .int .i64 (rd_T51 l0 i).f0.f1, .int .u64 (rd_T51 l0 i).f1.f0.f0, .int .u64 (rd_T51 l0 i).f1.f0.f1, .int .u64 (rd_T51 l0 i).f1.f0.f2, .int .u64 (rd_T51 l0 i).f1.f0.f3, .int .u64 (rd_T51 l0 i).f1.f1.f0, .int .u64 (rd_T51 l0 i).f1.f1.f1, .int .u64 (rd_T51 l0 i).f1.f1.f2, .int .u64 (rd_T51 l0 i).f1.f1.f3, .int .i64 (rd_T51 l0 i).f2], .pointer (some p0)] w fun e w1 => e = .returned (.tuple #[.agg #[.bool x'.f0.f0, .int .i64 x'.f0.f1, .int .u64 x'.f1.f0.f0, .int .u64 x'.f1.f0.f1, .int .u64 x'.f1.f0.f2, .int .u64 x'.f1.f0.f3, .int .u64 x'.f1.f1.f0, .int .u64 x'.f1.f1.f1, .int .u64 x'.f1.f1.f2, .int .u64 x'.f1.f1.f3, .int .i64 x'.f2], .int .i64 0]) ∧ K w1) :
    Calls Tryd.prog 91 #[.slice A0 l0.length c0, .int .i64 i, .func (.func 97) #[] #[.pointer (some p0)]] w fun e w' => ∃ v w1, e = .returned (.tuple #[v, .int .i64 0]) ∧ K w1 ∧ Below w1.heap.size w1 w' ∧ Kd.R k51 51 w' w1.heap.size (fun _ => True) v (l0.set i.toNat x') := by
  have HL := Lib.hid hlim
  obtain ⟨ad, ea, g0, g1, g2, g3, g4, g5, g6, g7, g8, g9, g10⟩ := at_T51 hr0 i h0 h1
  subst ea
  have HC := Lib.hid hcl
  clear hlim hr0 hcl
  go_enter Tryd.func91, Tryd.ntmps91
  go_wp2_with fail
  refine HC.out.mono ?_
  rintro e w1 ⟨rfl, hK⟩
  have HK := Lib.hid hK
  clear hK
  go_wp2_with fail
  refine (twin_any _ c0 l0 _ ((hKC _ HK.out).imp_ ((Below.refl _ _).alloc (Nat.le_refl _) _) (fun _ _ hp => k51.K_below ((Below.refl _ _).alloc (Nat.le_refl _) _) hp)) HL.out).mono ?_
  rintro e w2 ⟨g, cap, rest, rfl, hg, hc, hm, hlen, hgg, hb2⟩
  obtain ⟨L, hL⟩ : ∃ L, L = l0.flatMap enc51 ++ rest := ⟨_, rfl⟩
  rw [← hL] at hgg hlen
  have hsp : i.toNat * 11 + 11 ≤ L.length := by
    have : (l0.flatMap enc51).length = l0.length * 11 := Go.Proofs.YtdaionnpgcdkdaaDoor.flat_len flat51 l0
    rw [hL, List.length_append, this]
    omega
  have HX := Lib.hid (Go.Proofs.YtdaionnpgcdkdaaDoor.Wl.blk_after (Go.Proofs.YtdaionnpgcdkdaaDoor.Wl.new_blk w1 _) hb2)
  have HGG := Lib.hid hgg
  have y0 : w1.heap.size < w2.heap.size := Go.Proofs.YtdaionnpgcdkdaaDoor.Wl.blk_lt HX.out
  have cc : ∀ j, j < 11 → w2.cell? ⟨g, i.toNat * 11 + j, none⟩ = some (L.getD (i.toNat * 11 + j) undef) := fun j hj => by
    rw [Go.Proofs.YtdaionnpgcdkdaaDoor.Wl.blk_cell hgg]
    simp [List.getD, show i.toNat * 11 + j < L.length by omega]
  have x0 := (Go.Proofs.YtdaionnpgcdkdaaDoor.Wl.blk_cell HX.out 0).trans rfl; have z0 := Go.Proofs.YtdaionnpgcdkdaaDoor.Wl.blk_frozen HX.out 0
  have x1 := (Go.Proofs.YtdaionnpgcdkdaaDoor.Wl.blk_cell HX.out 1).trans rfl; have z1 := Go.Proofs.YtdaionnpgcdkdaaDoor.Wl.blk_frozen HX.out 1
  have x2 := (Go.Proofs.YtdaionnpgcdkdaaDoor.Wl.blk_cell HX.out 2).trans rfl; have z2 := Go.Proofs.YtdaionnpgcdkdaaDoor.Wl.blk_frozen HX.out 2
  have x3 := (Go.Proofs.YtdaionnpgcdkdaaDoor.Wl.blk_cell HX.out 3).trans rfl; have z3 := Go.Proofs.YtdaionnpgcdkdaaDoor.Wl.blk_frozen HX.out 3
  have x4 := (Go.Proofs.YtdaionnpgcdkdaaDoor.Wl.blk_cell HX.out 4).trans rfl; have z4 := Go.Proofs.YtdaionnpgcdkdaaDoor.Wl.blk_frozen HX.out 4
  have x5 := (Go.Proofs.YtdaionnpgcdkdaaDoor.Wl.blk_cell HX.out 5).trans rfl; have z5 := Go.Proofs.YtdaionnpgcdkdaaDoor.Wl.blk_frozen HX.out 5
  have x6 := (Go.Proofs.YtdaionnpgcdkdaaDoor.Wl.blk_cell HX.out 6).trans rfl; have z6 := Go.Proofs.YtdaionnpgcdkdaaDoor.Wl.blk_frozen HX.out 6
  have x7 := (Go.Proofs.YtdaionnpgcdkdaaDoor.Wl.blk_cell HX.out 7).trans rfl; have z7 := Go.Proofs.YtdaionnpgcdkdaaDoor.Wl.blk_frozen HX.out 7
  have x8 := (Go.Proofs.YtdaionnpgcdkdaaDoor.Wl.blk_cell HX.out 8).trans rfl; have z8 := Go.Proofs.YtdaionnpgcdkdaaDoor.Wl.blk_frozen HX.out 8
  have x9 := (Go.Proofs.YtdaionnpgcdkdaaDoor.Wl.blk_cell HX.out 9).trans rfl; have z9 := Go.Proofs.YtdaionnpgcdkdaaDoor.Wl.blk_frozen HX.out 9
  have x10 := (Go.Proofs.YtdaionnpgcdkdaaDoor.Wl.blk_cell HX.out 10).trans rfl; have z10 := Go.Proofs.YtdaionnpgcdkdaaDoor.Wl.blk_frozen HX.out 10
  have y_0 : w2.cell? ⟨g, i.toNat * 11, none⟩ = some (L.getD (i.toNat * 11) undef) := cc 0 (by decide); have f0 := Go.Proofs.YtdaionnpgcdkdaaDoor.Wl.blk_frozen HGG.out (i.toNat * 11)
  have y_1 := cc 1 (by decide); have f1 := Go.Proofs.YtdaionnpgcdkdaaDoor.Wl.blk_frozen HGG.out (i.toNat * 11 + 1)
  have y_2 := cc 2 (by decide); have f2 := Go.Proofs.YtdaionnpgcdkdaaDoor.Wl.blk_frozen HGG.out (i.toNat * 11 + 2)
  have y_3 := cc 3 (by decide); have f3 := Go.Proofs.YtdaionnpgcdkdaaDoor.Wl.blk_frozen HGG.out (i.toNat * 11 + 3)
  have y_4 := cc 4 (by decide); have f4 := Go.Proofs.YtdaionnpgcdkdaaDoor.Wl.blk_frozen HGG.out (i.toNat * 11 + 4)
  have y_5 := cc 5 (by decide); have f5 := Go.Proofs.YtdaionnpgcdkdaaDoor.Wl.blk_frozen HGG.out (i.toNat * 11 + 5)
  have y_6 := cc 6 (by decide); have f6 := Go.Proofs.YtdaionnpgcdkdaaDoor.Wl.blk_frozen HGG.out (i.toNat * 11 + 6)
  have y_7 := cc 7 (by decide); have f7 := Go.Proofs.YtdaionnpgcdkdaaDoor.Wl.blk_frozen HGG.out (i.toNat * 11 + 7)
  have y_8 := cc 8 (by decide); have f8 := Go.Proofs.YtdaionnpgcdkdaaDoor.Wl.blk_frozen HGG.out (i.toNat * 11 + 8)
  have y_9 := cc 9 (by decide); have f9 := Go.Proofs.YtdaionnpgcdkdaaDoor.Wl.blk_frozen HGG.out (i.toNat * 11 + 9)
  have y_10 := cc 10 (by decide); have f10 := Go.Proofs.YtdaionnpgcdkdaaDoor.Wl.blk_frozen HGG.out (i.toNat * 11 + 10)
  have HL2 := Lib.hid hL
  have HLEN := Lib.hid hlen
  have HSP := Lib.hid hsp
  have hgB : w1.heap.size < g := Nat.lt_of_succ_le (by simpa using hg)
  have HC2 := Lib.hid hc
  have HM2 := Lib.hid hm
  clear hL hlen hgg cc hsp hc hm hg
  simp only
  go_wp2_with fail
  go_ret2
  have hi' : i.toNat < l0.length := by omega
  have hb3 : Below w1.heap.size w1 w2 := Go.Proofs.YtdaionnpgcdkdaaDoor.Wl.bl_trans ((Below.refl _ _).alloc (Nat.le_refl _) _) hb2
  have hst := Go.Proofs.YtdaionnpgcdkdaaDoor.flat_store flat51 l0 i.toNat hi' x' rest (W := w2) (by rw [← HL2.out]; exact HGG.out)
  refine ⟨_, w1, rfl, HK.out, Go.Proofs.YtdaionnpgcdkdaaDoor.setAll_below (Nat.le_of_lt hgB) (enc51 x') w2 (i.toNat * 11) hb3, ?_⟩
  have hln : (l0.set i.toNat x').length = l0.length := List.length_set ..
  have hrow := twin_row (W := Go.Proofs.YtdaionnpgcdkdaaDoor.setAll w2 g (i.toNat * 11) (enc51 x')) (base := w1.heap.size) (g := g) (cap := cap) (l := l0.set i.toNat x') (rest := rest) (Nat.le_of_lt hgB) (by rw [hln]; exact HC2.out) HM2.out (by
    rw [List.length_append, Go.Proofs.YtdaionnpgcdkdaaDoor.flat_len flat51, hln, ← Go.Proofs.YtdaionnpgcdkdaaDoor.flat_len flat51 l0, ← List.length_append, ← HL2.out]
    exact HLEN.out) hst
  rw [hln] at hrow
  exact hrow
theorem change_in_Resign (P : Nat → Prop) (A0 : Option Addr) (c0 : Nat) (l0 : List S51) (i : Int) (p0 : Addr) (w : World) (hs : Kd.V k51 51 w w.heap.size P (.slice A0 l0.length c0) l0) (hlim : l0.length < 1599289640401) (h0 : 0 ≤ i) (h1 : i < l0.length)
    (x' : S51) (er : Int) (K : World → Prop) (hKV : ∀ w1, K w1 → Kd.V k51 51 w1 w1.heap.size P (.slice A0 l0.length c0) l0) (hKS : ∀ w1, K w1 → w.heap.size ≤ w1.heap.size)
    (hcl : Calls Tryd.prog 97 #[.agg #[.bool (rd_T51 l0 i).f0.f0, .int .i64 (rd_T51 l0 i).f0.f1, .int .u64 (rd_T51 l0 i).f1.f0.f0, .int .u64 (rd_T51 l0 i).f1.f0.f1, .int .u64 (rd_T51 l0 i).f1.f0.f2, .int .u64 (rd_T51 l0 i).f1.f0.f3, .int .u64 (rd_T51 l0 i).f1.f1.f0, .int .u64 (rd_T51 l0 i).f1.f1.f1, .int .u64 (rd_T51 l0 i).f1.f1.f2, .int .u64 (rd_T51 l0 i).f1.f1.f3, .int .i64 (rd_T51 l0 i).f2], .pointer (some p0)] w fun e w1 => e = .returned (.tuple #[.agg #[.bool x'.f0.f0, .int .i64 x'.f0.f1, .int .u64 x'.f1.f0.f0, .int .u64 x'.f1.f0.f1, .int .u64 x'.f1.f0.f2, .int .u64 x'.f1.f0.f3, .int .u64 x'.f1.f1.f0, .int .u64 x'.f1.f1.f1, .int .u64 x'.f1.f1.f2, .int .u64 x'.f1.f1.f3, .int .i64 x'.f2], .int .i64 er]) ∧ K w1) :
    Calls Tryd.prog 91 #[.slice A0 l0.length c0, .int .i64 i, .func (.func 97) #[] #[.pointer (some p0)]] w fun e w' => ∃ v w1, e = .returned (.tuple #[v, .int .i64 er]) ∧ K w1 ∧ Below w1.heap.size w1 w' ∧ Kd.V k51 51 w' w.heap.size (fun k => P k ∨ w.heap.size ≤ k) v (if er = 0 then l0.set i.toNat x' else l0) := by
  have hr0 := (Kd.V_reads' hs).2.2
  by_cases he : er = 0
  · subst he
    refine (change_ok_Resign A0 c0 l0 i p0 w hr0 hlim h0 h1 x' K (fun w1 hk => (Kd.V_reads' (hKV w1 hk)).2.2) hcl).mono ?_
    rintro e w' ⟨v, w1, rfl, hk, hb, hr⟩
    refine ⟨v, w1, rfl, hk, hb, ?_⟩
    rw [if_pos rfl]
    exact Kd.V_mono (Kd.R_V (Kd.R_bound hr)) (fun k h => .inr (Nat.le_trans (hKS w1 hk) h.2.1))
  · refine (change_err_Resign A0 c0 l0 i p0 w hr0 hlim h0 h1 x' er he K hcl).mono ?_
    rintro e w' ⟨rfl, w1, hk, hb⟩
    refine ⟨_, w1, rfl, hk, hb, ?_⟩
    rw [if_neg he]
    exact Kd.V_mono (Kd.V_below (hKV w1 hk) hb) (fun k h => .inl h)
set_option maxRecDepth 20000 in
set_option maxHeartbeats 2000000 in
theorem clos_Resign (x : S51) (b0 : Nat) (p : Int) (y0 : Bool) (y1 y2 y3 y4 y5 y6 y7 y8 y9 y10 : Int) (er : Int) (W : World) (hG : Go.Proofs.YtdaionnpgcdkdaaDoor.GLW W) (hp0 : W.cell? ⟨b0, 0, none⟩ = some (.int .i64 p)) (h : barrier_Resign.f x.f0.f0 x.f0.f1 x.f1.f0.f0 x.f1.f0.f1 x.f1.f0.f2 x.f1.f0.f3 x.f1.f1.f0 x.f1.f1.f1 x.f1.f1.f2 x.f1.f1.f3 x.f2 p = some (y0, y1, y2, y3, y4, y5, y6, y7, y8, y9, y10, er)) :
    Calls Tryd.prog 97 #[.agg #[.bool x.f0.f0, .int .i64 x.f0.f1, .int .u64 x.f1.f0.f0, .int .u64 x.f1.f0.f1, .int .u64 x.f1.f0.f2, .int .u64 x.f1.f0.f3, .int .u64 x.f1.f1.f0, .int .u64 x.f1.f1.f1, .int .u64 x.f1.f1.f2, .int .u64 x.f1.f1.f3, .int .i64 x.f2], .pointer (some ⟨b0, 0, none⟩)] W fun e w' => e = .returned (.tuple #[.agg #[.bool y0, .int .i64 y1, .int .u64 y2, .int .u64 y3, .int .u64 y4, .int .u64 y5, .int .u64 y6, .int .u64 y7, .int .u64 y8, .int .u64 y9, .int .i64 y10], .int .i64 er]) ∧ Below W.heap.size W w' := by
  have HH := Lib.hid h
  have HG := Lib.hid hG
  have lt0 : b0 < W.heap.size := World.block_lt_of_cell? W _ hp0
  clear h hG
  go_enter Tryd.func97, Tryd.ntmps97
  go_wp2_with fail
  refine (barrier_Resign.calls x.f0.f0 x.f0.f1 x.f1.f0.f0 x.f1.f0.f1 x.f1.f0.f2 x.f1.f0.f3 x.f1.f1.f0 x.f1.f1.f1 x.f1.f1.f2 x.f1.f1.f3 x.f2 p y0 y1 y2 y3 y4 y5 y6 y7 y8 y9 y10 er _ (HG.out.below (((Below.refl _ _).alloc (Nat.le_refl _) _).alloc (by simp) _)) HH.out).mono ?_
  rintro e w1 ⟨rfl, hb⟩
  have HB := Lib.hid (Go.Proofs.YtdaionnpgcdkdaaDoor.Wl.blk_after (Go.Proofs.YtdaionnpgcdkdaaDoor.Wl.new_blk1 W _ _) hb)
  have HBB := Lib.hid hb
  have hz : W.heap.size + 1 < w1.heap.size := Go.Proofs.YtdaionnpgcdkdaaDoor.Wl.blk_lt HB.out
  have x0 := (Go.Proofs.YtdaionnpgcdkdaaDoor.Wl.blk_cell HB.out 0).trans rfl; have z0 := Go.Proofs.YtdaionnpgcdkdaaDoor.Wl.blk_frozen HB.out 0
  have x1 := (Go.Proofs.YtdaionnpgcdkdaaDoor.Wl.blk_cell HB.out 1).trans rfl; have z1 := Go.Proofs.YtdaionnpgcdkdaaDoor.Wl.blk_frozen HB.out 1
  have x2 := (Go.Proofs.YtdaionnpgcdkdaaDoor.Wl.blk_cell HB.out 2).trans rfl; have z2 := Go.Proofs.YtdaionnpgcdkdaaDoor.Wl.blk_frozen HB.out 2
  have x3 := (Go.Proofs.YtdaionnpgcdkdaaDoor.Wl.blk_cell HB.out 3).trans rfl; have z3 := Go.Proofs.YtdaionnpgcdkdaaDoor.Wl.blk_frozen HB.out 3
  have x4 := (Go.Proofs.YtdaionnpgcdkdaaDoor.Wl.blk_cell HB.out 4).trans rfl; have z4 := Go.Proofs.YtdaionnpgcdkdaaDoor.Wl.blk_frozen HB.out 4
  have x5 := (Go.Proofs.YtdaionnpgcdkdaaDoor.Wl.blk_cell HB.out 5).trans rfl; have z5 := Go.Proofs.YtdaionnpgcdkdaaDoor.Wl.blk_frozen HB.out 5
  have x6 := (Go.Proofs.YtdaionnpgcdkdaaDoor.Wl.blk_cell HB.out 6).trans rfl; have z6 := Go.Proofs.YtdaionnpgcdkdaaDoor.Wl.blk_frozen HB.out 6
  have x7 := (Go.Proofs.YtdaionnpgcdkdaaDoor.Wl.blk_cell HB.out 7).trans rfl; have z7 := Go.Proofs.YtdaionnpgcdkdaaDoor.Wl.blk_frozen HB.out 7
  have x8 := (Go.Proofs.YtdaionnpgcdkdaaDoor.Wl.blk_cell HB.out 8).trans rfl; have z8 := Go.Proofs.YtdaionnpgcdkdaaDoor.Wl.blk_frozen HB.out 8
  have x9 := (Go.Proofs.YtdaionnpgcdkdaaDoor.Wl.blk_cell HB.out 9).trans rfl; have z9 := Go.Proofs.YtdaionnpgcdkdaaDoor.Wl.blk_frozen HB.out 9
  have x10 := (Go.Proofs.YtdaionnpgcdkdaaDoor.Wl.blk_cell HB.out 10).trans rfl; have z10 := Go.Proofs.YtdaionnpgcdkdaaDoor.Wl.blk_frozen HB.out 10
  clear hb
  go_wp2_with fail
  have hr := Go.Proofs.YtdaionnpgcdkdaaDoor.setAll_full [.bool y0, .int .i64 y1, .int .u64 y2, .int .u64 y3, .int .u64 y4, .int .u64 y5, .int .u64 y6, .int .u64 y7, .int .u64 y8, .int .u64 y9, .int .i64 y10] HB.out rfl
  refine bodyPost_ret (v := .tuple #[.agg #[.bool y0, .int .i64 y1, .int .u64 y2, .int .u64 y3, .int .u64 y4, .int .u64 y5, .int .u64 y6, .int .u64 y7, .int .u64 y8, .int .u64 y9, .int .i64 y10], .int .i64 er]) ?_ rfl ⟨rfl, Go.Proofs.YtdaionnpgcdkdaaDoor.setAll_below (by omega) [.bool y0, .int .i64 y1, .int .u64 y2, .int .u64 y3, .int .u64 y4, .int .u64 y5, .int .u64 y6, .int .u64 y7, .int .u64 y8, .int .u64 y9, .int .i64 y10] w1 0 (Go.Proofs.YtdaionnpgcdkdaaDoor.Wl.bl_trans (((Below.refl _ _).alloc (Nat.le_refl _) _).alloc (by simp) _) HBB.out)⟩
  have d0 : World.cell? _ ⟨W.heap.size + 1, 0, none⟩ = some (.bool y0) := (Go.Proofs.YtdaionnpgcdkdaaDoor.Wl.blk_cell hr 0).trans rfl
  have d1 : World.cell? _ ⟨W.heap.size + 1, 1, none⟩ = some (.int .i64 y1) := (Go.Proofs.YtdaionnpgcdkdaaDoor.Wl.blk_cell hr 1).trans rfl
  have d2 : World.cell? _ ⟨W.heap.size + 1, 2, none⟩ = some (.int .u64 y2) := (Go.Proofs.YtdaionnpgcdkdaaDoor.Wl.blk_cell hr 2).trans rfl
  have d3 : World.cell? _ ⟨W.heap.size + 1, 3, none⟩ = some (.int .u64 y3) := (Go.Proofs.YtdaionnpgcdkdaaDoor.Wl.blk_cell hr 3).trans rfl
  have d4 : World.cell? _ ⟨W.heap.size + 1, 4, none⟩ = some (.int .u64 y4) := (Go.Proofs.YtdaionnpgcdkdaaDoor.Wl.blk_cell hr 4).trans rfl
  have d5 : World.cell? _ ⟨W.heap.size + 1, 5, none⟩ = some (.int .u64 y5) := (Go.Proofs.YtdaionnpgcdkdaaDoor.Wl.blk_cell hr 5).trans rfl
  have d6 : World.cell? _ ⟨W.heap.size + 1, 6, none⟩ = some (.int .u64 y6) := (Go.Proofs.YtdaionnpgcdkdaaDoor.Wl.blk_cell hr 6).trans rfl
  have d7 : World.cell? _ ⟨W.heap.size + 1, 7, none⟩ = some (.int .u64 y7) := (Go.Proofs.YtdaionnpgcdkdaaDoor.Wl.blk_cell hr 7).trans rfl
  have d8 : World.cell? _ ⟨W.heap.size + 1, 8, none⟩ = some (.int .u64 y8) := (Go.Proofs.YtdaionnpgcdkdaaDoor.Wl.blk_cell hr 8).trans rfl
  have d9 : World.cell? _ ⟨W.heap.size + 1, 9, none⟩ = some (.int .u64 y9) := (Go.Proofs.YtdaionnpgcdkdaaDoor.Wl.blk_cell hr 9).trans rfl
  have d10 : World.cell? _ ⟨W.heap.size + 1, 10, none⟩ = some (.int .i64 y10) := (Go.Proofs.YtdaionnpgcdkdaaDoor.Wl.blk_cell hr 10).trans rfl
  simp only [Go.Proofs.YtdaionnpgcdkdaaDoor.setAll] at d0 d1 d2 d3 d4 d5 d6 d7 d8 d9 d10
  simp [results, Tryd.results97, go_sem, d0, d1, d2, d3, d4, d5, d6, d7, d8, d9, d10]
set_option maxRecDepth 20000 in
set_option maxHeartbeats 1000000 in
theorem walk_Resign (A0 : Option Addr) (c0 n : Nat) (i p : Int) (w : World) (er : Int) (Q : Value → World → Prop) (hn : (n : Int) ≤ 9223372036854775807)
    (hc : ∀ W b, Below w.heap.size w W → W.cell? ⟨b, 0, none⟩ = some (.int .i64 p) → Calls Tryd.prog 91 #[.slice A0 n c0, .int .i64 i, .func (.func 97) #[] #[.pointer (some ⟨b, 0, none⟩)]] W fun e w' => ∃ v, e = .returned (.tuple #[v, .int .i64 er]) ∧ Q v w') :
    Calls Tryd.prog 60 #[.slice A0 n c0, .int .i64 i, .int .i64 p] w fun e w' => ∃ v, e = .returned (.tuple #[v, .int .i64 er]) ∧ Q v w' := by
  have HC := Lib.hid hc
  clear hc
  go_enter Tryd.func60, Tryd.ntmps60
  go_wp2_with fail
  refine (HC.out _ w.heap.size ?_ ?_).mono ?_
  · exact (Below.refl _ _).alloc (Nat.le_refl _) _
  · exact Go.Proofs.YtdaionnpgcdkdaaDoor.Wl.blk_cell (Go.Proofs.YtdaionnpgcdkdaaDoor.Wl.new_blk w _) 0
  rintro e w1 ⟨v, rfl, hq⟩
  have HQ := Lib.hid hq
  clear hq
  go_wp2_with fail
  go_ret2
  exact ⟨_, rfl, HQ.out⟩

def bartab_Resign.f (l0 : List (S51)) (a1 : Int) (a2 : Int) : Option ((List (S51)) × Int) := if l0.length < 1599289640401 then (if 0 ≤ a1 ∧ a1 < (l0.length : Int) then ((barrier_Resign.f (rd_T51 l0 a1).f0.f0 (rd_T51 l0 a1).f0.f1 (rd_T51 l0 a1).f1.f0.f0 (rd_T51 l0 a1).f1.f0.f1 (rd_T51 l0 a1).f1.f0.f2 (rd_T51 l0 a1).f1.f0.f3 (rd_T51 l0 a1).f1.f1.f0 (rd_T51 l0 a1).f1.f1.f1 (rd_T51 l0 a1).f1.f1.f2 (rd_T51 l0 a1).f1.f1.f3 (rd_T51 l0 a1).f2 a2).bind fun t => if t.2.2.2.2.2.2.2.2.2.2.2 = 0 then some (l0.set a1.toNat ⟨⟨t.1, t.2.1⟩, ⟨⟨t.2.2.1, t.2.2.2.1, t.2.2.2.2.1, t.2.2.2.2.2.1⟩, ⟨t.2.2.2.2.2.2.1, t.2.2.2.2.2.2.2.1, t.2.2.2.2.2.2.2.2.1, t.2.2.2.2.2.2.2.2.2.1⟩⟩, t.2.2.2.2.2.2.2.2.2.2.1⟩, 0) else some (l0, t.2.2.2.2.2.2.2.2.2.2.2)) else some (l0, 8)) else none
theorem bartab_Resign.calls (P0_ : Nat → Prop) (A0 : Option Addr) (c0 : Nat) (l0 : List (S51)) (a1 : Int) (a2 : Int) (r1 : List (S51)) (r2 : Int) (w : World) (hG : Go.Proofs.YtdaionnpgcdkdaaDoor.GLW w) (hs0 : Kd.V k51 51 w w.heap.size (fun k_ => P0_ k_) (.slice A0 l0.length c0) l0) (h : bartab_Resign.f l0 a1 a2 = some (r1, r2)) :
    Calls Tryd.prog 60 #[.slice A0 l0.length c0, .int .i64 a1, .int .i64 a2] w fun e w' => ∃ v0_ : Value, e = .returned (.tuple #[v0_, .int .i64 r2]) ∧ Kd.V k51 51 w' w.heap.size (fun k_ => (P0_ k_ ∨ w.heap.size ≤ k_)) v0_ r1 ∧ Below w.heap.size w w' := by
  unfold bartab_Resign.f at h
  split at h
  case isFalse => cases h
  rename_i hlim
  refine walk_Resign A0 c0 l0.length a1 a2 w r2 (fun v w' => Kd.V k51 51 w' w.heap.size (fun k_ => (P0_ k_ ∨ w.heap.size ≤ k_)) v r1 ∧ Below w.heap.size w w') (by omega) ?_
  intro W b hbW hp
  have hle := hbW.size
  split at h
  · rename_i hi
    obtain ⟨⟨y0, y1, y2, y3, y4, y5, y6, y7, y8, y9, y10, er⟩, ht, h⟩ := Option.bind_eq_some_iff.1 h
    have hV := Kd.V_below hs0 hbW
    refine (change_in_Resign P0_ A0 c0 l0 a1 _ W hV hlim hi.1 hi.2 ⟨⟨y0, y1⟩, ⟨⟨y2, y3, y4, y5⟩, ⟨y6, y7, y8, y9⟩⟩, y10⟩ er (fun w1 => Below W.heap.size W w1) (fun _ h => Kd.V_below hV h) (fun _ h => h.size) (clos_Resign _ b a2 y0 y1 y2 y3 y4 y5 y6 y7 y8 y9 y10 er W (hG.below hbW) hp ht)).mono ?_
    rintro e w' ⟨v, w1, rfl, hk, hb, hv⟩
    have hbb : Below w.heap.size w w' := Go.Proofs.YtdaionnpgcdkdaaDoor.Wl.bl_trans hbW (Go.Proofs.YtdaionnpgcdkdaaDoor.Wl.bl_trans hk hb)
    dsimp only at h
    split at h
    · rename_i he
      obtain ⟨rfl, rfl⟩ := Prod.mk.inj (Option.some.inj h)
      rw [if_pos he] at hv
      subst he
      exact ⟨v, rfl, Kd.V_mono hv (fun k h => h.imp id (Nat.le_trans hle)), hbb⟩
    · rename_i he
      obtain ⟨rfl, rfl⟩ := Prod.mk.inj (Option.some.inj h)
      rw [if_neg he] at hv
      exact ⟨v, rfl, Kd.V_mono hv (fun k h => h.imp id (Nat.le_trans hle)), hbb⟩
  · rename_i hi
    obtain ⟨rfl, rfl⟩ := Prod.mk.inj (Option.some.inj h)
    refine (change_out 97 _ A0 c0 l0 a1 W hi).mono ?_
    rintro e w' ⟨rfl, hb⟩
    have hbb : Below w.heap.size w w' := Go.Proofs.YtdaionnpgcdkdaaDoor.Wl.bl_trans hbW hb
    exact ⟨_, rfl, Kd.V_mono (Kd.V_below hs0 hbb) (fun k h => .inl h), hbb⟩


/-! ### roll_Full: function 16 -/
def roll_Full.f (a0_0 : Int) (a0_1 : Int) (a0_2 : Int) (a0_3 : Int) (a0_4 : Int) (a0_5 : Int) (a0_6 : Int) (a0_7 : Int) : Option (Bool) := if Go.Proofs.YtdaionnpgcdkdaaDoor.okS a0_0 a0_1 a0_2 a0_3 && Go.Proofs.YtdaionnpgcdkdaaDoor.okS a0_4 a0_5 a0_6 a0_7 then some (Go.Proofs.YtdaionnpgcdkdaaDoor.fullR (Go.Proofs.YtdaionnpgcdkdaaDoor.natS a0_0 a0_1 a0_2 a0_3) (Go.Proofs.YtdaionnpgcdkdaaDoor.natS a0_4 a0_5 a0_6 a0_7)) else none
theorem roll_Full.calls (a0_0 : Int) (a0_1 : Int) (a0_2 : Int) (a0_3 : Int) (a0_4 : Int) (a0_5 : Int) (a0_6 : Int) (a0_7 : Int) (r : Bool) (w : World) (hG : Go.Proofs.YtdaionnpgcdkdaaDoor.GLW w) (h : roll_Full.f a0_0 a0_1 a0_2 a0_3 a0_4 a0_5 a0_6 a0_7 = some r) :
    Calls Tryd.prog 16 #[.agg #[.int .u64 a0_0, .int .u64 a0_1, .int .u64 a0_2, .int .u64 a0_3, .int .u64 a0_4, .int .u64 a0_5, .int .u64 a0_6, .int .u64 a0_7]] w fun e w' => e = .returned (.bool r) ∧ Below w.heap.size w w' := by
  unfold roll_Full.f at h
  split at h
  · rename_i hk
    obtain rfl := Option.some.inj h
    rw [Bool.and_eq_true] at hk
    exact Go.Proofs.YtdaionnpgcdkdaaDoor.full_words hk.1 hk.2 w hG.out
  · cases h

/-! ### bitset_List: function 71 -/
def bitset_List.f (a0_0 : Int) (a0_1 : Int) (a0_2 : Int) (a0_3 : Int) : Option (List Int) := if Go.Proofs.YtdaionnpgcdkdaaDoor.okS a0_0 a0_1 a0_2 a0_3 then some (Go.Proofs.YtdaionnpgcdkdaaDoor.elsI (Go.Proofs.YtdaionnpgcdkdaaDoor.natS a0_0 a0_1 a0_2 a0_3)) else none
theorem bitset_List.calls (a0_0 : Int) (a0_1 : Int) (a0_2 : Int) (a0_3 : Int) (r : List Int) (w : World) (hG : Go.Proofs.YtdaionnpgcdkdaaDoor.GLW w) (h : bitset_List.f a0_0 a0_1 a0_2 a0_3 = some r) :
    Calls Tryd.prog 71 #[.agg #[.int .u64 a0_0, .int .u64 a0_1, .int .u64 a0_2, .int .u64 a0_3]] w fun e w' => ∃ v0_ : Value, e = .returned (v0_) ∧ Kd.R (Kd.int .i64) 3 w' w.heap.size (fun _ => True) v0_ r ∧ Below w.heap.size w w' := by
  unfold bitset_List.f at h
  split at h
  · rename_i hk
    obtain rfl := Option.some.inj h
    refine (Go.Proofs.YtdaionnpgcdkdaaDoor.list_words hk w hG.out).mono ?_
    rintro e w' ⟨v, rfl, ho, hb⟩
    exact ⟨v, rfl, Go.Proofs.YtdaionnpgcdkdaaDoor.Kd_ints ho, hb⟩
  · cases h

/-! ### roll_Fire: function 17 -/
def roll_Fire.f (a0_0 : Int) (a0_1 : Int) (a0_2 : Int) (a0_3 : Int) (a0_4 : Int) (a0_5 : Int) (a0_6 : Int) (a0_7 : Int) : Option (Int × Int × Int × Int × Int × Int × Int × Int × List Int × Int) := (roll_Fine.f a0_0 a0_1 a0_2 a0_3 a0_4 a0_5 a0_6 a0_7).bind fun t198 => (if t198 = true then ((roll_Full.f a0_0 a0_1 a0_2 a0_3 a0_4 a0_5 a0_6 a0_7).bind fun t199 => (if t199 = true then ((bitset_List.f a0_4 a0_5 a0_6 a0_7).bind fun t200 => (some (a0_0, a0_1, a0_2, a0_3, 0, 0, 0, 0, t200, 0))) else (some (a0_0, a0_1, a0_2, a0_3, a0_4, a0_5, a0_6, a0_7, ([] : List Int), 13)))) else (some (a0_0, a0_1, a0_2, a0_3, a0_4, a0_5, a0_6, a0_7, ([] : List Int), 1)))
set_option maxHeartbeats 8000000 in
set_option maxRecDepth 100000 in
theorem roll_Fire.calls (a0_0 : Int) (a0_1 : Int) (a0_2 : Int) (a0_3 : Int) (a0_4 : Int) (a0_5 : Int) (a0_6 : Int) (a0_7 : Int) (r1 : Int) (r2 : Int) (r3 : Int) (r4 : Int) (r5 : Int) (r6 : Int) (r7 : Int) (r8 : Int) (r9 : List Int) (r10 : Int) (w : World) (hG : Go.Proofs.YtdaionnpgcdkdaaDoor.GLW w) (h : roll_Fire.f a0_0 a0_1 a0_2 a0_3 a0_4 a0_5 a0_6 a0_7 = some (r1, r2, r3, r4, r5, r6, r7, r8, r9, r10)) :
    Calls Tryd.prog 17 #[.agg #[.int .u64 a0_0, .int .u64 a0_1, .int .u64 a0_2, .int .u64 a0_3, .int .u64 a0_4, .int .u64 a0_5, .int .u64 a0_6, .int .u64 a0_7]] w fun e w' => ∃ v8_ : Value, e = .returned (.tuple #[.agg #[.int .u64 r1, .int .u64 r2, .int .u64 r3, .int .u64 r4, .int .u64 r5, .int .u64 r6, .int .u64 r7, .int .u64 r8], v8_, .int .i64 r10]) ∧ Kd.R (Kd.int .i64) 3 w' w.heap.size (fun _ => True) v8_ r9 ∧ Below w.heap.size w w' := by
  have hu28 := Tryd.underlying28
  have hu26 := Tryd.underlying26
  have HB := Aside0.mk (Below.refl w.heap.size w)
  have H : ((roll_Fine.f a0_0 a0_1 a0_2 a0_3 a0_4 a0_5 a0_6 a0_7).bind fun t198 => (if t198 = true then ((roll_Full.f a0_0 a0_1 a0_2 a0_3 a0_4 a0_5 a0_6 a0_7).bind fun t199 => (if t199 = true then ((bitset_List.f a0_4 a0_5 a0_6 a0_7).bind fun t200 => (some (a0_0, a0_1, a0_2, a0_3, 0, 0, 0, 0, t200, 0))) else (some (a0_0, a0_1, a0_2, a0_3, a0_4, a0_5, a0_6, a0_7, ([] : List Int), 13)))) else (some (a0_0, a0_1, a0_2, a0_3, a0_4, a0_5, a0_6, a0_7, ([] : List Int), 1)))) = some (r1, r2, r3, r4, r5, r6, r7, r8, r9, r10) := h
  clear h
  replace H := Option.bind_eq_some_iff.mp H
  obtain ⟨t198, A20, H⟩ := H
  replace H : (if t198 = true then ((roll_Full.f a0_0 a0_1 a0_2 a0_3 a0_4 a0_5 a0_6 a0_7).bind fun t199 => (if t199 = true then ((bitset_List.f a0_4 a0_5 a0_6 a0_7).bind fun t200 => (some (a0_0, a0_1, a0_2, a0_3, 0, 0, 0, 0, t200, 0))) else (some (a0_0, a0_1, a0_2, a0_3, a0_4, a0_5, a0_6, a0_7, ([] : List Int), 13)))) else (some (a0_0, a0_1, a0_2, a0_3, a0_4, a0_5, a0_6, a0_7, ([] : List Int), 1))) = some (r1, r2, r3, r4, r5, r6, r7, r8, r9, r10) := H
  have A2 := Aside0.mk A20
  clear A20
  by_cases c3 : t198 = true
  · subst c3
    have H1 : ((roll_Full.f a0_0 a0_1 a0_2 a0_3 a0_4 a0_5 a0_6 a0_7).bind fun t199 => (if t199 = true then ((bitset_List.f a0_4 a0_5 a0_6 a0_7).bind fun t200 => (some (a0_0, a0_1, a0_2, a0_3, 0, 0, 0, 0, t200, 0))) else (some (a0_0, a0_1, a0_2, a0_3, a0_4, a0_5, a0_6, a0_7, ([] : List Int), 13)))) = some (r1, r2, r3, r4, r5, r6, r7, r8, r9, r10) := by rw [if_pos rfl] at H; exact H
    clear H
    have H := H1
    clear H1
    replace H := Option.bind_eq_some_iff.mp H
    obtain ⟨t199, A40, H⟩ := H
    replace H : (if t199 = true then ((bitset_List.f a0_4 a0_5 a0_6 a0_7).bind fun t200 => (some (a0_0, a0_1, a0_2, a0_3, 0, 0, 0, 0, t200, 0))) else (some (a0_0, a0_1, a0_2, a0_3, a0_4, a0_5, a0_6, a0_7, ([] : List Int), 13))) = some (r1, r2, r3, r4, r5, r6, r7, r8, r9, r10) := H
    have A4 := Aside0.mk A40
    clear A40
    by_cases c5 : t199 = true
    · subst c5
      have H1 : ((bitset_List.f a0_4 a0_5 a0_6 a0_7).bind fun t200 => (some (a0_0, a0_1, a0_2, a0_3, 0, 0, 0, 0, t200, 0))) = some (r1, r2, r3, r4, r5, r6, r7, r8, r9, r10) := by rw [if_pos rfl] at H; exact H
      clear H
      have H := H1
      clear H1
      replace H := Option.bind_eq_some_iff.mp H
      obtain ⟨t200, A60, H⟩ := H
      replace H : (some (a0_0, a0_1, a0_2, a0_3, 0, 0, 0, 0, t200, 0)) = some (r1, r2, r3, r4, r5, r6, r7, r8, r9, r10) := H
      have A6 := Aside0.mk A60
      clear A60
      simp only [Option.some.injEq, Prod.mk.injEq] at H
      obtain ⟨rfl, rfl, rfl, rfl, rfl, rfl, rfl, rfl, rfl, rfl⟩ := H
      go_enter Tryd.func17, Tryd.ntmps17
      go_wp2_with (first | ((with_reducible refine gate_dst (N := 1) rfl ?_); refine box_event ?hg (N := 1) ?hd (cs := #[.int .u64 a0_0, .int .u64 a0_1, .int .u64 a0_2, .int .u64 a0_3, .int .u64 a0_4, .int .u64 a0_5, .int .u64 a0_6, .int .u64 a0_7]) (t := 28) ?hr ?_; (case hd => rfl); (case hg => rfl); (case hr => first | (go_simp; done) | (go_simp; rfl)); intro gb196 hg w7 hbox hb; have BK196 := Aside0.mk (hbox); have GW196 := Aside0.mk ((by rw [hg]; exact (below_size (by exact HB.out)) : w.heap.size ≤ gb196)); have GE196 := Aside0.mk ((by rw [hg]; exact (below_size (by exact HB.out)) : w.heap.size ≤ gb196)); replace HB := Aside0.mk (below_step (by exact HB.out) hb); clear hb hbox hg) | ((with_reducible refine gate_dst (N := 2) rfl ?_); refine box_event ?hg (N := 2) ?hd (cs := #[.int .u64 0, .int .u64 0, .int .u64 0, .int .u64 0, .int .u64 0, .int .u64 0, .int .u64 0, .int .u64 0]) (t := 28) ?hr ?_; (case hd => rfl); (case hg => rfl); (case hr => first | (go_simp; done) | (go_simp; rfl)); intro gb197 hg w8 hbox hb; have BK197 := Aside0.mk (hbox); have GW197 := Aside0.mk ((by rw [hg]; exact (below_size (by exact HB.out)) : w.heap.size ≤ gb197)); have GE197 := Aside0.mk ((by rw [hg]; exact (below_size (by exact HB.out)) : w.heap.size ≤ gb197)); replace HB := Aside0.mk (below_step (by exact HB.out) hb); have NB196_197 := Aside0.mk ((by rw [hg]; exact Nat.ne_of_lt (blk_lt BK196.out) : gb196 ≠ gb197)); have NB197_196 := Aside0.mk ((by rw [hg]; exact Nat.ne_of_gt (blk_lt BK196.out) : gb197 ≠ gb196)); replace BK196 := Aside0.mk (blk_below BK196.out hb); clear hb hbox hg; have hnb9 := NB196_197.out; have hnc9 := NB197_196.out; have hcz10_0 : w8.cell? ⟨gb196, 0, none⟩ = some (.int .u64 a0_0) := (blk_cell BK196.out 0).trans rfl; have hcz10_1 : w8.cell? ⟨gb196, 1, none⟩ = some (.int .u64 a0_1) := (blk_cell BK196.out 1).trans rfl; have hcz10_2 : w8.cell? ⟨gb196, 2, none⟩ = some (.int .u64 a0_2) := (blk_cell BK196.out 2).trans rfl; have hcz10_3 : w8.cell? ⟨gb196, 3, none⟩ = some (.int .u64 a0_3) := (blk_cell BK196.out 3).trans rfl; have hcz10_4 : w8.cell? ⟨gb196, 4, none⟩ = some (.int .u64 a0_4) := (blk_cell BK196.out 4).trans rfl; have hcz10_5 : w8.cell? ⟨gb196, 5, none⟩ = some (.int .u64 a0_5) := (blk_cell BK196.out 5).trans rfl; have hcz10_6 : w8.cell? ⟨gb196, 6, none⟩ = some (.int .u64 a0_6) := (blk_cell BK196.out 6).trans rfl; have hcz10_7 : w8.cell? ⟨gb196, 7, none⟩ = some (.int .u64 a0_7) := (blk_cell BK196.out 7).trans rfl; have hfz10_0 := blk_frozen BK196.out 0; have hfz10_1 := blk_frozen BK196.out 1; have hfz10_2 := blk_frozen BK196.out 2; have hfz10_3 := blk_frozen BK196.out 3; have hfz10_4 := blk_frozen BK196.out 4; have hfz10_5 := blk_frozen BK196.out 5; have hfz10_6 := blk_frozen BK196.out 6; have hfz10_7 := blk_frozen BK196.out 7) | ((with_reducible refine gate_callee (f := 19) rfl ?_); refine goesL_ (some 8) rfl rfl Tryd.func19 (by kernel_rfl) rfl #[.agg #[.int .u64 a0_0, .int .u64 a0_1, .int .u64 a0_2, .int .u64 a0_3, .int .u64 a0_4, .int .u64 a0_5, .int .u64 a0_6, .int .u64 a0_7]] rfl (by (try simp only [List.map_toArray, List.map_cons, List.map_nil]); first | done | rfl | (simp only [List.length_drop, List.length_take]; rfl)) ?_; (with_reducible refine (roll_Fine.calls a0_0 a0_1 a0_2 a0_3 a0_4 a0_5 a0_6 a0_7 true _ ?side1 A2.out).mono ?_); (case side1 => exact Go.Proofs.YtdaionnpgcdkdaaDoor.GLW.below hG (by exact HB.out)); rintro e w11 ⟨rfl, hb⟩; refine ⟨_, rfl, ?_⟩; replace BK196 := Aside0.mk (blk_below BK196.out hb); replace BK197 := Aside0.mk (blk_below BK197.out hb); replace HB := Aside0.mk (below_step (by exact HB.out) hb); (try clear hb); (try clear hb2); (try clear hk); (try clear hi); have hcz12_0 : w11.cell? ⟨gb196, 0, none⟩ = some (.int .u64 a0_0) := (blk_cell BK196.out 0).trans rfl; have hcz12_1 : w11.cell? ⟨gb196, 1, none⟩ = some (.int .u64 a0_1) := (blk_cell BK196.out 1).trans rfl; have hcz12_2 : w11.cell? ⟨gb196, 2, none⟩ = some (.int .u64 a0_2) := (blk_cell BK196.out 2).trans rfl; have hcz12_3 : w11.cell? ⟨gb196, 3, none⟩ = some (.int .u64 a0_3) := (blk_cell BK196.out 3).trans rfl; have hcz12_4 : w11.cell? ⟨gb196, 4, none⟩ = some (.int .u64 a0_4) := (blk_cell BK196.out 4).trans rfl; have hcz12_5 : w11.cell? ⟨gb196, 5, none⟩ = some (.int .u64 a0_5) := (blk_cell BK196.out 5).trans rfl; have hcz12_6 : w11.cell? ⟨gb196, 6, none⟩ = some (.int .u64 a0_6) := (blk_cell BK196.out 6).trans rfl; have hcz12_7 : w11.cell? ⟨gb196, 7, none⟩ = some (.int .u64 a0_7) := (blk_cell BK196.out 7).trans rfl; have hfz12_0 := blk_frozen BK196.out 0; have hfz12_1 := blk_frozen BK196.out 1; have hfz12_2 := blk_frozen BK196.out 2; have hfz12_3 := blk_frozen BK196.out 3; have hfz12_4 := blk_frozen BK196.out 4; have hfz12_5 := blk_frozen BK196.out 5; have hfz12_6 := blk_frozen BK196.out 6; have hfz12_7 := blk_frozen BK196.out 7) | ((with_reducible refine gate_callee (f := 16) rfl ?_); refine goesL_ (some 13) rfl rfl Tryd.func16 (by kernel_rfl) rfl #[.agg #[.int .u64 a0_0, .int .u64 a0_1, .int .u64 a0_2, .int .u64 a0_3, .int .u64 a0_4, .int .u64 a0_5, .int .u64 a0_6, .int .u64 a0_7]] rfl (by (try simp only [List.map_toArray, List.map_cons, List.map_nil]); first | done | rfl | (simp only [List.length_drop, List.length_take]; rfl)) ?_; (with_reducible refine (roll_Full.calls a0_0 a0_1 a0_2 a0_3 a0_4 a0_5 a0_6 a0_7 true _ ?side1 A4.out).mono ?_); (case side1 => exact Go.Proofs.YtdaionnpgcdkdaaDoor.GLW.below hG (by exact HB.out)); rintro e w13 ⟨rfl, hb⟩; refine ⟨_, rfl, ?_⟩; replace BK196 := Aside0.mk (blk_below BK196.out hb); replace BK197 := Aside0.mk (blk_below BK197.out hb); replace HB := Aside0.mk (below_step (by exact HB.out) hb); (try clear hb); (try clear hb2); (try clear hk); (try clear hi); have hcz14_0 : w13.cell? ⟨gb196, 0, none⟩ = some (.int .u64 a0_0) := (blk_cell BK196.out 0).trans rfl; have hcz14_1 : w13.cell? ⟨gb196, 1, none⟩ = some (.int .u64 a0_1) := (blk_cell BK196.out 1).trans rfl; have hcz14_2 : w13.cell? ⟨gb196, 2, none⟩ = some (.int .u64 a0_2) := (blk_cell BK196.out 2).trans rfl; have hcz14_3 : w13.cell? ⟨gb196, 3, none⟩ = some (.int .u64 a0_3) := (blk_cell BK196.out 3).trans rfl; have hcz14_4 : w13.cell? ⟨gb196, 4, none⟩ = some (.int .u64 a0_4) := (blk_cell BK196.out 4).trans rfl; have hcz14_5 : w13.cell? ⟨gb196, 5, none⟩ = some (.int .u64 a0_5) := (blk_cell BK196.out 5).trans rfl; have hcz14_6 : w13.cell? ⟨gb196, 6, none⟩ = some (.int .u64 a0_6) := (blk_cell BK196.out 6).trans rfl; have hcz14_7 : w13.cell? ⟨gb196, 7, none⟩ = some (.int .u64 a0_7) := (blk_cell BK196.out 7).trans rfl; have hfz14_0 := blk_frozen BK196.out 0; have hfz14_1 := blk_frozen BK196.out 1; have hfz14_2 := blk_frozen BK196.out 2; have hfz14_3 := blk_frozen BK196.out 3; have hfz14_4 := blk_frozen BK196.out 4; have hfz14_5 := blk_frozen BK196.out 5; have hfz14_6 := blk_frozen BK196.out 6; have hfz14_7 := blk_frozen BK196.out 7) | ((with_reducible refine gate_callee (f := 71) rfl ?_); refine goesL_ (some 18) rfl rfl Tryd.func71 (by kernel_rfl) rfl #[.agg #[.int .u64 a0_4, .int .u64 a0_5, .int .u64 a0_6, .int .u64 a0_7]] rfl (by (try simp only [List.map_toArray, List.map_cons, List.map_nil]); first | done | rfl | (simp only [List.length_drop, List.length_take]; rfl)) ?_; (with_reducible refine (bitset_List.calls a0_4 a0_5 a0_6 a0_7 t200 _ ?side1 A6.out).mono ?_); (case side1 => exact Go.Proofs.YtdaionnpgcdkdaaDoor.GLW.below hG (by exact HB.out)); rintro e w15 ⟨v201, rfl, ho0, hb⟩; refine ⟨_, rfl, ?_⟩; have HO202 := Aside0.mk (Kd.R_lower ho0 (below_size (by exact HB.out))); replace BK196 := Aside0.mk (blk_below BK196.out hb); replace BK197 := Aside0.mk (blk_below BK197.out hb); replace HB := Aside0.mk (below_step (by exact HB.out) hb); (try clear hb); (try clear hb2); (try clear hk); (try clear hi); (try clear ho0); have hcz16_0 : w15.cell? ⟨gb196, 0, none⟩ = some (.int .u64 a0_0) := (blk_cell BK196.out 0).trans rfl; have hcz16_1 : w15.cell? ⟨gb196, 1, none⟩ = some (.int .u64 a0_1) := (blk_cell BK196.out 1).trans rfl; have hcz16_2 : w15.cell? ⟨gb196, 2, none⟩ = some (.int .u64 a0_2) := (blk_cell BK196.out 2).trans rfl; have hcz16_3 : w15.cell? ⟨gb196, 3, none⟩ = some (.int .u64 a0_3) := (blk_cell BK196.out 3).trans rfl; have hcz16_4 : w15.cell? ⟨gb196, 4, none⟩ = some (.int .u64 a0_4) := (blk_cell BK196.out 4).trans rfl; have hcz16_5 : w15.cell? ⟨gb196, 5, none⟩ = some (.int .u64 a0_5) := (blk_cell BK196.out 5).trans rfl; have hcz16_6 : w15.cell? ⟨gb196, 6, none⟩ = some (.int .u64 a0_6) := (blk_cell BK196.out 6).trans rfl; have hcz16_7 : w15.cell? ⟨gb196, 7, none⟩ = some (.int .u64 a0_7) := (blk_cell BK196.out 7).trans rfl; have hfz16_0 := blk_frozen BK196.out 0; have hfz16_1 := blk_frozen BK196.out 1; have hfz16_2 := blk_frozen BK196.out 2; have hfz16_3 := blk_frozen BK196.out 3; have hfz16_4 := blk_frozen BK196.out 4; have hfz16_5 := blk_frozen BK196.out 5; have hfz16_6 := blk_frozen BK196.out 6; have hfz16_7 := blk_frozen BK196.out 7; have hcz17_0 : w15.cell? ⟨gb197, 0, none⟩ = some (.int .u64 0) := (blk_cell BK197.out 0).trans rfl; have hcz17_1 : w15.cell? ⟨gb197, 1, none⟩ = some (.int .u64 0) := (blk_cell BK197.out 1).trans rfl; have hcz17_2 : w15.cell? ⟨gb197, 2, none⟩ = some (.int .u64 0) := (blk_cell BK197.out 2).trans rfl; have hcz17_3 : w15.cell? ⟨gb197, 3, none⟩ = some (.int .u64 0) := (blk_cell BK197.out 3).trans rfl; have hcz17_4 : w15.cell? ⟨gb197, 4, none⟩ = some (.int .u64 0) := (blk_cell BK197.out 4).trans rfl; have hcz17_5 : w15.cell? ⟨gb197, 5, none⟩ = some (.int .u64 0) := (blk_cell BK197.out 5).trans rfl; have hcz17_6 : w15.cell? ⟨gb197, 6, none⟩ = some (.int .u64 0) := (blk_cell BK197.out 6).trans rfl; have hcz17_7 : w15.cell? ⟨gb197, 7, none⟩ = some (.int .u64 0) := (blk_cell BK197.out 7).trans rfl; have hfz17_0 := blk_frozen BK197.out 0; have hfz17_1 := blk_frozen BK197.out 1; have hfz17_2 := blk_frozen BK197.out 2; have hfz17_3 := blk_frozen BK197.out 3; have hfz17_4 := blk_frozen BK197.out 4; have hfz17_5 := blk_frozen BK197.out 5; have hfz17_6 := blk_frozen BK197.out 6; have hfz17_7 := blk_frozen BK197.out 7))
      refine bodyPost_ret (results_ctt rfl _ _ gb197 28 #[.int .u64 a0_0, .int .u64 a0_1, .int .u64 a0_2, .int .u64 a0_3, .int .u64 0, .int .u64 0, .int .u64 0, .int .u64 0] (0, 0) _ rfl (by apply pt28_0_8; (iterate 4 refine blk_far ?_ NB197_196.out _); exact BK197.out) Tryd.underlying28 rfl (by kernel_rfl)) rfl ?_
      exact ⟨_, by first | rfl | (simp [errW_none, errW_some] <;> rfl) | (simp [*, errW_none, errW_some] <;> rfl), by (with_reducible repeat (first | apply Kd.R_alloc | apply Kd.R_drewN | apply Kd.R_drew)); exact Kd.R_mono (Kd.R_far (p := ⟨gb197, 7, none⟩) (Kd.R_far (p := ⟨gb197, 6, none⟩) (Kd.R_far (p := ⟨gb197, 5, none⟩) (Kd.R_far (p := ⟨gb197, 4, none⟩) (Kd.R_far (p := ⟨gb197, 3, none⟩) (Kd.R_far (p := ⟨gb197, 2, none⟩) (Kd.R_far (p := ⟨gb197, 1, none⟩) (Kd.R_far (p := ⟨gb197, 0, none⟩) (Kd.R_far (p := ⟨gb196, 7, none⟩) (Kd.R_far (p := ⟨gb196, 6, none⟩) (Kd.R_far (p := ⟨gb196, 5, none⟩) (Kd.R_far (p := ⟨gb196, 4, none⟩) (Kd.R_types (Kd.R_types HO202.out BK196.out (by decide)) BK197.out (by decide)) (fun _ hk => hk.1.2) (.int .u64 0)) (fun _ hk => hk.1.2) (.int .u64 0)) (fun _ hk => hk.1.2) (.int .u64 0)) (fun _ hk => hk.1.2) (.int .u64 0)) (fun _ hk => hk.2) (.int .u64 a0_0)) (fun _ hk => hk.2) (.int .u64 a0_1)) (fun _ hk => hk.2) (.int .u64 a0_2)) (fun _ hk => hk.2) (.int .u64 a0_3)) (fun _ hk => hk.2) (.int .u64 0)) (fun _ hk => hk.2) (.int .u64 0)) (fun _ hk => hk.2) (.int .u64 0)) (fun _ hk => hk.2) (.int .u64 0)) (fun _ hk => trivial), by repeat (first | (with_reducible first | exact HB.out | apply below_alloc | apply pw_below_drewN | apply below_drew1 | refine below_set ?_ GE196.out | refine below_set ?_ GE197.out) | exact HB.out)⟩
    · replace c5 := Bool.eq_false_iff.mpr c5
      subst c5
      have H1 : (some (a0_0, a0_1, a0_2, a0_3, a0_4, a0_5, a0_6, a0_7, ([] : List Int), 13)) = some (r1, r2, r3, r4, r5, r6, r7, r8, r9, r10) := by rw [if_neg (show ¬ (false = true) by decide)] at H; exact H
      clear H
      have H := H1
      clear H1
      simp only [Option.some.injEq, Prod.mk.injEq] at H
      obtain ⟨rfl, rfl, rfl, rfl, rfl, rfl, rfl, rfl, rfl, rfl⟩ := H
      go_enter Tryd.func17, Tryd.ntmps17
      go_wp2_with (first | ((with_reducible refine gate_dst (N := 1) rfl ?_); refine box_event ?hg (N := 1) ?hd (cs := #[.int .u64 a0_0, .int .u64 a0_1, .int .u64 a0_2, .int .u64 a0_3, .int .u64 a0_4, .int .u64 a0_5, .int .u64 a0_6, .int .u64 a0_7]) (t := 28) ?hr ?_; (case hd => rfl); (case hg => rfl); (case hr => first | (go_simp; done) | (go_simp; rfl)); intro gb196 hg w18 hbox hb; have BK196 := Aside0.mk (hbox); have GW196 := Aside0.mk ((by rw [hg]; exact (below_size (by exact HB.out)) : w.heap.size ≤ gb196)); have GE196 := Aside0.mk ((by rw [hg]; exact (below_size (by exact HB.out)) : w.heap.size ≤ gb196)); replace HB := Aside0.mk (below_step (by exact HB.out) hb); clear hb hbox hg) | ((with_reducible refine gate_dst (N := 2) rfl ?_); refine box_event ?hg (N := 2) ?hd (cs := #[.int .u64 0, .int .u64 0, .int .u64 0, .int .u64 0, .int .u64 0, .int .u64 0, .int .u64 0, .int .u64 0]) (t := 28) ?hr ?_; (case hd => rfl); (case hg => rfl); (case hr => first | (go_simp; done) | (go_simp; rfl)); intro gb197 hg w19 hbox hb; have BK197 := Aside0.mk (hbox); have GW197 := Aside0.mk ((by rw [hg]; exact (below_size (by exact HB.out)) : w.heap.size ≤ gb197)); have GE197 := Aside0.mk ((by rw [hg]; exact (below_size (by exact HB.out)) : w.heap.size ≤ gb197)); replace HB := Aside0.mk (below_step (by exact HB.out) hb); have NB196_197 := Aside0.mk ((by rw [hg]; exact Nat.ne_of_lt (blk_lt BK196.out) : gb196 ≠ gb197)); have NB197_196 := Aside0.mk ((by rw [hg]; exact Nat.ne_of_gt (blk_lt BK196.out) : gb197 ≠ gb196)); replace BK196 := Aside0.mk (blk_below BK196.out hb); clear hb hbox hg; have hnb20 := NB196_197.out; have hnc20 := NB197_196.out; have hcz21_0 : w19.cell? ⟨gb196, 0, none⟩ = some (.int .u64 a0_0) := (blk_cell BK196.out 0).trans rfl; have hcz21_1 : w19.cell? ⟨gb196, 1, none⟩ = some (.int .u64 a0_1) := (blk_cell BK196.out 1).trans rfl; have hcz21_2 : w19.cell? ⟨gb196, 2, none⟩ = some (.int .u64 a0_2) := (blk_cell BK196.out 2).trans rfl; have hcz21_3 : w19.cell? ⟨gb196, 3, none⟩ = some (.int .u64 a0_3) := (blk_cell BK196.out 3).trans rfl; have hcz21_4 : w19.cell? ⟨gb196, 4, none⟩ = some (.int .u64 a0_4) := (blk_cell BK196.out 4).trans rfl; have hcz21_5 : w19.cell? ⟨gb196, 5, none⟩ = some (.int .u64 a0_5) := (blk_cell BK196.out 5).trans rfl; have hcz21_6 : w19.cell? ⟨gb196, 6, none⟩ = some (.int .u64 a0_6) := (blk_cell BK196.out 6).trans rfl; have hcz21_7 : w19.cell? ⟨gb196, 7, none⟩ = some (.int .u64 a0_7) := (blk_cell BK196.out 7).trans rfl; have hfz21_0 := blk_frozen BK196.out 0; have hfz21_1 := blk_frozen BK196.out 1; have hfz21_2 := blk_frozen BK196.out 2; have hfz21_3 := blk_frozen BK196.out 3; have hfz21_4 := blk_frozen BK196.out 4; have hfz21_5 := blk_frozen BK196.out 5; have hfz21_6 := blk_frozen BK196.out 6; have hfz21_7 := blk_frozen BK196.out 7) | ((with_reducible refine gate_callee (f := 19) rfl ?_); refine goesL_ (some 8) rfl rfl Tryd.func19 (by kernel_rfl) rfl #[.agg #[.int .u64 a0_0, .int .u64 a0_1, .int .u64 a0_2, .int .u64 a0_3, .int .u64 a0_4, .int .u64 a0_5, .int .u64 a0_6, .int .u64 a0_7]] rfl (by (try simp only [List.map_toArray, List.map_cons, List.map_nil]); first | done | rfl | (simp only [List.length_drop, List.length_take]; rfl)) ?_; (with_reducible refine (roll_Fine.calls a0_0 a0_1 a0_2 a0_3 a0_4 a0_5 a0_6 a0_7 true _ ?side1 A2.out).mono ?_); (case side1 => exact Go.Proofs.YtdaionnpgcdkdaaDoor.GLW.below hG (by exact HB.out)); rintro e w22 ⟨rfl, hb⟩; refine ⟨_, rfl, ?_⟩; replace BK196 := Aside0.mk (blk_below BK196.out hb); replace BK197 := Aside0.mk (blk_below BK197.out hb); replace HB := Aside0.mk (below_step (by exact HB.out) hb); (try clear hb); (try clear hb2); (try clear hk); (try clear hi); have hcz23_0 : w22.cell? ⟨gb196, 0, none⟩ = some (.int .u64 a0_0) := (blk_cell BK196.out 0).trans rfl; have hcz23_1 : w22.cell? ⟨gb196, 1, none⟩ = some (.int .u64 a0_1) := (blk_cell BK196.out 1).trans rfl; have hcz23_2 : w22.cell? ⟨gb196, 2, none⟩ = some (.int .u64 a0_2) := (blk_cell BK196.out 2).trans rfl; have hcz23_3 : w22.cell? ⟨gb196, 3, none⟩ = some (.int .u64 a0_3) := (blk_cell BK196.out 3).trans rfl; have hcz23_4 : w22.cell? ⟨gb196, 4, none⟩ = some (.int .u64 a0_4) := (blk_cell BK196.out 4).trans rfl; have hcz23_5 : w22.cell? ⟨gb196, 5, none⟩ = some (.int .u64 a0_5) := (blk_cell BK196.out 5).trans rfl; have hcz23_6 : w22.cell? ⟨gb196, 6, none⟩ = some (.int .u64 a0_6) := (blk_cell BK196.out 6).trans rfl; have hcz23_7 : w22.cell? ⟨gb196, 7, none⟩ = some (.int .u64 a0_7) := (blk_cell BK196.out 7).trans rfl; have hfz23_0 := blk_frozen BK196.out 0; have hfz23_1 := blk_frozen BK196.out 1; have hfz23_2 := blk_frozen BK196.out 2; have hfz23_3 := blk_frozen BK196.out 3; have hfz23_4 := blk_frozen BK196.out 4; have hfz23_5 := blk_frozen BK196.out 5; have hfz23_6 := blk_frozen BK196.out 6; have hfz23_7 := blk_frozen BK196.out 7) | ((with_reducible refine gate_callee (f := 16) rfl ?_); refine goesL_ (some 13) rfl rfl Tryd.func16 (by kernel_rfl) rfl #[.agg #[.int .u64 a0_0, .int .u64 a0_1, .int .u64 a0_2, .int .u64 a0_3, .int .u64 a0_4, .int .u64 a0_5, .int .u64 a0_6, .int .u64 a0_7]] rfl (by (try simp only [List.map_toArray, List.map_cons, List.map_nil]); first | done | rfl | (simp only [List.length_drop, List.length_take]; rfl)) ?_; (with_reducible refine (roll_Full.calls a0_0 a0_1 a0_2 a0_3 a0_4 a0_5 a0_6 a0_7 false _ ?side1 A4.out).mono ?_); (case side1 => exact Go.Proofs.YtdaionnpgcdkdaaDoor.GLW.below hG (by exact HB.out)); rintro e w24 ⟨rfl, hb⟩; refine ⟨_, rfl, ?_⟩; replace BK196 := Aside0.mk (blk_below BK196.out hb); replace BK197 := Aside0.mk (blk_below BK197.out hb); replace HB := Aside0.mk (below_step (by exact HB.out) hb); (try clear hb); (try clear hb2); (try clear hk); (try clear hi); have hcz25_0 : w24.cell? ⟨gb196, 0, none⟩ = some (.int .u64 a0_0) := (blk_cell BK196.out 0).trans rfl; have hcz25_1 : w24.cell? ⟨gb196, 1, none⟩ = some (.int .u64 a0_1) := (blk_cell BK196.out 1).trans rfl; have hcz25_2 : w24.cell? ⟨gb196, 2, none⟩ = some (.int .u64 a0_2) := (blk_cell BK196.out 2).trans rfl; have hcz25_3 : w24.cell? ⟨gb196, 3, none⟩ = some (.int .u64 a0_3) := (blk_cell BK196.out 3).trans rfl; have hcz25_4 : w24.cell? ⟨gb196, 4, none⟩ = some (.int .u64 a0_4) := (blk_cell BK196.out 4).trans rfl; have hcz25_5 : w24.cell? ⟨gb196, 5, none⟩ = some (.int .u64 a0_5) := (blk_cell BK196.out 5).trans rfl; have hcz25_6 : w24.cell? ⟨gb196, 6, none⟩ = some (.int .u64 a0_6) := (blk_cell BK196.out 6).trans rfl; have hcz25_7 : w24.cell? ⟨gb196, 7, none⟩ = some (.int .u64 a0_7) := (blk_cell BK196.out 7).trans rfl; have hfz25_0 := blk_frozen BK196.out 0; have hfz25_1 := blk_frozen BK196.out 1; have hfz25_2 := blk_frozen BK196.out 2; have hfz25_3 := blk_frozen BK196.out 3; have hfz25_4 := blk_frozen BK196.out 4; have hfz25_5 := blk_frozen BK196.out 5; have hfz25_6 := blk_frozen BK196.out 6; have hfz25_7 := blk_frozen BK196.out 7; have hcz26_0 : w24.cell? ⟨gb197, 0, none⟩ = some (.int .u64 0) := (blk_cell BK197.out 0).trans rfl; have hcz26_1 : w24.cell? ⟨gb197, 1, none⟩ = some (.int .u64 0) := (blk_cell BK197.out 1).trans rfl; have hcz26_2 : w24.cell? ⟨gb197, 2, none⟩ = some (.int .u64 0) := (blk_cell BK197.out 2).trans rfl; have hcz26_3 : w24.cell? ⟨gb197, 3, none⟩ = some (.int .u64 0) := (blk_cell BK197.out 3).trans rfl; have hcz26_4 : w24.cell? ⟨gb197, 4, none⟩ = some (.int .u64 0) := (blk_cell BK197.out 4).trans rfl; have hcz26_5 : w24.cell? ⟨gb197, 5, none⟩ = some (.int .u64 0) := (blk_cell BK197.out 5).trans rfl; have hcz26_6 : w24.cell? ⟨gb197, 6, none⟩ = some (.int .u64 0) := (blk_cell BK197.out 6).trans rfl; have hcz26_7 : w24.cell? ⟨gb197, 7, none⟩ = some (.int .u64 0) := (blk_cell BK197.out 7).trans rfl; have hfz26_0 := blk_frozen BK197.out 0; have hfz26_1 := blk_frozen BK197.out 1; have hfz26_2 := blk_frozen BK197.out 2; have hfz26_3 := blk_frozen BK197.out 3; have hfz26_4 := blk_frozen BK197.out 4; have hfz26_5 := blk_frozen BK197.out 5; have hfz26_6 := blk_frozen BK197.out 6; have hfz26_7 := blk_frozen BK197.out 7))
      refine bodyPost_ret (results_ctt rfl _ _ gb197 28 #[.int .u64 a0_0, .int .u64 a0_1, .int .u64 a0_2, .int .u64 a0_3, .int .u64 a0_4, .int .u64 a0_5, .int .u64 a0_6, .int .u64 a0_7] (0, 0) _ rfl (by apply pt28_0_8; exact BK197.out) Tryd.underlying28 rfl (by kernel_rfl)) rfl ?_
      exact ⟨_, by first | rfl | (simp [errW_none, errW_some] <;> rfl) | (simp [*, errW_none, errW_some] <;> rfl), by first | exact Kd.R_nil _ _ _ _ _ | exact Kd.N_nil _ _ _ _ _ | exact Kd.V_nil _ _ _ _ _ | exact Kd.Q_nil _ _ _ _ _ | exact Kd.S_nil _ _ _ _ _, by repeat (first | (with_reducible first | exact HB.out | apply below_alloc | apply pw_below_drewN | apply below_drew1 | refine below_set ?_ GE196.out | refine below_set ?_ GE197.out) | exact HB.out)⟩
  · replace c3 := Bool.eq_false_iff.mpr c3
    subst c3
    have H1 : (some (a0_0, a0_1, a0_2, a0_3, a0_4, a0_5, a0_6, a0_7, ([] : List Int), 1)) = some (r1, r2, r3, r4, r5, r6, r7, r8, r9, r10) := by rw [if_neg (show ¬ (false = true) by decide)] at H; exact H
    clear H
    have H := H1
    clear H1
    simp only [Option.some.injEq, Prod.mk.injEq] at H
    obtain ⟨rfl, rfl, rfl, rfl, rfl, rfl, rfl, rfl, rfl, rfl⟩ := H
    go_enter Tryd.func17, Tryd.ntmps17
    go_wp2_with (first | ((with_reducible refine gate_dst (N := 1) rfl ?_); refine box_event ?hg (N := 1) ?hd (cs := #[.int .u64 a0_0, .int .u64 a0_1, .int .u64 a0_2, .int .u64 a0_3, .int .u64 a0_4, .int .u64 a0_5, .int .u64 a0_6, .int .u64 a0_7]) (t := 28) ?hr ?_; (case hd => rfl); (case hg => rfl); (case hr => first | (go_simp; done) | (go_simp; rfl)); intro gb196 hg w27 hbox hb; have BK196 := Aside0.mk (hbox); have GW196 := Aside0.mk ((by rw [hg]; exact (below_size (by exact HB.out)) : w.heap.size ≤ gb196)); have GE196 := Aside0.mk ((by rw [hg]; exact (below_size (by exact HB.out)) : w.heap.size ≤ gb196)); replace HB := Aside0.mk (below_step (by exact HB.out) hb); clear hb hbox hg) | ((with_reducible refine gate_dst (N := 2) rfl ?_); refine box_event ?hg (N := 2) ?hd (cs := #[.int .u64 0, .int .u64 0, .int .u64 0, .int .u64 0, .int .u64 0, .int .u64 0, .int .u64 0, .int .u64 0]) (t := 28) ?hr ?_; (case hd => rfl); (case hg => rfl); (case hr => first | (go_simp; done) | (go_simp; rfl)); intro gb197 hg w28 hbox hb; have BK197 := Aside0.mk (hbox); have GW197 := Aside0.mk ((by rw [hg]; exact (below_size (by exact HB.out)) : w.heap.size ≤ gb197)); have GE197 := Aside0.mk ((by rw [hg]; exact (below_size (by exact HB.out)) : w.heap.size ≤ gb197)); replace HB := Aside0.mk (below_step (by exact HB.out) hb); have NB196_197 := Aside0.mk ((by rw [hg]; exact Nat.ne_of_lt (blk_lt BK196.out) : gb196 ≠ gb197)); have NB197_196 := Aside0.mk ((by rw [hg]; exact Nat.ne_of_gt (blk_lt BK196.out) : gb197 ≠ gb196)); replace BK196 := Aside0.mk (blk_below BK196.out hb); clear hb hbox hg; have hnb29 := NB196_197.out; have hnc29 := NB197_196.out; have hcz30_0 : w28.cell? ⟨gb196, 0, none⟩ = some (.int .u64 a0_0) := (blk_cell BK196.out 0).trans rfl; have hcz30_1 : w28.cell? ⟨gb196, 1, none⟩ = some (.int .u64 a0_1) := (blk_cell BK196.out 1).trans rfl; have hcz30_2 : w28.cell? ⟨gb196, 2, none⟩ = some (.int .u64 a0_2) := (blk_cell BK196.out 2).trans rfl; have hcz30_3 : w28.cell? ⟨gb196, 3, none⟩ = some (.int .u64 a0_3) := (blk_cell BK196.out 3).trans rfl; have hcz30_4 : w28.cell? ⟨gb196, 4, none⟩ = some (.int .u64 a0_4) := (blk_cell BK196.out 4).trans rfl; have hcz30_5 : w28.cell? ⟨gb196, 5, none⟩ = some (.int .u64 a0_5) := (blk_cell BK196.out 5).trans rfl; have hcz30_6 : w28.cell? ⟨gb196, 6, none⟩ = some (.int .u64 a0_6) := (blk_cell BK196.out 6).trans rfl; have hcz30_7 : w28.cell? ⟨gb196, 7, none⟩ = some (.int .u64 a0_7) := (blk_cell BK196.out 7).trans rfl; have hfz30_0 := blk_frozen BK196.out 0; have hfz30_1 := blk_frozen BK196.out 1; have hfz30_2 := blk_frozen BK196.out 2; have hfz30_3 := blk_frozen BK196.out 3; have hfz30_4 := blk_frozen BK196.out 4; have hfz30_5 := blk_frozen BK196.out 5; have hfz30_6 := blk_frozen BK196.out 6; have hfz30_7 := blk_frozen BK196.out 7) | ((with_reducible refine gate_callee (f := 19) rfl ?_); refine goesL_ (some 8) rfl rfl Tryd.func19 (by kernel_rfl) rfl #[.agg #[.int .u64 a0_0, .int .u64 a0_1, .int .u64 a0_2, .int .u64 a0_3, .int .u64 a0_4, .int .u64 a0_5, .int .u64 a0_6, .int .u64 a0_7]] rfl (by (try simp only [List.map_toArray, List.map_cons, List.map_nil]); first | done | rfl | (simp only [List.length_drop, List.length_take]; rfl)) ?_; (with_reducible refine (roll_Fine.calls a0_0 a0_1 a0_2 a0_3 a0_4 a0_5 a0_6 a0_7 false _ ?side1 A2.out).mono ?_); (case side1 => exact Go.Proofs.YtdaionnpgcdkdaaDoor.GLW.below hG (by exact HB.out)); rintro e w31 ⟨rfl, hb⟩; refine ⟨_, rfl, ?_⟩; replace BK196 := Aside0.mk (blk_below BK196.out hb); replace BK197 := Aside0.mk (blk_below BK197.out hb); replace HB := Aside0.mk (below_step (by exact HB.out) hb); (try clear hb); (try clear hb2); (try clear hk); (try clear hi); have hcz32_0 : w31.cell? ⟨gb196, 0, none⟩ = some (.int .u64 a0_0) := (blk_cell BK196.out 0).trans rfl; have hcz32_1 : w31.cell? ⟨gb196, 1, none⟩ = some (.int .u64 a0_1) := (blk_cell BK196.out 1).trans rfl; have hcz32_2 : w31.cell? ⟨gb196, 2, none⟩ = some (.int .u64 a0_2) := (blk_cell BK196.out 2).trans rfl; have hcz32_3 : w31.cell? ⟨gb196, 3, none⟩ = some (.int .u64 a0_3) := (blk_cell BK196.out 3).trans rfl; have hcz32_4 : w31.cell? ⟨gb196, 4, none⟩ = some (.int .u64 a0_4) := (blk_cell BK196.out 4).trans rfl; have hcz32_5 : w31.cell? ⟨gb196, 5, none⟩ = some (.int .u64 a0_5) := (blk_cell BK196.out 5).trans rfl; have hcz32_6 : w31.cell? ⟨gb196, 6, none⟩ = some (.int .u64 a0_6) := (blk_cell BK196.out 6).trans rfl; have hcz32_7 : w31.cell? ⟨gb196, 7, none⟩ = some (.int .u64 a0_7) := (blk_cell BK196.out 7).trans rfl; have hfz32_0 := blk_frozen BK196.out 0; have hfz32_1 := blk_frozen BK196.out 1; have hfz32_2 := blk_frozen BK196.out 2; have hfz32_3 := blk_frozen BK196.out 3; have hfz32_4 := blk_frozen BK196.out 4; have hfz32_5 := blk_frozen BK196.out 5; have hfz32_6 := blk_frozen BK196.out 6; have hfz32_7 := blk_frozen BK196.out 7; have hcz33_0 : w31.cell? ⟨gb197, 0, none⟩ = some (.int .u64 0) := (blk_cell BK197.out 0).trans rfl; have hcz33_1 : w31.cell? ⟨gb197, 1, none⟩ = some (.int .u64 0) := (blk_cell BK197.out 1).trans rfl; have hcz33_2 : w31.cell? ⟨gb197, 2, none⟩ = some (.int .u64 0) := (blk_cell BK197.out 2).trans rfl; have hcz33_3 : w31.cell? ⟨gb197, 3, none⟩ = some (.int .u64 0) := (blk_cell BK197.out 3).trans rfl; have hcz33_4 : w31.cell? ⟨gb197, 4, none⟩ = some (.int .u64 0) := (blk_cell BK197.out 4).trans rfl; have hcz33_5 : w31.cell? ⟨gb197, 5, none⟩ = some (.int .u64 0) := (blk_cell BK197.out 5).trans rfl; have hcz33_6 : w31.cell? ⟨gb197, 6, none⟩ = some (.int .u64 0) := (blk_cell BK197.out 6).trans rfl; have hcz33_7 : w31.cell? ⟨gb197, 7, none⟩ = some (.int .u64 0) := (blk_cell BK197.out 7).trans rfl; have hfz33_0 := blk_frozen BK197.out 0; have hfz33_1 := blk_frozen BK197.out 1; have hfz33_2 := blk_frozen BK197.out 2; have hfz33_3 := blk_frozen BK197.out 3; have hfz33_4 := blk_frozen BK197.out 4; have hfz33_5 := blk_frozen BK197.out 5; have hfz33_6 := blk_frozen BK197.out 6; have hfz33_7 := blk_frozen BK197.out 7))
    refine bodyPost_ret (results_ctt rfl _ _ gb197 28 #[.int .u64 a0_0, .int .u64 a0_1, .int .u64 a0_2, .int .u64 a0_3, .int .u64 a0_4, .int .u64 a0_5, .int .u64 a0_6, .int .u64 a0_7] (0, 0) _ rfl (by apply pt28_0_8; exact BK197.out) Tryd.underlying28 rfl (by kernel_rfl)) rfl ?_
    exact ⟨_, by first | rfl | (simp [errW_none, errW_some] <;> rfl) | (simp [*, errW_none, errW_some] <;> rfl), by first | exact Kd.R_nil _ _ _ _ _ | exact Kd.N_nil _ _ _ _ _ | exact Kd.V_nil _ _ _ _ _ | exact Kd.Q_nil _ _ _ _ _ | exact Kd.S_nil _ _ _ _ _, by repeat (first | (with_reducible first | exact HB.out | apply below_alloc | apply pw_below_drewN | apply below_drew1 | refine below_set ?_ GE196.out | refine below_set ?_ GE197.out) | exact HB.out)⟩

end Go.Proofs.YtdaionnpgcdkdaaDoorP.New
