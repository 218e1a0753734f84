/- Printed by a program of this session over the kit's print.py: the machine's side of Go functions as plain Lean functions, each with its proof. -/
import Derived.Test.YtdaionnpgcdkdaaDoorPNewx0
import Derived.Test.YtdaionnpgcdkdaaDoorPNewx4
namespace Go.Proofs.YtdaionnpgcdkdaaDoorP.New
open Go.RowKit Go.Proofs.YtdaionnpgcdkdaaDoorW.PrintWords Go.Proofs.YtdaionnpgcdkdaaDoorW.PrintLast Go.Proofs.YtdaionnpgcdkdaaDoorW.PrintMore
attribute [local go_sem] max2_int min2_int max_two min_two max_three min_three max_four min_four   -- for this text's walks alone
set_option linter.unusedVariables false
set_option linter.unusedSimpArgs false

/-! ### bartab_twin: function 93 -/
def enc51 (x : S51) : List Value := [.bool x.f0.f0, .int .i64 x.f0.f1, .int .u64 x.f1.f0.f0, .int .u64 x.f1.f0.f1, .int .u64 x.f1.f0.f2, .int .u64 x.f1.f0.f3, .int .u64 x.f1.f1.f0, .int .u64 x.f1.f1.f1, .int .u64 x.f1.f1.f2, .int .u64 x.f1.f1.f3, .int .i64 x.f2]
theorem flat51 : Go.Proofs.YtdaionnpgcdkdaaDoor.FlatKd k51 enc51 := ⟨fun _ _ _ h => k51_open h, fun _ _ _ x => k51_mkM _ _ _ x, fun _ => rfl⟩
theorem enc_one (x : S51) : ∀ v ∈ enc51 x, v.oneCell' = true := by
  intro v hv
  simp only [enc51, List.mem_cons, List.not_mem_nil, or_false] at hv
  rcases hv with rfl | rfl | rfl | rfl | rfl | rfl | rfl | rfl | rfl | rfl | rfl <;> rfl
/-- What twin leaves. -/
def TwinPost (l0 : List S51) (w : World) (e : Ending) (w' : World) : Prop := ∃ (g cap : Nat) (rest : List Value), e = .returned (.slice (some ⟨g, 0, none⟩) l0.length cap) ∧ w.heap.size ≤ g ∧ l0.length ≤ cap ∧ cap ≤ maxLen ∧ (l0.flatMap enc51 ++ rest).length = cap * 11 ∧ w'.heap[g]? = some (.cells (l0.flatMap enc51 ++ rest).toArray 51 (0, 0)) ∧ Below w.heap.size w w'
set_option maxRecDepth 20000 in
set_option maxHeartbeats 1000000 in
theorem twin_any (A0 : Option Addr) (c0 : Nat) (l0 : List S51) (w : World) (hr0 : Kd.C k51 w A0 l0.length l0) (hlim : l0.length < 1599289640401) :
    Calls Tryd.prog 93 #[.slice A0 l0.length c0] w (TwinPost l0 w) := by
  have HR := Lib.hid hr0
  have hmax : (l0.length : Int) ≤ 9223372036854775807 := by omega
  have HL := Lib.hid hlim
  clear hr0 hlim
  have info : (Tryd.prog.info? 51).map (fun i => (i.zero, i.size, i.bytes)) = some (some (.agg #[.bool false, .int .i64 0, .int .u64 0, .int .u64 0, .int .u64 0, .int .u64 0, .int .u64 0, .int .u64 0, .int .u64 0, .int .u64 0, .int .i64 0]), 11, 88) := by kernel_rfl
  have hsz : (Tryd.prog.info? 51).map (·.size) = some 11 := by kernel_rfl
  have HI := Lib.hid info
  have HS := Lib.hid hsz
  clear info hsz
  have HF2 := Lib.hid (show ∀ v ∈ l0.flatMap enc51, v.oneCell' = true by
    intro v hv
    obtain ⟨x, _, hx⟩ := List.mem_flatMap.1 hv
    exact enc_one x v hx)
  go_enter Tryd.func93, Tryd.ntmps93
  go_wp2_with (first | ((with_reducible refine gate_dst (N := 6) rfl ?_); refine Kd.R_make k51 (w0 := w) w.heap.size 51 rfl (N := 6) rfl 82 _ _ rfl (l0.length : Int) rfl rfl Tryd.underlying82 _ 88 HI.out rfl (by decide) (by omega) z51 (ok := fun _ => True) (okp := fun _ => True) (k51_mkM _ _ _ z51) (fun _ h => h) trivial (by omega) (by have := HL.out; simp; omega) (Below.refl _ _) (Nat.le_refl _) ?_; intro v1 w1 hR hB1 hg1 hb1; obtain ⟨_, inner, ho, _⟩ := hR; obtain ⟨_, ho⟩ := ho; obtain ⟨b1, hb1, _⟩ := hb1; (rcases ho with ⟨rfl, _⟩ | ⟨g, cap, cur, rfl, hbg, hgg, hncap, hcm, hcs, _⟩); (exact absurd hb1 (by simp [Value.ownBlock])); simp only [List.length_replicate, Int.toNat_natCast] at hncap ⊢; have HG := Lib.hid hgg; have HCS := Lib.hid hcs; have HB1 := Lib.hid hB1; have HF1 := Lib.hid (show (l0.flatMap enc51).length ≤ cur.size by rw [Go.Proofs.YtdaionnpgcdkdaaDoor.flat_len flat51 l0, hcs]; exact Nat.mul_le_mul_right _ hncap); clear hgg hcs hb1 hB1) | (refine Go.Proofs.YtdaionnpgcdkdaaDoor.wpList_copy_cells rfl (.tmp 7) (.tmp 8) 82 82 rfl 51 11 l0.length Tryd.underlying82 HS.out g l0.length cap A0 l0.length c0 (by rfl) (by rfl) cur 51 HG.out (l0.flatMap enc51) (Nat.min_self _) (Go.Proofs.YtdaionnpgcdkdaaDoor.flat_len flat51 l0) (fun h0 => Go.Proofs.YtdaionnpgcdkdaaDoor.flat_cell flat51 (by decide) (Kd.C_below HR.out HB1.out) h0) HF1.out HF2.out ?_; intro w2 HG2 hb2))
  go_wp2
  go_ret
  have hl := Go.Proofs.YtdaionnpgcdkdaaDoor.flat_len flat51 l0
  refine ⟨g, cap, _, rfl, hbg, hncap, hcm, ?_, HG2.out, hb2 _ _ HB1.out hbg⟩
  have h2 := HCS.out
  have h3 : k51.sz = 11 := rfl
  have h4 : l0.length * k51.sz ≤ cap * k51.sz := Nat.mul_le_mul_right _ hncap
  rw [h3] at h2 h4
  have hl2 : (l0.flatMap enc51).length = l0.length * 11 := hl
  simp only [List.length_append, List.length_drop, Array.length_toList]
  omega
/-- The row that twin makes, told as an own one. -/
theorem twin_row {W : World} {base g cap : Nat} {l : List S51} {rest : List Value} (hg : base ≤ g) (hc : l.length ≤ cap) (hm : cap ≤ maxLen) (hl : (l.flatMap enc51 ++ rest).length = cap * 11)
    (h : W.heap[g]? = some (.cells (l.flatMap enc51 ++ rest).toArray 51 (0, 0))) : Kd.R k51 51 W base (fun _ => True) (.slice (some ⟨g, 0, none⟩) l.length cap) l := by
  have hf := Go.Proofs.YtdaionnpgcdkdaaDoor.flat_len flat51 l
  refine Go.Proofs.YtdaionnpgcdkdaaDoor.R_of_flat flat51 ⟨hf, .inr ⟨g, cap, _, rfl, hg, h, hc, hm, ?_, ?_⟩⟩
  · rw [List.size_toArray, hl]; rfl
  · rw [show (List.toArray (l.flatMap enc51 ++ rest)).toList = l.flatMap enc51 ++ rest from rfl, ← hf, List.take_left]
theorem change_out (n : FuncId) (caps : Array Value) (A0 : Option Addr) (c0 : Nat) (l0 : List S51) (i : Int) (w : World) (hi : ¬ (0 ≤ i ∧ i < l0.length)) :
    Calls Tryd.prog 91 #[.slice A0 l0.length c0, .int .i64 i, .func (.func n) #[] caps] w fun e w' => e = .returned (.tuple #[.slice A0 l0.length c0, .int .i64 8]) ∧ Below w.heap.size w w' := by
  by_cases h0 : i < 0
  · have h0' : decide (i < 0) = true := decide_eq_true h0
    clear hi
    go_enter Tryd.func91, Tryd.ntmps91
    go_wp2_with fail
    go_ret2
    exact ⟨rfl, Below.refl _ _⟩
  · have h0' : decide (i < 0) = false := decide_eq_false h0
    have h1' : decide ((l0.length : Int) ≤ i) = true := decide_eq_true (by omega)
    clear hi
    go_enter Tryd.func91, Tryd.ntmps91
    go_wp2_with fail
    go_ret2
    exact ⟨rfl, Below.refl _ _⟩

def bartab_twin.f (l0 : List (S51)) : Option ((List (S51))) := if l0.length < 1599289640401 then some l0 else none
theorem bartab_twin.calls (A0 : Option Addr) (c0 : Nat) (l0 : List (S51)) (r : List (S51)) (w : World) (hr0 : Kd.C k51 w A0 l0.length l0) (hc0 : l0.length ≤ c0) (h : bartab_twin.f l0 = some r) :
    Calls Tryd.prog 93 #[.slice A0 l0.length c0] w fun e w' => ∃ v0_ : Value, e = .returned (v0_) ∧ Kd.R k51 51 w' w.heap.size (fun _ => True) v0_ r ∧ Below w.heap.size w w' := by
  unfold bartab_twin.f at h
  split at h
  case isFalse => cases h
  rename_i hlim
  obtain rfl := Option.some.inj h
  refine (twin_any A0 c0 l0 w hr0 hlim).mono ?_
  rintro e w' ⟨g, cap, rest, rfl, hg, hc, hm, hl, hgg, hb⟩
  exact ⟨_, rfl, twin_row hg hc hm hl hgg, hb⟩

/-! ### bartab_Offer: function 50 -/
def bartab_chg (l0 : List S51) (i : Int) (t : Option (S51 × Int)) : Option (List S51 × Int) := if 0 ≤ i ∧ i < (l0.length : Int) then t.bind fun t => (if t.2 = 0 then some (l0.set i.toNat t.1, 0) else some (l0, t.2)) else some (l0, 8)
theorem bartab_chg.le (l0 : List S51) (i : Int) {t t' : Option (S51 × Int)} (h : LeO t t') : LeO (bartab_chg l0 i t) (bartab_chg l0 i t') := LeO.ite (LeO.bind h (fun _ => LeO.refl _)) (LeO.refl _)
def bartab_offer1 (k : Nat) (x : S51) (a1 : Int) (a3 : Bool) : Option (S51 × Int) := (barrier_Offer.f k x.f0.f0 x.f0.f1 x.f1.f0.f0 x.f1.f0.f1 x.f1.f0.f2 x.f1.f0.f3 x.f1.f1.f0 x.f1.f1.f1 x.f1.f1.f2 x.f1.f1.f3 x.f2 a1 a3).bind fun t => some (⟨⟨t.1, t.2.1⟩, ⟨⟨t.2.2.1, t.2.2.2.1, t.2.2.2.2.1, t.2.2.2.2.2.1⟩, ⟨t.2.2.2.2.2.2.1, t.2.2.2.2.2.2.2.1, t.2.2.2.2.2.2.2.2.1, t.2.2.2.2.2.2.2.2.2.1⟩⟩, t.2.2.2.2.2.2.2.2.2.2.1⟩, t.2.2.2.2.2.2.2.2.2.2.2)
def bartab_Offer.l0 (a1 : Int) (a3 : Bool) (l0 : List S51) (l2 : List S132) : Nat → List S51 → Int → Option (List S51 × Int × Int)
  | 0, _, _ => none
  | k + 1, u, i => if i < (l2.length : Int) then (if 0 ≤ i then (if (rd_T132 l2 i).f0 = 3 then ((bartab_chg u (rd_T132 l2 i).f1 (bartab_offer1 k (rd_T51 u (rd_T132 l2 i).f1) a1 a3)).bind fun t => (if t.2 = 0 then bartab_Offer.l0 a1 a3 l0 l2 k t.1 (wrap64 (i + 1)) else some (l0, i, t.2))) else bartab_Offer.l0 a1 a3 l0 l2 k u (wrap64 (i + 1))) else none) else some (u, 0, 0)
theorem bartab_Offer.mono_l (a1 : Int) (a3 : Bool) (l0 : List S51) (l2 : List S132) : ∀ (k : Nat) (u : List S51) (i : Int), LeO (bartab_Offer.l0 a1 a3 l0 l2 k u i) (bartab_Offer.l0 a1 a3 l0 l2 (k + 1) u i)
  | 0, _, _ => fun r h => by simp [bartab_Offer.l0] at h
  | k + 1, u, i => by
    have ih := bartab_Offer.mono_l a1 a3 l0 l2 k
    unfold bartab_Offer.l0
    exact LeO.ite (LeO.ite (LeO.ite (LeO.bind (bartab_chg.le _ _ (LeO.bind (barrier_Offer.mono _ _ _ _ _ _ _ _ _ _ _ _ _ k) (fun _ => LeO.refl _))) (fun t => LeO.ite (ih _ _) (LeO.refl _))) (ih _ _)) (LeO.refl _)) (LeO.refl _)
set_option maxRecDepth 20000 in
set_option maxHeartbeats 1000000 in
theorem change_err_Offer (A0 : Option Addr) (c0 : Nat) (l0 : List S51) (i : Int) (p0 : Addr) (p1 : Addr) (w : World) (hr0 : Kd.C k51 w A0 l0.length l0) (hlim : l0.length < 1599289640401) (h0 : 0 ≤ i) (h1 : i < l0.length)
    (x' : S51) (er : Int) (he : er ≠ 0) (K : World → Prop)
    (hcl : Calls Tryd.prog 92 #[.agg #[.bool (rd_T51 l0 i).f0.f0, .int .i64 (rd_T51 l0 i).f0.f1, .int .u64 (rd_T51 l0 i).f1.f0.f0, .int .u64 (rd_T51 l0 i).f1.f0.f1, .int .u64 (rd_T51 l0 i).f1.f0.f2, .int .u64 (rd_T51 l0 i).f1.f0.f3, .int .u64 (rd_T51 l0 i).f1.f1.f0, .int .u64 (rd_T51 l0 i).f1.f1.f1, .int .u64 (rd_T51 l0 i).f1.f1.f2, .int .u64 (rd_T51 l0 i).f1.f1.f3, .int .i64 (rd_T51 l0 i).f2], .pointer (some p0), .pointer (some p1)] w fun e w1 => e = .returned (.tuple #[.agg #[.bool x'.f0.f0, .int .i64 x'.f0.f1, .int .u64 x'.f1.f0.f0, .int .u64 x'.f1.f0.f1, .int .u64 x'.f1.f0.f2, .int .u64 x'.f1.f0.f3, .int .u64 x'.f1.f1.f0, .int .u64 x'.f1.f1.f1, .int .u64 x'.f1.f1.f2, .int .u64 x'.f1.f1.f3, .int .i64 x'.f2], .int .i64 er]) ∧ K w1) :
    Calls Tryd.prog 91 #[.slice A0 l0.length c0, .int .i64 i, .func (.func 92) #[] #[.pointer (some p0), .pointer (some p1)]] w fun e w' => e = .returned (.tuple #[.slice A0 l0.length c0, .int .i64 er]) ∧ ∃ w1, K w1 ∧ Below w1.heap.size w1 w' := by
  have HL := Lib.hid hlim
  obtain ⟨ad, ea, g0, g1, g2, g3, g4, g5, g6, g7, g8, g9, g10⟩ := at_T51 hr0 i h0 h1
  subst ea
  have HC := Lib.hid hcl
  have he' : (er != 0) = true := by simpa using he
  clear hlim hr0 hcl he
  go_enter Tryd.func91, Tryd.ntmps91
  go_wp2_with fail
  refine HC.out.mono ?_
  rintro e w1 ⟨rfl, hK⟩
  have HK := Lib.hid hK
  clear hK
  go_wp2_with fail
  go_ret2
  exact ⟨rfl, w1, HK.out, (Below.refl _ _).alloc (Nat.le_refl _) _⟩
set_option maxRecDepth 20000 in
set_option maxHeartbeats 2000000 in
theorem change_ok_Offer (A0 : Option Addr) (c0 : Nat) (l0 : List S51) (i : Int) (p0 : Addr) (p1 : Addr) (w : World) (hr0 : Kd.C k51 w A0 l0.length l0) (hlim : l0.length < 1599289640401) (h0 : 0 ≤ i) (h1 : i < l0.length)
    (x' : S51) (K : World → Prop) (hKC : ∀ w1, K w1 → Kd.C k51 w1 A0 l0.length l0)
    (hcl : Calls Tryd.prog 92 #[.agg #[.bool (rd_T51 l0 i).f0.f0, .int .i64 (rd_T51 l0 i).f0.f1, .int .u64 (rd_T51 l0 i).f1.f0.f0, .int .u64 (rd_T51 l0 i).f1.f0.f1, .int .u64 (rd_T51 l0 i).f1.f0.f2, .int .u64 (rd_T51 l0 i).f1.f0.f3, .int .u64 (rd_T51 l0 i).f1.f1.f0, .int .u64 (rd_T51 l0 i).f1.f1.f1, .int .u64 (rd_T51 l0 i).f1.f1.f2, .int .u64 (rd_T51 l0 i).f1.f1.f3, .int .i64 (rd_T51 l0 i).f2], .pointer (some p0), .pointer (some p1)] w fun e w1 => e = .returned (.tuple #[.agg #[.bool x'.f0.f0, .int .i64 x'.f0.f1, .int .u64 x'.f1.f0.f0, .int .u64 x'.f1.f0.f1, .int .u64 x'.f1.f0.f2, .int .u64 x'.f1.f0.f3, .int .u64 x'.f1.f1.f0, .int .u64 x'.f1.f1.f1, .int .u64 x'.f1.f1.f2, .int .u64 x'.f1.f1.f3, .int .i64 x'.f2], .int .i64 0]) ∧ K w1) :
    Calls Tryd.prog 91 #[.slice A0 l0.length c0, .int .i64 i, .func (.func 92) #[] #[.pointer (some p0), .pointer (some p1)]] w fun e w' => ∃ v w1, e = .returned (.tuple #[v, .int .i64 0]) ∧ K w1 ∧ Below w1.heap.size w1 w' ∧ Kd.R k51 51 w' w1.heap.size (fun _ => True) v (l0.set i.toNat x') := by
  have HL := Lib.hid hlim
  obtain ⟨ad, ea, g0, g1, g2, g3, g4, g5, g6, g7, g8, g9, g10⟩ := at_T51 hr0 i h0 h1
  subst ea
  have HC := Lib.hid hcl
  clear hlim hr0 hcl
  go_enter Tryd.func91, Tryd.ntmps91
  go_wp2_with fail
  refine HC.out.mono ?_
  rintro e w1 ⟨rfl, hK⟩
  have HK := Lib.hid hK
  clear hK
  go_wp2_with fail
  refine (twin_any _ c0 l0 _ ((hKC _ HK.out).imp_ ((Below.refl _ _).alloc (Nat.le_refl _) _) (fun _ _ hp => k51.K_below ((Below.refl _ _).alloc (Nat.le_refl _) _) hp)) HL.out).mono ?_
  rintro e w2 ⟨g, cap, rest, rfl, hg, hc, hm, hlen, hgg, hb2⟩
  obtain ⟨L, hL⟩ : ∃ L, L = l0.flatMap enc51 ++ rest := ⟨_, rfl⟩
  rw [← hL] at hgg hlen
  have hsp : i.toNat * 11 + 11 ≤ L.length := by
    have : (l0.flatMap enc51).length = l0.length * 11 := Go.Proofs.YtdaionnpgcdkdaaDoor.flat_len flat51 l0
    rw [hL, List.length_append, this]
    omega
  have HX := Lib.hid (Go.Proofs.YtdaionnpgcdkdaaDoor.Wl.blk_after (Go.Proofs.YtdaionnpgcdkdaaDoor.Wl.new_blk w1 _) hb2)
  have HGG := Lib.hid hgg
  have y0 : w1.heap.size < w2.heap.size := Go.Proofs.YtdaionnpgcdkdaaDoor.Wl.blk_lt HX.out
  have cc : ∀ j, j < 11 → w2.cell? ⟨g, i.toNat * 11 + j, none⟩ = some (L.getD (i.toNat * 11 + j) undef) := fun j hj => by
    rw [Go.Proofs.YtdaionnpgcdkdaaDoor.Wl.blk_cell hgg]
    simp [List.getD, show i.toNat * 11 + j < L.length by omega]
  have x0 := (Go.Proofs.YtdaionnpgcdkdaaDoor.Wl.blk_cell HX.out 0).trans rfl; have z0 := Go.Proofs.YtdaionnpgcdkdaaDoor.Wl.blk_frozen HX.out 0
  have x1 := (Go.Proofs.YtdaionnpgcdkdaaDoor.Wl.blk_cell HX.out 1).trans rfl; have z1 := Go.Proofs.YtdaionnpgcdkdaaDoor.Wl.blk_frozen HX.out 1
  have x2 := (Go.Proofs.YtdaionnpgcdkdaaDoor.Wl.blk_cell HX.out 2).trans rfl; have z2 := Go.Proofs.YtdaionnpgcdkdaaDoor.Wl.blk_frozen HX.out 2
  have x3 := (Go.Proofs.YtdaionnpgcdkdaaDoor.Wl.blk_cell HX.out 3).trans rfl; have z3 := Go.Proofs.YtdaionnpgcdkdaaDoor.Wl.blk_frozen HX.out 3
  have x4 := (Go.Proofs.YtdaionnpgcdkdaaDoor.Wl.blk_cell HX.out 4).trans rfl; have z4 := Go.Proofs.YtdaionnpgcdkdaaDoor.Wl.blk_frozen HX.out 4
  have x5 := (Go.Proofs.YtdaionnpgcdkdaaDoor.Wl.blk_cell HX.out 5).trans rfl; have z5 := Go.Proofs.YtdaionnpgcdkdaaDoor.Wl.blk_frozen HX.out 5
  have x6 := (Go.Proofs.YtdaionnpgcdkdaaDoor.Wl.blk_cell HX.out 6).trans rfl; have z6 := Go.Proofs.YtdaionnpgcdkdaaDoor.Wl.blk_frozen HX.out 6
  have x7 := (Go.Proofs.YtdaionnpgcdkdaaDoor.Wl.blk_cell HX.out 7).trans rfl; have z7 := Go.Proofs.YtdaionnpgcdkdaaDoor.Wl.blk_frozen HX.out 7
  have x8 := (Go.Proofs.YtdaionnpgcdkdaaDoor.Wl.blk_cell HX.out 8).trans rfl; have z8 := Go.Proofs.YtdaionnpgcdkdaaDoor.Wl.blk_frozen HX.out 8
  have x9 := (Go.Proofs.YtdaionnpgcdkdaaDoor.Wl.blk_cell HX.out 9).trans rfl; have z9 := Go.Proofs.YtdaionnpgcdkdaaDoor.Wl.blk_frozen HX.out 9
  have x10 := (Go.Proofs.YtdaionnpgcdkdaaDoor.Wl.blk_cell HX.out 10).trans rfl; have z10 := Go.Proofs.YtdaionnpgcdkdaaDoor.Wl.blk_frozen HX.out 10
  have y_0 : w2.cell? ⟨g, i.toNat * 11, none⟩ = some (L.getD (i.toNat * 11) undef) := cc 0 (by decide); have f0 := Go.Proofs.YtdaionnpgcdkdaaDoor.Wl.blk_frozen HGG.out (i.toNat * 11)
  have y_1 := cc 1 (by decide); have f1 := Go.Proofs.YtdaionnpgcdkdaaDoor.Wl.blk_frozen HGG.out (i.toNat * 11 + 1)
  have y_2 := cc 2 (by decide); have f2 := Go.Proofs.YtdaionnpgcdkdaaDoor.Wl.blk_frozen HGG.out (i.toNat * 11 + 2)
  have y_3 := cc 3 (by decide); have f3 := Go.Proofs.YtdaionnpgcdkdaaDoor.Wl.blk_frozen HGG.out (i.toNat * 11 + 3)
  have y_4 := cc 4 (by decide); have f4 := Go.Proofs.YtdaionnpgcdkdaaDoor.Wl.blk_frozen HGG.out (i.toNat * 11 + 4)
  have y_5 := cc 5 (by decide); have f5 := Go.Proofs.YtdaionnpgcdkdaaDoor.Wl.blk_frozen HGG.out (i.toNat * 11 + 5)
  have y_6 := cc 6 (by decide); have f6 := Go.Proofs.YtdaionnpgcdkdaaDoor.Wl.blk_frozen HGG.out (i.toNat * 11 + 6)
  have y_7 := cc 7 (by decide); have f7 := Go.Proofs.YtdaionnpgcdkdaaDoor.Wl.blk_frozen HGG.out (i.toNat * 11 + 7)
  have y_8 := cc 8 (by decide); have f8 := Go.Proofs.YtdaionnpgcdkdaaDoor.Wl.blk_frozen HGG.out (i.toNat * 11 + 8)
  have y_9 := cc 9 (by decide); have f9 := Go.Proofs.YtdaionnpgcdkdaaDoor.Wl.blk_frozen HGG.out (i.toNat * 11 + 9)
  have y_10 := cc 10 (by decide); have f10 := Go.Proofs.YtdaionnpgcdkdaaDoor.Wl.blk_frozen HGG.out (i.toNat * 11 + 10)
  have HL2 := Lib.hid hL
  have HLEN := Lib.hid hlen
  have HSP := Lib.hid hsp
  have hgB : w1.heap.size < g := Nat.lt_of_succ_le (by simpa using hg)
  have HC2 := Lib.hid hc
  have HM2 := Lib.hid hm
  clear hL hlen hgg cc hsp hc hm hg
  simp only
  go_wp2_with fail
  go_ret2
  have hi' : i.toNat < l0.length := by omega
  have hb3 : Below w1.heap.size w1 w2 := Go.Proofs.YtdaionnpgcdkdaaDoor.Wl.bl_trans ((Below.refl _ _).alloc (Nat.le_refl _) _) hb2
  have hst := Go.Proofs.YtdaionnpgcdkdaaDoor.flat_store flat51 l0 i.toNat hi' x' rest (W := w2) (by rw [← HL2.out]; exact HGG.out)
  refine ⟨_, w1, rfl, HK.out, Go.Proofs.YtdaionnpgcdkdaaDoor.setAll_below (Nat.le_of_lt hgB) (enc51 x') w2 (i.toNat * 11) hb3, ?_⟩
  have hln : (l0.set i.toNat x').length = l0.length := List.length_set ..
  have hrow := twin_row (W := Go.Proofs.YtdaionnpgcdkdaaDoor.setAll w2 g (i.toNat * 11) (enc51 x')) (base := w1.heap.size) (g := g) (cap := cap) (l := l0.set i.toNat x') (rest := rest) (Nat.le_of_lt hgB) (by rw [hln]; exact HC2.out) HM2.out (by
    rw [List.length_append, Go.Proofs.YtdaionnpgcdkdaaDoor.flat_len flat51, hln, ← Go.Proofs.YtdaionnpgcdkdaaDoor.flat_len flat51 l0, ← List.length_append, ← HL2.out]
    exact HLEN.out) hst
  rw [hln] at hrow
  exact hrow
theorem change_in_Offer (P : Nat → Prop) (A0 : Option Addr) (c0 : Nat) (l0 : List S51) (i : Int) (p0 : Addr) (p1 : Addr) (w : World) (hs : Kd.V k51 51 w w.heap.size P (.slice A0 l0.length c0) l0) (hlim : l0.length < 1599289640401) (h0 : 0 ≤ i) (h1 : i < l0.length)
    (x' : S51) (er : Int) (K : World → Prop) (hKV : ∀ w1, K w1 → Kd.V k51 51 w1 w1.heap.size P (.slice A0 l0.length c0) l0) (hKS : ∀ w1, K w1 → w.heap.size ≤ w1.heap.size)
    (hcl : Calls Tryd.prog 92 #[.agg #[.bool (rd_T51 l0 i).f0.f0, .int .i64 (rd_T51 l0 i).f0.f1, .int .u64 (rd_T51 l0 i).f1.f0.f0, .int .u64 (rd_T51 l0 i).f1.f0.f1, .int .u64 (rd_T51 l0 i).f1.f0.f2, .int .u64 (rd_T51 l0 i).f1.f0.f3, .int .u64 (rd_T51 l0 i).f1.f1.f0, .int .u64 (rd_T51 l0 i).f1.f1.f1, .int .u64 (rd_T51 l0 i).f1.f1.f2, .int .u64 (rd_T51 l0 i).f1.f1.f3, .int .i64 (rd_T51 l0 i).f2], .pointer (some p0), .pointer (some p1)] w fun e w1 => e = .returned (.tuple #[.agg #[.bool x'.f0.f0, .int .i64 x'.f0.f1, .int .u64 x'.f1.f0.f0, .int .u64 x'.f1.f0.f1, .int .u64 x'.f1.f0.f2, .int .u64 x'.f1.f0.f3, .int .u64 x'.f1.f1.f0, .int .u64 x'.f1.f1.f1, .int .u64 x'.f1.f1.f2, .int .u64 x'.f1.f1.f3, .int .i64 x'.f2], .int .i64 er]) ∧ K w1) :
    Calls Tryd.prog 91 #[.slice A0 l0.length c0, .int .i64 i, .func (.func 92) #[] #[.pointer (some p0), .pointer (some p1)]] w fun e w' => ∃ v w1, e = .returned (.tuple #[v, .int .i64 er]) ∧ K w1 ∧ Below w1.heap.size w1 w' ∧ Kd.V k51 51 w' w.heap.size (fun k => P k ∨ w.heap.size ≤ k) v (if er = 0 then l0.set i.toNat x' else l0) := by
  have hr0 := (Kd.V_reads' hs).2.2
  by_cases he : er = 0
  · subst he
    refine (change_ok_Offer A0 c0 l0 i p0 p1 w hr0 hlim h0 h1 x' K (fun w1 hk => (Kd.V_reads' (hKV w1 hk)).2.2) hcl).mono ?_
    rintro e w' ⟨v, w1, rfl, hk, hb, hr⟩
    refine ⟨v, w1, rfl, hk, hb, ?_⟩
    rw [if_pos rfl]
    exact Kd.V_mono (Kd.R_V (Kd.R_bound hr)) (fun k h => .inr (Nat.le_trans (hKS w1 hk) h.2.1))
  · refine (change_err_Offer A0 c0 l0 i p0 p1 w hr0 hlim h0 h1 x' er he K hcl).mono ?_
    rintro e w' ⟨rfl, w1, hk, hb⟩
    refine ⟨_, w1, rfl, hk, hb, ?_⟩
    rw [if_neg he]
    exact Kd.V_mono (Kd.V_below (hKV w1 hk) hb) (fun k h => .inl h)
set_option maxRecDepth 20000 in
set_option maxHeartbeats 2000000 in
theorem clos_Offer (k : Nat) (x : S51) (b0 : Nat) (p : Int) (b1 : Nat) (q : Bool) (y0 : Bool) (y1 y2 y3 y4 y5 y6 y7 y8 y9 y10 : Int) (er : Int) (W : World) (hG : Go.Proofs.YtdaionnpgcdkdaaDoor.GLW W) (hp0 : W.cell? ⟨b0, 0, none⟩ = some (.int .i64 p)) (hp1 : W.cell? ⟨b1, 0, none⟩ = some (.bool q)) (h : barrier_Offer.f k x.f0.f0 x.f0.f1 x.f1.f0.f0 x.f1.f0.f1 x.f1.f0.f2 x.f1.f0.f3 x.f1.f1.f0 x.f1.f1.f1 x.f1.f1.f2 x.f1.f1.f3 x.f2 p q = some (y0, y1, y2, y3, y4, y5, y6, y7, y8, y9, y10, er)) :
    Calls Tryd.prog 92 #[.agg #[.bool x.f0.f0, .int .i64 x.f0.f1, .int .u64 x.f1.f0.f0, .int .u64 x.f1.f0.f1, .int .u64 x.f1.f0.f2, .int .u64 x.f1.f0.f3, .int .u64 x.f1.f1.f0, .int .u64 x.f1.f1.f1, .int .u64 x.f1.f1.f2, .int .u64 x.f1.f1.f3, .int .i64 x.f2], .pointer (some ⟨b0, 0, none⟩), .pointer (some ⟨b1, 0, none⟩)] W fun e w' => e = .returned (.tuple #[.agg #[.bool y0, .int .i64 y1, .int .u64 y2, .int .u64 y3, .int .u64 y4, .int .u64 y5, .int .u64 y6, .int .u64 y7, .int .u64 y8, .int .u64 y9, .int .i64 y10], .int .i64 er]) ∧ Below W.heap.size W w' := by
  have HH := Lib.hid h
  have HG := Lib.hid hG
  have lt0 : b0 < W.heap.size := World.block_lt_of_cell? W _ hp0
  have lt1 : b1 < W.heap.size := World.block_lt_of_cell? W _ hp1
  clear h hG
  go_enter Tryd.func92, Tryd.ntmps92
  go_wp2_with fail
  refine (barrier_Offer.calls k x.f0.f0 x.f0.f1 x.f1.f0.f0 x.f1.f0.f1 x.f1.f0.f2 x.f1.f0.f3 x.f1.f1.f0 x.f1.f1.f1 x.f1.f1.f2 x.f1.f1.f3 x.f2 p q y0 y1 y2 y3 y4 y5 y6 y7 y8 y9 y10 er _ (HG.out.below (((Below.refl _ _).alloc (Nat.le_refl _) _).alloc (by simp) _)) HH.out).mono ?_
  rintro e w1 ⟨rfl, hb⟩
  have HB := Lib.hid (Go.Proofs.YtdaionnpgcdkdaaDoor.Wl.blk_after (Go.Proofs.YtdaionnpgcdkdaaDoor.Wl.new_blk1 W _ _) hb)
  have HBB := Lib.hid hb
  have hz : W.heap.size + 1 < w1.heap.size := Go.Proofs.YtdaionnpgcdkdaaDoor.Wl.blk_lt HB.out
  have x0 := (Go.Proofs.YtdaionnpgcdkdaaDoor.Wl.blk_cell HB.out 0).trans rfl; have z0 := Go.Proofs.YtdaionnpgcdkdaaDoor.Wl.blk_frozen HB.out 0
  have x1 := (Go.Proofs.YtdaionnpgcdkdaaDoor.Wl.blk_cell HB.out 1).trans rfl; have z1 := Go.Proofs.YtdaionnpgcdkdaaDoor.Wl.blk_frozen HB.out 1
  have x2 := (Go.Proofs.YtdaionnpgcdkdaaDoor.Wl.blk_cell HB.out 2).trans rfl; have z2 := Go.Proofs.YtdaionnpgcdkdaaDoor.Wl.blk_frozen HB.out 2
  have x3 := (Go.Proofs.YtdaionnpgcdkdaaDoor.Wl.blk_cell HB.out 3).trans rfl; have z3 := Go.Proofs.YtdaionnpgcdkdaaDoor.Wl.blk_frozen HB.out 3
  have x4 := (Go.Proofs.YtdaionnpgcdkdaaDoor.Wl.blk_cell HB.out 4).trans rfl; have z4 := Go.Proofs.YtdaionnpgcdkdaaDoor.Wl.blk_frozen HB.out 4
  have x5 := (Go.Proofs.YtdaionnpgcdkdaaDoor.Wl.blk_cell HB.out 5).trans rfl; have z5 := Go.Proofs.YtdaionnpgcdkdaaDoor.Wl.blk_frozen HB.out 5
  have x6 := (Go.Proofs.YtdaionnpgcdkdaaDoor.Wl.blk_cell HB.out 6).trans rfl; have z6 := Go.Proofs.YtdaionnpgcdkdaaDoor.Wl.blk_frozen HB.out 6
  have x7 := (Go.Proofs.YtdaionnpgcdkdaaDoor.Wl.blk_cell HB.out 7).trans rfl; have z7 := Go.Proofs.YtdaionnpgcdkdaaDoor.Wl.blk_frozen HB.out 7
  have x8 := (Go.Proofs.YtdaionnpgcdkdaaDoor.Wl.blk_cell HB.out 8).trans rfl; have z8 := Go.Proofs.YtdaionnpgcdkdaaDoor.Wl.blk_frozen HB.out 8
  have x9 := (Go.Proofs.YtdaionnpgcdkdaaDoor.Wl.blk_cell HB.out 9).trans rfl; have z9 := Go.Proofs.YtdaionnpgcdkdaaDoor.Wl.blk_frozen HB.out 9
  have x10 := (Go.Proofs.YtdaionnpgcdkdaaDoor.Wl.blk_cell HB.out 10).trans rfl; have z10 := Go.Proofs.YtdaionnpgcdkdaaDoor.Wl.blk_frozen HB.out 10
  clear hb
  go_wp2_with fail
  have hr := Go.Proofs.YtdaionnpgcdkdaaDoor.setAll_full [.bool y0, .int .i64 y1, .int .u64 y2, .int .u64 y3, .int .u64 y4, .int .u64 y5, .int .u64 y6, .int .u64 y7, .int .u64 y8, .int .u64 y9, .int .i64 y10] HB.out rfl
  refine bodyPost_ret (v := .tuple #[.agg #[.bool y0, .int .i64 y1, .int .u64 y2, .int .u64 y3, .int .u64 y4, .int .u64 y5, .int .u64 y6, .int .u64 y7, .int .u64 y8, .int .u64 y9, .int .i64 y10], .int .i64 er]) ?_ rfl ⟨rfl, Go.Proofs.YtdaionnpgcdkdaaDoor.setAll_below (by omega) [.bool y0, .int .i64 y1, .int .u64 y2, .int .u64 y3, .int .u64 y4, .int .u64 y5, .int .u64 y6, .int .u64 y7, .int .u64 y8, .int .u64 y9, .int .i64 y10] w1 0 (Go.Proofs.YtdaionnpgcdkdaaDoor.Wl.bl_trans (((Below.refl _ _).alloc (Nat.le_refl _) _).alloc (by simp) _) HBB.out)⟩
  have d0 : World.cell? _ ⟨W.heap.size + 1, 0, none⟩ = some (.bool y0) := (Go.Proofs.YtdaionnpgcdkdaaDoor.Wl.blk_cell hr 0).trans rfl
  have d1 : World.cell? _ ⟨W.heap.size + 1, 1, none⟩ = some (.int .i64 y1) := (Go.Proofs.YtdaionnpgcdkdaaDoor.Wl.blk_cell hr 1).trans rfl
  have d2 : World.cell? _ ⟨W.heap.size + 1, 2, none⟩ = some (.int .u64 y2) := (Go.Proofs.YtdaionnpgcdkdaaDoor.Wl.blk_cell hr 2).trans rfl
  have d3 : World.cell? _ ⟨W.heap.size + 1, 3, none⟩ = some (.int .u64 y3) := (Go.Proofs.YtdaionnpgcdkdaaDoor.Wl.blk_cell hr 3).trans rfl
  have d4 : World.cell? _ ⟨W.heap.size + 1, 4, none⟩ = some (.int .u64 y4) := (Go.Proofs.YtdaionnpgcdkdaaDoor.Wl.blk_cell hr 4).trans rfl
  have d5 : World.cell? _ ⟨W.heap.size + 1, 5, none⟩ = some (.int .u64 y5) := (Go.Proofs.YtdaionnpgcdkdaaDoor.Wl.blk_cell hr 5).trans rfl
  have d6 : World.cell? _ ⟨W.heap.size + 1, 6, none⟩ = some (.int .u64 y6) := (Go.Proofs.YtdaionnpgcdkdaaDoor.Wl.blk_cell hr 6).trans rfl
  have d7 : World.cell? _ ⟨W.heap.size + 1, 7, none⟩ = some (.int .u64 y7) := (Go.Proofs.YtdaionnpgcdkdaaDoor.Wl.blk_cell hr 7).trans rfl
  have d8 : World.cell? _ ⟨W.heap.size + 1, 8, none⟩ = some (.int .u64 y8) := (Go.Proofs.YtdaionnpgcdkdaaDoor.Wl.blk_cell hr 8).trans rfl
  have d9 : World.cell? _ ⟨W.heap.size + 1, 9, none⟩ = some (.int .u64 y9) := (Go.Proofs.YtdaionnpgcdkdaaDoor.Wl.blk_cell hr 9).trans rfl
  have d10 : World.cell? _ ⟨W.heap.size + 1, 10, none⟩ = some (.int .i64 y10) := (Go.Proofs.YtdaionnpgcdkdaaDoor.Wl.blk_cell hr 10).trans rfl
  simp only [Go.Proofs.YtdaionnpgcdkdaaDoor.setAll] at d0 d1 d2 d3 d4 d5 d6 d7 d8 d9 d10
  simp [results, Tryd.results92, go_sem, d0, d1, d2, d3, d4, d5, d6, d7, d8, d9, d10]
theorem chg_Offer (k : Nat) (P : Nat → Prop) (A0 : Option Addr) (c0 : Nat) (u : List S51) (i a1 : Int) (a3 : Bool) (b0 b1 : Nat) (W : World) (hG : Go.Proofs.YtdaionnpgcdkdaaDoor.GLW W) (hp0 : W.cell? ⟨b0, 0, none⟩ = some (.int .i64 a1)) (hp1 : W.cell? ⟨b1, 0, none⟩ = some (.bool a3)) (hs : Kd.V k51 51 W W.heap.size P (.slice A0 u.length c0) u) (hlim : u.length < 1599289640401) (u' : List S51) (er : Int)
    (h : bartab_chg u i (bartab_offer1 k (rd_T51 u i) a1 a3) = some (u', er)) :
    Calls Tryd.prog 91 #[.slice A0 u.length c0, .int .i64 i, .func (.func 92) #[] #[.pointer (some ⟨b0, 0, none⟩), .pointer (some ⟨b1, 0, none⟩)]] W fun e w' => ∃ v, e = .returned (.tuple #[v, .int .i64 er]) ∧ Kd.V k51 51 w' W.heap.size (fun k => P k ∨ W.heap.size ≤ k) v u' ∧ Below W.heap.size W w' ∧ u'.length = u.length := by
  unfold bartab_chg at h
  split at h
  · rename_i hi
    obtain ⟨⟨x', er'⟩, ht, h⟩ := Option.bind_eq_some_iff.1 h
    unfold bartab_offer1 at ht
    obtain ⟨⟨y0, y1, y2, y3, y4, y5, y6, y7, y8, y9, y10, er2⟩, ho, ht⟩ := Option.bind_eq_some_iff.1 ht
    obtain ⟨rfl, rfl⟩ := Prod.mk.inj (Option.some.inj ht)
    refine (change_in_Offer P A0 c0 u i _ _ W hs hlim hi.1 hi.2 ⟨⟨y0, y1⟩, ⟨⟨y2, y3, y4, y5⟩, ⟨y6, y7, y8, y9⟩⟩, y10⟩ er2 (fun w1 => Below W.heap.size W w1) (fun _ h => Kd.V_below hs h) (fun _ h => h.size) (clos_Offer k _ b0 a1 b1 a3 y0 y1 y2 y3 y4 y5 y6 y7 y8 y9 y10 er2 W hG hp0 hp1 ho)).mono ?_
    rintro e w' ⟨v, w1, rfl, hk, hb, hv⟩
    have hbb := Go.Proofs.YtdaionnpgcdkdaaDoor.Wl.bl_trans hk hb
    dsimp only at h
    split at h
    · rename_i he
      obtain ⟨rfl, rfl⟩ := Prod.mk.inj (Option.some.inj h)
      rw [if_pos he] at hv
      subst he
      exact ⟨v, rfl, hv, hbb, List.length_set ..⟩
    · rename_i he
      obtain ⟨rfl, rfl⟩ := Prod.mk.inj (Option.some.inj h)
      rw [if_neg he] at hv
      exact ⟨v, rfl, hv, hbb, rfl⟩
  · rename_i hi
    obtain ⟨rfl, rfl⟩ := Prod.mk.inj (Option.some.inj h)
    refine (change_out 92 _ A0 c0 u i W hi).mono ?_
    rintro e w' ⟨rfl, hb⟩
    exact ⟨_, rfl, Kd.V_mono (Kd.V_below hs hb) (fun k h => .inl h), hb, rfl⟩

def bartab_Offer.f (k : Nat) (l0 : List (S51)) (a1 : Int) (l2 : List (S132)) (a3 : Bool) : Option ((List (S51)) × Int × Int) := if l0.length < 1599289640401 then bartab_Offer.l0 a1 a3 l0 l2 k l0 0 else none
theorem bartab_Offer.mono : ∀ a0 a1 a2 a3 k, LeO (bartab_Offer.f k a0 a1 a2 a3) (bartab_Offer.f (k + 1) a0 a1 a2 a3) := fun _ _ _ _ k => LeO.ite (bartab_Offer.mono_l _ _ _ _ k _ _) (LeO.refl _)
theorem bartab_Offer.calls (k : Nat) (P0_ : Nat → Prop) (A0 : Option Addr) (c0 : Nat) (l0 : List (S51)) (a1 : Int) (A2 : Option Addr) (c2 : Nat) (l2 : List (S132)) (a3 : Bool) (r1 : List (S51)) (r2 : Int) (r3 : Int) (w : World) (hG : Go.Proofs.YtdaionnpgcdkdaaDoor.GLW w) (hs0 : Kd.V k51 51 w w.heap.size (fun k_ => P0_ k_) (.slice A0 l0.length c0) l0) (hr2 : Kd.C k132 w A2 l2.length l2) (hc2 : l2.length ≤ c2) (h : bartab_Offer.f k l0 a1 l2 a3 = some (r1, r2, r3)) :
    Calls Tryd.prog 50 #[.slice A0 l0.length c0, .int .i64 a1, .slice A2 l2.length c2, .bool a3] w fun e w' => ∃ v0_ : Value, e = .returned (.tuple #[v0_, .int .i64 r2, .int .i64 r3]) ∧ Kd.V k51 51 w' w.heap.size (fun k_ => (P0_ k_ ∨ w.heap.size ≤ k_)) v0_ r1 ∧ Below w.heap.size w w' := by
  unfold bartab_Offer.f at h
  split at h
  case isFalse => cases h
  rename_i hlim
  have HR2 := Aside0.mk hr2
  have HS := Aside0.mk hs0
  have HG := Aside0.mk hG
  have HL := Aside0.mk hlim
  have H' := Aside0.mk h
  have HW0 : Aside0 (Below w.heap.size w ((w.alloc (.cells #[.int .i64 a1] 3 (0, 0))).alloc (.cells #[.bool a3] 4 (0, 0)))) := ⟨((Below.refl _ _).alloc (Nat.le_refl _) _).alloc (by simp) _⟩
  have HX0 : Aside0 (((w.alloc (.cells #[.int .i64 a1] 3 (0, 0))).alloc (.cells #[.bool a3] 4 (0, 0))).heap[w.heap.size]? = some _) := ⟨Go.Proofs.YtdaionnpgcdkdaaDoor.Wl.blk_alloc (Go.Proofs.YtdaionnpgcdkdaaDoor.Wl.new_blk w _) _⟩
  have HX1 : Aside0 (((w.alloc (.cells #[.int .i64 a1] 3 (0, 0))).alloc (.cells #[.bool a3] 4 (0, 0))).heap[w.heap.size + 1]? = some _) := ⟨Go.Proofs.YtdaionnpgcdkdaaDoor.Wl.new_blk1 w _ _⟩
  clear hr2 hs0 hG hlim h
  go_enter Tryd.func50, Tryd.ntmps50
  go_wp2_with fail
  go_loopg [11, 19] k (fun kq v11 v19 w' => ∃ (u : List S51) (x : Int), v19 = .int .i64 x ∧ Aside0 (bartab_Offer.l0 a1 a3 l0 l2 kq u x = some (r1, r2, r3)) ∧ Aside0 (kq ≤ k) ∧ Aside0 (u.length = l0.length) ∧ Aside0 (Kd.V k51 51 w' w.heap.size (fun k_ => P0_ k_ ∨ w.heap.size ≤ k_) v11 u) ∧ Aside0 (Below ((w.alloc (.cells #[.int .i64 a1] 3 (0, 0))).alloc (.cells #[.bool a3] 4 (0, 0))).heap.size ((w.alloc (.cells #[.int .i64 a1] 3 (0, 0))).alloc (.cells #[.bool a3] 4 (0, 0))) w'))
  case atStart => exact ⟨l0, 0, rfl, H', ⟨Nat.le_refl _⟩, ⟨rfl⟩, ⟨Kd.V_mono (Kd.V_below HS.out HW0.out) (fun k h => .inl h)⟩, ⟨Below.refl _ _⟩⟩
  case round =>
    clear H'
    obtain ⟨u, x, rfl, HA, HK, HU, HV, HB⟩ := hrel
    obtain ⟨Au, cu, rfl⟩ := Kd.V_slice HV.out
    cases gk with
    | zero => exact absurd HA.out (by simp [bartab_Offer.l0])
    | succ k1 =>
      have H := HA.out
      clear HA
      simp only [bartab_Offer.l0] at H
      have HW := Aside0.mk (Go.Proofs.YtdaionnpgcdkdaaDoor.Wl.bl_trans HW0.out HB.out)
      have lu : u.length < 1599289640401 := by rw [HU.out]; exact HL.out
      by_cases c1 : x < (l2.length : Int)
      · rw [if_pos c1] at H
        have c1b : decide (x < (l2.length : Int)) = true := decide_eq_true c1
        by_cases c2' : 0 ≤ x
        · rw [if_pos c2'] at H
          obtain ⟨ad, e, g0, g1, g2, g3, g4⟩ := at_T132 HR2.out x c2' c1
          cases e
          replace g0 := (HW.out.cell (World.block_lt_of_cell? w _ g0)).trans g0
          replace g1 := (HW.out.cell (World.block_lt_of_cell? w _ g1)).trans g1
          replace g2 := (HW.out.cell (World.block_lt_of_cell? w _ g2)).trans g2
          replace g3 := (HW.out.cell (World.block_lt_of_cell? w _ g3)).trans g3
          replace g4 := (HW.out.cell (World.block_lt_of_cell? w _ g4)).trans g4
          obtain ⟨rd, hrd⟩ : ∃ y, y = rd_T132 l2 x := ⟨_, rfl⟩
          rw [← hrd] at g0 g1 g2 g3 g4 H
          clear hrd
          have p0 := eq_true c2'
          have p1 := eq_true c1
          clear c1 c2'
          by_cases c3 : rd.f0 = 3
          · rw [if_pos c3] at H
            have c3b : (rd.f0 != 3) = false := by simp [c3]
            clear c3
            obtain ⟨⟨u', er⟩, ht, H⟩ := Option.bind_eq_some_iff.1 H
            dsimp only at H
            have HT := Aside0.mk ht
            have HLU := Aside0.mk lu
            have HE := Aside0.mk H
            clear ht lu H
            go_wp2_with fail
            refine (chg_Offer k1 (fun k_ => P0_ k_ ∨ w.heap.size ≤ k_) Au cu u rd.f1 a1 a3 w.heap.size (w.heap.size + 1) _ (HG.out.below (Go.Proofs.YtdaionnpgcdkdaaDoor.Wl.bl_alloc HW.out _)) ?_ ?_ (Kd.V_map (Kd.V_alloc HV.out _) (fun _ h => h)) HLU.out u' er HT.out).mono ?_
            · exact Go.Proofs.YtdaionnpgcdkdaaDoor.Wl.blk_cell (Go.Proofs.YtdaionnpgcdkdaaDoor.Wl.blk_alloc (Go.Proofs.YtdaionnpgcdkdaaDoor.Wl.blk_after HX0.out HB.out) _) 0
            · exact Go.Proofs.YtdaionnpgcdkdaaDoor.Wl.blk_cell (Go.Proofs.YtdaionnpgcdkdaaDoor.Wl.blk_alloc (Go.Proofs.YtdaionnpgcdkdaaDoor.Wl.blk_after HX1.out HB.out) _) 0
            rintro e w2 ⟨v, rfl, hv, hb, hlen⟩
            obtain ⟨Av, cv, rfl⟩ := Kd.V_slice hv
            have HV2 := Aside0.mk (Kd.V_mono (base := w.heap.size) (ok' := fun k_ => P0_ k_ ∨ w.heap.size ≤ k_) (Kd.V_map hv (fun _ h => h)) (fun k h => h.elim id (fun h => .inr (Nat.le_trans (Go.Proofs.YtdaionnpgcdkdaaDoor.Wl.bl_alloc HW.out _).size h))))
            have HB2 := Aside0.mk (Go.Proofs.YtdaionnpgcdkdaaDoor.Wl.bl_trans (Go.Proofs.YtdaionnpgcdkdaaDoor.Wl.bl_alloc HB.out _) hb)
            have HW2 := Aside0.mk (Go.Proofs.YtdaionnpgcdkdaaDoor.Wl.bl_trans HW0.out HB2.out)
            have HN := Aside0.mk hlen
            clear hv hb hlen
            by_cases he : er = 0
            · have H := HE.out
              rw [if_pos he] at H
              have heb : (er != 0) = false := by simp [he]
              have H' := Aside0.mk H
              clear he H HE
              go_wp2_with fail
              go_roundg k1
              case measure => have := HK.out; omega
              case rel => exact ⟨u', wrap64 (x + 1), (by first | rfl | (simp; done) | (simp [*]; done)), H', ⟨by have := HK.out; omega⟩, ⟨HN.out.trans HU.out⟩, HV2, HB2⟩
            · have H := HE.out
              rw [if_neg he] at H
              have heb : (er != 0) = true := by simp [he]
              obtain ⟨rfl, h9⟩ := Prod.mk.inj (Option.some.inj H)
              obtain ⟨rfl, rfl⟩ := Prod.mk.inj h9
              clear he H HE h9
              go_wp2_with fail
              go_ret3
              exact ⟨_, rfl, Kd.V_mono (Kd.V_below HS.out HW2.out) (fun k h => .inl h), HW2.out⟩
          · rw [if_neg c3] at H
            have c3b : (rd.f0 != 3) = true := by simp [c3]
            have H' := Aside0.mk H
            clear c3 H
            go_wp2_with fail
            go_roundg k1
            case measure => have := HK.out; omega
            case rel => exact ⟨u, wrap64 (x + 1), (by first | rfl | (simp; done) | (simp [*]; done)), H', ⟨by have := HK.out; omega⟩, HU, ⟨Kd.V_alloc HV.out _⟩, ⟨Go.Proofs.YtdaionnpgcdkdaaDoor.Wl.bl_alloc HB.out _⟩⟩
        · rw [if_neg c2'] at H
          exact absurd H (by simp)
      · rw [if_neg c1] at H
        have c1b : decide (x < (l2.length : Int)) = false := decide_eq_false c1
        obtain ⟨rfl, h9⟩ := Prod.mk.inj (Option.some.inj H)
        obtain ⟨rfl, rfl⟩ := Prod.mk.inj h9
        have HLU := Aside0.mk lu
        clear H c1 h9 lu
        go_wp2_with fail
        refine (bartab_twin.calls Au cu u u _ (Kd.V_reads' HV.out).2.2 (Kd.V_reads' HV.out).2.1 (by unfold bartab_twin.f; rw [if_pos HLU.out])).mono ?_
        rintro e w2 ⟨v, rfl, hr, hb⟩
        have hs := HW.out.size
        have HV2 := Aside0.mk (Kd.V_mono (base := w.heap.size) (ok' := fun k_ => P0_ k_ ∨ w.heap.size ≤ k_) (Kd.R_V (Kd.R_bound hr)) (fun k h => .inr (Nat.le_trans hs h.2.1)))
        have HW2 := Aside0.mk (Go.Proofs.YtdaionnpgcdkdaaDoor.Wl.bl_trans HW.out hb)
        obtain ⟨Av, cv, rfl⟩ := Kd.V_slice HV2.out
        clear hr hb
        go_wp2_with fail
        go_ret3
        exact ⟨_, rfl, HV2.out, HW2.out⟩


/-! ### roll_Withdraw: function 15 -/
def roll_Withdraw.f (a0_0 : Int) (a0_1 : Int) (a0_2 : Int) (a0_3 : Int) (a0_4 : Int) (a0_5 : Int) (a0_6 : Int) (a0_7 : Int) (a1 : Int) : Option (Int × Int × Int × Int × Int × Int × Int × Int × Bool) := if Go.Proofs.YtdaionnpgcdkdaaDoor.okS a0_0 a0_1 a0_2 a0_3 && Go.Proofs.YtdaionnpgcdkdaaDoor.okS a0_4 a0_5 a0_6 a0_7 then some (Go.Proofs.YtdaionnpgcdkdaaDoor.tupR (Go.Proofs.YtdaionnpgcdkdaaDoor.withdrawR (Go.Proofs.YtdaionnpgcdkdaaDoor.natS a0_0 a0_1 a0_2 a0_3) (Go.Proofs.YtdaionnpgcdkdaaDoor.natS a0_4 a0_5 a0_6 a0_7) a1)) else none
theorem roll_Withdraw.calls (a0_0 : Int) (a0_1 : Int) (a0_2 : Int) (a0_3 : Int) (a0_4 : Int) (a0_5 : Int) (a0_6 : Int) (a0_7 : Int) (a1 : Int) (r1 : Int) (r2 : Int) (r3 : Int) (r4 : Int) (r5 : Int) (r6 : Int) (r7 : Int) (r8 : Int) (r9 : Bool) (w : World) (hG : Go.Proofs.YtdaionnpgcdkdaaDoor.GLW w) (h : roll_Withdraw.f a0_0 a0_1 a0_2 a0_3 a0_4 a0_5 a0_6 a0_7 a1 = some (r1, r2, r3, r4, r5, r6, r7, r8, r9)) :
    Calls Tryd.prog 15 #[.agg #[.int .u64 a0_0, .int .u64 a0_1, .int .u64 a0_2, .int .u64 a0_3, .int .u64 a0_4, .int .u64 a0_5, .int .u64 a0_6, .int .u64 a0_7], .int .i64 a1] w fun e w' => e = .returned (.tuple #[.agg #[.int .u64 r1, .int .u64 r2, .int .u64 r3, .int .u64 r4, .int .u64 r5, .int .u64 r6, .int .u64 r7, .int .u64 r8], .bool r9]) ∧ Below w.heap.size w w' := by
  unfold roll_Withdraw.f at h
  split at h
  · rename_i hk
    rw [Bool.and_eq_true] at hk
    simp only [Go.Proofs.YtdaionnpgcdkdaaDoor.tupR, Option.some.injEq, Prod.mk.injEq] at h
    obtain ⟨rfl, rfl, rfl, rfl, rfl, rfl, rfl, rfl, rfl⟩ := h
    exact Go.Proofs.YtdaionnpgcdkdaaDoor.withdraw_words hk.1 hk.2 a1 w hG.out
  · cases h

/-! ### barrier_Withdraw: function 39 -/
def barrier_Withdraw.f (a0_0 : Bool) (a0_1 : Int) (a0_2 : Int) (a0_3 : Int) (a0_4 : Int) (a0_5 : Int) (a0_6 : Int) (a0_7 : Int) (a0_8 : Int) (a0_9 : Int) (a0_10 : Int) (a1 : Int) : Option (Bool × Int × Int × Int × Int × Int × Int × Int × Int × Int × Int) := (barrier_Fine.f a0_0 a0_1 a0_2 a0_3 a0_4 a0_5 a0_6 a0_7 a0_8 a0_9 a0_10).bind fun t138 => (if t138 = true then ((roll_Withdraw.f a0_2 a0_3 a0_4 a0_5 a0_6 a0_7 a0_8 a0_9 a1).bind fun bt139 => (some (a0_0, a0_1, bt139.1, bt139.2.1, bt139.2.2.1, bt139.2.2.2.1, bt139.2.2.2.2.1, bt139.2.2.2.2.2.1, bt139.2.2.2.2.2.2.1, bt139.2.2.2.2.2.2.2.1, a0_10))) else (some (a0_0, a0_1, a0_2, a0_3, a0_4, a0_5, a0_6, a0_7, a0_8, a0_9, a0_10)))
set_option maxHeartbeats 8000000 in
set_option maxRecDepth 100000 in
theorem barrier_Withdraw.calls (a0_0 : Bool) (a0_1 : Int) (a0_2 : Int) (a0_3 : Int) (a0_4 : Int) (a0_5 : Int) (a0_6 : Int) (a0_7 : Int) (a0_8 : Int) (a0_9 : Int) (a0_10 : Int) (a1 : Int) (r1 : Bool) (r2 : Int) (r3 : Int) (r4 : Int) (r5 : Int) (r6 : Int) (r7 : Int) (r8 : Int) (r9 : Int) (r10 : Int) (r11 : Int) (w : World) (hG : Go.Proofs.YtdaionnpgcdkdaaDoor.GLW w) (h : barrier_Withdraw.f a0_0 a0_1 a0_2 a0_3 a0_4 a0_5 a0_6 a0_7 a0_8 a0_9 a0_10 a1 = some (r1, r2, r3, r4, r5, r6, r7, r8, r9, r10, r11)) :
    Calls Tryd.prog 39 #[.agg #[.bool a0_0, .int .i64 a0_1, .int .u64 a0_2, .int .u64 a0_3, .int .u64 a0_4, .int .u64 a0_5, .int .u64 a0_6, .int .u64 a0_7, .int .u64 a0_8, .int .u64 a0_9, .int .i64 a0_10], .int .i64 a1] w fun e w' => e = .returned (.agg #[.bool r1, .int .i64 r2, .int .u64 r3, .int .u64 r4, .int .u64 r5, .int .u64 r6, .int .u64 r7, .int .u64 r8, .int .u64 r9, .int .u64 r10, .int .i64 r11]) ∧ Below w.heap.size w w' := by
  have hu51 := Tryd.underlying51
  have hu28 := Tryd.underlying28
  have HB := Aside0.mk (Below.refl w.heap.size w)
  have H : ((barrier_Fine.f a0_0 a0_1 a0_2 a0_3 a0_4 a0_5 a0_6 a0_7 a0_8 a0_9 a0_10).bind fun t138 => (if t138 = true then ((roll_Withdraw.f a0_2 a0_3 a0_4 a0_5 a0_6 a0_7 a0_8 a0_9 a1).bind fun bt139 => (some (a0_0, a0_1, bt139.1, bt139.2.1, bt139.2.2.1, bt139.2.2.2.1, bt139.2.2.2.2.1, bt139.2.2.2.2.2.1, bt139.2.2.2.2.2.2.1, bt139.2.2.2.2.2.2.2.1, a0_10))) else (some (a0_0, a0_1, a0_2, a0_3, a0_4, a0_5, a0_6, a0_7, a0_8, a0_9, a0_10)))) = some (r1, r2, r3, r4, r5, r6, r7, r8, r9, r10, r11) := h
  clear h
  replace H := Option.bind_eq_some_iff.mp H
  obtain ⟨t138, A30, H⟩ := H
  replace H : (if t138 = true then ((roll_Withdraw.f a0_2 a0_3 a0_4 a0_5 a0_6 a0_7 a0_8 a0_9 a1).bind fun bt139 => (some (a0_0, a0_1, bt139.1, bt139.2.1, bt139.2.2.1, bt139.2.2.2.1, bt139.2.2.2.2.1, bt139.2.2.2.2.2.1, bt139.2.2.2.2.2.2.1, bt139.2.2.2.2.2.2.2.1, a0_10))) else (some (a0_0, a0_1, a0_2, a0_3, a0_4, a0_5, a0_6, a0_7, a0_8, a0_9, a0_10))) = some (r1, r2, r3, r4, r5, r6, r7, r8, r9, r10, r11) := H
  have A3 := Aside0.mk A30
  clear A30
  by_cases c4 : t138 = true
  · subst c4
    have H1 : ((roll_Withdraw.f a0_2 a0_3 a0_4 a0_5 a0_6 a0_7 a0_8 a0_9 a1).bind fun bt139 => (some (a0_0, a0_1, bt139.1, bt139.2.1, bt139.2.2.1, bt139.2.2.2.1, bt139.2.2.2.2.1, bt139.2.2.2.2.2.1, bt139.2.2.2.2.2.2.1, bt139.2.2.2.2.2.2.2.1, a0_10))) = some (r1, r2, r3, r4, r5, r6, r7, r8, r9, r10, r11) := by rw [if_pos rfl] at H; exact H
    clear H
    have H := H1
    clear H1
    replace H := Option.bind_eq_some_iff.mp H
    obtain ⟨⟨t139, t140, t141, t142, t143, t144, t145, t146, t147⟩, A50, H⟩ := H
    replace H : (some (a0_0, a0_1, t139, t140, t141, t142, t143, t144, t145, t146, a0_10)) = some (r1, r2, r3, r4, r5, r6, r7, r8, r9, r10, r11) := H
    have A5 := Aside0.mk A50
    clear A50
    simp only [Option.some.injEq, Prod.mk.injEq] at H
    obtain ⟨rfl, rfl, rfl, rfl, rfl, rfl, rfl, rfl, rfl, rfl, rfl⟩ := H
    go_enter Tryd.func39, Tryd.ntmps39
    go_wp2_with (first | ((with_reducible refine gate_dst (N := 2) rfl ?_); refine box_event ?hg (N := 2) ?hd (cs := #[.bool a0_0, .int .i64 a0_1, .int .u64 a0_2, .int .u64 a0_3, .int .u64 a0_4, .int .u64 a0_5, .int .u64 a0_6, .int .u64 a0_7, .int .u64 a0_8, .int .u64 a0_9, .int .i64 a0_10]) (t := 51) ?hr ?_; (case hd => rfl); (case hg => rfl); (case hr => first | (go_simp; done) | (go_simp; rfl)); intro gb136 hg w6 hbox hb; have BK136 := Aside0.mk (hbox); have GW136 := Aside0.mk ((by rw [hg]; exact (below_size (by exact HB.out)) : w.heap.size ≤ gb136)); have GE136 := Aside0.mk ((by rw [hg]; exact (below_size (by exact HB.out)) : w.heap.size ≤ gb136)); replace HB := Aside0.mk (below_step (by exact HB.out) hb); clear hb hbox hg) | ((with_reducible refine gate_dst (N := 4) rfl ?_); refine box_event ?hg (N := 4) ?hd (cs := #[.bool false, .int .i64 0, .int .u64 0, .int .u64 0, .int .u64 0, .int .u64 0, .int .u64 0, .int .u64 0, .int .u64 0, .int .u64 0, .int .i64 0]) (t := 51) ?hr ?_; (case hd => rfl); (case hg => rfl); (case hr => first | (go_simp; done) | (go_simp; rfl)); intro gb137 hg w7 hbox hb; have BK137 := Aside0.mk (hbox); have GW137 := Aside0.mk ((by rw [hg]; exact (below_size (by exact HB.out)) : w.heap.size ≤ gb137)); have GE137 := Aside0.mk ((by rw [hg]; exact (below_size (by exact HB.out)) : w.heap.size ≤ gb137)); replace HB := Aside0.mk (below_step (by exact HB.out) hb); have NB136_137 := Aside0.mk ((by rw [hg]; exact Nat.ne_of_lt (blk_lt BK136.out) : gb136 ≠ gb137)); have NB137_136 := Aside0.mk ((by rw [hg]; exact Nat.ne_of_gt (blk_lt BK136.out) : gb137 ≠ gb136)); replace BK136 := Aside0.mk (blk_below BK136.out hb); clear hb hbox hg; have hnb8 := NB136_137.out; have hnc8 := NB137_136.out; have hcz9_0 : w7.cell? ⟨gb136, 0, none⟩ = some (.bool a0_0) := (blk_cell BK136.out 0).trans rfl; have hcz9_1 : w7.cell? ⟨gb136, 1, none⟩ = some (.int .i64 a0_1) := (blk_cell BK136.out 1).trans rfl; have hcz9_2 : w7.cell? ⟨gb136, 2, none⟩ = some (.int .u64 a0_2) := (blk_cell BK136.out 2).trans rfl; have hcz9_3 : w7.cell? ⟨gb136, 3, none⟩ = some (.int .u64 a0_3) := (blk_cell BK136.out 3).trans rfl; have hcz9_4 : w7.cell? ⟨gb136, 4, none⟩ = some (.int .u64 a0_4) := (blk_cell BK136.out 4).trans rfl; have hcz9_5 : w7.cell? ⟨gb136, 5, none⟩ = some (.int .u64 a0_5) := (blk_cell BK136.out 5).trans rfl; have hcz9_6 : w7.cell? ⟨gb136, 6, none⟩ = some (.int .u64 a0_6) := (blk_cell BK136.out 6).trans rfl; have hcz9_7 : w7.cell? ⟨gb136, 7, none⟩ = some (.int .u64 a0_7) := (blk_cell BK136.out 7).trans rfl; have hcz9_8 : w7.cell? ⟨gb136, 8, none⟩ = some (.int .u64 a0_8) := (blk_cell BK136.out 8).trans rfl; have hcz9_9 : w7.cell? ⟨gb136, 9, none⟩ = some (.int .u64 a0_9) := (blk_cell BK136.out 9).trans rfl; have hcz9_10 : w7.cell? ⟨gb136, 10, none⟩ = some (.int .i64 a0_10) := (blk_cell BK136.out 10).trans rfl; have hfz9_0 := blk_frozen BK136.out 0; have hfz9_1 := blk_frozen BK136.out 1; have hfz9_2 := blk_frozen BK136.out 2; have hfz9_3 := blk_frozen BK136.out 3; have hfz9_4 := blk_frozen BK136.out 4; have hfz9_5 := blk_frozen BK136.out 5; have hfz9_6 := blk_frozen BK136.out 6; have hfz9_7 := blk_frozen BK136.out 7; have hfz9_8 := blk_frozen BK136.out 8; have hfz9_9 := blk_frozen BK136.out 9; have hfz9_10 := blk_frozen BK136.out 10) | ((with_reducible refine gate_callee (f := 41) rfl ?_); refine goesL_ (some 6) rfl rfl Tryd.func41 (by kernel_rfl) rfl #[.agg #[.bool a0_0, .int .i64 a0_1, .int .u64 a0_2, .int .u64 a0_3, .int .u64 a0_4, .int .u64 a0_5, .int .u64 a0_6, .int .u64 a0_7, .int .u64 a0_8, .int .u64 a0_9, .int .i64 a0_10]] rfl (by (try simp only [List.map_toArray, List.map_cons, List.map_nil]); first | done | rfl | (simp only [List.length_drop, List.length_take]; rfl)) ?_; (with_reducible refine (barrier_Fine.calls a0_0 a0_1 a0_2 a0_3 a0_4 a0_5 a0_6 a0_7 a0_8 a0_9 a0_10 true _ ?side1 A3.out).mono ?_); (case side1 => exact Go.Proofs.YtdaionnpgcdkdaaDoor.GLW.below hG (by exact HB.out)); rintro e w10 ⟨rfl, hb⟩; refine ⟨_, rfl, ?_⟩; replace BK136 := Aside0.mk (blk_below BK136.out hb); replace BK137 := Aside0.mk (blk_below BK137.out hb); replace HB := Aside0.mk (below_step (by exact HB.out) hb); (try clear hb); (try clear hb2); (try clear hk); (try clear hi); have hcz11_0 : w10.cell? ⟨gb136, 0, none⟩ = some (.bool a0_0) := (blk_cell BK136.out 0).trans rfl; have hcz11_1 : w10.cell? ⟨gb136, 1, none⟩ = some (.int .i64 a0_1) := (blk_cell BK136.out 1).trans rfl; have hcz11_2 : w10.cell? ⟨gb136, 2, none⟩ = some (.int .u64 a0_2) := (blk_cell BK136.out 2).trans rfl; have hcz11_3 : w10.cell? ⟨gb136, 3, none⟩ = some (.int .u64 a0_3) := (blk_cell BK136.out 3).trans rfl; have hcz11_4 : w10.cell? ⟨gb136, 4, none⟩ = some (.int .u64 a0_4) := (blk_cell BK136.out 4).trans rfl; have hcz11_5 : w10.cell? ⟨gb136, 5, none⟩ = some (.int .u64 a0_5) := (blk_cell BK136.out 5).trans rfl; have hcz11_6 : w10.cell? ⟨gb136, 6, none⟩ = some (.int .u64 a0_6) := (blk_cell BK136.out 6).trans rfl; have hcz11_7 : w10.cell? ⟨gb136, 7, none⟩ = some (.int .u64 a0_7) := (blk_cell BK136.out 7).trans rfl; have hcz11_8 : w10.cell? ⟨gb136, 8, none⟩ = some (.int .u64 a0_8) := (blk_cell BK136.out 8).trans rfl; have hcz11_9 : w10.cell? ⟨gb136, 9, none⟩ = some (.int .u64 a0_9) := (blk_cell BK136.out 9).trans rfl; have hcz11_10 : w10.cell? ⟨gb136, 10, none⟩ = some (.int .i64 a0_10) := (blk_cell BK136.out 10).trans rfl; have hfz11_0 := blk_frozen BK136.out 0; have hfz11_1 := blk_frozen BK136.out 1; have hfz11_2 := blk_frozen BK136.out 2; have hfz11_3 := blk_frozen BK136.out 3; have hfz11_4 := blk_frozen BK136.out 4; have hfz11_5 := blk_frozen BK136.out 5; have hfz11_6 := blk_frozen BK136.out 6; have hfz11_7 := blk_frozen BK136.out 7; have hfz11_8 := blk_frozen BK136.out 8; have hfz11_9 := blk_frozen BK136.out 9; have hfz11_10 := blk_frozen BK136.out 10) | ((with_reducible refine gate_callee (f := 15) rfl ?_); refine goesL_ (some 11) rfl rfl Tryd.func15 (by kernel_rfl) rfl #[.agg #[.int .u64 a0_2, .int .u64 a0_3, .int .u64 a0_4, .int .u64 a0_5, .int .u64 a0_6, .int .u64 a0_7, .int .u64 a0_8, .int .u64 a0_9], .int .i64 a1] rfl (by (try simp only [List.map_toArray, List.map_cons, List.map_nil]); first | done | rfl | (simp only [List.length_drop, List.length_take]; rfl)) ?_; (with_reducible refine (roll_Withdraw.calls a0_2 a0_3 a0_4 a0_5 a0_6 a0_7 a0_8 a0_9 a1 t139 t140 t141 t142 t143 t144 t145 t146 t147 _ ?side1 A5.out).mono ?_); (case side1 => exact Go.Proofs.YtdaionnpgcdkdaaDoor.GLW.below hG (by exact HB.out)); rintro e w12 ⟨rfl, hb⟩; refine ⟨_, rfl, ?_⟩; replace BK136 := Aside0.mk (blk_below BK136.out hb); replace BK137 := Aside0.mk (blk_below BK137.out hb); replace HB := Aside0.mk (below_step (by exact HB.out) hb); (try clear hb); (try clear hb2); (try clear hk); (try clear hi); have hcz13_0 : w12.cell? ⟨gb136, 0, none⟩ = some (.bool a0_0) := (blk_cell BK136.out 0).trans rfl; have hcz13_1 : w12.cell? ⟨gb136, 1, none⟩ = some (.int .i64 a0_1) := (blk_cell BK136.out 1).trans rfl; have hcz13_2 : w12.cell? ⟨gb136, 2, none⟩ = some (.int .u64 a0_2) := (blk_cell BK136.out 2).trans rfl; have hcz13_3 : w12.cell? ⟨gb136, 3, none⟩ = some (.int .u64 a0_3) := (blk_cell BK136.out 3).trans rfl; have hcz13_4 : w12.cell? ⟨gb136, 4, none⟩ = some (.int .u64 a0_4) := (blk_cell BK136.out 4).trans rfl; have hcz13_5 : w12.cell? ⟨gb136, 5, none⟩ = some (.int .u64 a0_5) := (blk_cell BK136.out 5).trans rfl; have hcz13_6 : w12.cell? ⟨gb136, 6, none⟩ = some (.int .u64 a0_6) := (blk_cell BK136.out 6).trans rfl; have hcz13_7 : w12.cell? ⟨gb136, 7, none⟩ = some (.int .u64 a0_7) := (blk_cell BK136.out 7).trans rfl; have hcz13_8 : w12.cell? ⟨gb136, 8, none⟩ = some (.int .u64 a0_8) := (blk_cell BK136.out 8).trans rfl; have hcz13_9 : w12.cell? ⟨gb136, 9, none⟩ = some (.int .u64 a0_9) := (blk_cell BK136.out 9).trans rfl; have hcz13_10 : w12.cell? ⟨gb136, 10, none⟩ = some (.int .i64 a0_10) := (blk_cell BK136.out 10).trans rfl; have hfz13_0 := blk_frozen BK136.out 0; have hfz13_1 := blk_frozen BK136.out 1; have hfz13_2 := blk_frozen BK136.out 2; have hfz13_3 := blk_frozen BK136.out 3; have hfz13_4 := blk_frozen BK136.out 4; have hfz13_5 := blk_frozen BK136.out 5; have hfz13_6 := blk_frozen BK136.out 6; have hfz13_7 := blk_frozen BK136.out 7; have hfz13_8 := blk_frozen BK136.out 8; have hfz13_9 := blk_frozen BK136.out 9; have hfz13_10 := blk_frozen BK136.out 10; have hcz14_0 : w12.cell? ⟨gb137, 0, none⟩ = some (.bool false) := (blk_cell BK137.out 0).trans rfl; have hcz14_1 : w12.cell? ⟨gb137, 1, none⟩ = some (.int .i64 0) := (blk_cell BK137.out 1).trans rfl; have hcz14_2 : w12.cell? ⟨gb137, 2, none⟩ = some (.int .u64 0) := (blk_cell BK137.out 2).trans rfl; have hcz14_3 : w12.cell? ⟨gb137, 3, none⟩ = some (.int .u64 0) := (blk_cell BK137.out 3).trans rfl; have hcz14_4 : w12.cell? ⟨gb137, 4, none⟩ = some (.int .u64 0) := (blk_cell BK137.out 4).trans rfl; have hcz14_5 : w12.cell? ⟨gb137, 5, none⟩ = some (.int .u64 0) := (blk_cell BK137.out 5).trans rfl; have hcz14_6 : w12.cell? ⟨gb137, 6, none⟩ = some (.int .u64 0) := (blk_cell BK137.out 6).trans rfl; have hcz14_7 : w12.cell? ⟨gb137, 7, none⟩ = some (.int .u64 0) := (blk_cell BK137.out 7).trans rfl; have hcz14_8 : w12.cell? ⟨gb137, 8, none⟩ = some (.int .u64 0) := (blk_cell BK137.out 8).trans rfl; have hcz14_9 : w12.cell? ⟨gb137, 9, none⟩ = some (.int .u64 0) := (blk_cell BK137.out 9).trans rfl; have hcz14_10 : w12.cell? ⟨gb137, 10, none⟩ = some (.int .i64 0) := (blk_cell BK137.out 10).trans rfl; have hfz14_0 := blk_frozen BK137.out 0; have hfz14_1 := blk_frozen BK137.out 1; have hfz14_2 := blk_frozen BK137.out 2; have hfz14_3 := blk_frozen BK137.out 3; have hfz14_4 := blk_frozen BK137.out 4; have hfz14_5 := blk_frozen BK137.out 5; have hfz14_6 := blk_frozen BK137.out 6; have hfz14_7 := blk_frozen BK137.out 7; have hfz14_8 := blk_frozen BK137.out 8; have hfz14_9 := blk_frozen BK137.out 9; have hfz14_10 := blk_frozen BK137.out 10))
    refine bodyPost_ret (results_cell_row rfl _ _ gb137 51 #[.bool a0_0, .int .i64 a0_1, .int .u64 t139, .int .u64 t140, .int .u64 t141, .int .u64 t142, .int .u64 t143, .int .u64 t144, .int .u64 t145, .int .u64 t146, .int .i64 a0_10] (0, 0) _ rfl (by apply pt51_0_11; (iterate 8 refine blk_far ?_ NB137_136.out _); exact BK137.out) Tryd.underlying51 rfl (by kernel_rfl)) rfl ?_
    exact ⟨by first | rfl | (simp [errW_none, errW_some] <;> rfl) | (simp [*, errW_none, errW_some] <;> rfl), by repeat (first | (with_reducible first | exact HB.out | apply below_alloc | apply pw_below_drewN | apply below_drew1 | refine below_set ?_ GE136.out | refine below_set ?_ GE137.out) | exact HB.out)⟩
  · replace c4 := Bool.eq_false_iff.mpr c4
    subst c4
    have H1 : (some (a0_0, a0_1, a0_2, a0_3, a0_4, a0_5, a0_6, a0_7, a0_8, a0_9, a0_10)) = some (r1, r2, r3, r4, r5, r6, r7, r8, r9, r10, r11) := by rw [if_neg (show ¬ (false = true) by decide)] at H; exact H
    clear H
    have H := H1
    clear H1
    simp only [Option.some.injEq, Prod.mk.injEq] at H
    obtain ⟨rfl, rfl, rfl, rfl, rfl, rfl, rfl, rfl, rfl, rfl, rfl⟩ := H
    go_enter Tryd.func39, Tryd.ntmps39
    go_wp2_with (first | ((with_reducible refine gate_dst (N := 2) rfl ?_); refine box_event ?hg (N := 2) ?hd (cs := #[.bool a0_0, .int .i64 a0_1, .int .u64 a0_2, .int .u64 a0_3, .int .u64 a0_4, .int .u64 a0_5, .int .u64 a0_6, .int .u64 a0_7, .int .u64 a0_8, .int .u64 a0_9, .int .i64 a0_10]) (t := 51) ?hr ?_; (case hd => rfl); (case hg => rfl); (case hr => first | (go_simp; done) | (go_simp; rfl)); intro gb136 hg w15 hbox hb; have BK136 := Aside0.mk (hbox); have GW136 := Aside0.mk ((by rw [hg]; exact (below_size (by exact HB.out)) : w.heap.size ≤ gb136)); have GE136 := Aside0.mk ((by rw [hg]; exact (below_size (by exact HB.out)) : w.heap.size ≤ gb136)); replace HB := Aside0.mk (below_step (by exact HB.out) hb); clear hb hbox hg) | ((with_reducible refine gate_dst (N := 4) rfl ?_); refine box_event ?hg (N := 4) ?hd (cs := #[.bool false, .int .i64 0, .int .u64 0, .int .u64 0, .int .u64 0, .int .u64 0, .int .u64 0, .int .u64 0, .int .u64 0, .int .u64 0, .int .i64 0]) (t := 51) ?hr ?_; (case hd => rfl); (case hg => rfl); (case hr => first | (go_simp; done) | (go_simp; rfl)); intro gb137 hg w16 hbox hb; have BK137 := Aside0.mk (hbox); have GW137 := Aside0.mk ((by rw [hg]; exact (below_size (by exact HB.out)) : w.heap.size ≤ gb137)); have GE137 := Aside0.mk ((by rw [hg]; exact (below_size (by exact HB.out)) : w.heap.size ≤ gb137)); replace HB := Aside0.mk (below_step (by exact HB.out) hb); have NB136_137 := Aside0.mk ((by rw [hg]; exact Nat.ne_of_lt (blk_lt BK136.out) : gb136 ≠ gb137)); have NB137_136 := Aside0.mk ((by rw [hg]; exact Nat.ne_of_gt (blk_lt BK136.out) : gb137 ≠ gb136)); replace BK136 := Aside0.mk (blk_below BK136.out hb); clear hb hbox hg; have hnb17 := NB136_137.out; have hnc17 := NB137_136.out; have hcz18_0 : w16.cell? ⟨gb136, 0, none⟩ = some (.bool a0_0) := (blk_cell BK136.out 0).trans rfl; have hcz18_1 : w16.cell? ⟨gb136, 1, none⟩ = some (.int .i64 a0_1) := (blk_cell BK136.out 1).trans rfl; have hcz18_2 : w16.cell? ⟨gb136, 2, none⟩ = some (.int .u64 a0_2) := (blk_cell BK136.out 2).trans rfl; have hcz18_3 : w16.cell? ⟨gb136, 3, none⟩ = some (.int .u64 a0_3) := (blk_cell BK136.out 3).trans rfl; have hcz18_4 : w16.cell? ⟨gb136, 4, none⟩ = some (.int .u64 a0_4) := (blk_cell BK136.out 4).trans rfl; have hcz18_5 : w16.cell? ⟨gb136, 5, none⟩ = some (.int .u64 a0_5) := (blk_cell BK136.out 5).trans rfl; have hcz18_6 : w16.cell? ⟨gb136, 6, none⟩ = some (.int .u64 a0_6) := (blk_cell BK136.out 6).trans rfl; have hcz18_7 : w16.cell? ⟨gb136, 7, none⟩ = some (.int .u64 a0_7) := (blk_cell BK136.out 7).trans rfl; have hcz18_8 : w16.cell? ⟨gb136, 8, none⟩ = some (.int .u64 a0_8) := (blk_cell BK136.out 8).trans rfl; have hcz18_9 : w16.cell? ⟨gb136, 9, none⟩ = some (.int .u64 a0_9) := (blk_cell BK136.out 9).trans rfl; have hcz18_10 : w16.cell? ⟨gb136, 10, none⟩ = some (.int .i64 a0_10) := (blk_cell BK136.out 10).trans rfl; have hfz18_0 := blk_frozen BK136.out 0; have hfz18_1 := blk_frozen BK136.out 1; have hfz18_2 := blk_frozen BK136.out 2; have hfz18_3 := blk_frozen BK136.out 3; have hfz18_4 := blk_frozen BK136.out 4; have hfz18_5 := blk_frozen BK136.out 5; have hfz18_6 := blk_frozen BK136.out 6; have hfz18_7 := blk_frozen BK136.out 7; have hfz18_8 := blk_frozen BK136.out 8; have hfz18_9 := blk_frozen BK136.out 9; have hfz18_10 := blk_frozen BK136.out 10) | ((with_reducible refine gate_callee (f := 41) rfl ?_); refine goesL_ (some 6) rfl rfl Tryd.func41 (by kernel_rfl) rfl #[.agg #[.bool a0_0, .int .i64 a0_1, .int .u64 a0_2, .int .u64 a0_3, .int .u64 a0_4, .int .u64 a0_5, .int .u64 a0_6, .int .u64 a0_7, .int .u64 a0_8, .int .u64 a0_9, .int .i64 a0_10]] rfl (by (try simp only [List.map_toArray, List.map_cons, List.map_nil]); first | done | rfl | (simp only [List.length_drop, List.length_take]; rfl)) ?_; (with_reducible refine (barrier_Fine.calls a0_0 a0_1 a0_2 a0_3 a0_4 a0_5 a0_6 a0_7 a0_8 a0_9 a0_10 false _ ?side1 A3.out).mono ?_); (case side1 => exact Go.Proofs.YtdaionnpgcdkdaaDoor.GLW.below hG (by exact HB.out)); rintro e w19 ⟨rfl, hb⟩; refine ⟨_, rfl, ?_⟩; replace BK136 := Aside0.mk (blk_below BK136.out hb); replace BK137 := Aside0.mk (blk_below BK137.out hb); replace HB := Aside0.mk (below_step (by exact HB.out) hb); (try clear hb); (try clear hb2); (try clear hk); (try clear hi); have hcz20_0 : w19.cell? ⟨gb136, 0, none⟩ = some (.bool a0_0) := (blk_cell BK136.out 0).trans rfl; have hcz20_1 : w19.cell? ⟨gb136, 1, none⟩ = some (.int .i64 a0_1) := (blk_cell BK136.out 1).trans rfl; have hcz20_2 : w19.cell? ⟨gb136, 2, none⟩ = some (.int .u64 a0_2) := (blk_cell BK136.out 2).trans rfl; have hcz20_3 : w19.cell? ⟨gb136, 3, none⟩ = some (.int .u64 a0_3) := (blk_cell BK136.out 3).trans rfl; have hcz20_4 : w19.cell? ⟨gb136, 4, none⟩ = some (.int .u64 a0_4) := (blk_cell BK136.out 4).trans rfl; have hcz20_5 : w19.cell? ⟨gb136, 5, none⟩ = some (.int .u64 a0_5) := (blk_cell BK136.out 5).trans rfl; have hcz20_6 : w19.cell? ⟨gb136, 6, none⟩ = some (.int .u64 a0_6) := (blk_cell BK136.out 6).trans rfl; have hcz20_7 : w19.cell? ⟨gb136, 7, none⟩ = some (.int .u64 a0_7) := (blk_cell BK136.out 7).trans rfl; have hcz20_8 : w19.cell? ⟨gb136, 8, none⟩ = some (.int .u64 a0_8) := (blk_cell BK136.out 8).trans rfl; have hcz20_9 : w19.cell? ⟨gb136, 9, none⟩ = some (.int .u64 a0_9) := (blk_cell BK136.out 9).trans rfl; have hcz20_10 : w19.cell? ⟨gb136, 10, none⟩ = some (.int .i64 a0_10) := (blk_cell BK136.out 10).trans rfl; have hfz20_0 := blk_frozen BK136.out 0; have hfz20_1 := blk_frozen BK136.out 1; have hfz20_2 := blk_frozen BK136.out 2; have hfz20_3 := blk_frozen BK136.out 3; have hfz20_4 := blk_frozen BK136.out 4; have hfz20_5 := blk_frozen BK136.out 5; have hfz20_6 := blk_frozen BK136.out 6; have hfz20_7 := blk_frozen BK136.out 7; have hfz20_8 := blk_frozen BK136.out 8; have hfz20_9 := blk_frozen BK136.out 9; have hfz20_10 := blk_frozen BK136.out 10; have hcz21_0 : w19.cell? ⟨gb137, 0, none⟩ = some (.bool false) := (blk_cell BK137.out 0).trans rfl; have hcz21_1 : w19.cell? ⟨gb137, 1, none⟩ = some (.int .i64 0) := (blk_cell BK137.out 1).trans rfl; have hcz21_2 : w19.cell? ⟨gb137, 2, none⟩ = some (.int .u64 0) := (blk_cell BK137.out 2).trans rfl; have hcz21_3 : w19.cell? ⟨gb137, 3, none⟩ = some (.int .u64 0) := (blk_cell BK137.out 3).trans rfl; have hcz21_4 : w19.cell? ⟨gb137, 4, none⟩ = some (.int .u64 0) := (blk_cell BK137.out 4).trans rfl; have hcz21_5 : w19.cell? ⟨gb137, 5, none⟩ = some (.int .u64 0) := (blk_cell BK137.out 5).trans rfl; have hcz21_6 : w19.cell? ⟨gb137, 6, none⟩ = some (.int .u64 0) := (blk_cell BK137.out 6).trans rfl; have hcz21_7 : w19.cell? ⟨gb137, 7, none⟩ = some (.int .u64 0) := (blk_cell BK137.out 7).trans rfl; have hcz21_8 : w19.cell? ⟨gb137, 8, none⟩ = some (.int .u64 0) := (blk_cell BK137.out 8).trans rfl; have hcz21_9 : w19.cell? ⟨gb137, 9, none⟩ = some (.int .u64 0) := (blk_cell BK137.out 9).trans rfl; have hcz21_10 : w19.cell? ⟨gb137, 10, none⟩ = some (.int .i64 0) := (blk_cell BK137.out 10).trans rfl; have hfz21_0 := blk_frozen BK137.out 0; have hfz21_1 := blk_frozen BK137.out 1; have hfz21_2 := blk_frozen BK137.out 2; have hfz21_3 := blk_frozen BK137.out 3; have hfz21_4 := blk_frozen BK137.out 4; have hfz21_5 := blk_frozen BK137.out 5; have hfz21_6 := blk_frozen BK137.out 6; have hfz21_7 := blk_frozen BK137.out 7; have hfz21_8 := blk_frozen BK137.out 8; have hfz21_9 := blk_frozen BK137.out 9; have hfz21_10 := blk_frozen BK137.out 10))
    refine bodyPost_ret (results_cell_row rfl _ _ gb137 51 #[.bool a0_0, .int .i64 a0_1, .int .u64 a0_2, .int .u64 a0_3, .int .u64 a0_4, .int .u64 a0_5, .int .u64 a0_6, .int .u64 a0_7, .int .u64 a0_8, .int .u64 a0_9, .int .i64 a0_10] (0, 0) _ rfl (by apply pt51_0_11; exact BK137.out) Tryd.underlying51 rfl (by kernel_rfl)) rfl ?_
    exact ⟨by first | rfl | (simp [errW_none, errW_some] <;> rfl) | (simp [*, errW_none, errW_some] <;> rfl), by repeat (first | (with_reducible first | exact HB.out | apply below_alloc | apply pw_below_drewN | apply below_drew1 | refine below_set ?_ GE136.out | refine below_set ?_ GE137.out) | exact HB.out)⟩

/-! ### bartab_Leave: function 54 -/
def bartab_allM (f : S51 → Option S51) : List S51 → Option (List S51)
  | [] => some []
  | x :: xs => (f x).bind fun y => (bartab_allM f xs).map fun ys => y :: ys
theorem bartab_allM.len (f : S51 → Option S51) : ∀ (l r : List S51), bartab_allM f l = some r → r.length = l.length
  | [], r, h => by obtain rfl := Option.some.inj h; rfl
  | x :: xs, r, h => by
    obtain ⟨y, _, h⟩ := Option.bind_eq_some_iff.1 h
    obtain ⟨ys, hy, rfl⟩ := Option.map_eq_some_iff.1 h
    simp [bartab_allM.len f xs ys hy]
def bartab_leave1 (a1 : Int) (x : S51) : Option S51 := (barrier_Withdraw.f x.f0.f0 x.f0.f1 x.f1.f0.f0 x.f1.f0.f1 x.f1.f0.f2 x.f1.f0.f3 x.f1.f1.f0 x.f1.f1.f1 x.f1.f1.f2 x.f1.f1.f3 x.f2 a1).map fun t => ⟨⟨t.1, t.2.1⟩, ⟨⟨t.2.2.1, t.2.2.2.1, t.2.2.2.2.1, t.2.2.2.2.2.1⟩, ⟨t.2.2.2.2.2.2.1, t.2.2.2.2.2.2.2.1, t.2.2.2.2.2.2.2.2.1, t.2.2.2.2.2.2.2.2.2.1⟩⟩, t.2.2.2.2.2.2.2.2.2.2⟩

def bartab_Leave.f (l0 : List (S51)) (a1 : Int) : Option ((List (S51))) := if l0.length < 1599289640401 then bartab_allM (bartab_leave1 a1) l0 else none
theorem bartab_Leave.calls (A0 : Option Addr) (c0 : Nat) (l0 : List (S51)) (a1 : Int) (r : List (S51)) (w : World) (hG : Go.Proofs.YtdaionnpgcdkdaaDoor.GLW w) (hr0 : Kd.C k51 w A0 l0.length l0) (hc0 : l0.length ≤ c0) (h : bartab_Leave.f l0 a1 = some r) :
    Calls Tryd.prog 54 #[.slice A0 l0.length c0, .int .i64 a1] w fun e w' => ∃ v0_ : Value, e = .returned (v0_) ∧ Kd.R k51 51 w' w.heap.size (fun _ => True) v0_ r ∧ Below w.heap.size w w' := by
  unfold bartab_Leave.f at h
  split at h
  case isFalse => cases h
  rename_i hlim
  have HG := Aside0.mk hG
  have HR := Aside0.mk hr0
  have HL := Aside0.mk hlim
  have H' := Aside0.mk h
  clear hG hr0 hlim h
  go_enter Tryd.func54, Tryd.ntmps54
  go_wp2_with fail
  refine (twin_any A0 c0 l0 _ HR.out HL.out).mono ?_
  rintro e w1 ⟨g, cap, rest, rfl, hg, hc, hm, hl, hgg, hb⟩
  have HC := Aside0.mk hc
  have HM := Aside0.mk hm
  have HLL := Aside0.mk hl
  have HGG := Aside0.mk hgg
  have HB1 := Aside0.mk hb
  have HGE := Aside0.mk hg
  clear hc hm hl hgg hb hg
  go_wp2_with fail
  go_loopg [12] l0.length (fun kq v12 w' => ∃ (done todo : List S51) (x : Int), v12 = .int .i64 x ∧ Aside0 (x = (done.length : Int)) ∧ Aside0 (kq = todo.length) ∧ Aside0 (done.length + todo.length = l0.length) ∧ Aside0 (∃ ys, bartab_allM (bartab_leave1 a1) todo = some ys ∧ r = done ++ ys) ∧ Aside0 (w'.heap[g]? = some (.cells ((done ++ todo).flatMap enc51 ++ rest).toArray 51 (0, 0))) ∧ Aside0 (Below w.heap.size w w'))
  case atStart => exact ⟨[], l0, 0, rfl, ⟨rfl⟩, ⟨rfl⟩, ⟨by simp⟩, ⟨⟨_, H'.out, rfl⟩⟩, HGG, HB1⟩
  case round =>
    clear H'
    obtain ⟨done, todo, x, rfl, HX, HK, HN, HA, HGB, HB⟩ := hrel
    cases todo with
    | nil =>
      have c1b : decide (x < (l0.length : Int)) = false := decide_eq_false (by have := HX.out; have := HN.out; simp at this; omega)
      have HD := Aside0.mk (show done.length = l0.length by have := HN.out; simpa using this)
      go_wp2_with fail
      go_ret
      obtain ⟨ys, ha, hr⟩ := HA.out
      obtain rfl := Option.some.inj ha
      have hg2 := HGB.out
      rw [List.append_nil] at hr hg2
      subst hr
      have hlr := HD.out
      have hrow := twin_row (W := _) (base := w.heap.size) (g := g) (cap := cap) (l := r) (rest := rest) HGE.out (by rw [hlr]; exact HC.out) HM.out (by
        rw [List.length_append, Go.Proofs.YtdaionnpgcdkdaaDoor.flat_len flat51, hlr, ← Go.Proofs.YtdaionnpgcdkdaaDoor.flat_len flat51 l0, ← List.length_append]
        exact HLL.out) hg2
      rw [hlr] at hrow
      exact ⟨_, rfl, hrow, HB.out⟩
    | cons t ts =>
      obtain ⟨ys, ha, hr⟩ := HA.out
      obtain ⟨y, hy, ha⟩ := Option.bind_eq_some_iff.1 ha
      obtain ⟨ys', hys, rfl⟩ := Option.map_eq_some_iff.1 ha
      have HXN := HX.out
      have HNN : done.length + (ts.length + 1) = l0.length := HN.out
      have hxn : x.toNat = done.length := by omega
      have p0 : (0 ≤ x) = True := eq_true (by omega)
      have p1 : (x < (l0.length : Int)) = True := eq_true (by omega)
      have c1b : decide (x < (l0.length : Int)) = true := decide_eq_true (by omega)
      have cc : ∀ (W : World), W.heap[g]? = some (.cells ((done ++ t :: ts).flatMap enc51 ++ rest).toArray 51 (0, 0)) → ∀ j v, j < 11 → (enc51 t)[j]? = some v → W.cell? ⟨g, x.toNat * 11 + j, none⟩ = some v := fun W hW j v hj hv => by
        rw [Go.Proofs.YtdaionnpgcdkdaaDoor.Wl.blk_cell hW, hxn, List.getElem?_toArray]
        exact (Go.Proofs.YtdaionnpgcdkdaaDoor.flat_get flat51 done ts t rest j hj).trans hv
      have HCC := Aside0.mk cc
      have lt0 := Go.Proofs.YtdaionnpgcdkdaaDoor.Wl.blk_lt HGB.out
      have g_0 : World.cell? _ ⟨g, x.toNat * 11, none⟩ = some _ := HCC.out _ HGB.out 0 _ (by decide) rfl; have g_f0 := Go.Proofs.YtdaionnpgcdkdaaDoor.Wl.blk_frozen HGB.out (x.toNat * 11)
      have g_1 := HCC.out _ HGB.out 1 _ (by decide) rfl; have g_f1 := Go.Proofs.YtdaionnpgcdkdaaDoor.Wl.blk_frozen HGB.out (x.toNat * 11 + 1)
      have g_2 := HCC.out _ HGB.out 2 _ (by decide) rfl; have g_f2 := Go.Proofs.YtdaionnpgcdkdaaDoor.Wl.blk_frozen HGB.out (x.toNat * 11 + 2)
      have g_3 := HCC.out _ HGB.out 3 _ (by decide) rfl; have g_f3 := Go.Proofs.YtdaionnpgcdkdaaDoor.Wl.blk_frozen HGB.out (x.toNat * 11 + 3)
      have g_4 := HCC.out _ HGB.out 4 _ (by decide) rfl; have g_f4 := Go.Proofs.YtdaionnpgcdkdaaDoor.Wl.blk_frozen HGB.out (x.toNat * 11 + 4)
      have g_5 := HCC.out _ HGB.out 5 _ (by decide) rfl; have g_f5 := Go.Proofs.YtdaionnpgcdkdaaDoor.Wl.blk_frozen HGB.out (x.toNat * 11 + 5)
      have g_6 := HCC.out _ HGB.out 6 _ (by decide) rfl; have g_f6 := Go.Proofs.YtdaionnpgcdkdaaDoor.Wl.blk_frozen HGB.out (x.toNat * 11 + 6)
      have g_7 := HCC.out _ HGB.out 7 _ (by decide) rfl; have g_f7 := Go.Proofs.YtdaionnpgcdkdaaDoor.Wl.blk_frozen HGB.out (x.toNat * 11 + 7)
      have g_8 := HCC.out _ HGB.out 8 _ (by decide) rfl; have g_f8 := Go.Proofs.YtdaionnpgcdkdaaDoor.Wl.blk_frozen HGB.out (x.toNat * 11 + 8)
      have g_9 := HCC.out _ HGB.out 9 _ (by decide) rfl; have g_f9 := Go.Proofs.YtdaionnpgcdkdaaDoor.Wl.blk_frozen HGB.out (x.toNat * 11 + 9)
      have g_10 := HCC.out _ HGB.out 10 _ (by decide) rfl; have g_f10 := Go.Proofs.YtdaionnpgcdkdaaDoor.Wl.blk_frozen HGB.out (x.toNat * 11 + 10)
      have HH : Aside0 (bartab_allM (bartab_leave1 a1) ts = some ys' ∧ r = (done ++ [y]) ++ ys') := ⟨hys, by rw [hr]; simp⟩
      have HNX := Aside0.mk hxn
      have HN2 := Aside0.mk HNN
      clear cc ha hys hr HXN HNN hxn
      obtain ⟨⟨y0, y1, y2, y3, y4, y5, y6, y7, y8, y9, y10⟩, hw, rfl⟩ := Option.map_eq_some_iff.1 hy
      have HWD := Aside0.mk hw
      clear hw hy
      go_wp2_with fail
      refine (barrier_Withdraw.calls t.f0.f0 t.f0.f1 t.f1.f0.f0 t.f1.f0.f1 t.f1.f0.f2 t.f1.f0.f3 t.f1.f1.f0 t.f1.f1.f1 t.f1.f1.f2 t.f1.f1.f3 t.f2 a1 y0 y1 y2 y3 y4 y5 y6 y7 y8 y9 y10 _ (HG.out.below (Go.Proofs.YtdaionnpgcdkdaaDoor.Wl.bl_alloc HB.out _)) HWD.out).mono ?_
      rintro e w2 ⟨rfl, hb2⟩
      have HB2 := Aside0.mk (Go.Proofs.YtdaionnpgcdkdaaDoor.Wl.bl_trans (Go.Proofs.YtdaionnpgcdkdaaDoor.Wl.bl_alloc HB.out _) hb2)
      have HG2 := Aside0.mk (Go.Proofs.YtdaionnpgcdkdaaDoor.Wl.blk_after (Go.Proofs.YtdaionnpgcdkdaaDoor.Wl.blk_alloc HGB.out _) hb2)
      have lt2 := Go.Proofs.YtdaionnpgcdkdaaDoor.Wl.blk_lt HG2.out
      clear hb2
      have h_0 : World.cell? _ ⟨g, x.toNat * 11, none⟩ = some _ := HCC.out _ HG2.out 0 _ (by decide) rfl; have h_f0 := Go.Proofs.YtdaionnpgcdkdaaDoor.Wl.blk_frozen HG2.out (x.toNat * 11)
      have h_1 := HCC.out _ HG2.out 1 _ (by decide) rfl; have h_f1 := Go.Proofs.YtdaionnpgcdkdaaDoor.Wl.blk_frozen HG2.out (x.toNat * 11 + 1)
      have h_2 := HCC.out _ HG2.out 2 _ (by decide) rfl; have h_f2 := Go.Proofs.YtdaionnpgcdkdaaDoor.Wl.blk_frozen HG2.out (x.toNat * 11 + 2)
      have h_3 := HCC.out _ HG2.out 3 _ (by decide) rfl; have h_f3 := Go.Proofs.YtdaionnpgcdkdaaDoor.Wl.blk_frozen HG2.out (x.toNat * 11 + 3)
      have h_4 := HCC.out _ HG2.out 4 _ (by decide) rfl; have h_f4 := Go.Proofs.YtdaionnpgcdkdaaDoor.Wl.blk_frozen HG2.out (x.toNat * 11 + 4)
      have h_5 := HCC.out _ HG2.out 5 _ (by decide) rfl; have h_f5 := Go.Proofs.YtdaionnpgcdkdaaDoor.Wl.blk_frozen HG2.out (x.toNat * 11 + 5)
      have h_6 := HCC.out _ HG2.out 6 _ (by decide) rfl; have h_f6 := Go.Proofs.YtdaionnpgcdkdaaDoor.Wl.blk_frozen HG2.out (x.toNat * 11 + 6)
      have h_7 := HCC.out _ HG2.out 7 _ (by decide) rfl; have h_f7 := Go.Proofs.YtdaionnpgcdkdaaDoor.Wl.blk_frozen HG2.out (x.toNat * 11 + 7)
      have h_8 := HCC.out _ HG2.out 8 _ (by decide) rfl; have h_f8 := Go.Proofs.YtdaionnpgcdkdaaDoor.Wl.blk_frozen HG2.out (x.toNat * 11 + 8)
      have h_9 := HCC.out _ HG2.out 9 _ (by decide) rfl; have h_f9 := Go.Proofs.YtdaionnpgcdkdaaDoor.Wl.blk_frozen HG2.out (x.toNat * 11 + 9)
      have h_10 := HCC.out _ HG2.out 10 _ (by decide) rfl; have h_f10 := Go.Proofs.YtdaionnpgcdkdaaDoor.Wl.blk_frozen HG2.out (x.toNat * 11 + 10)
      go_wp2_with fail
      have hst := Go.Proofs.YtdaionnpgcdkdaaDoor.flat_store flat51 (done ++ t :: ts) x.toNat (by have := HNX.out; simp; omega) ⟨⟨y0, y1⟩, ⟨⟨y2, y3, y4, y5⟩, ⟨y6, y7, y8, y9⟩⟩, y10⟩ rest HG2.out
      have hbe := Go.Proofs.YtdaionnpgcdkdaaDoor.setAll_below HGE.out (enc51 ⟨⟨y0, y1⟩, ⟨⟨y2, y3, y4, y5⟩, ⟨y6, y7, y8, y9⟩⟩, y10⟩) w2 (x.toNat * 11) HB2.out
      have hse : (done ++ t :: ts).set x.toNat (⟨⟨y0, y1⟩, ⟨⟨y2, y3, y4, y5⟩, ⟨y6, y7, y8, y9⟩⟩, y10⟩ : S51) = done ++ [⟨⟨y0, y1⟩, ⟨⟨y2, y3, y4, y5⟩, ⟨y6, y7, y8, y9⟩⟩, y10⟩] ++ ts := by rw [HNX.out]; simp
      rw [hse] at hst
      have HST := Aside0.mk hst
      have HBE := Aside0.mk hbe
      clear hst hbe hse
      go_roundg ts.length
      case measure => have := HK.out; simp at this; omega
      case rel => exact ⟨done ++ [⟨⟨y0, y1⟩, ⟨⟨y2, y3, y4, y5⟩, ⟨y6, y7, y8, y9⟩⟩, y10⟩], ts, wrap64 (x + 1), (by first | rfl | (simp; done) | (simp [*]; done)), ⟨by have := HX.out; have := HN2.out; have := HL.out; rw [List.length_append]; simp [wrap64]; omega⟩, ⟨rfl⟩, ⟨by have := HN2.out; simp; omega⟩, ⟨⟨_, HH.out⟩⟩, ⟨by exact HST.out⟩, ⟨by exact HBE.out⟩⟩



/-! ### roll_Resign: function 13 -/
def roll_Resign.f (a0_0 : Int) (a0_1 : Int) (a0_2 : Int) (a0_3 : Int) (a0_4 : Int) (a0_5 : Int) (a0_6 : Int) (a0_7 : Int) (a1 : Int) : Option (Int × Int × Int × Int × Int × Int × Int × Int × Int) := if Go.Proofs.YtdaionnpgcdkdaaDoor.okS a0_0 a0_1 a0_2 a0_3 && Go.Proofs.YtdaionnpgcdkdaaDoor.okS a0_4 a0_5 a0_6 a0_7 then some (Go.Proofs.YtdaionnpgcdkdaaDoor.tupR (Go.Proofs.YtdaionnpgcdkdaaDoor.resignR (Go.Proofs.YtdaionnpgcdkdaaDoor.natS a0_0 a0_1 a0_2 a0_3) (Go.Proofs.YtdaionnpgcdkdaaDoor.natS a0_4 a0_5 a0_6 a0_7) a1)) else none
theorem roll_Resign.calls (a0_0 : Int) (a0_1 : Int) (a0_2 : Int) (a0_3 : Int) (a0_4 : Int) (a0_5 : Int) (a0_6 : Int) (a0_7 : Int) (a1 : Int) (r1 : Int) (r2 : Int) (r3 : Int) (r4 : Int) (r5 : Int) (r6 : Int) (r7 : Int) (r8 : Int) (r9 : Int) (w : World) (hG : Go.Proofs.YtdaionnpgcdkdaaDoor.GLW w) (h : roll_Resign.f a0_0 a0_1 a0_2 a0_3 a0_4 a0_5 a0_6 a0_7 a1 = some (r1, r2, r3, r4, r5, r6, r7, r8, r9)) :
    Calls Tryd.prog 13 #[.agg #[.int .u64 a0_0, .int .u64 a0_1, .int .u64 a0_2, .int .u64 a0_3, .int .u64 a0_4, .int .u64 a0_5, .int .u64 a0_6, .int .u64 a0_7], .int .i64 a1] w fun e w' => e = .returned (.tuple #[.agg #[.int .u64 r1, .int .u64 r2, .int .u64 r3, .int .u64 r4, .int .u64 r5, .int .u64 r6, .int .u64 r7, .int .u64 r8], .int .i64 r9]) ∧ Below w.heap.size w w' := by
  unfold roll_Resign.f at h
  split at h
  · rename_i hk
    rw [Bool.and_eq_true] at hk
    simp only [Go.Proofs.YtdaionnpgcdkdaaDoor.tupR, Option.some.injEq, Prod.mk.injEq] at h
    obtain ⟨rfl, rfl, rfl, rfl, rfl, rfl, rfl, rfl, rfl⟩ := h
    exact Go.Proofs.YtdaionnpgcdkdaaDoor.resign_words hk.1 hk.2 a1 w hG.out
  · cases h

/-! ### barrier_Resign: function 35 -/
def barrier_Resign.f (a0_0 : Bool) (a0_1 : Int) (a0_2 : Int) (a0_3 : Int) (a0_4 : Int) (a0_5 : Int) (a0_6 : Int) (a0_7 : Int) (a0_8 : Int) (a0_9 : Int) (a0_10 : Int) (a1 : Int) : Option (Bool × Int × Int × Int × Int × Int × Int × Int × Int × Int × Int × Int) := (barrier_Fine.f a0_0 a0_1 a0_2 a0_3 a0_4 a0_5 a0_6 a0_7 a0_8 a0_9 a0_10).bind fun t150 => (if t150 = true then ((roll_Resign.f a0_2 a0_3 a0_4 a0_5 a0_6 a0_7 a0_8 a0_9 a1).bind fun bt151 => ((barrier_Bar_with.f a0_0 a0_1 a0_2 a0_3 a0_4 a0_5 a0_6 a0_7 a0_8 a0_9 a0_10 bt151.1 bt151.2.1 bt151.2.2.1 bt151.2.2.2.1 bt151.2.2.2.2.1 bt151.2.2.2.2.2.1 bt151.2.2.2.2.2.2.1 bt151.2.2.2.2.2.2.2.1 bt151.2.2.2.2.2.2.2.2).bind fun bt160 => (some (bt160.1, bt160.2.1, bt160.2.2.1, bt160.2.2.2.1, bt160.2.2.2.2.1, bt160.2.2.2.2.2.1, bt160.2.2.2.2.2.2.1, bt160.2.2.2.2.2.2.2.1, bt160.2.2.2.2.2.2.2.2.1, bt160.2.2.2.2.2.2.2.2.2.1, bt160.2.2.2.2.2.2.2.2.2.2.1, bt160.2.2.2.2.2.2.2.2.2.2.2)))) else (some (a0_0, a0_1, a0_2, a0_3, a0_4, a0_5, a0_6, a0_7, a0_8, a0_9, a0_10, 1)))
def barrier_Resign.T3 : Bool × List (List Nat × List Nat) := (true, [([], []), ([], []), ([1], [1]), ([], []), ([2, 3], [2, 3]), ([4], [4]), ([4], [4]), ([0, 5, 6, 4], [0, 5, 6]), ([7], [7]), ([7], [7]), ([8, 7, 0, 1, 2, 3, 4, 5, 6, 7, 8, 9], [8]), ([9, 10, 0, 1, 2, 3, 4, 5, 6, 7, 8, 9, 10], [9])])
def barrier_Resign.B3 : List Nat := [0, 0, 2, 0, 14, 30, 30, 127, 255, 255, 1023, 2047]
theorem barrier_Resign.tab3 : rtab .any (opsOf Tryd.f35 3) = barrier_Resign.T3 := by kernel_rfl
theorem barrier_Resign.bits3 : waitsOk barrier_Resign.T3.2 barrier_Resign.B3 = true := by kernel_rfl
set_option maxHeartbeats 8000000 in
set_option maxRecDepth 100000 in
theorem barrier_Resign.calls (a0_0 : Bool) (a0_1 : Int) (a0_2 : Int) (a0_3 : Int) (a0_4 : Int) (a0_5 : Int) (a0_6 : Int) (a0_7 : Int) (a0_8 : Int) (a0_9 : Int) (a0_10 : Int) (a1 : Int) (r1 : Bool) (r2 : Int) (r3 : Int) (r4 : Int) (r5 : Int) (r6 : Int) (r7 : Int) (r8 : Int) (r9 : Int) (r10 : Int) (r11 : Int) (r12 : Int) (w : World) (hG : Go.Proofs.YtdaionnpgcdkdaaDoor.GLW w) (h : barrier_Resign.f a0_0 a0_1 a0_2 a0_3 a0_4 a0_5 a0_6 a0_7 a0_8 a0_9 a0_10 a1 = some (r1, r2, r3, r4, r5, r6, r7, r8, r9, r10, r11, r12)) :
    Calls Tryd.prog 35 #[.agg #[.bool a0_0, .int .i64 a0_1, .int .u64 a0_2, .int .u64 a0_3, .int .u64 a0_4, .int .u64 a0_5, .int .u64 a0_6, .int .u64 a0_7, .int .u64 a0_8, .int .u64 a0_9, .int .i64 a0_10], .int .i64 a1] w fun e w' => e = .returned (.tuple #[.agg #[.bool r1, .int .i64 r2, .int .u64 r3, .int .u64 r4, .int .u64 r5, .int .u64 r6, .int .u64 r7, .int .u64 r8, .int .u64 r9, .int .u64 r10, .int .i64 r11], .int .i64 r12]) ∧ Below w.heap.size w w' := by
  have hu51 := Tryd.underlying51
  have hu28 := Tryd.underlying28
  have HB := Aside0.mk (Below.refl w.heap.size w)
  have H : ((barrier_Fine.f a0_0 a0_1 a0_2 a0_3 a0_4 a0_5 a0_6 a0_7 a0_8 a0_9 a0_10).bind fun t150 => (if t150 = true then ((roll_Resign.f a0_2 a0_3 a0_4 a0_5 a0_6 a0_7 a0_8 a0_9 a1).bind fun bt151 => ((barrier_Bar_with.f a0_0 a0_1 a0_2 a0_3 a0_4 a0_5 a0_6 a0_7 a0_8 a0_9 a0_10 bt151.1 bt151.2.1 bt151.2.2.1 bt151.2.2.2.1 bt151.2.2.2.2.1 bt151.2.2.2.2.2.1 bt151.2.2.2.2.2.2.1 bt151.2.2.2.2.2.2.2.1 bt151.2.2.2.2.2.2.2.2).bind fun bt160 => (some (bt160.1, bt160.2.1, bt160.2.2.1, bt160.2.2.2.1, bt160.2.2.2.2.1, bt160.2.2.2.2.2.1, bt160.2.2.2.2.2.2.1, bt160.2.2.2.2.2.2.2.1, bt160.2.2.2.2.2.2.2.2.1, bt160.2.2.2.2.2.2.2.2.2.1, bt160.2.2.2.2.2.2.2.2.2.2.1, bt160.2.2.2.2.2.2.2.2.2.2.2)))) else (some (a0_0, a0_1, a0_2, a0_3, a0_4, a0_5, a0_6, a0_7, a0_8, a0_9, a0_10, 1)))) = some (r1, r2, r3, r4, r5, r6, r7, r8, r9, r10, r11, r12) := h
  clear h
  replace H := Option.bind_eq_some_iff.mp H
  obtain ⟨t150, A30, H⟩ := H
  replace H : (if t150 = true then ((roll_Resign.f a0_2 a0_3 a0_4 a0_5 a0_6 a0_7 a0_8 a0_9 a1).bind fun bt151 => ((barrier_Bar_with.f a0_0 a0_1 a0_2 a0_3 a0_4 a0_5 a0_6 a0_7 a0_8 a0_9 a0_10 bt151.1 bt151.2.1 bt151.2.2.1 bt151.2.2.2.1 bt151.2.2.2.2.1 bt151.2.2.2.2.2.1 bt151.2.2.2.2.2.2.1 bt151.2.2.2.2.2.2.2.1 bt151.2.2.2.2.2.2.2.2).bind fun bt160 => (some (bt160.1, bt160.2.1, bt160.2.2.1, bt160.2.2.2.1, bt160.2.2.2.2.1, bt160.2.2.2.2.2.1, bt160.2.2.2.2.2.2.1, bt160.2.2.2.2.2.2.2.1, bt160.2.2.2.2.2.2.2.2.1, bt160.2.2.2.2.2.2.2.2.2.1, bt160.2.2.2.2.2.2.2.2.2.2.1, bt160.2.2.2.2.2.2.2.2.2.2.2)))) else (some (a0_0, a0_1, a0_2, a0_3, a0_4, a0_5, a0_6, a0_7, a0_8, a0_9, a0_10, 1))) = some (r1, r2, r3, r4, r5, r6, r7, r8, r9, r10, r11, r12) := H
  have A3 := Aside0.mk A30
  clear A30
  by_cases c4 : t150 = true
  · subst c4
    have H1 : ((roll_Resign.f a0_2 a0_3 a0_4 a0_5 a0_6 a0_7 a0_8 a0_9 a1).bind fun bt151 => ((barrier_Bar_with.f a0_0 a0_1 a0_2 a0_3 a0_4 a0_5 a0_6 a0_7 a0_8 a0_9 a0_10 bt151.1 bt151.2.1 bt151.2.2.1 bt151.2.2.2.1 bt151.2.2.2.2.1 bt151.2.2.2.2.2.1 bt151.2.2.2.2.2.2.1 bt151.2.2.2.2.2.2.2.1 bt151.2.2.2.2.2.2.2.2).bind fun bt160 => (some (bt160.1, bt160.2.1, bt160.2.2.1, bt160.2.2.2.1, bt160.2.2.2.2.1, bt160.2.2.2.2.2.1, bt160.2.2.2.2.2.2.1, bt160.2.2.2.2.2.2.2.1, bt160.2.2.2.2.2.2.2.2.1, bt160.2.2.2.2.2.2.2.2.2.1, bt160.2.2.2.2.2.2.2.2.2.2.1, bt160.2.2.2.2.2.2.2.2.2.2.2)))) = some (r1, r2, r3, r4, r5, r6, r7, r8, r9, r10, r11, r12) := by rw [if_pos rfl] at H; exact H
    clear H
    have H := H1
    clear H1
    replace H := Option.bind_eq_some_iff.mp H
    obtain ⟨⟨t151, t152, t153, t154, t155, t156, t157, t158, t159⟩, A50, H⟩ := H
    replace H : ((barrier_Bar_with.f a0_0 a0_1 a0_2 a0_3 a0_4 a0_5 a0_6 a0_7 a0_8 a0_9 a0_10 t151 t152 t153 t154 t155 t156 t157 t158 t159).bind fun bt160 => (some (bt160.1, bt160.2.1, bt160.2.2.1, bt160.2.2.2.1, bt160.2.2.2.2.1, bt160.2.2.2.2.2.1, bt160.2.2.2.2.2.2.1, bt160.2.2.2.2.2.2.2.1, bt160.2.2.2.2.2.2.2.2.1, bt160.2.2.2.2.2.2.2.2.2.1, bt160.2.2.2.2.2.2.2.2.2.2.1, bt160.2.2.2.2.2.2.2.2.2.2.2))) = some (r1, r2, r3, r4, r5, r6, r7, r8, r9, r10, r11, r12) := H
    have A5 := Aside0.mk A50
    clear A50
    replace H := Option.bind_eq_some_iff.mp H
    obtain ⟨⟨t160, t161, t162, t163, t164, t165, t166, t167, t168, t169, t170, t171⟩, A60, H⟩ := H
    replace H : (some (t160, t161, t162, t163, t164, t165, t166, t167, t168, t169, t170, t171)) = some (r1, r2, r3, r4, r5, r6, r7, r8, r9, r10, r11, r12) := H
    have A6 := Aside0.mk A60
    clear A60
    simp only [Option.some.injEq, Prod.mk.injEq] at H
    obtain ⟨rfl, rfl, rfl, rfl, rfl, rfl, rfl, rfl, rfl, rfl, rfl, rfl⟩ := H
    go_enter Tryd.func35, Tryd.ntmps35
    try go_wp2_with (first | ((with_reducible refine gate_dst (N := 2) rfl ?_); refine box_event ?hg (N := 2) ?hd (cs := #[.bool a0_0, .int .i64 a0_1, .int .u64 a0_2, .int .u64 a0_3, .int .u64 a0_4, .int .u64 a0_5, .int .u64 a0_6, .int .u64 a0_7, .int .u64 a0_8, .int .u64 a0_9, .int .i64 a0_10]) (t := 51) ?hr ?_; (case hd => rfl); (case hg => rfl); (case hr => first | (go_simp; done) | (go_simp; rfl)); intro gb148 hg w7 hbox hb; have BK148 := Aside0.mk (hbox); have GW148 := Aside0.mk ((by rw [hg]; exact (below_size (by exact HB.out)) : w.heap.size ≤ gb148)); have GE148 := Aside0.mk ((by rw [hg]; exact (below_size (by exact HB.out)) : w.heap.size ≤ gb148)); replace HB := Aside0.mk (below_step (by exact HB.out) hb); clear hb hbox hg) | ((with_reducible refine gate_dst (N := 4) rfl ?_); refine box_event ?hg (N := 4) ?hd (cs := #[.bool false, .int .i64 0, .int .u64 0, .int .u64 0, .int .u64 0, .int .u64 0, .int .u64 0, .int .u64 0, .int .u64 0, .int .u64 0, .int .i64 0]) (t := 51) ?hr ?_; (case hd => rfl); (case hg => rfl); (case hr => first | (go_simp; done) | (go_simp; rfl)); intro gb149 hg w8 hbox hb; have BK149 := Aside0.mk (hbox); have GW149 := Aside0.mk ((by rw [hg]; exact (below_size (by exact HB.out)) : w.heap.size ≤ gb149)); have GE149 := Aside0.mk ((by rw [hg]; exact (below_size (by exact HB.out)) : w.heap.size ≤ gb149)); replace HB := Aside0.mk (below_step (by exact HB.out) hb); have NB148_149 := Aside0.mk ((by rw [hg]; exact Nat.ne_of_lt (blk_lt BK148.out) : gb148 ≠ gb149)); have NB149_148 := Aside0.mk ((by rw [hg]; exact Nat.ne_of_gt (blk_lt BK148.out) : gb149 ≠ gb148)); replace BK148 := Aside0.mk (blk_below BK148.out hb); clear hb hbox hg; have hnb9 := NB148_149.out; have hnc9 := NB149_148.out; have hcz10_0 : w8.cell? ⟨gb148, 0, none⟩ = some (.bool a0_0) := (blk_cell BK148.out 0).trans rfl; have hcz10_1 : w8.cell? ⟨gb148, 1, none⟩ = some (.int .i64 a0_1) := (blk_cell BK148.out 1).trans rfl; have hcz10_2 : w8.cell? ⟨gb148, 2, none⟩ = some (.int .u64 a0_2) := (blk_cell BK148.out 2).trans rfl; have hcz10_3 : w8.cell? ⟨gb148, 3, none⟩ = some (.int .u64 a0_3) := (blk_cell BK148.out 3).trans rfl; have hcz10_4 : w8.cell? ⟨gb148, 4, none⟩ = some (.int .u64 a0_4) := (blk_cell BK148.out 4).trans rfl; have hcz10_5 : w8.cell? ⟨gb148, 5, none⟩ = some (.int .u64 a0_5) := (blk_cell BK148.out 5).trans rfl; have hcz10_6 : w8.cell? ⟨gb148, 6, none⟩ = some (.int .u64 a0_6) := (blk_cell BK148.out 6).trans rfl; have hcz10_7 : w8.cell? ⟨gb148, 7, none⟩ = some (.int .u64 a0_7) := (blk_cell BK148.out 7).trans rfl; have hcz10_8 : w8.cell? ⟨gb148, 8, none⟩ = some (.int .u64 a0_8) := (blk_cell BK148.out 8).trans rfl; have hcz10_9 : w8.cell? ⟨gb148, 9, none⟩ = some (.int .u64 a0_9) := (blk_cell BK148.out 9).trans rfl; have hcz10_10 : w8.cell? ⟨gb148, 10, none⟩ = some (.int .i64 a0_10) := (blk_cell BK148.out 10).trans rfl; have hfz10_0 := blk_frozen BK148.out 0; have hfz10_1 := blk_frozen BK148.out 1; have hfz10_2 := blk_frozen BK148.out 2; have hfz10_3 := blk_frozen BK148.out 3; have hfz10_4 := blk_frozen BK148.out 4; have hfz10_5 := blk_frozen BK148.out 5; have hfz10_6 := blk_frozen BK148.out 6; have hfz10_7 := blk_frozen BK148.out 7; have hfz10_8 := blk_frozen BK148.out 8; have hfz10_9 := blk_frozen BK148.out 9; have hfz10_10 := blk_frozen BK148.out 10) | ((with_reducible refine gate_callee (f := 41) rfl ?_); refine goesL_ (some 7) rfl rfl Tryd.func41 (by kernel_rfl) rfl #[.agg #[.bool a0_0, .int .i64 a0_1, .int .u64 a0_2, .int .u64 a0_3, .int .u64 a0_4, .int .u64 a0_5, .int .u64 a0_6, .int .u64 a0_7, .int .u64 a0_8, .int .u64 a0_9, .int .i64 a0_10]] rfl (by (try simp only [List.map_toArray, List.map_cons, List.map_nil]); first | done | rfl | (simp only [List.length_drop, List.length_take]; rfl)) ?_; (with_reducible refine (barrier_Fine.calls a0_0 a0_1 a0_2 a0_3 a0_4 a0_5 a0_6 a0_7 a0_8 a0_9 a0_10 true _ ?side1 A3.out).mono ?_); (case side1 => exact Go.Proofs.YtdaionnpgcdkdaaDoor.GLW.below hG (by exact HB.out)); rintro e w11 ⟨rfl, hb⟩; refine ⟨_, rfl, ?_⟩; replace BK148 := Aside0.mk (blk_below BK148.out hb); replace BK149 := Aside0.mk (blk_below BK149.out hb); replace HB := Aside0.mk (below_step (by exact HB.out) hb); (try clear hb); (try clear hb2); (try clear hk); (try clear hi)))
    replace BK148 := Aside0.mk (blk_drew BK148.out)
    replace BK149 := Aside0.mk (blk_drew BK149.out)
    replace HB := Aside0.mk (below_drew1 HB.out)
    refine start_ (n := 12) (S := fun w' => w'.cell? ⟨gb148, 0, none⟩ = some (.bool a0_0) ∧ w'.cell? ⟨gb148, 1, none⟩ = some (.int .i64 a0_1) ∧ w'.cell? ⟨gb148, 2, none⟩ = some (.int .u64 a0_2) ∧ w'.cell? ⟨gb148, 3, none⟩ = some (.int .u64 a0_3) ∧ w'.cell? ⟨gb148, 4, none⟩ = some (.int .u64 a0_4) ∧ w'.cell? ⟨gb148, 5, none⟩ = some (.int .u64 a0_5) ∧ w'.cell? ⟨gb148, 6, none⟩ = some (.int .u64 a0_6) ∧ w'.cell? ⟨gb148, 7, none⟩ = some (.int .u64 a0_7) ∧ w'.cell? ⟨gb148, 8, none⟩ = some (.int .u64 a0_8) ∧ w'.cell? ⟨gb148, 9, none⟩ = some (.int .u64 a0_9) ∧ w'.cell? ⟨gb148, 10, none⟩ = some (.int .i64 a0_10)) (ds := []) #[false, false, false, false, false, false, false, false, false, false, false, false] (by kernel_rfl) rfl rfl ⟨(blk_cell BK148.out 0).trans rfl, (blk_cell BK148.out 1).trans rfl, (blk_cell BK148.out 2).trans rfl, (blk_cell BK148.out 3).trans rfl, (blk_cell BK148.out 4).trans rfl, (blk_cell BK148.out 5).trans rfl, (blk_cell BK148.out 6).trans rfl, (blk_cell BK148.out 7).trans rfl, (blk_cell BK148.out 8).trans rfl, (blk_cell BK148.out 9).trans rfl, (blk_cell BK148.out 10).trans rfl⟩ (fun hHeld => ?_); refine with_tabW barrier_Resign.tab3 barrier_Resign.bits3 (fun HT_ HW_ => ?_)
    generalize w11.drew = w12 at BK148 BK149 HB hHeld ⊢
    refine pure_ (i := 1) (N := some 11) (v := ?_) (a' := ?_) #[false, true, false, false, false, false, false, false, false, false, false, false] rfl rfl (any_of HT_.out (by kernel_rfl)) (fun _ _ _ h => h) (Or.inl ⟨by rfl, ?_⟩) ?_ ?_
    rotate_left
    · intro w'
      go_simp
      with_reducible rfl
    rotate_left
    · simp only [Act.put, List.setIfInBounds_toArray, List.set_cons_zero, List.set_cons_succ, i64_w, i32_w]
      rfl
    refine pure_ (i := 3) (N := some 13) (v := ?_) (a' := ?_) #[false, true, false, true, false, false, false, false, false, false, false, false] rfl rfl (any_of HT_.out (by kernel_rfl)) (fun _ _ _ h => h) (Or.inl ⟨by rfl, ?_⟩) ?_ ?_
    rotate_left
    · intro w'
      go_simp
      with_reducible rfl
    rotate_left
    · simp only [Act.put, List.setIfInBounds_toArray, List.set_cons_zero, List.set_cons_succ, i64_w, i32_w]
      rfl
    refine take_ (i := 0) (N := some 10) (v := ?_) (a' := ?_) #[true, true, false, true, false, false, false, false, false, false, false, false] rfl rfl (take_ofW HT_.out HW_.out (by kernel_rfl)) (fun _ _ _ h => h) (Or.inl ⟨by rfl, ?_⟩) hHeld ?_ ?_
    rotate_left
    · rintro w' ⟨s0, s1, s2, s3, s4, s5, s6, s7, s8, s9, s10⟩
      go_simp
      with_reducible rfl
    rotate_left
    · simp only [Act.put, List.setIfInBounds_toArray, List.set_cons_zero, List.set_cons_succ, i64_w, i32_w]
      rfl
    refine take_ (i := 2) (N := some 12) (v := ?_) (a' := ?_) #[true, true, true, true, false, false, false, false, false, false, false, false] rfl rfl (take_ofW HT_.out HW_.out (by kernel_rfl)) (fun _ _ _ h => h) (Or.inl ⟨by rfl, ?_⟩) hHeld ?_ ?_
    rotate_left
    · rintro w' ⟨s0, s1, s2, s3, s4, s5, s6, s7, s8, s9, s10⟩
      go_simp
      with_reducible rfl
    rotate_left
    · simp only [Act.put, List.setIfInBounds_toArray, List.set_cons_zero, List.set_cons_succ, i64_w, i32_w]
      rfl
    refine one_ (i := 4) (N := some 14) #[true, true, true, true, true, false, false, false, false, false, false, false] rfl rfl (one_of HT_.out (by kernel_rfl)) (by decide) (fun K hK => ?_)
    refine goes_ Tryd.func13 (by kernel_rfl) rfl #[.agg #[.int .u64 a0_2, .int .u64 a0_3, .int .u64 a0_4, .int .u64 a0_5, .int .u64 a0_6, .int .u64 a0_7, .int .u64 a0_8, .int .u64 a0_9], .int .i64 a1] (by rfl) rfl rfl (by (try simp only [List.map_toArray, List.map_cons, List.map_nil]); first | done | rfl | (simp only [List.length_drop, List.length_take]; rfl)) ?_
    with_reducible refine (roll_Resign.calls a0_2 a0_3 a0_4 a0_5 a0_6 a0_7 a0_8 a0_9 a1 t151 t152 t153 t154 t155 t156 t157 t158 t159 _ ?side1 A5.out).mono ?_
    (case side1 => exact Go.Proofs.YtdaionnpgcdkdaaDoor.GLW.below hG (by exact HB.out))
    rintro e w13 ⟨rfl, hb⟩
    refine ⟨_, rfl, ?_⟩
    replace BK148 := Aside0.mk (blk_below BK148.out hb)
    replace BK149 := Aside0.mk (blk_below BK149.out hb)
    replace HB := Aside0.mk (below_step (by exact HB.out) hb)
    (try clear hb)
    (try clear hb2)
    (try clear hk)
    (try clear hi)
    refine hK.out _ _ ⟨(blk_cell BK148.out 0).trans rfl, (blk_cell BK148.out 1).trans rfl, (blk_cell BK148.out 2).trans rfl, (blk_cell BK148.out 3).trans rfl, (blk_cell BK148.out 4).trans rfl, (blk_cell BK148.out 5).trans rfl, (blk_cell BK148.out 6).trans rfl, (blk_cell BK148.out 7).trans rfl, (blk_cell BK148.out 8).trans rfl, (blk_cell BK148.out 9).trans rfl, (blk_cell BK148.out 10).trans rfl⟩ (fun hHeld => ?_)
    clear hK K
    refine norm_ (a' := ?_) ?_ ?_
    rotate_left
    · show Act.put _ (some 14) _ = _
      simp only [Act.put, List.setIfInBounds_toArray, List.set_cons_zero, List.set_cons_succ, i64_w, i32_w]
      rfl
    refine pure_ (i := 5) (N := some 15) (v := ?_) (a' := ?_) #[true, true, true, true, true, true, false, false, false, false, false, false] rfl rfl (any_of HT_.out (by kernel_rfl)) (fun _ _ _ h => h) (Or.inl ⟨by rfl, ?_⟩) ?_ ?_
    rotate_left
    · intro w'
      go_simp
      with_reducible rfl
    rotate_left
    · simp only [Act.put, List.setIfInBounds_toArray, List.set_cons_zero, List.set_cons_succ, i64_w, i32_w]
      rfl
    refine pure_ (i := 6) (N := some 16) (v := ?_) (a' := ?_) #[true, true, true, true, true, true, true, false, false, false, false, false] rfl rfl (any_of HT_.out (by kernel_rfl)) (fun _ _ _ h => h) (Or.inl ⟨by rfl, ?_⟩) ?_ ?_
    rotate_left
    · intro w'
      go_simp
      with_reducible rfl
    rotate_left
    · simp only [Act.put, List.setIfInBounds_toArray, List.set_cons_zero, List.set_cons_succ, i64_w, i32_w]
      rfl
    refine one_ (i := 7) (N := some 17) #[true, true, true, true, true, true, true, true, false, false, false, false] rfl rfl (one_of HT_.out (by kernel_rfl)) (by decide) (fun K hK => ?_)
    refine goes_ Tryd.func82 (by kernel_rfl) rfl #[.agg #[.bool a0_0, .int .i64 a0_1, .int .u64 a0_2, .int .u64 a0_3, .int .u64 a0_4, .int .u64 a0_5, .int .u64 a0_6, .int .u64 a0_7, .int .u64 a0_8, .int .u64 a0_9, .int .i64 a0_10], .agg #[.int .u64 t151, .int .u64 t152, .int .u64 t153, .int .u64 t154, .int .u64 t155, .int .u64 t156, .int .u64 t157, .int .u64 t158], .int .i64 t159] (by rfl) rfl rfl (by (try simp only [List.map_toArray, List.map_cons, List.map_nil]); first | done | rfl | (simp only [List.length_drop, List.length_take]; rfl)) ?_
    with_reducible refine (barrier_Bar_with.calls a0_0 a0_1 a0_2 a0_3 a0_4 a0_5 a0_6 a0_7 a0_8 a0_9 a0_10 t151 t152 t153 t154 t155 t156 t157 t158 t159 t160 t161 t162 t163 t164 t165 t166 t167 t168 t169 t170 t171 _ A6.out).mono ?_
    rintro e w14 ⟨rfl, hb⟩
    refine ⟨_, rfl, ?_⟩
    replace BK148 := Aside0.mk (blk_below BK148.out hb)
    replace BK149 := Aside0.mk (blk_below BK149.out hb)
    replace HB := Aside0.mk (below_step (by exact HB.out) hb)
    (try clear hb)
    (try clear hb2)
    (try clear hk)
    (try clear hi)
    refine hK.out _ _ ⟨(blk_cell BK148.out 0).trans rfl, (blk_cell BK148.out 1).trans rfl, (blk_cell BK148.out 2).trans rfl, (blk_cell BK148.out 3).trans rfl, (blk_cell BK148.out 4).trans rfl, (blk_cell BK148.out 5).trans rfl, (blk_cell BK148.out 6).trans rfl, (blk_cell BK148.out 7).trans rfl, (blk_cell BK148.out 8).trans rfl, (blk_cell BK148.out 9).trans rfl, (blk_cell BK148.out 10).trans rfl⟩ (fun hHeld => ?_)
    clear hK K
    refine norm_ (a' := ?_) ?_ ?_
    rotate_left
    · show Act.put _ (some 17) _ = _
      simp only [Act.put, List.setIfInBounds_toArray, List.set_cons_zero, List.set_cons_succ, i64_w, i32_w]
      rfl
    refine pure_ (i := 8) (N := some 18) (v := ?_) (a' := ?_) #[true, true, true, true, true, true, true, true, true, false, false, false] rfl rfl (any_of HT_.out (by kernel_rfl)) (fun _ _ _ h => h) (Or.inl ⟨by rfl, ?_⟩) ?_ ?_
    rotate_left
    · intro w'
      go_simp
      with_reducible rfl
    rotate_left
    · simp only [Act.put, List.setIfInBounds_toArray, List.set_cons_zero, List.set_cons_succ, i64_w, i32_w]
      rfl
    refine pure_ (i := 9) (N := some 19) (v := ?_) (a' := ?_) #[true, true, true, true, true, true, true, true, true, true, false, false] rfl rfl (any_of HT_.out (by kernel_rfl)) (fun _ _ _ h => h) (Or.inl ⟨by rfl, ?_⟩) ?_ ?_
    rotate_left
    · intro w'
      go_simp
      with_reducible rfl
    rotate_left
    · simp only [Act.put, List.setIfInBounds_toArray, List.set_cons_zero, List.set_cons_succ, i64_w, i32_w]
      rfl
    refine one_ (i := 10) (N := none) #[true, true, true, true, true, true, true, true, true, true, true, false] rfl rfl (one_of HT_.out (by kernel_rfl)) (by decide) (fun K hK => ?_)
    have hs15 : w14.cell? ⟨gb149, 0, none⟩ = some (.bool false) := (blk_cell BK149.out 0).trans rfl
    have hfs15 := blk_frozen BK149.out 0
    have hns15_0 := NB148_149.out
    have hms15_0 := NB149_148.out
    have hs16 : w14.cell? ⟨gb149, 1, none⟩ = some (.int .i64 0) := (blk_cell BK149.out 1).trans rfl
    have hfs16 := blk_frozen BK149.out 1
    have hns16_0 := NB148_149.out
    have hms16_0 := NB149_148.out
    have hs17 : w14.cell? ⟨gb149, 2, none⟩ = some (.int .u64 0) := (blk_cell BK149.out 2).trans rfl
    have hfs17 := blk_frozen BK149.out 2
    have hns17_0 := NB148_149.out
    have hms17_0 := NB149_148.out
    have hs18 : w14.cell? ⟨gb149, 3, none⟩ = some (.int .u64 0) := (blk_cell BK149.out 3).trans rfl
    have hfs18 := blk_frozen BK149.out 3
    have hns18_0 := NB148_149.out
    have hms18_0 := NB149_148.out
    have hs19 : w14.cell? ⟨gb149, 4, none⟩ = some (.int .u64 0) := (blk_cell BK149.out 4).trans rfl
    have hfs19 := blk_frozen BK149.out 4
    have hns19_0 := NB148_149.out
    have hms19_0 := NB149_148.out
    have hs20 : w14.cell? ⟨gb149, 5, none⟩ = some (.int .u64 0) := (blk_cell BK149.out 5).trans rfl
    have hfs20 := blk_frozen BK149.out 5
    have hns20_0 := NB148_149.out
    have hms20_0 := NB149_148.out
    have hs21 : w14.cell? ⟨gb149, 6, none⟩ = some (.int .u64 0) := (blk_cell BK149.out 6).trans rfl
    have hfs21 := blk_frozen BK149.out 6
    have hns21_0 := NB148_149.out
    have hms21_0 := NB149_148.out
    have hs22 : w14.cell? ⟨gb149, 7, none⟩ = some (.int .u64 0) := (blk_cell BK149.out 7).trans rfl
    have hfs22 := blk_frozen BK149.out 7
    have hns22_0 := NB148_149.out
    have hms22_0 := NB149_148.out
    have hs23 : w14.cell? ⟨gb149, 8, none⟩ = some (.int .u64 0) := (blk_cell BK149.out 8).trans rfl
    have hfs23 := blk_frozen BK149.out 8
    have hns23_0 := NB148_149.out
    have hms23_0 := NB149_148.out
    have hs24 : w14.cell? ⟨gb149, 9, none⟩ = some (.int .u64 0) := (blk_cell BK149.out 9).trans rfl
    have hfs24 := blk_frozen BK149.out 9
    have hns24_0 := NB148_149.out
    have hms24_0 := NB149_148.out
    have hs25 : w14.cell? ⟨gb149, 10, none⟩ = some (.int .i64 0) := (blk_cell BK149.out 10).trans rfl
    have hfs25 := blk_frozen BK149.out 10
    have hns25_0 := NB148_149.out
    have hms25_0 := NB149_148.out
    refine skip_ (w1 := ?_) (by rfl) rfl ?_ ?_
    rotate_left
    · go_simp
      rfl
    refine hK.out _ _ ⟨((cell_far (p := ⟨gb149, _, none⟩) NB148_149.out _).trans (((cell_far (p := ⟨gb149, _, none⟩) NB148_149.out _).trans (((cell_far (p := ⟨gb149, _, none⟩) NB148_149.out _).trans (((cell_far (p := ⟨gb149, _, none⟩) NB148_149.out _).trans (((cell_far (p := ⟨gb149, _, none⟩) NB148_149.out _).trans (((cell_far (p := ⟨gb149, _, none⟩) NB148_149.out _).trans (((cell_far (p := ⟨gb149, _, none⟩) NB148_149.out _).trans (((cell_far (p := ⟨gb149, _, none⟩) NB148_149.out _).trans (((cell_far (p := ⟨gb149, _, none⟩) NB148_149.out _).trans (((cell_far (p := ⟨gb149, _, none⟩) NB148_149.out _).trans (((cell_far (p := ⟨gb149, _, none⟩) NB148_149.out _).trans (hHeld.1)))))))))))))))))))))), ((cell_far (p := ⟨gb149, _, none⟩) NB148_149.out _).trans (((cell_far (p := ⟨gb149, _, none⟩) NB148_149.out _).trans (((cell_far (p := ⟨gb149, _, none⟩) NB148_149.out _).trans (((cell_far (p := ⟨gb149, _, none⟩) NB148_149.out _).trans (((cell_far (p := ⟨gb149, _, none⟩) NB148_149.out _).trans (((cell_far (p := ⟨gb149, _, none⟩) NB148_149.out _).trans (((cell_far (p := ⟨gb149, _, none⟩) NB148_149.out _).trans (((cell_far (p := ⟨gb149, _, none⟩) NB148_149.out _).trans (((cell_far (p := ⟨gb149, _, none⟩) NB148_149.out _).trans (((cell_far (p := ⟨gb149, _, none⟩) NB148_149.out _).trans (((cell_far (p := ⟨gb149, _, none⟩) NB148_149.out _).trans (hHeld.2.1)))))))))))))))))))))), ((cell_far (p := ⟨gb149, _, none⟩) NB148_149.out _).trans (((cell_far (p := ⟨gb149, _, none⟩) NB148_149.out _).trans (((cell_far (p := ⟨gb149, _, none⟩) NB148_149.out _).trans (((cell_far (p := ⟨gb149, _, none⟩) NB148_149.out _).trans (((cell_far (p := ⟨gb149, _, none⟩) NB148_149.out _).trans (((cell_far (p := ⟨gb149, _, none⟩) NB148_149.out _).trans (((cell_far (p := ⟨gb149, _, none⟩) NB148_149.out _).trans (((cell_far (p := ⟨gb149, _, none⟩) NB148_149.out _).trans (((cell_far (p := ⟨gb149, _, none⟩) NB148_149.out _).trans (((cell_far (p := ⟨gb149, _, none⟩) NB148_149.out _).trans (((cell_far (p := ⟨gb149, _, none⟩) NB148_149.out _).trans (hHeld.2.2.1)))))))))))))))))))))), ((cell_far (p := ⟨gb149, _, none⟩) NB148_149.out _).trans (((cell_far (p := ⟨gb149, _, none⟩) NB148_149.out _).trans (((cell_far (p := ⟨gb149, _, none⟩) NB148_149.out _).trans (((cell_far (p := ⟨gb149, _, none⟩) NB148_149.out _).trans (((cell_far (p := ⟨gb149, _, none⟩) NB148_149.out _).trans (((cell_far (p := ⟨gb149, _, none⟩) NB148_149.out _).trans (((cell_far (p := ⟨gb149, _, none⟩) NB148_149.out _).trans (((cell_far (p := ⟨gb149, _, none⟩) NB148_149.out _).trans (((cell_far (p := ⟨gb149, _, none⟩) NB148_149.out _).trans (((cell_far (p := ⟨gb149, _, none⟩) NB148_149.out _).trans (((cell_far (p := ⟨gb149, _, none⟩) NB148_149.out _).trans (hHeld.2.2.2.1)))))))))))))))))))))), ((cell_far (p := ⟨gb149, _, none⟩) NB148_149.out _).trans (((cell_far (p := ⟨gb149, _, none⟩) NB148_149.out _).trans (((cell_far (p := ⟨gb149, _, none⟩) NB148_149.out _).trans (((cell_far (p := ⟨gb149, _, none⟩) NB148_149.out _).trans (((cell_far (p := ⟨gb149, _, none⟩) NB148_149.out _).trans (((cell_far (p := ⟨gb149, _, none⟩) NB148_149.out _).trans (((cell_far (p := ⟨gb149, _, none⟩) NB148_149.out _).trans (((cell_far (p := ⟨gb149, _, none⟩) NB148_149.out _).trans (((cell_far (p := ⟨gb149, _, none⟩) NB148_149.out _).trans (((cell_far (p := ⟨gb149, _, none⟩) NB148_149.out _).trans (((cell_far (p := ⟨gb149, _, none⟩) NB148_149.out _).trans (hHeld.2.2.2.2.1)))))))))))))))))))))), ((cell_far (p := ⟨gb149, _, none⟩) NB148_149.out _).trans (((cell_far (p := ⟨gb149, _, none⟩) NB148_149.out _).trans (((cell_far (p := ⟨gb149, _, none⟩) NB148_149.out _).trans (((cell_far (p := ⟨gb149, _, none⟩) NB148_149.out _).trans (((cell_far (p := ⟨gb149, _, none⟩) NB148_149.out _).trans (((cell_far (p := ⟨gb149, _, none⟩) NB148_149.out _).trans (((cell_far (p := ⟨gb149, _, none⟩) NB148_149.out _).trans (((cell_far (p := ⟨gb149, _, none⟩) NB148_149.out _).trans (((cell_far (p := ⟨gb149, _, none⟩) NB148_149.out _).trans (((cell_far (p := ⟨gb149, _, none⟩) NB148_149.out _).trans (((cell_far (p := ⟨gb149, _, none⟩) NB148_149.out _).trans (hHeld.2.2.2.2.2.1)))))))))))))))))))))), ((cell_far (p := ⟨gb149, _, none⟩) NB148_149.out _).trans (((cell_far (p := ⟨gb149, _, none⟩) NB148_149.out _).trans (((cell_far (p := ⟨gb149, _, none⟩) NB148_149.out _).trans (((cell_far (p := ⟨gb149, _, none⟩) NB148_149.out _).trans (((cell_far (p := ⟨gb149, _, none⟩) NB148_149.out _).trans (((cell_far (p := ⟨gb149, _, none⟩) NB148_149.out _).trans (((cell_far (p := ⟨gb149, _, none⟩) NB148_149.out _).trans (((cell_far (p := ⟨gb149, _, none⟩) NB148_149.out _).trans (((cell_far (p := ⟨gb149, _, none⟩) NB148_149.out _).trans (((cell_far (p := ⟨gb149, _, none⟩) NB148_149.out _).trans (((cell_far (p := ⟨gb149, _, none⟩) NB148_149.out _).trans (hHeld.2.2.2.2.2.2.1)))))))))))))))))))))), ((cell_far (p := ⟨gb149, _, none⟩) NB148_149.out _).trans (((cell_far (p := ⟨gb149, _, none⟩) NB148_149.out _).trans (((cell_far (p := ⟨gb149, _, none⟩) NB148_149.out _).trans (((cell_far (p := ⟨gb149, _, none⟩) NB148_149.out _).trans (((cell_far (p := ⟨gb149, _, none⟩) NB148_149.out _).trans (((cell_far (p := ⟨gb149, _, none⟩) NB148_149.out _).trans (((cell_far (p := ⟨gb149, _, none⟩) NB148_149.out _).trans (((cell_far (p := ⟨gb149, _, none⟩) NB148_149.out _).trans (((cell_far (p := ⟨gb149, _, none⟩) NB148_149.out _).trans (((cell_far (p := ⟨gb149, _, none⟩) NB148_149.out _).trans (((cell_far (p := ⟨gb149, _, none⟩) NB148_149.out _).trans (hHeld.2.2.2.2.2.2.2.1)))))))))))))))))))))), ((cell_far (p := ⟨gb149, _, none⟩) NB148_149.out _).trans (((cell_far (p := ⟨gb149, _, none⟩) NB148_149.out _).trans (((cell_far (p := ⟨gb149, _, none⟩) NB148_149.out _).trans (((cell_far (p := ⟨gb149, _, none⟩) NB148_149.out _).trans (((cell_far (p := ⟨gb149, _, none⟩) NB148_149.out _).trans (((cell_far (p := ⟨gb149, _, none⟩) NB148_149.out _).trans (((cell_far (p := ⟨gb149, _, none⟩) NB148_149.out _).trans (((cell_far (p := ⟨gb149, _, none⟩) NB148_149.out _).trans (((cell_far (p := ⟨gb149, _, none⟩) NB148_149.out _).trans (((cell_far (p := ⟨gb149, _, none⟩) NB148_149.out _).trans (((cell_far (p := ⟨gb149, _, none⟩) NB148_149.out _).trans (hHeld.2.2.2.2.2.2.2.2.1)))))))))))))))))))))), ((cell_far (p := ⟨gb149, _, none⟩) NB148_149.out _).trans (((cell_far (p := ⟨gb149, _, none⟩) NB148_149.out _).trans (((cell_far (p := ⟨gb149, _, none⟩) NB148_149.out _).trans (((cell_far (p := ⟨gb149, _, none⟩) NB148_149.out _).trans (((cell_far (p := ⟨gb149, _, none⟩) NB148_149.out _).trans (((cell_far (p := ⟨gb149, _, none⟩) NB148_149.out _).trans (((cell_far (p := ⟨gb149, _, none⟩) NB148_149.out _).trans (((cell_far (p := ⟨gb149, _, none⟩) NB148_149.out _).trans (((cell_far (p := ⟨gb149, _, none⟩) NB148_149.out _).trans (((cell_far (p := ⟨gb149, _, none⟩) NB148_149.out _).trans (((cell_far (p := ⟨gb149, _, none⟩) NB148_149.out _).trans (hHeld.2.2.2.2.2.2.2.2.2.1)))))))))))))))))))))), ((cell_far (p := ⟨gb149, _, none⟩) NB148_149.out _).trans (((cell_far (p := ⟨gb149, _, none⟩) NB148_149.out _).trans (((cell_far (p := ⟨gb149, _, none⟩) NB148_149.out _).trans (((cell_far (p := ⟨gb149, _, none⟩) NB148_149.out _).trans (((cell_far (p := ⟨gb149, _, none⟩) NB148_149.out _).trans (((cell_far (p := ⟨gb149, _, none⟩) NB148_149.out _).trans (((cell_far (p := ⟨gb149, _, none⟩) NB148_149.out _).trans (((cell_far (p := ⟨gb149, _, none⟩) NB148_149.out _).trans (((cell_far (p := ⟨gb149, _, none⟩) NB148_149.out _).trans (((cell_far (p := ⟨gb149, _, none⟩) NB148_149.out _).trans (((cell_far (p := ⟨gb149, _, none⟩) NB148_149.out _).trans (hHeld.2.2.2.2.2.2.2.2.2.2))))))))))))))))))))))⟩ (fun hHeld => ?_)
    clear hK K
    refine pure_ (i := 11) (N := some 5) (v := ?_) (a' := ?_) #[true, true, true, true, true, true, true, true, true, true, true, true] rfl rfl (any_of HT_.out (by kernel_rfl)) (fun _ _ _ h => h) (Or.inl ⟨by rfl, ?_⟩) ?_ ?_
    rotate_left
    · intro w'
      go_simp
      with_reducible rfl
    rotate_left
    · simp only [Act.put, List.setIfInBounds_toArray, List.set_cons_zero, List.set_cons_succ, i64_w, i32_w]
      rfl
    refine done_ (done_of HT_.out (by kernel_rfl)) ?_
    try go_wp2
    refine bodyPost_ret (results_ct rfl _ _ gb149 51 #[.bool t160, .int .i64 t161, .int .u64 t162, .int .u64 t163, .int .u64 t164, .int .u64 t165, .int .u64 t166, .int .u64 t167, .int .u64 t168, .int .u64 t169, .int .i64 t170] (0, 0) _ rfl (by apply pt51_0_11; exact BK149.out) Tryd.underlying51 rfl (by kernel_rfl)) rfl ?_
    exact ⟨by first | rfl | (simp [errW_none, errW_some] <;> rfl) | (simp [*, errW_none, errW_some] <;> rfl), by repeat (first | (with_reducible first | exact HB.out | apply below_alloc | apply pw_below_drewN | apply below_drew1 | refine below_set ?_ GE148.out | refine below_set ?_ GE149.out) | exact HB.out)⟩
  · replace c4 := Bool.eq_false_iff.mpr c4
    subst c4
    have H1 : (some (a0_0, a0_1, a0_2, a0_3, a0_4, a0_5, a0_6, a0_7, a0_8, a0_9, a0_10, 1)) = some (r1, r2, r3, r4, r5, r6, r7, r8, r9, r10, r11, r12) := by rw [if_neg (show ¬ (false = true) by decide)] at H; exact H
    clear H
    have H := H1
    clear H1
    simp only [Option.some.injEq, Prod.mk.injEq] at H
    obtain ⟨rfl, rfl, rfl, rfl, rfl, rfl, rfl, rfl, rfl, rfl, rfl, rfl⟩ := H
    go_enter Tryd.func35, Tryd.ntmps35
    go_wp2_with (first | ((with_reducible refine gate_dst (N := 2) rfl ?_); refine box_event ?hg (N := 2) ?hd (cs := #[.bool a0_0, .int .i64 a0_1, .int .u64 a0_2, .int .u64 a0_3, .int .u64 a0_4, .int .u64 a0_5, .int .u64 a0_6, .int .u64 a0_7, .int .u64 a0_8, .int .u64 a0_9, .int .i64 a0_10]) (t := 51) ?hr ?_; (case hd => rfl); (case hg => rfl); (case hr => first | (go_simp; done) | (go_simp; rfl)); intro gb148 hg w26 hbox hb; have BK148 := Aside0.mk (hbox); have GW148 := Aside0.mk ((by rw [hg]; exact (below_size (by exact HB.out)) : w.heap.size ≤ gb148)); have GE148 := Aside0.mk ((by rw [hg]; exact (below_size (by exact HB.out)) : w.heap.size ≤ gb148)); replace HB := Aside0.mk (below_step (by exact HB.out) hb); clear hb hbox hg) | ((with_reducible refine gate_dst (N := 4) rfl ?_); refine box_event ?hg (N := 4) ?hd (cs := #[.bool false, .int .i64 0, .int .u64 0, .int .u64 0, .int .u64 0, .int .u64 0, .int .u64 0, .int .u64 0, .int .u64 0, .int .u64 0, .int .i64 0]) (t := 51) ?hr ?_; (case hd => rfl); (case hg => rfl); (case hr => first | (go_simp; done) | (go_simp; rfl)); intro gb149 hg w27 hbox hb; have BK149 := Aside0.mk (hbox); have GW149 := Aside0.mk ((by rw [hg]; exact (below_size (by exact HB.out)) : w.heap.size ≤ gb149)); have GE149 := Aside0.mk ((by rw [hg]; exact (below_size (by exact HB.out)) : w.heap.size ≤ gb149)); replace HB := Aside0.mk (below_step (by exact HB.out) hb); have NB148_149 := Aside0.mk ((by rw [hg]; exact Nat.ne_of_lt (blk_lt BK148.out) : gb148 ≠ gb149)); have NB149_148 := Aside0.mk ((by rw [hg]; exact Nat.ne_of_gt (blk_lt BK148.out) : gb149 ≠ gb148)); replace BK148 := Aside0.mk (blk_below BK148.out hb); clear hb hbox hg; have hnb28 := NB148_149.out; have hnc28 := NB149_148.out; have hcz29_0 : w27.cell? ⟨gb148, 0, none⟩ = some (.bool a0_0) := (blk_cell BK148.out 0).trans rfl; have hcz29_1 : w27.cell? ⟨gb148, 1, none⟩ = some (.int .i64 a0_1) := (blk_cell BK148.out 1).trans rfl; have hcz29_2 : w27.cell? ⟨gb148, 2, none⟩ = some (.int .u64 a0_2) := (blk_cell BK148.out 2).trans rfl; have hcz29_3 : w27.cell? ⟨gb148, 3, none⟩ = some (.int .u64 a0_3) := (blk_cell BK148.out 3).trans rfl; have hcz29_4 : w27.cell? ⟨gb148, 4, none⟩ = some (.int .u64 a0_4) := (blk_cell BK148.out 4).trans rfl; have hcz29_5 : w27.cell? ⟨gb148, 5, none⟩ = some (.int .u64 a0_5) := (blk_cell BK148.out 5).trans rfl; have hcz29_6 : w27.cell? ⟨gb148, 6, none⟩ = some (.int .u64 a0_6) := (blk_cell BK148.out 6).trans rfl; have hcz29_7 : w27.cell? ⟨gb148, 7, none⟩ = some (.int .u64 a0_7) := (blk_cell BK148.out 7).trans rfl; have hcz29_8 : w27.cell? ⟨gb148, 8, none⟩ = some (.int .u64 a0_8) := (blk_cell BK148.out 8).trans rfl; have hcz29_9 : w27.cell? ⟨gb148, 9, none⟩ = some (.int .u64 a0_9) := (blk_cell BK148.out 9).trans rfl; have hcz29_10 : w27.cell? ⟨gb148, 10, none⟩ = some (.int .i64 a0_10) := (blk_cell BK148.out 10).trans rfl; have hfz29_0 := blk_frozen BK148.out 0; have hfz29_1 := blk_frozen BK148.out 1; have hfz29_2 := blk_frozen BK148.out 2; have hfz29_3 := blk_frozen BK148.out 3; have hfz29_4 := blk_frozen BK148.out 4; have hfz29_5 := blk_frozen BK148.out 5; have hfz29_6 := blk_frozen BK148.out 6; have hfz29_7 := blk_frozen BK148.out 7; have hfz29_8 := blk_frozen BK148.out 8; have hfz29_9 := blk_frozen BK148.out 9; have hfz29_10 := blk_frozen BK148.out 10) | ((with_reducible refine gate_callee (f := 41) rfl ?_); refine goesL_ (some 7) rfl rfl Tryd.func41 (by kernel_rfl) rfl #[.agg #[.bool a0_0, .int .i64 a0_1, .int .u64 a0_2, .int .u64 a0_3, .int .u64 a0_4, .int .u64 a0_5, .int .u64 a0_6, .int .u64 a0_7, .int .u64 a0_8, .int .u64 a0_9, .int .i64 a0_10]] rfl (by (try simp only [List.map_toArray, List.map_cons, List.map_nil]); first | done | rfl | (simp only [List.length_drop, List.length_take]; rfl)) ?_; (with_reducible refine (barrier_Fine.calls a0_0 a0_1 a0_2 a0_3 a0_4 a0_5 a0_6 a0_7 a0_8 a0_9 a0_10 false _ ?side1 A3.out).mono ?_); (case side1 => exact Go.Proofs.YtdaionnpgcdkdaaDoor.GLW.below hG (by exact HB.out)); rintro e w30 ⟨rfl, hb⟩; refine ⟨_, rfl, ?_⟩; replace BK148 := Aside0.mk (blk_below BK148.out hb); replace BK149 := Aside0.mk (blk_below BK149.out hb); replace HB := Aside0.mk (below_step (by exact HB.out) hb); (try clear hb); (try clear hb2); (try clear hk); (try clear hi); have hcz31_0 : w30.cell? ⟨gb148, 0, none⟩ = some (.bool a0_0) := (blk_cell BK148.out 0).trans rfl; have hcz31_1 : w30.cell? ⟨gb148, 1, none⟩ = some (.int .i64 a0_1) := (blk_cell BK148.out 1).trans rfl; have hcz31_2 : w30.cell? ⟨gb148, 2, none⟩ = some (.int .u64 a0_2) := (blk_cell BK148.out 2).trans rfl; have hcz31_3 : w30.cell? ⟨gb148, 3, none⟩ = some (.int .u64 a0_3) := (blk_cell BK148.out 3).trans rfl; have hcz31_4 : w30.cell? ⟨gb148, 4, none⟩ = some (.int .u64 a0_4) := (blk_cell BK148.out 4).trans rfl; have hcz31_5 : w30.cell? ⟨gb148, 5, none⟩ = some (.int .u64 a0_5) := (blk_cell BK148.out 5).trans rfl; have hcz31_6 : w30.cell? ⟨gb148, 6, none⟩ = some (.int .u64 a0_6) := (blk_cell BK148.out 6).trans rfl; have hcz31_7 : w30.cell? ⟨gb148, 7, none⟩ = some (.int .u64 a0_7) := (blk_cell BK148.out 7).trans rfl; have hcz31_8 : w30.cell? ⟨gb148, 8, none⟩ = some (.int .u64 a0_8) := (blk_cell BK148.out 8).trans rfl; have hcz31_9 : w30.cell? ⟨gb148, 9, none⟩ = some (.int .u64 a0_9) := (blk_cell BK148.out 9).trans rfl; have hcz31_10 : w30.cell? ⟨gb148, 10, none⟩ = some (.int .i64 a0_10) := (blk_cell BK148.out 10).trans rfl; have hfz31_0 := blk_frozen BK148.out 0; have hfz31_1 := blk_frozen BK148.out 1; have hfz31_2 := blk_frozen BK148.out 2; have hfz31_3 := blk_frozen BK148.out 3; have hfz31_4 := blk_frozen BK148.out 4; have hfz31_5 := blk_frozen BK148.out 5; have hfz31_6 := blk_frozen BK148.out 6; have hfz31_7 := blk_frozen BK148.out 7; have hfz31_8 := blk_frozen BK148.out 8; have hfz31_9 := blk_frozen BK148.out 9; have hfz31_10 := blk_frozen BK148.out 10; have hcz32_0 : w30.cell? ⟨gb149, 0, none⟩ = some (.bool false) := (blk_cell BK149.out 0).trans rfl; have hcz32_1 : w30.cell? ⟨gb149, 1, none⟩ = some (.int .i64 0) := (blk_cell BK149.out 1).trans rfl; have hcz32_2 : w30.cell? ⟨gb149, 2, none⟩ = some (.int .u64 0) := (blk_cell BK149.out 2).trans rfl; have hcz32_3 : w30.cell? ⟨gb149, 3, none⟩ = some (.int .u64 0) := (blk_cell BK149.out 3).trans rfl; have hcz32_4 : w30.cell? ⟨gb149, 4, none⟩ = some (.int .u64 0) := (blk_cell BK149.out 4).trans rfl; have hcz32_5 : w30.cell? ⟨gb149, 5, none⟩ = some (.int .u64 0) := (blk_cell BK149.out 5).trans rfl; have hcz32_6 : w30.cell? ⟨gb149, 6, none⟩ = some (.int .u64 0) := (blk_cell BK149.out 6).trans rfl; have hcz32_7 : w30.cell? ⟨gb149, 7, none⟩ = some (.int .u64 0) := (blk_cell BK149.out 7).trans rfl; have hcz32_8 : w30.cell? ⟨gb149, 8, none⟩ = some (.int .u64 0) := (blk_cell BK149.out 8).trans rfl; have hcz32_9 : w30.cell? ⟨gb149, 9, none⟩ = some (.int .u64 0) := (blk_cell BK149.out 9).trans rfl; have hcz32_10 : w30.cell? ⟨gb149, 10, none⟩ = some (.int .i64 0) := (blk_cell BK149.out 10).trans rfl; have hfz32_0 := blk_frozen BK149.out 0; have hfz32_1 := blk_frozen BK149.out 1; have hfz32_2 := blk_frozen BK149.out 2; have hfz32_3 := blk_frozen BK149.out 3; have hfz32_4 := blk_frozen BK149.out 4; have hfz32_5 := blk_frozen BK149.out 5; have hfz32_6 := blk_frozen BK149.out 6; have hfz32_7 := blk_frozen BK149.out 7; have hfz32_8 := blk_frozen BK149.out 8; have hfz32_9 := blk_frozen BK149.out 9; have hfz32_10 := blk_frozen BK149.out 10))
    refine bodyPost_ret (results_ct rfl _ _ gb149 51 #[.bool a0_0, .int .i64 a0_1, .int .u64 a0_2, .int .u64 a0_3, .int .u64 a0_4, .int .u64 a0_5, .int .u64 a0_6, .int .u64 a0_7, .int .u64 a0_8, .int .u64 a0_9, .int .i64 a0_10] (0, 0) _ rfl (by apply pt51_0_11; exact BK149.out) Tryd.underlying51 rfl (by kernel_rfl)) rfl ?_
    exact ⟨by first | rfl | (simp [errW_none, errW_some] <;> rfl) | (simp [*, errW_none, errW_some] <;> rfl), by repeat (first | (with_reducible first | exact HB.out | apply below_alloc | apply pw_below_drewN | apply below_drew1 | refine below_set ?_ GE148.out | refine below_set ?_ GE149.out) | exact HB.out)⟩

end Go.Proofs.YtdaionnpgcdkdaaDoorP.New
