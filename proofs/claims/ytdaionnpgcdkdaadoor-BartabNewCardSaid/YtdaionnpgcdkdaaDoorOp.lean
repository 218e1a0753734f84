/- Arguments opened: what is read as data of a type is read as a value of the print's kind. -/
import Derived.Test.YtdaionnpgcdkdaaDoorT0
import Derived.Test.YtdaionnpgcdkdaaDoorRcC
import Derived.OpenShut
import Derived.Deep.Slices
set_option linter.unusedVariables false
set_option linter.unusedSimpArgs false
namespace Go.Proofs.YtdaionnpgcdkdaaDoor.Open
open Go.RowKit Go.Proofs.YtdaionnpgcdkdaaDoorW.PrintWords Go.ChangeShapes Go.WideShapes Go.ChangeAt Go.Deep
/-- Data of type t are read as values of kind d. -/
def Opens {α : Type} (d : Kd α) (t : TypeId) (wf : α → Prop) : Prop :=
  ∀ (H : Type) (enc : TypeId × Value → H) (W : World) (n : Nat) (cs : List Value) (x : DataW H × List MemPlace), DataW.trod enc Tryd.prog W 0 (fun _ => true) true n t cs = some x → ∃ a, d.K W a cs ∧ wf a
/-- The fields from one on, at their places. -/
def OpensF {α : Type} (d : Kd α) (off tot : Nat) (fs : List (TypeId × Nat)) (wf : α → Prop) : Prop :=
  ∀ (H : Type) (enc : TypeId × Value → H) (W : World) (n : Nat) (cs : List Value), cs.length = tot → (∀ f ∈ fs, ∃ x, DataW.trod enc Tryd.prog W 0 (fun _ => true) true n f.1 ((cs.drop f.2).take (Tryd.prog.cellsOf f.1)) = some x) → ∃ a, d.K W a (cs.drop off) ∧ wf a
theorem of_int {t : TypeId} {k : IntKind} (hu : Tryd.prog.underlying t = some (.int k)) : Opens (Kd.int k) t (fun n => (Lit.int k n).wf = true) := by
  intro H enc W n cs x h
  obtain ⟨m, rfl, _, hw⟩ := DataW.trod_int hu h
  exact ⟨m, rfl, hw⟩
theorem of_bool {t : TypeId} (hu : Tryd.prog.underlying t = some .bool) : Opens Kd.bool t (fun _ => True) := by
  intro H enc W n cs x h
  obtain ⟨b, rfl, _⟩ := DataW.trod_bool hu h
  exact ⟨b, rfl, trivial⟩
theorem of_string {t : TypeId} (hu : Tryd.prog.underlying t = some .string) : Opens Kd.string t (fun s => s.size ≤ maxLen) := by
  intro H enc W n cs x h
  obtain ⟨s, rfl, _, hs⟩ := DataW.trod_string hu h
  exact ⟨s, rfl, hs⟩
theorem of_last {α : Type} {d : Kd α} {t : TypeId} {off tot : Nat} {wf : α → Prop} (ho : Opens d t wf) (hc : Tryd.prog.cellsOf t = d.sz) (he : off + d.sz = tot) : OpensF d off tot [(t, off)] wf := by
  intro H enc W n cs hl hf
  obtain ⟨x, hx⟩ := hf _ (List.mem_singleton.2 rfl)
  obtain ⟨a, ha, hw⟩ := ho H enc W n _ x hx
  rw [hc, List.take_of_length_le (by simp; omega)] at ha
  exact ⟨a, ha, hw⟩
theorem of_cons {α β : Type} {d : Kd α} {d' : Kd β} {t : TypeId} {off tot : Nat} {fs : List (TypeId × Nat)} {wf : α → Prop} {wf' : β → Prop} (ho : Opens d t wf) (hc : Tryd.prog.cellsOf t = d.sz) (hr : OpensF d' (off + d.sz) tot fs wf') :
    OpensF (Kd.pair d d') off tot ((t, off) :: fs) (fun p => wf p.1 ∧ wf' p.2) := by
  intro H enc W n cs hl hf
  obtain ⟨x, hx⟩ := hf _ (List.mem_cons_self ..)
  obtain ⟨a, ha, hw⟩ := ho H enc W n _ x hx
  obtain ⟨b, hb, hw'⟩ := hr H enc W n cs hl (fun f h => hf f (List.mem_cons_of_mem _ h))
  refine ⟨(a, b), ⟨_, _, ?_, ha, hb⟩, hw, hw'⟩
  rw [hc, ← List.drop_drop, List.take_append_drop]
theorem of_struct {α β : Type} {d : Kd α} {t : TypeId} {flds : Array Field} {tot : Nat} {wf : α → Prop} (f : β → α) (g : α → β) (hg : ∀ a, f (g a) = a) (hu : Tryd.prog.underlying t = some (.struct flds)) (hc : Tryd.prog.cellsOf t = tot)
    (ho : OpensF d 0 tot (flds.toList.map fun x => (x.type, x.offset)) wf) : Opens (Kd.iso d f) t (fun b => wf (f b)) := by
  intro H enc W n cs x h
  obtain ⟨xs, m, rfl, _, hl, hxl, hf⟩ := DataW.trod_struct hu h
  obtain ⟨a, ha, hw⟩ := ho H enc W m cs (by rw [hl, hc]) (by
    intro p hp
    obtain ⟨fd, hfd, rfl⟩ := List.mem_map.1 hp
    obtain ⟨i, hi, hfd⟩ := List.getElem_of_mem hfd
    have := hf i fd (by rw [Array.getElem?_eq_getElem (by simpa using hi)]; simpa using hfd)
    have hix : i < xs.length := by rw [hxl]; simpa using hi
    rw [List.getElem?_eq_getElem hix] at this
    exact ⟨_, this⟩)
  refine ⟨g a, ?_, ?_⟩
  · show d.K W (f (g a)) cs
    rw [hg]
    simpa using ha
  · show wf (f (g a))
    rw [hg]
    exact hw
theorem of_slice {α : Type} {d : Kd α} {t e : TypeId} {wf : α → Prop} (hu : Tryd.prog.underlying t = some (.slice e)) (hc : Tryd.prog.cellsOf e = d.sz) (ho : Opens d e wf) :
    Opens (Kd.slice e d) t (fun xs => xs.length ≤ maxLen ∧ ∀ x ∈ xs, wf x) := by
  intro H enc W n cs x h
  rcases open_slice hu h with ⟨rfl, _⟩ | ⟨a, len, cap, m, n', D, Pl, rfl, _, hl, hm, hmm, _, hrows⟩
  · exact ⟨[], ⟨none, 0, rfl, Nat.le_refl _, rfl, by simp, fun h => by simp at h⟩, by simp [maxLen], fun x hx => by simp at hx⟩
  have hlm : len ≤ m := by rw [hmm]; simp; exact hl
  have each : ∀ i, i < len → ∃ q : α × List Value, W.cells? 0 (a.add (i * d.sz)) d.sz = some q.2 ∧ d.K W q.1 q.2 ∧ wf q.1 := by
    intro i hi
    obtain ⟨cs', h1, h2⟩ := hrows i (by omega)
    obtain ⟨b, hb, hw⟩ := ho H enc W _ _ _ h2
    rw [hc] at h1
    exact ⟨(b, cs'), h1, hb, hw⟩
  have nz : ∀ i, i < len → Nonempty α := fun i hi => by obtain ⟨q, _⟩ := each i hi; exact ⟨q.1⟩
  obtain ⟨q, hq⟩ : ∃ q : Fin len → α × List Value, ∀ i : Fin len, W.cells? 0 (a.add (i.1 * d.sz)) d.sz = some (q i).2 ∧ d.K W (q i).1 (q i).2 ∧ wf (q i).1 :=
    ⟨fun i => Classical.choose (each i.1 i.2), fun i => Classical.choose_spec (each i.1 i.2)⟩
  have hlen : (List.ofFn fun i => (q i).1).length = len := by simp
  refine ⟨List.ofFn fun i => (q i).1, ⟨some a, cap, by rw [hlen], by rw [hlen]; exact hl, rfl, by rw [hlen]; unfold maxLen at hm; omega, fun h0 => ⟨a, rfl, fun j p hj => ?_⟩⟩, by rw [hlen]; omega, fun x hx => ?_⟩
  · have hjl : j < len := by
      have := (List.getElem?_eq_some_iff.1 hj).1
      simpa using this
    have hp : (q ⟨j, hjl⟩).1 = p := by simpa [List.getElem?_ofFn, hjl] using hj
    obtain ⟨h1, h2, _⟩ := hq ⟨j, hjl⟩
    obtain ⟨_, hl2, hcell⟩ := World.cells?_some h1
    refine ⟨_, hl2, hp ▸ h2, fun i u hu' => ?_⟩
    have hi : i < d.sz := by
      have := (List.getElem?_eq_some_iff.1 hu').1
      rwa [hl2] at this
    rw [← Addr.add_add, hcell i hi]
    exact hu'
  · obtain ⟨i, rfl⟩ := (List.mem_ofFn ..).1 hx
    exact (hq i).2.2
/-- One argument: its value's shape, and what it is read as. -/
theorem arg {α : Type} {d : Kd α} {t : TypeId} {wf : α → Prop} (ho : Opens d t wf) {H : Type} {enc : TypeId × Value → H} {W : World} {v : Value} {dd : DataW H} {p : List MemPlace} (h : DataW.Trod enc Tryd.prog W 0 (fun _ => true) true t v dd p) :
    ∃ a, d.K W a v.cells.toList ∧ wf a := by
  obtain ⟨n, hn⟩ := h
  exact ho H enc W n _ _ hn
end Go.Proofs.YtdaionnpgcdkdaaDoor.Open
