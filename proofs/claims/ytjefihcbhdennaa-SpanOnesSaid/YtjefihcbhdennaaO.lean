/- What reads as data at a type reads as the kind of that type: from a row's arguments to the printed words' 'Kd.C'. Conditions: those stated. -/
import Derived.Test.YtjefihcbhdennaaX
import Derived.Deep.Slices
import Derived.ChangeArms
import Derived.WideShapes
import Derived.ChangeAt2
import Derived.Lib.SmallJoins
namespace Go.Proofs.YtjefihcbhdennaaW.PrintWords
open Go.RowKit Go.ChangeShapes Go.WideShapes
namespace Kd
/-- What reads as data at type T reads as kind d, and is well formed. -/
def Opens {α : Type} (P : Program) (T : TypeId) (d : Kd α) (wf : α → Prop) : Prop :=
  ∀ {H : Type} (enc : TypeId × Value → H) (w : World) (fuel : Nat) (cs : List Value) (x : DataW H × List MemPlace),
    DataW.trod enc P w 0 (fun _ => true) true fuel T cs = some x → ∃ a : α, d.K w a cs ∧ wf a
theorem opens_int {P : Program} {T : TypeId} {k : IntKind} (hT : P.underlying T = some (.int k)) : Opens P T (Kd.int k) (fun n => (Lit.int k n).wf = true) := by
  intro H enc w fuel cs x h
  obtain ⟨n, h1, _, h2⟩ := DataW.trod_int hT h
  exact ⟨n, h1, h2⟩
theorem opens_bool {P : Program} {T : TypeId} (hT : P.underlying T = some .bool) : Opens P T Kd.bool (fun _ => True) := by
  intro H enc w fuel cs x h
  obtain ⟨n, h1, _⟩ := DataW.trod_bool hT h
  exact ⟨n, h1, trivial⟩
theorem opens_string {P : Program} {T : TypeId} (hT : P.underlying T = some .string) : Opens P T Kd.string (fun s => s.size ≤ 9223372036854775807) := by
  intro H enc w fuel cs x h
  obtain ⟨s, h1, _, h2⟩ := DataW.trod_string hT h
  exact ⟨s, h1, by simpa [maxLen] using h2⟩
theorem list_of_lt {α : Type} {Q : Nat → α → Prop} : ∀ n : Nat, (∀ i, i < n → ∃ x, Q i x) → ∃ xs : List α, xs.length = n ∧ ∀ i x, xs[i]? = some x → Q i x
  | 0, _ => ⟨[], rfl, fun i x h => by simp at h⟩
  | n + 1, h => by
    obtain ⟨xs, hl, hq⟩ := list_of_lt n (fun i hi => h i (by omega))
    obtain ⟨y, hy⟩ := h n (by omega)
    refine ⟨xs ++ [y], by simp [hl], fun i x hx => ?_⟩
    rcases Nat.lt_or_ge i n with hlt | hge
    · rw [List.getElem?_append_left (by omega)] at hx
      exact hq i x hx
    · rw [List.getElem?_append_right (by omega)] at hx
      have hi : i - xs.length = 0 := by
        have := (List.getElem?_eq_some_iff.1 hx).1
        simp at this
        omega
      rw [hi] at hx
      simp at hx
      subst hx
      obtain rfl : i = n := by omega
      exact hy
theorem opens_slice {α : Type} {P : Program} {T e : TypeId} {d : Kd α} {wf : α → Prop} (hT : P.underlying T = some (.slice e)) (hc : P.cellsOf e = d.sz) (ho : Opens P e d wf) :
    Opens P T (Kd.slice e d) (fun xs => ∀ x ∈ xs, wf x) := by
  intro H enc w fuel cs x h
  rcases Deep.open_slice hT h with ⟨rfl, _⟩ | ⟨a, len, cap, m, n, D, Pl, rfl, hb, hl, hm, hmm, rfl, hx⟩
  · exact ⟨[], ⟨none, 0, rfl, Nat.le_refl _, C_nil d w⟩, by simp⟩
  · simp only [if_true] at hmm
    subst hmm
    obtain ⟨xs, hlen, hq⟩ := list_of_lt (α := α) (Q := fun i p => ∃ cs', w.cells? 0 (a.add (i * P.cellsOf e)) (P.cellsOf e) = some cs' ∧ d.K w p cs' ∧ wf p) len (fun i hi => by
      obtain ⟨cs', h1, h2⟩ := hx i (by omega)
      obtain ⟨p, hp, hwf⟩ := ho enc w n cs' _ h2
      exact ⟨p, cs', h1, hp, hwf⟩)
    subst hlen
    refine ⟨xs, ⟨some a, m, rfl, hl, rfl, by simp [maxLen] at hm; omega, fun _ => ⟨a, rfl, fun j p hj => ?_⟩⟩, fun p hp => ?_⟩
    · obtain ⟨cs', h1, h2, _⟩ := hq j p hj
      obtain ⟨_, h3, h4⟩ := World.cells?_some h1
      rw [hc] at h3 h4
      refine ⟨cs', h3, h2, fun i u hi => ?_⟩
      have hi2 : i < d.sz := by rw [← h3]; exact (List.getElem?_eq_some_iff.1 hi).1
      rw [← Deep.add_add, h4 i hi2, hi]
    · obtain ⟨i, hi, rfl⟩ := List.getElem_of_mem hp
      obtain ⟨_, _, _, h4⟩ := hq i _ (List.getElem?_eq_getElem hi)
      exact h4
/-- The fields from one on, at an offset. -/
def OpensF {α : Type} (P : Program) (fs : List Field) (off : Nat) (d : Kd α) (wf : α → Prop) : Prop :=
  ∀ {H : Type} (enc : TypeId × Value → H) (w : World) (n : Nat) (cs : List Value), (∀ (i : Nat) (f : Field), fs[i]? = some f → ∃ x, DataW.trod enc P w 0 (fun _ => true) true n f.type ((cs.drop f.offset).take (P.cellsOf f.type)) = some x) →
    cs.length = off + d.sz → ∃ a : α, d.K w a (cs.drop off) ∧ wf a
theorem opensF_one {α : Type} {P : Program} {f : Field} {off : Nat} {d : Kd α} {wf : α → Prop} (hoff : f.offset = off) (hc : P.cellsOf f.type = d.sz) (ho : Opens P f.type d wf) : OpensF P [f] off d wf := by
  intro H enc w n cs h hl
  obtain ⟨x, hx⟩ := h 0 f rfl
  rw [hoff, hc, List.take_of_length_le (by rw [List.length_drop]; omega)] at hx
  exact ho enc w n _ _ hx
theorem opensF_cons {α β : Type} {P : Program} {f : Field} {fs : List Field} {off : Nat} {d : Kd α} {d' : Kd β} {wf : α → Prop} {wf' : β → Prop} (hoff : f.offset = off) (hc : P.cellsOf f.type = d.sz) (ho : Opens P f.type d wf) (hs : OpensF P fs (off + d.sz) d' wf') :
    OpensF P (f :: fs) off (Kd.pair d d') (fun p => wf p.1 ∧ wf' p.2) := by
  intro H enc w n cs h hl
  obtain ⟨x, hx⟩ := h 0 f rfl
  rw [hoff, hc] at hx
  obtain ⟨a, ha, hwa⟩ := ho enc w n _ _ hx
  obtain ⟨b, hb, hwb⟩ := hs enc w n cs (fun i g hg => h (i + 1) g hg) (by rw [hl]; show off + (d.sz + d'.sz) = _; omega)
  refine ⟨(a, b), ⟨_, _, ?_, ha, hb⟩, hwa, hwb⟩
  rw [← List.drop_drop, List.take_append_drop]
theorem opens_struct {α β : Type} {P : Program} {T : TypeId} {fs : Array Field} {d : Kd α} {wf : α → Prop} (f : β → α) (g : α → β) (hfg : ∀ a, f (g a) = a) (hT : P.underlying T = some (.struct fs)) (hc : P.cellsOf T = d.sz) (hs : OpensF P fs.toList 0 d wf) :
    Opens P T (Kd.iso d f) (fun b => wf (f b)) := by
  intro H enc w fuel cs x h
  obtain ⟨xs, n, _, _, hl, hxl, hx⟩ := DataW.trod_struct hT h
  obtain ⟨a, ha, hwa⟩ := hs enc w n cs (fun i f hf => by
    have hi : i < fs.size := by have := (List.getElem?_eq_some_iff.1 hf).1; simpa using this
    refine ⟨_, (hx i f (by simpa using hf)).trans (List.getElem?_eq_getElem (by omega))⟩) (by rw [hl, hc, Nat.zero_add])
  refine ⟨g a, ?_, ?_⟩
  · show d.K w (f (g a)) cs
    rw [hfg]
    exact ha
  · show wf (f (g a))
    rw [hfg]
    exact hwa
/-- An argument that is a slice. -/
theorem arg_slice {α : Type} {P : Program} {T e : TypeId} {d : Kd α} {wf : List α → Prop} (ho : Opens P T (Kd.slice e d) wf) {H : Type} {enc : TypeId × Value → H} {W : World} {v : Value} {x : DataW H} {p : List MemPlace}
    {r : Reach} {base : Nat} (hT : P.underlying T = some (.slice e)) (hv : Value.okWide P W r base T v) (h : DataW.Trod enc P W 0 (fun _ => true) true T v x p) :
    ∃ A c xs, v = .slice A xs.length c ∧ xs.length ≤ c ∧ d.C W A xs.length xs ∧ wf xs := by
  obtain ⟨a, len, cap, rfl⟩ := okWide_slice hT hv
  obtain ⟨fuel, hf⟩ := h
  obtain ⟨xs, ⟨A, c, hcs, hl, hC⟩, hwf⟩ := ho enc W fuel _ _ hf
  simp only [Value.cells, List.cons.injEq, and_true] at hcs
  exact ⟨A, c, xs, hcs, hl, hC, hwf⟩
/-- An argument that is a struct. -/
theorem arg_struct {α : Type} {P : Program} {T : TypeId} {fs : Array Field} {d : Kd α} {wf : α → Prop} (ho : Opens P T d wf) {H : Type} {enc : TypeId × Value → H} {W : World} {v : Value} {x : DataW H} {p : List MemPlace}
    {r : Reach} {base : Nat} (hT : P.underlying T = some (.struct fs)) (hv : Value.okWide P W r base T v) (h : DataW.Trod enc P W 0 (fun _ => true) true T v x p) :
    ∃ cs a, v = .agg cs ∧ d.K W a cs.toList ∧ wf a := by
  obtain ⟨cs, rfl, hsz⟩ := okWide_struct hT hv
  obtain ⟨fuel, hf⟩ := h
  obtain ⟨a, ha, hwf⟩ := ho enc W fuel _ _ hf
  exact ⟨cs, a, rfl, ha, hwf⟩
end Kd
end Go.Proofs.YtjefihcbhdennaaW.PrintWords
