/- Texts of this session, merged for the law SsiMore: O, SK, SPa, SP, SJ, SS, S14, SG, SH, S33, SI, SN, SU, SQ, PureSsiMore. No condition. -/
import Derived.Test.YtjefihcbhdennaaZSsiMorea
import Derived.Deep.Slices
import Derived.ChangeArms
import Derived.WideShapes
import Derived.ChangeAt2
import Derived.Lib.SmallJoins
import Derived.Test.YtjefihcbhdennaaZSsiMoree
import Derived.Test.YtjefihcbhdennaaZSsiMored
import Derived.Test.YtjefihcbhdennaaZSsiMoreb
import Derived.Test.YtjefihcbhdennaaZSsiMoref
import Derived.Test.YtjefihcbhdennaaZSsiMoreg
import Derived.Test.YtjefihcbhdennaaZSsiMoreh
namespace Go.Proofs.YtjefihcbhdennaaW.PrintWords
open Go.RowKit Go.ChangeShapes Go.WideShapes
namespace Kd
/-- What reads as data at type T reads as kind d, and is well formed. -/
def Opens {α : Type} (P : Program) (T : TypeId) (d : Kd α) (wf : α → Prop) : Prop :=
  ∀ {H : Type} (enc : TypeId × Value → H) (w : World) (fuel : Nat) (cs : List Value) (x : DataW H × List MemPlace),
    DataW.trod enc P w 0 (fun _ => true) true fuel T cs = some x → ∃ a : α, d.K w a cs ∧ wf a
theorem opens_int {P : Program} {T : TypeId} {k : IntKind} (hT : P.underlying T = some (.int k)) : Opens P T (Kd.int k) (fun n => (Lit.int k n).wf = true) := by
  intro H enc w fuel cs x h
  obtain ⟨n, h1, _, h2⟩ := DataW.trod_int hT h
  exact ⟨n, h1, h2⟩
theorem opens_string {P : Program} {T : TypeId} (hT : P.underlying T = some .string) : Opens P T Kd.string (fun s => s.size ≤ 9223372036854775807) := by
  intro H enc w fuel cs x h
  obtain ⟨s, h1, _, h2⟩ := DataW.trod_string hT h
  exact ⟨s, h1, by simpa [maxLen] using h2⟩
theorem list_of_lt {α : Type} {Q : Nat → α → Prop} : ∀ n : Nat, (∀ i, i < n → ∃ x, Q i x) → ∃ xs : List α, xs.length = n ∧ ∀ i x, xs[i]? = some x → Q i x
  | 0, _ => ⟨[], rfl, fun i x h => by simp at h⟩
  | n + 1, h => by
    obtain ⟨xs, hl, hq⟩ := list_of_lt n (fun i hi => h i (by omega))
    obtain ⟨y, hy⟩ := h n (by omega)
    refine ⟨xs ++ [y], by simp [hl], fun i x hx => ?_⟩
    rcases Nat.lt_or_ge i n with hlt | hge
    · rw [List.getElem?_append_left (by omega)] at hx
      exact hq i x hx
    · rw [List.getElem?_append_right (by omega)] at hx
      have hi : i - xs.length = 0 := by
        have := (List.getElem?_eq_some_iff.1 hx).1
        simp at this
        omega
      rw [hi] at hx
      simp at hx
      subst hx
      obtain rfl : i = n := by omega
      exact hy
theorem opens_slice {α : Type} {P : Program} {T e : TypeId} {d : Kd α} {wf : α → Prop} (hT : P.underlying T = some (.slice e)) (hc : P.cellsOf e = d.sz) (ho : Opens P e d wf) :
    Opens P T (Kd.slice e d) (fun xs => ∀ x ∈ xs, wf x) := by
  intro H enc w fuel cs x h
  rcases Deep.open_slice hT h with ⟨rfl, _⟩ | ⟨a, len, cap, m, n, D, Pl, rfl, hb, hl, hm, hmm, rfl, hx⟩
  · exact ⟨[], ⟨none, 0, rfl, Nat.le_refl _, C_nil d w⟩, by simp⟩
  · simp only [if_true] at hmm
    subst hmm
    obtain ⟨xs, hlen, hq⟩ := list_of_lt (α := α) (Q := fun i p => ∃ cs', w.cells? 0 (a.add (i * P.cellsOf e)) (P.cellsOf e) = some cs' ∧ d.K w p cs' ∧ wf p) len (fun i hi => by
      obtain ⟨cs', h1, h2⟩ := hx i (by omega)
      obtain ⟨p, hp, hwf⟩ := ho enc w n cs' _ h2
      exact ⟨p, cs', h1, hp, hwf⟩)
    subst hlen
    refine ⟨xs, ⟨some a, m, rfl, hl, rfl, by simp [maxLen] at hm; omega, fun _ => ⟨a, rfl, fun j p hj => ?_⟩⟩, fun p hp => ?_⟩
    · obtain ⟨cs', h1, h2, _⟩ := hq j p hj
      obtain ⟨_, h3, h4⟩ := World.cells?_some h1
      rw [hc] at h3 h4
      refine ⟨cs', h3, h2, fun i u hi => ?_⟩
      have hi2 : i < d.sz := by rw [← h3]; exact (List.getElem?_eq_some_iff.1 hi).1
      rw [← Deep.add_add, h4 i hi2, hi]
    · obtain ⟨i, hi, rfl⟩ := List.getElem_of_mem hp
      obtain ⟨_, _, _, h4⟩ := hq i _ (List.getElem?_eq_getElem hi)
      exact h4
/-- The fields from one on, at an offset. -/
def OpensF {α : Type} (P : Program) (fs : List Field) (off : Nat) (d : Kd α) (wf : α → Prop) : Prop :=
  ∀ {H : Type} (enc : TypeId × Value → H) (w : World) (n : Nat) (cs : List Value), (∀ (i : Nat) (f : Field), fs[i]? = some f → ∃ x, DataW.trod enc P w 0 (fun _ => true) true n f.type ((cs.drop f.offset).take (P.cellsOf f.type)) = some x) →
    cs.length = off + d.sz → ∃ a : α, d.K w a (cs.drop off) ∧ wf a
theorem opensF_one {α : Type} {P : Program} {f : Field} {off : Nat} {d : Kd α} {wf : α → Prop} (hoff : f.offset = off) (hc : P.cellsOf f.type = d.sz) (ho : Opens P f.type d wf) : OpensF P [f] off d wf := by
  intro H enc w n cs h hl
  obtain ⟨x, hx⟩ := h 0 f rfl
  rw [hoff, hc, List.take_of_length_le (by rw [List.length_drop]; omega)] at hx
  exact ho enc w n _ _ hx
theorem opensF_cons {α β : Type} {P : Program} {f : Field} {fs : List Field} {off : Nat} {d : Kd α} {d' : Kd β} {wf : α → Prop} {wf' : β → Prop} (hoff : f.offset = off) (hc : P.cellsOf f.type = d.sz) (ho : Opens P f.type d wf) (hs : OpensF P fs (off + d.sz) d' wf') :
    OpensF P (f :: fs) off (Kd.pair d d') (fun p => wf p.1 ∧ wf' p.2) := by
  intro H enc w n cs h hl
  obtain ⟨x, hx⟩ := h 0 f rfl
  rw [hoff, hc] at hx
  obtain ⟨a, ha, hwa⟩ := ho enc w n _ _ hx
  obtain ⟨b, hb, hwb⟩ := hs enc w n cs (fun i g hg => h (i + 1) g hg) (by rw [hl]; show off + (d.sz + d'.sz) = _; omega)
  refine ⟨(a, b), ⟨_, _, ?_, ha, hb⟩, hwa, hwb⟩
  rw [← List.drop_drop, List.take_append_drop]
theorem opens_struct {α β : Type} {P : Program} {T : TypeId} {fs : Array Field} {d : Kd α} {wf : α → Prop} (f : β → α) (g : α → β) (hfg : ∀ a, f (g a) = a) (hT : P.underlying T = some (.struct fs)) (hc : P.cellsOf T = d.sz) (hs : OpensF P fs.toList 0 d wf) :
    Opens P T (Kd.iso d f) (fun b => wf (f b)) := by
  intro H enc w fuel cs x h
  obtain ⟨xs, n, _, _, hl, hxl, hx⟩ := DataW.trod_struct hT h
  obtain ⟨a, ha, hwa⟩ := hs enc w n cs (fun i f hf => by
    have hi : i < fs.size := by have := (List.getElem?_eq_some_iff.1 hf).1; simpa using this
    refine ⟨_, (hx i f (by simpa using hf)).trans (List.getElem?_eq_getElem (by omega))⟩) (by rw [hl, hc, Nat.zero_add])
  refine ⟨g a, ?_, ?_⟩
  · show d.K w (f (g a)) cs
    rw [hfg]
    exact ha
  · show wf (f (g a))
    rw [hfg]
    exact hwa
/-- An argument that is a slice. -/
theorem arg_slice {α : Type} {P : Program} {T e : TypeId} {d : Kd α} {wf : List α → Prop} (ho : Opens P T (Kd.slice e d) wf) {H : Type} {enc : TypeId × Value → H} {W : World} {v : Value} {x : DataW H} {p : List MemPlace}
    {r : Reach} {base : Nat} (hT : P.underlying T = some (.slice e)) (hv : Value.okWide P W r base T v) (h : DataW.Trod enc P W 0 (fun _ => true) true T v x p) :
    ∃ A c xs, v = .slice A xs.length c ∧ xs.length ≤ c ∧ d.C W A xs.length xs ∧ wf xs := by
  obtain ⟨a, len, cap, rfl⟩ := okWide_slice hT hv
  obtain ⟨fuel, hf⟩ := h
  obtain ⟨xs, ⟨A, c, hcs, hl, hC⟩, hwf⟩ := ho enc W fuel _ _ hf
  simp only [Value.cells, List.cons.injEq, and_true] at hcs
  exact ⟨A, c, xs, hcs, hl, hC, hwf⟩
/-- An argument that is a struct. -/
theorem arg_struct {α : Type} {P : Program} {T : TypeId} {fs : Array Field} {d : Kd α} {wf : α → Prop} (ho : Opens P T d wf) {H : Type} {enc : TypeId × Value → H} {W : World} {v : Value} {x : DataW H} {p : List MemPlace}
    {r : Reach} {base : Nat} (hT : P.underlying T = some (.struct fs)) (hv : Value.okWide P W r base T v) (h : DataW.Trod enc P W 0 (fun _ => true) true T v x p) :
    ∃ cs a, v = .agg cs ∧ d.K W a cs.toList ∧ wf a := by
  obtain ⟨cs, rfl, hsz⟩ := okWide_struct hT hv
  obtain ⟨fuel, hf⟩ := h
  obtain ⟨a, ha, hwf⟩ := ho enc W fuel _ _ hf
  exact ⟨cs, a, rfl, ha, hwf⟩
end Kd
end Go.Proofs.YtjefihcbhdennaaW.PrintWords
namespace Go.Proofs.Ytjefihcbhdennaa.S
open Go.RowKit Go.Proofs.YtjefihcbhdennaaW.PrintWords
theorem opens_imp {α : Type} {P : Program} {T : TypeId} {d : Kd α} {wf wf' : α → Prop} (h : Kd.Opens P T d wf) (hi : ∀ w a cs, d.K w a cs → wf a → wf' a) : Kd.Opens P T d wf' := by
  intro H enc w fuel cs x hx
  obtain ⟨a, h1, h2⟩ := h enc w fuel cs x hx
  exact ⟨a, h1, hi w a cs h1 h2⟩
def W41 (x : S41) : Prop := x.f0.size ≤ 9223372036854775807 ∧ x.f1.size ≤ 9223372036854775807
def WL41 (l : List S41) : Prop := l.length ≤ 9223372036854775807 ∧ ∀ x ∈ l, W41 x
def W26 (x : S26) : Prop := (Lit.int .u64 x.f0).wf = true ∧ (Lit.int .u64 x.f1).wf = true ∧ (Lit.int .u64 x.f2).wf = true ∧ (Lit.int .u64 x.f3).wf = true ∧ WL41 x.f4 ∧ WL41 x.f5
theorem opens41 : Kd.Opens Try.prog 41 k41 W41 := Kd.opens_struct (fun x : S41 => (x.f0, x.f1)) (fun p => ⟨p.1, p.2⟩) (fun _ => rfl) Try.underlying41 (by kernel_rfl)
    (Kd.opensF_cons rfl (by kernel_rfl) (Kd.opens_string Try.underlying9) (Kd.opensF_one rfl (by kernel_rfl) (Kd.opens_string Try.underlying9)))
theorem opens24 : Kd.Opens Try.prog 24 (Kd.slice 41 k41) WL41 := opens_imp (Kd.opens_slice Try.underlying24 (by kernel_rfl) opens41) (fun w a cs h k => by
  obtain ⟨A, c, _, _, g⟩ := h
  exact ⟨g.2.1, k⟩)
theorem opens26 : Kd.Opens Try.prog 26 k26 W26 :=
  Kd.opens_struct (fun x : S26 => (x.f0, x.f1, x.f2, x.f3, x.f4, x.f5)) (fun p => ⟨p.1, p.2.1, p.2.2.1, p.2.2.2.1, p.2.2.2.2.1, p.2.2.2.2.2⟩) (fun _ => rfl) Try.underlying26 (by kernel_rfl)
    (Kd.opensF_cons rfl (by kernel_rfl) (Kd.opens_int Try.underlying23) (Kd.opensF_cons rfl (by kernel_rfl) (Kd.opens_int Try.underlying23) (Kd.opensF_cons rfl (by kernel_rfl) (Kd.opens_int Try.underlying23) (Kd.opensF_cons rfl (by kernel_rfl) (Kd.opens_int Try.underlying23) (Kd.opensF_cons rfl (by kernel_rfl) opens24 (Kd.opensF_one rfl (by kernel_rfl) opens24))))))
theorem opens22 : Kd.Opens Try.prog 22 (Kd.slice 26 k26) (fun xs => ∀ x ∈ xs, W26 x) := Kd.opens_slice Try.underlying22 (by kernel_rfl) opens26
theorem k41_heap : Kd.Heap k41 := Kd.heap_iso _ (Kd.heap_pair Kd.heap_string Kd.heap_string)
end Go.Proofs.Ytjefihcbhdennaa.S
namespace Go.Proofs.Ytjefihcbhdennaa.Pure
open Go.RowKit Go.Proofs.YtjefihcbhdennaaW.PrintWords Go.Proofs.Ytjefihcbhdennaa.S
theorem w1 {i n : Nat} (h : i < n) (hn : n ≤ 9223372036854775807) : wrap64 ((i : Int) + 1) = ((i + 1 : Nat) : Int) := by unfold wrap64; omega
theorem rd41 (l : List S41) (i : Nat) (h : i < l.length) : rd_T41 l (i : Int) = l[i] := by
  simp [rd_T41, List.getD_eq_getElem?_getD, h]
theorem rd26 (l : List S26) (i : Nat) (h : i < l.length) : rd_T26 l (i : Int) = l[i] := by
  simp [rd_T26, List.getD_eq_getElem?_getD, h]
theorem bl (a b : ByteArray) : Op.bytesLess a.toList b.toList = decide (a.toList < b.toList) := Proofs.bytesLess_eq _ _
theorem lt_tri (a b : List UInt8) : a < b ∨ a = b ∨ b < a := by
  by_cases h1 : a < b
  · exact .inl h1
  · by_cases h : b < a
    · exact .inr (.inr h)
    · exact .inr (.inl (List.le_antisymm (List.not_lt.1 h) (List.not_lt.1 h1)))
theorem ltt {a b c : List UInt8} (h : a < b) (k : b < c) : a < c := List.lt_trans h k
theorem lti (a : List UInt8) : ¬ a < a := List.lt_irrefl a
def meetL (a b : List S41) : Bool := a.any fun x => b.any fun y => meetsB x y
theorem meet_f (a b : List S41) : span_Meet.f a b = some (meetL a b) := rfl
def FewB (l : List S41) : Bool := decide ((l.length : Int) ≤ 40) && l.all fun s => decide (s.f0.size ≤ 300) && decide (s.f1.size ≤ 300)
theorem Few_ev (l : List S41) (hl : l.length ≤ 9223372036854775807) : Ev (fun k => conductorlaw09_Few.f k l) (FewB l) := by
  have key : ∀ d i : Nat, i + d = l.length → Ev (fun k => conductorlaw09_Few.l0 k l l (l.length : Int) (i : Int)) (decide ((l.length : Int) ≤ 40) && (l.drop i).all fun s => decide (s.f0.size ≤ 300) && decide (s.f1.size ≤ 300)) := by
    intro d
    induction d with
    | zero =>
      intro i hd
      refine Ev.step (f := fun _ => some (decide ((l.length : Int) ≤ 40))) (fun k => ?_) ?_
      · simp only [conductorlaw09_Few.l0]
        rw [if_neg (by omega)]
      · rw [List.drop_eq_nil_of_le (by omega)]; simpa using Ev.now _
    | succ d ih =>
      intro i hd
      have hi : i < l.length := by omega
      rw [List.drop_eq_getElem_cons hi, List.all_cons]
      by_cases h1 : (l[i].f0.size : Int) > 300
      · refine Ev.step (f := fun _ => some false) (fun k => ?_) ?_
        · simp only [conductorlaw09_Few.l0]
          rw [if_pos (by omega), if_pos (by omega), if_pos (by omega), rd41 _ i hi, if_pos h1]
        · have : ¬ l[i].f0.size ≤ 300 := by omega
          simpa [this] using Ev.now false
      · by_cases h2 : (l[i].f1.size : Int) > 300
        · refine Ev.step (f := fun _ => some false) (fun k => ?_) ?_
          · simp only [conductorlaw09_Few.l0]
            rw [if_pos (by omega), if_pos (by omega), if_pos (by omega), rd41 _ i hi, if_neg h1, if_pos h2]
          · have : ¬ l[i].f1.size ≤ 300 := by omega
            simpa [this] using Ev.now false
        · have h1' : l[i].f0.size ≤ 300 := by omega
          have h2' : l[i].f1.size ≤ 300 := by omega
          have := ih (i + 1) (by omega)
          refine Ev.step (fun k => ?_) (by simpa [h1', h2'] using this)
          simp only [conductorlaw09_Few.l0]
          rw [if_pos (by omega), if_pos (by omega), if_pos (by omega), rd41 _ i hi, if_neg h1, if_neg h2, w1 hi hl]; rfl
  exact key l.length 0 (by omega)
end Go.Proofs.Ytjefihcbhdennaa.Pure
namespace Go.Proofs.Ytjefihcbhdennaa.Pure
open Go.RowKit Go.Proofs.YtjefihcbhdennaaW.PrintWords Go.Proofs.Ytjefihcbhdennaa.S
def fewB (l : List S26) : Bool := decide ((l.length : Int) ≤ 20) && l.all fun r => FewB r.f4 && FewB r.f5 && decide (((r.f4.length + r.f5.length : Nat) : Int) ≤ 20)
theorem few_ev (l : List S26) (hl : l.length ≤ 9223372036854775807) (hw : ∀ r ∈ l, r.f4.length ≤ 9223372036854775807 ∧ r.f5.length ≤ 9223372036854775807) : Ev (fun k => conductorlaw10_few.f k l) (fewB l) := by
  have key : ∀ d i : Nat, i + d = l.length → Ev (fun k => conductorlaw10_few.l0 k l l (l.length : Int) (i : Int)) (decide ((l.length : Int) ≤ 20) && (l.drop i).all fun r => FewB r.f4 && FewB r.f5 && decide (((r.f4.length + r.f5.length : Nat) : Int) ≤ 20)) := by
    intro d
    induction d with
    | zero =>
      intro i hd
      refine Ev.step (f := fun _ => some (decide ((l.length : Int) ≤ 20))) (fun k => ?_) ?_
      · simp only [conductorlaw10_few.l0]
        rw [if_neg (by omega)]
      · rw [List.drop_eq_nil_of_le (by omega)]; simpa using Ev.now _
    | succ d ih =>
      intro i hd
      have hi : i < l.length := by omega
      obtain ⟨h4, h5⟩ := hw l[i] (List.getElem_mem hi)
      rw [List.drop_eq_getElem_cons hi, List.all_cons]
      refine Ev.step (fun k => by simp only [conductorlaw10_few.l0]; rw [if_pos (by omega), if_pos (by omega), if_pos (by omega), rd26 _ i hi]) ?_
      refine Ev.bind (Few_ev l[i].f4 h4) ?_
      cases hf4 : FewB l[i].f4 with
      | false => simpa using Ev.now false
      | true =>
        refine Ev.congr (fun k => by rw [if_pos rfl]) ?_
        refine Ev.bind (Few_ev l[i].f5 h5) ?_
        cases hf5 : FewB l[i].f5 with
        | false => simpa using Ev.now false
        | true =>
          refine Ev.congr (fun k => by rw [if_pos rfl]) ?_
          have e4 : l[i].f4.length ≤ 40 := by simp only [FewB, Bool.and_eq_true, decide_eq_true_eq] at hf4; omega
          have e5 : l[i].f5.length ≤ 40 := by simp only [FewB, Bool.and_eq_true, decide_eq_true_eq] at hf5; omega
          have ew : wrap64 ((l[i].f4.length : Int) + (l[i].f5.length : Int)) = ((l[i].f4.length + l[i].f5.length : Nat) : Int) := by unfold wrap64; omega
          by_cases h : ((l[i].f4.length + l[i].f5.length : Nat) : Int) > 20
          · refine Ev.congr (f := fun _ => some false) (fun k => by rw [ew, if_pos h]) ?_
            have : ¬ ((l[i].f4.length + l[i].f5.length : Nat) : Int) ≤ 20 := by omega
            rw [decide_eq_false this]; simpa using Ev.now false
          · have h' : ((l[i].f4.length + l[i].f5.length : Nat) : Int) ≤ 20 := by omega
            have := ih (i + 1) (by omega)
            rw [decide_eq_true h']
            refine Ev.congr (fun k => by rw [ew, if_neg h, w1 hi hl]) (by simpa using this)
  exact key l.length 0 (by omega)
theorem live10_ev : Ev (fun k => conductorlaw10_live.f k) true := Ev.of conductorlaw10_live.mono (k := 20) (by decide +kernel)
end Go.Proofs.Ytjefihcbhdennaa.Pure
namespace Go.Proofs.Ytjefihcbhdennaa.Pure
open Go.RowKit Go.Proofs.YtjefihcbhdennaaW.PrintWords Go.Proofs.YtjefihcbhdennaaW.PrintMore Go.Proofs.Ytjefihcbhdennaa.S
def lastI (r : S26) : Int := if (r.f5.length : Int) = 0 then r.f2 else r.f1
def jl0 (t2 : Int) (tw : List S41) : List S26 → Int → Bool → Int × Bool
  | [], m, b => (m, b)
  | r :: l, m, b => if (decide (t2 < r.f1) && meetL r.f4 tw) = true then jl0 t2 tw l (mx m (lastI r)) true else jl0 t2 tw l m b
def badB (t2 : Int) (tw : List S41) (x7 : Int) (x8 : Bool) (r : S26) : Bool := (!(r.f3 == 0) && (decide ((tw.length : Int) > 0) || decide (r.f3 ≤ t2))) || (x8 && decide (r.f0 ≤ x7))
def jl1 (t2 : Int) (tr tw : List S41) (x7 : Int) (x8 : Bool) : List S26 → Int → Bool → Int × Int
  | [], o, _ => (o, 0)
  | r :: l, o, b => if (decide (t2 < r.f1) && meetL tr r.f5) = true then (if badB t2 tw x7 x8 r = true then (0, 101) else if (!b || decide (r.f0 < o)) = true then jl1 t2 tr tw x7 x8 l r.f0 true else jl1 t2 tr tw x7 x8 l o b) else jl1 t2 tr tw x7 x8 l o b
def judge (l : List S26) (t : S26) : Int × Int := jl1 t.f2 t.f4 t.f5 (jl0 t.f2 t.f5 l 0 false).1 (jl0 t.f2 t.f5 l 0 false).2 l 0 false
section
variable (x7 : Int) (x8 : Bool) (o : Int) (b : Bool) (l : List S26) (n i a0 a1 t2 a3 : Int) (tr tw : List S41) (r : S26) (R1 R2 : Int × Int)
theorem j5_ev (h1 : Ev (fun k => ssi_Judge.l1 k x7 x8 r.f0 true false l n (wrap64 (i + 1)) a0 a1 t2 a3 tr tw) R1) (h2 : Ev (fun k => ssi_Judge.l1 k x7 x8 o b false l n (wrap64 (i + 1)) a0 a1 t2 a3 tr tw) R2) (c : Bool) :
    Ev (fun k => ssi_Judge.j5 k x7 x8 o b false l n i c a0 a1 t2 a3 tr tw r.f0 r.f1 r.f2 r.f3 r.f4 r.f5) (if c = true then (0, 101) else if (!b || decide (r.f0 < o)) = true then R1 else R2) := by
  cases c with
  | true => exact Ev.step (f := fun _ => some (0, 101)) (fun k => by simp only [ssi_Judge.j5, if_true]) (Ev.now _)
  | false =>
    cases b with
    | false => exact Ev.step (fun k => by simp only [ssi_Judge.j5, if_false, Bool.false_eq_true]; rfl) (by simpa using h1)
    | true =>
      by_cases h : r.f0 < o
      · exact Ev.step (fun k => by simp only [ssi_Judge.j5, if_false, Bool.false_eq_true, if_true, h]; rfl) (by simpa [h] using h1)
      · exact Ev.step (fun k => by simp only [ssi_Judge.j5, if_false, Bool.false_eq_true, if_true, h]; rfl) (by simpa [h] using h2)
theorem j4_ev (h1 : Ev (fun k => ssi_Judge.l1 k x7 x8 r.f0 true false l n (wrap64 (i + 1)) a0 a1 t2 a3 tr tw) R1) (h2 : Ev (fun k => ssi_Judge.l1 k x7 x8 o b false l n (wrap64 (i + 1)) a0 a1 t2 a3 tr tw) R2) (c : Bool) :
    Ev (fun k => ssi_Judge.j4 k x7 x8 o b false l n i c a0 a1 t2 a3 tr tw r.f0 r.f1 r.f2 r.f3 r.f4 r.f5) (if (c || (x8 && decide (r.f0 ≤ x7))) = true then (0, 101) else if (!b || decide (r.f0 < o)) = true then R1 else R2) := by
  cases c with
  | true => exact Ev.step (f := fun _ => some (0, 101)) (fun k => by simp only [ssi_Judge.j4, if_true]) (by simpa using Ev.now _)
  | false =>
    cases x8 with
    | false =>
      have h := j5_ev x7 false o b l n i a0 a1 t2 a3 tr tw r R1 R2 h1 h2 false
      exact Ev.step (fun k => by simp only [ssi_Judge.j4, if_false, Bool.false_eq_true]; rfl) (by simpa using h)
    | true =>
      have h := j5_ev x7 true o b l n i a0 a1 t2 a3 tr tw r R1 R2 h1 h2 (decide (r.f0 ≤ x7))
      exact Ev.step (fun k => by simp only [ssi_Judge.j4, if_false, Bool.false_eq_true, if_true]; rfl) (by simpa using h)
theorem j3_ev (h1 : Ev (fun k => ssi_Judge.l1 k x7 x8 r.f0 true false l n (wrap64 (i + 1)) a0 a1 t2 a3 tr tw) R1) (h2 : Ev (fun k => ssi_Judge.l1 k x7 x8 o b false l n (wrap64 (i + 1)) a0 a1 t2 a3 tr tw) R2) (c : Bool) :
    Ev (fun k => ssi_Judge.j3 k x7 x8 o b false l n i c a0 a1 t2 a3 tr tw r.f0 r.f1 r.f2 r.f3 r.f4 r.f5) (if (c || (!(r.f3 == 0) && decide (r.f3 ≤ t2)) || (x8 && decide (r.f0 ≤ x7))) = true then (0, 101) else if (!b || decide (r.f0 < o)) = true then R1 else R2) := by
  cases c with
  | true => exact Ev.step (f := fun _ => some (0, 101)) (fun k => by simp only [ssi_Judge.j3, if_true]) (by simpa using Ev.now _)
  | false =>
    by_cases h0 : r.f3 = 0
    · have h := j4_ev x7 x8 o b l n i a0 a1 t2 a3 tr tw r R1 R2 h1 h2 false
      exact Ev.step (fun k => by simp only [ssi_Judge.j3, if_false, Bool.false_eq_true]; rw [if_pos h0]) (by simpa [h0] using h)
    · have h := j4_ev x7 x8 o b l n i a0 a1 t2 a3 tr tw r R1 R2 h1 h2 (decide (r.f3 ≤ t2))
      exact Ev.step (fun k => by simp only [ssi_Judge.j3, if_false, Bool.false_eq_true]; rw [if_neg h0]) (by simpa [h0] using h)
theorem j2_ev (h1 : Ev (fun k => ssi_Judge.l1 k x7 x8 r.f0 true false l n (wrap64 (i + 1)) a0 a1 t2 a3 tr tw) R1) (h2 : Ev (fun k => ssi_Judge.l1 k x7 x8 o b false l n (wrap64 (i + 1)) a0 a1 t2 a3 tr tw) R2) :
    Ev (fun k => ssi_Judge.j2 k x7 x8 o b false l n i false a0 a1 t2 a3 tr tw r.f0 r.f1 r.f2 r.f3 r.f4 r.f5) (if badB t2 tw x7 x8 r = true then (0, 101) else if (!b || decide (r.f0 < o)) = true then R1 else R2) := by
  have e : badB t2 tw x7 x8 r = ((!(r.f3 == 0) && decide ((tw.length : Int) > 0)) || (!(r.f3 == 0) && decide (r.f3 ≤ t2)) || (x8 && decide (r.f0 ≤ x7))) := by
    unfold badB; cases (r.f3 == 0) <;> simp
  rw [e]
  by_cases h0 : r.f3 = 0
  · have h := j3_ev x7 x8 o b l n i a0 a1 t2 a3 tr tw r R1 R2 h1 h2 false
    exact Ev.step (fun k => by simp only [ssi_Judge.j2, if_false, Bool.false_eq_true]; rw [if_pos h0]) (by simpa [h0] using h)
  · have h := j3_ev x7 x8 o b l n i a0 a1 t2 a3 tr tw r R1 R2 h1 h2 (decide ((tw.length : Int) > 0))
    exact Ev.step (fun k => by simp only [ssi_Judge.j2, if_false, Bool.false_eq_true]; rw [if_neg h0]) (by simpa [h0] using h)
end
theorem jl1_ev (l : List S26) (hl : l.length ≤ 9223372036854775807) (x7 : Int) (x8 : Bool) (a0 a1 t2 a3 : Int) (tr tw : List S41) : ∀ (d i : Nat) (o : Int) (b : Bool), i + d = l.length →
    Ev (fun k => ssi_Judge.l1 k x7 x8 o b false l (l.length : Int) (i : Int) a0 a1 t2 a3 tr tw) (jl1 t2 tr tw x7 x8 (l.drop i) o b) := by
  intro d
  induction d with
  | zero =>
    intro i o b hd
    refine Ev.step (f := fun _ => some (o, 0)) (fun k => ?_) ?_
    · simp only [ssi_Judge.l1]
      rw [if_neg (by omega)]; rfl
    · rw [List.drop_eq_nil_of_le (by omega)]; exact Ev.now _
  | succ d ih =>
    intro i o b hd
    have hi : i < l.length := by omega
    have h1 := ih (i + 1) l[i].f0 true (by omega)
    have h2 := ih (i + 1) o b (by omega)
    rw [← w1 hi hl] at h1 h2
    rw [List.drop_eq_getElem_cons hi, jl1]
    have h := j2_ev x7 x8 o b l (l.length : Int) (i : Int) a0 a1 t2 a3 tr tw l[i] _ _ h1 h2
    by_cases hn : t2 < l[i].f1
    · cases hm : meetL tr l[i].f5 with
      | true =>
        refine Ev.step (fun k => ?_) (by simpa only [hn, decide_true, Bool.and_true, if_true] using h)
        simp only [ssi_Judge.l1]
        rw [if_pos (by omega), if_pos (by omega), if_pos (by omega), rd26 _ i hi]
        simp only [ssi_Judge_1.f, meet_f, hm, hn, decide_true, Option.bind_some, if_true, Bool.not_true]
      | false =>
        refine Ev.step (f := fun k => ssi_Judge.j2 k x7 x8 o b false l (l.length : Int) (i : Int) true a0 a1 t2 a3 tr tw l[i].f0 l[i].f1 l[i].f2 l[i].f3 l[i].f4 l[i].f5) (fun k => ?_) (Ev.step (f := fun k => ssi_Judge.l1 k x7 x8 o b false l (l.length : Int) (wrap64 (i + 1)) a0 a1 t2 a3 tr tw) (fun k => by simp only [ssi_Judge.j2, if_true]) (by simpa using h2))
        simp only [ssi_Judge.l1]
        rw [if_pos (by omega), if_pos (by omega), if_pos (by omega), rd26 _ i hi]
        simp only [ssi_Judge_1.f, meet_f, hm, hn, decide_true, Option.bind_some, if_true, Bool.not_false]
    · refine Ev.step (f := fun k => ssi_Judge.j2 k x7 x8 o b false l (l.length : Int) (i : Int) true a0 a1 t2 a3 tr tw l[i].f0 l[i].f1 l[i].f2 l[i].f3 l[i].f4 l[i].f5) (fun k => ?_) (Ev.step (f := fun k => ssi_Judge.l1 k x7 x8 o b false l (l.length : Int) (wrap64 (i + 1)) a0 a1 t2 a3 tr tw) (fun k => by simp only [ssi_Judge.j2, if_true]) (by simpa [hn] using h2))
      simp only [ssi_Judge.l1]
      rw [if_pos (by omega), if_pos (by omega), if_pos (by omega), rd26 _ i hi]
      simp only [ssi_Judge_1.f, hn, decide_false, Option.bind_some, if_false, Bool.false_eq_true]
theorem jl0_ev (l : List S26) (hl : l.length ≤ 9223372036854775807) (a0 a1 t2 a3 : Int) (tr tw : List S41) : ∀ (d i : Nat) (m : Int) (b : Bool), i + d = l.length →
    Ev (fun k => ssi_Judge.l0 k l m b l (l.length : Int) (i : Int) a0 a1 t2 a3 tr tw) (jl1 t2 tr tw (jl0 t2 tw (l.drop i) m b).1 (jl0 t2 tw (l.drop i) m b).2 l 0 false) := by
  intro d
  induction d with
  | zero =>
    intro i m b hd
    have h := jl1_ev l hl m b a0 a1 t2 a3 tr tw l.length 0 0 false (by omega)
    rw [List.drop_eq_nil_of_le (by omega)]
    refine Ev.step (fun k => ?_) h
    simp only [ssi_Judge.l0]
    rw [if_neg (by omega)]; rfl
  | succ d ih =>
    intro i m b hd
    have hi : i < l.length := by omega
    rw [List.drop_eq_getElem_cons hi, jl0]
    have h1 := ih (i + 1) (mx m (lastI l[i])) true (by omega)
    have h2 := ih (i + 1) m b (by omega)
    by_cases hn : t2 < l[i].f1
    · cases hm : meetL l[i].f4 tw with
      | true =>
        simp only [hn, decide_true, Bool.and_true, if_true]
        refine Ev.step (fun k => ?_) h1
        simp only [ssi_Judge.l0]
        rw [if_pos (by omega), if_pos (by omega), if_pos (by omega), rd26 _ i hi]
        simp only [ssi_Judge_1.f, meet_f, hm, hn, decide_true, Option.bind_some, if_true, w1 hi hl]
        by_cases h5 : (l[i].f5.length : Int) = 0 <;> simp only [ssi_last.f, lastI, h5, if_true, if_false, Option.bind_some] <;> rfl
      | false =>
        simp only [hn, decide_true, Bool.and_false, if_false, Bool.false_eq_true]
        refine Ev.step (fun k => ?_) h2
        simp only [ssi_Judge.l0]
        rw [if_pos (by omega), if_pos (by omega), if_pos (by omega), rd26 _ i hi]
        simp only [ssi_Judge_1.f, meet_f, hm, hn, decide_true, Option.bind_some, if_true, w1 hi hl, if_false, Bool.false_eq_true]
    · simp only [hn, decide_false, Bool.false_and, if_false, Bool.false_eq_true]
      refine Ev.step (fun k => ?_) h2
      simp only [ssi_Judge.l0]
      rw [if_pos (by omega), if_pos (by omega), if_pos (by omega), rd26 _ i hi]
      simp only [ssi_Judge_1.f, hn, decide_false, Option.bind_some, w1 hi hl, if_false, Bool.false_eq_true]
theorem judge_ev (l : List S26) (hl : l.length ≤ 9223372036854775807) (t : S26) : Ev (fun k => ssi_Judge.f k l t.f0 t.f1 t.f2 t.f3 t.f4 t.f5) (judge l t) :=
  jl0_ev l hl t.f0 t.f1 t.f2 t.f3 t.f4 t.f5 l.length 0 0 false (by omega)
end Go.Proofs.Ytjefihcbhdennaa.Pure
namespace Go.Proofs.Ytjefihcbhdennaa.Pure
open Go.RowKit Go.Proofs.YtjefihcbhdennaaW.PrintWords Go.Proofs.Ytjefihcbhdennaa.S
def g (d : List S41) (i : Nat) : S41 := d.getD i z41
def le (x y : S41) : Prop := ¬ y.f0.toList < x.f0.toList
theorem le_refl (x : S41) : le x x := lti _
theorem le_trans {x y z : S41} (h : le x y) (k : le y z) : le x z := fun hz => by
  rcases lt_tri x.f0.toList y.f0.toList with e | e | e
  · exact k (ltt hz e)
  · unfold le at k; rw [← e] at k; exact k hz
  · exact h e
def Keep (d r : List S41) (a b : Nat) : Prop := r.length = d.length ∧ r.Perm d ∧ (∀ t, t < a ∨ b ≤ t → g r t = g d t) ∧ ∀ t, a ≤ t → t < b → ∃ s, a ≤ s ∧ s < b ∧ g r t = g d s
theorem Keep.refl (d : List S41) (a b : Nat) : Keep d d a b := ⟨rfl, List.Perm.refl _, fun _ _ => rfl, fun t h1 h2 => ⟨t, h1, h2, rfl⟩⟩
theorem Keep.trans {d r q : List S41} {a b : Nat} (h : Keep d r a b) (k : Keep r q a b) : Keep d q a b :=
  ⟨k.1.trans h.1, k.2.1.trans h.2.1, fun t ht => (k.2.2.1 t ht).trans (h.2.2.1 t ht), fun t h1 h2 => by
    obtain ⟨s, s1, s2, s3⟩ := k.2.2.2 t h1 h2
    obtain ⟨u, u1, u2, u3⟩ := h.2.2.2 s s1 s2
    exact ⟨u, u1, u2, s3.trans u3⟩⟩
end Go.Proofs.Ytjefihcbhdennaa.Pure
namespace Go.Proofs.Ytjefihcbhdennaa.S
open Go.RowKit Go.Proofs.YtjefihcbhdennaaW.PrintWords Go.Proofs.YtjefihcbhdennaaW.PrintLast Go.Proofs.YtjefihcbhdennaaW.PrintMore
attribute [local go_sem] max2_int min2_int max2_str min2_str str_leq str_gtr str_geq max_two min_two max_three min_three max_four min_four   -- for this text's walks alone
set_option linter.unusedVariables false
set_option linter.unusedSimpArgs false
def rightB (x : S41) : Bool := (span_Right.f x.f0 x.f1).getD false
theorem rightB_eq (x : S41) : span_Right.f x.f0 x.f1 = some (rightB x) := by
 unfold rightB span_Right.f
 by_cases h : x.f1.toList = [] <;> simp only [h, if_true, if_false, Option.getD_some]
end Go.Proofs.Ytjefihcbhdennaa.S
namespace Go.Proofs.Ytjefihcbhdennaa.Pure
open Go.RowKit Go.Proofs.YtjefihcbhdennaaW.PrintWords Go.Proofs.Ytjefihcbhdennaa.S
def Rt (x : S41) : Prop := x.f1.toList = [] ∨ x.f0.toList < x.f1.toList
theorem rightB_iff (x : S41) : rightB x = true ↔ Rt x := by
  have h := rightB_eq x
  unfold span_Right.f at h
  simp only [bl] at h
  unfold Rt
  by_cases h1 : x.f1.toList = [] <;> by_cases h2 : x.f0.toList < x.f1.toList <;> simp [h1, h2] at h ⊢ <;> simp_all
def apart (c x : S41) : Prop := c.f1.toList ≠ [] ∧ c.f1.toList < x.f0.toList
def has (x : S41) (k : List UInt8) : Prop := ¬ k < x.f0.toList ∧ (x.f1.toList = [] ∨ k < x.f1.toList)
def Nrm : List S41 → Prop
  | [] => True
  | x :: t => Rt x ∧ (∀ y, t.head? = some y → apart x y) ∧ Nrm t
end Go.Proofs.Ytjefihcbhdennaa.Pure
namespace Go.Proofs.Ytjefihcbhdennaa.Pure
open Go.RowKit Go.Proofs.YtjefihcbhdennaaW.PrintWords Go.Proofs.Ytjefihcbhdennaa.S
def mem (l : List S41) (k : List UInt8) : Prop := ∃ x ∈ l, has x k
theorem mem_cons (x : S41) (l : List S41) (k : List UInt8) : mem (x :: l) k ↔ has x k ∨ mem l k := by simp [mem]
theorem apart_trans {a b c : S41} (hb : Rt b) (h : apart a b) (k : apart b c) : apart a c :=
  ⟨h.1, ltt h.2 (ltt (hb.resolve_left k.1) k.2)⟩
def NP (l : List S41) : Prop := (∀ x ∈ l, Rt x) ∧ l.Pairwise apart
theorem Nrm.np : ∀ {l : List S41}, Nrm l → NP l
  | [], _ => ⟨fun x h => (by cases h), List.Pairwise.nil⟩
  | x :: l, h => by
    obtain ⟨h1, h2, h3⟩ := h
    obtain ⟨k1, k2⟩ := h3.np
    refine ⟨fun y hy => ?_, List.Pairwise.cons (fun y hy => ?_) k2⟩
    · rcases List.mem_cons.1 hy with e | e
      · subst e; exact h1
      · exact k1 y e
    · cases l with
      | nil => cases hy
      | cons z t =>
        have hz := h2 z rfl
        rcases List.mem_cons.1 hy with e | e
        · subst e; exact hz
        · exact apart_trans (k1 z List.mem_cons_self) hz ((List.pairwise_cons.1 k2).1 y e)
theorem NP.nrm : ∀ {l : List S41}, NP l → Nrm l
  | [], _ => trivial
  | x :: l, h => by
    obtain ⟨h1, h2⟩ := h
    rw [List.pairwise_cons] at h2
    refine ⟨h1 x List.mem_cons_self, fun y hy => h2.1 y ?_, NP.nrm ⟨fun y hy => h1 y (List.mem_cons_of_mem _ hy), h2.2⟩⟩
    cases l with
    | nil => cases hy
    | cons z t => obtain rfl := Option.some.inj hy; exact List.mem_cons_self
theorem NP.rt {x : S41} {l : List S41} (h : NP (x :: l)) : Rt x := h.1 x List.mem_cons_self
end Go.Proofs.Ytjefihcbhdennaa.Pure
namespace Go.Proofs.Ytjefihcbhdennaa.S
open Go.RowKit Go.Proofs.YtjefihcbhdennaaW.PrintWords Go.Proofs.YtjefihcbhdennaaW.PrintLast Go.Proofs.YtjefihcbhdennaaW.PrintMore
attribute [local go_sem] max2_int min2_int max2_str min2_str str_leq str_gtr str_geq max_two min_two max_three min_three max_four min_four   -- for this text's walks alone
set_option linter.unusedVariables false
set_option linter.unusedSimpArgs false
def span_Normal.l0 : Nat → List (S41) → List (S41) → Int → Int → Option (Bool)
 | 0, _, _, _, _ => none
 | k + 1, x0, x5, x6, x7 => if x7 < x6 then (if 0 ≤ x7 then (if x7 < (x5.length : Int) then ((span_Right.f ((rd_T41 x5 x7).f0) ((rd_T41 x5 x7).f1)).bind fun t364 => (if t364 = true then (if x7 = 0 then (span_Normal.l0 k x0 x5 x6 (wrap64 (x7 + 1))) else (if 0 ≤ (wrap64 (x7 - 1)) then (if (wrap64 (x7 - 1)) < (x0.length : Int) then (if ((rd_T41 x0 (wrap64 (x7 - 1))).f1).toList = ([] : List UInt8) then (some false) else (if ((Op.bytesLess (((rd_T41 x0 (wrap64 (x7 - 1))).f1).toList) (((rd_T41 x5 x7).f0).toList)) = true) then (span_Normal.l0 k x0 x5 x6 (wrap64 (x7 + 1))) else (some false))) else (none)) else (none))) else (some false))) else (none)) else (none)) else (some true)
def span_Normal.f (k : Nat) (l0 : List (S41)) : Option (Bool) := span_Normal.l0 k l0 l0 (l0.length : Int) 0
end Go.Proofs.Ytjefihcbhdennaa.S
namespace Go.Proofs.Ytjefihcbhdennaa.Pure
open Go.RowKit Go.Proofs.YtjefihcbhdennaaW.PrintWords Go.Proofs.Ytjefihcbhdennaa.S
theorem np_nil : NP [] := ⟨fun x h => (by cases h), List.Pairwise.nil⟩
def chk : S41 → List S41 → Prop
  | _, [] => True
  | c, x :: t => Rt x ∧ apart c x ∧ chk x t
theorem chk_nrm : ∀ {c : S41} {t : List S41}, Rt c → (chk c t ↔ Nrm (c :: t))
  | c, [], h => by simp only [chk, Nrm, and_true, true_iff]; exact ⟨h, fun y hy => by cases hy⟩
  | c, x :: t, h => by
    rw [chk, Nrm]
    constructor
    · rintro ⟨h1, h2, h3⟩
      exact ⟨h, fun y hy => by obtain rfl := Option.some.inj hy; exact h2, (chk_nrm h1).1 h3⟩
    · rintro ⟨_, h2, h3⟩
      exact ⟨h3.1, h2 x rfl, (chk_nrm h3.1).2 h3⟩
theorem normal_l0 (l : List S41) (hl : l.length ≤ 9223372036854775807) : ∀ (d i : Nat) (hi : i < l.length), i + 1 + d = l.length →
    ∃ c, Ev (fun k => span_Normal.l0 k l l (l.length : Int) ((i + 1 : Nat) : Int)) c ∧ (c = true ↔ chk l[i] (l.drop (i + 1))) := by
  intro d
  induction d with
  | zero =>
    intro i hi hd
    refine ⟨true, Ev.step (f := fun _ => some true) (fun k => ?_) (Ev.now _), ?_⟩
    · simp only [span_Normal.l0]
      rw [if_neg (by omega)]
    · rw [List.drop_eq_nil_of_le (by omega)]; simp [chk]
  | succ d ih =>
    intro i hi hd
    have hj : i + 1 < l.length := by omega
    obtain ⟨c, h1, h2⟩ := ih (i + 1) hj (by omega)
    rw [← w1 hj hl] at h1
    rw [List.drop_eq_getElem_cons hj, chk, ← h2]
    have ew : wrap64 (((i + 1 : Nat) : Int) - 1) = (i : Int) := by unfold wrap64; omega
    cases hr : rightB l[i + 1] with
    | true =>
      have hr' := (rightB_iff _).1 hr
      by_cases e1 : l[i].f1.toList = []
      · refine ⟨false, Ev.step (f := fun _ => some false) (fun k => ?_) (Ev.now _), ?_⟩
        · simp only [span_Normal.l0]
          rw [if_pos (by omega), if_pos (by omega), if_pos (by omega), rd41 _ (i + 1) hj, rightB_eq, hr, Option.bind_some, if_pos rfl, if_neg (by omega), ew, if_pos (by omega), if_pos (by omega), rd41 _ i hi, if_pos e1]
        · simp only [Bool.false_eq_true, false_iff]; rintro ⟨_, e, _⟩; exact e.1 e1
      · by_cases e2 : l[i].f1.toList < l[i + 1].f0.toList
        · refine ⟨c, Ev.step (fun k => ?_) h1, ⟨fun h => ⟨hr', ⟨e1, e2⟩, h⟩, fun h => h.2.2⟩⟩
          simp only [span_Normal.l0]
          rw [if_pos (by omega), if_pos (by omega), if_pos (by omega), rd41 _ (i + 1) hj, rightB_eq, hr, Option.bind_some, if_pos rfl, if_neg (by omega), ew, if_pos (by omega), if_pos (by omega), rd41 _ i hi, if_neg e1, bl, if_pos (decide_eq_true e2)]
        · refine ⟨false, Ev.step (f := fun _ => some false) (fun k => ?_) (Ev.now _), ?_⟩
          · simp only [span_Normal.l0]
            rw [if_pos (by omega), if_pos (by omega), if_pos (by omega), rd41 _ (i + 1) hj, rightB_eq, hr, Option.bind_some, if_pos rfl, if_neg (by omega), ew, if_pos (by omega), if_pos (by omega), rd41 _ i hi, if_neg e1, bl, if_neg (by simpa using e2)]
          · simp only [Bool.false_eq_true, false_iff]; rintro ⟨_, e, _⟩; exact e2 e.2
    | false =>
      refine ⟨false, Ev.step (f := fun _ => some false) (fun k => ?_) (Ev.now _), ?_⟩
      · simp only [span_Normal.l0]
        rw [if_pos (by omega), if_pos (by omega), if_pos (by omega), rd41 _ (i + 1) hj, rightB_eq, hr, Option.bind_some, if_neg (by decide)]
      · simp only [Bool.false_eq_true, false_iff]; rintro ⟨e, _⟩; rw [(rightB_iff _).2 e] at hr; cases hr
theorem normal_ev (l : List S41) (hl : l.length ≤ 9223372036854775807) : ∃ c, Ev (fun k => span_Normal.f k l) c ∧ (c = true ↔ NP l) := by
  cases hm : l with
  | nil =>
    refine ⟨true, Ev.step (f := fun _ => some true) (fun k => ?_) (Ev.now _), by simp [np_nil]⟩
    unfold span_Normal.f
    simp only [span_Normal.l0]
    rw [if_neg (by simp)]
  | cons x t =>
    rw [← hm]
    have h0 : 0 < l.length := by rw [hm]; simp
    have e0 : l[0] = x := by simp [hm]
    have et : l.drop (0 + 1) = t := by simp [hm]
    obtain ⟨c, h1, h2⟩ := normal_l0 l hl (l.length - 1) 0 h0 (by omega)
    rw [e0, et] at h2
    have ew : wrap64 ((0 : Int) + 1) = ((0 + 1 : Nat) : Int) := by unfold wrap64; omega
    cases hr : rightB x with
    | true =>
      refine ⟨c, Ev.step (fun k => ?_) h1, by rw [h2, chk_nrm ((rightB_iff _).1 hr), ← hm]; exact ⟨Nrm.np, NP.nrm⟩⟩
      unfold span_Normal.f
      simp only [span_Normal.l0]
      rw [if_pos (by omega), if_pos (by omega), if_pos (by omega), show rd_T41 l 0 = x by rw [← e0]; exact rd41 l 0 h0, rightB_eq, hr, Option.bind_some, if_pos rfl, ew]
      rw [if_pos trivial]
    | false =>
      refine ⟨false, Ev.step (f := fun _ => some false) (fun k => ?_) (Ev.now _), ?_⟩
      · unfold span_Normal.f
        simp only [span_Normal.l0]
        rw [if_pos (by omega), if_pos (by omega), if_pos (by omega), show rd_T41 l 0 = x by rw [← e0]; exact rd41 l 0 h0, rightB_eq, hr, Option.bind_some, if_neg (by decide)]
      · simp only [Bool.false_eq_true, false_iff]; intro e; rw [hm] at e; rw [(rightB_iff _).2 e.rt] at hr; cases hr
end Go.Proofs.Ytjefihcbhdennaa.Pure
namespace Go.Proofs.Ytjefihcbhdennaa.Pure
open Go.RowKit Go.Proofs.YtjefihcbhdennaaW.PrintWords Go.Proofs.Ytjefihcbhdennaa.S
theorem rnormal_l0 : ∀ (k : Nat) (a b : List S41) (n i : Int), conductorref09_Normal.l0 k a b n i = span_Normal.l0 k a b n i
  | 0, _, _, _, _ => rfl
  | k + 1, a, b, n, i => by
    have ih := rnormal_l0 k a b n
    simp only [conductorref09_Normal.l0, span_Normal.l0, ih, show ∀ x y, conductorref09_Right.f x y = span_Right.f x y from fun _ _ => rfl]
    by_cases h0 : 0 ≤ i
    · by_cases h1 : i = 0
      · simp [h1]
      · have h2 : i > 0 := by omega
        simp only [h1, h2, if_true, if_false]
    · simp only [h0, if_false]
theorem rnormal_f (k : Nat) (l : List S41) : conductorref09_Normal.f k l = span_Normal.f k l := rnormal_l0 k l l _ _
end Go.Proofs.Ytjefihcbhdennaa.Pure
namespace Go.Proofs.Ytjefihcbhdennaa.Pure
open Go.RowKit Go.Proofs.YtjefihcbhdennaaW.PrintWords Go.Proofs.YtjefihcbhdennaaW.PrintMore Go.Proofs.Ytjefihcbhdennaa.S
def Rgt (r : S26) : Prop := r.f0 ≥ 1 ∧ r.f0 ≤ r.f1 ∧ r.f2 ≤ r.f1 ∧ NP r.f4 ∧ NP r.f5
theorem rright10_ev (r : S26) (h4 : r.f4.length ≤ 9223372036854775807) (h5 : r.f5.length ≤ 9223372036854775807) : ∃ c, Ev (fun k => conductorref10_Right.f k r.f0 r.f1 r.f2 r.f3 r.f4 r.f5) c ∧ (c = true ↔ Rgt r) := by
  have no : ¬ Rgt r → (∃ e, Ev (fun k => conductorref10_Right.f k r.f0 r.f1 r.f2 r.f3 r.f4 r.f5) e ∧ e = false) → ∃ c, Ev (fun k => conductorref10_Right.f k r.f0 r.f1 r.f2 r.f3 r.f4 r.f5) c ∧ (c = true ↔ Rgt r) := fun hn ⟨e, h, he⟩ =>
    ⟨e, h, by rw [he]; simp [hn]⟩
  by_cases g0 : r.f0 ≥ 1
  · by_cases g1 : r.f0 ≤ r.f1
    · by_cases g2 : r.f2 ≤ r.f1
      · obtain ⟨c, c1, c2⟩ := normal_ev r.f4 h4
        obtain ⟨d, d1, d2⟩ := normal_ev r.f5 h5
        cases c with
        | false =>
          refine no (fun h => by have := c2.2 h.2.2.2.1; cases this) ⟨false, ?_, rfl⟩
          refine Ev.congr (fun k => by unfold conductorref10_Right.f; rw [if_pos g0, if_pos g1, if_pos g2, rnormal_f]) (Ev.bind c1 ?_)
          exact Ev.congr (f := fun _ => some false) (fun k => by rw [if_neg (by decide)]) (Ev.now _)
        | true =>
          refine ⟨d, ?_, by rw [d2]; exact ⟨fun h => ⟨g0, g1, g2, c2.1 rfl, h⟩, fun h => h.2.2.2.2⟩⟩
          refine Ev.congr (fun k => by unfold conductorref10_Right.f; rw [if_pos g0, if_pos g1, if_pos g2, rnormal_f]) (Ev.bind c1 ?_)
          refine Ev.congr (fun k => by rw [if_pos rfl, rnormal_f]) (Ev.bind d1 (Ev.now d))
      · exact no (fun h => g2 h.2.2.1) ⟨false, Ev.congr (f := fun _ => some false) (fun k => by unfold conductorref10_Right.f; rw [if_pos g0, if_pos g1, if_neg g2]) (Ev.now _), rfl⟩
    · exact no (fun h => g1 h.2.1) ⟨false, Ev.congr (f := fun _ => some false) (fun k => by unfold conductorref10_Right.f; rw [if_pos g0, if_neg g1]) (Ev.now _), rfl⟩
  · exact no (fun h => g0 h.1) ⟨false, Ev.congr (f := fun _ => some false) (fun k => by unfold conductorref10_Right.f; rw [if_neg g0]) (Ev.now _), rfl⟩
theorem rights_ev (l : List S26) (hl : l.length ≤ 9223372036854775807) (hw : ∀ r ∈ l, r.f4.length ≤ 9223372036854775807 ∧ r.f5.length ≤ 9223372036854775807) : ∃ c, Ev (fun k => conductorlaw10_right.f k l) c ∧ (c = true ↔ ∀ r ∈ l, Rgt r) := by
  have go : ∀ d i : Nat, i + d = l.length → ∃ c, Ev (fun k => conductorlaw10_right.l0 k l (l.length : Int) (i : Int)) c ∧ (c = true ↔ ∀ r ∈ l.drop i, Rgt r) := by
    intro d
    induction d with
    | zero =>
      intro i hd
      refine ⟨true, Ev.step (f := fun _ => some true) (fun k => ?_) (Ev.now _), ?_⟩
      · simp only [conductorlaw10_right.l0]
        rw [if_neg (by omega)]
      · rw [List.drop_eq_nil_of_le (by omega)]; simp
    | succ d ih =>
      intro i hd
      have hi : i < l.length := by omega
      obtain ⟨c, c1, c2⟩ := ih (i + 1) (by omega)
      rw [← w1 hi hl] at c1
      obtain ⟨h4, h5⟩ := hw l[i] (List.getElem_mem hi)
      obtain ⟨e, e1, e2⟩ := rright10_ev l[i] h4 h5
      rw [List.drop_eq_getElem_cons hi]
      cases e with
      | true =>
        refine ⟨c, Ev.step (fun k => by simp only [conductorlaw10_right.l0]; rw [if_pos (by omega), if_pos (by omega), if_pos (by omega), rd26 _ i hi]) (Ev.bind e1 (Ev.congr (fun k => by rw [if_pos rfl]) c1)), ?_⟩
        rw [c2, List.forall_mem_cons]
        exact ⟨fun h => ⟨e2.1 rfl, h⟩, fun h => h.2⟩
      | false =>
        refine ⟨false, Ev.step (fun k => by simp only [conductorlaw10_right.l0]; rw [if_pos (by omega), if_pos (by omega), if_pos (by omega), rd26 _ i hi]) (Ev.bind e1 (Ev.congr (f := fun _ => some false) (fun k => by rw [if_neg (by decide)]) (Ev.now _))), ?_⟩
        rw [List.forall_mem_cons]
        simp only [Bool.false_eq_true, false_iff]
        rintro ⟨h, _⟩; have := e2.2 h; cases this
  obtain ⟨c, c1, c2⟩ := go l.length 0 (by omega)
  rw [List.drop_zero] at c2
  exact ⟨c, c1, c2⟩
def cand (t2 : Int) (tr : List S41) (r : S26) : Bool := decide (t2 < r.f1) && meetL tr r.f5
/-- The least First of the candidates, or o, where b tells that there is one. -/
def least1 (t2 : Int) (tr : List S41) : List S26 → Int → Bool → Int × Bool
  | [], o, b => (o, b)
  | r :: l, o, b => if cand t2 tr r = true then (if (!b || decide (r.f0 < o)) = true then least1 t2 tr l r.f0 true else least1 t2 tr l o b) else least1 t2 tr l o b
theorem jl1_eq (t2 : Int) (tr tw : List S41) (x7 : Int) (x8 : Bool) : ∀ (l : List S26) (o : Int) (b : Bool),
    jl1 t2 tr tw x7 x8 l o b = if (l.any fun r => cand t2 tr r && badB t2 tw x7 x8 r) = true then (0, 101) else ((least1 t2 tr l o b).1, 0)
  | [], o, b => by simp [jl1, least1]
  | r :: l, o, b => by
    have ih := jl1_eq t2 tr tw x7 x8 l
    unfold jl1 least1
    rw [List.any_cons, ih, ih]
    unfold cand
    cases h1 : (decide (t2 < r.f1) && meetL tr r.f5) with
    | false => simp
    | true =>
      cases h2 : badB t2 tw x7 x8 r with
      | true => simp
      | false =>
        simp only [Bool.true_and, Bool.false_or, if_true, Bool.false_eq_true, if_false]
        split <;> split <;> rfl
/-- a is the least time that is told (0: none) over a set of Firsts. -/
theorem least1_spec (t2 : Int) (tr : List S41) : ∀ (l : List S26) (o : Int) (b : Bool), ((least1 t2 tr l o b).2 = true ↔ b = true ∨ ∃ r ∈ l, cand t2 tr r = true) ∧ (b = true → (least1 t2 tr l o b).1 ≤ o) ∧ (∀ r ∈ l, cand t2 tr r = true → (least1 t2 tr l o b).1 ≤ r.f0) ∧
    ((b = true ∧ (least1 t2 tr l o b).1 = o) ∨ (∃ r ∈ l, cand t2 tr r = true ∧ (least1 t2 tr l o b).1 = r.f0) ∨ (b = false ∧ (least1 t2 tr l o b) = (o, false)))
  | [], o, b => by cases b <;> simp [least1]
  | r :: l, o, b => by
    unfold least1
    by_cases hc : cand t2 tr r = true
    · rw [if_pos hc]
      by_cases hb : (!b || decide (r.f0 < o)) = true
      · rw [if_pos hb]
        obtain ⟨a1, a2, a3, a4⟩ := least1_spec t2 tr l r.f0 true
        refine ⟨?_, fun hbt => ?_, fun q hq hcq => ?_, ?_⟩
        · rw [a1]; simp [hc]
        · have : r.f0 < o := by simpa [hbt] using hb
          have := a2 rfl
          omega
        · rcases List.mem_cons.1 hq with e | e
          · subst e; exact a2 rfl
          · exact a3 q e hcq
        · rcases a4 with ⟨_, e⟩ | ⟨q, hq, hcq, e⟩ | ⟨e, _⟩
          · exact .inr (.inl ⟨r, List.mem_cons_self, hc, e⟩)
          · exact .inr (.inl ⟨q, List.mem_cons_of_mem _ hq, hcq, e⟩)
          · cases e
      · rw [if_neg hb]
        have hbt : b = true := by cases b <;> simp_all
        have hro : ¬ r.f0 < o := by simpa [hbt] using hb
        obtain ⟨a1, a2, a3, a4⟩ := least1_spec t2 tr l o b
        refine ⟨?_, a2, fun q hq hcq => ?_, ?_⟩
        · rw [a1]; simp [hbt]
        · rcases List.mem_cons.1 hq with e | e
          · subst e; have := a2 hbt; omega
          · exact a3 q e hcq
        · rcases a4 with h | ⟨q, hq, hcq, e⟩ | h
          · exact .inl h
          · exact .inr (.inl ⟨q, List.mem_cons_of_mem _ hq, hcq, e⟩)
          · exact .inr (.inr h)
    · rw [if_neg hc]
      obtain ⟨a1, a2, a3, a4⟩ := least1_spec t2 tr l o b
      refine ⟨?_, a2, fun q hq hcq => ?_, ?_⟩
      · rw [a1]; simp [hc]
      · rcases List.mem_cons.1 hq with e | e
        · subst e; exact absurd hcq hc
        · exact a3 q e hcq
      · rcases a4 with h | ⟨q, hq, hcq, e⟩ | h
        · exact .inl h
        · exact .inr (.inl ⟨q, List.mem_cons_of_mem _ hq, hcq, e⟩)
        · exact .inr (.inr h)
/-- who lies in danger's way behind t -/
def back (t : S26) (r : S26) : Bool := decide (t.f2 < r.f1) && meetL r.f4 t.f5
theorem jl0_spec (t2 : Int) (tw : List S41) : ∀ (l : List S26) (m : Int) (b : Bool), ((jl0 t2 tw l m b).2 = true ↔ b = true ∨ ∃ r ∈ l, (decide (t2 < r.f1) && meetL r.f4 tw) = true) ∧ (m ≤ (jl0 t2 tw l m b).1) ∧ (∀ r ∈ l, (decide (t2 < r.f1) && meetL r.f4 tw) = true → lastI r ≤ (jl0 t2 tw l m b).1) ∧
    ((jl0 t2 tw l m b).1 = m ∨ ∃ r ∈ l, (decide (t2 < r.f1) && meetL r.f4 tw) = true ∧ (jl0 t2 tw l m b).1 = lastI r)
  | [], m, b => by simp [jl0]
  | r :: l, m, b => by
    unfold jl0
    by_cases hc : (decide (t2 < r.f1) && meetL r.f4 tw) = true
    · rw [if_pos hc]
      obtain ⟨a1, a2, a3, a4⟩ := jl0_spec t2 tw l (mx m (lastI r)) true
      have hm : m ≤ mx m (lastI r) ∧ lastI r ≤ mx m (lastI r) ∧ (mx m (lastI r) = m ∨ mx m (lastI r) = lastI r) := by unfold mx; split <;> omega
      refine ⟨by rw [a1]; exact ⟨fun _ => .inr ⟨r, List.mem_cons_self, hc⟩, fun _ => .inl rfl⟩, by omega, fun q hq hcq => ?_, ?_⟩
      · rcases List.mem_cons.1 hq with e | e
        · subst e; omega
        · exact a3 q e hcq
      · rcases a4 with e | ⟨q, hq, hcq, e⟩
        · rcases hm.2.2 with k | k
          · exact .inl (e.trans k)
          · exact .inr ⟨r, List.mem_cons_self, hc, e.trans k⟩
        · exact .inr ⟨q, List.mem_cons_of_mem _ hq, hcq, e⟩
    · rw [if_neg hc]
      obtain ⟨a1, a2, a3, a4⟩ := jl0_spec t2 tw l m b
      refine ⟨⟨fun h => (a1.1 h).imp id (fun ⟨q, hq, h⟩ => ⟨q, List.mem_cons_of_mem _ hq, h⟩), fun h => a1.2 (h.imp id (fun ⟨q, hq, h⟩ => (List.mem_cons.1 hq).elim (fun e => absurd (by rw [← e]; exact h) hc) (fun e => ⟨q, e, h⟩)))⟩, a2, fun q hq hcq => ?_, ?_⟩
      · rcases List.mem_cons.1 hq with e | e
        · subst e; exact absurd hcq hc
        · exact a3 q e hcq
      · exact a4.imp id (fun ⟨q, hq, h⟩ => ⟨q, List.mem_cons_of_mem _ hq, h⟩)
/-- Danger: a candidate that lets t not stand. -/
def Bad (l : List S26) (t a : S26) : Prop := a ∈ l ∧ cand t.f2 t.f4 a = true ∧ ((a.f3 ≠ 0 ∧ (t.f5 ≠ [] ∨ a.f3 ≤ t.f2)) ∨ ∃ b ∈ l, back t b = true ∧ a.f0 ≤ lastI b)
theorem judge_spec (l : List S26) (t : S26) (h1 : ∀ r ∈ l, r.f0 ≥ 1) :
    ((∃ a, Bad l t a) ∧ judge l t = (0, 101)) ∨ ((¬ ∃ a, Bad l t a) ∧ (judge l t).2 = 0 ∧ (((judge l t).1 = 0 ∧ ∀ r ∈ l, cand t.f2 t.f4 r = false) ∨ ((judge l t).1 ≠ 0 ∧ (∀ r ∈ l, cand t.f2 t.f4 r = true → (judge l t).1 ≤ r.f0) ∧ ∃ r ∈ l, cand t.f2 t.f4 r = true ∧ (judge l t).1 = r.f0))) := by
  obtain ⟨j1, j2, j3, j4⟩ := jl0_spec t.f2 t.f5 l 0 false
  have hbad : (l.any fun r => cand t.f2 t.f4 r && badB t.f2 t.f5 (jl0 t.f2 t.f5 l 0 false).1 (jl0 t.f2 t.f5 l 0 false).2 r) = true ↔ ∃ a, Bad l t a := by
    rw [List.any_eq_true]
    constructor
    · rintro ⟨a, ha, hb⟩
      rw [Bool.and_eq_true] at hb
      refine ⟨a, ha, hb.1, ?_⟩
      have hb := hb.2
      unfold badB at hb
      rw [Bool.or_eq_true] at hb
      rcases hb with hb | hb
      · simp only [Bool.and_eq_true, Bool.not_eq_true', beq_eq_false_iff_ne, Bool.or_eq_true, decide_eq_true_eq] at hb
        refine .inl ⟨hb.1, hb.2.imp (fun h e => ?_) id⟩
        rw [e] at h; simp at h
      · simp only [Bool.and_eq_true, decide_eq_true_eq] at hb
        refine .inr ?_
        rcases j4 with e | ⟨r, hr, hc, e⟩
        · obtain ⟨r, hr, hc⟩ := (j1.1 hb.1).resolve_left (by decide)
          exact absurd (h1 a ha) (by have := hb.2; omega)
        · exact ⟨r, hr, hc, by have := hb.2; omega⟩
    · rintro ⟨a, ha, hc, hb⟩
      refine ⟨a, ha, ?_⟩
      rw [Bool.and_eq_true]
      refine ⟨hc, ?_⟩
      unfold badB
      rw [Bool.or_eq_true]
      rcases hb with ⟨e1, e2⟩ | ⟨b, hb, hbk, hle⟩
      · left
        simp only [Bool.and_eq_true, Bool.not_eq_true', beq_eq_false_iff_ne, Bool.or_eq_true, decide_eq_true_eq]
        refine ⟨e1, e2.imp (fun h => ?_) id⟩
        have := List.length_pos_iff.2 h
        omega
      · right
        simp only [Bool.and_eq_true, decide_eq_true_eq]
        exact ⟨j1.2 (.inr ⟨b, hb, hbk⟩), by have := j3 b hb hbk; omega⟩
  obtain ⟨a1, a2, a3, a4⟩ := least1_spec t.f2 t.f4 l 0 false
  by_cases hB : ∃ a, Bad l t a
  · refine .inl ⟨hB, ?_⟩
    unfold judge
    rw [jl1_eq, if_pos (hbad.2 hB)]
  · have hj : judge l t = ((least1 t.f2 t.f4 l 0 false).1, 0) := by
      unfold judge
      rw [jl1_eq, if_neg (fun h => hB (hbad.1 h))]
    refine .inr ⟨hB, by rw [hj], ?_⟩
    rw [hj]
    rcases a4 with ⟨e, _⟩ | ⟨r, hr, hc, e⟩ | ⟨_, e⟩
    · cases e
    · exact .inr ⟨by have := h1 r hr; simp only; omega, a3, r, hr, hc, e⟩
    · refine .inl ⟨by rw [e], fun r hr => ?_⟩
      cases hc : cand t.f2 t.f4 r with
      | false => rfl
      | true => have := a1.2 (.inr ⟨r, hr, hc⟩); rw [e] at this; cases this
end Go.Proofs.Ytjefihcbhdennaa.Pure
namespace Go.Proofs.Ytjefihcbhdennaa.Pure
open Go.RowKit Go.Proofs.YtjefihcbhdennaaW.PrintWords Go.Proofs.YtjefihcbhdennaaW.PrintMore Go.Proofs.Ytjefihcbhdennaa.S
theorem few_wf (l : List S26) (hl : l.length ≤ 9223372036854775807) (hw : ∀ x ∈ l, W26 x) : Ev (fun k => conductorlaw10_few.f k l) (fewB l) :=
  few_ev l hl (fun r hr => ⟨(hw r hr).2.2.2.2.1.1, (hw r hr).2.2.2.2.2.1⟩)
theorem fewB_spec {l : List S26} (h : fewB l = true) : l.length ≤ 20 ∧ ∀ r ∈ l, r.f4.length ≤ 40 ∧ r.f5.length ≤ 40 := by
  simp only [fewB, FewB, Bool.and_eq_true, decide_eq_true_eq, List.all_eq_true] at h
  exact ⟨by omega, fun r hr => by have := h.2 r hr; omega⟩
end Go.Proofs.Ytjefihcbhdennaa.Pure
namespace Go.Proofs.Ytjefihcbhdennaa.Pure
open Go.RowKit Go.Proofs.YtjefihcbhdennaaW.PrintWords Go.Proofs.Ytjefihcbhdennaa.S
theorem meetL_more {a b a' b' : List S41} (ha : ∀ x ∈ a, x ∈ a') (hb : ∀ x ∈ b, x ∈ b') (h : meetL a b = true) : meetL a' b' = true := by
  unfold meetL at h ⊢
  rw [List.any_eq_true] at h ⊢
  obtain ⟨x, hx, h⟩ := h
  rw [List.any_eq_true] at h
  obtain ⟨y, hy, h⟩ := h
  exact ⟨x, ha x hx, List.any_eq_true.2 ⟨y, hb y hy, h⟩⟩
theorem judge_more (l : List S26) (t : S26) (h1 : ∀ r ∈ l, r.f0 ≥ 1) (rs ws : List S41) (x : S26) (hx : x = ⟨t.f0, t.f1, t.f2, t.f3, t.f4 ++ rs, t.f5 ++ ws⟩) :
    if (judge l x).2 = 0 then (judge l t).2 = 0 ∧ ((judge l t).1 = 0 ∨ ((judge l x).1 ≠ 0 ∧ (judge l x).1 ≤ (judge l t).1)) else judge l x = (0, 101) := by
  have hc : ∀ r, cand t.f2 t.f4 r = true → cand x.f2 x.f4 r = true := fun r h => by
    unfold cand at h ⊢
    rw [Bool.and_eq_true] at h ⊢
    subst hx
    exact ⟨h.1, meetL_more (fun x hx => List.mem_append_left _ hx) (fun _ h => h) h.2⟩
  have hb : ∀ r, back t r = true → back x r = true := fun r h => by
    unfold back at h ⊢
    rw [Bool.and_eq_true] at h ⊢
    subst hx
    exact ⟨h.1, meetL_more (fun _ h => h) (fun x hx => List.mem_append_left _ hx) h.2⟩
  have hB : (∃ a, Bad l t a) → ∃ a, Bad l x a := fun ⟨a, ha, hca, h⟩ => by
    refine ⟨a, ha, hc a hca, h.imp (fun ⟨e1, e2⟩ => ⟨e1, ?_⟩) (fun ⟨b, h1, h2, h3⟩ => ⟨b, h1, hb b h2, h3⟩)⟩
    subst hx
    exact e2.imp (fun e k => e (List.append_eq_nil_iff.1 k).1) id
  rcases judge_spec l x h1 with ⟨_, e⟩ | ⟨hn, e0, e1⟩
  · rw [e]; simp
  · rw [if_pos e0]
    rcases judge_spec l t h1 with ⟨k, _⟩ | ⟨_, k0, k1⟩
    · exact absurd (hB k) hn
    · refine ⟨k0, ?_⟩
      rcases k1 with ⟨k1, _⟩ | ⟨_, _, r, hr, hcr, k1⟩
      · exact .inl k1
      · right
        rcases e1 with ⟨_, e1⟩ | ⟨e1, e2, _⟩
        · have := e1 r hr; rw [hc r hcr] at this; cases this
        · exact ⟨e1, by rw [k1]; exact e2 r hr (hc r hcr)⟩
theorem SsiMore (l : List S26) (hl : l.length ≤ 9223372036854775807) (wl : ∀ x ∈ l, W26 x) (t : S26) (wt : W26 t) (h4 : t.f4.length ≤ 9223372036854775807) (h5 : t.f5.length ≤ 9223372036854775807)
    (rs : List S41) (hrs : rs.length ≤ 9223372036854775807) (wr : WL41 rs) (ws : List S41) (hws : ws.length ≤ 9223372036854775807) (ww : WL41 ws) :
    ∃ k, conductorlaw10_SsiMore.f k l t.f0 t.f1 t.f2 t.f3 t.f4 t.f5 rs ws = some true := by
  refine Ev.rounds (g := fun k => conductorlaw10_SsiMore.f k l t.f0 t.f1 t.f2 t.f3 t.f4 t.f5 rs ws) ?_
  have hlive : Ev (fun k => conductorlaw10_SsiMore.j0 k l rs ws true t.f0 t.f1 t.f2 t.f3 t.f4 t.f5) true :=
    Ev.step (fun k => by simp only [conductorlaw10_SsiMore.j0, if_true]) (Ev.bind live10_ev (Ev.now true))
  unfold conductorlaw10_SsiMore.f
  refine Ev.bind live10_ev (Ev.congr (fun k => by rw [if_pos rfl]) (Ev.bind (few_wf l hl wl) ?_))
  cases hf : fewB l with
  | false => exact Ev.congr (fun k => by rw [if_neg (by decide)]) hlive
  | true =>
    have h2 := few_ev [t, ⟨0, 0, 0, 0, rs, ws⟩] (by simp) (fun r hr => by
      simp only [List.mem_cons, List.not_mem_nil, or_false] at hr
      rcases hr with e | e
      · subst e; exact ⟨h4, h5⟩
      · subst e; exact ⟨hrs, hws⟩)
    refine Ev.congr (fun k => by rw [if_pos rfl]) (Ev.bind h2 ?_)
    cases hf2 : fewB [t, ⟨0, 0, 0, 0, rs, ws⟩] with
    | false => exact Ev.congr (fun k => by rw [if_neg (by decide)]) hlive
    | true =>
      obtain ⟨c, c1, c2⟩ := rights_ev l hl (fun r hr => ⟨(wl r hr).2.2.2.2.1.1, (wl r hr).2.2.2.2.2.1⟩)
      refine Ev.congr (fun k => by rw [if_pos rfl]) (Ev.bind c1 ?_)
      cases c with
      | false => exact hlive
      | true =>
        have hr := c2.1 rfl
        have hfs := (fewB_spec hf2).2
        have ht := hfs t (by simp)
        have hq := hfs ⟨0, 0, 0, 0, rs, ws⟩ (by simp)
        simp only at hq
        have hm := judge_more l t (fun r h => (hr r h).1) rs ws _ rfl
        have j1 := judge_ev l hl t
        have j2 := judge_ev l hl ⟨t.f0, t.f1, t.f2, t.f3, t.f4 ++ rs, t.f5 ++ ws⟩
        simp only at j2
        refine Ev.step (fun k => by simp only [conductorlaw10_SsiMore.j0, Bool.not_true, if_false, Bool.false_eq_true, Option.bind_some, List.nil_append]; rfl) ?_
        refine Ev.congr (fun k => by rw [if_pos (by rw [List.length_nil]; omega), if_pos (by omega), if_pos (by rw [List.length_nil]; omega), if_pos (by omega)]) (Ev.bind j1 (Ev.bind j2 ?_))
        refine Ev.congr (f := fun _ => some true) (fun k => ?_) (Ev.now _)
        by_cases e : (judge l ⟨t.f0, t.f1, t.f2, t.f3, t.f4 ++ rs, t.f5 ++ ws⟩).2 = 0
        · rw [if_pos e] at hm
          rw [if_pos e, if_pos hm.1]
          rcases hm.2 with k | ⟨k1, k2⟩
          · rw [if_pos k]
          · by_cases k : (judge l t).1 = 0
            · rw [if_pos k]
            · rw [if_neg k, if_neg k1, decide_eq_true k2]
        · rw [if_neg e] at hm
          rw [if_neg e, hm]; rfl
end Go.Proofs.Ytjefihcbhdennaa.Pure
