/- The plain law of SsiAlone. -/
import Derived.Test.YtjefihcbhdennaaSJ
import Derived.Test.YtjefihcbhdennaaS0
import Derived.Test.YtjefihcbhdennaaS35
import Derived.Test.YtjefihcbhdennaaS39
import Derived.Test.YtjefihcbhdennaaSK
namespace Go.Proofs.Ytjefihcbhdennaa.Pure
open Go.RowKit Go.Proofs.YtjefihcbhdennaaW.PrintWords Go.Proofs.YtjefihcbhdennaaW.PrintMore Go.Proofs.Ytjefihcbhdennaa.S
theorem jl1_form (t2 : Int) (tr tw : List S41) (x7 : Int) (x8 : Bool) : ∀ (l : List S26) (o : Int) (b : Bool), (jl1 t2 tr tw x7 x8 l o b).2 = 0 ∨ jl1 t2 tr tw x7 x8 l o b = (0, 101)
  | [], o, b => .inl rfl
  | r :: l, o, b => by
    rw [jl1]
    split
    · split
      · exact .inr rfl
      · split
        · exact jl1_form t2 tr tw x7 x8 l _ _
        · exact jl1_form t2 tr tw x7 x8 l _ _
    · exact jl1_form t2 tr tw x7 x8 l _ _
def aheadB (t : S26) (r : S26) : Bool := decide (t.f2 < r.f1) && meetL t.f4 r.f5
theorem jl1_alone (t : S26) (x7 : Int) (x8 : Bool) : ∀ (l : List S26) (o : Int) (b : Bool), l.any (aheadB t) = false → jl1 t.f2 t.f4 t.f5 x7 x8 l o b = (o, 0)
  | [], o, b, _ => rfl
  | r :: l, o, b, h => by
    rw [List.any_cons, Bool.or_eq_false_iff] at h
    rw [jl1, show (decide (t.f2 < r.f1) && meetL t.f4 r.f5) = false from h.1]
    exact jl1_alone t x7 x8 l o b h.2
def fin (p : Int × Int) (b : Bool) : Bool := if b = true then (if p.2 = 0 then true else if p.2 = 101 then p.1 == 0 else false) else if p.1 = 0 then p.2 == 0 else false
theorem alone_l0 (p : Int × Int) (l : List S26) (hl : l.length ≤ 9223372036854775807) (hw : ∀ x ∈ l, W26 x) (t : S26) (h4 : t.f4.length ≤ 9223372036854775807) : ∀ (d i : Nat) (b : Bool), i + d = l.length →
    Ev (fun k => conductorlaw10_SsiAlone.l0 k p.1 p.2 b l (l.length : Int) (i : Int) t.f0 t.f1 t.f2 t.f3 t.f4 t.f5) (fin p (b || (l.drop i).any (aheadB t))) := by
  intro d
  induction d with
  | zero =>
    intro i b hd
    rw [List.drop_eq_nil_of_le (by omega), List.any_nil, Bool.or_false]
    refine Ev.step (f := fun _ => some (fin p b)) (fun k => ?_) (Ev.now _)
    simp only [conductorlaw10_SsiAlone.l0]
    rw [if_neg (by omega)]
    unfold fin
    cases b <;> simp only [if_true, if_false, Bool.false_eq_true] <;> (repeat' split) <;> rfl
  | succ d ih =>
    intro i b hd
    have hi : i < l.length := by omega
    rw [List.drop_eq_getElem_cons hi, List.any_cons]
    cases b with
    | true =>
      have h := ih (i + 1) true (by omega)
      rw [Bool.true_or] at h ⊢
      refine Ev.step (fun k => ?_) h
      simp only [conductorlaw10_SsiAlone.l0]
      rw [if_pos (by omega), if_pos (by omega), if_pos (by omega), if_pos trivial, w1 hi hl]
    | false =>
      by_cases hn : t.f2 < l[i].f1
      · have h := ih (i + 1) (meetL t.f4 l[i].f5) (by omega)
        rw [Bool.false_or, show aheadB t l[i] = meetL t.f4 l[i].f5 by simp [aheadB, hn]]
        have h5 := (hw _ (List.getElem_mem hi)).2.2.2.2.2.1
        refine Ev.step (fun k => ?_) (Ev.bind (f := fun k b => conductorlaw10_SsiAlone.l0 k p.1 p.2 b l (l.length : Int) ((i + 1 : Nat) : Int) t.f0 t.f1 t.f2 t.f3 t.f4 t.f5) (refMeet_ev t.f4 l[i].f5 h4 h5) h)
        simp only [conductorlaw10_SsiAlone.l0]
        rw [if_pos (by omega), if_pos (by omega), if_pos (by omega), if_neg (by decide), rd26 _ i hi, if_pos hn, w1 hi hl]
      · have h := ih (i + 1) false (by omega)
        rw [Bool.false_or, show aheadB t l[i] = false by simp [aheadB, hn]]
        refine Ev.step (fun k => ?_) h
        simp only [conductorlaw10_SsiAlone.l0]
        rw [if_pos (by omega), if_pos (by omega), if_pos (by omega), if_neg (by decide), rd26 _ i hi, if_neg hn, w1 hi hl]
theorem few1_ev (t : S26) (ht : W26 t) : Ev (fun k => conductorlaw10_few.f k [(⟨t.f0, t.f1, t.f2, t.f3, t.f4, t.f5⟩ : S26)]) (fewB [t]) :=
  few_ev [t] (by simp) (fun r hr => by rw [List.mem_singleton] at hr; subst hr; exact ⟨ht.2.2.2.2.1.1, ht.2.2.2.2.2.1⟩)
theorem few_wf (l : List S26) (hl : l.length ≤ 9223372036854775807) (hw : ∀ x ∈ l, W26 x) : Ev (fun k => conductorlaw10_few.f k l) (fewB l) :=
  few_ev l hl (fun r hr => ⟨(hw r hr).2.2.2.2.1.1, (hw r hr).2.2.2.2.2.1⟩)
theorem SsiAlone (l : List S26) (hl : l.length ≤ 9223372036854775807) (hw : ∀ x ∈ l, W26 x) (t : S26) (ht : W26 t) (h4 : t.f4.length ≤ 9223372036854775807) (h5 : t.f5.length ≤ 9223372036854775807) :
    ∃ k, conductorlaw10_SsiAlone.f k l t.f0 t.f1 t.f2 t.f3 t.f4 t.f5 = some true := by
  refine Ev.rounds (g := fun k => conductorlaw10_SsiAlone.f k l t.f0 t.f1 t.f2 t.f3 t.f4 t.f5) ?_
  have hlive : Ev (fun k => conductorlaw10_SsiAlone.j0 k l true t.f0 t.f1 t.f2 t.f3 t.f4 t.f5) true :=
    Ev.step (fun k => by simp only [conductorlaw10_SsiAlone.j0, if_true]) (Ev.bind live10_ev (Ev.now true))
  have hmain : Ev (fun k => conductorlaw10_SsiAlone.j0 k l false t.f0 t.f1 t.f2 t.f3 t.f4 t.f5) true := by
    have h0 := alone_l0 (judge l t) l hl hw t h4 l.length 0 false (by omega)
    have e : fin (judge l t) (false || (l.drop 0).any (aheadB t)) = true := by
      rw [List.drop_zero, Bool.false_or]
      cases ha : l.any (aheadB t) with
      | true =>
        rcases jl1_form t.f2 t.f4 t.f5 (jl0 t.f2 t.f5 l 0 false).1 (jl0 t.f2 t.f5 l 0 false).2 l 0 false with h | h
        · unfold fin judge; rw [if_pos rfl, if_pos h]
        · unfold fin judge; rw [h]; rfl
      | false => unfold fin judge; rw [jl1_alone t _ _ l 0 false ha]; rfl
    rw [e] at h0
    exact Ev.step (fun k => by simp only [conductorlaw10_SsiAlone.j0, if_false, Bool.false_eq_true]; rfl) (Ev.bind (judge_ev l hl t) h0)
  unfold conductorlaw10_SsiAlone.f
  refine Ev.bind live10_ev (Ev.congr (fun k => by rw [if_pos rfl]) (Ev.bind (few_wf l hl hw) ?_))
  cases fewB l with
  | false => exact Ev.congr (fun k => by rw [if_neg (by decide)]) hlive
  | true =>
    refine Ev.congr (fun k => by rw [if_pos rfl]) (Ev.bind (few1_ev t ht) ?_)
    cases fewB [t] with
    | false => exact hlive
    | true => exact hmain
end Go.Proofs.Ytjefihcbhdennaa.Pure
