/- The plain law of SsiForgets. -/
import Derived.Test.YtjefihcbhdennaaSQ
import Derived.Test.YtjefihcbhdennaaS0
import Derived.Test.YtjefihcbhdennaaSCl
import Derived.Test.YtjefihcbhdennaaS40
import Derived.Test.YtjefihcbhdennaaS41
import Derived.Test.YtjefihcbhdennaaS42
namespace Go.Proofs.Ytjefihcbhdennaa.Pure
open Go.RowKit Go.Proofs.YtjefihcbhdennaaW.PrintWords Go.Proofs.YtjefihcbhdennaaW.PrintMore Go.Proofs.Ytjefihcbhdennaa.S
theorem own_eq (r : S26) (h4 : r.f4.length ≤ 40) (h5 : r.f5.length ≤ 40) : ssi_own.f r.f0 r.f1 r.f2 r.f3 r.f4 r.f5 = some (r.f0, r.f1, r.f2, r.f3, r.f4, r.f5) := by
  unfold ssi_own.f api_Span_58.f
  rw [if_pos (by omega), if_pos (by omega)]; rfl
theorem forget_ev (l : List S26) (low : Int) (h : fewB l = true) : Ev (fun k => ssi_Forget.f k l low) (l.filter fun r => decide (low < r.f1)) := by
  obtain ⟨hl, hr⟩ := fewB_spec h
  have key : ∀ (d i : Nat) (acc : List S26), i + d = l.length → acc.length ≤ i → Ev (fun k => ssi_Forget.l0 k low acc l (l.length : Int) (i : Int)) (acc ++ (l.drop i).filter fun r => decide (low < r.f1)) := by
    intro d
    induction d with
    | zero =>
      intro i acc hd ha
      rw [List.drop_eq_nil_of_le (by omega), List.filter_nil, List.append_nil]
      refine Ev.step (f := fun _ => some acc) (fun k => ?_) (Ev.now _)
      simp only [ssi_Forget.l0]
      rw [if_neg (by omega)]
    | succ d ih =>
      intro i acc hd ha
      have hi : i < l.length := by omega
      obtain ⟨h4, h5⟩ := hr l[i] (List.getElem_mem hi)
      rw [List.drop_eq_getElem_cons hi, List.filter_cons]
      by_cases hn : low < l[i].f1
      · have h0 := ih (i + 1) (acc ++ [l[i]]) (by omega) (by rw [List.length_append, List.length_singleton]; omega)
        rw [if_pos (by simpa using hn), ← List.singleton_append, ← List.append_assoc]
        refine Ev.step (fun k => ?_) h0
        simp only [ssi_Forget.l0]
        rw [if_pos (by omega), if_pos (by omega), if_pos (by omega), rd26 _ i hi, if_pos hn, own_eq _ h4 h5, Option.bind_some, if_pos (by omega), w1 hi (by omega)]
      · have h0 := ih (i + 1) acc (by omega) (by omega)
        rw [if_neg (by simpa using hn)]
        refine Ev.step (fun k => ?_) h0
        simp only [ssi_Forget.l0]
        rw [if_pos (by omega), if_pos (by omega), if_pos (by omega), rd26 _ i hi, if_neg hn, w1 hi (by omega)]
  exact key l.length 0 [] (by omega) (by simp)
theorem jl0_forget (t2 low : Int) (h : low ≤ t2) (tw : List S41) : ∀ (l : List S26) (m : Int) (b : Bool), jl0 t2 tw (l.filter fun r => decide (low < r.f1)) m b = jl0 t2 tw l m b
  | [], m, b => rfl
  | r :: l, m, b => by
    rw [List.filter_cons]
    by_cases hn : low < r.f1
    · rw [if_pos (by simpa using hn), jl0, jl0, jl0_forget t2 low h tw l, jl0_forget t2 low h tw l]
    · have hd : decide (t2 < r.f1) = false := decide_eq_false (by omega)
      rw [if_neg (by simpa using hn), jl0_forget t2 low h tw l]
      conv => rhs; rw [jl0, hd, Bool.false_and, if_neg (by decide)]
theorem jl1_forget (t2 low : Int) (h : low ≤ t2) (tr tw : List S41) (x7 : Int) (x8 : Bool) : ∀ (l : List S26) (o : Int) (b : Bool), jl1 t2 tr tw x7 x8 (l.filter fun r => decide (low < r.f1)) o b = jl1 t2 tr tw x7 x8 l o b
  | [], o, b => rfl
  | r :: l, o, b => by
    rw [List.filter_cons]
    by_cases hn : low < r.f1
    · rw [if_pos (by simpa using hn), jl1, jl1, jl1_forget t2 low h tr tw x7 x8 l, jl1_forget t2 low h tr tw x7 x8 l]
    · have hd : decide (t2 < r.f1) = false := decide_eq_false (by omega)
      rw [if_neg (by simpa using hn), jl1_forget t2 low h tr tw x7 x8 l]
      conv => rhs; rw [jl1, hd, Bool.false_and, if_neg (by decide)]
theorem judge_forget (l : List S26) (t : S26) (low : Int) (h : low ≤ t.f2) : judge (l.filter fun r => decide (low < r.f1)) t = judge l t := by
  unfold judge
  rw [jl0_forget t.f2 low h, jl1_forget t.f2 low h]
theorem SsiForgets (l : List S26) (hl : l.length ≤ 9223372036854775807) (hw : ∀ x ∈ l, W26 x) (t : S26) (ht : W26 t) (h4 : t.f4.length ≤ 9223372036854775807) (h5 : t.f5.length ≤ 9223372036854775807) (low : Int) (hlow : (Lit.int .u64 low).wf = true) :
    ∃ k, conductorlaw10_SsiForgets.f k l t.f0 t.f1 t.f2 t.f3 t.f4 t.f5 low = some true := by
  refine Ev.rounds (g := fun k => conductorlaw10_SsiForgets.f k l t.f0 t.f1 t.f2 t.f3 t.f4 t.f5 low) ?_
  have hlive : Ev (fun k => conductorlaw10_SsiForgets.j0 k l low true t.f0 t.f1 t.f2 t.f3 t.f4 t.f5) true :=
    Ev.step (fun k => by simp only [conductorlaw10_SsiForgets.j0, if_true]) (Ev.bind live10_ev (Ev.now true))
  unfold conductorlaw10_SsiForgets.f
  refine Ev.bind live10_ev (Ev.congr (fun k => by rw [if_pos rfl]) (Ev.bind (few_wf l hl hw) ?_))
  cases hf : fewB l with
  | false => exact Ev.congr (fun k => by rw [if_neg (by decide)]) hlive
  | true =>
    refine Ev.congr (fun k => by rw [if_pos rfl]) (Ev.bind (few1_ev t ht) ?_)
    cases fewB [t] with
    | false => exact Ev.congr (fun k => by rw [if_neg (by decide)]) hlive
    | true =>
      by_cases hn : low > t.f2
      · exact Ev.congr (fun k => by rw [if_pos rfl, decide_eq_true hn]) hlive
      · refine Ev.congr (f := fun k => conductorlaw10_SsiForgets.j0 k l low false t.f0 t.f1 t.f2 t.f3 t.f4 t.f5) (fun k => by rw [if_pos rfl, decide_eq_false hn]) ?_
        have hj := judge_ev l hl t
        have hlen : (l.filter fun r => decide (low < r.f1)).length ≤ 9223372036854775807 := Nat.le_trans (List.length_filter_le _ _) hl
        have hj2 := judge_ev (l.filter fun r => decide (low < r.f1)) hlen t
        rw [judge_forget l t low (by omega)] at hj2
        refine Ev.step (fun k => by simp only [conductorlaw10_SsiForgets.j0, if_false, Bool.false_eq_true]; rfl) (Ev.bind hj (Ev.bind (forget_ev l low hf) (Ev.bind hj2 ?_)))
        exact Ev.congr (f := fun _ => some true) (fun k => by rw [if_pos rfl]; simp) (Ev.now _)
end Go.Proofs.Ytjefihcbhdennaa.Pure
