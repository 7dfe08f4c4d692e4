/- The plain law of ChainTrims: what the printed functions compute answers true at every input. No condition. -/
import Derived.Test.YteofdgonpbmdlaaCL
import Derived.Test.YteofdgonpbmdlaaC0
import Derived.Test.YteofdgonpbmdlaaC8
import Derived.Test.YteofdgonpbmdlaaC18
import Derived.Test.YteofdgonpbmdlaaC19
namespace Go.Proofs.Yteofdgonpbmdlaa.Pure
open Go.RowKit Go.Proofs.YteofdgonpbmdlaaW.PrintWords Go.Proofs.Yteofdgonpbmdlaa.C

theorem rTrim_loop (l : List S28) (hl : l.length ≤ 1000) (a : Int) : ∀ (d i : Nat) (acc : List S28) (k : Nat), i + d = l.length → acc.length + d ≤ 2000 → d < k → conductorref07_Trim.l0 k a acc l l.length i = some (acc ++ (l.drop i).filter fun v => decide (a < v.f0)) := by
  intro d
  induction d with
  | zero =>
    intro i acc k hd ha hk
    obtain ⟨k, rfl⟩ : ∃ m, k = m + 1 := ⟨k - 1, by omega⟩
    simp only [conductorref07_Trim.l0]
    rw [if_neg (by omega), List.drop_eq_nil_of_le (by omega)]; simp
  | succ d ih =>
    intro i acc k hd ha hk
    obtain ⟨k, rfl⟩ : ∃ m, k = m + 1 := ⟨k - 1, by omega⟩
    have hi : i < l.length := by omega
    simp only [conductorref07_Trim.l0]
    rw [if_pos (by omega), if_pos (by omega), if_pos (by omega), w1 hi (by omega), rd_nat l i hi, List.drop_eq_getElem_cons hi]
    by_cases h1 : l[i].f0 > a
    · rw [if_pos h1, if_pos (by omega), ih (i + 1) _ k (by omega) (by simp; omega) (by omega), List.filter_cons, if_pos (by simpa using h1), List.append_assoc]
      rfl
    · rw [if_neg h1, ih (i + 1) _ k (by omega) (by omega) (by omega), List.filter_cons, if_neg (by simpa using h1)]
theorem filter_upto {l : List S28} {a : Int} {n : Nat} (h : Upto l a n) : (l.filter fun v => decide (a < v.f0)) = l.drop n := by
  have e : l.filter (fun v => decide (a < v.f0)) = (l.take n).filter (fun v => decide (a < v.f0)) ++ (l.drop n).filter (fun v => decide (a < v.f0)) := by rw [← List.filter_append, List.take_append_drop]
  rw [e, List.filter_eq_nil_iff.2 (fun v hv => ?_), List.filter_eq_self.2 (fun v hv => ?_), List.nil_append]
  · simpa using h.drop_gt v hv
  · obtain ⟨i, hi, rfl⟩ := List.getElem_of_mem hv
    rw [List.getElem_take]
    have h2 := h.1
    have := h.2.1 i (by rw [List.length_take] at hi; omega) (by rw [List.length_take] at hi; omega)
    simp; omega
theorem rTrim_ev {l : List S28} {a : Int} (hl : l.length ≤ 1000) {n : Nat} (h : Upto l a n) : Ev (fun k => conductorref07_Trim.f k l a) (l.drop (tAt l n)) := by
  unfold conductorref07_Trim.f
  simp only [Option.bind_some]
  refine Ev.bind (rFind_ev l hl a h) ?_
  have hj1 : ∀ acc : List S28, acc.length ≤ 1000 → Ev (fun k => conductorref07_Trim.j1 k l a acc) (acc ++ l.drop n) := fun acc ha => by
    refine Ev.step (fun k => by simp only [conductorref07_Trim.j1]; rfl) ⟨l.length + 1, fun k hk => ?_⟩
    have := rTrim_loop l hl a l.length 0 acc k (by omega) (by omega) (by omega)
    rwa [List.drop_zero, filter_upto h] at this
  have hn := h.1
  by_cases h0 : 0 < n ∧ n ≤ l.length
  · simp only [fndV_pos h0, if_true]
    by_cases hg : l[n - 1].f1 = false
    · refine Ev.step (f := fun k => conductorref07_Trim.j1 k l a ([] ++ [(⟨l[n - 1].f0, l[n - 1].f1, l[n - 1].f2⟩ : S28)])) (fun k => by simp only [conductorref07_Trim.j0, hg, Bool.not_false, if_true]; rfl) ?_
      have := hj1 ([] ++ [(⟨l[n - 1].f0, l[n - 1].f1, l[n - 1].f2⟩ : S28)]) (by simp)
      have e : l.drop (tAt l n) = ([] ++ [(⟨l[n - 1].f0, l[n - 1].f1, l[n - 1].f2⟩ : S28)]) ++ l.drop n := by
        unfold tAt
        rw [dif_pos h0, if_pos hg, List.drop_eq_getElem_cons (by omega)]
        have : n - 1 + 1 = n := by omega
        rw [this]; rfl
      rw [e]; exact this
    · have hg' : l[n - 1].f1 = true := by simpa using hg
      refine Ev.step (f := fun k => conductorref07_Trim.j1 k l a []) (fun k => by simp only [conductorref07_Trim.j0, hg', Bool.not_true, Bool.false_eq_true, if_false]) ?_
      have e : l.drop (tAt l n) = [] ++ l.drop n := by
        unfold tAt
        rw [dif_pos h0, if_neg hg]; rfl
      rw [e]; exact hj1 [] (by simp)
  · simp only [fndV_neg h0, Bool.false_eq_true, if_false]
    refine Ev.step (f := fun k => conductorref07_Trim.j1 k l a []) (fun k => by simp only [conductorref07_Trim.j0, Bool.false_eq_true, if_false]) ?_
    have e : l.drop (tAt l n) = [] ++ l.drop n := by
      unfold tAt
      rw [dif_neg h0]; rfl
    rw [e]; exact hj1 [] (by simp)
theorem ChainTrims (l : List S28) (hm : l.length ≤ 9223372036854775807) (_hw : ∀ x ∈ l, (Lit.int .u64 x.f0).wf = true ∧ True ∧ ∀ n ∈ x.f2, (Lit.int .u8 n).wf = true) (a : Int) (_ha : (Lit.int .u64 a).wf = true) : ∃ k, conductorlaw07_ChainTrims.f k l a = some true := by
  refine Ev.rounds ?_
  unfold conductorlaw07_ChainTrims.f
  refine Ev.bind live_ev ?_
  simp only [if_true]
  refine Ev.bind (few_ev l hm) ?_
  have hj : Ev (fun k => conductorlaw07_ChainTrims.j0 k l a true) true := by
    refine Ev.step (f := fun k => (conductorlaw07_live.f k).bind fun t => some t) (fun k => by simp only [conductorlaw07_ChainTrims.j0, if_true]) (Ev.bind live_ev (Ev.now _))
  cases hfw : fewB l with
  | false => simpa using hj
  | true =>
  simp only [if_true]
  obtain ⟨hl, hf⟩ := fewB_spec hfw
  refine Ev.bind (rRight_ev l hm) ?_
  cases hr : rgt 0 l with
  | false => simpa using hj
  | true =>
  obtain ⟨n, _, hn⟩ := upto_is l a hr
  refine Ev.step (fun k => by simp only [conductorlaw07_ChainTrims.j0, Bool.not_true, Bool.false_eq_true, if_false, Option.bind_some, List.length_nil, List.nil_append]; rw [if_pos (by omega)]) ?_
  refine Ev.bind (cTrim_ev hr (by omega) hf hn) ?_
  refine Ev.bind (rTrim_ev (by omega) hn) ?_
  refine Ev.bind (rSame_refl _ (by rw [List.length_drop]; omega)) ?_
  simp only [if_true]
  exact Ev.bind (rSame_refl l hm) (Ev.now _)

end Go.Proofs.Yteofdgonpbmdlaa.Pure
