/- The plain law of ChainRights: what the printed functions compute answers true at every input. No condition. -/
import Derived.Test.YteofdgonpbmdlaaCL
import Derived.Test.YteofdgonpbmdlaaC0
import Derived.Test.YteofdgonpbmdlaaC8
import Derived.Test.YteofdgonpbmdlaaC22
import Derived.Test.YteofdgonpbmdlaaC24
import Derived.Test.YteofdgonpbmdlaaC25
import Derived.Test.YteofdgonpbmdlaaC26
namespace Go.Proofs.Yteofdgonpbmdlaa.Pure
open Go.RowKit Go.Proofs.YteofdgonpbmdlaaW.PrintWords Go.Proofs.Yteofdgonpbmdlaa.C

theorem cSame_loop (l m : List S28) (hl : l.length ≤ 9223372036854775807) (he : l.length = m.length) : ∀ (d i k : Nat), i + d = l.length → d < k → chain_Same.l0 k l m l.length i = some (sameL (l.drop i) (m.drop i)) := by
  intro d
  induction d with
  | zero =>
    intro i k hd hk
    obtain ⟨k, rfl⟩ : ∃ m, k = m + 1 := ⟨k - 1, by omega⟩
    simp only [chain_Same.l0]
    rw [if_neg (by omega), List.drop_eq_nil_of_le (by omega)]; simp [sameL]
  | succ d ih =>
    intro i k hd hk
    obtain ⟨k, rfl⟩ : ∃ m, k = m + 1 := ⟨k - 1, by omega⟩
    have hi : i < l.length := by omega
    simp only [chain_Same.l0]
    rw [if_pos (by omega), if_pos (by omega), if_pos (by omega), if_pos (by omega), w1 hi hl, rd_nat l i hi, rd_nat m i (by omega), List.drop_eq_getElem_cons hi, List.drop_eq_getElem_cons (show i < m.length by omega), ih (i + 1) k (by omega) (by omega)]
    simp only [sameL, bytes_Equal.f, Option.bind_some, sameV]
    by_cases h1 : l[i].f0 = m[i].f0
    · by_cases h2 : (l[i].f1 == m[i].f1) = true
      · have h3 : ¬ (l[i].f1 != m[i].f1) = true := by simp at h2; simp [h2]
        rw [if_pos h1, if_neg h3]
        simp only [h1, h2, decide_true, Bool.true_and]
        split <;> rfl
      · have h3 : (l[i].f1 != m[i].f1) = true := by simp at h2; simpa using h2
        rw [if_pos h1, if_pos h3]
        simp at h2
        simp [h2]
    · rw [if_neg h1]; simp [h1]
theorem cSame_ev (l m : List S28) (hl : l.length ≤ 9223372036854775807) : Ev (fun k => chain_Same.f k l m) (sameB l m) := by
  unfold chain_Same.f sameB
  by_cases h : (l.length : Int) = m.length
  · simp only [if_pos h]
    exact ⟨l.length + 1, fun k hk => cSame_loop l m hl (by omega) l.length 0 k (by omega) (by omega)⟩
  · simp only [if_neg h]; exact Ev.now _
theorem cSize_loop (l : List S28) (hl : l.length ≤ 9223372036854775807) : ∀ (d i : Nat) (x : Int) (k : Nat), i + d = l.length → d < k → chain_Size.l0 k x l l.length i = some ((l.drop i).foldl (fun x v => wrap64 (x + (v.f2.length : Int))) x) := by
  intro d
  induction d with
  | zero =>
    intro i x k hd hk
    obtain ⟨k, rfl⟩ : ∃ m, k = m + 1 := ⟨k - 1, by omega⟩
    simp only [chain_Size.l0]
    rw [if_neg (by omega), List.drop_eq_nil_of_le (by omega)]; rfl
  | succ d ih =>
    intro i x k hd hk
    obtain ⟨k, rfl⟩ : ∃ m, k = m + 1 := ⟨k - 1, by omega⟩
    have hi : i < l.length := by omega
    simp only [chain_Size.l0]
    rw [if_pos (by omega), if_pos (by omega), if_pos (by omega), w1 hi hl, rd_nat l i hi, List.drop_eq_getElem_cons hi, ih (i + 1) _ k (by omega) (by omega)]
    rfl
theorem rSize_loop (l : List S28) (hl : l.length ≤ 9223372036854775807) : ∀ (d i : Nat) (x : Int) (k : Nat), i + d = l.length → d < k → conductorref07_Size.l0 k x l l.length i = some ((l.drop i).foldl (fun x v => wrap64 (x + (v.f2.length : Int))) x) := by
  intro d
  induction d with
  | zero =>
    intro i x k hd hk
    obtain ⟨k, rfl⟩ : ∃ m, k = m + 1 := ⟨k - 1, by omega⟩
    simp only [conductorref07_Size.l0]
    rw [if_neg (by omega), List.drop_eq_nil_of_le (by omega)]; rfl
  | succ d ih =>
    intro i x k hd hk
    obtain ⟨k, rfl⟩ : ∃ m, k = m + 1 := ⟨k - 1, by omega⟩
    have hi : i < l.length := by omega
    simp only [conductorref07_Size.l0]
    rw [if_pos (by omega), if_pos (by omega), if_pos (by omega), w1 hi hl, rd_nat l i hi, List.drop_eq_getElem_cons hi, ih (i + 1) _ k (by omega) (by omega)]
    rfl
theorem cSize_ev (l : List S28) (hl : l.length ≤ 9223372036854775807) : Ev (fun k => chain_Size.f k l) (l.foldl (fun x v => wrap64 (x + (v.f2.length : Int))) 0) :=
  ⟨l.length + 1, fun k hk => cSize_loop l hl l.length 0 0 k (by omega) (by omega)⟩
theorem rSize_ev (l : List S28) (hl : l.length ≤ 9223372036854775807) : Ev (fun k => conductorref07_Size.f k l) (l.foldl (fun x v => wrap64 (x + (v.f2.length : Int))) 0) :=
  ⟨l.length + 1, fun k hk => rSize_loop l hl l.length 0 0 k (by omega) (by omega)⟩
theorem ChainRights (l : List S28) (hm : l.length ≤ 9223372036854775807) (_hw : ∀ x ∈ l, (Lit.int .u64 x.f0).wf = true ∧ True ∧ ∀ n ∈ x.f2, (Lit.int .u8 n).wf = true) (m : List S28) (hm2 : m.length ≤ 9223372036854775807) (_hw2 : ∀ x ∈ m, (Lit.int .u64 x.f0).wf = true ∧ True ∧ ∀ n ∈ x.f2, (Lit.int .u8 n).wf = true) : ∃ k, conductorlaw07_ChainRights.f k l m = some true := by
  refine Ev.rounds ?_
  unfold conductorlaw07_ChainRights.f
  refine Ev.bind live_ev ?_
  simp only [if_true]
  refine Ev.bind (few_ev l hm) ?_
  have hj : Ev (fun k => conductorlaw07_ChainRights.j0 k l m true) true := by
    refine Ev.step (f := fun k => (conductorlaw07_live.f k).bind fun t => some t) (fun k => by simp only [conductorlaw07_ChainRights.j0, if_true]) (Ev.bind live_ev (Ev.now _))
  cases hfw : fewB l with
  | false => simpa using hj
  | true =>
  simp only [if_true]
  obtain ⟨hl, hf⟩ := fewB_spec hfw
  refine Ev.bind (few_ev m hm2) ?_
  cases hfw2 : fewB m with
  | false => simpa using hj
  | true =>
  refine Ev.step (fun k => by simp only [conductorlaw07_ChainRights.j0, Bool.not_true, Bool.false_eq_true, if_false]; rfl) ?_
  refine Ev.bind (cRight_ev l hm) ?_
  refine Ev.bind (rRight_ev l hm) ?_
  simp only [beq_self_eq_true, if_true]
  refine Ev.bind (cSize_ev l hm) ?_
  refine Ev.bind (rSize_ev l hm) ?_
  simp only [if_true]
  refine Ev.bind (cSame_ev l m hm) ?_
  refine Ev.bind (rSame_ev l m hm) ?_
  simp only [beq_self_eq_true]
  exact Ev.now _

end Go.Proofs.Yteofdgonpbmdlaa.Pure
