/- The plain law of ChainFew: what the printed functions compute answers true at every input. No condition. -/
import Derived.Test.YteofdgonpbmdlaaCL
import Derived.Test.YteofdgonpbmdlaaC0
import Derived.Test.YteofdgonpbmdlaaC8
import Derived.Test.YteofdgonpbmdlaaC22
import Derived.Test.YteofdgonpbmdlaaC23
namespace Go.Proofs.Yteofdgonpbmdlaa.Pure
open Go.RowKit Go.Proofs.YteofdgonpbmdlaaW.PrintWords Go.Proofs.Yteofdgonpbmdlaa.C

theorem tAt_pos {l : List S28} {n : Nat} (h : 0 < n ∧ n ≤ l.length) : tAt l n = (if l[n - 1].f1 = false then n - 1 else n) := dif_pos h
theorem tAt_tAt {l : List S28} {n m : Nat} (hn : n ≤ l.length) (hm : m ≤ n) : tAt l m + tAt (l.drop (tAt l m)) (n - tAt l m) = tAt l n := by
  have ht := tAt_le l m
  by_cases h0 : tAt l m < n
  · have e : ∀ h, (l.drop (tAt l m))[n - tAt l m - 1]'h = l[n - 1] := by
      intro h; rw [List.getElem_drop]; congr 1; omega
    rw [tAt_pos (l := l.drop (tAt l m)) (n := n - tAt l m) ⟨by omega, by rw [List.length_drop]; omega⟩, e, tAt_pos (l := l) (n := n) ⟨by omega, hn⟩]
    by_cases hg : l[n - 1].f1 = false
    · rw [if_pos hg, if_pos hg]; omega
    · rw [if_neg hg, if_neg hg]; omega
  · have e1 : n = m := by omega
    subst e1
    have e2 : tAt l n = n := by omega
    have e3 : tAt (l.drop (tAt l n)) (n - tAt l n) = 0 := by have := tAt_le (l.drop (tAt l n)) (n - tAt l n); omega
    rw [e3]; omega
theorem sum_bd (l : List S28) (hf : ∀ v ∈ l, v.f2.length ≤ 1000) : ∀ x : Int, 0 ≤ x → x + 1000 * (l.length : Int) ≤ 1000000000 → l.foldl (fun x v => wrap64 (x + (v.f2.length : Int))) x = x + ((l.map fun v => v.f2.length).sum : Nat) ∧ ((l.map fun v => v.f2.length).sum : Nat) ≤ 1000 * l.length := by
  induction l with
  | nil => intro x _ _; simp
  | cons v t ih =>
    intro x h0 hx
    have hv := hf v (List.mem_cons_self ..)
    rw [List.length_cons] at hx
    have hw : wrap64 (x + (v.f2.length : Int)) = x + (v.f2.length : Int) := by unfold wrap64; omega
    obtain ⟨h1, h2⟩ := ih (fun w hw => hf w (List.mem_cons_of_mem _ hw)) (x + (v.f2.length : Int)) (by omega) (by omega)
    simp only [List.foldl_cons, hw, h1, List.map_cons, List.sum_cons, List.length_cons]
    omega
theorem cSize_loop (l : List S28) (hl : l.length ≤ 9223372036854775807) : ∀ (d i : Nat) (x : Int) (k : Nat), i + d = l.length → d < k → chain_Size.l0 k x l l.length i = some ((l.drop i).foldl (fun x v => wrap64 (x + (v.f2.length : Int))) x) := by
  intro d
  induction d with
  | zero =>
    intro i x k hd hk
    obtain ⟨k, rfl⟩ : ∃ m, k = m + 1 := ⟨k - 1, by omega⟩
    simp only [chain_Size.l0]
    rw [if_neg (by omega), List.drop_eq_nil_of_le (by omega)]; rfl
  | succ d ih =>
    intro i x k hd hk
    obtain ⟨k, rfl⟩ : ∃ m, k = m + 1 := ⟨k - 1, by omega⟩
    have hi : i < l.length := by omega
    simp only [chain_Size.l0]
    rw [if_pos (by omega), if_pos (by omega), if_pos (by omega), w1 hi hl, rd_nat l i hi, List.drop_eq_getElem_cons hi, ih (i + 1) _ k (by omega) (by omega)]
    rfl
theorem cSize_ev (l : List S28) (hl : l.length ≤ 1000) (hf : ∀ v ∈ l, v.f2.length ≤ 1000) : Ev (fun k => chain_Size.f k l) ((l.map fun v => v.f2.length).sum : Nat) := by
  have h := (sum_bd l hf 0 (by omega) (by omega)).1
  rw [Int.zero_add] at h
  rw [← h]
  exact ⟨l.length + 1, fun k hk => cSize_loop l (by omega) l.length 0 0 k (by omega) (by omega)⟩
theorem sum_drop (l : List S28) (t : Nat) : ((l.drop t).map fun v => v.f2.length).sum ≤ (l.map fun v => v.f2.length).sum := by
  have e : (l.map fun v => v.f2.length).sum = ((l.take t).map fun v => v.f2.length).sum + ((l.drop t).map fun v => v.f2.length).sum := by
    rw [← List.sum_append, ← List.map_append, List.take_append_drop]
  omega
/-- The loop that counts: of the first q versions each is at most a, and not gone; of the others none is at most a. -/
theorem few_count (l : List S28) (a b : Int) (m : List S28) (hm : m.length ≤ 1000) (q : Nat) (hq1 : q ≤ m.length) (hq : q ≤ 1) (h1 : ∀ j (h : j < m.length), j < q → m[j].f0 ≤ a ∧ m[j].f1 = false) (h2 : ∀ j (h : j < m.length), q ≤ j → a < m[j].f0)
    (hend : Ev (fun k => conductorlaw07_ChainFew.l0 k l a b m q m m.length m.length) true) : ∀ (d i : Nat), i + d = m.length → Ev (fun k => conductorlaw07_ChainFew.l0 k l a b m (if i < q then i else q : Nat) m m.length i) true := by
  intro d
  induction d with
  | zero =>
    intro i hd
    obtain rfl : i = m.length := by omega
    rw [if_neg (by omega)]
    exact hend
  | succ d ih =>
    intro i hd
    have hi : i < m.length := by omega
    by_cases hiq : i < q
    · obtain ⟨ha, hg⟩ := h1 i hi hiq
      refine Ev.step (f := fun k => conductorlaw07_ChainFew.l0 k l a b m (if i + 1 < q then i + 1 else q : Nat) m m.length ((i + 1 : Nat) : Int)) (fun k => ?_) (ih (i + 1) (by omega))
      simp only [conductorlaw07_ChainFew.l0]
      have hw0 : wrap64 (((if i < q then i else q : Nat) : Int) + 1) = ((if i + 1 < q then i + 1 else q : Nat) : Int) := by
        rw [if_pos hiq]; split <;> (unfold wrap64; omega)
      rw [if_pos (by omega), if_pos (by omega), if_pos (by omega), w1 hi (by omega), rd_nat m i hi, if_pos ha, hg, if_neg (by simp), hw0]
    · have ha := h2 i hi (by omega)
      refine Ev.step (f := fun k => conductorlaw07_ChainFew.l0 k l a b m (if i + 1 < q then i + 1 else q : Nat) m m.length ((i + 1 : Nat) : Int)) (fun k => ?_) (ih (i + 1) (by omega))
      simp only [conductorlaw07_ChainFew.l0]
      rw [if_pos (by omega), if_pos (by omega), if_pos (by omega), w1 hi (by omega), rd_nat m i hi, if_neg (by omega), if_neg hiq, if_neg (by omega)]
theorem ChainFew (l : List S28) (hm : l.length ≤ 9223372036854775807) (_hw : ∀ x ∈ l, (Lit.int .u64 x.f0).wf = true ∧ True ∧ ∀ n ∈ x.f2, (Lit.int .u8 n).wf = true) (a : Int) (_ha : (Lit.int .u64 a).wf = true) (b : Int) (_hb : (Lit.int .u64 b).wf = true) : ∃ k, conductorlaw07_ChainFew.f k l a b = some true := by
  refine Ev.rounds ?_
  unfold conductorlaw07_ChainFew.f
  refine Ev.bind live_ev ?_
  simp only [if_true]
  refine Ev.bind (few_ev l hm) ?_
  have hj : Ev (fun k => conductorlaw07_ChainFew.j0 k l a b true) true := by
    refine Ev.step (f := fun k => (conductorlaw07_live.f k).bind fun t => some t) (fun k => by simp only [conductorlaw07_ChainFew.j0, if_true]) (Ev.bind live_ev (Ev.now _))
  cases hfw : fewB l with
  | false => simpa using hj
  | true =>
  simp only [if_true]
  obtain ⟨hl, hf⟩ := fewB_spec hfw
  refine Ev.bind (cRight_ev l hm) ?_
  cases hr : rgt 0 l with
  | false => simpa using hj
  | true =>
  simp only [if_true]
  by_cases hab : b > a
  · simpa only [decide_eq_true hab] using hj
  rw [decide_eq_false hab]
  obtain ⟨n, _, hn⟩ := upto_is l a hr
  obtain ⟨n', _, hn'⟩ := upto_is l b hr
  have hle : n' ≤ n := hn'.le hn (by omega)
  have hnl := hn.1
  have htn := tAt_le l n
  have htn' := tAt_le l n'
  refine Ev.step (fun k => by simp only [conductorlaw07_ChainFew.j0, Bool.false_eq_true, if_false]; rfl) ?_
  refine Ev.bind (cTrim_ev hr (by omega) hf hn) ?_
  have hml : (l.drop (tAt l n)).length ≤ 100 := by rw [List.length_drop]; omega
  have hmf : ∀ v ∈ l.drop (tAt l n), v.f2.length ≤ 1000 := fun v hv => hf v (List.mem_of_mem_drop hv)
  have hrd := rgt_drop hr (tAt l n)
  have hmn := hn.drop (tAt l n) htn
  have hq : n - tAt l n ≤ 1 := by
    unfold tAt
    split
    · split <;> omega
    · omega
  have hend : Ev (fun k => conductorlaw07_ChainFew.l0 k l a b (l.drop (tAt l n)) (n - tAt l n : Nat) (l.drop (tAt l n)) (l.drop (tAt l n)).length (l.drop (tAt l n)).length) true := by
    refine Ev.step (fun k => by simp only [conductorlaw07_ChainFew.l0]; rw [if_neg (by omega), if_pos (by omega)]) ?_
    refine Ev.bind (cTrim_ev hr (by omega) hf hn') ?_
    refine Ev.bind (cTrim_ev (rgt_drop hr (tAt l n')) (by rw [List.length_drop]; omega) (fun v hv => hf v (List.mem_of_mem_drop hv)) (hn.drop (tAt l n') (by omega))) ?_
    rw [List.drop_drop, tAt_tAt hnl hle]
    refine Ev.bind (rSame_refl _ (by omega)) ?_
    simp only [if_true]
    refine Ev.bind (cTrim_ev hrd (by omega) hmf hmn) ?_
    rw [List.drop_drop, tAt_tAt hnl (Nat.le_refl n)]
    refine Ev.bind (rSame_refl _ (by omega)) ?_
    simp only [if_true]
    refine Ev.bind (cSize_ev _ (by omega) hmf) ?_
    refine Ev.bind (cSize_ev l (by omega) hf) ?_
    rw [decide_eq_true (by have := sum_drop l (tAt l n); omega)]
    exact Ev.now _
  have := few_count l a b (l.drop (tAt l n)) (by omega) (n - tAt l n) hmn.1 hq (fun j hj hlt => ⟨hmn.2.1 j hj hlt, ?_⟩) hmn.2.2 hend (l.drop (tAt l n)).length 0 (by omega)
  · have e : (if 0 < n - tAt l n then 0 else n - tAt l n) = 0 := by split <;> omega
    rw [e] at this
    exact this
  · obtain rfl : j = 0 := by omega
    rw [List.getElem_drop]
    by_cases h0 : 0 < n ∧ n ≤ l.length
    · by_cases hg : l[n - 1].f1 = false
      · have e : tAt l n + 0 = n - 1 := by unfold tAt; rw [dif_pos h0, if_pos hg]; rfl
        simp only [e, hg]
      · have e : tAt l n = n := by unfold tAt; rw [dif_pos h0, if_neg hg]
        omega
    · omega

end Go.Proofs.Yteofdgonpbmdlaa.Pure
