/- Texts of this session, merged for the law SsiJoins: SW, PureSsiJoins. No condition. -/
import Derived.Test.YtjefihcbhdennaaZSsiJoinszb
import Derived.Test.YtjefihcbhdennaaZSsiJoinsp
import Derived.Test.YtjefihcbhdennaaZSsiJoinsr
import Derived.Test.YtjefihcbhdennaaZSsiJoinsu
import Derived.Test.YtjefihcbhdennaaZSsiJoinsw
import Derived.Test.YtjefihcbhdennaaZSsiJoinsv
import Derived.Test.YtjefihcbhdennaaZSsiJoinsz
import Derived.Test.YtjefihcbhdennaaZSsiJoinsx
import Derived.Test.YtjefihcbhdennaaZSsiJoinsy
import Derived.Test.YtjefihcbhdennaaZSsiJoinsza
import Derived.Test.YtjefihcbhdennaaZSsiJoinss
namespace Go.Proofs.Ytjefihcbhdennaa.Pure
open Go.RowKit Go.Proofs.YtjefihcbhdennaaW.PrintWords Go.Proofs.YtjefihcbhdennaaW.PrintMore Go.Proofs.Ytjefihcbhdennaa.S
theorem fitN (l : List S41) (n : Int) (hs : l.length < 1000000) (hn : n ≤ 9223372036854775807) : ∃ j, NP j ∧ (∀ k, mem l k → mem j k) ∧ j.length ≤ l.length ∧ Ev (fun k => span_Fit.f k l n) j ∧ Ev (fun k => conductorref09_Fit.f k l n) j := by
  obtain ⟨j, h1, h2, h3, h4, h5⟩ := fits_ev l n hs hn
  have hq := mx_pos n
  obtain ⟨f1, f2, f3⟩ := fitK_np ((j.length : Int) - mx n 1).toNat j h1 (by omega)
  exact ⟨_, f1, fun k hk => f3 k ((h2 k).2 hk), by omega, h4, h5⟩
theorem jf (a b : List S41) (n : Int) (hs : a.length + b.length < 1000000) (hn : n ≤ 9223372036854775807) : ∃ t j, Ev (fun k => span_Join.f k a b) t ∧ Ev (fun k => conductorref09_Join.f k a b) t ∧ Ev (fun k => span_Fit.f k t n) j ∧ Ev (fun k => conductorref09_Fit.f k t n) j ∧ NP j ∧ (∀ k, mem a k ∨ mem b k → mem j k) ∧ j.length ≤ a.length + b.length := by
  obtain ⟨t, h1, h2, h3, h4, h5⟩ := joins_ev a b hs
  obtain ⟨j, k1, k2, k3, k4, k5⟩ := fitN t n (by omega) hn
  exact ⟨t, j, h1, h2, k4, k5, k1, fun k hk => k2 k ((h4 k).2 hk), by omega⟩
def leastI (a b : Int) : Int := if a = 0 then b else if b = 0 then a else if a < b then a else b
theorem sleast (a b : Int) : ssi_least.f a b = some (leastI a b) := by unfold ssi_least.f leastI; split; rfl; split; rfl; split <;> rfl
theorem rleast (a b : Int) (ha : 0 ≤ a) (hb : 0 ≤ b) : conductorref10_least.f a b = some (leastI a b) := by
  unfold conductorref10_least.f leastI mx mn
  by_cases h1 : a = 0
  · rw [if_pos h1, if_pos h1]; split <;> (congr 1 <;> omega)
  · rw [if_neg h1, if_neg h1]
    by_cases h2 : b = 0
    · rw [if_pos h2, if_pos h2]; split <;> (congr 1 <;> omega)
    · rw [if_neg h2, if_neg h2]; split <;> split <;> (congr 1 <;> omega)
theorem leastI_nn (a b : Int) (ha : 0 ≤ a) (hb : 0 ≤ b) : 0 ≤ leastI a b := by unfold leastI; split; exact hb; split; exact ha; split <;> assumption
/-- j covers a. -/
def cov (a j : S26) : Prop := a.f1 ≤ j.f1 ∧ j.f0 ≤ a.f0 ∧ lastI a ≤ lastI j ∧ (a.f3 ≠ 0 → j.f3 ≠ 0 ∧ j.f3 ≤ a.f3) ∧ (∀ k, mem a.f4 k → mem j.f4 k) ∧ (∀ k, mem a.f5 k → mem j.f5 k)
theorem cov_refl (a : S26) : cov a a := ⟨Int.le_refl _, Int.le_refl _, Int.le_refl _, fun h => ⟨h, Int.le_refl _⟩, fun _ h => h, fun _ h => h⟩
theorem cov_trans {a b c : S26} (h : cov a b) (k : cov b c) : cov a c :=
  ⟨Int.le_trans h.1 k.1, Int.le_trans k.2.1 h.2.1, Int.le_trans h.2.2.1 k.2.2.1, fun e => by
    obtain ⟨h1, h2⟩ := h.2.2.2.1 e
    obtain ⟨k1, k2⟩ := k.2.2.2.1 h1
    exact ⟨k1, Int.le_trans k2 h2⟩, fun q hq => k.2.2.2.2.1 q (h.2.2.2.2.1 q hq), fun q hq => k.2.2.2.2.2 q (h.2.2.2.2.2 q hq)⟩
def Cov (l m : List S26) : Prop := ∀ a ∈ l, ∃ j ∈ m, cov a j
theorem Cov_trans {a b c : List S26} (h : Cov a b) (k : Cov b c) : Cov a c := fun x hx => by
  obtain ⟨y, hy, h1⟩ := h x hx
  obtain ⟨z, hz, h2⟩ := k y hy
  exact ⟨z, hz, cov_trans h1 h2⟩
theorem np_ne {l m : List S41} (hl : NP l) (hn : l ≠ []) (h : ∀ k, mem l k → mem m k) : m ≠ [] := by
  cases l with
  | nil => exact absurd rfl hn
  | cons x t =>
    intro e
    subst e
    exact mem_nil _ (h _ ((mem_cons _ _ _).2 (.inl (has_lo hl.rt))))
theorem lastI_cov (a j : S26) (ha : Rgt a) (h1 : a.f1 ≤ j.f1) (h2 : a.f2 ≤ j.f2) (hm : ∀ k, mem a.f5 k → mem j.f5 k) : lastI a ≤ lastI j := by
  unfold lastI
  obtain ⟨_, _, hb, _, h5⟩ := ha
  by_cases e : a.f5 = []
  · rw [if_pos (by rw [e]; rfl)]
    split <;> omega
  · have hj := np_ne h5 e hm
    have ha' := List.length_pos_iff.2 e
    have hj' := List.length_pos_iff.2 hj
    rw [if_neg (by omega), if_neg (by omega)]
    exact h1
def tot (l : List S26) : Nat := (l.map fun r => r.f4.length + r.f5.length).sum
theorem tot_cons (r : S26) (l : List S26) : tot (r :: l) = r.f4.length + r.f5.length + tot l := by simp [tot]
theorem join10_ev (a b : S26) (n : Int) (h4 : a.f4.length + b.f4.length < 1000000) (h5 : a.f5.length + b.f5.length < 1000000) (hn : n ≤ 9223372036854775807) (ha : 0 ≤ a.f3) (hb : 0 ≤ b.f3) :
    ∃ x : S26, Ev (fun k => ssi_Join.f k a.f0 a.f1 a.f2 a.f3 a.f4 a.f5 b.f0 b.f1 b.f2 b.f3 b.f4 b.f5 n) (x.f0, x.f1, x.f2, x.f3, x.f4, x.f5) ∧ Ev (fun k => conductorref10_Join.f k a.f0 a.f1 a.f2 a.f3 a.f4 a.f5 b.f0 b.f1 b.f2 b.f3 b.f4 b.f5 n) (x.f0, x.f1, x.f2, x.f3, x.f4, x.f5) ∧
      0 ≤ x.f3 ∧ x.f4.length ≤ a.f4.length + b.f4.length ∧ x.f5.length ≤ a.f5.length + b.f5.length ∧ (Rgt a → Rgt b → Rgt x ∧ cov a x ∧ cov b x) := by
  obtain ⟨t4, j4, p1, p2, p3, p4, p5, p6, p7⟩ := jf a.f4 b.f4 n h4 hn
  obtain ⟨t5, j5, q1, q2, q3, q4, q5, q6, q7⟩ := jf a.f5 b.f5 n h5 hn
  have m0 : mn a.f0 b.f0 ≤ a.f0 ∧ mn a.f0 b.f0 ≤ b.f0 ∧ (mn a.f0 b.f0 = a.f0 ∨ mn a.f0 b.f0 = b.f0) := by unfold mn; split <;> omega
  have m1 : a.f1 ≤ mx a.f1 b.f1 ∧ b.f1 ≤ mx a.f1 b.f1 ∧ (mx a.f1 b.f1 = a.f1 ∨ mx a.f1 b.f1 = b.f1) := by unfold mx; split <;> omega
  have m2 : a.f2 ≤ mx a.f2 b.f2 ∧ b.f2 ≤ mx a.f2 b.f2 ∧ (mx a.f2 b.f2 = a.f2 ∨ mx a.f2 b.f2 = b.f2) := by unfold mx; split <;> omega
  have m3 : (a.f3 ≠ 0 → leastI a.f3 b.f3 ≠ 0 ∧ leastI a.f3 b.f3 ≤ a.f3) ∧ (b.f3 ≠ 0 → leastI a.f3 b.f3 ≠ 0 ∧ leastI a.f3 b.f3 ≤ b.f3) := by
    unfold leastI
    by_cases e1 : a.f3 = 0
    · rw [if_pos e1]; exact ⟨fun h => absurd e1 h, fun h => ⟨h, Int.le_refl _⟩⟩
    · rw [if_neg e1]
      by_cases e2 : b.f3 = 0
      · rw [if_pos e2]; exact ⟨fun h => ⟨h, Int.le_refl _⟩, fun h => absurd e2 h⟩
      · rw [if_neg e2]; split <;> exact ⟨fun _ => ⟨by assumption, by omega⟩, fun _ => ⟨by assumption, by omega⟩⟩
  refine ⟨⟨mn a.f0 b.f0, mx a.f1 b.f1, mx a.f2 b.f2, leastI a.f3 b.f3, j4, j5⟩, ?_, ?_, leastI_nn _ _ ha hb, p7, q7, fun ra rb => ?_⟩
  · refine Ev.congr (fun k => by unfold ssi_Join.f; rw [sleast, Option.bind_some]) ?_
    exact Ev.bind p1 (Ev.bind p3 (Ev.bind q1 (Ev.bind q3 (Ev.now _))))
  · refine Ev.congr (fun k => by unfold conductorref10_Join.f; rw [rleast _ _ ha hb, Option.bind_some]) ?_
    exact Ev.bind p2 (Ev.bind p4 (Ev.bind q2 (Ev.bind q4 (Ev.now _))))
  · obtain ⟨a1, a2, a3, a4, a5⟩ := ra
    obtain ⟨b1, b2, b3, b4, b5⟩ := rb
    have rx : Rgt ⟨mn a.f0 b.f0, mx a.f1 b.f1, mx a.f2 b.f2, leastI a.f3 b.f3, j4, j5⟩ := ⟨by show mn a.f0 b.f0 ≥ 1; omega, by show mn a.f0 b.f0 ≤ mx a.f1 b.f1; omega, by show mx a.f2 b.f2 ≤ mx a.f1 b.f1; omega, p5, q5⟩
    refine ⟨rx, ⟨m1.1, m0.1, ?_, m3.1, fun k hk => p6 k (.inl hk), fun k hk => q6 k (.inl hk)⟩, ⟨m1.2.1, m0.2.1, ?_, m3.2, fun k hk => p6 k (.inr hk), fun k hk => q6 k (.inr hk)⟩⟩
    · exact lastI_cov a _ ⟨a1, a2, a3, a4, a5⟩ m1.1 m2.1 (fun k hk => q6 k (.inl hk))
    · exact lastI_cov b _ ⟨b1, b2, b3, b4, b5⟩ m1.2.1 m2.2.1 (fun k hk => q6 k (.inr hk))
theorem fit10_l (n a2 : Int) (ha2 : a2 ≤ 9223372036854775807) : ∀ (K : Nat) (x : List S26), ((x.length : Int) - mx n 1).toNat = K → x.length ≤ 1000 → tot x ≤ 100000 → (∀ r ∈ x, 0 ≤ r.f3) →
    ∃ m, Ev (fun k => ssi_Fit.l1 k (mx n 1) a2 x) m ∧ Ev (fun k => conductorref10_Fit.l0 k n a2 x) m ∧ tot m ≤ tot x ∧ (m.length : Int) = (if (x.length : Int) ≤ mx n 1 then (x.length : Int) else mx n 1) ∧ ((∀ r ∈ x, Rgt r) → (∀ r ∈ m, Rgt r) ∧ Cov x m) := by
  have hp := mx_pos n
  intro K
  induction K with
  | zero =>
    intro x hK hx ht h3
    refine ⟨x, Ev.step (f := fun _ => some x) (fun k => ?_) (Ev.now _), Ev.step (f := fun _ => some x) (fun k => ?_) (Ev.now _), Nat.le_refl _, by rw [if_pos (by omega)], fun h => ⟨h, fun a ha => ⟨a, ha, cov_refl a⟩⟩⟩
    · simp only [ssi_Fit.l1]
      rw [if_neg (by omega)]
      unfold api_Record_71.f
      rw [if_pos (by omega)]
    · simp only [conductorref10_Fit.l0]
      rw [if_neg (by omega)]
  | succ K ih =>
    intro x hK hx ht h3
    match x, hK, hx, ht, h3 with
    | [], hK, _, _, _ => simp at hK; omega
    | [a], hK, _, _, _ => simp at hK; omega
    | a :: b :: t, hK, hx, ht, h3 =>
      simp only [List.length_cons] at hK hx
      rw [tot_cons, tot_cons] at ht
      have e0 : rd_T26 (a :: b :: t) 0 = a := rfl
      have e1 : rd_T26 (a :: b :: t) 1 = b := rfl
      obtain ⟨y, j1, j2, j3, j4, j5, j6⟩ := join10_ev a b a2 (by omega) (by omega) ha2 (h3 a (by simp)) (h3 b (by simp))
      obtain ⟨m, m1, m2, m3, m4, m5⟩ := ih (y :: t) (by rw [List.length_cons]; omega) (by rw [List.length_cons]; omega) (by rw [tot_cons]; omega) (fun r hr => by
        rcases List.mem_cons.1 hr with e | e
        · rw [e]; exact j3
        · exact h3 r (by simp [e]))
      refine ⟨m, ?_, ?_, by rw [tot_cons] at m3; rw [tot_cons, tot_cons]; omega, ?_, fun hr => ?_⟩
      · refine Ev.step (fun k => by simp only [ssi_Fit.l1]; rw [if_pos (by simp only [List.length_cons]; omega), if_pos (by simp only [List.length_cons]; omega), e0, e1]) ?_
        exact Ev.bind (f := fun k bt => ssi_Fit.l1 k (mx n 1) a2 ((⟨bt.1, bt.2.1, bt.2.2.1, bt.2.2.2.1, bt.2.2.2.2.1, bt.2.2.2.2.2⟩ : S26) :: (a :: b :: t).drop 2)) j1 m1
      · refine Ev.step (fun k => by simp only [conductorref10_Fit.l0]; rw [if_pos (by simp only [List.length_cons]; omega), if_pos (by simp only [List.length_cons]; omega), if_pos (by simp only [List.length_cons]; omega), e0, e1]) ?_
        refine Ev.bind j2 (Ev.congr (fun k => ?_) m2)
        simp only [Option.bind_some]
        rw [if_pos (by simp only [List.length_cons]; omega), if_pos (by simp only [List.drop_succ_cons, List.drop_zero, List.length_cons, List.length_nil]; omega)]
        rfl
      · rw [m4]
        simp only [List.length_cons]
        split <;> split <;> omega
      · have ra := hr a (by simp)
        have rb := hr b (by simp)
        obtain ⟨k1, k2, k3⟩ := j6 ra rb
        obtain ⟨r1, r2⟩ := m5 (fun r h => by
          rcases List.mem_cons.1 h with e | e
          · rw [e]; exact k1
          · exact hr r (by simp [e]))
        refine ⟨r1, Cov_trans (fun z hz => ?_) r2⟩
        rcases List.mem_cons.1 hz with e | hz
        · exact ⟨y, by simp, by rw [e]; exact k2⟩
        · rcases List.mem_cons.1 hz with e | hz
          · exact ⟨y, by simp, by rw [e]; exact k3⟩
          · exact ⟨z, by simp [hz], cov_refl z⟩
theorem own10 (r : S26) (h4 : r.f4.length ≤ 40) (h5 : r.f5.length ≤ 40) : ssi_own.f r.f0 r.f1 r.f2 r.f3 r.f4 r.f5 = some (r.f0, r.f1, r.f2, r.f3, r.f4, r.f5) := by
  unfold ssi_own.f api_Span_58.f
  rw [if_pos (by omega), if_pos (by omega)]; rfl
theorem fit10_l0 (n a2 : Int) (l : List S26) (hl : l.length ≤ 20) (hr : ∀ r ∈ l, r.f4.length ≤ 40 ∧ r.f5.length ≤ 40) {m : List S26} (hm : Ev (fun k => ssi_Fit.l1 k n a2 l) m) : ∀ (d i : Nat), i + d = l.length →
    Ev (fun k => ssi_Fit.l0 k n a2 (l.take i) l (i : Int)) m := by
  intro d
  induction d with
  | zero =>
    intro i hd
    rw [List.take_of_length_le (by omega)]
    refine Ev.step (fun k => ?_) hm
    simp only [ssi_Fit.l0]
    rw [if_neg (by omega)]
  | succ d ih =>
    intro i hd
    have hi : i < l.length := by omega
    obtain ⟨h4, h5⟩ := hr l[i] (List.getElem_mem hi)
    have h0 := ih (i + 1) (by omega)
    rw [← w1 hi (by omega), List.take_succ_eq_append_getElem hi] at h0
    refine Ev.step (fun k => ?_) h0
    simp only [ssi_Fit.l0]
    rw [if_pos (by omega), if_pos (by omega), rd26 _ i hi, own10 _ h4 h5, Option.bind_some, if_pos (by rw [List.length_take]; omega)]
theorem tot_le : ∀ (l : List S26), (∀ r ∈ l, r.f4.length ≤ 40 ∧ r.f5.length ≤ 40) → tot l ≤ 80 * l.length
  | [], _ => by simp [tot]
  | r :: l, h => by
    have h1 := tot_le l (fun q hq => h q (List.mem_cons_of_mem _ hq))
    have h2 := h r List.mem_cons_self
    rw [tot_cons, List.length_cons]
    omega
theorem fit10_ev (l : List S26) (n a2 : Int) (ha2 : a2 ≤ 9223372036854775807) (hf : fewB l = true) (h3 : ∀ r ∈ l, 0 ≤ r.f3) :
    ∃ m, Ev (fun k => ssi_Fit.f k l n a2) m ∧ Ev (fun k => conductorref10_Fit.f k l n a2) m ∧ tot m ≤ tot l ∧ (m.length : Int) = (if (l.length : Int) ≤ mx n 1 then (l.length : Int) else mx n 1) ∧ ((∀ r ∈ l, Rgt r) → (∀ r ∈ m, Rgt r) ∧ Cov l m) := by
  obtain ⟨hl, hr⟩ := fewB_spec hf
  have ht := tot_le l hr
  obtain ⟨m, m1, m2, m3, m4, m5⟩ := fit10_l n a2 ha2 _ l rfl (by omega) (by omega) h3
  refine ⟨m, ?_, ?_, m3, m4, m5⟩
  · have h0 := fit10_l0 (mx n 1) a2 l hl hr m1 l.length 0 (by omega)
    rw [List.take_zero] at h0
    refine Ev.congr (fun k => ?_) h0
    unfold ssi_Fit.f
    rw [if_pos (by omega)]; rfl
  · refine Ev.congr (fun k => ?_) m2
    unfold conductorref10_Fit.f
    rw [Option.bind_some, List.nil_append, if_pos (by rw [List.length_nil]; omega)]
theorem forget10_ev (l : List S26) (low : Int) (h : fewB l = true) : Ev (fun k => ssi_Forget.f k l low) (l.filter fun r => decide (low < r.f1)) := by
  obtain ⟨hl, hr⟩ := fewB_spec h
  have key : ∀ (d i : Nat) (acc : List S26), i + d = l.length → acc.length ≤ i → Ev (fun k => ssi_Forget.l0 k low acc l (l.length : Int) (i : Int)) (acc ++ (l.drop i).filter fun r => decide (low < r.f1)) := by
    intro d
    induction d with
    | zero =>
      intro i acc hd ha
      rw [List.drop_eq_nil_of_le (by omega), List.filter_nil, List.append_nil]
      refine Ev.step (f := fun _ => some acc) (fun k => ?_) (Ev.now _)
      simp only [ssi_Forget.l0]
      rw [if_neg (by omega)]
    | succ d ih =>
      intro i acc hd ha
      have hi : i < l.length := by omega
      obtain ⟨h4, h5⟩ := hr l[i] (List.getElem_mem hi)
      rw [List.drop_eq_getElem_cons hi, List.filter_cons]
      by_cases hn : low < l[i].f1
      · have h0 := ih (i + 1) (acc ++ [l[i]]) (by omega) (by rw [List.length_append, List.length_singleton]; omega)
        rw [if_pos (by simpa using hn), ← List.singleton_append, ← List.append_assoc]
        refine Ev.step (fun k => ?_) h0
        simp only [ssi_Forget.l0]
        rw [if_pos (by omega), if_pos (by omega), if_pos (by omega), rd26 _ i hi, if_pos hn, own10 _ h4 h5, Option.bind_some, if_pos (by omega), w1 hi (by omega)]
      · have h0 := ih (i + 1) acc (by omega) (by omega)
        rw [if_neg (by simpa using hn)]
        refine Ev.step (fun k => ?_) h0
        simp only [ssi_Forget.l0]
        rw [if_pos (by omega), if_pos (by omega), if_pos (by omega), rd26 _ i hi, if_neg hn, w1 hi (by omega)]
  exact key l.length 0 [] (by omega) (by simp)
theorem rforget10_ev (l : List S26) (low : Int) (hl : l.length ≤ 20) : Ev (fun k => conductorref10_Forget.f k l low) (l.filter fun r => decide (low < r.f1)) := by
  have key : ∀ (d i : Nat) (acc : List S26), i + d = l.length → acc.length ≤ i → Ev (fun k => conductorref10_Forget.l0 k low acc l (l.length : Int) (i : Int)) (acc ++ (l.drop i).filter fun r => decide (low < r.f1)) := by
    intro d
    induction d with
    | zero =>
      intro i acc hd ha
      rw [List.drop_eq_nil_of_le (by omega), List.filter_nil, List.append_nil]
      refine Ev.step (f := fun _ => some acc) (fun k => ?_) (Ev.now _)
      simp only [conductorref10_Forget.l0]
      rw [if_neg (by omega)]
    | succ d ih =>
      intro i acc hd ha
      have hi : i < l.length := by omega
      rw [List.drop_eq_getElem_cons hi, List.filter_cons]
      by_cases hn : low < l[i].f1
      · have h0 := ih (i + 1) (acc ++ [l[i]]) (by omega) (by rw [List.length_append, List.length_singleton]; omega)
        rw [if_pos (by simpa using hn), ← List.singleton_append, ← List.append_assoc]
        refine Ev.step (fun k => ?_) h0
        simp only [conductorref10_Forget.l0]
        rw [if_pos (by omega), if_pos (by omega), if_pos (by omega), rd26 _ i hi, if_pos hn, if_pos (by omega), w1 hi (by omega)]
      · have h0 := ih (i + 1) acc (by omega) (by omega)
        rw [if_neg (by simpa using hn)]
        refine Ev.step (fun k => ?_) h0
        simp only [conductorref10_Forget.l0]
        rw [if_pos (by omega), if_pos (by omega), if_pos (by omega), rd26 _ i hi, if_neg hn, w1 hi (by omega)]
  have h := key l.length 0 [] (by omega) (by simp)
  exact h
def Sl (r : S26) : Prop := r.f4.length ≤ 9223372036854775807 ∧ r.f5.length ≤ 9223372036854775807
theorem sameOne_ev (a b : S26) (ha : Sl a) : ∃ c, Ev (fun k => conductorref10_SameOne.f k a.f0 a.f1 a.f2 a.f3 a.f4 a.f5 b.f0 b.f1 b.f2 b.f3 b.f4 b.f5) c ∧ (a = b → c = true) := by
  by_cases e : a.f0 = b.f0 ∧ a.f1 = b.f1 ∧ a.f2 = b.f2 ∧ a.f3 = b.f3
  · obtain ⟨e0, e1, e2, e3⟩ := e
    obtain ⟨c4, k4, q4⟩ := same_ev a.f4 b.f4 ha.1
    obtain ⟨c5, k5, q5⟩ := same_ev a.f5 b.f5 ha.2
    cases c4 with
    | false =>
      refine ⟨false, ?_, fun e => absurd (q4.2 (by rw [e])) (by decide)⟩
      refine Ev.congr (fun k => by unfold conductorref10_SameOne.f; rw [if_pos e0, if_pos e1, if_pos e2, if_pos e3]) (Ev.bind k4 ?_)
      exact Ev.congr (f := fun _ => some false) (fun k => by rw [if_neg (by decide)]) (Ev.now _)
    | true =>
      refine ⟨c5, ?_, fun e => q5.2 (by rw [e])⟩
      refine Ev.congr (fun k => by unfold conductorref10_SameOne.f; rw [if_pos e0, if_pos e1, if_pos e2, if_pos e3]) (Ev.bind k4 ?_)
      exact Ev.congr (fun k => by rw [if_pos rfl]) (Ev.bind k5 (Ev.now c5))
  · refine ⟨false, Ev.congr (f := fun _ => some false) (fun k => ?_) (Ev.now _), fun h => absurd ⟨by rw [h], by rw [h], by rw [h], by rw [h]⟩ e⟩
    unfold conductorref10_SameOne.f
    by_cases e0 : a.f0 = b.f0
    · by_cases e1 : a.f1 = b.f1
      · by_cases e2 : a.f2 = b.f2
        · rw [if_pos e0, if_pos e1, if_pos e2, if_neg (fun e3 => e ⟨e0, e1, e2, e3⟩)]
        · rw [if_pos e0, if_pos e1, if_neg e2]
      · rw [if_pos e0, if_neg e1]
    · rw [if_neg e0]
theorem same10_ev (a b : List S26) (ha : a.length ≤ 9223372036854775807) (hs : ∀ r ∈ a, Sl r) : ∃ c, Ev (fun k => conductorref10_Same.f k a b) c ∧ (a = b → c = true) := by
  by_cases hl : a.length = b.length
  · have key : ∀ d i : Nat, i + d = a.length → ∃ c, Ev (fun k => conductorref10_Same.l0 k a b (a.length : Int) (i : Int)) c ∧ (a = b → c = true) := by
      intro d
      induction d with
      | zero =>
        intro i hd
        refine ⟨true, Ev.step (f := fun _ => some true) (fun k => ?_) (Ev.now _), fun _ => rfl⟩
        simp only [conductorref10_Same.l0]
        rw [if_neg (by omega)]
      | succ d ih =>
        intro i hd
        have hi : i < a.length := by omega
        have hj : i < b.length := by omega
        obtain ⟨c, h1, h2⟩ := ih (i + 1) (by omega)
        rw [← w1 hi ha] at h1
        obtain ⟨e, e1, e2⟩ := sameOne_ev a[i] b[i] (hs _ (List.getElem_mem hi))
        have e2' : a = b → e = true := fun h => e2 (by simp [h])
        cases e with
        | false =>
          refine ⟨false, Ev.step (fun k => by simp only [conductorref10_Same.l0]; rw [if_pos (by omega), if_pos (by omega), if_pos (by omega), if_pos (by omega), rd26 _ i hi, rd26 _ i hj]) (Ev.bind e1 ?_), fun h => e2' h⟩
          exact Ev.congr (f := fun _ => some false) (fun k => by rw [if_neg (by decide)]) (Ev.now _)
        | true =>
          refine ⟨c, Ev.step (fun k => by simp only [conductorref10_Same.l0]; rw [if_pos (by omega), if_pos (by omega), if_pos (by omega), if_pos (by omega), rd26 _ i hi, rd26 _ i hj]) (Ev.bind e1 ?_), h2⟩
          exact Ev.congr (fun k => by rw [if_pos rfl]) h1
    obtain ⟨c, h1, h2⟩ := key a.length 0 (by omega)
    refine ⟨c, Ev.congr (fun k => ?_) h1, h2⟩
    unfold conductorref10_Same.f
    rw [if_pos (by omega)]; rfl
  · refine ⟨false, Ev.congr (f := fun _ => some false) (fun k => ?_) (Ev.now _), fun h => absurd (by rw [h]) hl⟩
    unfold conductorref10_Same.f
    rw [if_neg (by omega)]
theorem same10_refl (a : List S26) (ha : a.length ≤ 9223372036854775807) (hs : ∀ r ∈ a, Sl r) : Ev (fun k => conductorref10_Same.f k a a) true := by
  obtain ⟨c, h1, h2⟩ := same10_ev a a ha hs
  rwa [h2 rfl] at h1
theorem one10_f (k : Nat) (a0 a1 a2 a3 : Int) (l4 l5 : List S41) (b0 b1 b2 b3 : Int) (m4 m5 : List S41) : ssi_Same_1.f k a0 a1 a2 a3 l4 l5 b0 b1 b2 b3 m4 m5 = conductorref10_SameOne.f k a0 a1 a2 a3 l4 l5 b0 b1 b2 b3 m4 m5 := by
  unfold ssi_Same_1.f conductorref10_SameOne.f
  simp only [ssame_f]
theorem same10_l0 : ∀ (k : Nat) (a b : List S26) (n i : Int), api_Record_74.l0 k b a n i = conductorref10_Same.l0 k a b n i
  | 0, _, _, _, _ => rfl
  | k + 1, a, b, n, i => by simp only [api_Record_74.l0, conductorref10_Same.l0, one10_f, same10_l0 k a b n]
theorem ssame10_f (k : Nat) (a b : List S26) : ssi_Same.f k a b = conductorref10_Same.f k a b := by
  unfold ssi_Same.f api_Record_74.f conductorref10_Same.f
  rw [same10_l0]
  cases (if (a.length : Int) = (b.length : Int) then conductorref10_Same.l0 k a b (a.length : Int) 0 else some false) <;> rfl
theorem tot_mem' : ∀ (l : List S26) (r : S26), r ∈ l → r.f4.length + r.f5.length ≤ tot l
  | [], r, h => by cases h
  | a :: l, r, h => by
    rw [tot_cons]
    rcases List.mem_cons.1 h with e | e
    · rw [e]; omega
    · have := tot_mem' l r e; omega
theorem SsiJoins (l : List S26) (hl : l.length ≤ 9223372036854775807) (wl : ∀ x ∈ l, W26 x) (m : List S26) (hm : m.length ≤ 9223372036854775807) (wm : ∀ x ∈ m, W26 x) (low : Int) (hlow : (Lit.int .u64 low).wf = true) (n : Int) (hn : (Lit.int .i64 n).wf = true) (a2 : Int) (ha2 : (Lit.int .i64 a2).wf = true) :
    ∃ k, conductorlaw10_SsiJoins.f k l m low n a2 = some true := by
  refine Ev.rounds (g := fun k => conductorlaw10_SsiJoins.f k l m low n a2) ?_
  have hlive : Ev (fun k => conductorlaw10_SsiJoins.j0 k l m low n a2 true) true :=
    Ev.step (fun k => by simp only [conductorlaw10_SsiJoins.j0, if_true]) (Ev.bind live10_ev (Ev.now true))
  unfold conductorlaw10_SsiJoins.f
  refine Ev.bind live10_ev (Ev.congr (fun k => by rw [if_pos rfl]) (Ev.bind (few_wf l hl wl) ?_))
  cases hf : fewB l with
  | false => exact Ev.congr (fun k => by rw [if_neg (by decide)]) hlive
  | true =>
    refine Ev.congr (fun k => by rw [if_pos rfl]) (Ev.bind (few_wf m hm wm) ?_)
    cases fewB m with
    | false => exact hlive
    | true =>
      obtain ⟨hl20, hl40⟩ := fewB_spec hf
      have ht := tot_le l hl40
      have hsl : ∀ r ∈ l, Sl r := fun r hr => by have := hl40 r hr; exact ⟨by omega, by omega⟩
      have h3 : ∀ r ∈ l, 0 ≤ r.f3 := fun r hr => (wf_u64 (wl r hr).2.2.2.1).1
      have hb2 := (wf_i64 ha2).2
      obtain ⟨f, f1, f2, f3, f4, _⟩ := fit10_ev l n a2 hb2 hf h3
      have hp := mx_pos n
      have hfl : f.length ≤ 20 := by split at f4 <;> omega
      obtain ⟨d, d1, _⟩ := same10_ev l m hl hsl
      have d3 : Ev (fun k => ssi_Same.f k l m) d := Ev.congr (fun k => ssame10_f k l m) d1
      have hfil : (l.filter fun r => decide (low < r.f1)).length ≤ l.length := List.length_filter_le _ _
      have j1 : Ev (fun k => conductorlaw10_SsiJoins.j1 k l m low n a2 l false) true := by
        refine Ev.step (fun k => by simp only [conductorlaw10_SsiJoins.j1, if_false, Bool.false_eq_true]; rfl) ?_
        refine Ev.bind (forget10_ev l low hf) (Ev.bind (rforget10_ev l low hl20) (Ev.bind (same10_refl _ (by omega) (fun r hr => hsl r (List.mem_filter.1 hr).1)) ?_))
        refine Ev.congr (fun k => by rw [if_pos rfl]) (Ev.bind f1 (Ev.bind f2 (Ev.bind (same10_refl f (by omega) (fun r hr => by have := tot_mem' f r hr; exact ⟨by omega, by omega⟩)) ?_)))
        refine Ev.congr (fun k => by rw [if_pos rfl]) (Ev.bind d3 (Ev.bind d1 ?_))
        exact Ev.congr (fun k => by rw [if_pos (by simp)]) (Ev.bind (same10_refl l hl hsl) (Ev.now true))
      refine Ev.step (fun k => by simp only [conductorlaw10_SsiJoins.j0, Bool.not_true, if_false, Bool.false_eq_true, Option.bind_some, List.nil_append]; rfl) ?_
      refine Ev.congr (fun k => by rw [if_pos (by rw [List.length_nil]; omega)]) ?_
      by_cases hlen : (l.length : Int) > 1
      · have hi0 : 0 < l.length := by omega
        have hi1 : 1 < l.length := by omega
        have e0 : rd_T26 l 0 = l[0] := rd26 l 0 hi0
        have e1 : rd_T26 l 1 = l[1] := rd26 l 1 hi1
        have q0 := hl40 l[0] (List.getElem_mem hi0)
        have q1 := hl40 l[1] (List.getElem_mem hi1)
        obtain ⟨x, x1, x2, x3, x4, x5, _⟩ := join10_ev l[0] l[1] a2 (by omega) (by omega) hb2 (h3 _ (List.getElem_mem hi0)) (h3 _ (List.getElem_mem hi1))
        obtain ⟨c, c1, c2⟩ := sameOne_ev x x ⟨by omega, by omega⟩
        rw [c2 rfl] at c1
        refine Ev.congr (fun k => by rw [if_pos hlen, if_pos (by omega), if_pos (by omega), e0, e1]) (Ev.bind x1 (Ev.bind x2 (Ev.bind c1 ?_)))
        exact j1
      · refine Ev.congr (fun k => by rw [if_neg hlen]) j1
end Go.Proofs.Ytjefihcbhdennaa.Pure
