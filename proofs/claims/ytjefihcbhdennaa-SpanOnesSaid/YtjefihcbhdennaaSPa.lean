/- Plain lemmas on the printed functions of spans: what their loops answer. -/
import Derived.Test.YtjefihcbhdennaaS0
import Derived.Test.YtjefihcbhdennaaS18
import Derived.Test.YtjefihcbhdennaaS26
import Derived.Test.YtjefihcbhdennaaS27
import Derived.Test.YtjefihcbhdennaaS28
import Derived.Test.YtjefihcbhdennaaS31
import Derived.Test.YtjefihcbhdennaaS36
namespace Go.Proofs.Ytjefihcbhdennaa.Pure
open Go.RowKit Go.Proofs.YtjefihcbhdennaaW.PrintWords Go.Proofs.Ytjefihcbhdennaa.S

theorem w1 {i n : Nat} (h : i < n) (hn : n ≤ 9223372036854775807) : wrap64 ((i : Int) + 1) = ((i + 1 : Nat) : Int) := by unfold wrap64; omega
theorem rd41 (l : List S41) (i : Nat) (h : i < l.length) : rd_T41 l (i : Int) = l[i] := by
  simp [rd_T41, List.getD_eq_getElem?_getD, h]
theorem rd26 (l : List S26) (i : Nat) (h : i < l.length) : rd_T26 l (i : Int) = l[i] := by
  simp [rd_T26, List.getD_eq_getElem?_getD, h]
/-! the order of strings -/
theorem bl (a b : ByteArray) : Op.bytesLess a.toList b.toList = decide (a.toList < b.toList) := Proofs.bytesLess_eq _ _
theorem lt_tri (a b : List UInt8) : a < b ∨ a = b ∨ b < a := by
  by_cases h1 : a < b
  · exact .inl h1
  · by_cases h : b < a
    · exact .inr (.inr h)
    · exact .inr (.inl (List.le_antisymm (List.not_lt.1 h) (List.not_lt.1 h1)))
theorem maxS_toList (x y : ByteArray) : (Lib.maxS x y).toList = if x.toList < y.toList then y.toList else x.toList := by
  unfold Lib.maxS
  rw [Lib.toList_data, Lib.toList_data, Lib.toList_data]
  by_cases h : x.data.toList < y.data.toList <;> simp [h]
theorem ltt {a b c : List UInt8} (h : a < b) (k : b < c) : a < c := List.lt_trans h k
theorem lti (a : List UInt8) : ¬ a < a := List.lt_irrefl a
/-! Meets, Meet -/
def meetL (a b : List S41) : Bool := a.any fun x => b.any fun y => meetsB x y
theorem meet_f (a b : List S41) : span_Meet.f a b = some (meetL a b) := rfl
theorem meetsB_iff (x y : S41) : meetsB x y = true ↔ (x.f1.toList = [] ∨ x.f0.toList < x.f1.toList) ∧ (y.f1.toList = [] ∨ y.f0.toList < y.f1.toList) ∧ (x.f1.toList = [] ∨ y.f0.toList < x.f1.toList) ∧ (y.f1.toList = [] ∨ x.f0.toList < y.f1.toList) := by
  have h := meetsB_eq x y
  unfold span_Meets.f span_Right.f span_ahead.f at h
  simp only [bl] at h
  by_cases h1 : x.f1.toList = [] <;> by_cases h2 : y.f1.toList = [] <;> by_cases h3 : x.f0.toList < x.f1.toList <;> by_cases h4 : y.f0.toList < y.f1.toList <;> by_cases h5 : y.f0.toList < x.f1.toList <;> by_cases h6 : x.f0.toList < y.f1.toList <;> simp [h1, h2, h3, h4, h5, h6] at h ⊢ <;> simp_all
theorem refMeets (x y : S41) : conductorref09_Meets.f x.f0 x.f1 y.f0 y.f1 = some (meetsB x y) := by
  have key : conductorref09_Meets.f x.f0 x.f1 y.f0 y.f1 = some (decide ((x.f1.toList = [] ∨ (Lib.maxS x.f0 y.f0).toList < x.f1.toList) ∧ (y.f1.toList = [] ∨ (Lib.maxS x.f0 y.f0).toList < y.f1.toList))) := by
    unfold conductorref09_Meets.f conductorref09_Has.f
    simp only [bl]
    have a1 : ¬ (Lib.maxS x.f0 y.f0).toList < x.f0.toList := by
      rw [maxS_toList]; split
      · intro h; exact lti _ (ltt h ‹_›)
      · exact lti _
    have a2 : ¬ (Lib.maxS x.f0 y.f0).toList < y.f0.toList := by
      rw [maxS_toList]; split
      · exact lti _
      · assumption
    by_cases h1 : x.f1.toList = [] <;> by_cases h2 : y.f1.toList = [] <;> by_cases h3 : (Lib.maxS x.f0 y.f0).toList < x.f1.toList <;> by_cases h4 : (Lib.maxS x.f0 y.f0).toList < y.f1.toList <;> simp [a1, a2, h1, h2, h3, h4]
  rw [key]
  congr 1
  rw [Bool.eq_iff_iff, meetsB_iff, decide_eq_true_eq, maxS_toList]
  by_cases h : x.f0.toList < y.f0.toList
  · rw [if_pos h]
    constructor
    · rintro ⟨h1 | h1, h2⟩
      · exact ⟨.inl h1, h2, .inl h1, h2.imp id (fun k => ltt h k)⟩
      · exact ⟨.inr (ltt h h1), h2, .inr h1, h2.imp id (fun k => ltt h k)⟩
    · rintro ⟨h1, h2, h3, h4⟩; exact ⟨h3, h2⟩
  · rw [if_neg h]
    have h' : y.f0.toList = x.f0.toList ∨ y.f0.toList < x.f0.toList := by
      rcases lt_tri x.f0.toList y.f0.toList with k | k | k
      · exact absurd k h
      · exact .inl k.symm
      · exact .inr k
    constructor
    · rintro ⟨h1, h2⟩
      refine ⟨h1, h2.imp id (fun k => ?_), h1.imp id (fun k => ?_), h2⟩
      · rcases h' with e | e
        · rw [e]; exact k
        · exact ltt e k
      · rcases h' with e | e
        · rw [e]; exact k
        · exact ltt e k
    · rintro ⟨h1, h2, h3, h4⟩; exact ⟨h1, h4⟩
theorem refMeet_l1 (x1 x9 : List S41) (h1 : x1.length ≤ 9223372036854775807) (x10 x11 : Int) (x : S41) (b : Bool)
    (hc : Ev (fun k => conductorref09_Meet.l0 k x1 x9 x10 (wrap64 (x11 + 1))) b) : ∀ d i : Nat, i + d = x1.length →
    Ev (fun k => conductorref09_Meet.l1 k x1 x9 x10 x11 x1 (x1.length : Int) (i : Int) x.f0 x.f1) ((x1.drop i).any (fun y => meetsB x y) || b) := by
  intro d
  induction d with
  | zero =>
    intro i hd
    refine Ev.step (f := fun k => conductorref09_Meet.l0 k x1 x9 x10 (wrap64 (x11 + 1))) (fun k => ?_) ?_
    · simp only [conductorref09_Meet.l1]
      rw [if_neg (by omega)]
    · rw [List.drop_eq_nil_of_le (by omega)]; simpa using hc
  | succ d ih =>
    intro i hd
    have hi : i < x1.length := by omega
    rw [List.drop_eq_getElem_cons hi, List.any_cons]
    cases hm : meetsB x x1[i] with
    | true =>
      refine Ev.step (f := fun _ => some true) (fun k => ?_) (by simpa using Ev.now true)
      simp only [conductorref09_Meet.l1]
      rw [if_pos (by omega), if_pos (by omega), if_pos (by omega), rd41 _ i hi, refMeets, hm]; rfl
    | false =>
      have := ih (i + 1) (by omega)
      refine Ev.step (fun k => ?_) (by simpa using this)
      simp only [conductorref09_Meet.l1]
      rw [if_pos (by omega), if_pos (by omega), if_pos (by omega), rd41 _ i hi, refMeets, hm, w1 hi h1]; rfl
theorem refMeet_ev (a b : List S41) (ha : a.length ≤ 9223372036854775807) (hb : b.length ≤ 9223372036854775807) : Ev (fun k => conductorref09_Meet.f k a b) (meetL a b) := by
  have key : ∀ d i : Nat, i + d = a.length → Ev (fun k => conductorref09_Meet.l0 k b a (a.length : Int) (i : Int)) (meetL (a.drop i) b) := by
    intro d
    induction d with
    | zero =>
      intro i hd
      refine Ev.step (f := fun _ => some false) (fun k => ?_) ?_
      · simp only [conductorref09_Meet.l0]
        rw [if_neg (by omega)]
      · rw [List.drop_eq_nil_of_le (by omega)]; exact Ev.now _
    | succ d ih =>
      intro i hd
      have hi : i < a.length := by omega
      rw [List.drop_eq_getElem_cons hi]
      have hn := ih (i + 1) (by omega)
      rw [← w1 hi ha] at hn
      have h := refMeet_l1 b a hb (a.length : Int) (i : Int) a[i] _ hn b.length 0 (by omega)
      have e : meetL (a[i] :: a.drop (i + 1)) b = ((b.drop 0).any (fun y => meetsB a[i] y) || meetL (a.drop (i + 1)) b) := by rw [List.drop_zero]; rfl
      rw [e]
      refine Ev.step (fun k => ?_) h
      simp only [conductorref09_Meet.l0]
      rw [if_pos (by omega), if_pos (by omega), if_pos (by omega), rd41 _ i hi]; rfl
  exact key a.length 0 (by omega)
/-! few -/
def FewB (l : List S41) : Bool := decide ((l.length : Int) ≤ 40) && l.all fun s => decide (s.f0.size ≤ 300) && decide (s.f1.size ≤ 300)
theorem Few_ev (l : List S41) (hl : l.length ≤ 9223372036854775807) : Ev (fun k => conductorlaw09_Few.f k l) (FewB l) := by
  have key : ∀ d i : Nat, i + d = l.length → Ev (fun k => conductorlaw09_Few.l0 k l l (l.length : Int) (i : Int)) (decide ((l.length : Int) ≤ 40) && (l.drop i).all fun s => decide (s.f0.size ≤ 300) && decide (s.f1.size ≤ 300)) := by
    intro d
    induction d with
    | zero =>
      intro i hd
      refine Ev.step (f := fun _ => some (decide ((l.length : Int) ≤ 40))) (fun k => ?_) ?_
      · simp only [conductorlaw09_Few.l0]
        rw [if_neg (by omega)]
      · rw [List.drop_eq_nil_of_le (by omega)]; simpa using Ev.now _
    | succ d ih =>
      intro i hd
      have hi : i < l.length := by omega
      rw [List.drop_eq_getElem_cons hi, List.all_cons]
      by_cases h1 : (l[i].f0.size : Int) > 300
      · refine Ev.step (f := fun _ => some false) (fun k => ?_) ?_
        · simp only [conductorlaw09_Few.l0]
          rw [if_pos (by omega), if_pos (by omega), if_pos (by omega), rd41 _ i hi, if_pos h1]
        · have : ¬ l[i].f0.size ≤ 300 := by omega
          simpa [this] using Ev.now false
      · by_cases h2 : (l[i].f1.size : Int) > 300
        · refine Ev.step (f := fun _ => some false) (fun k => ?_) ?_
          · simp only [conductorlaw09_Few.l0]
            rw [if_pos (by omega), if_pos (by omega), if_pos (by omega), rd41 _ i hi, if_neg h1, if_pos h2]
          · have : ¬ l[i].f1.size ≤ 300 := by omega
            simpa [this] using Ev.now false
        · have h1' : l[i].f0.size ≤ 300 := by omega
          have h2' : l[i].f1.size ≤ 300 := by omega
          have := ih (i + 1) (by omega)
          refine Ev.step (fun k => ?_) (by simpa [h1', h2'] using this)
          simp only [conductorlaw09_Few.l0]
          rw [if_pos (by omega), if_pos (by omega), if_pos (by omega), rd41 _ i hi, if_neg h1, if_neg h2, w1 hi hl]; rfl
  exact key l.length 0 (by omega)
end Go.Proofs.Ytjefihcbhdennaa.Pure
