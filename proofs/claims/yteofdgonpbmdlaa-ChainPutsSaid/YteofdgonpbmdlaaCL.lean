/- Plain lemmas on the printed functions of chains: what their loops answer. -/
import Derived.Test.YteofdgonpbmdlaaC0
import Derived.Test.YteofdgonpbmdlaaC1
import Derived.Test.YteofdgonpbmdlaaC2
import Derived.Test.YteofdgonpbmdlaaC3
import Derived.Test.YteofdgonpbmdlaaC4
import Derived.Test.YteofdgonpbmdlaaC5
import Derived.Test.YteofdgonpbmdlaaC6
import Derived.Test.YteofdgonpbmdlaaC7
import Derived.Test.YteofdgonpbmdlaaC8
import Derived.Test.YteofdgonpbmdlaaC9
import Derived.Test.YteofdgonpbmdlaaC10
import Derived.Test.YteofdgonpbmdlaaC11
import Derived.Test.YteofdgonpbmdlaaC12
import Derived.Test.YteofdgonpbmdlaaC13
import Derived.Test.YteofdgonpbmdlaaC15
import Derived.Test.YteofdgonpbmdlaaC16
import Derived.Test.YteofdgonpbmdlaaCK
namespace Go.Proofs.Yteofdgonpbmdlaa.Pure
open Go.RowKit Go.Proofs.YteofdgonpbmdlaaW.PrintWords Go.Proofs.Yteofdgonpbmdlaa.C

theorem w1 {i n : Nat} (h : i < n) (hn : n ≤ 9223372036854775807) : wrap64 ((i : Int) + 1) = ((i + 1 : Nat) : Int) := by unfold wrap64; omega
theorem rd_nat (l : List S28) (i : Nat) (h : i < l.length) : rd_T28 l (i : Int) = l[i] := by
  simp [rd_T28, List.getD_eq_getElem?_getD, h]

/-! Right -/
def rgt : Int → List S28 → Bool
  | _, [] => true
  | a, v :: t => if v.f0 ≤ a then false else if v.f1 = true then (if ((v.f2).length : Int) > 0 then false else rgt v.f0 t) else rgt v.f0 t

theorem cRight_loop (l : List S28) (hl : l.length ≤ 9223372036854775807) : ∀ (d i : Nat) (a : Int) (k : Nat), i + d = l.length → d < k → chain_Right.l0 k a l l.length i = some (rgt a (l.drop i)) := by
  intro d
  induction d with
  | zero =>
    intro i a k hd hk
    obtain ⟨k, rfl⟩ : ∃ m, k = m + 1 := ⟨k - 1, by omega⟩
    simp only [chain_Right.l0]
    rw [if_neg (by omega), List.drop_eq_nil_of_le (by omega)]; rfl
  | succ d ih =>
    intro i a k hd hk
    obtain ⟨k, rfl⟩ : ∃ m, k = m + 1 := ⟨k - 1, by omega⟩
    have hi : i < l.length := by omega
    simp only [chain_Right.l0]
    rw [if_pos (by omega), if_pos (by omega), if_pos (by omega), w1 hi hl, rd_nat l i hi, List.drop_eq_getElem_cons hi, ih (i + 1) _ k (by omega) (by omega)]
    simp only [rgt]
    by_cases h1 : l[i].f0 ≤ a <;> by_cases h2 : l[i].f1 = true <;> by_cases h3 : (l[i].f2.length : Int) > 0 <;> simp only [h1, h2, h3, if_true, if_false, Bool.false_eq_true]
theorem cRight_ev (l : List S28) (hl : l.length ≤ 9223372036854775807) : Ev (fun k => chain_Right.f k l) (rgt 0 l) :=
  ⟨l.length + 1, fun k hk => cRight_loop l hl l.length 0 0 k (by omega) (by omega)⟩
theorem rRight_loop (l : List S28) (hl : l.length ≤ 9223372036854775807) : ∀ (d i : Nat) (a : Int) (k : Nat), i + d = l.length → d < k → conductorref07_Right.l0 k a l l.length i = some (rgt a (l.drop i)) := by
  intro d
  induction d with
  | zero =>
    intro i a k hd hk
    obtain ⟨k, rfl⟩ : ∃ m, k = m + 1 := ⟨k - 1, by omega⟩
    simp only [conductorref07_Right.l0]
    rw [if_neg (by omega), List.drop_eq_nil_of_le (by omega)]; rfl
  | succ d ih =>
    intro i a k hd hk
    obtain ⟨k, rfl⟩ : ∃ m, k = m + 1 := ⟨k - 1, by omega⟩
    have hi : i < l.length := by omega
    simp only [conductorref07_Right.l0]
    rw [if_pos (by omega), if_pos (by omega), if_pos (by omega), w1 hi hl, rd_nat l i hi, List.drop_eq_getElem_cons hi, ih (i + 1) _ k (by omega) (by omega)]
    simp only [rgt]
    by_cases h1 : l[i].f0 ≤ a <;> by_cases h2 : l[i].f1 = true <;> by_cases h3 : (l[i].f2.length : Int) > 0 <;> simp only [h1, h2, h3, if_true, if_false, Bool.false_eq_true]
theorem rRight_ev (l : List S28) (hl : l.length ≤ 9223372036854775807) : Ev (fun k => conductorref07_Right.f k l) (rgt 0 l) :=
  ⟨l.length + 1, fun k hk => rRight_loop l hl l.length 0 0 k (by omega) (by omega)⟩
theorem rgt_iff (l : List S28) : ∀ a, rgt a l = true ↔ (∀ v ∈ l, a < v.f0 ∧ (v.f1 = true → v.f2 = [])) ∧ l.Pairwise (fun x y => x.f0 < y.f0) := by
  induction l with
  | nil => intro a; simp [rgt]
  | cons v t ih =>
    intro a
    simp only [rgt, List.mem_cons, forall_eq_or_imp, List.pairwise_cons]
    by_cases h1 : v.f0 ≤ a
    · rw [if_pos h1]; constructor
      · intro h; cases h
      · intro h; have := h.1.1.1; omega
    · rw [if_neg h1]
      by_cases h2 : v.f1 = true
      · rw [if_pos h2]
        by_cases h3 : (v.f2.length : Int) > 0
        · rw [if_pos h3]; constructor
          · intro h; cases h
          · intro h; have := h.1.1.2 h2; rw [this] at h3; simp at h3
        · rw [if_neg h3, ih]
          have h4 : v.f2 = [] := by cases hf : v.f2 with | nil => rfl | cons x y => rw [hf] at h3; simp at h3
          constructor
          · rintro ⟨ha, hb⟩; exact ⟨⟨⟨by omega, fun _ => h4⟩, fun x hx => ⟨by have := (ha x hx).1; omega, (ha x hx).2⟩⟩, fun x hx => (ha x hx).1, hb⟩
          · rintro ⟨⟨_, ha⟩, hb, hc⟩; exact ⟨fun x hx => ⟨hb x hx, (ha x hx).2⟩, hc⟩
      · rw [if_neg h2, ih]
        constructor
        · rintro ⟨ha, hb⟩; exact ⟨⟨⟨by omega, fun h => absurd h h2⟩, fun x hx => ⟨by have := (ha x hx).1; omega, (ha x hx).2⟩⟩, fun x hx => (ha x hx).1, hb⟩
        · rintro ⟨⟨_, ha⟩, hb, hc⟩; exact ⟨fun x hx => ⟨hb x hx, (ha x hx).2⟩, hc⟩
theorem rgt_drop {l : List S28} (h : rgt 0 l = true) (t : Nat) : rgt 0 (l.drop t) = true := by
  rw [rgt_iff] at h ⊢
  exact ⟨fun v hv => h.1 v (List.mem_of_mem_drop hv), h.2.sublist (List.drop_sublist _ _)⟩

/-! few -/
def fewB (l : List S28) : Bool := decide ((l.length : Int) ≤ 100) && l.all fun v => decide ((v.f2.length : Int) ≤ 1000)
theorem few_loop (l : List S28) (hl : l.length ≤ 9223372036854775807) : ∀ (d i : Nat) (k : Nat), i + d = l.length → d < k → conductorlaw07_few.l0 k l l l.length i = some (decide ((l.length : Int) ≤ 100) && (l.drop i).all fun v => decide ((v.f2.length : Int) ≤ 1000)) := by
  intro d
  induction d with
  | zero =>
    intro i k hd hk
    obtain ⟨k, rfl⟩ : ∃ m, k = m + 1 := ⟨k - 1, by omega⟩
    simp only [conductorlaw07_few.l0]
    rw [if_neg (by omega), List.drop_eq_nil_of_le (by omega)]; simp
  | succ d ih =>
    intro i k hd hk
    obtain ⟨k, rfl⟩ : ∃ m, k = m + 1 := ⟨k - 1, by omega⟩
    have hi : i < l.length := by omega
    simp only [conductorlaw07_few.l0]
    rw [if_pos (by omega), if_pos (by omega), if_pos (by omega), w1 hi hl, rd_nat l i hi, List.drop_eq_getElem_cons hi, ih (i + 1) k (by omega) (by omega)]
    by_cases h3 : (l[i].f2.length : Int) > 1000
    · rw [if_pos h3]
      have : ¬ (l[i].f2.length : Int) ≤ 1000 := by omega
      rw [List.all_cons, decide_eq_false this, Bool.false_and, Bool.and_false]
    · rw [if_neg h3]
      have : (l[i].f2.length : Int) ≤ 1000 := by omega
      rw [List.all_cons, decide_eq_true this, Bool.true_and]
theorem few_ev (l : List S28) (hl : l.length ≤ 9223372036854775807) : Ev (fun k => conductorlaw07_few.f k l) (fewB l) :=
  ⟨l.length + 1, fun k hk => few_loop l hl l.length 0 k (by omega) (by omega)⟩
theorem fewB_spec {l : List S28} (h : fewB l = true) : l.length ≤ 100 ∧ ∀ v ∈ l, v.f2.length ≤ 1000 := by
  simp only [fewB, Bool.and_eq_true, decide_eq_true_eq, List.all_eq_true] at h
  exact ⟨by omega, fun v hv => by have := h.2 v hv; omega⟩

/-! the chapter's examples -/
theorem live_ev : Ev (fun k => conductorlaw07_live.f k) true := Ev.of conductorlaw07_live.mono (k := 10) (by decide +kernel)

/-! upto, Find, Get, Last -/
def Upto (l : List S28) (a : Int) (n : Nat) : Prop := n ≤ l.length ∧ (∀ j (h : j < l.length), j < n → l[j].f0 ≤ a) ∧ ∀ j (h : j < l.length), n ≤ j → a < l[j].f0
theorem pw_lt {l : List S28} (hs : l.Pairwise (fun x y => x.f0 < y.f0)) {i j : Nat} (hij : i < j) (hj : j < l.length) : l[i].f0 < l[j].f0 := List.pairwise_iff_getElem.1 hs i j (by omega) hj hij
theorem upto_spec (l : List S28) (a : Int) (hs : l.Pairwise (fun x y => x.f0 < y.f0)) : ∀ k lo hi : Nat, lo ≤ hi → hi ≤ l.length → hi - lo ≤ k →
    (∀ j (h : j < l.length), j < lo → l[j].f0 ≤ a) → (∀ j (h : j < l.length), hi ≤ j → a < l[j].f0) → ∃ n : Nat, upto_go l a k lo hi = n ∧ Upto l a n := by
  intro k
  induction k with
  | zero => intro lo hi h1 h2 h3 h4 h5; exact ⟨lo, rfl, by omega, fun j h hj => h4 j h hj, fun j h hj => h5 j h (by omega)⟩
  | succ k ih =>
    intro lo hi h1 h2 h3 h4 h5
    simp only [upto_go]
    by_cases hlt : lo < hi
    · rw [if_pos (by omega)]
      obtain ⟨m, hm, hm1, hm2⟩ : ∃ m : Nat, (lo : Int) + ((hi : Int) - lo) / 2 = m ∧ lo ≤ m ∧ m < hi := ⟨((lo : Int) + ((hi : Int) - lo) / 2).toNat, by omega, by omega, by omega⟩
      rw [hm, rd_nat l m (by omega)]
      by_cases hc : l[m].f0 ≤ a
      · rw [if_pos hc]
        exact ih (m + 1) hi (by omega) h2 (by omega) (fun j h hj => by
          by_cases he : j = m
          · subst he; exact hc
          · have := pw_lt hs (show j < m by omega) (by omega); omega) h5
      · rw [if_neg hc]
        exact ih lo m (by omega) (by omega) (by omega) h4 (fun j h hj => by
          by_cases he : j = m
          · subst he; omega
          · have := pw_lt hs (show m < j by omega) h; omega)
    · rw [if_neg (by omega)]
      exact ⟨lo, rfl, by omega, fun j h hj => h4 j h hj, fun j h hj => h5 j h (by omega)⟩
theorem upto_is (l : List S28) (a : Int) (hs : rgt 0 l = true) : ∃ n : Nat, upto_go l a l.length 0 l.length = n ∧ Upto l a n :=
  upto_spec l a ((rgt_iff l 0).1 hs).2 l.length 0 l.length (by omega) (by omega) (by omega) (fun j h hj => by omega) (fun j h hj => by omega)
theorem Upto.uniq {l : List S28} {a : Int} {n m : Nat} (h : Upto l a n) (h' : Upto l a m) : n = m := by
  rcases Nat.lt_trichotomy n m with hlt | rfl | hlt
  · have h1 := h.2.2 n (by have := h'.1; omega) (by omega); have h2 := h'.2.1 n (by have := h'.1; omega) hlt; omega
  · rfl
  · have h1 := h'.2.2 m (by have := h.1; omega) (by omega); have h2 := h.2.1 m (by have := h.1; omega) hlt; omega
theorem upto_val {l : List S28} {a : Int} (hs : rgt 0 l = true) {n : Nat} (h : Upto l a n) : upto_go l a l.length 0 l.length = n := by
  obtain ⟨m, h1, h2⟩ := upto_is l a hs
  rw [h1, h.uniq h2]
/-- What is found. -/
def fndV (l : List S28) (n : Nat) : Int × Bool × List Int × Bool := if h : 0 < n ∧ n ≤ l.length then (l[n - 1].f0, l[n - 1].f1, l[n - 1].f2, true) else (0, false, [], false)
def getV (l : List S28) (n : Nat) : List Int × Bool := if h : 0 < n ∧ n ≤ l.length then (if l[n - 1].f1 = true then ([], false) else (l[n - 1].f2, true)) else ([], false)
theorem fndV_pos {l : List S28} {n : Nat} (h : 0 < n ∧ n ≤ l.length) : fndV l n = (l[n - 1].f0, l[n - 1].f1, l[n - 1].f2, true) := dif_pos h
theorem fndV_neg {l : List S28} {n : Nat} (h : ¬ (0 < n ∧ n ≤ l.length)) : fndV l n = (0, false, [], false) := dif_neg h
theorem getV_pos {l : List S28} {n : Nat} (h : 0 < n ∧ n ≤ l.length) : getV l n = (if l[n - 1].f1 = true then ([], false) else (l[n - 1].f2, true)) := dif_pos h
theorem getV_neg {l : List S28} {n : Nat} (h : ¬ (0 < n ∧ n ≤ l.length)) : getV l n = ([], false) := dif_neg h
theorem clone_eq {l : List Int} (h : l.length ≤ 1000) : bytes_Clone.f l = some l := by unfold bytes_Clone.f; rw [if_pos (by omega)]
theorem find_eq {l : List S28} {a : Int} (hs : rgt 0 l = true) (hf : ∀ v ∈ l, v.f2.length ≤ 1000) (hl : l.length ≤ 1000) {n : Nat} (h : Upto l a n) : chain_Find.f l a = some (fndV l n) := by
  unfold chain_Find.f chain_upto.f
  rw [upto_val hs h]
  simp only [Option.bind_some]
  by_cases h0 : 0 < n
  · have hn := h.1
    have hw : wrap64 ((n : Int) - 1) = ((n - 1 : Nat) : Int) := by unfold wrap64; omega
    rw [if_neg (by omega), hw, if_pos (by omega), if_pos (by omega), rd_nat l (n - 1) (by omega), clone_eq (hf _ (List.getElem_mem _))]
    simp only [Option.bind_some, fndV]
    rw [dif_pos ⟨h0, hn⟩]
  · rw [if_pos (by omega), fndV, dif_neg (by omega)]
theorem get_eq {l : List S28} {a : Int} (hs : rgt 0 l = true) (hf : ∀ v ∈ l, v.f2.length ≤ 1000) (hl : l.length ≤ 1000) {n : Nat} (h : Upto l a n) : chain_Get.f l a = some (getV l n) := by
  unfold chain_Get.f
  rw [find_eq hs hf hl h]
  simp only [Option.bind_some]
  by_cases h0 : 0 < n ∧ n ≤ l.length
  · rw [fndV_pos h0, getV_pos h0]
    simp only [if_true]
    by_cases h1 : l[n - 1].f1 = true <;> simp only [h1, if_true, if_false, Bool.false_eq_true]
  · rw [fndV_neg h0, getV_neg h0]
    simp
theorem last_eq {l : List S28} (hl : l.length ≤ 1000) : chain_Last.f l = some (if h : 0 < l.length then l[l.length - 1].f0 else 0) := by
  unfold chain_Last.f
  by_cases h0 : 0 < l.length
  · have hw : wrap64 ((l.length : Int) - 1) = ((l.length - 1 : Nat) : Int) := by unfold wrap64; omega
    rw [if_neg (by omega), hw, if_pos (by omega), if_pos (by omega), rd_nat l _ (by omega), dif_pos h0]
  · rw [if_pos (by omega), dif_neg h0]
/-! the document's Find -/
def fnd (a : Int) : Int × Bool × List Int × Bool → List S28 → Int × Bool × List Int × Bool
  | acc, [] => acc
  | acc, v :: t => if v.f0 ≤ a then fnd a (v.f0, v.f1, v.f2, true) t else fnd a acc t
theorem rFind_loop (l : List S28) (hl : l.length ≤ 9223372036854775807) (a : Int) : ∀ (d i : Nat) (x0 : Int) (x1 : Bool) (x2 : List Int) (x3 : Bool) (k : Nat), i + d = l.length → d < k → conductorref07_Find.l0 k a x3 l l.length i x0 x1 x2 = some (fnd a (x0, x1, x2, x3) (l.drop i)) := by
  intro d
  induction d with
  | zero =>
    intro i x0 x1 x2 x3 k hd hk
    obtain ⟨k, rfl⟩ : ∃ m, k = m + 1 := ⟨k - 1, by omega⟩
    simp only [conductorref07_Find.l0]
    rw [if_neg (by omega), List.drop_eq_nil_of_le (by omega)]; rfl
  | succ d ih =>
    intro i x0 x1 x2 x3 k hd hk
    obtain ⟨k, rfl⟩ : ∃ m, k = m + 1 := ⟨k - 1, by omega⟩
    have hi : i < l.length := by omega
    simp only [conductorref07_Find.l0]
    rw [if_pos (by omega), if_pos (by omega), if_pos (by omega), w1 hi hl, rd_nat l i hi, List.drop_eq_getElem_cons hi, ih (i + 1) _ _ _ _ k (by omega) (by omega), ih (i + 1) _ _ _ _ k (by omega) (by omega)]
    simp only [fnd]
    by_cases h1 : l[i].f0 ≤ a <;> simp only [h1, if_true, if_false]
theorem fnd_app (a : Int) (l2 : List S28) : ∀ (l1 : List S28) (acc : Int × Bool × List Int × Bool), fnd a acc (l1 ++ l2) = fnd a (fnd a acc l1) l2
  | [], acc => rfl
  | v :: t, acc => by simp only [List.cons_append, fnd]; split <;> exact fnd_app a l2 t _
theorem fnd_none (a : Int) : ∀ (l : List S28) (acc : Int × Bool × List Int × Bool), (∀ v ∈ l, a < v.f0) → fnd a acc l = acc
  | [], acc, _ => rfl
  | v :: t, acc, h => by simp only [fnd]; rw [if_neg (by have := h v (List.mem_cons_self ..); omega)]; exact fnd_none a t acc (fun x hx => h x (List.mem_cons_of_mem _ hx))
theorem Upto.drop_gt {l : List S28} {a : Int} {n : Nat} (h : Upto l a n) : ∀ v ∈ l.drop n, a < v.f0 := by
  intro v hv
  obtain ⟨i, hi, rfl⟩ := List.getElem_of_mem hv
  rw [List.getElem_drop]
  exact h.2.2 _ (by rw [List.length_drop] at hi; omega) (by omega)
theorem fnd_eq {l : List S28} {a : Int} {n : Nat} (h : Upto l a n) : fnd a (0, false, [], false) l = fndV l n := by
  have hn := h.1
  cases n with
  | zero =>
    rw [fnd_none a l _ (by simpa using h.drop_gt), fndV, dif_neg (by omega)]
  | succ m =>
    have e : l = l.take m ++ (l[m] :: l.drop (m + 1)) := by rw [← List.drop_eq_getElem_cons, List.take_append_drop]
    rw [fndV, dif_pos ⟨by omega, hn⟩]
    conv => lhs; rw [e]
    rw [fnd_app]
    simp only [fnd]
    rw [if_pos (h.2.1 m (by omega) (by omega)), fnd_none a _ _ h.drop_gt]
    rfl
theorem rFind_ev (l : List S28) (hl : l.length ≤ 1000) (a : Int) {n : Nat} (h : Upto l a n) : Ev (fun k => conductorref07_Find.f k l a) (fndV l n) :=
  ⟨l.length + 1, fun k hk => by rw [← fnd_eq h]; exact rFind_loop l (by omega) a l.length 0 0 false [] false k (by omega) (by omega)⟩
theorem rFind_any (l : List S28) (hl : l.length ≤ 1000) (a : Int) : Ev (fun k => conductorref07_Find.f k l a) (fnd a (0, false, [], false) l) :=
  ⟨l.length + 1, fun k hk => rFind_loop l (by omega) a l.length 0 0 false [] false k (by omega) (by omega)⟩
theorem rGet_ev (l : List S28) (hl : l.length ≤ 1000) (a : Int) {n : Nat} (h : Upto l a n) : Ev (fun k => conductorref07_Get.f k l a) (getV l n) := by
  unfold conductorref07_Get.f
  refine Ev.bind (rFind_ev l hl a h) (Ev.congr (f := fun _ => some (getV l n)) (fun k => ?_) (Ev.now _))
  by_cases h0 : 0 < n ∧ n ≤ l.length
  · rw [fndV_pos h0, getV_pos h0]
    simp only [if_true]
    by_cases h1 : l[n - 1].f1 = true <;> simp only [h1, if_true, if_false, Bool.false_eq_true]
  · rw [fndV_neg h0, getV_neg h0]
    simp
theorem upto_all {l : List S28} (hw : ∀ x ∈ l, (Lit.int .u64 x.f0).wf = true ∧ True ∧ ∀ n ∈ x.f2, (Lit.int .u8 n).wf = true) : Upto l 18446744073709551615 l.length :=
  ⟨Nat.le_refl _, fun j h _ => (wf_u64 (hw _ (List.getElem_mem h)).1).2, fun j h hj => by omega⟩
theorem rLast_ev (l : List S28) (hl : l.length ≤ 1000) (hw : ∀ x ∈ l, (Lit.int .u64 x.f0).wf = true ∧ True ∧ ∀ n ∈ x.f2, (Lit.int .u8 n).wf = true) : Ev (fun k => conductorref07_Last.f k l) (if h : 0 < l.length then l[l.length - 1].f0 else 0) := by
  unfold conductorref07_Last.f
  refine Ev.bind (rFind_ev l hl _ (upto_all hw)) (Ev.congr (f := fun _ => some _) (fun k => ?_) (Ev.now _))
  by_cases h0 : 0 < l.length
  · rw [fndV_pos ⟨h0, Nat.le_refl _⟩, dif_pos h0]
  · rw [fndV_neg (by omega), dif_neg h0]

/-! Same -/
def sameV (x y : S28) : Bool := decide (x.f0 = y.f0) && ((x.f1 == y.f1) && ((strOfNums x.f2).toList == (strOfNums y.f2).toList))
def sameL : List S28 → List S28 → Bool
  | x :: s, y :: t => if sameV x y = true then sameL s t else false
  | _, _ => true
theorem sameOne_eq (x y : S28) : conductorref07_SameOne.f x.f0 x.f1 x.f2 y.f0 y.f1 y.f2 = some (sameV x y) := by
  unfold conductorref07_SameOne.f conductorref01_Equal.f sameV
  by_cases h1 : x.f0 = y.f0
  · by_cases h2 : (x.f1 == y.f1) = true
    · rw [if_pos h1, if_pos h2]; simp [h1, h2]
    · rw [if_pos h1, if_neg h2]; simp at h2; simp [h1, h2]
  · rw [if_neg h1]; simp [h1]
theorem rSame_loop (l m : List S28) (hl : l.length ≤ 9223372036854775807) (he : l.length = m.length) : ∀ (d i k : Nat), i + d = l.length → d < k → conductorref07_Same.l0 k l m l.length i = some (sameL (l.drop i) (m.drop i)) := by
  intro d
  induction d with
  | zero =>
    intro i k hd hk
    obtain ⟨k, rfl⟩ : ∃ m, k = m + 1 := ⟨k - 1, by omega⟩
    simp only [conductorref07_Same.l0]
    rw [if_neg (by omega), List.drop_eq_nil_of_le (by omega)]; simp [sameL]
  | succ d ih =>
    intro i k hd hk
    obtain ⟨k, rfl⟩ : ∃ m, k = m + 1 := ⟨k - 1, by omega⟩
    have hi : i < l.length := by omega
    simp only [conductorref07_Same.l0]
    rw [if_pos (by omega), if_pos (by omega), if_pos (by omega), if_pos (by omega), w1 hi hl, rd_nat l i hi, rd_nat m i (by omega), List.drop_eq_getElem_cons hi, List.drop_eq_getElem_cons (show i < m.length by omega), ih (i + 1) k (by omega) (by omega), sameOne_eq]
    simp only [sameL, Option.bind_some]
    split <;> rfl
def sameB (l m : List S28) : Bool := if (l.length : Int) = m.length then sameL l m else false
theorem rSame_ev (l m : List S28) (hl : l.length ≤ 9223372036854775807) : Ev (fun k => conductorref07_Same.f k l m) (sameB l m) := by
  unfold conductorref07_Same.f sameB
  by_cases h : (l.length : Int) = m.length
  · simp only [if_pos h]
    exact ⟨l.length + 1, fun k hk => rSame_loop l m hl (by omega) l.length 0 k (by omega) (by omega)⟩
  · simp only [if_neg h]; exact Ev.now _
theorem sameV_refl (x : S28) : sameV x x = true := by simp [sameV]
theorem sameL_refl : ∀ l : List S28, sameL l l = true
  | [] => rfl
  | x :: t => by simp only [sameL, sameV_refl, if_true]; exact sameL_refl t
theorem sameB_refl (l : List S28) : sameB l l = true := by simp [sameB, sameL_refl]
theorem rSame_refl (l : List S28) (hl : l.length ≤ 9223372036854775807) : Ev (fun k => conductorref07_Same.f k l l) true := by have := rSame_ev l l hl; rwa [sameB_refl] at this
theorem eqB (l m : List Int) : conductorref01_Equal.f l m = some ((strOfNums l).toList == (strOfNums m).toList) := rfl
theorem eq_refl (l : List Int) : conductorref01_Equal.f l l = some true := by simp [eqB]

/-! owned, Trim -/
theorem owned_loop (l : List S28) (hl : l.length ≤ 1000) (hf : ∀ v ∈ l, v.f2.length ≤ 1000) : ∀ (d i k : Nat), i + d = l.length → d < k → chain_owned.l0 k (l.take i) l l.length i = some l := by
  intro d
  induction d with
  | zero =>
    intro i k hd hk
    obtain ⟨k, rfl⟩ : ∃ m, k = m + 1 := ⟨k - 1, by omega⟩
    simp only [chain_owned.l0]
    rw [if_neg (by omega), List.take_of_length_le (by omega)]
  | succ d ih =>
    intro i k hd hk
    obtain ⟨k, rfl⟩ : ∃ m, k = m + 1 := ⟨k - 1, by omega⟩
    have hi : i < l.length := by omega
    simp only [chain_owned.l0]
    rw [if_pos (by omega), if_pos (by omega), if_pos (by omega), w1 hi (by omega), rd_nat l i hi, clone_eq (hf _ (List.getElem_mem _))]
    simp only [Option.bind_some]
    rw [if_pos (by rw [List.length_take]; omega)]
    have := ih (i + 1) k (by omega) (by omega)
    rwa [List.take_succ_eq_append_getElem hi] at this
theorem owned_ev (l : List S28) (hl : l.length ≤ 1000) (hf : ∀ v ∈ l, v.f2.length ≤ 1000) : Ev (fun k => chain_owned.f k l) l := by
  refine ⟨l.length + 1, fun k hk => ?_⟩
  show chain_owned.f k l = some l
  have hw : wrap64 ((l.length : Int) + 1) = ((l.length + 1 : Nat) : Int) := by unfold wrap64; omega
  unfold chain_owned.f
  rw [hw, if_pos (by omega), if_pos (by omega)]
  exact owned_loop l hl hf l.length 0 k (by omega) (by omega)
/-- Where a chain is cut. -/
def tAt (l : List S28) (n : Nat) : Nat := if h : 0 < n ∧ n ≤ l.length then (if l[n - 1].f1 = false then n - 1 else n) else n
theorem trimAt_eq {l : List S28} {a : Int} (hs : rgt 0 l = true) {n : Nat} (h : Upto l a n) : trimAt l a = tAt l n := by
  unfold trimAt tAt
  rw [upto_val hs h]
  by_cases h0 : 0 < n
  · have e : (n : Int) - 1 = ((n - 1 : Nat) : Int) := by omega
    have hn := h.1
    rw [dif_pos ⟨h0, hn⟩, e, rd_nat l (n - 1) (by omega)]
    by_cases hg : l[n - 1].f1 = false
    · rw [if_pos ⟨by omega, hg⟩, if_pos hg]
    · rw [if_neg (fun hc => hg hc.2), if_neg hg]
  · rw [if_neg (by omega), dif_neg (by omega)]
theorem cTrim_ev {l : List S28} {a : Int} (hs : rgt 0 l = true) (hl : l.length ≤ 1000) (hf : ∀ v ∈ l, v.f2.length ≤ 1000) {n : Nat} (h : Upto l a n) : Ev (fun k => chain_Trim.f k l a) (l.drop (tAt l n)) := by
  unfold chain_Trim.f
  rw [trimAt_eq hs h]
  exact owned_ev _ (by rw [List.length_drop]; omega) (fun v hv => hf v (List.mem_of_mem_drop hv))
theorem tAt_le (l : List S28) (n : Nat) : tAt l n ≤ n := by
  unfold tAt
  split
  · split <;> omega
  · omega

/-! Put -/
/-- What Put answers. -/
theorem cPut_ok {l : List S28} (hl : l.length ≤ 900) (hf : ∀ v ∈ l, v.f2.length ≤ 1000) (v : S28) (hv : v.f2.length ≤ 1000) (h1 : rgt 0 l = true) (h2 : rgt 0 [v] = true) (h3 : ¬ v.f0 ≤ (if h : 0 < l.length then l[l.length - 1].f0 else 0)) :
    Ev (fun k => chain_Put.f k l v.f0 v.f1 v.f2) (l ++ [v], 0) := by
  unfold chain_Put.f
  refine Ev.bind (cRight_ev l (by omega)) ?_
  simp only [h1, if_true]
  refine Ev.bind (cRight_ev [(⟨v.f0, v.f1, v.f2⟩ : S28)] (by simp)) ?_
  rw [show rgt 0 [(⟨v.f0, v.f1, v.f2⟩ : S28)] = true from h2]
  refine Ev.step (fun k => by simp only [chain_Put.j0, Bool.not_true, Bool.false_eq_true, if_false]; rfl) ?_
  refine Ev.bind (g := fun _ => chain_Last.f l) (Ev.congr (fun _ => last_eq (by omega)) (Ev.now _)) ?_
  simp only [if_neg h3]
  refine Ev.bind (g := fun _ => bytes_Clone.f v.f2) (Ev.congr (fun _ => clone_eq hv) (Ev.now _)) ?_
  refine Ev.bind (owned_ev l (by omega) hf) ?_
  simp only [Option.bind_some, List.length_cons, List.length_nil]
  exact Ev.congr (fun _ => if_pos (by omega)) (Ev.now _)
theorem cPut_no {l : List S28} (hl : l.length ≤ 900) (v : S28) (h : ¬ (rgt 0 l = true ∧ rgt 0 [v] = true ∧ ¬ v.f0 ≤ (if h : 0 < l.length then l[l.length - 1].f0 else 0))) :
    ∃ e : Int, e ≠ 0 ∧ Ev (fun k => chain_Put.f k l v.f0 v.f1 v.f2) ([], e) := by
  unfold chain_Put.f
  have hj : Ev (fun k => chain_Put.j0 k l true v.f0 v.f1 v.f2) ([], 1) := Ev.step (fun k => by simp only [chain_Put.j0, if_true]) (Ev.now _)
  by_cases h1 : rgt 0 l = true
  · by_cases h2 : rgt 0 [v] = true
    · have h3 : v.f0 ≤ (if h : 0 < l.length then l[l.length - 1].f0 else 0) := Classical.not_not.1 (fun h3 => h ⟨h1, h2, h3⟩)
      refine ⟨70, by decide, ?_⟩
      refine Ev.bind (cRight_ev l (by omega)) ?_
      simp only [h1, if_true]
      refine Ev.bind (cRight_ev [(⟨v.f0, v.f1, v.f2⟩ : S28)] (by simp)) ?_
      rw [show rgt 0 [(⟨v.f0, v.f1, v.f2⟩ : S28)] = true from h2]
      refine Ev.step (fun k => by simp only [chain_Put.j0, Bool.not_true, Bool.false_eq_true, if_false]; rfl) ?_
      refine Ev.bind (g := fun _ => chain_Last.f l) (Ev.congr (fun _ => last_eq (by omega)) (Ev.now _)) ?_
      simp only [if_pos h3]
      exact Ev.now _
    · refine ⟨1, by decide, ?_⟩
      refine Ev.bind (cRight_ev l (by omega)) ?_
      simp only [h1, if_true]
      refine Ev.bind (cRight_ev [(⟨v.f0, v.f1, v.f2⟩ : S28)] (by simp)) ?_
      rw [show rgt 0 [(⟨v.f0, v.f1, v.f2⟩ : S28)] = false from by simpa using h2]
      exact hj
  · refine ⟨1, by decide, ?_⟩
    refine Ev.bind (cRight_ev l (by omega)) ?_
    simp only [h1, Bool.false_eq_true, if_false]
    exact hj
theorem put_both (l : List S28) (hl : l.length ≤ 900) (hw : ∀ x ∈ l, (Lit.int .u64 x.f0).wf = true ∧ True ∧ ∀ n ∈ x.f2, (Lit.int .u8 n).wf = true) (hf : ∀ v ∈ l, v.f2.length ≤ 1000) (v : S28) (hv : v.f2.length ≤ 1000) :
    ∃ r : List S28 × Int, Ev (fun k => chain_Put.f k l v.f0 v.f1 v.f2) r ∧ Ev (fun k => conductorref07_Put.f k l v.f0 v.f1 v.f2) r ∧ r.1.length ≤ 1000 := by
  have hj : Ev (fun k => conductorref07_Put.j0 k l true v.f0 v.f1 v.f2) ([], 1) := Ev.step (fun k => by simp only [conductorref07_Put.j0, if_true]) (Ev.now _)
  have hjc : Ev (fun k => chain_Put.j0 k l true v.f0 v.f1 v.f2) ([], 1) := Ev.step (fun k => by simp only [chain_Put.j0, if_true]) (Ev.now _)
  by_cases h1 : rgt 0 l = true
  · by_cases h2 : rgt 0 [v] = true
    · by_cases h3 : v.f0 ≤ (if h : 0 < l.length then l[l.length - 1].f0 else 0)
      · refine ⟨([], 70), ?_, ?_, by simp⟩
        · unfold chain_Put.f
          refine Ev.bind (cRight_ev l (by omega)) ?_
          simp only [h1, if_true]
          refine Ev.bind (cRight_ev [(⟨v.f0, v.f1, v.f2⟩ : S28)] (by simp)) ?_
          rw [show rgt 0 [(⟨v.f0, v.f1, v.f2⟩ : S28)] = true from h2]
          refine Ev.step (fun k => by simp only [chain_Put.j0, Bool.not_true, Bool.false_eq_true, if_false]; rfl) ?_
          refine Ev.bind (g := fun _ => chain_Last.f l) (Ev.congr (fun _ => last_eq (by omega)) (Ev.now _)) ?_
          simp only [if_pos h3]
          exact Ev.now _
        · unfold conductorref07_Put.f
          refine Ev.bind (rRight_ev l (by omega)) ?_
          simp only [h1, if_true]
          refine Ev.bind (rRight_ev [(⟨v.f0, v.f1, v.f2⟩ : S28)] (by simp)) ?_
          rw [show rgt 0 [(⟨v.f0, v.f1, v.f2⟩ : S28)] = true from h2]
          refine Ev.step (fun k => by simp only [conductorref07_Put.j0, Bool.not_true, Bool.false_eq_true, if_false]; rfl) ?_
          refine Ev.bind (rLast_ev l (by omega) hw) ?_
          simp only [if_pos h3]
          exact Ev.now _
      · refine ⟨(l ++ [v], 0), cPut_ok hl hf v hv h1 h2 h3, ?_, by simp; omega⟩
        unfold conductorref07_Put.f
        refine Ev.bind (rRight_ev l (by omega)) ?_
        simp only [h1, if_true]
        refine Ev.bind (rRight_ev [(⟨v.f0, v.f1, v.f2⟩ : S28)] (by simp)) ?_
        rw [show rgt 0 [(⟨v.f0, v.f1, v.f2⟩ : S28)] = true from h2]
        refine Ev.step (fun k => by simp only [conductorref07_Put.j0, Bool.not_true, Bool.false_eq_true, if_false]; rfl) ?_
        refine Ev.bind (rLast_ev l (by omega) hw) ?_
        simp only [if_neg h3, Option.bind_some, List.length_nil, List.nil_append]
        exact Ev.congr (fun _ => by rw [if_pos (by omega), if_pos (by omega)]) (Ev.now _)
    · refine ⟨([], 1), ?_, ?_, by simp⟩
      · unfold chain_Put.f
        refine Ev.bind (cRight_ev l (by omega)) ?_
        simp only [h1, if_true]
        refine Ev.bind (cRight_ev [(⟨v.f0, v.f1, v.f2⟩ : S28)] (by simp)) ?_
        rw [show rgt 0 [(⟨v.f0, v.f1, v.f2⟩ : S28)] = false from by simpa using h2]
        exact hjc
      · unfold conductorref07_Put.f
        refine Ev.bind (rRight_ev l (by omega)) ?_
        simp only [h1, if_true]
        refine Ev.bind (rRight_ev [(⟨v.f0, v.f1, v.f2⟩ : S28)] (by simp)) ?_
        rw [show rgt 0 [(⟨v.f0, v.f1, v.f2⟩ : S28)] = false from by simpa using h2]
        exact hj
  · refine ⟨([], 1), ?_, ?_, by simp⟩
    · unfold chain_Put.f
      refine Ev.bind (cRight_ev l (by omega)) ?_
      simp only [h1, Bool.false_eq_true, if_false]
      exact hjc
    · unfold conductorref07_Put.f
      refine Ev.bind (rRight_ev l (by omega)) ?_
      simp only [h1, Bool.false_eq_true, if_false]
      exact hj

/-! cuts of cuts -/
theorem Upto.le {l : List S28} {a b : Int} {n n' : Nat} (h : Upto l a n) (h' : Upto l b n') (hab : a ≤ b) : n ≤ n' := by
  rcases Nat.lt_or_ge n' n with hlt | hge
  · have h1 := h.2.1 n' (by have := h.1; omega) hlt
    have h2 := h'.2.2 n' (by have := h.1; omega) (Nat.le_refl _)
    omega
  · exact hge
theorem Upto.drop {l : List S28} {a : Int} {n : Nat} (h : Upto l a n) (t : Nat) (ht : t ≤ n) : Upto (l.drop t) a (n - t) := by
  have hn := h.1
  refine ⟨by rw [List.length_drop]; omega, fun j hj hlt => ?_, fun j hj hge => ?_⟩
  · rw [List.getElem_drop]; exact h.2.1 _ (by rw [List.length_drop] at hj; omega) (by omega)
  · rw [List.getElem_drop]; exact h.2.2 _ (by rw [List.length_drop] at hj; omega) (by omega)
theorem get_trim {l : List S28} {a b : Int} {n n' : Nat} (h : Upto l a n) (h' : Upto l b n') (hle : n ≤ n') : getV (l.drop (tAt l n)) (n' - tAt l n) = getV l n' := by
  have hn := h.1
  have hn' := h'.1
  have ht := tAt_le l n
  by_cases h0 : tAt l n < n'
  · rw [getV_pos ⟨by omega, by rw [List.length_drop]; omega⟩, getV_pos ⟨by omega, hn'⟩]
    have e : (l.drop (tAt l n))[n' - tAt l n - 1]'(by rw [List.length_drop]; omega) = l[n' - 1] := by
      rw [List.getElem_drop]; congr 1; omega
    rw [e]
  · have e1 : n' = n := by omega
    subst e1
    have e2 : tAt l n' = n' := by omega
    rw [getV_neg (by omega)]
    by_cases h1 : 0 < n' ∧ n' ≤ l.length
    · rw [getV_pos h1]
      unfold tAt at e2
      rw [dif_pos h1] at e2
      by_cases hg : l[n' - 1].f1 = false
      · rw [if_pos hg] at e2; omega
      · rw [if_pos (by simpa using hg)]
    · rw [getV_neg h1]

end Go.Proofs.Yteofdgonpbmdlaa.Pure
