/- Texts of this session, merged for the law SpanCovers: SI, S23, SL, SM, PureSpanCovers. No condition. -/
import Derived.Test.YtjefihcbhdennaaZSpanCoversg
import Derived.Test.YtjefihcbhdennaaZSpanCoversa
import Derived.Test.YtjefihcbhdennaaZSpanCoversd
import Derived.Test.YtjefihcbhdennaaZSpanCoverse
import Derived.Test.YtjefihcbhdennaaZSpanCoversf
namespace Go.Proofs.Ytjefihcbhdennaa.Pure
open Go.RowKit Go.Proofs.YtjefihcbhdennaaW.PrintWords Go.Proofs.Ytjefihcbhdennaa.S
noncomputable def lo1 (s x : S41) : Bool := !touchB x s && decide (x.f0.toList < s.f0.toList)
noncomputable def lo2 (s x : S41) : Bool := !touchB x s && decide (s.f0.toList < x.f0.toList)
theorem putS_eq (l : List S41) (s : S41) : putS l s = l.filter (lo1 (l.foldl gro s)) ++ (l.foldl gro s) :: l.filter (lo2 (l.foldl gro s)) := by
  unfold putS lo1 lo2
  congr
theorem put_l2 (l : List S41) (hl : l.length < 1000000) (s : S41) : ∀ (d i : Nat) (acc : List S41), i + d = l.length → acc.length + d < 4398046511104 →
    Ev (fun k => conductorref09_put.l2 k acc l (l.length : Int) (i : Int) s.f0 s.f1) (acc ++ (l.drop i).filter (lo2 s)) := by
  intro d
  induction d with
  | zero =>
    intro i acc hd ha
    rw [List.drop_eq_nil_of_le (by omega)]
    refine Ev.step (f := fun _ => some acc) (fun k => ?_) (by simpa using Ev.now acc)
    simp only [conductorref09_put.l2]
    rw [if_neg (by omega)]
  | succ d ih =>
    intro i acc hd ha
    have hi : i < l.length := by omega
    rw [List.drop_eq_getElem_cons hi, List.filter_cons]
    have hn := ih (i + 1) acc (by omega) (by omega)
    have hn2 := ih (i + 1) (acc ++ [l[i]]) (by omega) (by rw [List.length_append, List.length_singleton]; omega)
    rw [← w1 hi (by omega)] at hn hn2
    cases ht : touchB l[i] s with
    | true =>
      rw [show lo2 s l[i] = false by simp [lo2, ht], if_neg (by decide)]
      refine Ev.step (fun k => ?_) hn
      simp only [conductorref09_put.l2]
      rw [if_pos (by omega), if_pos (by omega), if_pos (by omega), rd41 _ i hi, touch_f, ht, Option.bind_some, if_pos rfl]
    | false =>
      by_cases hlt : s.f0.toList < l[i].f0.toList
      · rw [show lo2 s l[i] = true by simp [lo2, ht, hlt], if_pos rfl]
        rw [List.append_assoc] at hn2
        refine Ev.step (fun k => ?_) hn2
        simp only [conductorref09_put.l2]
        rw [if_pos (by omega), if_pos (by omega), if_pos (by omega), rd41 _ i hi, touch_f, ht, Option.bind_some, if_neg (by decide), bl, if_pos (decide_eq_true hlt), if_pos (by omega)]
      · rw [show lo2 s l[i] = false by simp [lo2, ht, hlt], if_neg (by decide)]
        refine Ev.step (fun k => ?_) hn
        simp only [conductorref09_put.l2]
        rw [if_pos (by omega), if_pos (by omega), if_pos (by omega), rd41 _ i hi, touch_f, ht, Option.bind_some, if_neg (by decide), bl, if_neg (by simpa using hlt)]
theorem put_l1 (l : List S41) (hl : l.length < 1000000) (s : S41) : ∀ (d i : Nat) (acc : List S41), i + d = l.length → acc.length + d + l.length + 1 < 4398046511104 →
    Ev (fun k => conductorref09_put.l1 k l acc l (l.length : Int) (i : Int) s.f0 s.f1) (acc ++ (l.drop i).filter (lo1 s) ++ s :: l.filter (lo2 s)) := by
  intro d
  induction d with
  | zero =>
    intro i acc hd ha
    rw [List.drop_eq_nil_of_le (by omega)]
    have h := put_l2 l hl s l.length 0 (acc ++ [s]) (by omega) (by rw [List.length_append, List.length_singleton]; omega)
    refine Ev.step (fun k => ?_) (by simpa using h)
    simp only [conductorref09_put.l1]
    rw [if_neg (by omega), if_pos (by omega)]
  | succ d ih =>
    intro i acc hd ha
    have hi : i < l.length := by omega
    rw [List.drop_eq_getElem_cons hi, List.filter_cons]
    have hn := ih (i + 1) acc (by omega) (by omega)
    have hn2 := ih (i + 1) (acc ++ [l[i]]) (by omega) (by rw [List.length_append, List.length_singleton]; omega)
    rw [← w1 hi (by omega)] at hn hn2
    cases ht : touchB l[i] s with
    | true =>
      rw [show lo1 s l[i] = false by simp [lo1, ht], if_neg (by decide)]
      refine Ev.step (fun k => ?_) hn
      simp only [conductorref09_put.l1]
      rw [if_pos (by omega), if_pos (by omega), if_pos (by omega), rd41 _ i hi, touch_f, ht, Option.bind_some, if_pos rfl]
    | false =>
      by_cases hlt : l[i].f0.toList < s.f0.toList
      · rw [show lo1 s l[i] = true by simp [lo1, ht, hlt], if_pos rfl]
        have e : acc ++ l[i] :: (l.drop (i + 1)).filter (lo1 s) = acc ++ [l[i]] ++ (l.drop (i + 1)).filter (lo1 s) := by simp
        rw [e]
        refine Ev.step (fun k => ?_) hn2
        simp only [conductorref09_put.l1]
        rw [if_pos (by omega), if_pos (by omega), if_pos (by omega), rd41 _ i hi, touch_f, ht, Option.bind_some, if_neg (by decide), bl, if_pos (decide_eq_true hlt), if_pos (by omega)]
      · rw [show lo1 s l[i] = false by simp [lo1, ht, hlt], if_neg (by decide)]
        refine Ev.step (fun k => ?_) hn
        simp only [conductorref09_put.l1]
        rw [if_pos (by omega), if_pos (by omega), if_pos (by omega), rd41 _ i hi, touch_f, ht, Option.bind_some, if_neg (by decide), bl, if_neg (by simpa using hlt)]
theorem put_l0 (l : List S41) (hl : l.length < 1000000) : ∀ (d i : Nat) (s : S41), i + d = l.length →
    Ev (fun k => conductorref09_put.l0 k l [] l (l.length : Int) (i : Int) s.f0 s.f1) (l.filter (lo1 ((l.drop i).foldl gro s)) ++ ((l.drop i).foldl gro s) :: l.filter (lo2 ((l.drop i).foldl gro s))) := by
  intro d
  induction d with
  | zero =>
    intro i s hd
    rw [List.drop_eq_nil_of_le (by omega)]
    have h := put_l1 l hl s l.length 0 [] (by omega) (by rw [List.length_nil]; omega)
    refine Ev.step (fun k => ?_) (by simpa using h)
    simp only [conductorref09_put.l0]
    rw [if_neg (by omega)]
  | succ d ih =>
    intro i s hd
    have hi : i < l.length := by omega
    rw [List.drop_eq_getElem_cons hi, List.foldl_cons]
    have hn := ih (i + 1) (gro s l[i]) (by omega)
    rw [← w1 hi (by omega)] at hn
    refine Ev.step (fun k => ?_) hn
    simp only [conductorref09_put.l0]
    rw [if_pos (by omega), if_pos (by omega), if_pos (by omega), rd41 _ i hi, touch_f, Option.bind_some, cover_f, Option.bind_some]
    unfold gro
    cases ht : touchB l[i] s with
    | true => rw [if_pos rfl, if_pos rfl]
    | false => rw [if_neg (by decide), if_neg (by decide)]
theorem put_ev (l : List S41) (hl : l.length < 1000000) (s : S41) : Ev (fun k => conductorref09_put.f k l s.f0 s.f1) (putS l s) := by
  rw [putS_eq]
  have h := put_l0 l hl l.length 0 s (by omega)
  rw [List.drop_zero] at h
  exact h
noncomputable def rstep (acc : List S41) (x : S41) : List S41 := if rightB x = true then putS acc x else acc
theorem rfold_spec : ∀ (l : List S41) (acc : List S41), NP acc → NP (l.foldl rstep acc) ∧ (∀ k, mem (l.foldl rstep acc) k ↔ mem acc k ∨ mem l k) ∧ (l.foldl rstep acc).length ≤ acc.length + l.length
  | [], acc, h => ⟨h, fun k => by simp [mem_nil], by simp⟩
  | x :: l, acc, h => by
    rw [List.foldl_cons]
    by_cases hr : rightB x = true
    · obtain ⟨b1, b2, b3⟩ := putS_spec acc x h ((rightB_iff x).1 hr)
      obtain ⟨a1, a2, a3⟩ := rfold_spec l (rstep acc x) (by unfold rstep; rw [if_pos hr]; exact b1)
      refine ⟨a1, fun k => ?_, ?_⟩
      · rw [a2, mem_cons]; unfold rstep; rw [if_pos hr, b2, or_assoc]
      · have : (rstep acc x).length ≤ acc.length + 1 := by unfold rstep; rw [if_pos hr]; exact b3
        rw [List.length_cons]; omega
    · obtain ⟨a1, a2, a3⟩ := rfold_spec l (rstep acc x) (by unfold rstep; rw [if_neg hr]; exact h)
      refine ⟨a1, fun k => ?_, ?_⟩
      · rw [a2, mem_cons]; unfold rstep; rw [if_neg hr]
        have : ¬ has x k := fun hk => hr ((rightB_iff x).2 (has_rt hk))
        simp [this]
      · have : (rstep acc x).length ≤ acc.length + 1 := by unfold rstep; rw [if_neg hr]; omega
        rw [List.length_cons]; omega
theorem rright_f (x : S41) : conductorref09_Right.f x.f0 x.f1 = some (rightB x) := rightB_eq x
theorem rjoin_l0 (l : List S41) (hl : l.length < 1000000) : ∀ (d i : Nat) (acc : List S41), i + d = l.length → acc.length + d < 1000000 → NP acc →
    Ev (fun k => conductorref09_Join.l0 k acc l (l.length : Int) (i : Int)) ((l.drop i).foldl rstep acc) := by
  intro d
  induction d with
  | zero =>
    intro i acc hd ha _
    rw [List.drop_eq_nil_of_le (by omega)]
    refine Ev.step (f := fun _ => some acc) (fun k => ?_) (Ev.now acc)
    simp only [conductorref09_Join.l0]
    rw [if_neg (by omega)]
  | succ d ih =>
    intro i acc hd ha hnp
    have hi : i < l.length := by omega
    rw [List.drop_eq_getElem_cons hi, List.foldl_cons]
    cases hr : rightB l[i] with
    | true =>
      obtain ⟨b1, b2, b3⟩ := putS_spec acc l[i] hnp ((rightB_iff _).1 hr)
      have hn := ih (i + 1) (putS acc l[i]) (by omega) (by omega) b1
      rw [← w1 hi (by omega)] at hn
      rw [show rstep acc l[i] = putS acc l[i] by unfold rstep; rw [if_pos hr]]
      refine Ev.step (fun k => ?_) (Ev.bind (f := fun k t => conductorref09_Join.l0 k t l (l.length : Int) (wrap64 ((i : Int) + 1))) (put_ev acc (by omega) l[i]) hn)
      simp only [conductorref09_Join.l0]
      rw [if_pos (by omega), if_pos (by omega), if_pos (by omega), rd41 _ i hi, rright_f, hr, Option.bind_some, if_pos rfl]
    | false =>
      have hn := ih (i + 1) acc (by omega) (by omega) hnp
      rw [← w1 hi (by omega)] at hn
      rw [show rstep acc l[i] = acc by unfold rstep; rw [if_neg (by rw [hr]; decide)]]
      refine Ev.step (fun k => ?_) hn
      simp only [conductorref09_Join.l0]
      rw [if_pos (by omega), if_pos (by omega), if_pos (by omega), rd41 _ i hi, rright_f, hr, Option.bind_some, if_neg (by decide)]
theorem np_nil : NP [] := ⟨fun x h => (by cases h), List.Pairwise.nil⟩
theorem rjoin_ev (a b : List S41) (hs : a.length + b.length < 1000000) : ∃ j, Ev (fun k => conductorref09_Join.f k a b) j ∧ NP j ∧ (∀ k, mem j k ↔ mem a k ∨ mem b k) := by
  have hla : (a ++ b).length = a.length + b.length := List.length_append
  obtain ⟨a1, a2, a3⟩ := rfold_spec (a ++ b) [] np_nil
  refine ⟨(a ++ b).foldl rstep [], ?_, a1, fun k => by rw [a2, mem_append]; simp [mem_nil]⟩
  have h := rjoin_l0 (a ++ b) (by omega) (a ++ b).length 0 [] (by omega) (by rw [List.length_nil]; omega) np_nil
  rw [List.drop_zero] at h
  refine Ev.congr (fun k => ?_) h
  unfold conductorref09_Join.f
  rw [Option.bind_some, if_pos (by rw [List.length_nil]; omega), Option.bind_some, List.nil_append, if_pos (by omega), Option.bind_some]; rfl
theorem joins_ev (a b : List S41) (hs : a.length + b.length < 1000000) : ∃ j, Ev (fun k => span_Join.f k a b) j ∧ Ev (fun k => conductorref09_Join.f k a b) j ∧ NP j ∧ (∀ k, mem j k ↔ mem a k ∨ mem b k) ∧ j.length ≤ a.length + b.length := by
  obtain ⟨j, h1, h2, h3, h4⟩ := join_ev a b hs
  obtain ⟨i, k1, k2, k3⟩ := rjoin_ev a b hs
  obtain rfl : j = i := np_uniq h2 k2 (fun k => by rw [h3, k3])
  exact ⟨j, h1, k1, h2, h3, h4⟩
theorem same_ev (a b : List S41) (ha : a.length ≤ 9223372036854775807) : ∃ c, Ev (fun k => conductorref09_Same.f k a b) c ∧ (c = true ↔ a = b) := by
  by_cases hl : a.length = b.length
  · have key : ∀ d i : Nat, i + d = a.length → ∃ c, Ev (fun k => conductorref09_Same.l0 k a b (a.length : Int) (i : Int)) c ∧ (c = true ↔ a.drop i = b.drop i) := by
      intro d
      induction d with
      | zero =>
        intro i hd
        refine ⟨true, Ev.step (f := fun _ => some true) (fun k => ?_) (Ev.now _), ?_⟩
        · simp only [conductorref09_Same.l0]
          rw [if_neg (by omega)]
        · rw [List.drop_eq_nil_of_le (by omega), List.drop_eq_nil_of_le (by omega)]; simp
      | succ d ih =>
        intro i hd
        have hi : i < a.length := by omega
        have hj : i < b.length := by omega
        obtain ⟨c, h1, h2⟩ := ih (i + 1) (by omega)
        rw [← w1 hi ha] at h1
        rw [List.drop_eq_getElem_cons hi, List.drop_eq_getElem_cons hj, List.cons_eq_cons]
        by_cases e0 : a[i].f0.toList = b[i].f0.toList
        · by_cases e1 : a[i].f1.toList = b[i].f1.toList
          · refine ⟨c, Ev.step (fun k => ?_) h1, by rw [h2]; simp [S41.ext' e0 e1]⟩
            simp only [conductorref09_Same.l0]
            rw [if_pos (by omega), if_pos (by omega), if_pos (by omega), if_pos (by omega), rd41 _ i hi, rd41 _ i hj, e0, e1, if_neg (by simp)]
          · refine ⟨false, Ev.step (f := fun _ => some false) (fun k => ?_) (Ev.now _), ?_⟩
            · simp only [conductorref09_Same.l0]
              rw [if_pos (by omega), if_pos (by omega), if_pos (by omega), if_pos (by omega), rd41 _ i hi, rd41 _ i hj, if_pos (by simp [e1])]
            · simp only [Bool.false_eq_true, false_iff]; rintro ⟨e, _⟩; exact e1 (by rw [e])
        · refine ⟨false, Ev.step (f := fun _ => some false) (fun k => ?_) (Ev.now _), ?_⟩
          · simp only [conductorref09_Same.l0]
            rw [if_pos (by omega), if_pos (by omega), if_pos (by omega), if_pos (by omega), rd41 _ i hi, rd41 _ i hj, if_pos (by simp [e0])]
          · simp only [Bool.false_eq_true, false_iff]; rintro ⟨e, _⟩; exact e0 (by rw [e])
    obtain ⟨c, h1, h2⟩ := key a.length 0 (by omega)
    rw [List.drop_zero, List.drop_zero] at h2
    refine ⟨c, Ev.congr (fun k => ?_) h1, h2⟩
    unfold conductorref09_Same.f
    rw [if_pos (by omega)]; rfl
  · refine ⟨false, Ev.congr (f := fun _ => some false) (fun k => ?_) (Ev.now _), ?_⟩
    · unfold conductorref09_Same.f
      rw [if_neg (by omega)]
    · simp only [Bool.false_eq_true, false_iff]; rintro rfl; exact hl rfl
theorem same_refl (a : List S41) (ha : a.length ≤ 9223372036854775807) : Ev (fun k => conductorref09_Same.f k a a) true := by
  obtain ⟨c, h1, h2⟩ := same_ev a a ha
  rwa [h2.2 rfl] at h1
def chk : S41 → List S41 → Prop
  | _, [] => True
  | c, x :: t => Rt x ∧ apart c x ∧ chk x t
theorem chk_nrm : ∀ {c : S41} {t : List S41}, Rt c → (chk c t ↔ Nrm (c :: t))
  | c, [], h => by simp only [chk, Nrm, and_true, true_iff]; exact ⟨h, fun y hy => by cases hy⟩
  | c, x :: t, h => by
    rw [chk, Nrm]
    constructor
    · rintro ⟨h1, h2, h3⟩
      exact ⟨h, fun y hy => by obtain rfl := Option.some.inj hy; exact h2, (chk_nrm h1).1 h3⟩
    · rintro ⟨_, h2, h3⟩
      exact ⟨h3.1, h2 x rfl, (chk_nrm h3.1).2 h3⟩
theorem normal_l0 (l : List S41) (hl : l.length ≤ 9223372036854775807) : ∀ (d i : Nat) (hi : i < l.length), i + 1 + d = l.length →
    ∃ c, Ev (fun k => span_Normal.l0 k l l (l.length : Int) ((i + 1 : Nat) : Int)) c ∧ (c = true ↔ chk l[i] (l.drop (i + 1))) := by
  intro d
  induction d with
  | zero =>
    intro i hi hd
    refine ⟨true, Ev.step (f := fun _ => some true) (fun k => ?_) (Ev.now _), ?_⟩
    · simp only [span_Normal.l0]
      rw [if_neg (by omega)]
    · rw [List.drop_eq_nil_of_le (by omega)]; simp [chk]
  | succ d ih =>
    intro i hi hd
    have hj : i + 1 < l.length := by omega
    obtain ⟨c, h1, h2⟩ := ih (i + 1) hj (by omega)
    rw [← w1 hj hl] at h1
    rw [List.drop_eq_getElem_cons hj, chk, ← h2]
    have ew : wrap64 (((i + 1 : Nat) : Int) - 1) = (i : Int) := by unfold wrap64; omega
    cases hr : rightB l[i + 1] with
    | true =>
      have hr' := (rightB_iff _).1 hr
      by_cases e1 : l[i].f1.toList = []
      · refine ⟨false, Ev.step (f := fun _ => some false) (fun k => ?_) (Ev.now _), ?_⟩
        · simp only [span_Normal.l0]
          rw [if_pos (by omega), if_pos (by omega), if_pos (by omega), rd41 _ (i + 1) hj, rightB_eq, hr, Option.bind_some, if_pos rfl, if_neg (by omega), ew, if_pos (by omega), if_pos (by omega), rd41 _ i hi, if_pos e1]
        · simp only [Bool.false_eq_true, false_iff]; rintro ⟨_, e, _⟩; exact e.1 e1
      · by_cases e2 : l[i].f1.toList < l[i + 1].f0.toList
        · refine ⟨c, Ev.step (fun k => ?_) h1, ⟨fun h => ⟨hr', ⟨e1, e2⟩, h⟩, fun h => h.2.2⟩⟩
          simp only [span_Normal.l0]
          rw [if_pos (by omega), if_pos (by omega), if_pos (by omega), rd41 _ (i + 1) hj, rightB_eq, hr, Option.bind_some, if_pos rfl, if_neg (by omega), ew, if_pos (by omega), if_pos (by omega), rd41 _ i hi, if_neg e1, bl, if_pos (decide_eq_true e2)]
        · refine ⟨false, Ev.step (f := fun _ => some false) (fun k => ?_) (Ev.now _), ?_⟩
          · simp only [span_Normal.l0]
            rw [if_pos (by omega), if_pos (by omega), if_pos (by omega), rd41 _ (i + 1) hj, rightB_eq, hr, Option.bind_some, if_pos rfl, if_neg (by omega), ew, if_pos (by omega), if_pos (by omega), rd41 _ i hi, if_neg e1, bl, if_neg (by simpa using e2)]
          · simp only [Bool.false_eq_true, false_iff]; rintro ⟨_, e, _⟩; exact e2 e.2
    | false =>
      refine ⟨false, Ev.step (f := fun _ => some false) (fun k => ?_) (Ev.now _), ?_⟩
      · simp only [span_Normal.l0]
        rw [if_pos (by omega), if_pos (by omega), if_pos (by omega), rd41 _ (i + 1) hj, rightB_eq, hr, Option.bind_some, if_neg (by decide)]
      · simp only [Bool.false_eq_true, false_iff]; rintro ⟨e, _⟩; rw [(rightB_iff _).2 e] at hr; cases hr
theorem normal_ev (l : List S41) (hl : l.length ≤ 9223372036854775807) : ∃ c, Ev (fun k => span_Normal.f k l) c ∧ (c = true ↔ NP l) := by
  cases hm : l with
  | nil =>
    refine ⟨true, Ev.step (f := fun _ => some true) (fun k => ?_) (Ev.now _), by simp [np_nil]⟩
    unfold span_Normal.f
    simp only [span_Normal.l0]
    rw [if_neg (by simp)]
  | cons x t =>
    rw [← hm]
    have h0 : 0 < l.length := by rw [hm]; simp
    have e0 : l[0] = x := by simp [hm]
    have et : l.drop (0 + 1) = t := by simp [hm]
    obtain ⟨c, h1, h2⟩ := normal_l0 l hl (l.length - 1) 0 h0 (by omega)
    rw [e0, et] at h2
    have ew : wrap64 ((0 : Int) + 1) = ((0 + 1 : Nat) : Int) := by unfold wrap64; omega
    cases hr : rightB x with
    | true =>
      refine ⟨c, Ev.step (fun k => ?_) h1, by rw [h2, chk_nrm ((rightB_iff _).1 hr), ← hm]; exact ⟨Nrm.np, NP.nrm⟩⟩
      unfold span_Normal.f
      simp only [span_Normal.l0]
      rw [if_pos (by omega), if_pos (by omega), if_pos (by omega), show rd_T41 l 0 = x by rw [← e0]; exact rd41 l 0 h0, rightB_eq, hr, Option.bind_some, if_pos rfl, ew]
      rw [if_pos trivial]
    | false =>
      refine ⟨false, Ev.step (f := fun _ => some false) (fun k => ?_) (Ev.now _), ?_⟩
      · unfold span_Normal.f
        simp only [span_Normal.l0]
        rw [if_pos (by omega), if_pos (by omega), if_pos (by omega), show rd_T41 l 0 = x by rw [← e0]; exact rd41 l 0 h0, rightB_eq, hr, Option.bind_some, if_neg (by decide)]
      · simp only [Bool.false_eq_true, false_iff]; intro e; rw [hm] at e; rw [(rightB_iff _).2 e.rt] at hr; cases hr
theorem normal_np (l : List S41) (hl : l.length ≤ 9223372036854775807) (h : NP l) : Ev (fun k => span_Normal.f k l) true := by
  obtain ⟨c, h1, h2⟩ := normal_ev l hl
  rwa [h2.2 h] at h1
theorem hasB_has (x : S41) (key : ByteArray) : hasB x key = true ↔ has x key.toList := by
  have h := hasB_eq x key
  unfold span_Has.f at h
  simp only [bl] at h
  unfold has
  by_cases h1 : key.toList < x.f0.toList <;> by_cases h2 : x.f1.toList = [] <;> by_cases h3 : key.toList < x.f1.toList <;> simp [h1, h2, h3] at h ⊢ <;> simp_all
theorem in_mem (l : List S41) (key : ByteArray) : (l.any fun x => hasB x key) = true ↔ mem l key.toList := by
  rw [List.any_eq_true]
  simp only [mem, hasB_has]
end Go.Proofs.Ytjefihcbhdennaa.Pure
namespace Go.Proofs.Ytjefihcbhdennaa.S
open Go.RowKit Go.Proofs.YtjefihcbhdennaaW.PrintWords Go.Proofs.YtjefihcbhdennaaW.PrintLast Go.Proofs.YtjefihcbhdennaaW.PrintMore
attribute [local go_sem] max2_int min2_int max2_str min2_str str_leq str_gtr str_geq max_two min_two max_three min_three max_four min_four   -- for this text's walks alone
set_option linter.unusedVariables false
set_option linter.unusedSimpArgs false
def conductorref09_Fit.l0 : Nat → List (S41) → Int → Option ((List (S41)))
 | 0, _, _ => none
 | k + 1, x0, x1 => if (x0.length : Int) > (mx x1 1) then (if 0 < (x0.length : Int) then (if 1 < (x0.length : Int) then ((conductorref09_cover.f ((rd_T41 x0 0).f0) ((rd_T41 x0 0).f1) ((rd_T41 x0 1).f0) ((rd_T41 x0 1).f1)).bind fun bt248 => ((some (([(⟨bt248.1, bt248.2⟩ : S41)] : List (S41)) : List (S41))).bind fun y250 => (if 2 ≤ (x0.length : Int) then ((some (x0.drop 2 : List (S41))).bind fun y253 => (if y250.length + y253.length < 4398046511104 then (conductorref09_Fit.l0 k (y250 ++ y253) x1) else (none))) else (none)))) else (none)) else (none)) else (some x0)
def conductorref09_Fit.f (k : Nat) (l0 : List (S41)) (a1 : Int) : Option ((List (S41))) := (conductorref09_Join.f k l0 ([] : List (S41))).bind fun t243 => (conductorref09_Fit.l0 k t243 a1)
end Go.Proofs.Ytjefihcbhdennaa.S
namespace Go.Proofs.Ytjefihcbhdennaa.Pure
open Go.RowKit Go.Proofs.YtjefihcbhdennaaW.PrintWords Go.Proofs.YtjefihcbhdennaaW.PrintMore Go.Proofs.Ytjefihcbhdennaa.S
theorem fewB_len {l : List S41} (h : FewB l = true) : l.length ≤ 40 := by
  simp only [FewB, Bool.and_eq_true, decide_eq_true_eq] at h
  omega
def fitK : Nat → List S41 → List S41
  | 0, l => l
  | K + 1, x :: y :: t => fitK K (⟨x.f0, y.f1⟩ :: t)
  | _ + 1, l => l
theorem fitK_eq : ∀ (K : Nat) (x : S41) (t : List S41), K < t.length → fitK (K + 1) (x :: t) = ((x :: t).set (K + 1) ⟨x.f0, (g (x :: t) (K + 1)).f1⟩).drop (K + 1)
  | 0, x, [], h => by simp at h
  | 0, x, y :: t, _ => by simp [fitK, g]
  | K + 1, x, [], h => by simp at h
  | K + 1, x, y :: t, h => by
    rw [fitK, fitK_eq K _ t (by simpa using h)]
    simp [g]
theorem step_np {x y : S41} {t : List S41} (h : NP (x :: y :: t)) : NP (⟨x.f0, y.f1⟩ :: t) ∧ ∀ k, mem (x :: y :: t) k → mem (⟨x.f0, y.f1⟩ :: t) k := by
  have hx := h.rt
  have ha := h.ap (y := y) List.mem_cons_self
  have hy := h.tail.rt
  have hxy : x.f0.toList < y.f0.toList := ltt (hx.resolve_left ha.1) ha.2
  refine ⟨⟨fun z hz => ?_, ?_⟩, fun k hk => ?_⟩
  · rcases List.mem_cons.1 hz with e | e
    · subst e; exact hy.imp id (fun q => ltt hxy q)
    · exact h.tail.tail.1 z e
  · rw [List.pairwise_cons]
    exact ⟨fun z hz => h.tail.ap hz, h.tail.tail.2⟩
  · rw [mem_cons, mem_cons] at hk
    rw [mem_cons]
    rcases hk with e | e | e
    · exact .inl ⟨e.1, hy.imp id (fun q => ltt (e.2.resolve_left ha.1) (ltt ha.2 q))⟩
    · exact .inl ⟨fun q => e.1 (ltt q hxy), e.2⟩
    · exact .inr e
theorem fitK_np : ∀ (K : Nat) (l : List S41), NP l → K < l.length ∨ K = 0 → NP (fitK K l) ∧ (fitK K l).length + K = l.length ∧ ∀ k, mem l k → mem (fitK K l) k
  | 0, l, h, _ => ⟨h, rfl, fun _ h => h⟩
  | K + 1, [], h, hk => by simp at hk
  | K + 1, [x], h, hk => by simp at hk
  | K + 1, x :: y :: t, h, hk => by
    obtain ⟨a1, a2⟩ := step_np h
    obtain ⟨b1, b2, b3⟩ := fitK_np K _ a1 (by simp at hk ⊢; omega)
    rw [fitK]
    refine ⟨b1, by simp at b2 ⊢; omega, fun k hk => b3 k (a2 k hk)⟩
theorem mx_pos (n : Int) : 1 ≤ mx n 1 := by unfold mx; split <;> omega
theorem mx_le (n : Int) (hn : n ≤ 9223372036854775807) : mx n 1 ≤ 9223372036854775807 := by unfold mx; split <;> omega
theorem fit_ev (l : List S41) (n : Int) (hs : l.length < 1000000) (hn : n ≤ 9223372036854775807) : ∃ j, NP j ∧ (∀ k, mem j k ↔ mem l k) ∧ j.length ≤ l.length ∧
    Ev (fun k => span_Fit.f k l n) (fitK ((j.length : Int) - mx n 1).toNat j) ∧ Ev (fun k => conductorref09_Join.f k l []) j := by
  obtain ⟨j, h1, h5, h2, h3, h4⟩ := joins_ev l [] (by simpa using hs)
  have hp := mx_pos n
  have hq := mx_le n hn
  simp only [List.length_nil, Nat.add_zero] at h4
  refine ⟨j, h2, fun k => by rw [h3]; simp [mem], h4, ?_, h5⟩
  have ew : wrap64 ((j.length : Int) - mx n 1) = (j.length : Int) - mx n 1 := by unfold wrap64; omega
  unfold span_Fit.f
  refine Ev.bind h1 ?_
  rw [ew]
  by_cases hK : (j.length : Int) - mx n 1 > 0
  · obtain ⟨K, hK'⟩ : ∃ K : Nat, (j.length : Int) - mx n 1 = ((K + 1 : Nat) : Int) := ⟨((j.length : Int) - mx n 1).toNat - 1, by omega⟩
    have hlt : K + 1 < j.length := by omega
    refine Ev.congr (f := fun _ => some (fitK (K + 1) j)) (fun k => ?_) (by rw [hK']; exact Ev.now _)
    rw [if_pos hK, if_pos (by omega), if_pos (by omega), if_pos (by omega), if_pos (by omega), hK']
    cases hj : j with
    | nil => rw [hj] at hlt; simp at hlt
    | cons x t =>
      rw [hj] at hlt
      rw [fitK_eq K x t (by simpa using hlt)]
      have e0 : rd_T41 (x :: t) 0 = x := rfl
      rw [e0, rd_g, Int.toNat_natCast]
      unfold api_Span_58.f
      rw [if_pos (by rw [List.length_drop, List.length_set]; rw [hj] at h4; omega)]; rfl
  · have e : ((j.length : Int) - mx n 1).toNat = 0 := by omega
    rw [e]
    exact Ev.congr (f := fun _ => some j) (fun k => by rw [if_neg hK]) (Ev.now _)
theorem rfit_l0 (n : Int) : ∀ (K : Nat) (l : List S41), NP l → l.length < 1000000 → (l.length : Int) - mx n 1 ≤ K → ((l.length : Int) - mx n 1).toNat = K →
    Ev (fun k => conductorref09_Fit.l0 k l n) (fitK K l) := by
  have hp := mx_pos n
  intro K
  induction K with
  | zero =>
    intro l h hl hk _
    refine Ev.step (f := fun _ => some l) (fun k => ?_) (Ev.now _)
    simp only [conductorref09_Fit.l0]
    rw [if_neg (by omega)]
  | succ K ih =>
    intro l h hl hk hk2
    match l, h, hl, hk, hk2 with
    | [], _, _, _, hk2 => simp at hk2; omega
    | [x], _, _, _, hk2 => simp at hk2; omega
    | x :: y :: t, h, hl, hk, hk2 =>
      obtain ⟨a1, _⟩ := step_np h
      simp only [List.length_cons] at hl hk hk2
      have hn := ih _ a1 (by rw [List.length_cons]; omega) (by rw [List.length_cons]; omega) (by rw [List.length_cons]; omega)
      rw [fitK]
      have ha := h.ap (y := y) List.mem_cons_self
      have hxy : x.f0.toList < y.f0.toList := ltt (h.rt.resolve_left ha.1) ha.2
      have hy := h.tail.rt
      have ec : covS x y = ⟨x.f0, y.f1⟩ := by
        refine S41.ext' ?_ ?_
        · rw [cov_f0, if_neg (lt_not hxy)]
        · rw [cov_f1, if_neg ha.1]
          unfold Rt at hy
          have := ha.2
          grind
      refine Ev.step (fun k => ?_) hn
      simp only [conductorref09_Fit.l0]
      have e0 : rd_T41 (x :: y :: t) 0 = x := rfl
      have e1 : rd_T41 (x :: y :: t) 1 = y := rfl
      rw [if_pos (by simp only [List.length_cons]; omega), if_pos (by simp only [List.length_cons]; omega), if_pos (by simp only [List.length_cons]; omega), e0, e1, cover_f, ec]
      simp only [Option.bind_some]
      rw [if_pos (by simp only [List.length_cons]; omega)]
      rw [if_pos (by simp only [List.drop_succ_cons, List.drop_zero, List.length_cons, List.length_nil]; omega)]
      rfl
theorem fits_ev (l : List S41) (n : Int) (hs : l.length < 1000000) (hn : n ≤ 9223372036854775807) : ∃ j, NP j ∧ (∀ k, mem j k ↔ mem l k) ∧ j.length ≤ l.length ∧
    Ev (fun k => span_Fit.f k l n) (fitK ((j.length : Int) - mx n 1).toNat j) ∧ Ev (fun k => conductorref09_Fit.f k l n) (fitK ((j.length : Int) - mx n 1).toNat j) := by
  obtain ⟨j, h1, h2, h3, h4, h5⟩ := fit_ev l n hs hn
  refine ⟨j, h1, h2, h3, h4, ?_⟩
  unfold conductorref09_Fit.f
  exact Ev.bind h5 (rfit_l0 n _ j h1 (by omega) (by omega) rfl)
end Go.Proofs.Ytjefihcbhdennaa.Pure
namespace Go.Proofs.Ytjefihcbhdennaa.Pure
open Go.RowKit Go.Proofs.YtjefihcbhdennaaW.PrintWords Go.Proofs.Ytjefihcbhdennaa.S
theorem live09_ev : Ev (fun k => conductorlaw09_live.f k) true := Ev.of conductorlaw09_live.mono (k := 30) (by decide +kernel)
end Go.Proofs.Ytjefihcbhdennaa.Pure
namespace Go.Proofs.Ytjefihcbhdennaa.Pure
open Go.RowKit Go.Proofs.YtjefihcbhdennaaW.PrintWords Go.Proofs.YtjefihcbhdennaaW.PrintMore Go.Proofs.Ytjefihcbhdennaa.S
theorem SpanCovers (l : List S41) (hl : l.length ≤ 9223372036854775807) (wl : WL41 l) (n : Int) (hn : (Lit.int .i64 n).wf = true) (key : ByteArray) (hk : key.size ≤ 9223372036854775807) :
    ∃ k, conductorlaw09_SpanCovers.f k l n key = some true := by
  refine Ev.rounds (g := fun k => conductorlaw09_SpanCovers.f k l n key) ?_
  have hlive : Ev (fun k => conductorlaw09_SpanCovers.j0 k l n key true) true :=
    Ev.step (fun k => by simp only [conductorlaw09_SpanCovers.j0, if_true]) (Ev.bind live09_ev (Ev.now true))
  unfold conductorlaw09_SpanCovers.f
  refine Ev.bind live09_ev (Ev.congr (fun k => by rw [if_pos rfl]) (Ev.bind (Few_ev l hl) ?_))
  cases hf : FewB l with
  | false => exact Ev.congr (fun k => by rw [if_neg (by decide)]) hlive
  | true =>
    by_cases hz : (key.size : Int) > 300
    · exact Ev.congr (fun k => by rw [if_pos rfl, decide_eq_true hz]) hlive
    · refine Ev.congr (f := fun k => conductorlaw09_SpanCovers.j0 k l n key false) (fun k => by rw [if_pos rfl, decide_eq_false hz]) ?_
      have hlen := fewB_len hf
      have hn2 := (wf_i64 hn).2
      obtain ⟨j, h1, h2, h3, h4, h5⟩ := fits_ev l n (by omega) hn2
      have hq := mx_pos n
      obtain ⟨f1, f2, f3⟩ := fitK_np ((j.length : Int) - mx n 1).toNat j h1 (by omega)
      have same : NP l → ¬ (l.length : Int) > n → fitK ((j.length : Int) - mx n 1).toNat j = l := fun hnp hle => by
        obtain rfl := np_uniq h1 hnp h2
        have : n ≤ mx n 1 := by unfold mx; split <;> omega
        rw [show ((j.length : Int) - mx n 1).toNat = 0 by omega]; rfl
      generalize hm : fitK ((j.length : Int) - mx n 1).toNat j = m at h4 f1 f2 f3 same
      have j1 : Ev (fun k => conductorlaw09_SpanCovers.j1 k l n m (decide ((m.length : Int) > mx n 1))) true := by
        rw [decide_eq_false (by omega)]
        obtain ⟨c, c1, c2⟩ := normal_ev l hl
        refine Ev.step (fun k => by simp only [conductorlaw09_SpanCovers.j1, if_false, Bool.false_eq_true]; rfl) ?_
        refine Ev.bind c1 ?_
        cases c with
        | false => exact Ev.congr (f := fun _ => some true) (fun k => by rw [if_neg (by decide)]) (Ev.now _)
        | true =>
          refine Ev.congr (fun k => by rw [if_pos rfl]) ?_
          by_cases hle : (l.length : Int) > n
          · exact Ev.congr (f := fun _ => some true) (fun k => by rw [if_pos hle]) (Ev.now _)
          · refine Ev.congr (fun k => by rw [if_neg hle]) ?_
            rw [same (c2.1 rfl) hle]
            exact Ev.bind (same_refl l hl) (Ev.now true)
      have j2 := Ev.bind (f := fun k t => if t = true then conductorlaw09_SpanCovers.j1 k l n m (decide ((m.length : Int) > mx n 1)) else conductorlaw09_SpanCovers.j1 k l n m true) (normal_np m (by omega) f1) (Ev.congr (fun k => by rw [if_pos rfl]) j1)
      refine Ev.step (fun k => by simp only [conductorlaw09_SpanCovers.j0, if_false, Bool.false_eq_true]; rfl) ?_
      refine Ev.bind h4 (Ev.congr (fun k => by simp only [span_In.f, Option.bind_some]; rfl) ?_)
      cases e1 : (l.any fun x => hasB x key) with
      | false => exact Ev.congr (fun k => by rw [if_neg (by decide)]) j2
      | true =>
        have e2 : (m.any fun x => hasB x key) = true := (in_mem m key).2 (f3 _ ((h2 _).2 ((in_mem l key).1 e1)))
        exact Ev.congr (fun k => by rw [if_pos rfl, e2, if_pos rfl]) j2
end Go.Proofs.Ytjefihcbhdennaa.Pure
