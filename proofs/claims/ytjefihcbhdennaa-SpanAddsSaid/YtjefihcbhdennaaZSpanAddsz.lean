/- Texts of this session, merged for the law SpanAdds: SI, SL, SN, SM, PureSpanAdds. No condition. -/
import Derived.Test.YtjefihcbhdennaaZSpanAddsy
import Derived.Test.YtjefihcbhdennaaZSpanAddso
import Derived.Test.YtjefihcbhdennaaZSpanAddsr
import Derived.Test.YtjefihcbhdennaaZSpanAddss
import Derived.Test.YtjefihcbhdennaaZSpanAddst
import Derived.Test.YtjefihcbhdennaaZSpanAddsu
import Derived.Test.YtjefihcbhdennaaZSpanAddsv
import Derived.Test.YtjefihcbhdennaaZSpanAddsd
import Derived.Test.YtjefihcbhdennaaZSpanAddsw
import Derived.Test.YtjefihcbhdennaaZSpanAddsx
namespace Go.Proofs.Ytjefihcbhdennaa.Pure
open Go.RowKit Go.Proofs.YtjefihcbhdennaaW.PrintWords Go.Proofs.Ytjefihcbhdennaa.S
noncomputable def lo1 (s x : S41) : Bool := !touchB x s && decide (x.f0.toList < s.f0.toList)
noncomputable def lo2 (s x : S41) : Bool := !touchB x s && decide (s.f0.toList < x.f0.toList)
theorem putS_eq (l : List S41) (s : S41) : putS l s = l.filter (lo1 (l.foldl gro s)) ++ (l.foldl gro s) :: l.filter (lo2 (l.foldl gro s)) := by
  unfold putS lo1 lo2
  congr
theorem put_l2 (l : List S41) (hl : l.length < 1000000) (s : S41) : ∀ (d i : Nat) (acc : List S41), i + d = l.length → acc.length + d < 4398046511104 →
    Ev (fun k => conductorref09_put.l2 k acc l (l.length : Int) (i : Int) s.f0 s.f1) (acc ++ (l.drop i).filter (lo2 s)) := by
  intro d
  induction d with
  | zero =>
    intro i acc hd ha
    rw [List.drop_eq_nil_of_le (by omega)]
    refine Ev.step (f := fun _ => some acc) (fun k => ?_) (by simpa using Ev.now acc)
    simp only [conductorref09_put.l2]
    rw [if_neg (by omega)]
  | succ d ih =>
    intro i acc hd ha
    have hi : i < l.length := by omega
    rw [List.drop_eq_getElem_cons hi, List.filter_cons]
    have hn := ih (i + 1) acc (by omega) (by omega)
    have hn2 := ih (i + 1) (acc ++ [l[i]]) (by omega) (by rw [List.length_append, List.length_singleton]; omega)
    rw [← w1 hi (by omega)] at hn hn2
    cases ht : touchB l[i] s with
    | true =>
      rw [show lo2 s l[i] = false by simp [lo2, ht], if_neg (by decide)]
      refine Ev.step (fun k => ?_) hn
      simp only [conductorref09_put.l2]
      rw [if_pos (by omega), if_pos (by omega), if_pos (by omega), rd41 _ i hi, touch_f, ht, Option.bind_some, if_pos rfl]
    | false =>
      by_cases hlt : s.f0.toList < l[i].f0.toList
      · rw [show lo2 s l[i] = true by simp [lo2, ht, hlt], if_pos rfl]
        rw [List.append_assoc] at hn2
        refine Ev.step (fun k => ?_) hn2
        simp only [conductorref09_put.l2]
        rw [if_pos (by omega), if_pos (by omega), if_pos (by omega), rd41 _ i hi, touch_f, ht, Option.bind_some, if_neg (by decide), bl, if_pos (decide_eq_true hlt), if_pos (by omega)]
      · rw [show lo2 s l[i] = false by simp [lo2, ht, hlt], if_neg (by decide)]
        refine Ev.step (fun k => ?_) hn
        simp only [conductorref09_put.l2]
        rw [if_pos (by omega), if_pos (by omega), if_pos (by omega), rd41 _ i hi, touch_f, ht, Option.bind_some, if_neg (by decide), bl, if_neg (by simpa using hlt)]
theorem put_l1 (l : List S41) (hl : l.length < 1000000) (s : S41) : ∀ (d i : Nat) (acc : List S41), i + d = l.length → acc.length + d + l.length + 1 < 4398046511104 →
    Ev (fun k => conductorref09_put.l1 k l acc l (l.length : Int) (i : Int) s.f0 s.f1) (acc ++ (l.drop i).filter (lo1 s) ++ s :: l.filter (lo2 s)) := by
  intro d
  induction d with
  | zero =>
    intro i acc hd ha
    rw [List.drop_eq_nil_of_le (by omega)]
    have h := put_l2 l hl s l.length 0 (acc ++ [s]) (by omega) (by rw [List.length_append, List.length_singleton]; omega)
    refine Ev.step (fun k => ?_) (by simpa using h)
    simp only [conductorref09_put.l1]
    rw [if_neg (by omega), if_pos (by omega)]
  | succ d ih =>
    intro i acc hd ha
    have hi : i < l.length := by omega
    rw [List.drop_eq_getElem_cons hi, List.filter_cons]
    have hn := ih (i + 1) acc (by omega) (by omega)
    have hn2 := ih (i + 1) (acc ++ [l[i]]) (by omega) (by rw [List.length_append, List.length_singleton]; omega)
    rw [← w1 hi (by omega)] at hn hn2
    cases ht : touchB l[i] s with
    | true =>
      rw [show lo1 s l[i] = false by simp [lo1, ht], if_neg (by decide)]
      refine Ev.step (fun k => ?_) hn
      simp only [conductorref09_put.l1]
      rw [if_pos (by omega), if_pos (by omega), if_pos (by omega), rd41 _ i hi, touch_f, ht, Option.bind_some, if_pos rfl]
    | false =>
      by_cases hlt : l[i].f0.toList < s.f0.toList
      · rw [show lo1 s l[i] = true by simp [lo1, ht, hlt], if_pos rfl]
        have e : acc ++ l[i] :: (l.drop (i + 1)).filter (lo1 s) = acc ++ [l[i]] ++ (l.drop (i + 1)).filter (lo1 s) := by simp
        rw [e]
        refine Ev.step (fun k => ?_) hn2
        simp only [conductorref09_put.l1]
        rw [if_pos (by omega), if_pos (by omega), if_pos (by omega), rd41 _ i hi, touch_f, ht, Option.bind_some, if_neg (by decide), bl, if_pos (decide_eq_true hlt), if_pos (by omega)]
      · rw [show lo1 s l[i] = false by simp [lo1, ht, hlt], if_neg (by decide)]
        refine Ev.step (fun k => ?_) hn
        simp only [conductorref09_put.l1]
        rw [if_pos (by omega), if_pos (by omega), if_pos (by omega), rd41 _ i hi, touch_f, ht, Option.bind_some, if_neg (by decide), bl, if_neg (by simpa using hlt)]
theorem put_l0 (l : List S41) (hl : l.length < 1000000) : ∀ (d i : Nat) (s : S41), i + d = l.length →
    Ev (fun k => conductorref09_put.l0 k l [] l (l.length : Int) (i : Int) s.f0 s.f1) (l.filter (lo1 ((l.drop i).foldl gro s)) ++ ((l.drop i).foldl gro s) :: l.filter (lo2 ((l.drop i).foldl gro s))) := by
  intro d
  induction d with
  | zero =>
    intro i s hd
    rw [List.drop_eq_nil_of_le (by omega)]
    have h := put_l1 l hl s l.length 0 [] (by omega) (by rw [List.length_nil]; omega)
    refine Ev.step (fun k => ?_) (by simpa using h)
    simp only [conductorref09_put.l0]
    rw [if_neg (by omega)]
  | succ d ih =>
    intro i s hd
    have hi : i < l.length := by omega
    rw [List.drop_eq_getElem_cons hi, List.foldl_cons]
    have hn := ih (i + 1) (gro s l[i]) (by omega)
    rw [← w1 hi (by omega)] at hn
    refine Ev.step (fun k => ?_) hn
    simp only [conductorref09_put.l0]
    rw [if_pos (by omega), if_pos (by omega), if_pos (by omega), rd41 _ i hi, touch_f, Option.bind_some, cover_f, Option.bind_some]
    unfold gro
    cases ht : touchB l[i] s with
    | true => rw [if_pos rfl, if_pos rfl]
    | false => rw [if_neg (by decide), if_neg (by decide)]
theorem put_ev (l : List S41) (hl : l.length < 1000000) (s : S41) : Ev (fun k => conductorref09_put.f k l s.f0 s.f1) (putS l s) := by
  rw [putS_eq]
  have h := put_l0 l hl l.length 0 s (by omega)
  rw [List.drop_zero] at h
  exact h
noncomputable def rstep (acc : List S41) (x : S41) : List S41 := if rightB x = true then putS acc x else acc
theorem rfold_spec : ∀ (l : List S41) (acc : List S41), NP acc → NP (l.foldl rstep acc) ∧ (∀ k, mem (l.foldl rstep acc) k ↔ mem acc k ∨ mem l k) ∧ (l.foldl rstep acc).length ≤ acc.length + l.length
  | [], acc, h => ⟨h, fun k => by simp [mem_nil], by simp⟩
  | x :: l, acc, h => by
    rw [List.foldl_cons]
    by_cases hr : rightB x = true
    · obtain ⟨b1, b2, b3⟩ := putS_spec acc x h ((rightB_iff x).1 hr)
      obtain ⟨a1, a2, a3⟩ := rfold_spec l (rstep acc x) (by unfold rstep; rw [if_pos hr]; exact b1)
      refine ⟨a1, fun k => ?_, ?_⟩
      · rw [a2, mem_cons]; unfold rstep; rw [if_pos hr, b2, or_assoc]
      · have : (rstep acc x).length ≤ acc.length + 1 := by unfold rstep; rw [if_pos hr]; exact b3
        rw [List.length_cons]; omega
    · obtain ⟨a1, a2, a3⟩ := rfold_spec l (rstep acc x) (by unfold rstep; rw [if_neg hr]; exact h)
      refine ⟨a1, fun k => ?_, ?_⟩
      · rw [a2, mem_cons]; unfold rstep; rw [if_neg hr]
        have : ¬ has x k := fun hk => hr ((rightB_iff x).2 (has_rt hk))
        simp [this]
      · have : (rstep acc x).length ≤ acc.length + 1 := by unfold rstep; rw [if_neg hr]; omega
        rw [List.length_cons]; omega
theorem rright_f (x : S41) : conductorref09_Right.f x.f0 x.f1 = some (rightB x) := rightB_eq x
theorem rjoin_l0 (l : List S41) (hl : l.length < 1000000) : ∀ (d i : Nat) (acc : List S41), i + d = l.length → acc.length + d < 1000000 → NP acc →
    Ev (fun k => conductorref09_Join.l0 k acc l (l.length : Int) (i : Int)) ((l.drop i).foldl rstep acc) := by
  intro d
  induction d with
  | zero =>
    intro i acc hd ha _
    rw [List.drop_eq_nil_of_le (by omega)]
    refine Ev.step (f := fun _ => some acc) (fun k => ?_) (Ev.now acc)
    simp only [conductorref09_Join.l0]
    rw [if_neg (by omega)]
  | succ d ih =>
    intro i acc hd ha hnp
    have hi : i < l.length := by omega
    rw [List.drop_eq_getElem_cons hi, List.foldl_cons]
    cases hr : rightB l[i] with
    | true =>
      obtain ⟨b1, b2, b3⟩ := putS_spec acc l[i] hnp ((rightB_iff _).1 hr)
      have hn := ih (i + 1) (putS acc l[i]) (by omega) (by omega) b1
      rw [← w1 hi (by omega)] at hn
      rw [show rstep acc l[i] = putS acc l[i] by unfold rstep; rw [if_pos hr]]
      refine Ev.step (fun k => ?_) (Ev.bind (f := fun k t => conductorref09_Join.l0 k t l (l.length : Int) (wrap64 ((i : Int) + 1))) (put_ev acc (by omega) l[i]) hn)
      simp only [conductorref09_Join.l0]
      rw [if_pos (by omega), if_pos (by omega), if_pos (by omega), rd41 _ i hi, rright_f, hr, Option.bind_some, if_pos rfl]
    | false =>
      have hn := ih (i + 1) acc (by omega) (by omega) hnp
      rw [← w1 hi (by omega)] at hn
      rw [show rstep acc l[i] = acc by unfold rstep; rw [if_neg (by rw [hr]; decide)]]
      refine Ev.step (fun k => ?_) hn
      simp only [conductorref09_Join.l0]
      rw [if_pos (by omega), if_pos (by omega), if_pos (by omega), rd41 _ i hi, rright_f, hr, Option.bind_some, if_neg (by decide)]
theorem np_nil : NP [] := ⟨fun x h => (by cases h), List.Pairwise.nil⟩
theorem rjoin_ev (a b : List S41) (hs : a.length + b.length < 1000000) : ∃ j, Ev (fun k => conductorref09_Join.f k a b) j ∧ NP j ∧ (∀ k, mem j k ↔ mem a k ∨ mem b k) := by
  have hla : (a ++ b).length = a.length + b.length := List.length_append
  obtain ⟨a1, a2, a3⟩ := rfold_spec (a ++ b) [] np_nil
  refine ⟨(a ++ b).foldl rstep [], ?_, a1, fun k => by rw [a2, mem_append]; simp [mem_nil]⟩
  have h := rjoin_l0 (a ++ b) (by omega) (a ++ b).length 0 [] (by omega) (by rw [List.length_nil]; omega) np_nil
  rw [List.drop_zero] at h
  refine Ev.congr (fun k => ?_) h
  unfold conductorref09_Join.f
  rw [Option.bind_some, if_pos (by rw [List.length_nil]; omega), Option.bind_some, List.nil_append, if_pos (by omega), Option.bind_some]; rfl
theorem joins_ev (a b : List S41) (hs : a.length + b.length < 1000000) : ∃ j, Ev (fun k => span_Join.f k a b) j ∧ Ev (fun k => conductorref09_Join.f k a b) j ∧ NP j ∧ (∀ k, mem j k ↔ mem a k ∨ mem b k) ∧ j.length ≤ a.length + b.length := by
  obtain ⟨j, h1, h2, h3, h4⟩ := join_ev a b hs
  obtain ⟨i, k1, k2, k3⟩ := rjoin_ev a b hs
  obtain rfl : j = i := np_uniq h2 k2 (fun k => by rw [h3, k3])
  exact ⟨j, h1, k1, h2, h3, h4⟩
theorem same_ev (a b : List S41) (ha : a.length ≤ 9223372036854775807) : ∃ c, Ev (fun k => conductorref09_Same.f k a b) c ∧ (c = true ↔ a = b) := by
  by_cases hl : a.length = b.length
  · have key : ∀ d i : Nat, i + d = a.length → ∃ c, Ev (fun k => conductorref09_Same.l0 k a b (a.length : Int) (i : Int)) c ∧ (c = true ↔ a.drop i = b.drop i) := by
      intro d
      induction d with
      | zero =>
        intro i hd
        refine ⟨true, Ev.step (f := fun _ => some true) (fun k => ?_) (Ev.now _), ?_⟩
        · simp only [conductorref09_Same.l0]
          rw [if_neg (by omega)]
        · rw [List.drop_eq_nil_of_le (by omega), List.drop_eq_nil_of_le (by omega)]; simp
      | succ d ih =>
        intro i hd
        have hi : i < a.length := by omega
        have hj : i < b.length := by omega
        obtain ⟨c, h1, h2⟩ := ih (i + 1) (by omega)
        rw [← w1 hi ha] at h1
        rw [List.drop_eq_getElem_cons hi, List.drop_eq_getElem_cons hj, List.cons_eq_cons]
        by_cases e0 : a[i].f0.toList = b[i].f0.toList
        · by_cases e1 : a[i].f1.toList = b[i].f1.toList
          · refine ⟨c, Ev.step (fun k => ?_) h1, by rw [h2]; simp [S41.ext' e0 e1]⟩
            simp only [conductorref09_Same.l0]
            rw [if_pos (by omega), if_pos (by omega), if_pos (by omega), if_pos (by omega), rd41 _ i hi, rd41 _ i hj, e0, e1, if_neg (by simp)]
          · refine ⟨false, Ev.step (f := fun _ => some false) (fun k => ?_) (Ev.now _), ?_⟩
            · simp only [conductorref09_Same.l0]
              rw [if_pos (by omega), if_pos (by omega), if_pos (by omega), if_pos (by omega), rd41 _ i hi, rd41 _ i hj, if_pos (by simp [e1])]
            · simp only [Bool.false_eq_true, false_iff]; rintro ⟨e, _⟩; exact e1 (by rw [e])
        · refine ⟨false, Ev.step (f := fun _ => some false) (fun k => ?_) (Ev.now _), ?_⟩
          · simp only [conductorref09_Same.l0]
            rw [if_pos (by omega), if_pos (by omega), if_pos (by omega), if_pos (by omega), rd41 _ i hi, rd41 _ i hj, if_pos (by simp [e0])]
          · simp only [Bool.false_eq_true, false_iff]; rintro ⟨e, _⟩; exact e0 (by rw [e])
    obtain ⟨c, h1, h2⟩ := key a.length 0 (by omega)
    rw [List.drop_zero, List.drop_zero] at h2
    refine ⟨c, Ev.congr (fun k => ?_) h1, h2⟩
    unfold conductorref09_Same.f
    rw [if_pos (by omega)]; rfl
  · refine ⟨false, Ev.congr (f := fun _ => some false) (fun k => ?_) (Ev.now _), ?_⟩
    · unfold conductorref09_Same.f
      rw [if_neg (by omega)]
    · simp only [Bool.false_eq_true, false_iff]; rintro rfl; exact hl rfl
theorem same_refl (a : List S41) (ha : a.length ≤ 9223372036854775807) : Ev (fun k => conductorref09_Same.f k a a) true := by
  obtain ⟨c, h1, h2⟩ := same_ev a a ha
  rwa [h2.2 rfl] at h1
def chk : S41 → List S41 → Prop
  | _, [] => True
  | c, x :: t => Rt x ∧ apart c x ∧ chk x t
theorem chk_nrm : ∀ {c : S41} {t : List S41}, Rt c → (chk c t ↔ Nrm (c :: t))
  | c, [], h => by simp only [chk, Nrm, and_true, true_iff]; exact ⟨h, fun y hy => by cases hy⟩
  | c, x :: t, h => by
    rw [chk, Nrm]
    constructor
    · rintro ⟨h1, h2, h3⟩
      exact ⟨h, fun y hy => by obtain rfl := Option.some.inj hy; exact h2, (chk_nrm h1).1 h3⟩
    · rintro ⟨_, h2, h3⟩
      exact ⟨h3.1, h2 x rfl, (chk_nrm h3.1).2 h3⟩
theorem normal_l0 (l : List S41) (hl : l.length ≤ 9223372036854775807) : ∀ (d i : Nat) (hi : i < l.length), i + 1 + d = l.length →
    ∃ c, Ev (fun k => span_Normal.l0 k l l (l.length : Int) ((i + 1 : Nat) : Int)) c ∧ (c = true ↔ chk l[i] (l.drop (i + 1))) := by
  intro d
  induction d with
  | zero =>
    intro i hi hd
    refine ⟨true, Ev.step (f := fun _ => some true) (fun k => ?_) (Ev.now _), ?_⟩
    · simp only [span_Normal.l0]
      rw [if_neg (by omega)]
    · rw [List.drop_eq_nil_of_le (by omega)]; simp [chk]
  | succ d ih =>
    intro i hi hd
    have hj : i + 1 < l.length := by omega
    obtain ⟨c, h1, h2⟩ := ih (i + 1) hj (by omega)
    rw [← w1 hj hl] at h1
    rw [List.drop_eq_getElem_cons hj, chk, ← h2]
    have ew : wrap64 (((i + 1 : Nat) : Int) - 1) = (i : Int) := by unfold wrap64; omega
    cases hr : rightB l[i + 1] with
    | true =>
      have hr' := (rightB_iff _).1 hr
      by_cases e1 : l[i].f1.toList = []
      · refine ⟨false, Ev.step (f := fun _ => some false) (fun k => ?_) (Ev.now _), ?_⟩
        · simp only [span_Normal.l0]
          rw [if_pos (by omega), if_pos (by omega), if_pos (by omega), rd41 _ (i + 1) hj, rightB_eq, hr, Option.bind_some, if_pos rfl, if_neg (by omega), ew, if_pos (by omega), if_pos (by omega), rd41 _ i hi, if_pos e1]
        · simp only [Bool.false_eq_true, false_iff]; rintro ⟨_, e, _⟩; exact e.1 e1
      · by_cases e2 : l[i].f1.toList < l[i + 1].f0.toList
        · refine ⟨c, Ev.step (fun k => ?_) h1, ⟨fun h => ⟨hr', ⟨e1, e2⟩, h⟩, fun h => h.2.2⟩⟩
          simp only [span_Normal.l0]
          rw [if_pos (by omega), if_pos (by omega), if_pos (by omega), rd41 _ (i + 1) hj, rightB_eq, hr, Option.bind_some, if_pos rfl, if_neg (by omega), ew, if_pos (by omega), if_pos (by omega), rd41 _ i hi, if_neg e1, bl, if_pos (decide_eq_true e2)]
        · refine ⟨false, Ev.step (f := fun _ => some false) (fun k => ?_) (Ev.now _), ?_⟩
          · simp only [span_Normal.l0]
            rw [if_pos (by omega), if_pos (by omega), if_pos (by omega), rd41 _ (i + 1) hj, rightB_eq, hr, Option.bind_some, if_pos rfl, if_neg (by omega), ew, if_pos (by omega), if_pos (by omega), rd41 _ i hi, if_neg e1, bl, if_neg (by simpa using e2)]
          · simp only [Bool.false_eq_true, false_iff]; rintro ⟨_, e, _⟩; exact e2 e.2
    | false =>
      refine ⟨false, Ev.step (f := fun _ => some false) (fun k => ?_) (Ev.now _), ?_⟩
      · simp only [span_Normal.l0]
        rw [if_pos (by omega), if_pos (by omega), if_pos (by omega), rd41 _ (i + 1) hj, rightB_eq, hr, Option.bind_some, if_neg (by decide)]
      · simp only [Bool.false_eq_true, false_iff]; rintro ⟨e, _⟩; rw [(rightB_iff _).2 e] at hr; cases hr
theorem normal_ev (l : List S41) (hl : l.length ≤ 9223372036854775807) : ∃ c, Ev (fun k => span_Normal.f k l) c ∧ (c = true ↔ NP l) := by
  cases hm : l with
  | nil =>
    refine ⟨true, Ev.step (f := fun _ => some true) (fun k => ?_) (Ev.now _), by simp [np_nil]⟩
    unfold span_Normal.f
    simp only [span_Normal.l0]
    rw [if_neg (by simp)]
  | cons x t =>
    rw [← hm]
    have h0 : 0 < l.length := by rw [hm]; simp
    have e0 : l[0] = x := by simp [hm]
    have et : l.drop (0 + 1) = t := by simp [hm]
    obtain ⟨c, h1, h2⟩ := normal_l0 l hl (l.length - 1) 0 h0 (by omega)
    rw [e0, et] at h2
    have ew : wrap64 ((0 : Int) + 1) = ((0 + 1 : Nat) : Int) := by unfold wrap64; omega
    cases hr : rightB x with
    | true =>
      refine ⟨c, Ev.step (fun k => ?_) h1, by rw [h2, chk_nrm ((rightB_iff _).1 hr), ← hm]; exact ⟨Nrm.np, NP.nrm⟩⟩
      unfold span_Normal.f
      simp only [span_Normal.l0]
      rw [if_pos (by omega), if_pos (by omega), if_pos (by omega), show rd_T41 l 0 = x by rw [← e0]; exact rd41 l 0 h0, rightB_eq, hr, Option.bind_some, if_pos rfl, ew]
      rw [if_pos trivial]
    | false =>
      refine ⟨false, Ev.step (f := fun _ => some false) (fun k => ?_) (Ev.now _), ?_⟩
      · unfold span_Normal.f
        simp only [span_Normal.l0]
        rw [if_pos (by omega), if_pos (by omega), if_pos (by omega), show rd_T41 l 0 = x by rw [← e0]; exact rd41 l 0 h0, rightB_eq, hr, Option.bind_some, if_neg (by decide)]
      · simp only [Bool.false_eq_true, false_iff]; intro e; rw [hm] at e; rw [(rightB_iff _).2 e.rt] at hr; cases hr
end Go.Proofs.Ytjefihcbhdennaa.Pure
namespace Go.Proofs.Ytjefihcbhdennaa.Pure
open Go.RowKit Go.Proofs.YtjefihcbhdennaaW.PrintWords Go.Proofs.YtjefihcbhdennaaW.PrintMore Go.Proofs.Ytjefihcbhdennaa.S
theorem fewB_len {l : List S41} (h : FewB l = true) : l.length ≤ 40 := by
  simp only [FewB, Bool.and_eq_true, decide_eq_true_eq] at h
  omega
end Go.Proofs.Ytjefihcbhdennaa.Pure
namespace Go.Proofs.Ytjefihcbhdennaa.Pure
open Go.RowKit Go.Proofs.YtjefihcbhdennaaW.PrintWords Go.Proofs.Ytjefihcbhdennaa.S
theorem adds_ev (l : List S41) (s : S41) (hs : l.length + 1 < 1000000) : ∃ j, Ev (fun k => span_Add.f k l s.f0 s.f1) j ∧ Ev (fun k => conductorref09_Add.f k l s.f0 s.f1) j ∧ j.length ≤ l.length + 1 := by
  obtain ⟨j, h1, h2, h3, h4, h5⟩ := joins_ev l [s] (by simpa using hs)
  refine ⟨j, ?_, ?_, by simpa using h5⟩
  · unfold span_Add.f
    exact Ev.bind h1 (Ev.now j)
  · unfold conductorref09_Add.f
    exact Ev.bind h2 (Ev.now j)
theorem rnormal_l0 : ∀ (k : Nat) (a b : List S41) (n i : Int), conductorref09_Normal.l0 k a b n i = span_Normal.l0 k a b n i
  | 0, _, _, _, _ => rfl
  | k + 1, a, b, n, i => by
    have ih := rnormal_l0 k a b n
    simp only [conductorref09_Normal.l0, span_Normal.l0, ih, show ∀ x y, conductorref09_Right.f x y = span_Right.f x y from fun _ _ => rfl]
    by_cases h0 : 0 ≤ i
    · by_cases h1 : i = 0
      · simp [h1]
      · have h2 : i > 0 := by omega
        simp only [h1, h2, if_true, if_false]
    · simp only [h0, if_false]
theorem rnormal_f (k : Nat) (l : List S41) : conductorref09_Normal.f k l = span_Normal.f k l := rnormal_l0 k l l _ _
theorem same_l0 : ∀ (k : Nat) (a b : List S41) (n i : Int), api_Span_70.l0 k a b n i = conductorref09_Same.l0 k a b n i
  | 0, _, _, _, _ => rfl
  | k + 1, a, b, n, i => by
    simp only [conductorref09_Same.l0, api_Span_70.l0, same_l0 k a b n]
theorem ssame_f (k : Nat) (a b : List S41) : span_Same.f k a b = conductorref09_Same.f k a b := by
  unfold span_Same.f api_Span_70.f conductorref09_Same.f
  rw [same_l0]
  cases (if (a.length : Int) = (b.length : Int) then conductorref09_Same.l0 k a b (a.length : Int) 0 else some false) <;> rfl
theorem rin_ev (l : List S41) (hl : l.length ≤ 9223372036854775807) (key : ByteArray) : Ev (fun k => conductorref09_In.f k l key) (l.any fun x => hasB x key) := by
  have go : ∀ d i : Nat, i + d = l.length → Ev (fun k => conductorref09_In.l0 k key l (l.length : Int) (i : Int)) ((l.drop i).any fun x => hasB x key) := by
    intro d
    induction d with
    | zero =>
      intro i hd
      refine Ev.step (f := fun _ => some false) (fun k => ?_) ?_
      · simp only [conductorref09_In.l0]
        rw [if_neg (by omega)]
      · rw [List.drop_eq_nil_of_le (by omega)]; exact Ev.now _
    | succ d ih =>
      intro i hd
      have hi : i < l.length := by omega
      rw [List.drop_eq_getElem_cons hi, List.any_cons]
      have hh : conductorref09_Has.f l[i].f0 l[i].f1 key = some (hasB l[i] key) := hasB_eq l[i] key
      cases hm : hasB l[i] key with
      | true =>
        refine Ev.step (f := fun _ => some true) (fun k => ?_) (by simpa using Ev.now true)
        simp only [conductorref09_In.l0]
        rw [if_pos (by omega), if_pos (by omega), if_pos (by omega), rd41 _ i hi, hh, hm]; rfl
      | false =>
        refine Ev.step (fun k => ?_) (by simpa using ih (i + 1) (by omega))
        simp only [conductorref09_In.l0]
        rw [if_pos (by omega), if_pos (by omega), if_pos (by omega), rd41 _ i hi, hh, hm, w1 hi hl]; rfl
  have h := go l.length 0 (by omega)
  rw [List.drop_zero] at h
  exact h
end Go.Proofs.Ytjefihcbhdennaa.Pure
namespace Go.Proofs.Ytjefihcbhdennaa.Pure
open Go.RowKit Go.Proofs.YtjefihcbhdennaaW.PrintWords Go.Proofs.Ytjefihcbhdennaa.S
theorem live09_ev : Ev (fun k => conductorlaw09_live.f k) true := Ev.of conductorlaw09_live.mono (k := 30) (by decide +kernel)
end Go.Proofs.Ytjefihcbhdennaa.Pure
namespace Go.Proofs.Ytjefihcbhdennaa.Pure
open Go.RowKit Go.Proofs.YtjefihcbhdennaaW.PrintWords Go.Proofs.Ytjefihcbhdennaa.S
theorem SpanAdds (a : List S41) (ha : a.length ≤ 9223372036854775807) (wa : WL41 a) (b : List S41) (hb : b.length ≤ 9223372036854775807) (wb : WL41 b) (s : S41) (ws : W41 s) :
    ∃ k, conductorlaw09_SpanAdds.f k a b s.f0 s.f1 = some true := by
  refine Ev.rounds (g := fun k => conductorlaw09_SpanAdds.f k a b s.f0 s.f1) ?_
  have hlive : Ev (fun k => conductorlaw09_SpanAdds.j0 k a b true s.f0 s.f1) true :=
    Ev.step (fun k => by simp only [conductorlaw09_SpanAdds.j0, if_true]) (Ev.bind live09_ev (Ev.now true))
  unfold conductorlaw09_SpanAdds.f
  refine Ev.bind live09_ev (Ev.congr (fun k => by rw [if_pos rfl]) (Ev.bind (Few_ev a ha) ?_))
  cases hfa : FewB a with
  | false => exact Ev.congr (fun k => by rw [if_neg (by decide)]) hlive
  | true =>
    refine Ev.congr (fun k => by rw [if_pos rfl]) (Ev.bind (Few_ev b hb) ?_)
    cases hfb : FewB b with
    | false => exact Ev.congr (fun k => by rw [if_neg (by decide)]) hlive
    | true =>
      refine Ev.congr (fun k => by rw [if_pos rfl]) (Ev.bind (Few_ev [s] (by simp)) ?_)
      cases FewB [s] with
      | false => exact hlive
      | true =>
        have la := fewB_len hfa
        have lb := fewB_len hfb
        obtain ⟨x, p1, p2, p3⟩ := adds_ev a s (by omega)
        obtain ⟨u, u1, u2, u3, u4, u5⟩ := joins_ev a b (by omega)
        obtain ⟨c, c1, c2⟩ := normal_ev a ha
        have c3 : Ev (fun k => conductorref09_Normal.f k a) c := Ev.congr (fun k => rnormal_f k a) c1
        obtain ⟨d, d1, d2⟩ := same_ev a b ha
        have d3 : Ev (fun k => span_Same.f k a b) d := Ev.congr (fun k => ssame_f k a b) d1
        refine Ev.step (fun k => by simp only [conductorlaw09_SpanAdds.j0, Bool.not_true, if_false, Bool.false_eq_true]; rfl) ?_
        refine Ev.congr (fun k => by rw [Option.bind_some, List.nil_append, if_pos (by rw [List.length_nil]; omega)]) ?_
        refine Ev.bind p1 (Ev.bind p2 (Ev.bind (same_refl x (by omega)) ?_))
        refine Ev.congr (fun k => by rw [if_pos rfl]) (Ev.bind u1 (Ev.bind u2 (Ev.bind (same_refl u (by omega)) ?_)))
        refine Ev.congr (fun k => by rw [if_pos rfl]) (Ev.bind c1 (Ev.bind c3 ?_))
        refine Ev.congr (fun k => by rw [if_pos (by simp), span_In.f, Option.bind_some]) (Ev.bind (rin_ev a ha s.f0) ?_)
        refine Ev.congr (fun k => by rw [if_pos (by simp), meet_f, Option.bind_some]) (Ev.bind (refMeet_ev a b ha hb) ?_)
        refine Ev.congr (fun k => by rw [if_pos (by simp)]) (Ev.bind d3 (Ev.bind d1 ?_))
        exact Ev.congr (fun k => by rw [if_pos (by simp)]) (Ev.bind (same_refl a ha) (Ev.now true))
end Go.Proofs.Ytjefihcbhdennaa.Pure
