/- Texts of this session, merged for the law SsiNeverLess: SI, S23, SL, SN, SU, SQ, S57, S58, S61, SW, PureSsiNeverLess. No condition. -/
import Derived.Test.YtjefihcbhdennaaZSsiNeverLessy
import Derived.Test.YtjefihcbhdennaaZSsiNeverLesso
import Derived.Test.YtjefihcbhdennaaZSsiNeverLessv
import Derived.Test.YtjefihcbhdennaaZSsiNeverLessq
import Derived.Test.YtjefihcbhdennaaZSsiNeverLesss
import Derived.Test.YtjefihcbhdennaaZSsiNeverLessd
import Derived.Test.YtjefihcbhdennaaZSsiNeverLessr
import Derived.Test.YtjefihcbhdennaaZSsiNeverLessx
import Derived.Test.YtjefihcbhdennaaZSsiNeverLessw
namespace Go.Proofs.Ytjefihcbhdennaa.Pure
open Go.RowKit Go.Proofs.YtjefihcbhdennaaW.PrintWords Go.Proofs.Ytjefihcbhdennaa.S
noncomputable def lo1 (s x : S41) : Bool := !touchB x s && decide (x.f0.toList < s.f0.toList)
noncomputable def lo2 (s x : S41) : Bool := !touchB x s && decide (s.f0.toList < x.f0.toList)
theorem putS_eq (l : List S41) (s : S41) : putS l s = l.filter (lo1 (l.foldl gro s)) ++ (l.foldl gro s) :: l.filter (lo2 (l.foldl gro s)) := by
  unfold putS lo1 lo2
  congr
theorem put_l2 (l : List S41) (hl : l.length < 1000000) (s : S41) : ∀ (d i : Nat) (acc : List S41), i + d = l.length → acc.length + d < 4398046511104 →
    Ev (fun k => conductorref09_put.l2 k acc l (l.length : Int) (i : Int) s.f0 s.f1) (acc ++ (l.drop i).filter (lo2 s)) := by
  intro d
  induction d with
  | zero =>
    intro i acc hd ha
    rw [List.drop_eq_nil_of_le (by omega)]
    refine Ev.step (f := fun _ => some acc) (fun k => ?_) (by simpa using Ev.now acc)
    simp only [conductorref09_put.l2]
    rw [if_neg (by omega)]
  | succ d ih =>
    intro i acc hd ha
    have hi : i < l.length := by omega
    rw [List.drop_eq_getElem_cons hi, List.filter_cons]
    have hn := ih (i + 1) acc (by omega) (by omega)
    have hn2 := ih (i + 1) (acc ++ [l[i]]) (by omega) (by rw [List.length_append, List.length_singleton]; omega)
    rw [← w1 hi (by omega)] at hn hn2
    cases ht : touchB l[i] s with
    | true =>
      rw [show lo2 s l[i] = false by simp [lo2, ht], if_neg (by decide)]
      refine Ev.step (fun k => ?_) hn
      simp only [conductorref09_put.l2]
      rw [if_pos (by omega), if_pos (by omega), if_pos (by omega), rd41 _ i hi, touch_f, ht, Option.bind_some, if_pos rfl]
    | false =>
      by_cases hlt : s.f0.toList < l[i].f0.toList
      · rw [show lo2 s l[i] = true by simp [lo2, ht, hlt], if_pos rfl]
        rw [List.append_assoc] at hn2
        refine Ev.step (fun k => ?_) hn2
        simp only [conductorref09_put.l2]
        rw [if_pos (by omega), if_pos (by omega), if_pos (by omega), rd41 _ i hi, touch_f, ht, Option.bind_some, if_neg (by decide), bl, if_pos (decide_eq_true hlt), if_pos (by omega)]
      · rw [show lo2 s l[i] = false by simp [lo2, ht, hlt], if_neg (by decide)]
        refine Ev.step (fun k => ?_) hn
        simp only [conductorref09_put.l2]
        rw [if_pos (by omega), if_pos (by omega), if_pos (by omega), rd41 _ i hi, touch_f, ht, Option.bind_some, if_neg (by decide), bl, if_neg (by simpa using hlt)]
theorem put_l1 (l : List S41) (hl : l.length < 1000000) (s : S41) : ∀ (d i : Nat) (acc : List S41), i + d = l.length → acc.length + d + l.length + 1 < 4398046511104 →
    Ev (fun k => conductorref09_put.l1 k l acc l (l.length : Int) (i : Int) s.f0 s.f1) (acc ++ (l.drop i).filter (lo1 s) ++ s :: l.filter (lo2 s)) := by
  intro d
  induction d with
  | zero =>
    intro i acc hd ha
    rw [List.drop_eq_nil_of_le (by omega)]
    have h := put_l2 l hl s l.length 0 (acc ++ [s]) (by omega) (by rw [List.length_append, List.length_singleton]; omega)
    refine Ev.step (fun k => ?_) (by simpa using h)
    simp only [conductorref09_put.l1]
    rw [if_neg (by omega), if_pos (by omega)]
  | succ d ih =>
    intro i acc hd ha
    have hi : i < l.length := by omega
    rw [List.drop_eq_getElem_cons hi, List.filter_cons]
    have hn := ih (i + 1) acc (by omega) (by omega)
    have hn2 := ih (i + 1) (acc ++ [l[i]]) (by omega) (by rw [List.length_append, List.length_singleton]; omega)
    rw [← w1 hi (by omega)] at hn hn2
    cases ht : touchB l[i] s with
    | true =>
      rw [show lo1 s l[i] = false by simp [lo1, ht], if_neg (by decide)]
      refine Ev.step (fun k => ?_) hn
      simp only [conductorref09_put.l1]
      rw [if_pos (by omega), if_pos (by omega), if_pos (by omega), rd41 _ i hi, touch_f, ht, Option.bind_some, if_pos rfl]
    | false =>
      by_cases hlt : l[i].f0.toList < s.f0.toList
      · rw [show lo1 s l[i] = true by simp [lo1, ht, hlt], if_pos rfl]
        have e : acc ++ l[i] :: (l.drop (i + 1)).filter (lo1 s) = acc ++ [l[i]] ++ (l.drop (i + 1)).filter (lo1 s) := by simp
        rw [e]
        refine Ev.step (fun k => ?_) hn2
        simp only [conductorref09_put.l1]
        rw [if_pos (by omega), if_pos (by omega), if_pos (by omega), rd41 _ i hi, touch_f, ht, Option.bind_some, if_neg (by decide), bl, if_pos (decide_eq_true hlt), if_pos (by omega)]
      · rw [show lo1 s l[i] = false by simp [lo1, ht, hlt], if_neg (by decide)]
        refine Ev.step (fun k => ?_) hn
        simp only [conductorref09_put.l1]
        rw [if_pos (by omega), if_pos (by omega), if_pos (by omega), rd41 _ i hi, touch_f, ht, Option.bind_some, if_neg (by decide), bl, if_neg (by simpa using hlt)]
theorem put_l0 (l : List S41) (hl : l.length < 1000000) : ∀ (d i : Nat) (s : S41), i + d = l.length →
    Ev (fun k => conductorref09_put.l0 k l [] l (l.length : Int) (i : Int) s.f0 s.f1) (l.filter (lo1 ((l.drop i).foldl gro s)) ++ ((l.drop i).foldl gro s) :: l.filter (lo2 ((l.drop i).foldl gro s))) := by
  intro d
  induction d with
  | zero =>
    intro i s hd
    rw [List.drop_eq_nil_of_le (by omega)]
    have h := put_l1 l hl s l.length 0 [] (by omega) (by rw [List.length_nil]; omega)
    refine Ev.step (fun k => ?_) (by simpa using h)
    simp only [conductorref09_put.l0]
    rw [if_neg (by omega)]
  | succ d ih =>
    intro i s hd
    have hi : i < l.length := by omega
    rw [List.drop_eq_getElem_cons hi, List.foldl_cons]
    have hn := ih (i + 1) (gro s l[i]) (by omega)
    rw [← w1 hi (by omega)] at hn
    refine Ev.step (fun k => ?_) hn
    simp only [conductorref09_put.l0]
    rw [if_pos (by omega), if_pos (by omega), if_pos (by omega), rd41 _ i hi, touch_f, Option.bind_some, cover_f, Option.bind_some]
    unfold gro
    cases ht : touchB l[i] s with
    | true => rw [if_pos rfl, if_pos rfl]
    | false => rw [if_neg (by decide), if_neg (by decide)]
theorem put_ev (l : List S41) (hl : l.length < 1000000) (s : S41) : Ev (fun k => conductorref09_put.f k l s.f0 s.f1) (putS l s) := by
  rw [putS_eq]
  have h := put_l0 l hl l.length 0 s (by omega)
  rw [List.drop_zero] at h
  exact h
noncomputable def rstep (acc : List S41) (x : S41) : List S41 := if rightB x = true then putS acc x else acc
theorem rfold_spec : ∀ (l : List S41) (acc : List S41), NP acc → NP (l.foldl rstep acc) ∧ (∀ k, mem (l.foldl rstep acc) k ↔ mem acc k ∨ mem l k) ∧ (l.foldl rstep acc).length ≤ acc.length + l.length
  | [], acc, h => ⟨h, fun k => by simp [mem_nil], by simp⟩
  | x :: l, acc, h => by
    rw [List.foldl_cons]
    by_cases hr : rightB x = true
    · obtain ⟨b1, b2, b3⟩ := putS_spec acc x h ((rightB_iff x).1 hr)
      obtain ⟨a1, a2, a3⟩ := rfold_spec l (rstep acc x) (by unfold rstep; rw [if_pos hr]; exact b1)
      refine ⟨a1, fun k => ?_, ?_⟩
      · rw [a2, mem_cons]; unfold rstep; rw [if_pos hr, b2, or_assoc]
      · have : (rstep acc x).length ≤ acc.length + 1 := by unfold rstep; rw [if_pos hr]; exact b3
        rw [List.length_cons]; omega
    · obtain ⟨a1, a2, a3⟩ := rfold_spec l (rstep acc x) (by unfold rstep; rw [if_neg hr]; exact h)
      refine ⟨a1, fun k => ?_, ?_⟩
      · rw [a2, mem_cons]; unfold rstep; rw [if_neg hr]
        have : ¬ has x k := fun hk => hr ((rightB_iff x).2 (has_rt hk))
        simp [this]
      · have : (rstep acc x).length ≤ acc.length + 1 := by unfold rstep; rw [if_neg hr]; omega
        rw [List.length_cons]; omega
theorem rright_f (x : S41) : conductorref09_Right.f x.f0 x.f1 = some (rightB x) := rightB_eq x
theorem rjoin_l0 (l : List S41) (hl : l.length < 1000000) : ∀ (d i : Nat) (acc : List S41), i + d = l.length → acc.length + d < 1000000 → NP acc →
    Ev (fun k => conductorref09_Join.l0 k acc l (l.length : Int) (i : Int)) ((l.drop i).foldl rstep acc) := by
  intro d
  induction d with
  | zero =>
    intro i acc hd ha _
    rw [List.drop_eq_nil_of_le (by omega)]
    refine Ev.step (f := fun _ => some acc) (fun k => ?_) (Ev.now acc)
    simp only [conductorref09_Join.l0]
    rw [if_neg (by omega)]
  | succ d ih =>
    intro i acc hd ha hnp
    have hi : i < l.length := by omega
    rw [List.drop_eq_getElem_cons hi, List.foldl_cons]
    cases hr : rightB l[i] with
    | true =>
      obtain ⟨b1, b2, b3⟩ := putS_spec acc l[i] hnp ((rightB_iff _).1 hr)
      have hn := ih (i + 1) (putS acc l[i]) (by omega) (by omega) b1
      rw [← w1 hi (by omega)] at hn
      rw [show rstep acc l[i] = putS acc l[i] by unfold rstep; rw [if_pos hr]]
      refine Ev.step (fun k => ?_) (Ev.bind (f := fun k t => conductorref09_Join.l0 k t l (l.length : Int) (wrap64 ((i : Int) + 1))) (put_ev acc (by omega) l[i]) hn)
      simp only [conductorref09_Join.l0]
      rw [if_pos (by omega), if_pos (by omega), if_pos (by omega), rd41 _ i hi, rright_f, hr, Option.bind_some, if_pos rfl]
    | false =>
      have hn := ih (i + 1) acc (by omega) (by omega) hnp
      rw [← w1 hi (by omega)] at hn
      rw [show rstep acc l[i] = acc by unfold rstep; rw [if_neg (by rw [hr]; decide)]]
      refine Ev.step (fun k => ?_) hn
      simp only [conductorref09_Join.l0]
      rw [if_pos (by omega), if_pos (by omega), if_pos (by omega), rd41 _ i hi, rright_f, hr, Option.bind_some, if_neg (by decide)]
theorem np_nil : NP [] := ⟨fun x h => (by cases h), List.Pairwise.nil⟩
theorem rjoin_ev (a b : List S41) (hs : a.length + b.length < 1000000) : ∃ j, Ev (fun k => conductorref09_Join.f k a b) j ∧ NP j ∧ (∀ k, mem j k ↔ mem a k ∨ mem b k) := by
  have hla : (a ++ b).length = a.length + b.length := List.length_append
  obtain ⟨a1, a2, a3⟩ := rfold_spec (a ++ b) [] np_nil
  refine ⟨(a ++ b).foldl rstep [], ?_, a1, fun k => by rw [a2, mem_append]; simp [mem_nil]⟩
  have h := rjoin_l0 (a ++ b) (by omega) (a ++ b).length 0 [] (by omega) (by rw [List.length_nil]; omega) np_nil
  rw [List.drop_zero] at h
  refine Ev.congr (fun k => ?_) h
  unfold conductorref09_Join.f
  rw [Option.bind_some, if_pos (by rw [List.length_nil]; omega), Option.bind_some, List.nil_append, if_pos (by omega), Option.bind_some]; rfl
theorem joins_ev (a b : List S41) (hs : a.length + b.length < 1000000) : ∃ j, Ev (fun k => span_Join.f k a b) j ∧ Ev (fun k => conductorref09_Join.f k a b) j ∧ NP j ∧ (∀ k, mem j k ↔ mem a k ∨ mem b k) ∧ j.length ≤ a.length + b.length := by
  obtain ⟨j, h1, h2, h3, h4⟩ := join_ev a b hs
  obtain ⟨i, k1, k2, k3⟩ := rjoin_ev a b hs
  obtain rfl : j = i := np_uniq h2 k2 (fun k => by rw [h3, k3])
  exact ⟨j, h1, k1, h2, h3, h4⟩
def chk : S41 → List S41 → Prop
  | _, [] => True
  | c, x :: t => Rt x ∧ apart c x ∧ chk x t
theorem chk_nrm : ∀ {c : S41} {t : List S41}, Rt c → (chk c t ↔ Nrm (c :: t))
  | c, [], h => by simp only [chk, Nrm, and_true, true_iff]; exact ⟨h, fun y hy => by cases hy⟩
  | c, x :: t, h => by
    rw [chk, Nrm]
    constructor
    · rintro ⟨h1, h2, h3⟩
      exact ⟨h, fun y hy => by obtain rfl := Option.some.inj hy; exact h2, (chk_nrm h1).1 h3⟩
    · rintro ⟨_, h2, h3⟩
      exact ⟨h3.1, h2 x rfl, (chk_nrm h3.1).2 h3⟩
theorem normal_l0 (l : List S41) (hl : l.length ≤ 9223372036854775807) : ∀ (d i : Nat) (hi : i < l.length), i + 1 + d = l.length →
    ∃ c, Ev (fun k => span_Normal.l0 k l l (l.length : Int) ((i + 1 : Nat) : Int)) c ∧ (c = true ↔ chk l[i] (l.drop (i + 1))) := by
  intro d
  induction d with
  | zero =>
    intro i hi hd
    refine ⟨true, Ev.step (f := fun _ => some true) (fun k => ?_) (Ev.now _), ?_⟩
    · simp only [span_Normal.l0]
      rw [if_neg (by omega)]
    · rw [List.drop_eq_nil_of_le (by omega)]; simp [chk]
  | succ d ih =>
    intro i hi hd
    have hj : i + 1 < l.length := by omega
    obtain ⟨c, h1, h2⟩ := ih (i + 1) hj (by omega)
    rw [← w1 hj hl] at h1
    rw [List.drop_eq_getElem_cons hj, chk, ← h2]
    have ew : wrap64 (((i + 1 : Nat) : Int) - 1) = (i : Int) := by unfold wrap64; omega
    cases hr : rightB l[i + 1] with
    | true =>
      have hr' := (rightB_iff _).1 hr
      by_cases e1 : l[i].f1.toList = []
      · refine ⟨false, Ev.step (f := fun _ => some false) (fun k => ?_) (Ev.now _), ?_⟩
        · simp only [span_Normal.l0]
          rw [if_pos (by omega), if_pos (by omega), if_pos (by omega), rd41 _ (i + 1) hj, rightB_eq, hr, Option.bind_some, if_pos rfl, if_neg (by omega), ew, if_pos (by omega), if_pos (by omega), rd41 _ i hi, if_pos e1]
        · simp only [Bool.false_eq_true, false_iff]; rintro ⟨_, e, _⟩; exact e.1 e1
      · by_cases e2 : l[i].f1.toList < l[i + 1].f0.toList
        · refine ⟨c, Ev.step (fun k => ?_) h1, ⟨fun h => ⟨hr', ⟨e1, e2⟩, h⟩, fun h => h.2.2⟩⟩
          simp only [span_Normal.l0]
          rw [if_pos (by omega), if_pos (by omega), if_pos (by omega), rd41 _ (i + 1) hj, rightB_eq, hr, Option.bind_some, if_pos rfl, if_neg (by omega), ew, if_pos (by omega), if_pos (by omega), rd41 _ i hi, if_neg e1, bl, if_pos (decide_eq_true e2)]
        · refine ⟨false, Ev.step (f := fun _ => some false) (fun k => ?_) (Ev.now _), ?_⟩
          · simp only [span_Normal.l0]
            rw [if_pos (by omega), if_pos (by omega), if_pos (by omega), rd41 _ (i + 1) hj, rightB_eq, hr, Option.bind_some, if_pos rfl, if_neg (by omega), ew, if_pos (by omega), if_pos (by omega), rd41 _ i hi, if_neg e1, bl, if_neg (by simpa using e2)]
          · simp only [Bool.false_eq_true, false_iff]; rintro ⟨_, e, _⟩; exact e2 e.2
    | false =>
      refine ⟨false, Ev.step (f := fun _ => some false) (fun k => ?_) (Ev.now _), ?_⟩
      · simp only [span_Normal.l0]
        rw [if_pos (by omega), if_pos (by omega), if_pos (by omega), rd41 _ (i + 1) hj, rightB_eq, hr, Option.bind_some, if_neg (by decide)]
      · simp only [Bool.false_eq_true, false_iff]; rintro ⟨e, _⟩; rw [(rightB_iff _).2 e] at hr; cases hr
theorem normal_ev (l : List S41) (hl : l.length ≤ 9223372036854775807) : ∃ c, Ev (fun k => span_Normal.f k l) c ∧ (c = true ↔ NP l) := by
  cases hm : l with
  | nil =>
    refine ⟨true, Ev.step (f := fun _ => some true) (fun k => ?_) (Ev.now _), by simp [np_nil]⟩
    unfold span_Normal.f
    simp only [span_Normal.l0]
    rw [if_neg (by simp)]
  | cons x t =>
    rw [← hm]
    have h0 : 0 < l.length := by rw [hm]; simp
    have e0 : l[0] = x := by simp [hm]
    have et : l.drop (0 + 1) = t := by simp [hm]
    obtain ⟨c, h1, h2⟩ := normal_l0 l hl (l.length - 1) 0 h0 (by omega)
    rw [e0, et] at h2
    have ew : wrap64 ((0 : Int) + 1) = ((0 + 1 : Nat) : Int) := by unfold wrap64; omega
    cases hr : rightB x with
    | true =>
      refine ⟨c, Ev.step (fun k => ?_) h1, by rw [h2, chk_nrm ((rightB_iff _).1 hr), ← hm]; exact ⟨Nrm.np, NP.nrm⟩⟩
      unfold span_Normal.f
      simp only [span_Normal.l0]
      rw [if_pos (by omega), if_pos (by omega), if_pos (by omega), show rd_T41 l 0 = x by rw [← e0]; exact rd41 l 0 h0, rightB_eq, hr, Option.bind_some, if_pos rfl, ew]
      rw [if_pos trivial]
    | false =>
      refine ⟨false, Ev.step (f := fun _ => some false) (fun k => ?_) (Ev.now _), ?_⟩
      · unfold span_Normal.f
        simp only [span_Normal.l0]
        rw [if_pos (by omega), if_pos (by omega), if_pos (by omega), show rd_T41 l 0 = x by rw [← e0]; exact rd41 l 0 h0, rightB_eq, hr, Option.bind_some, if_neg (by decide)]
      · simp only [Bool.false_eq_true, false_iff]; intro e; rw [hm] at e; rw [(rightB_iff _).2 e.rt] at hr; cases hr
theorem normal_np (l : List S41) (hl : l.length ≤ 9223372036854775807) (h : NP l) : Ev (fun k => span_Normal.f k l) true := by
  obtain ⟨c, h1, h2⟩ := normal_ev l hl
  rwa [h2.2 h] at h1
end Go.Proofs.Ytjefihcbhdennaa.Pure
namespace Go.Proofs.Ytjefihcbhdennaa.S
open Go.RowKit Go.Proofs.YtjefihcbhdennaaW.PrintWords Go.Proofs.YtjefihcbhdennaaW.PrintLast Go.Proofs.YtjefihcbhdennaaW.PrintMore
attribute [local go_sem] max2_int min2_int max2_str min2_str str_leq str_gtr str_geq max_two min_two max_three min_three max_four min_four   -- for this text's walks alone
set_option linter.unusedVariables false
set_option linter.unusedSimpArgs false
def conductorref09_Fit.l0 : Nat → List (S41) → Int → Option ((List (S41)))
 | 0, _, _ => none
 | k + 1, x0, x1 => if (x0.length : Int) > (mx x1 1) then (if 0 < (x0.length : Int) then (if 1 < (x0.length : Int) then ((conductorref09_cover.f ((rd_T41 x0 0).f0) ((rd_T41 x0 0).f1) ((rd_T41 x0 1).f0) ((rd_T41 x0 1).f1)).bind fun bt248 => ((some (([(⟨bt248.1, bt248.2⟩ : S41)] : List (S41)) : List (S41))).bind fun y250 => (if 2 ≤ (x0.length : Int) then ((some (x0.drop 2 : List (S41))).bind fun y253 => (if y250.length + y253.length < 4398046511104 then (conductorref09_Fit.l0 k (y250 ++ y253) x1) else (none))) else (none)))) else (none)) else (none)) else (some x0)
def conductorref09_Fit.f (k : Nat) (l0 : List (S41)) (a1 : Int) : Option ((List (S41))) := (conductorref09_Join.f k l0 ([] : List (S41))).bind fun t243 => (conductorref09_Fit.l0 k t243 a1)
end Go.Proofs.Ytjefihcbhdennaa.S
namespace Go.Proofs.Ytjefihcbhdennaa.Pure
open Go.RowKit Go.Proofs.YtjefihcbhdennaaW.PrintWords Go.Proofs.YtjefihcbhdennaaW.PrintMore Go.Proofs.Ytjefihcbhdennaa.S
def fitK : Nat → List S41 → List S41
  | 0, l => l
  | K + 1, x :: y :: t => fitK K (⟨x.f0, y.f1⟩ :: t)
  | _ + 1, l => l
theorem fitK_eq : ∀ (K : Nat) (x : S41) (t : List S41), K < t.length → fitK (K + 1) (x :: t) = ((x :: t).set (K + 1) ⟨x.f0, (g (x :: t) (K + 1)).f1⟩).drop (K + 1)
  | 0, x, [], h => by simp at h
  | 0, x, y :: t, _ => by simp [fitK, g]
  | K + 1, x, [], h => by simp at h
  | K + 1, x, y :: t, h => by
    rw [fitK, fitK_eq K _ t (by simpa using h)]
    simp [g]
theorem step_np {x y : S41} {t : List S41} (h : NP (x :: y :: t)) : NP (⟨x.f0, y.f1⟩ :: t) ∧ ∀ k, mem (x :: y :: t) k → mem (⟨x.f0, y.f1⟩ :: t) k := by
  have hx := h.rt
  have ha := h.ap (y := y) List.mem_cons_self
  have hy := h.tail.rt
  have hxy : x.f0.toList < y.f0.toList := ltt (hx.resolve_left ha.1) ha.2
  refine ⟨⟨fun z hz => ?_, ?_⟩, fun k hk => ?_⟩
  · rcases List.mem_cons.1 hz with e | e
    · subst e; exact hy.imp id (fun q => ltt hxy q)
    · exact h.tail.tail.1 z e
  · rw [List.pairwise_cons]
    exact ⟨fun z hz => h.tail.ap hz, h.tail.tail.2⟩
  · rw [mem_cons, mem_cons] at hk
    rw [mem_cons]
    rcases hk with e | e | e
    · exact .inl ⟨e.1, hy.imp id (fun q => ltt (e.2.resolve_left ha.1) (ltt ha.2 q))⟩
    · exact .inl ⟨fun q => e.1 (ltt q hxy), e.2⟩
    · exact .inr e
theorem fitK_np : ∀ (K : Nat) (l : List S41), NP l → K < l.length ∨ K = 0 → NP (fitK K l) ∧ (fitK K l).length + K = l.length ∧ ∀ k, mem l k → mem (fitK K l) k
  | 0, l, h, _ => ⟨h, rfl, fun _ h => h⟩
  | K + 1, [], h, hk => by simp at hk
  | K + 1, [x], h, hk => by simp at hk
  | K + 1, x :: y :: t, h, hk => by
    obtain ⟨a1, a2⟩ := step_np h
    obtain ⟨b1, b2, b3⟩ := fitK_np K _ a1 (by simp at hk ⊢; omega)
    rw [fitK]
    refine ⟨b1, by simp at b2 ⊢; omega, fun k hk => b3 k (a2 k hk)⟩
theorem mx_pos (n : Int) : 1 ≤ mx n 1 := by unfold mx; split <;> omega
theorem mx_le (n : Int) (hn : n ≤ 9223372036854775807) : mx n 1 ≤ 9223372036854775807 := by unfold mx; split <;> omega
theorem fit_ev (l : List S41) (n : Int) (hs : l.length < 1000000) (hn : n ≤ 9223372036854775807) : ∃ j, NP j ∧ (∀ k, mem j k ↔ mem l k) ∧ j.length ≤ l.length ∧
    Ev (fun k => span_Fit.f k l n) (fitK ((j.length : Int) - mx n 1).toNat j) ∧ Ev (fun k => conductorref09_Join.f k l []) j := by
  obtain ⟨j, h1, h5, h2, h3, h4⟩ := joins_ev l [] (by simpa using hs)
  have hp := mx_pos n
  have hq := mx_le n hn
  simp only [List.length_nil, Nat.add_zero] at h4
  refine ⟨j, h2, fun k => by rw [h3]; simp [mem], h4, ?_, h5⟩
  have ew : wrap64 ((j.length : Int) - mx n 1) = (j.length : Int) - mx n 1 := by unfold wrap64; omega
  unfold span_Fit.f
  refine Ev.bind h1 ?_
  rw [ew]
  by_cases hK : (j.length : Int) - mx n 1 > 0
  · obtain ⟨K, hK'⟩ : ∃ K : Nat, (j.length : Int) - mx n 1 = ((K + 1 : Nat) : Int) := ⟨((j.length : Int) - mx n 1).toNat - 1, by omega⟩
    have hlt : K + 1 < j.length := by omega
    refine Ev.congr (f := fun _ => some (fitK (K + 1) j)) (fun k => ?_) (by rw [hK']; exact Ev.now _)
    rw [if_pos hK, if_pos (by omega), if_pos (by omega), if_pos (by omega), if_pos (by omega), hK']
    cases hj : j with
    | nil => rw [hj] at hlt; simp at hlt
    | cons x t =>
      rw [hj] at hlt
      rw [fitK_eq K x t (by simpa using hlt)]
      have e0 : rd_T41 (x :: t) 0 = x := rfl
      rw [e0, rd_g, Int.toNat_natCast]
      unfold api_Span_58.f
      rw [if_pos (by rw [List.length_drop, List.length_set]; rw [hj] at h4; omega)]; rfl
  · have e : ((j.length : Int) - mx n 1).toNat = 0 := by omega
    rw [e]
    exact Ev.congr (f := fun _ => some j) (fun k => by rw [if_neg hK]) (Ev.now _)
theorem rfit_l0 (n : Int) : ∀ (K : Nat) (l : List S41), NP l → l.length < 1000000 → (l.length : Int) - mx n 1 ≤ K → ((l.length : Int) - mx n 1).toNat = K →
    Ev (fun k => conductorref09_Fit.l0 k l n) (fitK K l) := by
  have hp := mx_pos n
  intro K
  induction K with
  | zero =>
    intro l h hl hk _
    refine Ev.step (f := fun _ => some l) (fun k => ?_) (Ev.now _)
    simp only [conductorref09_Fit.l0]
    rw [if_neg (by omega)]
  | succ K ih =>
    intro l h hl hk hk2
    match l, h, hl, hk, hk2 with
    | [], _, _, _, hk2 => simp at hk2; omega
    | [x], _, _, _, hk2 => simp at hk2; omega
    | x :: y :: t, h, hl, hk, hk2 =>
      obtain ⟨a1, _⟩ := step_np h
      simp only [List.length_cons] at hl hk hk2
      have hn := ih _ a1 (by rw [List.length_cons]; omega) (by rw [List.length_cons]; omega) (by rw [List.length_cons]; omega)
      rw [fitK]
      have ha := h.ap (y := y) List.mem_cons_self
      have hxy : x.f0.toList < y.f0.toList := ltt (h.rt.resolve_left ha.1) ha.2
      have hy := h.tail.rt
      have ec : covS x y = ⟨x.f0, y.f1⟩ := by
        refine S41.ext' ?_ ?_
        · rw [cov_f0, if_neg (lt_not hxy)]
        · rw [cov_f1, if_neg ha.1]
          unfold Rt at hy
          have := ha.2
          grind
      refine Ev.step (fun k => ?_) hn
      simp only [conductorref09_Fit.l0]
      have e0 : rd_T41 (x :: y :: t) 0 = x := rfl
      have e1 : rd_T41 (x :: y :: t) 1 = y := rfl
      rw [if_pos (by simp only [List.length_cons]; omega), if_pos (by simp only [List.length_cons]; omega), if_pos (by simp only [List.length_cons]; omega), e0, e1, cover_f, ec]
      simp only [Option.bind_some]
      rw [if_pos (by simp only [List.length_cons]; omega)]
      rw [if_pos (by simp only [List.drop_succ_cons, List.drop_zero, List.length_cons, List.length_nil]; omega)]
      rfl
theorem fits_ev (l : List S41) (n : Int) (hs : l.length < 1000000) (hn : n ≤ 9223372036854775807) : ∃ j, NP j ∧ (∀ k, mem j k ↔ mem l k) ∧ j.length ≤ l.length ∧
    Ev (fun k => span_Fit.f k l n) (fitK ((j.length : Int) - mx n 1).toNat j) ∧ Ev (fun k => conductorref09_Fit.f k l n) (fitK ((j.length : Int) - mx n 1).toNat j) := by
  obtain ⟨j, h1, h2, h3, h4, h5⟩ := fit_ev l n hs hn
  refine ⟨j, h1, h2, h3, h4, ?_⟩
  unfold conductorref09_Fit.f
  exact Ev.bind h5 (rfit_l0 n _ j h1 (by omega) (by omega) rfl)
end Go.Proofs.Ytjefihcbhdennaa.Pure
namespace Go.Proofs.Ytjefihcbhdennaa.Pure
open Go.RowKit Go.Proofs.YtjefihcbhdennaaW.PrintWords Go.Proofs.Ytjefihcbhdennaa.S
theorem rnormal_l0 : ∀ (k : Nat) (a b : List S41) (n i : Int), conductorref09_Normal.l0 k a b n i = span_Normal.l0 k a b n i
  | 0, _, _, _, _ => rfl
  | k + 1, a, b, n, i => by
    have ih := rnormal_l0 k a b n
    simp only [conductorref09_Normal.l0, span_Normal.l0, ih, show ∀ x y, conductorref09_Right.f x y = span_Right.f x y from fun _ _ => rfl]
    by_cases h0 : 0 ≤ i
    · by_cases h1 : i = 0
      · simp [h1]
      · have h2 : i > 0 := by omega
        simp only [h1, h2, if_true, if_false]
    · simp only [h0, if_false]
theorem rnormal_f (k : Nat) (l : List S41) : conductorref09_Normal.f k l = span_Normal.f k l := rnormal_l0 k l l _ _
end Go.Proofs.Ytjefihcbhdennaa.Pure
namespace Go.Proofs.Ytjefihcbhdennaa.Pure
open Go.RowKit Go.Proofs.YtjefihcbhdennaaW.PrintWords Go.Proofs.YtjefihcbhdennaaW.PrintMore Go.Proofs.Ytjefihcbhdennaa.S
def Rgt (r : S26) : Prop := r.f0 ≥ 1 ∧ r.f0 ≤ r.f1 ∧ r.f2 ≤ r.f1 ∧ NP r.f4 ∧ NP r.f5
theorem rright10_ev (r : S26) (h4 : r.f4.length ≤ 9223372036854775807) (h5 : r.f5.length ≤ 9223372036854775807) : ∃ c, Ev (fun k => conductorref10_Right.f k r.f0 r.f1 r.f2 r.f3 r.f4 r.f5) c ∧ (c = true ↔ Rgt r) := by
  have no : ¬ Rgt r → (∃ e, Ev (fun k => conductorref10_Right.f k r.f0 r.f1 r.f2 r.f3 r.f4 r.f5) e ∧ e = false) → ∃ c, Ev (fun k => conductorref10_Right.f k r.f0 r.f1 r.f2 r.f3 r.f4 r.f5) c ∧ (c = true ↔ Rgt r) := fun hn ⟨e, h, he⟩ =>
    ⟨e, h, by rw [he]; simp [hn]⟩
  by_cases g0 : r.f0 ≥ 1
  · by_cases g1 : r.f0 ≤ r.f1
    · by_cases g2 : r.f2 ≤ r.f1
      · obtain ⟨c, c1, c2⟩ := normal_ev r.f4 h4
        obtain ⟨d, d1, d2⟩ := normal_ev r.f5 h5
        cases c with
        | false =>
          refine no (fun h => by have := c2.2 h.2.2.2.1; cases this) ⟨false, ?_, rfl⟩
          refine Ev.congr (fun k => by unfold conductorref10_Right.f; rw [if_pos g0, if_pos g1, if_pos g2, rnormal_f]) (Ev.bind c1 ?_)
          exact Ev.congr (f := fun _ => some false) (fun k => by rw [if_neg (by decide)]) (Ev.now _)
        | true =>
          refine ⟨d, ?_, by rw [d2]; exact ⟨fun h => ⟨g0, g1, g2, c2.1 rfl, h⟩, fun h => h.2.2.2.2⟩⟩
          refine Ev.congr (fun k => by unfold conductorref10_Right.f; rw [if_pos g0, if_pos g1, if_pos g2, rnormal_f]) (Ev.bind c1 ?_)
          refine Ev.congr (fun k => by rw [if_pos rfl, rnormal_f]) (Ev.bind d1 (Ev.now d))
      · exact no (fun h => g2 h.2.2.1) ⟨false, Ev.congr (f := fun _ => some false) (fun k => by unfold conductorref10_Right.f; rw [if_pos g0, if_pos g1, if_neg g2]) (Ev.now _), rfl⟩
    · exact no (fun h => g1 h.2.1) ⟨false, Ev.congr (f := fun _ => some false) (fun k => by unfold conductorref10_Right.f; rw [if_pos g0, if_neg g1]) (Ev.now _), rfl⟩
  · exact no (fun h => g0 h.1) ⟨false, Ev.congr (f := fun _ => some false) (fun k => by unfold conductorref10_Right.f; rw [if_neg g0]) (Ev.now _), rfl⟩
theorem rights_ev (l : List S26) (hl : l.length ≤ 9223372036854775807) (hw : ∀ r ∈ l, r.f4.length ≤ 9223372036854775807 ∧ r.f5.length ≤ 9223372036854775807) : ∃ c, Ev (fun k => conductorlaw10_right.f k l) c ∧ (c = true ↔ ∀ r ∈ l, Rgt r) := by
  have go : ∀ d i : Nat, i + d = l.length → ∃ c, Ev (fun k => conductorlaw10_right.l0 k l (l.length : Int) (i : Int)) c ∧ (c = true ↔ ∀ r ∈ l.drop i, Rgt r) := by
    intro d
    induction d with
    | zero =>
      intro i hd
      refine ⟨true, Ev.step (f := fun _ => some true) (fun k => ?_) (Ev.now _), ?_⟩
      · simp only [conductorlaw10_right.l0]
        rw [if_neg (by omega)]
      · rw [List.drop_eq_nil_of_le (by omega)]; simp
    | succ d ih =>
      intro i hd
      have hi : i < l.length := by omega
      obtain ⟨c, c1, c2⟩ := ih (i + 1) (by omega)
      rw [← w1 hi hl] at c1
      obtain ⟨h4, h5⟩ := hw l[i] (List.getElem_mem hi)
      obtain ⟨e, e1, e2⟩ := rright10_ev l[i] h4 h5
      rw [List.drop_eq_getElem_cons hi]
      cases e with
      | true =>
        refine ⟨c, Ev.step (fun k => by simp only [conductorlaw10_right.l0]; rw [if_pos (by omega), if_pos (by omega), if_pos (by omega), rd26 _ i hi]) (Ev.bind e1 (Ev.congr (fun k => by rw [if_pos rfl]) c1)), ?_⟩
        rw [c2, List.forall_mem_cons]
        exact ⟨fun h => ⟨e2.1 rfl, h⟩, fun h => h.2⟩
      | false =>
        refine ⟨false, Ev.step (fun k => by simp only [conductorlaw10_right.l0]; rw [if_pos (by omega), if_pos (by omega), if_pos (by omega), rd26 _ i hi]) (Ev.bind e1 (Ev.congr (f := fun _ => some false) (fun k => by rw [if_neg (by decide)]) (Ev.now _))), ?_⟩
        rw [List.forall_mem_cons]
        simp only [Bool.false_eq_true, false_iff]
        rintro ⟨h, _⟩; have := e2.2 h; cases this
  obtain ⟨c, c1, c2⟩ := go l.length 0 (by omega)
  rw [List.drop_zero] at c2
  exact ⟨c, c1, c2⟩
def cand (t2 : Int) (tr : List S41) (r : S26) : Bool := decide (t2 < r.f1) && meetL tr r.f5
/-- The least First of the candidates, or o, where b tells that there is one. -/
def least1 (t2 : Int) (tr : List S41) : List S26 → Int → Bool → Int × Bool
  | [], o, b => (o, b)
  | r :: l, o, b => if cand t2 tr r = true then (if (!b || decide (r.f0 < o)) = true then least1 t2 tr l r.f0 true else least1 t2 tr l o b) else least1 t2 tr l o b
theorem jl1_eq (t2 : Int) (tr tw : List S41) (x7 : Int) (x8 : Bool) : ∀ (l : List S26) (o : Int) (b : Bool),
    jl1 t2 tr tw x7 x8 l o b = if (l.any fun r => cand t2 tr r && badB t2 tw x7 x8 r) = true then (0, 101) else ((least1 t2 tr l o b).1, 0)
  | [], o, b => by simp [jl1, least1]
  | r :: l, o, b => by
    have ih := jl1_eq t2 tr tw x7 x8 l
    unfold jl1 least1
    rw [List.any_cons, ih, ih]
    unfold cand
    cases h1 : (decide (t2 < r.f1) && meetL tr r.f5) with
    | false => simp
    | true =>
      cases h2 : badB t2 tw x7 x8 r with
      | true => simp
      | false =>
        simp only [Bool.true_and, Bool.false_or, if_true, Bool.false_eq_true, if_false]
        split <;> split <;> rfl
/-- a is the least time that is told (0: none) over a set of Firsts. -/
theorem least1_spec (t2 : Int) (tr : List S41) : ∀ (l : List S26) (o : Int) (b : Bool), ((least1 t2 tr l o b).2 = true ↔ b = true ∨ ∃ r ∈ l, cand t2 tr r = true) ∧ (b = true → (least1 t2 tr l o b).1 ≤ o) ∧ (∀ r ∈ l, cand t2 tr r = true → (least1 t2 tr l o b).1 ≤ r.f0) ∧
    ((b = true ∧ (least1 t2 tr l o b).1 = o) ∨ (∃ r ∈ l, cand t2 tr r = true ∧ (least1 t2 tr l o b).1 = r.f0) ∨ (b = false ∧ (least1 t2 tr l o b) = (o, false)))
  | [], o, b => by cases b <;> simp [least1]
  | r :: l, o, b => by
    unfold least1
    by_cases hc : cand t2 tr r = true
    · rw [if_pos hc]
      by_cases hb : (!b || decide (r.f0 < o)) = true
      · rw [if_pos hb]
        obtain ⟨a1, a2, a3, a4⟩ := least1_spec t2 tr l r.f0 true
        refine ⟨?_, fun hbt => ?_, fun q hq hcq => ?_, ?_⟩
        · rw [a1]; simp [hc]
        · have : r.f0 < o := by simpa [hbt] using hb
          have := a2 rfl
          omega
        · rcases List.mem_cons.1 hq with e | e
          · subst e; exact a2 rfl
          · exact a3 q e hcq
        · rcases a4 with ⟨_, e⟩ | ⟨q, hq, hcq, e⟩ | ⟨e, _⟩
          · exact .inr (.inl ⟨r, List.mem_cons_self, hc, e⟩)
          · exact .inr (.inl ⟨q, List.mem_cons_of_mem _ hq, hcq, e⟩)
          · cases e
      · rw [if_neg hb]
        have hbt : b = true := by cases b <;> simp_all
        have hro : ¬ r.f0 < o := by simpa [hbt] using hb
        obtain ⟨a1, a2, a3, a4⟩ := least1_spec t2 tr l o b
        refine ⟨?_, a2, fun q hq hcq => ?_, ?_⟩
        · rw [a1]; simp [hbt]
        · rcases List.mem_cons.1 hq with e | e
          · subst e; have := a2 hbt; omega
          · exact a3 q e hcq
        · rcases a4 with h | ⟨q, hq, hcq, e⟩ | h
          · exact .inl h
          · exact .inr (.inl ⟨q, List.mem_cons_of_mem _ hq, hcq, e⟩)
          · exact .inr (.inr h)
    · rw [if_neg hc]
      obtain ⟨a1, a2, a3, a4⟩ := least1_spec t2 tr l o b
      refine ⟨?_, a2, fun q hq hcq => ?_, ?_⟩
      · rw [a1]; simp [hc]
      · rcases List.mem_cons.1 hq with e | e
        · subst e; exact absurd hcq hc
        · exact a3 q e hcq
      · rcases a4 with h | ⟨q, hq, hcq, e⟩ | h
        · exact .inl h
        · exact .inr (.inl ⟨q, List.mem_cons_of_mem _ hq, hcq, e⟩)
        · exact .inr (.inr h)
/-- who lies in danger's way behind t -/
def back (t : S26) (r : S26) : Bool := decide (t.f2 < r.f1) && meetL r.f4 t.f5
theorem jl0_spec (t2 : Int) (tw : List S41) : ∀ (l : List S26) (m : Int) (b : Bool), ((jl0 t2 tw l m b).2 = true ↔ b = true ∨ ∃ r ∈ l, (decide (t2 < r.f1) && meetL r.f4 tw) = true) ∧ (m ≤ (jl0 t2 tw l m b).1) ∧ (∀ r ∈ l, (decide (t2 < r.f1) && meetL r.f4 tw) = true → lastI r ≤ (jl0 t2 tw l m b).1) ∧
    ((jl0 t2 tw l m b).1 = m ∨ ∃ r ∈ l, (decide (t2 < r.f1) && meetL r.f4 tw) = true ∧ (jl0 t2 tw l m b).1 = lastI r)
  | [], m, b => by simp [jl0]
  | r :: l, m, b => by
    unfold jl0
    by_cases hc : (decide (t2 < r.f1) && meetL r.f4 tw) = true
    · rw [if_pos hc]
      obtain ⟨a1, a2, a3, a4⟩ := jl0_spec t2 tw l (mx m (lastI r)) true
      have hm : m ≤ mx m (lastI r) ∧ lastI r ≤ mx m (lastI r) ∧ (mx m (lastI r) = m ∨ mx m (lastI r) = lastI r) := by unfold mx; split <;> omega
      refine ⟨by rw [a1]; exact ⟨fun _ => .inr ⟨r, List.mem_cons_self, hc⟩, fun _ => .inl rfl⟩, by omega, fun q hq hcq => ?_, ?_⟩
      · rcases List.mem_cons.1 hq with e | e
        · subst e; omega
        · exact a3 q e hcq
      · rcases a4 with e | ⟨q, hq, hcq, e⟩
        · rcases hm.2.2 with k | k
          · exact .inl (e.trans k)
          · exact .inr ⟨r, List.mem_cons_self, hc, e.trans k⟩
        · exact .inr ⟨q, List.mem_cons_of_mem _ hq, hcq, e⟩
    · rw [if_neg hc]
      obtain ⟨a1, a2, a3, a4⟩ := jl0_spec t2 tw l m b
      refine ⟨⟨fun h => (a1.1 h).imp id (fun ⟨q, hq, h⟩ => ⟨q, List.mem_cons_of_mem _ hq, h⟩), fun h => a1.2 (h.imp id (fun ⟨q, hq, h⟩ => (List.mem_cons.1 hq).elim (fun e => absurd (by rw [← e]; exact h) hc) (fun e => ⟨q, e, h⟩)))⟩, a2, fun q hq hcq => ?_, ?_⟩
      · rcases List.mem_cons.1 hq with e | e
        · subst e; exact absurd hcq hc
        · exact a3 q e hcq
      · exact a4.imp id (fun ⟨q, hq, h⟩ => ⟨q, List.mem_cons_of_mem _ hq, h⟩)
/-- Danger: a candidate that lets t not stand. -/
def Bad (l : List S26) (t a : S26) : Prop := a ∈ l ∧ cand t.f2 t.f4 a = true ∧ ((a.f3 ≠ 0 ∧ (t.f5 ≠ [] ∨ a.f3 ≤ t.f2)) ∨ ∃ b ∈ l, back t b = true ∧ a.f0 ≤ lastI b)
theorem judge_spec (l : List S26) (t : S26) (h1 : ∀ r ∈ l, r.f0 ≥ 1) :
    ((∃ a, Bad l t a) ∧ judge l t = (0, 101)) ∨ ((¬ ∃ a, Bad l t a) ∧ (judge l t).2 = 0 ∧ (((judge l t).1 = 0 ∧ ∀ r ∈ l, cand t.f2 t.f4 r = false) ∨ ((judge l t).1 ≠ 0 ∧ (∀ r ∈ l, cand t.f2 t.f4 r = true → (judge l t).1 ≤ r.f0) ∧ ∃ r ∈ l, cand t.f2 t.f4 r = true ∧ (judge l t).1 = r.f0))) := by
  obtain ⟨j1, j2, j3, j4⟩ := jl0_spec t.f2 t.f5 l 0 false
  have hbad : (l.any fun r => cand t.f2 t.f4 r && badB t.f2 t.f5 (jl0 t.f2 t.f5 l 0 false).1 (jl0 t.f2 t.f5 l 0 false).2 r) = true ↔ ∃ a, Bad l t a := by
    rw [List.any_eq_true]
    constructor
    · rintro ⟨a, ha, hb⟩
      rw [Bool.and_eq_true] at hb
      refine ⟨a, ha, hb.1, ?_⟩
      have hb := hb.2
      unfold badB at hb
      rw [Bool.or_eq_true] at hb
      rcases hb with hb | hb
      · simp only [Bool.and_eq_true, Bool.not_eq_true', beq_eq_false_iff_ne, Bool.or_eq_true, decide_eq_true_eq] at hb
        refine .inl ⟨hb.1, hb.2.imp (fun h e => ?_) id⟩
        rw [e] at h; simp at h
      · simp only [Bool.and_eq_true, decide_eq_true_eq] at hb
        refine .inr ?_
        rcases j4 with e | ⟨r, hr, hc, e⟩
        · obtain ⟨r, hr, hc⟩ := (j1.1 hb.1).resolve_left (by decide)
          exact absurd (h1 a ha) (by have := hb.2; omega)
        · exact ⟨r, hr, hc, by have := hb.2; omega⟩
    · rintro ⟨a, ha, hc, hb⟩
      refine ⟨a, ha, ?_⟩
      rw [Bool.and_eq_true]
      refine ⟨hc, ?_⟩
      unfold badB
      rw [Bool.or_eq_true]
      rcases hb with ⟨e1, e2⟩ | ⟨b, hb, hbk, hle⟩
      · left
        simp only [Bool.and_eq_true, Bool.not_eq_true', beq_eq_false_iff_ne, Bool.or_eq_true, decide_eq_true_eq]
        refine ⟨e1, e2.imp (fun h => ?_) id⟩
        have := List.length_pos_iff.2 h
        omega
      · right
        simp only [Bool.and_eq_true, decide_eq_true_eq]
        exact ⟨j1.2 (.inr ⟨b, hb, hbk⟩), by have := j3 b hb hbk; omega⟩
  obtain ⟨a1, a2, a3, a4⟩ := least1_spec t.f2 t.f4 l 0 false
  by_cases hB : ∃ a, Bad l t a
  · refine .inl ⟨hB, ?_⟩
    unfold judge
    rw [jl1_eq, if_pos (hbad.2 hB)]
  · have hj : judge l t = ((least1 t.f2 t.f4 l 0 false).1, 0) := by
      unfold judge
      rw [jl1_eq, if_neg (fun h => hB (hbad.1 h))]
    refine .inr ⟨hB, by rw [hj], ?_⟩
    rw [hj]
    rcases a4 with ⟨e, _⟩ | ⟨r, hr, hc, e⟩ | ⟨_, e⟩
    · cases e
    · exact .inr ⟨by have := h1 r hr; simp only; omega, a3, r, hr, hc, e⟩
    · refine .inl ⟨by rw [e], fun r hr => ?_⟩
      cases hc : cand t.f2 t.f4 r with
      | false => rfl
      | true => have := a1.2 (.inr ⟨r, hr, hc⟩); rw [e] at this; cases this
end Go.Proofs.Ytjefihcbhdennaa.Pure
namespace Go.Proofs.Ytjefihcbhdennaa.Pure
open Go.RowKit Go.Proofs.YtjefihcbhdennaaW.PrintWords Go.Proofs.YtjefihcbhdennaaW.PrintMore Go.Proofs.Ytjefihcbhdennaa.S
theorem few1_ev (t : S26) (ht : W26 t) : Ev (fun k => conductorlaw10_few.f k [(⟨t.f0, t.f1, t.f2, t.f3, t.f4, t.f5⟩ : S26)]) (fewB [t]) :=
  few_ev [t] (by simp) (fun r hr => by rw [List.mem_singleton] at hr; subst hr; exact ⟨ht.2.2.2.2.1.1, ht.2.2.2.2.2.1⟩)
theorem few_wf (l : List S26) (hl : l.length ≤ 9223372036854775807) (hw : ∀ x ∈ l, W26 x) : Ev (fun k => conductorlaw10_few.f k l) (fewB l) :=
  few_ev l hl (fun r hr => ⟨(hw r hr).2.2.2.2.1.1, (hw r hr).2.2.2.2.2.1⟩)
theorem fewB_spec {l : List S26} (h : fewB l = true) : l.length ≤ 20 ∧ ∀ r ∈ l, r.f4.length ≤ 40 ∧ r.f5.length ≤ 40 := by
  simp only [fewB, FewB, Bool.and_eq_true, decide_eq_true_eq, List.all_eq_true] at h
  exact ⟨by omega, fun r hr => by have := h.2 r hr; omega⟩
end Go.Proofs.Ytjefihcbhdennaa.Pure
namespace Go.Proofs.Ytjefihcbhdennaa.S
open Go.RowKit Go.Proofs.YtjefihcbhdennaaW.PrintWords Go.Proofs.YtjefihcbhdennaaW.PrintLast Go.Proofs.YtjefihcbhdennaaW.PrintMore
attribute [local go_sem] max2_int min2_int max2_str min2_str str_leq str_gtr str_geq max_two min_two max_three min_three max_four min_four   -- for this text's walks alone
set_option linter.unusedVariables false
set_option linter.unusedSimpArgs false
def conductorref10_least.f (a0 : Int) (a1 : Int) : Option (Int) := if a0 = 0 then (some (mx a0 a1)) else (if a1 = 0 then (some (mx a0 a1)) else (some (mn a0 a1)))
end Go.Proofs.Ytjefihcbhdennaa.S
namespace Go.Proofs.Ytjefihcbhdennaa.S
open Go.RowKit Go.Proofs.YtjefihcbhdennaaW.PrintWords Go.Proofs.YtjefihcbhdennaaW.PrintLast Go.Proofs.YtjefihcbhdennaaW.PrintMore
attribute [local go_sem] max2_int min2_int max2_str min2_str str_leq str_gtr str_geq max_two min_two max_three min_three max_four min_four   -- for this text's walks alone
set_option linter.unusedVariables false
set_option linter.unusedSimpArgs false
def conductorref10_Join.f (k : Nat) (a0_0 : Int) (a0_1 : Int) (a0_2 : Int) (a0_3 : Int) (l0_4 : List (S41)) (l0_5 : List (S41)) (a1_0 : Int) (a1_1 : Int) (a1_2 : Int) (a1_3 : Int) (l1_4 : List (S41)) (l1_5 : List (S41)) (a2 : Int) : Option (Int × Int × Int × Int × (List (S41)) × (List (S41))) := (conductorref10_least.f a0_3 a1_3).bind fun t669 => ((conductorref09_Join.f k l0_4 l1_4).bind fun t670 => ((conductorref09_Fit.f k t670 a2).bind fun t673 => ((conductorref09_Join.f k l0_5 l1_5).bind fun t676 => ((conductorref09_Fit.f k t676 a2).bind fun t679 => (some (mn a0_0 a1_0, mx a0_1 a1_1, mx a0_2 a1_2, t669, t673, t679))))))
end Go.Proofs.Ytjefihcbhdennaa.S
namespace Go.Proofs.Ytjefihcbhdennaa.S
open Go.RowKit Go.Proofs.YtjefihcbhdennaaW.PrintWords Go.Proofs.YtjefihcbhdennaaW.PrintLast Go.Proofs.YtjefihcbhdennaaW.PrintMore
attribute [local go_sem] max2_int min2_int max2_str min2_str str_leq str_gtr str_geq max_two min_two max_three min_three max_four min_four   -- for this text's walks alone
set_option linter.unusedVariables false
set_option linter.unusedSimpArgs false
def conductorref10_Fit.l0 : Nat → Int → Int → List (S26) → Option ((List (S26)))
 | 0, _, _, _ => none
 | k + 1, x1, x2, x7 => if (x7.length : Int) > (mx x1 1) then (if 0 < (x7.length : Int) then (if 1 < (x7.length : Int) then ((conductorref10_Join.f k ((rd_T26 x7 0).f0) ((rd_T26 x7 0).f1) ((rd_T26 x7 0).f2) ((rd_T26 x7 0).f3) ((rd_T26 x7 0).f4) ((rd_T26 x7 0).f5) ((rd_T26 x7 1).f0) ((rd_T26 x7 1).f1) ((rd_T26 x7 1).f2) ((rd_T26 x7 1).f3) ((rd_T26 x7 1).f4) ((rd_T26 x7 1).f5) x2).bind fun bt701 => ((some (([(⟨bt701.1, bt701.2.1, bt701.2.2.1, bt701.2.2.2.1, bt701.2.2.2.2.1, bt701.2.2.2.2.2⟩ : S26)] : List (S26)) : List (S26))).bind fun y711 => (if 2 ≤ (x7.length : Int) then ((some (x7.drop 2 : List (S26))).bind fun y714 => (if y711.length + y714.length < 1759218604441 then (conductorref10_Fit.l0 k x1 x2 (y711 ++ y714)) else (none))) else (none)))) else (none)) else (none)) else (some x7)
def conductorref10_Fit.f (k : Nat) (l0 : List (S26)) (a1 : Int) (a2 : Int) : Option ((List (S26))) := (some (([] : List (S26)) : List (S26))).bind fun y693 => (if y693.length + l0.length < 1759218604441 then (conductorref10_Fit.l0 k a1 a2 (y693 ++ l0)) else (none))
end Go.Proofs.Ytjefihcbhdennaa.S
namespace Go.Proofs.Ytjefihcbhdennaa.Pure
open Go.RowKit Go.Proofs.YtjefihcbhdennaaW.PrintWords Go.Proofs.YtjefihcbhdennaaW.PrintMore Go.Proofs.Ytjefihcbhdennaa.S
theorem fitN (l : List S41) (n : Int) (hs : l.length < 1000000) (hn : n ≤ 9223372036854775807) : ∃ j, NP j ∧ (∀ k, mem l k → mem j k) ∧ j.length ≤ l.length ∧ Ev (fun k => span_Fit.f k l n) j ∧ Ev (fun k => conductorref09_Fit.f k l n) j := by
  obtain ⟨j, h1, h2, h3, h4, h5⟩ := fits_ev l n hs hn
  have hq := mx_pos n
  obtain ⟨f1, f2, f3⟩ := fitK_np ((j.length : Int) - mx n 1).toNat j h1 (by omega)
  exact ⟨_, f1, fun k hk => f3 k ((h2 k).2 hk), by omega, h4, h5⟩
theorem jf (a b : List S41) (n : Int) (hs : a.length + b.length < 1000000) (hn : n ≤ 9223372036854775807) : ∃ t j, Ev (fun k => span_Join.f k a b) t ∧ Ev (fun k => conductorref09_Join.f k a b) t ∧ Ev (fun k => span_Fit.f k t n) j ∧ Ev (fun k => conductorref09_Fit.f k t n) j ∧ NP j ∧ (∀ k, mem a k ∨ mem b k → mem j k) ∧ j.length ≤ a.length + b.length := by
  obtain ⟨t, h1, h2, h3, h4, h5⟩ := joins_ev a b hs
  obtain ⟨j, k1, k2, k3, k4, k5⟩ := fitN t n (by omega) hn
  exact ⟨t, j, h1, h2, k4, k5, k1, fun k hk => k2 k ((h4 k).2 hk), by omega⟩
def leastI (a b : Int) : Int := if a = 0 then b else if b = 0 then a else if a < b then a else b
theorem sleast (a b : Int) : ssi_least.f a b = some (leastI a b) := by unfold ssi_least.f leastI; split; rfl; split; rfl; split <;> rfl
theorem rleast (a b : Int) (ha : 0 ≤ a) (hb : 0 ≤ b) : conductorref10_least.f a b = some (leastI a b) := by
  unfold conductorref10_least.f leastI mx mn
  by_cases h1 : a = 0
  · rw [if_pos h1, if_pos h1]; split <;> (congr 1 <;> omega)
  · rw [if_neg h1, if_neg h1]
    by_cases h2 : b = 0
    · rw [if_pos h2, if_pos h2]; split <;> (congr 1 <;> omega)
    · rw [if_neg h2, if_neg h2]; split <;> split <;> (congr 1 <;> omega)
theorem leastI_nn (a b : Int) (ha : 0 ≤ a) (hb : 0 ≤ b) : 0 ≤ leastI a b := by unfold leastI; split; exact hb; split; exact ha; split <;> assumption
/-- j covers a. -/
def cov (a j : S26) : Prop := a.f1 ≤ j.f1 ∧ j.f0 ≤ a.f0 ∧ lastI a ≤ lastI j ∧ (a.f3 ≠ 0 → j.f3 ≠ 0 ∧ j.f3 ≤ a.f3) ∧ (∀ k, mem a.f4 k → mem j.f4 k) ∧ (∀ k, mem a.f5 k → mem j.f5 k)
theorem cov_refl (a : S26) : cov a a := ⟨Int.le_refl _, Int.le_refl _, Int.le_refl _, fun h => ⟨h, Int.le_refl _⟩, fun _ h => h, fun _ h => h⟩
theorem cov_trans {a b c : S26} (h : cov a b) (k : cov b c) : cov a c :=
  ⟨Int.le_trans h.1 k.1, Int.le_trans k.2.1 h.2.1, Int.le_trans h.2.2.1 k.2.2.1, fun e => by
    obtain ⟨h1, h2⟩ := h.2.2.2.1 e
    obtain ⟨k1, k2⟩ := k.2.2.2.1 h1
    exact ⟨k1, Int.le_trans k2 h2⟩, fun q hq => k.2.2.2.2.1 q (h.2.2.2.2.1 q hq), fun q hq => k.2.2.2.2.2 q (h.2.2.2.2.2 q hq)⟩
def Cov (l m : List S26) : Prop := ∀ a ∈ l, ∃ j ∈ m, cov a j
theorem Cov_trans {a b c : List S26} (h : Cov a b) (k : Cov b c) : Cov a c := fun x hx => by
  obtain ⟨y, hy, h1⟩ := h x hx
  obtain ⟨z, hz, h2⟩ := k y hy
  exact ⟨z, hz, cov_trans h1 h2⟩
theorem np_ne {l m : List S41} (hl : NP l) (hn : l ≠ []) (h : ∀ k, mem l k → mem m k) : m ≠ [] := by
  cases l with
  | nil => exact absurd rfl hn
  | cons x t =>
    intro e
    subst e
    exact mem_nil _ (h _ ((mem_cons _ _ _).2 (.inl (has_lo hl.rt))))
theorem lastI_cov (a j : S26) (ha : Rgt a) (h1 : a.f1 ≤ j.f1) (h2 : a.f2 ≤ j.f2) (hm : ∀ k, mem a.f5 k → mem j.f5 k) : lastI a ≤ lastI j := by
  unfold lastI
  obtain ⟨_, _, hb, _, h5⟩ := ha
  by_cases e : a.f5 = []
  · rw [if_pos (by rw [e]; rfl)]
    split <;> omega
  · have hj := np_ne h5 e hm
    have ha' := List.length_pos_iff.2 e
    have hj' := List.length_pos_iff.2 hj
    rw [if_neg (by omega), if_neg (by omega)]
    exact h1
def tot (l : List S26) : Nat := (l.map fun r => r.f4.length + r.f5.length).sum
theorem tot_cons (r : S26) (l : List S26) : tot (r :: l) = r.f4.length + r.f5.length + tot l := by simp [tot]
theorem join10_ev (a b : S26) (n : Int) (h4 : a.f4.length + b.f4.length < 1000000) (h5 : a.f5.length + b.f5.length < 1000000) (hn : n ≤ 9223372036854775807) (ha : 0 ≤ a.f3) (hb : 0 ≤ b.f3) :
    ∃ x : S26, Ev (fun k => ssi_Join.f k a.f0 a.f1 a.f2 a.f3 a.f4 a.f5 b.f0 b.f1 b.f2 b.f3 b.f4 b.f5 n) (x.f0, x.f1, x.f2, x.f3, x.f4, x.f5) ∧ Ev (fun k => conductorref10_Join.f k a.f0 a.f1 a.f2 a.f3 a.f4 a.f5 b.f0 b.f1 b.f2 b.f3 b.f4 b.f5 n) (x.f0, x.f1, x.f2, x.f3, x.f4, x.f5) ∧
      0 ≤ x.f3 ∧ x.f4.length ≤ a.f4.length + b.f4.length ∧ x.f5.length ≤ a.f5.length + b.f5.length ∧ (Rgt a → Rgt b → Rgt x ∧ cov a x ∧ cov b x) := by
  obtain ⟨t4, j4, p1, p2, p3, p4, p5, p6, p7⟩ := jf a.f4 b.f4 n h4 hn
  obtain ⟨t5, j5, q1, q2, q3, q4, q5, q6, q7⟩ := jf a.f5 b.f5 n h5 hn
  have m0 : mn a.f0 b.f0 ≤ a.f0 ∧ mn a.f0 b.f0 ≤ b.f0 ∧ (mn a.f0 b.f0 = a.f0 ∨ mn a.f0 b.f0 = b.f0) := by unfold mn; split <;> omega
  have m1 : a.f1 ≤ mx a.f1 b.f1 ∧ b.f1 ≤ mx a.f1 b.f1 ∧ (mx a.f1 b.f1 = a.f1 ∨ mx a.f1 b.f1 = b.f1) := by unfold mx; split <;> omega
  have m2 : a.f2 ≤ mx a.f2 b.f2 ∧ b.f2 ≤ mx a.f2 b.f2 ∧ (mx a.f2 b.f2 = a.f2 ∨ mx a.f2 b.f2 = b.f2) := by unfold mx; split <;> omega
  have m3 : (a.f3 ≠ 0 → leastI a.f3 b.f3 ≠ 0 ∧ leastI a.f3 b.f3 ≤ a.f3) ∧ (b.f3 ≠ 0 → leastI a.f3 b.f3 ≠ 0 ∧ leastI a.f3 b.f3 ≤ b.f3) := by
    unfold leastI
    by_cases e1 : a.f3 = 0
    · rw [if_pos e1]; exact ⟨fun h => absurd e1 h, fun h => ⟨h, Int.le_refl _⟩⟩
    · rw [if_neg e1]
      by_cases e2 : b.f3 = 0
      · rw [if_pos e2]; exact ⟨fun h => ⟨h, Int.le_refl _⟩, fun h => absurd e2 h⟩
      · rw [if_neg e2]; split <;> exact ⟨fun _ => ⟨by assumption, by omega⟩, fun _ => ⟨by assumption, by omega⟩⟩
  refine ⟨⟨mn a.f0 b.f0, mx a.f1 b.f1, mx a.f2 b.f2, leastI a.f3 b.f3, j4, j5⟩, ?_, ?_, leastI_nn _ _ ha hb, p7, q7, fun ra rb => ?_⟩
  · refine Ev.congr (fun k => by unfold ssi_Join.f; rw [sleast, Option.bind_some]) ?_
    exact Ev.bind p1 (Ev.bind p3 (Ev.bind q1 (Ev.bind q3 (Ev.now _))))
  · refine Ev.congr (fun k => by unfold conductorref10_Join.f; rw [rleast _ _ ha hb, Option.bind_some]) ?_
    exact Ev.bind p2 (Ev.bind p4 (Ev.bind q2 (Ev.bind q4 (Ev.now _))))
  · obtain ⟨a1, a2, a3, a4, a5⟩ := ra
    obtain ⟨b1, b2, b3, b4, b5⟩ := rb
    have rx : Rgt ⟨mn a.f0 b.f0, mx a.f1 b.f1, mx a.f2 b.f2, leastI a.f3 b.f3, j4, j5⟩ := ⟨by show mn a.f0 b.f0 ≥ 1; omega, by show mn a.f0 b.f0 ≤ mx a.f1 b.f1; omega, by show mx a.f2 b.f2 ≤ mx a.f1 b.f1; omega, p5, q5⟩
    refine ⟨rx, ⟨m1.1, m0.1, ?_, m3.1, fun k hk => p6 k (.inl hk), fun k hk => q6 k (.inl hk)⟩, ⟨m1.2.1, m0.2.1, ?_, m3.2, fun k hk => p6 k (.inr hk), fun k hk => q6 k (.inr hk)⟩⟩
    · exact lastI_cov a _ ⟨a1, a2, a3, a4, a5⟩ m1.1 m2.1 (fun k hk => q6 k (.inl hk))
    · exact lastI_cov b _ ⟨b1, b2, b3, b4, b5⟩ m1.2.1 m2.2.1 (fun k hk => q6 k (.inr hk))
theorem fit10_l (n a2 : Int) (ha2 : a2 ≤ 9223372036854775807) : ∀ (K : Nat) (x : List S26), ((x.length : Int) - mx n 1).toNat = K → x.length ≤ 1000 → tot x ≤ 100000 → (∀ r ∈ x, 0 ≤ r.f3) →
    ∃ m, Ev (fun k => ssi_Fit.l1 k (mx n 1) a2 x) m ∧ Ev (fun k => conductorref10_Fit.l0 k n a2 x) m ∧ tot m ≤ tot x ∧ (m.length : Int) = (if (x.length : Int) ≤ mx n 1 then (x.length : Int) else mx n 1) ∧ ((∀ r ∈ x, Rgt r) → (∀ r ∈ m, Rgt r) ∧ Cov x m) := by
  have hp := mx_pos n
  intro K
  induction K with
  | zero =>
    intro x hK hx ht h3
    refine ⟨x, Ev.step (f := fun _ => some x) (fun k => ?_) (Ev.now _), Ev.step (f := fun _ => some x) (fun k => ?_) (Ev.now _), Nat.le_refl _, by rw [if_pos (by omega)], fun h => ⟨h, fun a ha => ⟨a, ha, cov_refl a⟩⟩⟩
    · simp only [ssi_Fit.l1]
      rw [if_neg (by omega)]
      unfold api_Record_71.f
      rw [if_pos (by omega)]
    · simp only [conductorref10_Fit.l0]
      rw [if_neg (by omega)]
  | succ K ih =>
    intro x hK hx ht h3
    match x, hK, hx, ht, h3 with
    | [], hK, _, _, _ => simp at hK; omega
    | [a], hK, _, _, _ => simp at hK; omega
    | a :: b :: t, hK, hx, ht, h3 =>
      simp only [List.length_cons] at hK hx
      rw [tot_cons, tot_cons] at ht
      have e0 : rd_T26 (a :: b :: t) 0 = a := rfl
      have e1 : rd_T26 (a :: b :: t) 1 = b := rfl
      obtain ⟨y, j1, j2, j3, j4, j5, j6⟩ := join10_ev a b a2 (by omega) (by omega) ha2 (h3 a (by simp)) (h3 b (by simp))
      obtain ⟨m, m1, m2, m3, m4, m5⟩ := ih (y :: t) (by rw [List.length_cons]; omega) (by rw [List.length_cons]; omega) (by rw [tot_cons]; omega) (fun r hr => by
        rcases List.mem_cons.1 hr with e | e
        · rw [e]; exact j3
        · exact h3 r (by simp [e]))
      refine ⟨m, ?_, ?_, by rw [tot_cons] at m3; rw [tot_cons, tot_cons]; omega, ?_, fun hr => ?_⟩
      · refine Ev.step (fun k => by simp only [ssi_Fit.l1]; rw [if_pos (by simp only [List.length_cons]; omega), if_pos (by simp only [List.length_cons]; omega), e0, e1]) ?_
        exact Ev.bind (f := fun k bt => ssi_Fit.l1 k (mx n 1) a2 ((⟨bt.1, bt.2.1, bt.2.2.1, bt.2.2.2.1, bt.2.2.2.2.1, bt.2.2.2.2.2⟩ : S26) :: (a :: b :: t).drop 2)) j1 m1
      · refine Ev.step (fun k => by simp only [conductorref10_Fit.l0]; rw [if_pos (by simp only [List.length_cons]; omega), if_pos (by simp only [List.length_cons]; omega), if_pos (by simp only [List.length_cons]; omega), e0, e1]) ?_
        refine Ev.bind j2 (Ev.congr (fun k => ?_) m2)
        simp only [Option.bind_some]
        rw [if_pos (by simp only [List.length_cons]; omega), if_pos (by simp only [List.drop_succ_cons, List.drop_zero, List.length_cons, List.length_nil]; omega)]
        rfl
      · rw [m4]
        simp only [List.length_cons]
        split <;> split <;> omega
      · have ra := hr a (by simp)
        have rb := hr b (by simp)
        obtain ⟨k1, k2, k3⟩ := j6 ra rb
        obtain ⟨r1, r2⟩ := m5 (fun r h => by
          rcases List.mem_cons.1 h with e | e
          · rw [e]; exact k1
          · exact hr r (by simp [e]))
        refine ⟨r1, Cov_trans (fun z hz => ?_) r2⟩
        rcases List.mem_cons.1 hz with e | hz
        · exact ⟨y, by simp, by rw [e]; exact k2⟩
        · rcases List.mem_cons.1 hz with e | hz
          · exact ⟨y, by simp, by rw [e]; exact k3⟩
          · exact ⟨z, by simp [hz], cov_refl z⟩
theorem own10 (r : S26) (h4 : r.f4.length ≤ 40) (h5 : r.f5.length ≤ 40) : ssi_own.f r.f0 r.f1 r.f2 r.f3 r.f4 r.f5 = some (r.f0, r.f1, r.f2, r.f3, r.f4, r.f5) := by
  unfold ssi_own.f api_Span_58.f
  rw [if_pos (by omega), if_pos (by omega)]; rfl
theorem fit10_l0 (n a2 : Int) (l : List S26) (hl : l.length ≤ 20) (hr : ∀ r ∈ l, r.f4.length ≤ 40 ∧ r.f5.length ≤ 40) {m : List S26} (hm : Ev (fun k => ssi_Fit.l1 k n a2 l) m) : ∀ (d i : Nat), i + d = l.length →
    Ev (fun k => ssi_Fit.l0 k n a2 (l.take i) l (i : Int)) m := by
  intro d
  induction d with
  | zero =>
    intro i hd
    rw [List.take_of_length_le (by omega)]
    refine Ev.step (fun k => ?_) hm
    simp only [ssi_Fit.l0]
    rw [if_neg (by omega)]
  | succ d ih =>
    intro i hd
    have hi : i < l.length := by omega
    obtain ⟨h4, h5⟩ := hr l[i] (List.getElem_mem hi)
    have h0 := ih (i + 1) (by omega)
    rw [← w1 hi (by omega), List.take_succ_eq_append_getElem hi] at h0
    refine Ev.step (fun k => ?_) h0
    simp only [ssi_Fit.l0]
    rw [if_pos (by omega), if_pos (by omega), rd26 _ i hi, own10 _ h4 h5, Option.bind_some, if_pos (by rw [List.length_take]; omega)]
theorem tot_le : ∀ (l : List S26), (∀ r ∈ l, r.f4.length ≤ 40 ∧ r.f5.length ≤ 40) → tot l ≤ 80 * l.length
  | [], _ => by simp [tot]
  | r :: l, h => by
    have h1 := tot_le l (fun q hq => h q (List.mem_cons_of_mem _ hq))
    have h2 := h r List.mem_cons_self
    rw [tot_cons, List.length_cons]
    omega
theorem fit10_ev (l : List S26) (n a2 : Int) (ha2 : a2 ≤ 9223372036854775807) (hf : fewB l = true) (h3 : ∀ r ∈ l, 0 ≤ r.f3) :
    ∃ m, Ev (fun k => ssi_Fit.f k l n a2) m ∧ Ev (fun k => conductorref10_Fit.f k l n a2) m ∧ tot m ≤ tot l ∧ (m.length : Int) = (if (l.length : Int) ≤ mx n 1 then (l.length : Int) else mx n 1) ∧ ((∀ r ∈ l, Rgt r) → (∀ r ∈ m, Rgt r) ∧ Cov l m) := by
  obtain ⟨hl, hr⟩ := fewB_spec hf
  have ht := tot_le l hr
  obtain ⟨m, m1, m2, m3, m4, m5⟩ := fit10_l n a2 ha2 _ l rfl (by omega) (by omega) h3
  refine ⟨m, ?_, ?_, m3, m4, m5⟩
  · have h0 := fit10_l0 (mx n 1) a2 l hl hr m1 l.length 0 (by omega)
    rw [List.take_zero] at h0
    refine Ev.congr (fun k => ?_) h0
    unfold ssi_Fit.f
    rw [if_pos (by omega)]; rfl
  · refine Ev.congr (fun k => ?_) m2
    unfold conductorref10_Fit.f
    rw [Option.bind_some, List.nil_append, if_pos (by rw [List.length_nil]; omega)]
end Go.Proofs.Ytjefihcbhdennaa.Pure
namespace Go.Proofs.Ytjefihcbhdennaa.Pure
open Go.RowKit Go.Proofs.YtjefihcbhdennaaW.PrintWords Go.Proofs.YtjefihcbhdennaaW.PrintMore Go.Proofs.Ytjefihcbhdennaa.S
theorem meets_key (x y : S41) : meetsB x y = true ↔ ∃ k, has x k ∧ has y k := by
  rw [meetsB_iff]
  unfold has
  constructor
  · rintro ⟨h1, h2, h3, h4⟩
    rcases lt_tri x.f0.toList y.f0.toList with e | e | e
    · exact ⟨y.f0.toList, ⟨lt_not e, h3⟩, lti _, h2⟩
    · exact ⟨x.f0.toList, ⟨lti _, h1⟩, by rw [e]; exact lti _, h4⟩
    · exact ⟨x.f0.toList, ⟨lti _, h1⟩, lt_not e, h4⟩
  · rintro ⟨k, ⟨a1, a2⟩, b1, b2⟩
    have n1 := nil_lt k
    grind
theorem meetL_key (a b : List S41) : meetL a b = true ↔ ∃ k, mem a k ∧ mem b k := by
  unfold meetL mem
  simp only [List.any_eq_true, meets_key]
  constructor
  · rintro ⟨x, hx, y, hy, k, h1, h2⟩; exact ⟨k, ⟨x, hx, h1⟩, y, hy, h2⟩
  · rintro ⟨k, ⟨x, hx, h1⟩, y, hy, h2⟩; exact ⟨x, hx, y, hy, k, h1, h2⟩
theorem judge_cov (l m : List S26) (t : S26) (hl : ∀ r ∈ l, r.f0 ≥ 1) (hm : ∀ r ∈ m, r.f0 ≥ 1) (hc : Cov l m) (he : (judge m t).2 = 0) :
    (judge l t).2 = 0 ∧ ((judge l t).1 = 0 ∨ ((judge m t).1 ≠ 0 ∧ (judge m t).1 ≤ (judge l t).1)) := by
  have hcand : ∀ a j, cov a j → cand t.f2 t.f4 a = true → cand t.f2 t.f4 j = true := fun a j hj h => by
    unfold cand at h ⊢
    rw [Bool.and_eq_true, decide_eq_true_eq, meetL_key] at h ⊢
    obtain ⟨h1, k, h2, h3⟩ := h
    exact ⟨Int.lt_of_lt_of_le h1 hj.1, k, h2, hj.2.2.2.2.2 k h3⟩
  have hback : ∀ a j, cov a j → back t a = true → back t j = true := fun a j hj h => by
    unfold back at h ⊢
    rw [Bool.and_eq_true, decide_eq_true_eq, meetL_key] at h ⊢
    obtain ⟨h1, k, h2, h3⟩ := h
    exact ⟨Int.lt_of_lt_of_le h1 hj.1, k, hj.2.2.2.2.1 k h2, h3⟩
  have hB : (∃ a, Bad l t a) → ∃ a, Bad m t a := fun ⟨a, ha, hca, h⟩ => by
    obtain ⟨j, hj, cj⟩ := hc a ha
    refine ⟨j, hj, hcand a j cj hca, ?_⟩
    rcases h with ⟨e1, e2⟩ | ⟨b, hb, hbb, hle⟩
    · obtain ⟨k1, k2⟩ := cj.2.2.2.1 e1
      exact .inl ⟨k1, e2.imp id (fun e => Int.le_trans k2 e)⟩
    · obtain ⟨i, hi, ci⟩ := hc b hb
      exact .inr ⟨i, hi, hback b i ci hbb, Int.le_trans cj.2.1 (Int.le_trans hle ci.2.2.1)⟩
  rcases judge_spec m t hm with ⟨_, e⟩ | ⟨hn, e0, e1⟩
  · rw [e] at he; cases he
  · rcases judge_spec l t hl with ⟨k, _⟩ | ⟨_, k0, k1⟩
    · exact absurd (hB k) hn
    · refine ⟨k0, ?_⟩
      rcases k1 with ⟨k1, _⟩ | ⟨_, _, r, hr, hcr, k1⟩
      · exact .inl k1
      · right
        obtain ⟨j, hj, cj⟩ := hc r hr
        have hcj := hcand r j cj hcr
        rcases e1 with ⟨_, e1⟩ | ⟨e1, e2, _⟩
        · have := e1 j hj; rw [hcj] at this; cases this
        · exact ⟨e1, by rw [k1]; exact Int.le_trans (e2 j hj hcj) cj.2.1⟩
theorem sright_ev (r : S26) (h : Rgt r) (h4 : r.f4.length ≤ 9223372036854775807) (h5 : r.f5.length ≤ 9223372036854775807) : Ev (fun k => ssi_Right.f k r.f0 r.f1 r.f2 r.f3 r.f4 r.f5) true := by
  obtain ⟨g0, g1, g2, g3, g4⟩ := h
  refine Ev.congr (fun k => by unfold ssi_Right.f; rw [if_neg (by omega), if_neg (by omega), if_neg (by omega)]) ?_
  exact Ev.bind (normal_np _ h4 g3) (Ev.congr (fun k => by rw [if_pos rfl]) (Ev.bind (normal_np _ h5 g4) (Ev.now true)))
theorem tot_mem : ∀ (l : List S26) (r : S26), r ∈ l → r.f4.length + r.f5.length ≤ tot l
  | [], r, h => by cases h
  | a :: l, r, h => by
    rw [tot_cons]
    rcases List.mem_cons.1 h with e | e
    · rw [e]; omega
    · have := tot_mem l r e; omega
theorem SsiNeverLess (l : List S26) (hl : l.length ≤ 9223372036854775807) (wl : ∀ x ∈ l, W26 x) (t : S26) (wt : W26 t) (h4 : t.f4.length ≤ 9223372036854775807) (h5 : t.f5.length ≤ 9223372036854775807) (n : Int) (hn : (Lit.int .i64 n).wf = true) (a2 : Int) (ha2 : (Lit.int .i64 a2).wf = true) :
    ∃ k, conductorlaw10_SsiNeverLess.f k l t.f0 t.f1 t.f2 t.f3 t.f4 t.f5 n a2 = some true := by
  refine Ev.rounds (g := fun k => conductorlaw10_SsiNeverLess.f k l t.f0 t.f1 t.f2 t.f3 t.f4 t.f5 n a2) ?_
  have hlive : Ev (fun k => conductorlaw10_SsiNeverLess.j0 k l n a2 true t.f0 t.f1 t.f2 t.f3 t.f4 t.f5) true :=
    Ev.step (fun k => by simp only [conductorlaw10_SsiNeverLess.j0, if_true]) (Ev.bind live10_ev (Ev.now true))
  unfold conductorlaw10_SsiNeverLess.f
  refine Ev.bind live10_ev (Ev.congr (fun k => by rw [if_pos rfl]) (Ev.bind (few_wf l hl wl) ?_))
  cases hf : fewB l with
  | false => exact Ev.congr (fun k => by rw [if_neg (by decide)]) hlive
  | true =>
    refine Ev.congr (fun k => by rw [if_pos rfl]) (Ev.bind (few1_ev t wt) ?_)
    cases fewB [t] with
    | false => exact Ev.congr (fun k => by rw [if_neg (by decide)]) hlive
    | true =>
      obtain ⟨c, c1, c2⟩ := rights_ev l hl (fun r hr => ⟨(wl r hr).2.2.2.2.1.1, (wl r hr).2.2.2.2.2.1⟩)
      refine Ev.congr (fun k => by rw [if_pos rfl]) (Ev.bind c1 ?_)
      cases c with
      | false => exact hlive
      | true =>
        have hr := c2.1 rfl
        obtain ⟨hl20, hl40⟩ := fewB_spec hf
        obtain ⟨m, m1, _, m3, m4, m5⟩ := fit10_ev l n a2 (wf_i64 ha2).2 hf (fun r hr => (wf_u64 (wl r hr).2.2.2.1).1)
        obtain ⟨r1, r2⟩ := m5 hr
        have hp := mx_pos n
        have ht := tot_le l hl40
        have hml : m.length ≤ 20 := by split at m4 <;> omega
        refine Ev.step (fun k => by simp only [conductorlaw10_SsiNeverLess.j0, Bool.not_true, if_false, Bool.false_eq_true]; rfl) (Ev.bind m1 ?_)
        have go : ∀ d i : Nat, i + d = m.length → Ev (fun k => conductorlaw10_SsiNeverLess.l0 k l n m m (m.length : Int) (i : Int) t.f0 t.f1 t.f2 t.f3 t.f4 t.f5) true := by
          intro d
          induction d with
          | zero =>
            intro i hd
            have hj := judge_cov l m t (fun r h => (hr r h).1) (fun r h => (r1 r h).1) r2
            have j1 := judge_ev m (by omega) t
            have j2 := judge_ev l hl t
            refine Ev.step (fun k => by simp only [conductorlaw10_SsiNeverLess.l0]; rw [if_neg (by omega)]) (Ev.bind j1 (Ev.bind j2 ?_))
            refine Ev.congr (f := fun _ => some true) (fun k => ?_) (Ev.now _)
            by_cases e : (judge m t).2 = 0
            · obtain ⟨g1, g2⟩ := hj e
              have hlen : (if (l.length : Int) ≤ mx n 1 then some true else some ((m.length : Int) == mx n 1)) = some true := by
                by_cases q : (l.length : Int) ≤ mx n 1
                · rw [if_pos q]
                · rw [if_neg q] at m4; rw [if_neg q, m4]; simp
              rw [if_pos e, if_pos g1]
              rcases g2 with k | ⟨k1, k2⟩
              · rw [if_pos k]; exact hlen
              · by_cases k : (judge l t).1 = 0
                · rw [if_pos k]; exact hlen
                · rw [if_neg k, if_neg k1, if_pos k2]; exact hlen
            · rw [if_neg e]
          | succ d ih =>
            intro i hd
            have hi : i < m.length := by omega
            have hmi := r1 m[i] (List.getElem_mem hi)
            have hti := tot_mem m m[i] (List.getElem_mem hi)
            have h0 := ih (i + 1) (by omega)
            rw [← w1 hi (by omega)] at h0
            refine Ev.step (fun k => by simp only [conductorlaw10_SsiNeverLess.l0]; rw [if_pos (by omega), if_pos (by omega), if_pos (by omega), rd26 _ i hi]) (Ev.bind (sright_ev m[i] hmi (by omega) (by omega)) ?_)
            exact Ev.congr (fun k => by rw [if_pos rfl]) h0
        exact go m.length 0 (by omega)
end Go.Proofs.Ytjefihcbhdennaa.Pure
