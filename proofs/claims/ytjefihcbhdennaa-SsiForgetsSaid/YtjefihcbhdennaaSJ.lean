/- What Judge answers. -/
import Derived.Test.YtjefihcbhdennaaSP
import Derived.Test.YtjefihcbhdennaaS0
import Derived.Test.YtjefihcbhdennaaS5
import Derived.Test.YtjefihcbhdennaaS31
import Derived.Test.YtjefihcbhdennaaS32
namespace Go.Proofs.Ytjefihcbhdennaa.Pure
open Go.RowKit Go.Proofs.YtjefihcbhdennaaW.PrintWords Go.Proofs.YtjefihcbhdennaaW.PrintMore Go.Proofs.Ytjefihcbhdennaa.S
def lastI (r : S26) : Int := if (r.f5.length : Int) = 0 then r.f2 else r.f1
def jl0 (t2 : Int) (tw : List S41) : List S26 → Int → Bool → Int × Bool
  | [], m, b => (m, b)
  | r :: l, m, b => if (decide (t2 < r.f1) && meetL r.f4 tw) = true then jl0 t2 tw l (mx m (lastI r)) true else jl0 t2 tw l m b
def badB (t2 : Int) (tw : List S41) (x7 : Int) (x8 : Bool) (r : S26) : Bool := (!(r.f3 == 0) && (decide ((tw.length : Int) > 0) || decide (r.f3 ≤ t2))) || (x8 && decide (r.f0 ≤ x7))
def jl1 (t2 : Int) (tr tw : List S41) (x7 : Int) (x8 : Bool) : List S26 → Int → Bool → Int × Int
  | [], o, _ => (o, 0)
  | r :: l, o, b => if (decide (t2 < r.f1) && meetL tr r.f5) = true then (if badB t2 tw x7 x8 r = true then (0, 101) else if (!b || decide (r.f0 < o)) = true then jl1 t2 tr tw x7 x8 l r.f0 true else jl1 t2 tr tw x7 x8 l o b) else jl1 t2 tr tw x7 x8 l o b
def judge (l : List S26) (t : S26) : Int × Int := jl1 t.f2 t.f4 t.f5 (jl0 t.f2 t.f5 l 0 false).1 (jl0 t.f2 t.f5 l 0 false).2 l 0 false
section
variable (x7 : Int) (x8 : Bool) (o : Int) (b : Bool) (l : List S26) (n i a0 a1 t2 a3 : Int) (tr tw : List S41) (r : S26) (R1 R2 : Int × Int)
theorem j5_ev (h1 : Ev (fun k => ssi_Judge.l1 k x7 x8 r.f0 true false l n (wrap64 (i + 1)) a0 a1 t2 a3 tr tw) R1) (h2 : Ev (fun k => ssi_Judge.l1 k x7 x8 o b false l n (wrap64 (i + 1)) a0 a1 t2 a3 tr tw) R2) (c : Bool) :
    Ev (fun k => ssi_Judge.j5 k x7 x8 o b false l n i c a0 a1 t2 a3 tr tw r.f0 r.f1 r.f2 r.f3 r.f4 r.f5) (if c = true then (0, 101) else if (!b || decide (r.f0 < o)) = true then R1 else R2) := by
  cases c with
  | true => exact Ev.step (f := fun _ => some (0, 101)) (fun k => by simp only [ssi_Judge.j5, if_true]) (Ev.now _)
  | false =>
    cases b with
    | false => exact Ev.step (fun k => by simp only [ssi_Judge.j5, if_false, Bool.false_eq_true]; rfl) (by simpa using h1)
    | true =>
      by_cases h : r.f0 < o
      · exact Ev.step (fun k => by simp only [ssi_Judge.j5, if_false, Bool.false_eq_true, if_true, h]; rfl) (by simpa [h] using h1)
      · exact Ev.step (fun k => by simp only [ssi_Judge.j5, if_false, Bool.false_eq_true, if_true, h]; rfl) (by simpa [h] using h2)
theorem j4_ev (h1 : Ev (fun k => ssi_Judge.l1 k x7 x8 r.f0 true false l n (wrap64 (i + 1)) a0 a1 t2 a3 tr tw) R1) (h2 : Ev (fun k => ssi_Judge.l1 k x7 x8 o b false l n (wrap64 (i + 1)) a0 a1 t2 a3 tr tw) R2) (c : Bool) :
    Ev (fun k => ssi_Judge.j4 k x7 x8 o b false l n i c a0 a1 t2 a3 tr tw r.f0 r.f1 r.f2 r.f3 r.f4 r.f5) (if (c || (x8 && decide (r.f0 ≤ x7))) = true then (0, 101) else if (!b || decide (r.f0 < o)) = true then R1 else R2) := by
  cases c with
  | true => exact Ev.step (f := fun _ => some (0, 101)) (fun k => by simp only [ssi_Judge.j4, if_true]) (by simpa using Ev.now _)
  | false =>
    cases x8 with
    | false =>
      have h := j5_ev x7 false o b l n i a0 a1 t2 a3 tr tw r R1 R2 h1 h2 false
      exact Ev.step (fun k => by simp only [ssi_Judge.j4, if_false, Bool.false_eq_true]; rfl) (by simpa using h)
    | true =>
      have h := j5_ev x7 true o b l n i a0 a1 t2 a3 tr tw r R1 R2 h1 h2 (decide (r.f0 ≤ x7))
      exact Ev.step (fun k => by simp only [ssi_Judge.j4, if_false, Bool.false_eq_true, if_true]; rfl) (by simpa using h)
theorem j3_ev (h1 : Ev (fun k => ssi_Judge.l1 k x7 x8 r.f0 true false l n (wrap64 (i + 1)) a0 a1 t2 a3 tr tw) R1) (h2 : Ev (fun k => ssi_Judge.l1 k x7 x8 o b false l n (wrap64 (i + 1)) a0 a1 t2 a3 tr tw) R2) (c : Bool) :
    Ev (fun k => ssi_Judge.j3 k x7 x8 o b false l n i c a0 a1 t2 a3 tr tw r.f0 r.f1 r.f2 r.f3 r.f4 r.f5) (if (c || (!(r.f3 == 0) && decide (r.f3 ≤ t2)) || (x8 && decide (r.f0 ≤ x7))) = true then (0, 101) else if (!b || decide (r.f0 < o)) = true then R1 else R2) := by
  cases c with
  | true => exact Ev.step (f := fun _ => some (0, 101)) (fun k => by simp only [ssi_Judge.j3, if_true]) (by simpa using Ev.now _)
  | false =>
    by_cases h0 : r.f3 = 0
    · have h := j4_ev x7 x8 o b l n i a0 a1 t2 a3 tr tw r R1 R2 h1 h2 false
      exact Ev.step (fun k => by simp only [ssi_Judge.j3, if_false, Bool.false_eq_true]; rw [if_pos h0]) (by simpa [h0] using h)
    · have h := j4_ev x7 x8 o b l n i a0 a1 t2 a3 tr tw r R1 R2 h1 h2 (decide (r.f3 ≤ t2))
      exact Ev.step (fun k => by simp only [ssi_Judge.j3, if_false, Bool.false_eq_true]; rw [if_neg h0]) (by simpa [h0] using h)
theorem j2_ev (h1 : Ev (fun k => ssi_Judge.l1 k x7 x8 r.f0 true false l n (wrap64 (i + 1)) a0 a1 t2 a3 tr tw) R1) (h2 : Ev (fun k => ssi_Judge.l1 k x7 x8 o b false l n (wrap64 (i + 1)) a0 a1 t2 a3 tr tw) R2) :
    Ev (fun k => ssi_Judge.j2 k x7 x8 o b false l n i false a0 a1 t2 a3 tr tw r.f0 r.f1 r.f2 r.f3 r.f4 r.f5) (if badB t2 tw x7 x8 r = true then (0, 101) else if (!b || decide (r.f0 < o)) = true then R1 else R2) := by
  have e : badB t2 tw x7 x8 r = ((!(r.f3 == 0) && decide ((tw.length : Int) > 0)) || (!(r.f3 == 0) && decide (r.f3 ≤ t2)) || (x8 && decide (r.f0 ≤ x7))) := by
    unfold badB; cases (r.f3 == 0) <;> simp
  rw [e]
  by_cases h0 : r.f3 = 0
  · have h := j3_ev x7 x8 o b l n i a0 a1 t2 a3 tr tw r R1 R2 h1 h2 false
    exact Ev.step (fun k => by simp only [ssi_Judge.j2, if_false, Bool.false_eq_true]; rw [if_pos h0]) (by simpa [h0] using h)
  · have h := j3_ev x7 x8 o b l n i a0 a1 t2 a3 tr tw r R1 R2 h1 h2 (decide ((tw.length : Int) > 0))
    exact Ev.step (fun k => by simp only [ssi_Judge.j2, if_false, Bool.false_eq_true]; rw [if_neg h0]) (by simpa [h0] using h)
end
theorem l1_ev (l : List S26) (hl : l.length ≤ 9223372036854775807) (x7 : Int) (x8 : Bool) (a0 a1 t2 a3 : Int) (tr tw : List S41) : ∀ (d i : Nat) (o : Int) (b : Bool), i + d = l.length →
    Ev (fun k => ssi_Judge.l1 k x7 x8 o b false l (l.length : Int) (i : Int) a0 a1 t2 a3 tr tw) (jl1 t2 tr tw x7 x8 (l.drop i) o b) := by
  intro d
  induction d with
  | zero =>
    intro i o b hd
    refine Ev.step (f := fun _ => some (o, 0)) (fun k => ?_) ?_
    · simp only [ssi_Judge.l1]
      rw [if_neg (by omega)]; rfl
    · rw [List.drop_eq_nil_of_le (by omega)]; exact Ev.now _
  | succ d ih =>
    intro i o b hd
    have hi : i < l.length := by omega
    have h1 := ih (i + 1) l[i].f0 true (by omega)
    have h2 := ih (i + 1) o b (by omega)
    rw [← w1 hi hl] at h1 h2
    rw [List.drop_eq_getElem_cons hi, jl1]
    have h := j2_ev x7 x8 o b l (l.length : Int) (i : Int) a0 a1 t2 a3 tr tw l[i] _ _ h1 h2
    by_cases hn : t2 < l[i].f1
    · cases hm : meetL tr l[i].f5 with
      | true =>
        refine Ev.step (fun k => ?_) (by simpa only [hn, decide_true, Bool.and_true, if_true] using h)
        simp only [ssi_Judge.l1]
        rw [if_pos (by omega), if_pos (by omega), if_pos (by omega), rd26 _ i hi]
        simp only [ssi_Judge_1.f, meet_f, hm, hn, decide_true, Option.bind_some, if_true, Bool.not_true]
      | false =>
        refine Ev.step (f := fun k => ssi_Judge.j2 k x7 x8 o b false l (l.length : Int) (i : Int) true a0 a1 t2 a3 tr tw l[i].f0 l[i].f1 l[i].f2 l[i].f3 l[i].f4 l[i].f5) (fun k => ?_) (Ev.step (f := fun k => ssi_Judge.l1 k x7 x8 o b false l (l.length : Int) (wrap64 (i + 1)) a0 a1 t2 a3 tr tw) (fun k => by simp only [ssi_Judge.j2, if_true]) (by simpa using h2))
        simp only [ssi_Judge.l1]
        rw [if_pos (by omega), if_pos (by omega), if_pos (by omega), rd26 _ i hi]
        simp only [ssi_Judge_1.f, meet_f, hm, hn, decide_true, Option.bind_some, if_true, Bool.not_false]
    · refine Ev.step (f := fun k => ssi_Judge.j2 k x7 x8 o b false l (l.length : Int) (i : Int) true a0 a1 t2 a3 tr tw l[i].f0 l[i].f1 l[i].f2 l[i].f3 l[i].f4 l[i].f5) (fun k => ?_) (Ev.step (f := fun k => ssi_Judge.l1 k x7 x8 o b false l (l.length : Int) (wrap64 (i + 1)) a0 a1 t2 a3 tr tw) (fun k => by simp only [ssi_Judge.j2, if_true]) (by simpa [hn] using h2))
      simp only [ssi_Judge.l1]
      rw [if_pos (by omega), if_pos (by omega), if_pos (by omega), rd26 _ i hi]
      simp only [ssi_Judge_1.f, hn, decide_false, Option.bind_some, if_false, Bool.false_eq_true]
theorem l0_ev (l : List S26) (hl : l.length ≤ 9223372036854775807) (a0 a1 t2 a3 : Int) (tr tw : List S41) : ∀ (d i : Nat) (m : Int) (b : Bool), i + d = l.length →
    Ev (fun k => ssi_Judge.l0 k l m b l (l.length : Int) (i : Int) a0 a1 t2 a3 tr tw) (jl1 t2 tr tw (jl0 t2 tw (l.drop i) m b).1 (jl0 t2 tw (l.drop i) m b).2 l 0 false) := by
  intro d
  induction d with
  | zero =>
    intro i m b hd
    have h := l1_ev l hl m b a0 a1 t2 a3 tr tw l.length 0 0 false (by omega)
    rw [List.drop_eq_nil_of_le (by omega)]
    refine Ev.step (fun k => ?_) h
    simp only [ssi_Judge.l0]
    rw [if_neg (by omega)]; rfl
  | succ d ih =>
    intro i m b hd
    have hi : i < l.length := by omega
    rw [List.drop_eq_getElem_cons hi, jl0]
    have h1 := ih (i + 1) (mx m (lastI l[i])) true (by omega)
    have h2 := ih (i + 1) m b (by omega)
    by_cases hn : t2 < l[i].f1
    · cases hm : meetL l[i].f4 tw with
      | true =>
        simp only [hn, decide_true, Bool.and_true, if_true]
        refine Ev.step (fun k => ?_) h1
        simp only [ssi_Judge.l0]
        rw [if_pos (by omega), if_pos (by omega), if_pos (by omega), rd26 _ i hi]
        simp only [ssi_Judge_1.f, meet_f, hm, hn, decide_true, Option.bind_some, if_true, w1 hi hl]
        by_cases h5 : (l[i].f5.length : Int) = 0 <;> simp only [ssi_last.f, lastI, h5, if_true, if_false, Option.bind_some] <;> rfl
      | false =>
        simp only [hn, decide_true, Bool.and_false, if_false, Bool.false_eq_true]
        refine Ev.step (fun k => ?_) h2
        simp only [ssi_Judge.l0]
        rw [if_pos (by omega), if_pos (by omega), if_pos (by omega), rd26 _ i hi]
        simp only [ssi_Judge_1.f, meet_f, hm, hn, decide_true, Option.bind_some, if_true, w1 hi hl, if_false, Bool.false_eq_true]
    · simp only [hn, decide_false, Bool.false_and, if_false, Bool.false_eq_true]
      refine Ev.step (fun k => ?_) h2
      simp only [ssi_Judge.l0]
      rw [if_pos (by omega), if_pos (by omega), if_pos (by omega), rd26 _ i hi]
      simp only [ssi_Judge_1.f, hn, decide_false, Option.bind_some, w1 hi hl, if_false, Bool.false_eq_true]
theorem judge_ev (l : List S26) (hl : l.length ≤ 9223372036854775807) (t : S26) : Ev (fun k => ssi_Judge.f k l t.f0 t.f1 t.f2 t.f3 t.f4 t.f5) (judge l t) :=
  l0_ev l hl t.f0 t.f1 t.f2 t.f3 t.f4 t.f5 l.length 0 0 false (by omega)
end Go.Proofs.Ytjefihcbhdennaa.Pure
