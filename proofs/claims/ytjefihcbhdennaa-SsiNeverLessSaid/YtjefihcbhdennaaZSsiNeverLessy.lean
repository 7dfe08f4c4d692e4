/- Texts of this session, merged for the law SsiNeverLess: SJ, SS, SR, SY, SZ, SV, ST, SG, S20, SH, S21, S22. No condition. -/
import Derived.Test.YtjefihcbhdennaaZSsiNeverLessx
import Derived.Test.YtjefihcbhdennaaZSsiNeverLesso
import Derived.Test.YtjefihcbhdennaaZSsiNeverLessp
import Derived.Test.YtjefihcbhdennaaZSsiNeverLesst
import Derived.Test.YtjefihcbhdennaaZSsiNeverLessu
import Derived.Test.YtjefihcbhdennaaZSsiNeverLessv
import Derived.Test.YtjefihcbhdennaaZSsiNeverLessd
import Derived.Test.YtjefihcbhdennaaZSsiNeverLessq
namespace Go.Proofs.Ytjefihcbhdennaa.Pure
open Go.RowKit Go.Proofs.YtjefihcbhdennaaW.PrintWords Go.Proofs.YtjefihcbhdennaaW.PrintMore Go.Proofs.Ytjefihcbhdennaa.S
def lastI (r : S26) : Int := if (r.f5.length : Int) = 0 then r.f2 else r.f1
def jl0 (t2 : Int) (tw : List S41) : List S26 → Int → Bool → Int × Bool
  | [], m, b => (m, b)
  | r :: l, m, b => if (decide (t2 < r.f1) && meetL r.f4 tw) = true then jl0 t2 tw l (mx m (lastI r)) true else jl0 t2 tw l m b
def badB (t2 : Int) (tw : List S41) (x7 : Int) (x8 : Bool) (r : S26) : Bool := (!(r.f3 == 0) && (decide ((tw.length : Int) > 0) || decide (r.f3 ≤ t2))) || (x8 && decide (r.f0 ≤ x7))
def jl1 (t2 : Int) (tr tw : List S41) (x7 : Int) (x8 : Bool) : List S26 → Int → Bool → Int × Int
  | [], o, _ => (o, 0)
  | r :: l, o, b => if (decide (t2 < r.f1) && meetL tr r.f5) = true then (if badB t2 tw x7 x8 r = true then (0, 101) else if (!b || decide (r.f0 < o)) = true then jl1 t2 tr tw x7 x8 l r.f0 true else jl1 t2 tr tw x7 x8 l o b) else jl1 t2 tr tw x7 x8 l o b
def judge (l : List S26) (t : S26) : Int × Int := jl1 t.f2 t.f4 t.f5 (jl0 t.f2 t.f5 l 0 false).1 (jl0 t.f2 t.f5 l 0 false).2 l 0 false
section
variable (x7 : Int) (x8 : Bool) (o : Int) (b : Bool) (l : List S26) (n i a0 a1 t2 a3 : Int) (tr tw : List S41) (r : S26) (R1 R2 : Int × Int)
theorem j5_ev (h1 : Ev (fun k => ssi_Judge.l1 k x7 x8 r.f0 true false l n (wrap64 (i + 1)) a0 a1 t2 a3 tr tw) R1) (h2 : Ev (fun k => ssi_Judge.l1 k x7 x8 o b false l n (wrap64 (i + 1)) a0 a1 t2 a3 tr tw) R2) (c : Bool) :
    Ev (fun k => ssi_Judge.j5 k x7 x8 o b false l n i c a0 a1 t2 a3 tr tw r.f0 r.f1 r.f2 r.f3 r.f4 r.f5) (if c = true then (0, 101) else if (!b || decide (r.f0 < o)) = true then R1 else R2) := by
  cases c with
  | true => exact Ev.step (f := fun _ => some (0, 101)) (fun k => by simp only [ssi_Judge.j5, if_true]) (Ev.now _)
  | false =>
    cases b with
    | false => exact Ev.step (fun k => by simp only [ssi_Judge.j5, if_false, Bool.false_eq_true]; rfl) (by simpa using h1)
    | true =>
      by_cases h : r.f0 < o
      · exact Ev.step (fun k => by simp only [ssi_Judge.j5, if_false, Bool.false_eq_true, if_true, h]; rfl) (by simpa [h] using h1)
      · exact Ev.step (fun k => by simp only [ssi_Judge.j5, if_false, Bool.false_eq_true, if_true, h]; rfl) (by simpa [h] using h2)
theorem j4_ev (h1 : Ev (fun k => ssi_Judge.l1 k x7 x8 r.f0 true false l n (wrap64 (i + 1)) a0 a1 t2 a3 tr tw) R1) (h2 : Ev (fun k => ssi_Judge.l1 k x7 x8 o b false l n (wrap64 (i + 1)) a0 a1 t2 a3 tr tw) R2) (c : Bool) :
    Ev (fun k => ssi_Judge.j4 k x7 x8 o b false l n i c a0 a1 t2 a3 tr tw r.f0 r.f1 r.f2 r.f3 r.f4 r.f5) (if (c || (x8 && decide (r.f0 ≤ x7))) = true then (0, 101) else if (!b || decide (r.f0 < o)) = true then R1 else R2) := by
  cases c with
  | true => exact Ev.step (f := fun _ => some (0, 101)) (fun k => by simp only [ssi_Judge.j4, if_true]) (by simpa using Ev.now _)
  | false =>
    cases x8 with
    | false =>
      have h := j5_ev x7 false o b l n i a0 a1 t2 a3 tr tw r R1 R2 h1 h2 false
      exact Ev.step (fun k => by simp only [ssi_Judge.j4, if_false, Bool.false_eq_true]; rfl) (by simpa using h)
    | true =>
      have h := j5_ev x7 true o b l n i a0 a1 t2 a3 tr tw r R1 R2 h1 h2 (decide (r.f0 ≤ x7))
      exact Ev.step (fun k => by simp only [ssi_Judge.j4, if_false, Bool.false_eq_true, if_true]; rfl) (by simpa using h)
theorem j3_ev (h1 : Ev (fun k => ssi_Judge.l1 k x7 x8 r.f0 true false l n (wrap64 (i + 1)) a0 a1 t2 a3 tr tw) R1) (h2 : Ev (fun k => ssi_Judge.l1 k x7 x8 o b false l n (wrap64 (i + 1)) a0 a1 t2 a3 tr tw) R2) (c : Bool) :
    Ev (fun k => ssi_Judge.j3 k x7 x8 o b false l n i c a0 a1 t2 a3 tr tw r.f0 r.f1 r.f2 r.f3 r.f4 r.f5) (if (c || (!(r.f3 == 0) && decide (r.f3 ≤ t2)) || (x8 && decide (r.f0 ≤ x7))) = true then (0, 101) else if (!b || decide (r.f0 < o)) = true then R1 else R2) := by
  cases c with
  | true => exact Ev.step (f := fun _ => some (0, 101)) (fun k => by simp only [ssi_Judge.j3, if_true]) (by simpa using Ev.now _)
  | false =>
    by_cases h0 : r.f3 = 0
    · have h := j4_ev x7 x8 o b l n i a0 a1 t2 a3 tr tw r R1 R2 h1 h2 false
      exact Ev.step (fun k => by simp only [ssi_Judge.j3, if_false, Bool.false_eq_true]; rw [if_pos h0]) (by simpa [h0] using h)
    · have h := j4_ev x7 x8 o b l n i a0 a1 t2 a3 tr tw r R1 R2 h1 h2 (decide (r.f3 ≤ t2))
      exact Ev.step (fun k => by simp only [ssi_Judge.j3, if_false, Bool.false_eq_true]; rw [if_neg h0]) (by simpa [h0] using h)
theorem j2_ev (h1 : Ev (fun k => ssi_Judge.l1 k x7 x8 r.f0 true false l n (wrap64 (i + 1)) a0 a1 t2 a3 tr tw) R1) (h2 : Ev (fun k => ssi_Judge.l1 k x7 x8 o b false l n (wrap64 (i + 1)) a0 a1 t2 a3 tr tw) R2) :
    Ev (fun k => ssi_Judge.j2 k x7 x8 o b false l n i false a0 a1 t2 a3 tr tw r.f0 r.f1 r.f2 r.f3 r.f4 r.f5) (if badB t2 tw x7 x8 r = true then (0, 101) else if (!b || decide (r.f0 < o)) = true then R1 else R2) := by
  have e : badB t2 tw x7 x8 r = ((!(r.f3 == 0) && decide ((tw.length : Int) > 0)) || (!(r.f3 == 0) && decide (r.f3 ≤ t2)) || (x8 && decide (r.f0 ≤ x7))) := by
    unfold badB; cases (r.f3 == 0) <;> simp
  rw [e]
  by_cases h0 : r.f3 = 0
  · have h := j3_ev x7 x8 o b l n i a0 a1 t2 a3 tr tw r R1 R2 h1 h2 false
    exact Ev.step (fun k => by simp only [ssi_Judge.j2, if_false, Bool.false_eq_true]; rw [if_pos h0]) (by simpa [h0] using h)
  · have h := j3_ev x7 x8 o b l n i a0 a1 t2 a3 tr tw r R1 R2 h1 h2 (decide ((tw.length : Int) > 0))
    exact Ev.step (fun k => by simp only [ssi_Judge.j2, if_false, Bool.false_eq_true]; rw [if_neg h0]) (by simpa [h0] using h)
end
theorem jl1_ev (l : List S26) (hl : l.length ≤ 9223372036854775807) (x7 : Int) (x8 : Bool) (a0 a1 t2 a3 : Int) (tr tw : List S41) : ∀ (d i : Nat) (o : Int) (b : Bool), i + d = l.length →
    Ev (fun k => ssi_Judge.l1 k x7 x8 o b false l (l.length : Int) (i : Int) a0 a1 t2 a3 tr tw) (jl1 t2 tr tw x7 x8 (l.drop i) o b) := by
  intro d
  induction d with
  | zero =>
    intro i o b hd
    refine Ev.step (f := fun _ => some (o, 0)) (fun k => ?_) ?_
    · simp only [ssi_Judge.l1]
      rw [if_neg (by omega)]; rfl
    · rw [List.drop_eq_nil_of_le (by omega)]; exact Ev.now _
  | succ d ih =>
    intro i o b hd
    have hi : i < l.length := by omega
    have h1 := ih (i + 1) l[i].f0 true (by omega)
    have h2 := ih (i + 1) o b (by omega)
    rw [← w1 hi hl] at h1 h2
    rw [List.drop_eq_getElem_cons hi, jl1]
    have h := j2_ev x7 x8 o b l (l.length : Int) (i : Int) a0 a1 t2 a3 tr tw l[i] _ _ h1 h2
    by_cases hn : t2 < l[i].f1
    · cases hm : meetL tr l[i].f5 with
      | true =>
        refine Ev.step (fun k => ?_) (by simpa only [hn, decide_true, Bool.and_true, if_true] using h)
        simp only [ssi_Judge.l1]
        rw [if_pos (by omega), if_pos (by omega), if_pos (by omega), rd26 _ i hi]
        simp only [ssi_Judge_1.f, meet_f, hm, hn, decide_true, Option.bind_some, if_true, Bool.not_true]
      | false =>
        refine Ev.step (f := fun k => ssi_Judge.j2 k x7 x8 o b false l (l.length : Int) (i : Int) true a0 a1 t2 a3 tr tw l[i].f0 l[i].f1 l[i].f2 l[i].f3 l[i].f4 l[i].f5) (fun k => ?_) (Ev.step (f := fun k => ssi_Judge.l1 k x7 x8 o b false l (l.length : Int) (wrap64 (i + 1)) a0 a1 t2 a3 tr tw) (fun k => by simp only [ssi_Judge.j2, if_true]) (by simpa using h2))
        simp only [ssi_Judge.l1]
        rw [if_pos (by omega), if_pos (by omega), if_pos (by omega), rd26 _ i hi]
        simp only [ssi_Judge_1.f, meet_f, hm, hn, decide_true, Option.bind_some, if_true, Bool.not_false]
    · refine Ev.step (f := fun k => ssi_Judge.j2 k x7 x8 o b false l (l.length : Int) (i : Int) true a0 a1 t2 a3 tr tw l[i].f0 l[i].f1 l[i].f2 l[i].f3 l[i].f4 l[i].f5) (fun k => ?_) (Ev.step (f := fun k => ssi_Judge.l1 k x7 x8 o b false l (l.length : Int) (wrap64 (i + 1)) a0 a1 t2 a3 tr tw) (fun k => by simp only [ssi_Judge.j2, if_true]) (by simpa [hn] using h2))
      simp only [ssi_Judge.l1]
      rw [if_pos (by omega), if_pos (by omega), if_pos (by omega), rd26 _ i hi]
      simp only [ssi_Judge_1.f, hn, decide_false, Option.bind_some, if_false, Bool.false_eq_true]
theorem jl0_ev (l : List S26) (hl : l.length ≤ 9223372036854775807) (a0 a1 t2 a3 : Int) (tr tw : List S41) : ∀ (d i : Nat) (m : Int) (b : Bool), i + d = l.length →
    Ev (fun k => ssi_Judge.l0 k l m b l (l.length : Int) (i : Int) a0 a1 t2 a3 tr tw) (jl1 t2 tr tw (jl0 t2 tw (l.drop i) m b).1 (jl0 t2 tw (l.drop i) m b).2 l 0 false) := by
  intro d
  induction d with
  | zero =>
    intro i m b hd
    have h := jl1_ev l hl m b a0 a1 t2 a3 tr tw l.length 0 0 false (by omega)
    rw [List.drop_eq_nil_of_le (by omega)]
    refine Ev.step (fun k => ?_) h
    simp only [ssi_Judge.l0]
    rw [if_neg (by omega)]; rfl
  | succ d ih =>
    intro i m b hd
    have hi : i < l.length := by omega
    rw [List.drop_eq_getElem_cons hi, jl0]
    have h1 := ih (i + 1) (mx m (lastI l[i])) true (by omega)
    have h2 := ih (i + 1) m b (by omega)
    by_cases hn : t2 < l[i].f1
    · cases hm : meetL l[i].f4 tw with
      | true =>
        simp only [hn, decide_true, Bool.and_true, if_true]
        refine Ev.step (fun k => ?_) h1
        simp only [ssi_Judge.l0]
        rw [if_pos (by omega), if_pos (by omega), if_pos (by omega), rd26 _ i hi]
        simp only [ssi_Judge_1.f, meet_f, hm, hn, decide_true, Option.bind_some, if_true, w1 hi hl]
        by_cases h5 : (l[i].f5.length : Int) = 0 <;> simp only [ssi_last.f, lastI, h5, if_true, if_false, Option.bind_some] <;> rfl
      | false =>
        simp only [hn, decide_true, Bool.and_false, if_false, Bool.false_eq_true]
        refine Ev.step (fun k => ?_) h2
        simp only [ssi_Judge.l0]
        rw [if_pos (by omega), if_pos (by omega), if_pos (by omega), rd26 _ i hi]
        simp only [ssi_Judge_1.f, meet_f, hm, hn, decide_true, Option.bind_some, if_true, w1 hi hl, if_false, Bool.false_eq_true]
    · simp only [hn, decide_false, Bool.false_and, if_false, Bool.false_eq_true]
      refine Ev.step (fun k => ?_) h2
      simp only [ssi_Judge.l0]
      rw [if_pos (by omega), if_pos (by omega), if_pos (by omega), rd26 _ i hi]
      simp only [ssi_Judge_1.f, hn, decide_false, Option.bind_some, w1 hi hl, if_false, Bool.false_eq_true]
theorem judge_ev (l : List S26) (hl : l.length ≤ 9223372036854775807) (t : S26) : Ev (fun k => ssi_Judge.f k l t.f0 t.f1 t.f2 t.f3 t.f4 t.f5) (judge l t) :=
  jl0_ev l hl t.f0 t.f1 t.f2 t.f3 t.f4 t.f5 l.length 0 0 false (by omega)
end Go.Proofs.Ytjefihcbhdennaa.Pure
namespace Go.Proofs.Ytjefihcbhdennaa.Pure
open Go.RowKit Go.Proofs.YtjefihcbhdennaaW.PrintWords Go.Proofs.Ytjefihcbhdennaa.S
def g (d : List S41) (i : Nat) : S41 := d.getD i z41
theorem rd_g (d : List S41) (i : Nat) : rd_T41 d (i : Int) = g d i := by simp [rd_T41, g]
theorem g_get (d : List S41) (i : Nat) (h : i < d.length) : g d i = d[i] := by simp [g, List.getD_eq_getElem?_getD, h]
def sw (d : List S41) (i j : Nat) : List S41 := (d.set i (g d j)).set j (g d i)
theorem sw_len (d : List S41) (i j : Nat) : (sw d i j).length = d.length := by simp [sw]
theorem g_sw (d : List S41) (i j t : Nat) (hi : i < d.length) (hj : j < d.length) : g (sw d i j) t = if t = j then g d i else if t = i then g d j else g d t := by
  unfold sw g
  simp only [List.getD_eq_getElem?_getD, List.getElem?_set, List.length_set]
  by_cases h1 : t = j
  · subst h1; simp [hj]
  · by_cases h2 : t = i
    · subst h2; simp [Ne.symm h1, hi, h1]
    · simp [Ne.symm h1, Ne.symm h2, h1, h2]
theorem sw_perm (d : List S41) (i j : Nat) (hi : i < d.length) (hj : j < d.length) : (sw d i j).Perm d := by
  unfold sw
  rw [g_get d i hi, g_get d j hj]
  exact List.set_set_perm hi hj
def le (x y : S41) : Prop := ¬ y.f0.toList < x.f0.toList
theorem le_refl (x : S41) : le x x := lti _
theorem le_trans {x y z : S41} (h : le x y) (k : le y z) : le x z := fun hz => by
  rcases lt_tri x.f0.toList y.f0.toList with e | e | e
  · exact k (ltt hz e)
  · unfold le at k; rw [← e] at k; exact k hz
  · exact h e
theorem le_of_lt {x y : S41} (h : x.f0.toList < y.f0.toList) : le x y := fun k => lti _ (ltt h k)
theorem cmpL_lt : ∀ a b : List UInt8, Lib.compareBytes a b < 0 ↔ a < b
  | [], [] => by simp [Lib.compareBytes]
  | [], _ :: _ => by simp [Lib.compareBytes]
  | _ :: _, [] => by simp [Lib.compareBytes]
  | a :: u, b :: v => by
    simp only [Lib.compareBytes, List.cons_lt_cons_iff]
    by_cases h1 : a < b
    · simp [h1]
    · by_cases h2 : b < a
      · have : a ≠ b := fun e => by subst e; exact h1 h2
        simp [h1, h2, this]
      · have : a = b := UInt8.le_antisymm (UInt8.not_lt.1 h2) (UInt8.not_lt.1 h1)
        simp [h1, h2, this, cmpL_lt u v]
theorem cmp_some (x y : S41) : ∃ c : Int, span_Join_2.f x.f0 x.f1 y.f0 y.f1 = some c ∧ (c < 0 ↔ x.f0.toList < y.f0.toList) := by
  refine ⟨Lib.compareBytes x.f0.data.toList y.f0.data.toList, rfl, ?_⟩
  rw [cmpL_lt, Lib.toList_data, Lib.toList_data]
def Keep (d r : List S41) (a b : Nat) : Prop := r.length = d.length ∧ r.Perm d ∧ (∀ t, t < a ∨ b ≤ t → g r t = g d t) ∧ ∀ t, a ≤ t → t < b → ∃ s, a ≤ s ∧ s < b ∧ g r t = g d s
theorem Keep.refl (d : List S41) (a b : Nat) : Keep d d a b := ⟨rfl, List.Perm.refl _, fun _ _ => rfl, fun t h1 h2 => ⟨t, h1, h2, rfl⟩⟩
theorem Keep.wide {d r : List S41} {a b a' b' : Nat} (h : Keep d r a b) (ha : a' ≤ a) (hb : b ≤ b') : Keep d r a' b' :=
  ⟨h.1, h.2.1, fun t ht => h.2.2.1 t (by omega), fun t h1 h2 => by
    by_cases hin : a ≤ t ∧ t < b
    · obtain ⟨s, s1, s2, s3⟩ := h.2.2.2 t hin.1 hin.2
      exact ⟨s, by omega, by omega, s3⟩
    · exact ⟨t, h1, h2, h.2.2.1 t (by omega)⟩⟩
theorem Keep.trans {d r q : List S41} {a b : Nat} (h : Keep d r a b) (k : Keep r q a b) : Keep d q a b :=
  ⟨k.1.trans h.1, k.2.1.trans h.2.1, fun t ht => (k.2.2.1 t ht).trans (h.2.2.1 t ht), fun t h1 h2 => by
    obtain ⟨s, s1, s2, s3⟩ := k.2.2.2 t h1 h2
    obtain ⟨u, u1, u2, u3⟩ := h.2.2.2 s s1 s2
    exact ⟨u, u1, u2, s3.trans u3⟩⟩
theorem Keep.sw {d : List S41} {i j a b : Nat} (hi : i < d.length) (hj : j < d.length) (h1 : a ≤ i) (h2 : i < b) (h3 : a ≤ j) (h4 : j < b) : Keep d (sw d i j) a b :=
  ⟨sw_len d i j, sw_perm d i j hi hj, fun t ht => by rw [g_sw d i j t hi hj, if_neg (by omega), if_neg (by omega)], fun t k1 k2 => by
    rw [g_sw d i j t hi hj]
    split
    · exact ⟨i, h1, h2, rfl⟩
    · split
      · exact ⟨j, h3, h4, rfl⟩
      · exact ⟨t, k1, k2, rfl⟩⟩
def Srt (d : List S41) (a b : Nat) : Prop := ∀ p q, a ≤ p → p < q → q < b → le (g d p) (g d q)
theorem Srt.same {d r : List S41} {a b : Nat} (h : Srt d a b) (e : ∀ t, a ≤ t → t < b → g r t = g d t) : Srt r a b := fun p q h1 h2 h3 => by
  rw [e p h1 (by omega), e q (by omega) h3]; exact h p q h1 h2 h3
abbrev Small (n : Nat) : Prop := n < 1000000
theorem wp {i j : Nat} (hi : Small i) (hj : Small j) : wrap64 ((i : Int) + (j : Int)) = ((i + j : Nat) : Int) := by unfold wrap64; simp only [Small] at hi hj; omega
theorem wm {i j : Nat} (hi : Small i) (h : j ≤ i) : wrap64 ((i : Int) - (j : Int)) = ((i - j : Nat) : Int) := by unfold wrap64; simp only [Small] at hi; omega
theorem wm1 {i : Nat} (hi : Small i) (h : 1 ≤ i) : wrap64 ((i : Int) - 1) = ((i - 1 : Nat) : Int) := by unfold wrap64; simp only [Small] at hi; omega
theorem wp1 {i : Nat} (hi : Small i) : wrap64 ((i : Int) + 1) = ((i + 1 : Nat) : Int) := by unfold wrap64; simp only [Small] at hi; omega
theorem wmid {i j : Nat} (hi : Small i) (hj : Small j) : wrap64 ((IntKind.u64.wrap (wrap64 ((i : Int) + (j : Int)))) / 2) = (((i + j) / 2 : Nat) : Int) := by
  rw [wp hi hj]
  have : IntKind.u64.wrap ((i + j : Nat) : Int) = ((i + j : Nat) : Int) := by
    simp only [Small] at hi hj
    simp only [IntKind.wrap]
    first | omega | (simp [IntKind.signed, IntKind.bits]; omega) | (unfold wrapU; omega)
  rw [this]; unfold wrap64; simp only [Small] at hi hj; omega
theorem ins_inner (a b i : Nat) (hb : Small b) (hai : a ≤ i) (hib : i < b) (d0 : List S41) (R : List S41 → Prop)
    (hc : ∀ d : List S41, Keep d0 d a b → Srt d a (i + 1) → ∃ r, Ev (fun k => api_Span_80.l0 k d a b ((i + 1 : Nat) : Int)) r ∧ R r) (hb0 : b ≤ d0.length) : ∀ (j : Nat) (d : List S41), a ≤ j → j ≤ i → Keep d0 d a b → (∀ p q, a ≤ p → p < q → q ≤ i → q ≠ j → le (g d p) (g d q)) →
    ∃ r, Ev (fun k => api_Span_80.l1 k d a b i j) r ∧ R r := by
  intro j
  induction j with
  | zero =>
    intro d haj hji hk hs
    obtain ⟨r, h1, h2⟩ := hc d hk (fun p q k1 k2 k3 => hs p q k1 k2 (by omega) (by omega))
    refine ⟨r, Ev.step (fun k => ?_) h1, h2⟩
    simp only [api_Span_80.l1]
    rw [if_neg (by omega), wp1 (by simp only [Small] at *; omega)]
  | succ j ih =>
    intro d haj hji hk hs
    by_cases hja : j + 1 > a
    · have hjd : j + 1 < d.length := by rw [hk.1]; omega
      obtain ⟨c, e1, e2⟩ := cmp_some (g d (j + 1)) (g d j)
      have ej : wrap64 (((j + 1 : Nat) : Int) - 1) = (j : Int) := by rw [wm1 (by simp only [Small] at *; omega) (by omega)]; rfl
      by_cases hlt : c < 0
      · have hlt' := e2.1 hlt
        have h0 := ih (sw d (j + 1) j) (by omega) (by omega) (hk.trans (Keep.sw hjd (by omega) (by omega) (by omega) (by omega) (by omega))) (fun p q k1 k2 k3 k4 => by
          rw [g_sw _ _ _ _ hjd (by omega), g_sw _ _ _ _ hjd (by omega)]
          by_cases q1 : q = j + 1
          · subst q1
            rw [if_neg (show ¬ j + 1 = j by omega), if_pos rfl]
            by_cases p1 : p = j
            · subst p1; rw [if_pos rfl]; exact le_of_lt hlt'
            · rw [if_neg p1, if_neg (by omega)]; exact hs p j k1 (by omega) (by omega) (by omega)
          · rw [if_neg k4, if_neg q1]
            by_cases p1 : p = j
            · subst p1; rw [if_pos rfl]; exact hs (p + 1) q (by omega) (by omega) k3 q1
            · rw [if_neg p1]
              by_cases p2 : p = j + 1
              · subst p2; rw [if_pos rfl]; exact hs j q (by omega) (by omega) k3 q1
              · rw [if_neg p2]; exact hs p q k1 k2 k3 q1)
        obtain ⟨r, h1, h2⟩ := h0
        refine ⟨r, Ev.step (fun k => ?_) h1, h2⟩
        simp only [api_Span_80.l1]
        rw [if_pos (by omega), if_pos (by omega), if_pos (by omega), ej, if_pos (by omega), if_pos (by omega), rd_g, rd_g, e1, Option.bind_some, if_pos hlt]
        simp only [Int.toNat_natCast]; rfl
      · have hle : le (g d j) (g d (j + 1)) := fun h => hlt (e2.2 h)
        obtain ⟨r, h1, h2⟩ := hc d hk (fun p q k1 k2 k3 => by
          by_cases q1 : q = j + 1
          · subst q1
            by_cases p1 : p = j
            · subst p1; exact hle
            · exact le_trans (hs p j k1 (by omega) (by omega) (by omega)) hle
          · exact hs p q k1 k2 (by omega) q1)
        refine ⟨r, Ev.step (fun k => ?_) h1, h2⟩
        simp only [api_Span_80.l1]
        rw [if_pos (by omega), if_pos (by omega), if_pos (by omega), ej, if_pos (by omega), if_pos (by omega), rd_g, rd_g, e1, Option.bind_some, if_neg hlt, wp1 (by simp only [Small] at *; omega)]
    · obtain ⟨r, h1, h2⟩ := hc d hk (fun p q k1 k2 k3 => hs p q k1 k2 (by omega) (by omega))
      refine ⟨r, Ev.step (fun k => ?_) h1, h2⟩
      simp only [api_Span_80.l1]
      rw [if_neg (by omega), wp1 (by simp only [Small] at *; omega)]
theorem ins_outer (a b : Nat) (hb : Small b) (d0 : List S41) (hb0 : b ≤ d0.length) : ∀ (n i : Nat) (d : List S41), i + n = b → a < i → Keep d0 d a b → Srt d a i →
    ∃ r, Ev (fun k => api_Span_80.l0 k d a b i) r ∧ Keep d0 r a b ∧ Srt r a b := by
  intro n
  induction n with
  | zero =>
    intro i d hi hai hk hs
    refine ⟨d, Ev.step (f := fun _ => some d) (fun k => ?_) (Ev.now _), hk, ?_⟩
    · simp only [api_Span_80.l0]
      rw [if_neg (by omega)]
    · rwa [show i = b by omega] at hs
  | succ n ih =>
    intro i d hi hai hk hs
    obtain ⟨r, h1, h2⟩ := ins_inner a b i hb (by omega) (by omega) d0 (fun r => Keep d0 r a b ∧ Srt r a b) (fun d' k' s' => ih (i + 1) d' (by omega) (by omega) k' s') hb0 i d (by omega) (Nat.le_refl _) hk (fun p q k1 k2 k3 k4 => hs p q k1 k2 (by omega))
    refine ⟨r, Ev.step (fun k => ?_) h1, h2⟩
    simp only [api_Span_80.l0]
    rw [if_pos (by omega)]
theorem ins_ev (d : List S41) (a b : Nat) (hb : Small b) (hab : a ≤ b) (hbd : b ≤ d.length) : ∃ r, Ev (fun k => api_Span_80.f k d a b) r ∧ Keep d r a b ∧ Srt r a b := by
  unfold api_Span_80.f
  rw [wp1 (by simp only [Small] at *; omega)]
  by_cases h : a + 1 ≤ b
  · exact ins_outer a b hb d hbd (b - (a + 1)) (a + 1) d (by omega) (by omega) (Keep.refl _ _ _) (fun p q k1 k2 k3 => by omega)
  · refine ⟨d, Ev.step (f := fun _ => some d) (fun k => ?_) (Ev.now _), Keep.refl _ _ _, fun p q k1 k2 k3 => by omega⟩
    simp only [api_Span_80.l0]
    rw [if_neg (by omega)]
end Go.Proofs.Ytjefihcbhdennaa.Pure
namespace Go.Proofs.Ytjefihcbhdennaa.Pure
open Go.RowKit Go.Proofs.YtjefihcbhdennaaW.PrintWords Go.Proofs.Ytjefihcbhdennaa.S
theorem sr_ev (d0 : List S41) (hd : Small d0.length) (a b n : Nat) (hab : a + n ≤ b) (hbn : b + n ≤ d0.length) : ∀ (m i : Nat) (d : List S41), i + m = n → d.length = d0.length → d.Perm d0 →
    (∀ t, g d t = if a ≤ t ∧ t < a + i then g d0 (t + (b - a)) else if b ≤ t ∧ t < b + i then g d0 (t - (b - a)) else g d0 t) →
    ∃ r, Ev (fun k => api_Span_84.l0 k d a b n i) r ∧ r.length = d0.length ∧ r.Perm d0 ∧ ∀ t, g r t = if a ≤ t ∧ t < a + n then g d0 (t + (b - a)) else if b ≤ t ∧ t < b + n then g d0 (t - (b - a)) else g d0 t := by
  intro m
  induction m with
  | zero =>
    intro i d hi hl hp hg
    refine ⟨d, Ev.step (f := fun _ => some d) (fun k => ?_) (Ev.now _), hl, hp, ?_⟩
    · simp only [api_Span_84.l0]
      rw [if_neg (by omega)]
    · rwa [show i = n by omega] at hg
  | succ m ih =>
    intro i d hi hl hp hg
    have ha : a + i < d.length := by omega
    have hb : b + i < d.length := by omega
    obtain ⟨r, h1, h2⟩ := ih (i + 1) (sw d (a + i) (b + i)) (by omega) ((sw_len _ _ _).trans hl) ((sw_perm _ _ _ ha hb).trans hp) (fun t => by
      rw [g_sw _ _ _ _ ha hb]
      by_cases t1 : t = b + i
      · subst t1
        rw [if_pos rfl, if_neg (by omega), if_pos (by omega), hg, if_neg (by omega), if_neg (by omega)]
        congr 1; omega
      · by_cases t2 : t = a + i
        · subst t2
          rw [if_neg t1, if_pos rfl, if_pos (by omega), hg, if_neg (by omega), if_neg (by omega)]
          congr 1; omega
        · rw [if_neg t1, if_neg t2, hg]
          by_cases c1 : a ≤ t ∧ t < a + i
          · rw [if_pos c1, if_pos (by omega)]
          · rw [if_neg c1, if_neg (show ¬ (a ≤ t ∧ t < a + (i + 1)) by omega)]
            by_cases c2 : b ≤ t ∧ t < b + i
            · rw [if_pos c2, if_pos (by omega)]
            · rw [if_neg c2, if_neg (by omega)])
    refine ⟨r, Ev.step (fun k => ?_) h1, h2⟩
    simp only [Small] at hd
    simp only [api_Span_84.l0]
    rw [if_pos (by omega), wp (i := b) (j := i) (by simp only [Small]; omega) (by simp only [Small]; omega), wp (i := a) (j := i) (by simp only [Small]; omega) (by simp only [Small]; omega), if_pos (by omega), if_pos (by omega), if_pos (by omega), if_pos (by omega), rd_g, rd_g, wp1 (by simp only [Small]; omega)]
    simp only [Int.toNat_natCast]; rfl
theorem swapRange_ev (d : List S41) (hd : Small d.length) (a b n : Nat) (hab : a + n ≤ b) (hbn : b + n ≤ d.length) :
    ∃ r, Ev (fun k => api_Span_84.f k d a b n) r ∧ r.length = d.length ∧ r.Perm d ∧ ∀ t, g r t = if a ≤ t ∧ t < a + n then g d (t + (b - a)) else if b ≤ t ∧ t < b + n then g d (t - (b - a)) else g d t :=
  sr_ev d hd a b n hab hbn n 0 d (by omega) rfl (List.Perm.refl _) (fun t => by rw [if_neg (by omega), if_neg (by omega)])
/-- r is d with the i elements ahead of m and the j from m on exchanged. -/
def Rot (d r : List S41) (m i j : Nat) : Prop := r.length = d.length ∧ r.Perm d ∧ ∀ t, g r t = if m - i ≤ t ∧ t < m - i + j then g d (t + i) else if m - i + j ≤ t ∧ t < m + j then g d (t - j) else g d t
theorem rot_loop (m : Nat) : ∀ (s i j : Nat) (d : List S41), i + j ≤ s → Small d.length → 0 < i → 0 < j → i ≤ m → m + j ≤ d.length → ∃ r, Ev (fun k => api_Span_83.l0 k d m i j) r ∧ Rot d r m i j := by
  intro s
  induction s with
  | zero => intro i j d h1 _ h3 h4; omega
  | succ s ih =>
    intro i j d hs hd hi hj him hmj
    have hsm : Small m := by simp only [Small] at *; omega
    have hsi : Small i := by simp only [Small] at *; omega
    have hsj : Small j := by simp only [Small] at *; omega
    by_cases hij : i = j
    · subst hij
      obtain ⟨r, h1, h2, h3, h4⟩ := swapRange_ev d hd (m - i) m i (by omega) (by omega)
      refine ⟨r, Ev.step (fun k => ?_) (Ev.bind h1 (Ev.now r)), h2, h3, fun t => ?_⟩
      · simp only [api_Span_83.l0]
        simp only [if_true]
        rw [wm hsm him]
      · rw [h4, show m - (m - i) = i by omega, show m - i + i = m by omega]
    · by_cases hgt : i > j
      · obtain ⟨r1, h1, h2, h3, h4⟩ := swapRange_ev d hd (m - i) m j (by omega) (by omega)
        obtain ⟨r, k1, k2, k3, k4⟩ := ih (i - j) j r1 (by omega) (by rw [h2]; exact hd) (by omega) hj (by omega) (by omega)
        refine ⟨r, Ev.step (fun k => ?_) (Ev.bind (f := fun k r1 => api_Span_83.l0 k r1 m ((i - j : Nat) : Int) j) h1 k1), k2.trans h2, k3.trans h3, fun t => ?_⟩
        · simp only [api_Span_83.l0]
          rw [if_neg (by omega), if_pos (by omega), wm hsm him, wm hsi (by omega)]
        · rw [k4]
          by_cases c1 : m - i ≤ t ∧ t < m - i + j
          · rw [if_pos c1, if_neg (by omega), if_neg (by omega), h4, if_pos (by omega)]; congr 1; omega
          · rw [if_neg c1]
            by_cases c2 : m - i + j ≤ t ∧ t < m + j
            · rw [if_pos c2]
              by_cases c3 : t < m - i + 2 * j
              · rw [if_pos (by omega), h4, if_neg (by omega), if_pos (by omega)]; congr 1; omega
              · rw [if_neg (by omega), if_pos (by omega), h4, if_neg (by omega), if_neg (by omega)]
            · rw [if_neg c2, if_neg (by omega), if_neg (by omega), h4, if_neg (by omega), if_neg (by omega)]
      · obtain ⟨r1, h1, h2, h3, h4⟩ := swapRange_ev d hd (m - i) (m + j - i) i (by omega) (by omega)
        obtain ⟨r, k1, k2, k3, k4⟩ := ih i (j - i) r1 (by omega) (by rw [h2]; exact hd) hi (by omega) him (by omega)
        refine ⟨r, Ev.step (fun k => ?_) (Ev.bind (f := fun k r1 => api_Span_83.l0 k r1 m i ((j - i : Nat) : Int)) h1 k1), k2.trans h2, k3.trans h3, fun t => ?_⟩
        · simp only [api_Span_83.l0]
          rw [if_neg (by omega), if_neg (by omega), wm hsm him, wp hsm hsj, wm (i := m + j) (by simp only [Small] at *; omega) (by omega), wm hsj (by omega)]
        · rw [k4]
          by_cases c1 : m - i ≤ t ∧ t < m - i + j
          · rw [if_pos c1]
            by_cases c3 : t < m - i + (j - i)
            · rw [if_pos (by omega), h4, if_neg (by omega), if_neg (by omega)]
            · rw [if_neg (by omega), if_pos (by omega), h4, if_pos (by omega)]; congr 1; omega
          · rw [if_neg c1]
            by_cases c2 : m - i + j ≤ t ∧ t < m + j
            · rw [if_pos c2, if_neg (by omega), if_neg (by omega), h4, if_neg (by omega), if_pos (by omega)]; congr 1; omega
            · rw [if_neg c2, if_neg (by omega), if_neg (by omega), h4, if_neg (by omega), if_neg (by omega)]
theorem rotate_ev (d : List S41) (hd : Small d.length) (a m b : Nat) (h1 : a < m) (h2 : m < b) (h3 : b ≤ d.length) : ∃ r, Ev (fun k => api_Span_83.f k d a m b) r ∧ Rot d r m (m - a) (b - m) := by
  unfold api_Span_83.f
  rw [wm (by simp only [Small] at *; omega) (by omega), wm (by simp only [Small] at *; omega) (by omega)]
  exact rot_loop m (m - a + (b - m)) (m - a) (b - m) d (Nat.le_refl _) hd (by omega) (by omega) (by omega) (by omega)
end Go.Proofs.Ytjefihcbhdennaa.Pure
namespace Go.Proofs.Ytjefihcbhdennaa.Pure
open Go.RowKit Go.Proofs.YtjefihcbhdennaaW.PrintWords Go.Proofs.Ytjefihcbhdennaa.S
def klt (x y : S41) : Prop := x.f0.toList < y.f0.toList
theorem le_lt {x y z : S41} (h : le x y) (k : klt y z) : klt x z := by
  rcases lt_tri x.f0.toList z.f0.toList with e | e | e
  · exact e
  · exact absurd (show y.f0.toList < x.f0.toList by rw [e]; exact k) h
  · exact absurd (ltt k e) h
theorem lt_le {x y z : S41} (h : klt x y) (k : le y z) : klt x z := by
  rcases lt_tri x.f0.toList z.f0.toList with e | e | e
  · exact e
  · exact absurd (show z.f0.toList < y.f0.toList by rw [← e]; exact h) k
  · exact absurd (ltt e h) k
theorem l1_ev (d0 : List S41) (hd : Small d0.length) (a i : Nat) (hi : i ≤ d0.length) : ∀ (n x : Nat) (d : List S41), x + n + 1 = i → a ≤ x → Keep d0 d a i →
    (∀ t, g d t = if a ≤ t ∧ t < x then g d0 (t + 1) else if t = x then g d0 a else g d0 t) →
    ∃ r, Ev (fun k => api_Span_81.l1 k d i x) r ∧ Keep d0 r a i ∧ ∀ t, g r t = if a ≤ t ∧ t < i - 1 then g d0 (t + 1) else if t = i - 1 then g d0 a else g d0 t := by
  intro n
  simp only [Small] at hd
  induction n with
  | zero =>
    intro x d hx hax hk hg
    refine ⟨d, Ev.step (f := fun _ => some d) (fun k => ?_) (Ev.now _), hk, ?_⟩
    · simp only [api_Span_81.l1]
      rw [wm1 (by simp only [Small]; omega) (by omega), if_neg (by omega)]
    · rwa [show x = i - 1 by omega] at hg
  | succ n ih =>
    intro x d hx hax hk hg
    have hl := hk.1
    have h1 : x < d.length := by omega
    have h2 : x + 1 < d.length := by omega
    obtain ⟨r, k1, k2⟩ := ih (x + 1) (sw d x (x + 1)) (by omega) (by omega) (hk.trans (Keep.sw h1 h2 hax (by omega) (by omega) (by omega))) (fun t => by
      rw [g_sw _ _ _ _ h1 h2]
      by_cases t1 : t = x + 1
      · subst t1
        rw [if_pos rfl, if_neg (by omega), if_pos rfl, hg, if_neg (by omega), if_pos rfl]
      · by_cases t2 : t = x
        · subst t2
          rw [if_neg t1, if_pos rfl, if_pos (by omega), hg, if_neg (by omega), if_neg (by omega)]
        · rw [if_neg t1, if_neg t2, hg, if_neg t2, if_neg t1]
          by_cases c : a ≤ t ∧ t < x
          · rw [if_pos c, if_pos (by omega)]
          · rw [if_neg c, if_neg (by omega)])
    refine ⟨r, Ev.step (fun k => ?_) k1, k2⟩
    simp only [api_Span_81.l1]
    rw [wm1 (i := i) (by simp only [Small]; omega) (by omega), if_pos (by omega), wp1 (i := x) (by simp only [Small]; omega), if_pos (by omega), if_pos (by omega), if_pos (by omega), if_pos (by omega), rd_g, rd_g]
    simp only [Int.toNat_natCast]; rfl
theorem l0_ev81 (d : List S41) (hd : Small d.length) (a b : Nat) (hab : a < b) (hb : b ≤ d.length) (hs : Srt d (a + 1) b) : ∀ (n i j : Nat), j - i ≤ n → a + 1 ≤ i → i ≤ j → j ≤ b → (∀ t, a + 1 ≤ t → t < i → klt (g d t) (g d a)) → (∀ t, j ≤ t → t < b → le (g d a) (g d t)) →
    ∃ r, Ev (fun k => api_Span_81.l0 k d a i j) r ∧ Keep d r a b ∧ Srt r a b := by
  intro n
  have hd' := hd
  simp only [Small] at hd'
  have fin : ∀ i, a + 1 ≤ i → i ≤ b → (∀ t, a + 1 ≤ t → t < i → klt (g d t) (g d a)) → (∀ t, i ≤ t → t < b → le (g d a) (g d t)) → ∃ r, Ev (fun k => api_Span_81.l0 k d a i i) r ∧ Keep d r a b ∧ Srt r a b := by
    intro i h1 h2 h3 h4
    obtain ⟨r, k1, k2, k3⟩ := l1_ev d hd a i (by omega) (i - 1 - a) a d (by omega) (Nat.le_refl _) (Keep.refl _ _ _) (fun t => by
      by_cases t1 : t = a
      · subst t1; rw [if_neg (by omega), if_pos rfl]
      · rw [if_neg (by omega), if_neg t1])
    refine ⟨r, Ev.step (fun k => ?_) k1, k2.wide (Nat.le_refl _) h2, fun p q p1 p2 p3 => ?_⟩
    · simp only [api_Span_81.l0]
      rw [if_neg (by omega)]
    · rw [k3, k3]
      by_cases q1 : q < i - 1
      · rw [if_pos (by omega), if_pos (by omega)]; exact hs _ _ (by omega) (by omega) (by omega)
      · rw [if_neg (show ¬ (a ≤ q ∧ q < i - 1) by omega)]
        by_cases q2 : q = i - 1
        · rw [if_pos q2, if_pos (by omega)]; exact le_of_lt (h3 _ (by omega) (by omega))
        · rw [if_neg q2]
          by_cases c1 : p < i - 1
          · rw [if_pos (by omega)]; exact le_trans (le_of_lt (h3 _ (by omega) (by omega))) (h4 q (by omega) p3)
          · rw [if_neg (by omega)]
            by_cases c2 : p = i - 1
            · rw [if_pos c2]; exact h4 q (by omega) p3
            · rw [if_neg c2]; exact hs p q (by omega) p2 p3
  induction n with
  | zero =>
    intro i j h1 h2 h3 h4 h5 h6
    obtain rfl : i = j := by omega
    exact fin i h2 h4 h5 h6
  | succ n ih =>
    intro i j h1 h2 h3 h4 h5 h6
    by_cases hij : i < j
    · have e := wmid (i := i) (j := j) (by simp only [Small]; omega) (by simp only [Small]; omega)
      obtain ⟨m, hm⟩ : ∃ m, (i + j) / 2 = m := ⟨_, rfl⟩
      rw [hm] at e
      obtain ⟨c, e1, e2⟩ := cmp_some (g d m) (g d a)
      by_cases hc : c < 0
      · obtain ⟨r, k1, k2⟩ := ih (m + 1) j (by omega) (by omega) (by omega) h4 (fun t t1 t2 => by
          by_cases t3 : t = m
          · subst t3; exact e2.1 hc
          · exact le_lt (hs t m t1 (by omega) (by omega)) (e2.1 hc)) h6
        refine ⟨r, Ev.step (fun k => ?_) k1, k2⟩
        simp only [api_Span_81.l0]
        rw [if_pos (by omega), e, if_pos (by omega), if_pos (by omega), if_pos (by omega), if_pos (by omega), rd_g, rd_g, e1, Option.bind_some, if_pos hc, wp1 (by simp only [Small]; omega)]
      · obtain ⟨r, k1, k2⟩ := ih i m (by omega) h2 (by omega) (by omega) h5 (fun t t1 t2 => by
          have hm2 : le (g d a) (g d m) := fun h => hc (e2.2 h)
          by_cases t3 : t = m
          · subst t3; exact hm2
          · exact le_trans hm2 (hs m t (by omega) (by omega) t2))
        refine ⟨r, Ev.step (fun k => ?_) k1, k2⟩
        simp only [api_Span_81.l0]
        rw [if_pos (by omega), e, if_pos (by omega), if_pos (by omega), if_pos (by omega), if_pos (by omega), rd_g, rd_g, e1, Option.bind_some, if_neg hc]
    · obtain rfl : i = j := by omega
      exact fin i h2 h4 h5 h6
theorem l3_ev (d0 : List S41) (hd : Small d0.length) (m i : Nat) (hm : m < d0.length) : ∀ (n x : Nat) (d : List S41), i + n = x → x ≤ m → Keep d0 d i (m + 1) →
    (∀ t, g d t = if x < t ∧ t ≤ m then g d0 (t - 1) else if t = x then g d0 m else g d0 t) →
    ∃ r, Ev (fun k => api_Span_81.l3 k d i x) r ∧ Keep d0 r i (m + 1) ∧ ∀ t, g r t = if i < t ∧ t ≤ m then g d0 (t - 1) else if t = i then g d0 m else g d0 t := by
  intro n
  simp only [Small] at hd
  induction n with
  | zero =>
    intro x d hx hxm hk hg
    refine ⟨d, Ev.step (f := fun _ => some d) (fun k => ?_) (Ev.now _), hk, ?_⟩
    · simp only [api_Span_81.l3]
      rw [if_neg (by omega)]
    · rwa [show x = i by omega] at hg
  | succ n ih =>
    intro x d hx hxm hk hg
    have hl := hk.1
    have h1 : x < d.length := by omega
    have h2 : x - 1 < d.length := by omega
    obtain ⟨r, k1, k2⟩ := ih (x - 1) (sw d x (x - 1)) (by omega) (by omega) (hk.trans (Keep.sw h1 h2 (by omega) (by omega) (by omega) (by omega))) (fun t => by
      rw [g_sw _ _ _ _ h1 h2]
      by_cases t1 : t = x - 1
      · subst t1
        rw [if_pos rfl, if_neg (by omega), if_pos rfl, hg, if_neg (by omega), if_pos rfl]
      · by_cases t2 : t = x
        · subst t2
          rw [if_neg t1, if_pos rfl, if_pos (by omega), hg, if_neg (by omega), if_neg (by omega)]
        · rw [if_neg t1, if_neg t2, hg, if_neg t2, if_neg t1]
          by_cases c : x < t ∧ t ≤ m
          · rw [if_pos c, if_pos (by omega)]
          · rw [if_neg c, if_neg (by omega)])
    refine ⟨r, Ev.step (fun k => ?_) k1, k2⟩
    simp only [api_Span_81.l3]
    rw [if_pos (by omega), wm1 (i := x) (by simp only [Small]; omega) (by omega), if_pos (by omega), if_pos (by omega), if_pos (by omega), if_pos (by omega), rd_g, rd_g]
    simp only [Int.toNat_natCast]; rfl
theorem l2_ev (d : List S41) (hd : Small d.length) (a m : Nat) (ham : a ≤ m) (hm : m < d.length) (hs : Srt d a m) : ∀ (n i j : Nat), j - i ≤ n → a ≤ i → i ≤ j → j ≤ m → (∀ t, a ≤ t → t < i → le (g d t) (g d m)) → (∀ t, j ≤ t → t < m → klt (g d m) (g d t)) →
    ∃ r, Ev (fun k => api_Span_81.l2 k d m i j) r ∧ Keep d r a (m + 1) ∧ Srt r a (m + 1) := by
  intro n
  have hd' := hd
  simp only [Small] at hd'
  have fin : ∀ i, a ≤ i → i ≤ m → (∀ t, a ≤ t → t < i → le (g d t) (g d m)) → (∀ t, i ≤ t → t < m → klt (g d m) (g d t)) → ∃ r, Ev (fun k => api_Span_81.l2 k d m i i) r ∧ Keep d r a (m + 1) ∧ Srt r a (m + 1) := by
    intro i h1 h2 h3 h4
    obtain ⟨r, k1, k2, k3⟩ := l3_ev d hd m i hm (m - i) m d (by omega) (Nat.le_refl _) (Keep.refl _ _ _) (fun t => by
      by_cases t1 : t = m
      · subst t1; rw [if_neg (by omega), if_pos rfl]
      · rw [if_neg (by omega), if_neg t1])
    refine ⟨r, Ev.step (fun k => ?_) k1, k2.wide h1 (Nat.le_refl _), fun p q p1 p2 p3 => ?_⟩
    · simp only [api_Span_81.l2]
      rw [if_neg (by omega)]
    · rw [k3, k3]
      by_cases p4 : i < p
      · rw [if_pos (by omega), if_pos (by omega)]; exact hs _ _ (by omega) (by omega) (by omega)
      · rw [if_neg (show ¬ (i < p ∧ p ≤ m) by omega)]
        by_cases p5 : p = i
        · rw [if_pos p5, if_pos (by omega)]; exact le_of_lt (h4 _ (by omega) (by omega))
        · rw [if_neg p5]
          by_cases c1 : i < q
          · rw [if_pos (by omega)]; exact le_trans (h3 p p1 (by omega)) (le_of_lt (h4 _ (by omega) (by omega)))
          · rw [if_neg (by omega)]
            by_cases c2 : q = i
            · rw [if_pos c2]; exact h3 p p1 (by omega)
            · rw [if_neg c2]; exact hs p q p1 p2 (by omega)
  induction n with
  | zero =>
    intro i j h1 h2 h3 h4 h5 h6
    obtain rfl : i = j := by omega
    exact fin i h2 h4 h5 h6
  | succ n ih =>
    intro i j h1 h2 h3 h4 h5 h6
    by_cases hij : i < j
    · have e := wmid (i := i) (j := j) (by simp only [Small]; omega) (by simp only [Small]; omega)
      obtain ⟨h, hh⟩ : ∃ h, (i + j) / 2 = h := ⟨_, rfl⟩
      rw [hh] at e
      obtain ⟨c, e1, e2⟩ := cmp_some (g d m) (g d h)
      by_cases hc : c < 0
      · obtain ⟨r, k1, k2⟩ := ih i h (by omega) h2 (by omega) (by omega) h5 (fun t t1 t2 => by
          by_cases t3 : t = h
          · subst t3; exact e2.1 hc
          · exact lt_le (e2.1 hc) (hs h t (by omega) (by omega) t2))
        refine ⟨r, Ev.step (fun k => ?_) k1, k2⟩
        simp only [api_Span_81.l2]
        rw [if_pos (by omega), e, if_pos (by omega), if_pos (by omega), if_pos (by omega), if_pos (by omega), rd_g, rd_g, e1, Option.bind_some, if_pos hc]
      · have hm2 : le (g d h) (g d m) := fun k => hc (e2.2 k)
        obtain ⟨r, k1, k2⟩ := ih (h + 1) j (by omega) (by omega) (by omega) h4 (fun t t1 t2 => by
          by_cases t3 : t = h
          · subst t3; exact hm2
          · exact le_trans (hs t h t1 (by omega) (by omega)) hm2) h6
        refine ⟨r, Ev.step (fun k => ?_) k1, k2⟩
        simp only [api_Span_81.l2]
        rw [if_pos (by omega), e, if_pos (by omega), if_pos (by omega), if_pos (by omega), if_pos (by omega), rd_g, rd_g, e1, Option.bind_some, if_neg hc, wp1 (by simp only [Small]; omega)]
    · obtain rfl : i = j := by omega
      exact fin i h2 h4 h5 h6
end Go.Proofs.Ytjefihcbhdennaa.Pure
namespace Go.Proofs.Ytjefihcbhdennaa.Pure
open Go.RowKit Go.Proofs.YtjefihcbhdennaaW.PrintWords Go.Proofs.Ytjefihcbhdennaa.S
theorem wmB {i j : Nat} (hi : i < 4000000) (h : j ≤ i) : wrap64 ((i : Int) - (j : Int)) = ((i - j : Nat) : Int) := by unfold wrap64; omega
theorem srt_le {d : List S41} {a b p q : Nat} (h : Srt d a b) (h1 : a ≤ p) (h2 : p ≤ q) (h3 : q < b) : le (g d p) (g d q) := by
  by_cases e : p = q
  · subst e; exact le_refl _
  · exact h p q h1 (by omega) h3
theorem l4_ev (d : List S41) (hd : Small d.length) (a m b mid s0 r0 : Nat) (hb : b ≤ d.length) (hs1 : Srt d a m) (hs2 : Srt d m b) (hmid : mid < b) (hmb : m < b)
    (hin : ∀ c, s0 ≤ c → c < r0 → a ≤ c ∧ c < m ∧ c + m + 1 ≤ mid + m ∧ mid + m - 1 - c < b) (R : List S41 → Prop)
    (hc : ∀ s, s0 ≤ s → s ≤ r0 → (∀ c, s0 ≤ c → c < s → le (g d c) (g d (mid + m - 1 - c))) → (∀ c, s ≤ c → c < r0 → klt (g d (mid + m - 1 - c)) (g d c)) → ∃ r, Ev (fun k => api_Span_81.j6 k d a m b mid s ((mid + m - s : Nat) : Int) (decide (s < m ∧ m < mid + m - s))) r ∧ R r) (hrm : r0 ≤ mid + m) :
    ∀ (n s r : Nat), r - s ≤ n → s0 ≤ s → s ≤ r → r ≤ r0 → (∀ c, s0 ≤ c → c < s → le (g d c) (g d (mid + m - 1 - c))) → (∀ c, r ≤ c → c < r0 → klt (g d (mid + m - 1 - c)) (g d c)) →
    ∃ q, Ev (fun k => api_Span_81.l4 k d a m b mid ((mid + m : Nat) : Int) s r ((mid + m - 1 : Nat) : Int)) q ∧ R q := by
  have hd' := hd
  simp only [Small] at hd'
  have fin : ∀ s, s0 ≤ s → s ≤ r0 → (∀ c, s0 ≤ c → c < s → le (g d c) (g d (mid + m - 1 - c))) → (∀ c, s ≤ c → c < r0 → klt (g d (mid + m - 1 - c)) (g d c)) → ∃ q, Ev (fun k => api_Span_81.l4 k d a m b mid ((mid + m : Nat) : Int) s s ((mid + m - 1 : Nat) : Int)) q ∧ R q := by
    intro s h1 h2 h3 h4
    obtain ⟨q, k1, k2⟩ := hc s h1 h2 h3 h4
    refine ⟨q, Ev.step (fun k => ?_) k1, k2⟩
    simp only [api_Span_81.l4]
    rw [if_neg (by omega), wmB (i := mid + m) (j := s) (by omega) (by omega)]
    by_cases c1 : s < m
    · rw [if_pos (by omega)]
      congr 1
      rw [decide_eq_decide]; constructor
      · intro h; exact ⟨c1, by omega⟩
      · rintro ⟨_, h⟩; omega
    · rw [if_neg (by omega)]
      congr 1
      rw [decide_eq_false (fun h => c1 h.1)]
  intro n
  induction n with
  | zero =>
    intro s r h1 h2 h3 h4 h5 h6
    obtain rfl : s = r := by omega
    exact fin s h2 h4 h5 h6
  | succ n ih =>
    intro s r h1 h2 h3 h4 h5 h6
    by_cases hsr : s < r
    · have hr0 := hin (r - 1) (by omega) (by omega)
      have e := wmid (i := s) (j := r) (by simp only [Small]; omega) (by simp only [Small]; omega)
      obtain ⟨h, hh⟩ : ∃ h, (s + r) / 2 = h := ⟨_, rfl⟩
      rw [hh] at e
      obtain ⟨i1, i2, i3, i4⟩ := hin h (by omega) (by omega)
      have ep : wrap64 (((mid + m - 1 : Nat) : Int) - (h : Int)) = ((mid + m - 1 - h : Nat) : Int) := wmB (by omega) (by omega)
      obtain ⟨c, e1, e2⟩ := cmp_some (g d (mid + m - 1 - h)) (g d h)
      by_cases hcc : c < 0
      · obtain ⟨q, k1, k2⟩ := ih s h (by omega) h2 (by omega) (by omega) h5 (fun t t1 t2 => by
          obtain ⟨j1, j2, j3, j4⟩ := hin t (by omega) t2
          exact lt_le (le_lt (srt_le hs2 (by omega) (by omega) (by omega)) (e2.1 hcc)) (srt_le hs1 i1 t1 j2))
        refine ⟨q, Ev.step (fun k => ?_) k1, k2⟩
        simp only [api_Span_81.l4]
        rw [if_pos (by omega), e, ep, if_pos (by omega), if_pos (by omega), if_pos (by omega), if_pos (by omega), rd_g, rd_g, e1, Option.bind_some, if_pos hcc]
      · have hle : le (g d h) (g d (mid + m - 1 - h)) := fun k => hcc (e2.2 k)
        obtain ⟨q, k1, k2⟩ := ih (h + 1) r (by omega) (by omega) (by omega) h4 (fun t t1 t2 => by
          obtain ⟨j1, j2, j3, j4⟩ := hin t t1 (by omega)
          exact le_trans (le_trans (srt_le hs1 j1 (by omega) i2) hle) (srt_le hs2 (by omega) (by omega) j4)) h6
        refine ⟨q, Ev.step (fun k => ?_) k1, k2⟩
        simp only [api_Span_81.l4]
        rw [if_pos (by omega), e, ep, if_pos (by omega), if_pos (by omega), if_pos (by omega), if_pos (by omega), rd_g, rd_g, e1, Option.bind_some, if_neg hcc, wp1 (by simp only [Small]; omega)]
    · obtain rfl : s = r := by omega
      exact fin s h2 h4 h5 h6
/-- Two halves, each sorted in its turn. -/
theorem j7_ev (r1 : List S41) (a b mid s e : Nat) (h1 : a ≤ s) (h2 : s ≤ mid) (h3 : mid ≤ e) (h4 : e ≤ b) (hb : b ≤ r1.length)
    (hl1 : Srt r1 a s) (hl2 : Srt r1 s mid) (hl3 : Srt r1 mid e) (hl4 : Srt r1 e b) (hx : ∀ p q, a ≤ p → p < mid → mid ≤ q → q < b → le (g r1 p) (g r1 q))
    (ihl : a < s → s < mid → ∃ r, Ev (fun k => api_Span_81.f k r1 a s mid) r ∧ Keep r1 r a mid ∧ Srt r a mid)
    (ihr : mid < e → e < b → ∀ d, d.length = r1.length → Srt d mid e → Srt d e b → ∃ r, Ev (fun k => api_Span_81.f k d mid e b) r ∧ Keep d r mid b ∧ Srt r mid b) :
    ∃ r, Ev (fun k => api_Span_81.j7 k r1 a b mid s e) r ∧ Keep r1 r a b ∧ Srt r a b := by
  obtain ⟨r2, hk2, hs2, he2⟩ : ∃ r2, Keep r1 r2 a mid ∧ Srt r2 a mid ∧ ((a < s ∧ s < mid ∧ Ev (fun k => api_Span_81.f k r1 a s mid) r2) ∨ (¬ (a < s ∧ s < mid) ∧ r2 = r1)) := by
    by_cases c : a < s ∧ s < mid
    · obtain ⟨r, k1, k2, k3⟩ := ihl c.1 c.2
      exact ⟨r, k2, k3, .inl ⟨c.1, c.2, k1⟩⟩
    · refine ⟨r1, Keep.refl _ _ _, ?_, .inr ⟨c, rfl⟩⟩
      by_cases c1 : a < s
      · rw [show mid = s by omega]; exact hl1
      · rw [show a = s by omega]; exact hl2
  have hsame : ∀ t, mid ≤ t → g r2 t = g r1 t := fun t ht => hk2.2.2.1 t (.inr ht)
  obtain ⟨r3, hk3, hs3, he3⟩ : ∃ r3, Keep r2 r3 mid b ∧ Srt r3 mid b ∧ ((mid < e ∧ e < b ∧ Ev (fun k => api_Span_81.f k r2 mid e b) r3) ∨ (¬ (mid < e ∧ e < b) ∧ r3 = r2)) := by
    have s3 : Srt r2 mid e := hl3.same (fun t t1 _ => hsame t t1)
    have s4 : Srt r2 e b := hl4.same (fun t t1 _ => hsame t (by omega))
    by_cases c : mid < e ∧ e < b
    · obtain ⟨r, k1, k2, k3⟩ := ihr c.1 c.2 r2 hk2.1 s3 s4
      exact ⟨r, k2, k3, .inl ⟨c.1, c.2, k1⟩⟩
    · refine ⟨r2, Keep.refl _ _ _, ?_, .inr ⟨c, rfl⟩⟩
      by_cases c1 : mid < e
      · rw [show b = e by omega]; exact s3
      · rw [show mid = e by omega]; exact s4
  refine ⟨r3, ?_, (hk2.wide (Nat.le_refl _) (by omega)).trans (hk3.wide (by omega) (Nat.le_refl _)), fun p q p1 p2 p3 => ?_⟩
  · have right : Ev (fun k => if (mid : Int) < (e : Int) then (if (e : Int) < (b : Int) then ((api_Span_81.f k r2 mid e b).bind fun t => some t) else some r2) else some r2) r3 := by
      rcases he3 with ⟨c1, c2, k⟩ | ⟨c, rfl⟩
      · exact Ev.congr (fun k => by rw [if_pos (by omega), if_pos (by omega)]) (Ev.bind k (Ev.now r3))
      · by_cases c1 : mid < e
        · exact Ev.congr (f := fun _ => some r3) (fun k => by rw [if_pos (by omega), if_neg (by omega)]) (Ev.now _)
        · exact Ev.congr (f := fun _ => some r3) (fun k => by rw [if_neg (by omega)]) (Ev.now _)
    rcases he2 with ⟨c1, c2, k⟩ | ⟨c, rfl⟩
    · refine Ev.step (f := fun k => api_Span_81.j8 k r1 a b mid s e true) (fun k => ?_) (Ev.step (fun k => ?_) (Ev.bind (f := fun k r2 => if (mid : Int) < (e : Int) then (if (e : Int) < (b : Int) then ((api_Span_81.f k r2 mid e b).bind fun t => some t) else some r2) else some r2) k right))
      · simp only [api_Span_81.j7]
        rw [if_pos (by omega), decide_eq_true (show (s : Int) < (mid : Int) by omega)]
      · simp only [api_Span_81.j8, if_true]
    · refine Ev.step (f := fun k => api_Span_81.j8 k r2 a b mid s e false) (fun k => ?_) (Ev.step (fun k => ?_) right)
      · simp only [api_Span_81.j7]
        by_cases c1 : a < s
        · rw [if_pos (by omega), decide_eq_false (show ¬ (s : Int) < (mid : Int) by omega)]
        · rw [if_neg (by omega)]
      · simp only [api_Span_81.j8, if_false, Bool.false_eq_true]
  · by_cases c1 : q < mid
    · rw [hk3.2.2.1 p (.inl (by omega)), hk3.2.2.1 q (.inl c1)]; exact hs2 p q p1 p2 c1
    · by_cases c2 : mid ≤ p
      · exact hs3 p q c2 p2 p3
      · obtain ⟨q', q1, q2, q3⟩ := hk3.2.2.2 q (by omega) p3
        obtain ⟨p', p4, p5, p6⟩ := hk2.2.2.2 p p1 (by omega)
        rw [hk3.2.2.1 p (.inl (by omega)), p6, q3, hsame q' q1]
        exact hx p' q' p4 p5 q1 q2
end Go.Proofs.Ytjefihcbhdennaa.Pure
namespace Go.Proofs.Ytjefihcbhdennaa.Pure
open Go.RowKit Go.Proofs.YtjefihcbhdennaaW.PrintWords Go.Proofs.Ytjefihcbhdennaa.S
def Sym (n : Nat) : Prop := ∀ (d : List S41) (a m b : Nat), b - a ≤ n → Small d.length → a < m → m < b → b ≤ d.length → Srt d a m → Srt d m b → ∃ r, Ev (fun k => api_Span_81.f k d a m b) r ∧ Keep d r a b ∧ Srt r a b
theorem j6_ev (n : Nat) (ih : Sym n) (d : List S41) (hd : Small d.length) (a m b mid s e : Nat) (hn : b - a ≤ n + 1) (hab : a < mid) (hmb : mid < b) (ham : a < m) (hmb2 : m < b) (hb : b ≤ d.length) (hs1 : Srt d a m) (hs2 : Srt d m b)
    (h1 : a ≤ s) (h2 : s ≤ m) (h3 : s ≤ mid) (he : e = mid + m - s) (h5 : e ≤ b)
    (x1 : ∀ i j, a ≤ i → i < s → e ≤ j → j < b → le (g d i) (g d j)) (x2 : ∀ i j, s ≤ i → i < m → m ≤ j → j < e → le (g d j) (g d i)) :
    ∃ r, Ev (fun k => api_Span_81.j6 k d a m b mid s e (decide (s < m ∧ m < e))) r ∧ Keep d r a b ∧ Srt r a b := by
  have hme : m ≤ e := by omega
  have hmide : mid ≤ e := by omega
  obtain ⟨r1, hl, hp, hF, hE⟩ : ∃ r1 : List S41, r1.length = d.length ∧ r1.Perm d ∧ (∀ t, g r1 t = if s ≤ t ∧ t < mid then g d (t + (m - s)) else if mid ≤ t ∧ t < e then g d (t - (e - m)) else g d t) ∧ ((s < m ∧ m < e) ∧ Ev (fun k => api_Span_83.f k d s m e) r1 ∨ ¬ (s < m ∧ m < e) ∧ r1 = d) := by
    by_cases c : s < m ∧ m < e
    · obtain ⟨r1, k1, k2, k3, k4⟩ := rotate_ev d hd s m e c.1 c.2 (by omega)
      refine ⟨r1, k2, k3, fun t => ?_, .inl ⟨c, k1⟩⟩
      rw [k4, show m - (m - s) = s by omega, show s + (e - m) = mid by omega, show m + (e - m) = e by omega]
    · refine ⟨d, rfl, List.Perm.refl _, fun t => ?_, .inr ⟨c, rfl⟩⟩
      have c' : s = m ∨ e = m := by omega
      split
      · congr 1; omega
      · split
        · congr 1; omega
        · rfl
  have F1 : ∀ t, s ≤ t → t < mid → g r1 t = g d (t + (m - s)) := fun t t1 t2 => by rw [hF, if_pos ⟨t1, t2⟩]
  have F2 : ∀ t, mid ≤ t → t < e → g r1 t = g d (t - (e - m)) := fun t t1 t2 => by rw [hF, if_neg (by omega), if_pos ⟨t1, t2⟩]
  have F3 : ∀ t, t < s ∨ e ≤ t → g r1 t = g d t := fun t t1 => by rw [hF, if_neg (by omega), if_neg (by omega)]
  have hk : Keep d r1 a b := ⟨hl, hp, fun t ht => F3 t (by omega), fun t t1 t2 => by
    by_cases c1 : s ≤ t ∧ t < mid
    · exact ⟨t + (m - s), by omega, by omega, F1 t c1.1 c1.2⟩
    · by_cases c2 : mid ≤ t ∧ t < e
      · exact ⟨t - (e - m), by omega, by omega, F2 t c2.1 c2.2⟩
      · exact ⟨t, t1, t2, F3 t (by omega)⟩⟩
  have q1 : Srt r1 a s := fun p q k1 k2 k3 => by rw [F3 p (by omega), F3 q (by omega)]; exact hs1 p q k1 k2 (by omega)
  have q2 : Srt r1 s mid := fun p q k1 k2 k3 => by rw [F1 p k1 (by omega), F1 q (by omega) k3]; exact hs2 _ _ (by omega) (by omega) (by omega)
  have q3 : Srt r1 mid e := fun p q k1 k2 k3 => by rw [F2 p k1 (by omega), F2 q (by omega) k3]; exact hs1 _ _ (by omega) (by omega) (by omega)
  have q4 : Srt r1 e b := fun p q k1 k2 k3 => by rw [F3 p (by omega), F3 q (by omega)]; exact hs2 p q (by omega) k2 k3
  have qx : ∀ p q, a ≤ p → p < mid → mid ≤ q → q < b → le (g r1 p) (g r1 q) := fun p q k1 k2 k3 k4 => by
    by_cases c1 : p < s
    · rw [F3 p (.inl c1)]
      by_cases c2 : q < e
      · rw [F2 q k3 c2]; exact srt_le hs1 k1 (by omega) (by omega)
      · rw [F3 q (by omega)]; exact x1 p q k1 c1 (by omega) k4
    · rw [F1 p (by omega) k2]
      by_cases c2 : q < e
      · rw [F2 q k3 c2]; exact x2 _ _ (by omega) (by omega) (by omega) (by omega)
      · rw [F3 q (by omega)]; exact srt_le hs2 (by omega) (by omega) k4
  obtain ⟨r, k1, k2, k3⟩ := j7_ev r1 a b mid s e h1 h3 hmide h5 (by omega) q1 q2 q3 q4 qx
    (fun c1 c2 => ih r1 a s mid (by omega) (by rw [hl]; exact hd) c1 c2 (by omega) q1 q2)
    (fun c1 c2 d' hl' s3 s4 => ih d' mid e b (by omega) (by rw [hl', hl]; exact hd) c1 c2 (by omega) s3 s4)
  refine ⟨r, ?_, hk.trans k2, k3⟩
  rcases hE with ⟨c, k⟩ | ⟨c, rfl⟩
  · refine Ev.step (fun k' => ?_) (Ev.bind (f := fun k r1 => api_Span_81.j7 k r1 a b mid s e) k k1)
    rw [decide_eq_true c]
    simp only [api_Span_81.j6, if_true]
  · refine Ev.step (fun k' => ?_) k1
    rw [decide_eq_false c]
    simp only [api_Span_81.j6, if_false, Bool.false_eq_true]
theorem sym_all : ∀ n, Sym n := by
  intro n
  induction n with
  | zero => intro d a m b h1 _ h3 h4; omega
  | succ n ih =>
    intro d a m b hn hd ham hmb hb hs1 hs2
    have hd' := hd
    simp only [Small] at hd'
    by_cases c1 : m - a = 1
    · obtain rfl : m = a + 1 := by omega
      obtain ⟨r, k1, k2⟩ := l0_ev81 d hd a b (by omega) hb hs2 (b - (a + 1)) (a + 1) b (Nat.le_refl _) (Nat.le_refl _) (by omega) (Nat.le_refl _) (fun t t1 t2 => by omega) (fun t t1 t2 => by omega)
      refine ⟨r, Ev.step (fun k => ?_) k1, k2⟩
      simp only [api_Span_81.f]
      rw [wm (by simp only [Small]; omega) (by omega), if_pos (by omega)]
    · by_cases c2 : b - m = 1
      · obtain rfl : b = m + 1 := by omega
        obtain ⟨r, k1, k2⟩ := l2_ev d hd a m (by omega) (by omega) hs1 (m - a) a m (Nat.le_refl _) (Nat.le_refl _) (by omega) (Nat.le_refl _) (fun t t1 t2 => by omega) (fun t t1 t2 => by omega)
        refine ⟨r, Ev.step (fun k => ?_) k1, k2⟩
        simp only [api_Span_81.f]
        rw [wm (i := m) (by simp only [Small]; omega) (by omega), if_neg (by omega), wm (i := m + 1) (by simp only [Small]; omega) (by omega), if_pos (by omega)]
      · have em := wmid (i := a) (j := b) (by simp only [Small]; omega) (by simp only [Small]; omega)
        obtain ⟨mid, hmid⟩ : ∃ mid, (a + b) / 2 = mid := ⟨_, rfl⟩
        rw [hmid] at em
        have en := wp (i := mid) (j := m) (by simp only [Small]; omega) (by simp only [Small]; omega)
        have en1 : wrap64 (((mid + m : Nat) : Int) - 1) = ((mid + m - 1 : Nat) : Int) := by have := wmB (i := mid + m) (j := 1) (by omega) (by omega); simpa using this
        by_cases c3 : m > mid
        · obtain ⟨r, k1, k2⟩ := l4_ev d hd a m b mid (mid + m - b) mid hb hs1 hs2 (by omega) hmb (fun c i1 i2 => by omega) (fun r => Keep d r a b ∧ Srt r a b) (fun s i1 i2 A B =>
            j6_ev n ih d hd a m b mid s (mid + m - s) hn (by omega) (by omega) ham hmb hb hs1 hs2 (by omega) (by omega) (by omega) rfl (by omega)
              (fun i j t1 t2 t3 t4 => le_trans (le_trans (srt_le hs1 t1 (show i ≤ s - 1 by omega) (by omega)) (A (s - 1) (by omega) (by omega))) (srt_le hs2 (by omega) (by omega) t4))
              (fun i j t1 t2 t3 t4 => le_trans (le_trans (srt_le hs2 t3 (show j ≤ mid + m - 1 - s by omega) (by omega)) (le_of_lt (B s (Nat.le_refl _) (by omega)))) (srt_le hs1 (by omega) t1 t2))) (by omega)
            (mid - (mid + m - b)) (mid + m - b) mid (Nat.le_refl _) (Nat.le_refl _) (by omega) (Nat.le_refl _) (fun c i1 i2 => by omega) (fun c i1 i2 => by omega)
          refine ⟨r, Ev.step (fun k => ?_) (Ev.step (g := fun k => api_Span_81.j4 k d a m b mid ((mid + m : Nat) : Int) ((mid + m - b : Nat) : Int) mid) (f := fun k => api_Span_81.l4 k d a m b mid ((mid + m : Nat) : Int) ((mid + m - b : Nat) : Int) mid ((mid + m - 1 : Nat) : Int)) (fun k => by simp only [api_Span_81.j4]; rw [en1]) k1), k2⟩
          simp only [api_Span_81.f]
          rw [wm (i := m) (by simp only [Small]; omega) (by omega), if_neg (by omega), wm (i := b) (by simp only [Small]; omega) (by omega), if_neg (by omega), em, if_pos (by omega), en, wmB (i := mid + m) (j := b) (by omega) (by omega)]
        · obtain ⟨r, k1, k2⟩ := l4_ev d hd a m b mid a m hb hs1 hs2 (by omega) hmb (fun c i1 i2 => by omega) (fun r => Keep d r a b ∧ Srt r a b) (fun s i1 i2 A B =>
            j6_ev n ih d hd a m b mid s (mid + m - s) hn (by omega) (by omega) ham hmb hb hs1 hs2 (by omega) (by omega) (by omega) rfl (by omega)
              (fun i j t1 t2 t3 t4 => le_trans (le_trans (srt_le hs1 t1 (show i ≤ s - 1 by omega) (by omega)) (A (s - 1) (by omega) (by omega))) (srt_le hs2 (by omega) (by omega) t4))
              (fun i j t1 t2 t3 t4 => le_trans (le_trans (srt_le hs2 t3 (show j ≤ mid + m - 1 - s by omega) (by omega)) (le_of_lt (B s (Nat.le_refl _) (by omega)))) (srt_le hs1 (by omega) t1 t2))) (by omega)
            (m - a) a m (Nat.le_refl _) (Nat.le_refl _) (by omega) (Nat.le_refl _) (fun c i1 i2 => by omega) (fun c i1 i2 => by omega)
          refine ⟨r, Ev.step (fun k => ?_) (Ev.step (g := fun k => api_Span_81.j4 k d a m b mid ((mid + m : Nat) : Int) a m) (f := fun k => api_Span_81.l4 k d a m b mid ((mid + m : Nat) : Int) a m ((mid + m - 1 : Nat) : Int)) (fun k => by simp only [api_Span_81.j4]; rw [en1]) k1), k2⟩
          simp only [api_Span_81.f]
          rw [wm (i := m) (by simp only [Small]; omega) (by omega), if_neg (by omega), wm (i := b) (by simp only [Small]; omega) (by omega), if_neg (by omega), em, if_neg (by omega), en]
theorem sym_ev (d : List S41) (hd : Small d.length) (a m b : Nat) (h1 : a < m) (h2 : m < b) (h3 : b ≤ d.length) (hs1 : Srt d a m) (hs2 : Srt d m b) : ∃ r, Ev (fun k => api_Span_81.f k d a m b) r ∧ Keep d r a b ∧ Srt r a b :=
  sym_all (b - a) d a m b (Nat.le_refl _) hd h1 h2 h3 hs1 hs2
end Go.Proofs.Ytjefihcbhdennaa.Pure
namespace Go.Proofs.Ytjefihcbhdennaa.Pure
open Go.RowKit Go.Proofs.YtjefihcbhdennaaW.PrintWords Go.Proofs.Ytjefihcbhdennaa.S
theorem wpB {i j : Nat} (hi : i < 400000000) (hj : j < 400000000) : wrap64 ((i : Int) + (j : Int)) = ((i + j : Nat) : Int) := by unfold wrap64; omega
theorem w2 {i : Nat} (hi : i < 400000000) : wrap64 (2 * (i : Int)) = ((2 * i : Nat) : Int) := by unfold wrap64; omega
theorem w2' {i : Nat} (hi : i < 400000000) : wrap64 ((i : Int) * 2) = ((2 * i : Nat) : Int) := by unfold wrap64; omega
theorem dvd_step {k c a : Nat} (h1 : k ∣ c) (h2 : k ∣ a) (h : c < a) : c + k ≤ a := by
  obtain ⟨x, rfl⟩ := h1
  obtain ⟨y, rfl⟩ := h2
  have : x < y := Nat.lt_of_mul_lt_mul_left h
  calc k * x + k = k * (x + 1) := by rw [Nat.mul_add, Nat.mul_one]
    _ ≤ k * y := Nat.mul_le_mul_left k this
def Blk (d : List S41) (bs n : Nat) : Prop := ∀ c, bs ∣ c → c < n → Srt d c (min (c + bs) n)
theorem Srt.outside {d r : List S41} {a b p q : Nat} (h : Srt d p q) (k : Keep d r a b) (ho : q ≤ a ∨ b ≤ p) : Srt r p q := h.same (fun t t1 t2 => k.2.2.1 t (by omega))
theorem st_l2 (d0 : List S41) (hd : Small d0.length) (n bs : Nat) (hn : n = d0.length) (hbs : 0 < bs) (hbn : bs < n) (R : List S41 → Prop)
    (hc : ∀ d, Keep d0 d 0 n → Blk d (2 * bs) n → ∃ r, Ev (fun k => api_Span_76.l1 k d n ((2 * bs : Nat) : Int)) r ∧ R r) :
    ∀ (u a : Nat) (d : List S41), n - a ≤ u → a ≤ n → 2 * bs ∣ a → Keep d0 d 0 n → (∀ c, 2 * bs ∣ c → c < a → Srt d c (c + 2 * bs)) → (∀ c, bs ∣ c → a ≤ c → c < n → Srt d c (min (c + bs) n)) →
      ∃ r, Ev (fun k => api_Span_76.l2 k d n bs a ((a + 2 * bs : Nat) : Int)) r ∧ R r := by
  have hd' := hd
  simp only [Small] at hd'
  intro u
  induction u with
  | zero =>
    intro a d h1 h2 h3 hk hdone htodo
    obtain ⟨r, k1, k2⟩ := hc d hk (fun c c1 c2 => by
      have := dvd_step c1 h3 (by omega)
      rw [Nat.min_eq_left (by omega)]; exact hdone c c1 (by omega))
    refine ⟨r, Ev.step (fun k => ?_) k1, k2⟩
    simp only [api_Span_76.l2]
    rw [if_neg (by omega), wpB (i := a) (j := bs) (by omega) (by omega), if_neg (by omega), w2' (by omega)]
  | succ u ih =>
    intro a d h1 h2 h3 hk hdone htodo
    have hl := hk.1
    have hsd : Small d.length := by rw [hl]; exact hd
    have hba : bs ∣ a := Nat.dvd_trans (Nat.dvd_mul_left bs 2) h3
    by_cases hb : a + 2 * bs ≤ n
    · have s1 := htodo a hba (Nat.le_refl _) (by omega)
      rw [Nat.min_eq_left (by omega)] at s1
      have s2 := htodo (a + bs) (Nat.dvd_add hba (Nat.dvd_refl _)) (by omega) (by omega)
      rw [Nat.min_eq_left (by omega), show a + bs + bs = a + 2 * bs by omega] at s2
      obtain ⟨r1, k1, k2, k3⟩ := sym_ev d hsd a (a + bs) (a + 2 * bs) (by omega) (by omega) (by omega) s1 s2
      obtain ⟨r, j1, j2⟩ := ih (a + 2 * bs) r1 (by omega) hb (Nat.dvd_add h3 (Nat.dvd_refl _)) (hk.trans (k2.wide (by omega) hb)) (fun c c1 c2 => by
        by_cases e : c = a
        · subst e; exact k3
        · by_cases e2 : c < a
          · exact (hdone c c1 e2).outside k2 (.inl (dvd_step c1 h3 e2))
          · have := dvd_step h3 c1 (by omega); omega) (fun c c1 c2 c3 => (htodo c c1 (by omega) c3).outside k2 (.inr c2))
      refine ⟨r, Ev.step (fun k => ?_) (Ev.bind (f := fun k r1 => api_Span_76.l2 k r1 n bs ((a + 2 * bs : Nat) : Int) ((a + 2 * bs + 2 * bs : Nat) : Int)) k1 j1), j2⟩
      simp only [api_Span_76.l2]
      rw [if_pos (by omega), wpB (i := a) (j := bs) (by omega) (by omega), w2 (i := bs) (by omega), wpB (i := a + 2 * bs) (j := 2 * bs) (by omega) (by omega)]
    · by_cases hm : a + bs < n
      · have s1 := htodo a hba (Nat.le_refl _) (by omega)
        rw [Nat.min_eq_left (by omega)] at s1
        have s2 := htodo (a + bs) (Nat.dvd_add hba (Nat.dvd_refl _)) (by omega) (by omega)
        rw [Nat.min_eq_right (by omega)] at s2
        obtain ⟨r1, k1, k2, k3⟩ := sym_ev d hsd a (a + bs) n (by omega) (by omega) (by omega) s1 s2
        obtain ⟨r, j1, j2⟩ := hc r1 (hk.trans (k2.wide (by omega) (Nat.le_refl _))) (fun c c1 c2 => by
          by_cases e : c = a
          · subst e; rw [Nat.min_eq_right (by omega)]; exact k3
          · by_cases e2 : c < a
            · have := dvd_step c1 h3 e2
              rw [Nat.min_eq_left (by omega)]; exact (hdone c c1 e2).outside k2 (.inl this)
            · have := dvd_step h3 c1 (by omega); omega)
        refine ⟨r, Ev.step (fun k => ?_) (Ev.bind (f := fun k r1 => api_Span_76.l1 k r1 n ((2 * bs : Nat) : Int)) k1 j1), j2⟩
        simp only [api_Span_76.l2]
        rw [if_neg (by omega), wpB (i := a) (j := bs) (by omega) (by omega), if_pos (by omega), w2' (by omega)]
      · obtain ⟨r, j1, j2⟩ := hc d hk (fun c c1 c2 => by
          by_cases e : c = a
          · subst e
            have := htodo c hba (Nat.le_refl _) c2
            rw [Nat.min_eq_right (by omega)] at this ⊢
            exact this
          · by_cases e2 : c < a
            · have := dvd_step c1 h3 e2
              rw [Nat.min_eq_left (by omega)]; exact hdone c c1 e2
            · have := dvd_step h3 c1 (by omega); omega)
        refine ⟨r, Ev.step (fun k => ?_) j1, j2⟩
        simp only [api_Span_76.l2]
        rw [if_neg (by omega), wpB (i := a) (j := bs) (by omega) (by omega), if_neg (by omega), w2' (by omega)]
theorem st_l1 (d0 : List S41) (hd : Small d0.length) (n : Nat) (hn : n = d0.length) : ∀ (u bs : Nat) (d : List S41), n - bs ≤ u → 0 < bs → bs < 3000000 → Keep d0 d 0 n → Blk d bs n →
    ∃ r, Ev (fun k => api_Span_76.l1 k d n bs) r ∧ Keep d0 r 0 n ∧ Srt r 0 n := by
  have hd' := hd
  simp only [Small] at hd'
  have fin : ∀ (bs : Nat) (d : List S41), n ≤ bs → Keep d0 d 0 n → Blk d bs n → ∃ r, Ev (fun k => api_Span_76.l1 k d n bs) r ∧ Keep d0 r 0 n ∧ Srt r 0 n := by
    intro bs d h1 hk hb
    refine ⟨d, Ev.step (f := fun _ => some d) (fun k => ?_) (Ev.now _), hk, fun p q p1 p2 p3 => ?_⟩
    · simp only [api_Span_76.l1]
      rw [if_neg (by omega)]
    · have := hb 0 (Nat.dvd_zero _) (by omega)
      rw [Nat.min_eq_right (by omega)] at this
      exact this p q p1 p2 p3
  intro u
  induction u with
  | zero => intro bs d h1 h2 h3 hk hb; exact fin bs d (by omega) hk hb
  | succ u ih =>
    intro bs d h1 h2 h3 hk hb
    by_cases h : bs < n
    · obtain ⟨r, k1, k2⟩ := st_l2 d0 hd n bs hn h2 h (fun r => Keep d0 r 0 n ∧ Srt r 0 n) (fun d' k' b' => ih (2 * bs) d' (by omega) (by omega) (by omega) k' b') n 0 d (by omega) (by omega) (Nat.dvd_zero _) hk (fun c c1 c2 => by omega) (fun c c1 c2 c3 => hb c c1 c3)
      refine ⟨r, Ev.step (fun k => ?_) k1, k2⟩
      simp only [api_Span_76.l1]
      rw [if_pos (by omega), w2 (i := bs) (by omega), Nat.zero_add]; rfl
    · exact fin bs d (by omega) hk hb
theorem st_l0 (d0 : List S41) (hd : Small d0.length) (n : Nat) (hn : n = d0.length) : ∀ (u a : Nat) (d : List S41), n - a ≤ u → a ≤ n → 20 ∣ a → Keep d0 d 0 n → (∀ c, 20 ∣ c → c < a → Srt d c (c + 20)) →
    ∃ r, Ev (fun k => api_Span_76.l0 k d n 20 a ((a + 20 : Nat) : Int)) r ∧ Keep d0 r 0 n ∧ Srt r 0 n := by
  have hd' := hd
  simp only [Small] at hd'
  intro u
  have fin : ∀ (a : Nat) (d : List S41), ¬ a + 20 ≤ n → a ≤ n → 20 ∣ a → Keep d0 d 0 n → (∀ c, 20 ∣ c → c < a → Srt d c (c + 20)) → ∃ r, Ev (fun k => api_Span_76.l0 k d n 20 a ((a + 20 : Nat) : Int)) r ∧ Keep d0 r 0 n ∧ Srt r 0 n := by
    intro a d hb h2 h3 hk hdone
    have hl := hk.1
    obtain ⟨r1, k1, k2, k3⟩ := ins_ev d a n (by simp only [Small]; omega) h2 (by omega)
    obtain ⟨r, j1, j2⟩ := st_l1 d0 hd n hn n 20 r1 (by omega) (by omega) (by omega) (hk.trans (k2.wide (by omega) (Nat.le_refl _))) (fun c c1 c2 => by
      by_cases e : c = a
      · subst e; rw [Nat.min_eq_right (by omega)]; exact k3
      · by_cases e2 : c < a
        · have := dvd_step c1 h3 e2
          rw [Nat.min_eq_left (by omega)]; exact (hdone c c1 e2).outside k2 (.inl this)
        · have := dvd_step h3 c1 (by omega); omega)
    refine ⟨r, Ev.step (fun k => ?_) (Ev.bind (f := fun k r1 => api_Span_76.l1 k r1 n ((20 : Nat) : Int)) k1 j1), j2⟩
    simp only [api_Span_76.l0]
    rw [if_neg (by omega)]; rfl
  induction u with
  | zero => intro a d h1 h2 h3 hk hdone; exact fin a d (by omega) h2 h3 hk hdone
  | succ u ih =>
    intro a d h1 h2 h3 hk hdone
    have hl := hk.1
    by_cases hb : a + 20 ≤ n
    · obtain ⟨r1, k1, k2, k3⟩ := ins_ev d a (a + 20) (by simp only [Small]; omega) (by omega) (by omega)
      obtain ⟨r, j1, j2⟩ := ih (a + 20) r1 (by omega) hb (Nat.dvd_add h3 (Nat.dvd_refl _)) (hk.trans (k2.wide (by omega) hb)) (fun c c1 c2 => by
        by_cases e : c = a
        · subst e; exact k3
        · by_cases e2 : c < a
          · exact (hdone c c1 e2).outside k2 (.inl (dvd_step c1 h3 e2))
          · have := dvd_step h3 c1 (by omega); omega)
      refine ⟨r, Ev.step (fun k => ?_) (Ev.bind (f := fun k r1 => api_Span_76.l0 k r1 n 20 ((a + 20 : Nat) : Int) ((a + 20 + 20 : Nat) : Int)) k1 j1), j2⟩
      simp only [api_Span_76.l0]
      rw [if_pos (by omega), show wrap64 (((a + 20 : Nat) : Int) + 20) = ((a + 20 + 20 : Nat) : Int) from wpB (i := a + 20) (j := 20) (by omega) (by omega)]
    · exact fin a d hb h2 h3 hk hdone
theorem sort_ev (l : List S41) (hl : Small l.length) : ∃ s, Ev (fun k => api_Span_61.f k l) s ∧ s.Perm l ∧ Srt s 0 s.length := by
  obtain ⟨r, k1, k2, k3⟩ := st_l0 l hl l.length rfl l.length 0 l (by omega) (by omega) (Nat.dvd_zero _) (Keep.refl _ _ _) (fun c c1 c2 => by omega)
  refine ⟨r, ?_, k2.2.1, by rw [k2.1]; exact k3⟩
  unfold api_Span_61.f api_Span_76.f
  exact Ev.bind k1 (Ev.now r)
end Go.Proofs.Ytjefihcbhdennaa.Pure
namespace Go.Proofs.Ytjefihcbhdennaa.Pure
open Go.RowKit Go.Proofs.YtjefihcbhdennaaW.PrintWords Go.Proofs.Ytjefihcbhdennaa.S
def Rt (x : S41) : Prop := x.f1.toList = [] ∨ x.f0.toList < x.f1.toList
theorem rightB_iff (x : S41) : rightB x = true ↔ Rt x := by
  have h := rightB_eq x
  unfold span_Right.f at h
  simp only [bl] at h
  unfold Rt
  by_cases h1 : x.f1.toList = [] <;> by_cases h2 : x.f0.toList < x.f1.toList <;> simp [h1, h2] at h ⊢ <;> simp_all
def apart (c x : S41) : Prop := c.f1.toList ≠ [] ∧ c.f1.toList < x.f0.toList
noncomputable def grow (c x : S41) : S41 := by
  classical
  exact if c.f1.toList ≠ [] ∧ (x.f1.toList = [] ∨ c.f1.toList < x.f1.toList) then ⟨c.f0, x.f1⟩ else c
open Classical in
noncomputable def mg : S41 → List S41 → List S41
  | c, [] => [c]
  | c, x :: xs => if apart c x then c :: mg x xs else mg (grow c x) xs
theorem mstep_snoc (pre : List S41) (c x : S41) : (apart c x → mstep (pre ++ [c]) x = pre ++ [c] ++ [x]) ∧ (¬ apart c x → mstep (pre ++ [c]) x = pre ++ [grow c x]) := by
  have e : rd_T41 (pre ++ [c]) (((pre ++ [c]).length : Int) - 1) = c := by
    have : (((pre ++ [c]).length : Int) - 1) = ((pre.length : Nat) : Int) := by simp
    rw [this]; simp [rd_T41, List.getD_eq_getElem?_getD]
  have e2 : (((pre ++ [c]).length : Int) - 1).toNat = pre.length := by simp
  have e3 : ∀ y, (pre ++ [c]).set pre.length y = pre ++ [y] := fun y => by simp
  constructor
  · intro h
    unfold mstep
    rw [if_neg (by simp), e, if_pos ⟨h.1, by rw [bl]; exact decide_eq_true h.2⟩]
  · intro h
    unfold mstep
    rw [if_neg (by simp), e, if_neg (fun k => h ⟨k.1, by have := k.2; rw [bl] at this; exact of_decide_eq_true this⟩), e2]
    unfold grow
    simp only [bl, decide_eq_true_eq]
    split
    · exact e3 _
    · rfl
theorem fold_mg : ∀ (xs : List S41) (pre : List S41) (c : S41), xs.foldl mstep (pre ++ [c]) = pre ++ mg c xs
  | [], pre, c => rfl
  | x :: xs, pre, c => by
    rw [List.foldl_cons, mg]
    by_cases h : apart c x
    · rw [(mstep_snoc pre c x).1 h, fold_mg xs (pre ++ [c]) x, if_pos h]; simp
    · rw [(mstep_snoc pre c x).2 h, fold_mg xs pre (grow c x), if_neg h]
theorem fold_mg0 (x : S41) (xs : List S41) : (x :: xs).foldl mstep [] = mg x xs := by
  rw [List.foldl_cons, show mstep [] x = [] ++ [x] by unfold mstep; rw [if_pos rfl]; rfl, fold_mg]; rfl
def has (x : S41) (k : List UInt8) : Prop := ¬ k < x.f0.toList ∧ (x.f1.toList = [] ∨ k < x.f1.toList)
def Nrm : List S41 → Prop
  | [] => True
  | x :: t => Rt x ∧ (∀ y, t.head? = some y → apart x y) ∧ Nrm t
theorem nlt_trans {a b c : List UInt8} (h : ¬ b < a) (k : ¬ c < b) : ¬ c < a := fun hc => by
  rcases lt_tri a b with e | e | e
  · exact k (ltt hc e)
  · subst e; exact k hc
  · exact h e
theorem lt_nlt {a b c : List UInt8} (h : a < b) (k : ¬ c < b) : a < c := by
  rcases lt_tri b c with e | e | e
  · exact ltt h e
  · subst e; exact h
  · exact absurd e k
theorem grow_has (c x : S41) (hle : le c x) (ha : ¬ apart c x) (k : List UInt8) : has (grow c x) k ↔ has c k ∨ has x k := by
  unfold apart at ha
  unfold grow
  by_cases h1 : c.f1.toList = []
  · rw [if_neg (fun h => h.1 h1)]
    exact ⟨.inl, fun h => h.elim id (fun h => ⟨nlt_trans hle h.1, .inl h1⟩)⟩
  · have h2 : ¬ c.f1.toList < x.f0.toList := fun h => ha ⟨h1, h⟩
    by_cases h3 : x.f1.toList = [] ∨ c.f1.toList < x.f1.toList
    · rw [if_pos ⟨h1, h3⟩]
      constructor
      · rintro ⟨k1, k2⟩
        by_cases k3 : k < c.f1.toList
        · exact .inl ⟨k1, .inr k3⟩
        · exact .inr ⟨nlt_trans h2 k3, k2⟩
      · rintro (⟨k1, k2⟩ | ⟨k1, k2⟩)
        · exact ⟨k1, h3.imp id (fun h => ltt (k2.resolve_left h1) h)⟩
        · exact ⟨nlt_trans hle k1, k2⟩
    · rw [if_neg (fun h => h3 h.2)]
      refine ⟨.inl, fun h => h.elim id (fun h => ⟨nlt_trans hle h.1, .inr ?_⟩)⟩
      have k2 := h.2.resolve_left (fun e => h3 (.inl e))
      exact lt_nlt k2 (fun e => h3 (.inr e))
theorem grow_f0 (c x : S41) : (grow c x).f0 = c.f0 := by unfold grow; split <;> rfl
theorem grow_rt (c x : S41) (hc : Rt c) : Rt (grow c x) := by
  unfold grow
  split
  · rename_i h
    rcases h.2 with e | e
    · exact .inl e
    · exact .inr (ltt (hc.resolve_left h.1) e)
  · exact hc
theorem mg_spec : ∀ (xs : List S41) (c : S41), Rt c → (∀ x ∈ xs, Rt x) → (∀ x ∈ xs, le c x) → xs.Pairwise le → Nrm (mg c xs) ∧ (∃ y t, mg c xs = y :: t ∧ y.f0 = c.f0) ∧ ∀ k, (∃ y ∈ mg c xs, has y k) ↔ has c k ∨ ∃ x ∈ xs, has x k
  | [], c, hc, _, _, _ => ⟨⟨hc, ⟨fun y h => (by cases h), trivial⟩⟩, ⟨c, [], rfl, rfl⟩, fun k => by simp [mg]⟩
  | x :: xs, c, hc, hx, hl, hp => by
    rw [List.pairwise_cons] at hp
    rw [mg]
    by_cases h : apart c x
    · rw [if_pos h]
      obtain ⟨h1, ⟨y, t, h2, h3⟩, h4⟩ := mg_spec xs x (hx x List.mem_cons_self) (fun z hz => hx z (List.mem_cons_of_mem _ hz)) hp.1 hp.2
      refine ⟨⟨hc, fun z hz => ?_, h1⟩, ⟨c, _, rfl, rfl⟩, fun k => ?_⟩
      · rw [h2] at hz
        obtain rfl := Option.some.inj hz
        exact ⟨h.1, by rw [h3]; exact h.2⟩
      · simp only [List.mem_cons, exists_eq_or_imp]
        rw [h4]
    · rw [if_neg h]
      obtain ⟨h1, ⟨y, t, h2, h3⟩, h4⟩ := mg_spec xs (grow c x) (grow_rt c x hc) (fun z hz => hx z (List.mem_cons_of_mem _ hz)) (fun z hz => by
        have := hl z (List.mem_cons_of_mem _ hz)
        unfold le at this ⊢
        rw [grow_f0]; exact this) hp.2
      refine ⟨h1, ⟨y, t, h2, h3.trans (grow_f0 c x)⟩, fun k => ?_⟩
      rw [h4, grow_has c x (hl x List.mem_cons_self) h]
      simp only [List.mem_cons, exists_eq_or_imp]
      exact or_assoc
end Go.Proofs.Ytjefihcbhdennaa.Pure
namespace Go.Proofs.Ytjefihcbhdennaa.S
open Go.RowKit Go.Proofs.YtjefihcbhdennaaW.PrintWords Go.Proofs.YtjefihcbhdennaaW.PrintLast Go.Proofs.YtjefihcbhdennaaW.PrintMore
attribute [local go_sem] max2_int min2_int max2_str min2_str str_leq str_gtr str_geq max_two min_two max_three min_three max_four min_four   -- for this text's walks alone
set_option linter.unusedVariables false
set_option linter.unusedSimpArgs false
def conductorref09_touches.f (a0_0 : ByteArray) (a0_1 : ByteArray) (a1_0 : ByteArray) (a1_1 : ByteArray) : Option (Bool) := if a0_1.toList = ([] : List UInt8) then (if a1_1.toList = ([] : List UInt8) then (some true) else (some (!(Op.bytesLess a1_1.toList a0_0.toList)))) else (if ((Op.bytesLess a0_1.toList a1_0.toList) = true) then (some false) else (if a1_1.toList = ([] : List UInt8) then (some true) else (some (!(Op.bytesLess a1_1.toList a0_0.toList)))))
end Go.Proofs.Ytjefihcbhdennaa.S
namespace Go.Proofs.Ytjefihcbhdennaa.Pure
open Go.RowKit Go.Proofs.YtjefihcbhdennaaW.PrintWords Go.Proofs.Ytjefihcbhdennaa.S
def mem (l : List S41) (k : List UInt8) : Prop := ∃ x ∈ l, has x k
theorem mem_cons (x : S41) (l : List S41) (k : List UInt8) : mem (x :: l) k ↔ has x k ∨ mem l k := by simp [mem]
theorem mem_nil (k : List UInt8) : ¬ mem [] k := by simp [mem]
theorem mem_append (a b : List S41) (k : List UInt8) : mem (a ++ b) k ↔ mem a k ∨ mem b k := by
  simp only [mem, List.mem_append]
  constructor
  · rintro ⟨x, h | h, k⟩
    · exact .inl ⟨x, h, k⟩
    · exact .inr ⟨x, h, k⟩
  · rintro (⟨x, h, k⟩ | ⟨x, h, k⟩)
    · exact ⟨x, .inl h, k⟩
    · exact ⟨x, .inr h, k⟩
theorem lt_not {a b : List UInt8} (h : a < b) : ¬ b < a := fun k => lti _ (ltt h k)
theorem has_rt {x : S41} {k : List UInt8} (h : has x k) : Rt x := by
  by_cases e : x.f1.toList = []
  · exact .inl e
  · refine .inr ?_
    have h2 := h.2.resolve_left e
    rcases lt_tri k x.f0.toList with c | c | c
    · exact absurd c h.1
    · rw [← c]; exact h2
    · exact ltt c h2
theorem has_lo {x : S41} (h : Rt x) : has x x.f0.toList := ⟨lti _, h⟩
theorem apart_trans {a b c : S41} (hb : Rt b) (h : apart a b) (k : apart b c) : apart a c :=
  ⟨h.1, ltt h.2 (ltt (hb.resolve_left k.1) k.2)⟩
def NP (l : List S41) : Prop := (∀ x ∈ l, Rt x) ∧ l.Pairwise apart
theorem Nrm.np : ∀ {l : List S41}, Nrm l → NP l
  | [], _ => ⟨fun x h => (by cases h), List.Pairwise.nil⟩
  | x :: l, h => by
    obtain ⟨h1, h2, h3⟩ := h
    obtain ⟨k1, k2⟩ := h3.np
    refine ⟨fun y hy => ?_, List.Pairwise.cons (fun y hy => ?_) k2⟩
    · rcases List.mem_cons.1 hy with e | e
      · subst e; exact h1
      · exact k1 y e
    · cases l with
      | nil => cases hy
      | cons z t =>
        have hz := h2 z rfl
        rcases List.mem_cons.1 hy with e | e
        · subst e; exact hz
        · exact apart_trans (k1 z List.mem_cons_self) hz ((List.pairwise_cons.1 k2).1 y e)
theorem NP.nrm : ∀ {l : List S41}, NP l → Nrm l
  | [], _ => trivial
  | x :: l, h => by
    obtain ⟨h1, h2⟩ := h
    rw [List.pairwise_cons] at h2
    refine ⟨h1 x List.mem_cons_self, fun y hy => h2.1 y ?_, NP.nrm ⟨fun y hy => h1 y (List.mem_cons_of_mem _ hy), h2.2⟩⟩
    cases l with
    | nil => cases hy
    | cons z t => obtain rfl := Option.some.inj hy; exact List.mem_cons_self
theorem NP.tail {x : S41} {l : List S41} (h : NP (x :: l)) : NP l := ⟨fun y hy => h.1 y (List.mem_cons_of_mem _ hy), (List.pairwise_cons.1 h.2).2⟩
theorem NP.ap {x : S41} {l : List S41} (h : NP (x :: l)) {y : S41} (hy : y ∈ l) : apart x y := (List.pairwise_cons.1 h.2).1 y hy
theorem NP.rt {x : S41} {l : List S41} (h : NP (x :: l)) : Rt x := h.1 x List.mem_cons_self
theorem NP.behind {x : S41} {l : List S41} (h : NP (x :: l)) {k : List UInt8} (hk : mem l k) : x.f1.toList ≠ [] ∧ x.f1.toList < k := by
  obtain ⟨y, hy, h1⟩ := hk
  have ha := h.ap hy
  exact ⟨ha.1, lt_nlt ha.2 h1.1⟩
theorem NP.lo {x : S41} {l : List S41} (h : NP (x :: l)) {k : List UInt8} (hk : mem (x :: l) k) : ¬ k < x.f0.toList := by
  rw [mem_cons] at hk
  rcases hk with e | e
  · exact e.1
  · obtain ⟨h1, h2⟩ := h.behind e
    exact lt_not (ltt (h.rt.resolve_left h1) h2)
theorem nlt_eq {a b : List UInt8} (h : ¬ a < b) (k : ¬ b < a) : a = b := (lt_tri a b).elim (fun e => absurd e h) (fun e => e.elim id (fun e => absurd e k))
theorem ba_ext {a b : ByteArray} (h : a.toList = b.toList) : a = b := by
  rw [Lib.toList_data, Lib.toList_data] at h
  have : a.data.toList = b.data.toList := h
  cases a; cases b; congr 1; exact Array.toList_inj.1 this
theorem S41.ext' {x y : S41} (h : x.f0.toList = y.f0.toList) (k : x.f1.toList = y.f1.toList) : x = y := by
  cases x; cases y; simp only at h k; rw [ba_ext h, ba_ext k]
theorem hi_le {x y : S41} {l m : List S41} (hl : NP (x :: l)) (hm : NP (y :: m)) (h0 : x.f0.toList = y.f0.toList) (h : ∀ k, mem (x :: l) k → mem (y :: m) k) (hy : y.f1.toList ≠ []) : x.f1.toList ≠ [] ∧ ¬ y.f1.toList < x.f1.toList := by
  have hn : ¬ mem (y :: m) y.f1.toList := fun hk => by
    rw [mem_cons] at hk
    rcases hk with e | e
    · exact lti _ (e.2.resolve_left hy)
    · exact lti _ (hm.behind e).2
  have hlo : ¬ y.f1.toList < x.f0.toList := by rw [h0]; exact lt_not (hm.rt.resolve_left hy)
  exact ⟨fun e => hn (h _ ((mem_cons _ _ _).2 (.inl ⟨hlo, .inl e⟩))), fun e => hn (h _ ((mem_cons _ _ _).2 (.inl ⟨hlo, .inr e⟩)))⟩
theorem np_uniq : ∀ {l m : List S41}, NP l → NP m → (∀ k, mem l k ↔ mem m k) → l = m
  | [], [], _, _, _ => rfl
  | [], y :: m, _, hm, h => absurd ((h y.f0.toList).2 ((mem_cons _ _ _).2 (.inl (has_lo hm.rt)))) (mem_nil _)
  | x :: l, [], hl, _, h => absurd ((h x.f0.toList).1 ((mem_cons _ _ _).2 (.inl (has_lo hl.rt)))) (mem_nil _)
  | x :: l, y :: m, hl, hm, h => by
    have h0 : x.f0.toList = y.f0.toList := nlt_eq (hm.lo ((h _).1 ((mem_cons _ _ _).2 (.inl (has_lo hl.rt))))) (hl.lo ((h _).2 ((mem_cons _ _ _).2 (.inl (has_lo hm.rt)))))
    have h1 : x.f1.toList = y.f1.toList := by
      by_cases ey : y.f1.toList = []
      · by_cases ex : x.f1.toList = []
        · rw [ex, ey]
        · exact absurd ey (hi_le hm hl h0.symm (fun k => (h k).2) ex).1
      · obtain ⟨a1, a2⟩ := hi_le hl hm h0 (fun k => (h k).1) ey
        exact nlt_eq (hi_le hm hl h0.symm (fun k => (h k).2) a1).2 a2
    obtain rfl := S41.ext' h0 h1
    congr 1
    refine np_uniq hl.tail hm.tail fun k => ?_
    have hd : ∀ {q : List S41}, NP (x :: q) → mem q k → ¬ has x k := fun hq hk hx => by
      obtain ⟨b1, b2⟩ := hq.behind hk
      exact lti _ (ltt b2 (hx.2.resolve_left b1))
    have hk := h k
    rw [mem_cons, mem_cons] at hk
    constructor
    · intro e
      exact (hk.1 (.inr e)).resolve_left (hd hl e)
    · intro e
      exact (hk.2 (.inr e)).resolve_left (hd hm e)
theorem mem_filter (l : List S41) (k : List UInt8) : mem (l.filter rightB) k ↔ mem l k := by
  simp only [mem, List.mem_filter]
  exact ⟨fun ⟨x, h1, h2⟩ => ⟨x, h1.1, h2⟩, fun ⟨x, h1, h2⟩ => ⟨x, ⟨h1, (rightB_iff x).2 (has_rt h2)⟩, h2⟩⟩
theorem mem_perm {a b : List S41} (h : a.Perm b) (k : List UInt8) : mem a k ↔ mem b k := by
  simp only [mem]
  exact ⟨fun ⟨x, h1, h2⟩ => ⟨x, h.mem_iff.1 h1, h2⟩, fun ⟨x, h1, h2⟩ => ⟨x, h.mem_iff.2 h1, h2⟩⟩
theorem srt_pw {s : List S41} (h : Srt s 0 s.length) : s.Pairwise le := by
  rw [List.pairwise_iff_getElem]
  intro i j hi hj hij
  have := h i j (by omega) hij hj
  rwa [g_get s i hi, g_get s j hj] at this
theorem join_ev (a b : List S41) (hs : a.length + b.length < 1000000) : ∃ j, Ev (fun k => span_Join.f k a b) j ∧ NP j ∧ (∀ k, mem j k ↔ mem a k ∨ mem b k) ∧ j.length ≤ a.length + b.length := by
  have hlen : ((a ++ b).filter rightB).length ≤ a.length + b.length := by
    have := List.length_filter_le rightB (a ++ b)
    rwa [List.length_append] at this
  obtain ⟨s, h1, h2, h3⟩ := sort_ev ((a ++ b).filter rightB) (by simp only [Small]; omega)
  have hsl : s.length ≤ a.length + b.length := by rw [h2.length_eq]; exact hlen
  have hml := mfold_len s []
  refine ⟨s.foldl mstep [], ?_, ?_, ?_, by rw [List.length_nil] at hml; omega⟩
  · unfold span_Join.f
    refine Ev.congr (fun k => by rw [if_pos (by omega)]) (Ev.bind h1 ?_)
    refine Ev.congr (f := fun _ => some (s.foldl mstep [])) (fun k => by rw [if_pos (by omega)]) (Ev.now _)
  · cases s with
    | nil => exact ⟨fun x h => (by cases h), List.Pairwise.nil⟩
    | cons x t =>
      rw [fold_mg0]
      have hr : ∀ y ∈ x :: t, Rt y := fun y hy => (rightB_iff y).1 (List.mem_filter.1 (h2.mem_iff.1 hy)).2
      have hp := srt_pw h3
      rw [List.pairwise_cons] at hp
      exact (mg_spec t x (hr x List.mem_cons_self) (fun y hy => hr y (List.mem_cons_of_mem _ hy)) hp.1 hp.2).1.np
  · intro k
    rw [← mem_append, ← mem_filter (a ++ b), ← mem_perm h2]
    cases s with
    | nil => rfl
    | cons x t =>
      rw [fold_mg0]
      have hr : ∀ y ∈ x :: t, Rt y := fun y hy => (rightB_iff y).1 (List.mem_filter.1 (h2.mem_iff.1 hy)).2
      have hp := srt_pw h3
      rw [List.pairwise_cons] at hp
      rw [mem_cons]
      exact (mg_spec t x (hr x List.mem_cons_self) (fun y hy => hr y (List.mem_cons_of_mem _ hy)) hp.1 hp.2).2.2 k
open Classical in
noncomputable def touchB (a b : S41) : Bool := decide (¬ apart a b ∧ ¬ apart b a)
theorem touch_f (a b : S41) : conductorref09_touches.f a.f0 a.f1 b.f0 b.f1 = some (touchB a b) := by
  unfold conductorref09_touches.f touchB apart
  simp only [bl]
  by_cases h1 : a.f1.toList = [] <;> by_cases h2 : b.f1.toList = [] <;> by_cases h3 : a.f1.toList < b.f0.toList <;> by_cases h4 : b.f1.toList < a.f0.toList <;> simp [h1, h2, h3, h4]
theorem touch_iff {a b : S41} : touchB a b = true ↔ ¬ apart a b ∧ ¬ apart b a := by unfold touchB; simp
def covS (a b : S41) : S41 := ⟨Lib.minS a.f0 b.f0, if a.f1.toList = [] then ⟨#[]⟩ else if b.f1.toList = [] then ⟨#[]⟩ else Lib.maxS a.f1 b.f1⟩
theorem cover_f (a b : S41) : conductorref09_cover.f a.f0 a.f1 b.f0 b.f1 = some ((covS a b).f0, (covS a b).f1) := by
  unfold conductorref09_cover.f covS
  by_cases h1 : a.f1.toList = [] <;> by_cases h2 : b.f1.toList = [] <;> simp [h1, h2]
theorem minS_toList (x y : ByteArray) : (Lib.minS x y).toList = if y.toList < x.toList then y.toList else x.toList := by
  unfold Lib.minS
  rw [Lib.toList_data, Lib.toList_data, Lib.toList_data]
  rcases lt_tri x.data.toList y.data.toList with h | h | h
  · rw [if_pos (.inl h), if_neg (lt_not h)]
  · rw [if_pos (.inr h), if_neg (by rw [h]; exact lti _)]
  · rw [if_neg (by rintro (e | e); exact lt_not h e; rw [e] at h; exact lti _ h), if_pos h]
theorem cov_f0 (a b : S41) : (covS a b).f0.toList = if b.f0.toList < a.f0.toList then b.f0.toList else a.f0.toList := minS_toList _ _
theorem cov_f1 (a b : S41) : (covS a b).f1.toList = if a.f1.toList = [] then [] else if b.f1.toList = [] then [] else if a.f1.toList < b.f1.toList then b.f1.toList else a.f1.toList := by
  unfold covS
  have e : (⟨#[]⟩ : ByteArray).toList = [] := by simp
  by_cases h1 : a.f1.toList = [] <;> by_cases h2 : b.f1.toList = [] <;> simp only [h1, h2, if_true, if_false, e]
  exact maxS_toList _ _
theorem nil_lt (a : List UInt8) : ¬ a < [] := List.not_lt_nil a
theorem cov_has {a b : S41} (h : touchB a b = true) (k : List UInt8) : has (covS a b) k ↔ has a k ∨ has b k := by
  rw [touch_iff] at h
  unfold apart at h
  unfold has
  rw [cov_f0, cov_f1]
  have n1 := nil_lt k
  have n2 := nil_lt a.f1.toList
  have n3 := nil_lt b.f1.toList
  grind
theorem cov_rt {a b : S41} (ha : Rt a) (hb : Rt b) : Rt (covS a b) := by
  unfold Rt at *
  rw [cov_f0, cov_f1]
  grind
noncomputable def gro (s x : S41) : S41 := if touchB x s = true then covS x s else s
theorem gro_spec : ∀ (l : List S41) (pre : List S41) (s : S41), NP (pre ++ l) → Rt s → (∀ x ∈ pre, apart x s ∨ apart s x ∨ ∀ k, has x k → has s k) →
    Rt (l.foldl gro s) ∧ (∀ x ∈ pre ++ l, apart x (l.foldl gro s) ∨ apart (l.foldl gro s) x ∨ ∀ k, has x k → has (l.foldl gro s) k) ∧ (∀ k, has s k → has (l.foldl gro s) k) ∧ (∀ k, has (l.foldl gro s) k → has s k ∨ mem l k)
  | [], pre, s, _, hs, hp => ⟨hs, by simpa using hp, fun _ h => h, fun _ h => .inl h⟩
  | y :: l, pre, s, hn, hs, hp => by
    have hn' : NP ((pre ++ [y]) ++ l) := by rwa [List.append_assoc]
    have hy : Rt y := hn.1 y (by simp)
    have hpy : ∀ x ∈ pre, apart x y := fun x hx => (List.pairwise_append.1 hn.2).2.2 x hx y List.mem_cons_self
    rw [List.foldl_cons]
    by_cases ht : touchB y s = true
    · have e : gro s y = covS y s := by unfold gro; rw [if_pos ht]
      rw [e]
      have hc := fun k => cov_has ht k
      obtain ⟨a1, a2, a3, a4⟩ := gro_spec l (pre ++ [y]) (covS y s) hn' (cov_rt hy hs) (fun x hx => by
        rcases List.mem_append.1 hx with hx | hx
        · have hxr : Rt x := hn.1 x (List.mem_append_left _ hx)
          rcases hp x hx with p | p | p
          · refine .inl ⟨p.1, ?_⟩
            rw [cov_f0]
            have := (hpy x hx).2
            have := p.2
            grind
          · exact absurd (apart_trans hxr p (hpy x hx)) ((touch_iff.1 ht).2)
          · exact .inr (.inr fun k hk => (hc k).2 (.inr (p k hk)))
        · rw [List.mem_singleton] at hx; subst hx
          exact .inr (.inr fun k hk => (hc k).2 (.inl hk)))
      rw [List.append_assoc] at a2
      refine ⟨a1, a2, fun k hk => a3 k ((hc k).2 (.inr hk)), fun k hk => ?_⟩
      rw [mem_cons]
      rcases a4 k hk with q | q
      · rcases (hc k).1 q with q | q
        · exact .inr (.inl q)
        · exact .inl q
      · exact .inr (.inr q)
    · have e : gro s y = s := by unfold gro; rw [if_neg ht]
      rw [e]
      obtain ⟨a1, a2, a3, a4⟩ := gro_spec l (pre ++ [y]) s hn' hs (fun x hx => by
        rcases List.mem_append.1 hx with hx | hx
        · exact hp x hx
        · rw [List.mem_singleton] at hx; subst hx
          rw [touch_iff] at ht
          by_cases c : apart x s
          · exact .inl c
          · exact .inr (.inl (by simpa [c] using ht)))
      rw [List.append_assoc] at a2
      refine ⟨a1, a2, a3, fun k hk => ?_⟩
      rw [mem_cons]
      exact (a4 k hk).imp id .inr
theorem two_filters (p q : S41 → Bool) (h : ∀ x, p x = true → q x = false) : ∀ l : List S41, (l.filter p).length + (l.filter q).length ≤ l.length
  | [] => by simp
  | x :: l => by
    have := two_filters p q h l
    rw [List.filter_cons, List.filter_cons]
    cases hp : p x with
    | true => rw [h x hp]; simp only [if_true, Bool.false_eq_true, if_false, List.length_cons]; omega
    | false => cases q x <;> simp only [if_true, Bool.false_eq_true, if_false, List.length_cons] <;> omega
open Classical in
noncomputable def putS (l : List S41) (s : S41) : List S41 := l.filter (fun x => !touchB x (l.foldl gro s) && decide (x.f0.toList < (l.foldl gro s).f0.toList)) ++ (l.foldl gro s) :: l.filter (fun x => !touchB x (l.foldl gro s) && decide ((l.foldl gro s).f0.toList < x.f0.toList))
theorem putS_spec (l : List S41) (s : S41) (hl : NP l) (hs : Rt s) : NP (putS l s) ∧ (∀ k, mem (putS l s) k ↔ mem l k ∨ has s k) ∧ (putS l s).length ≤ l.length + 1 := by
  obtain ⟨a1, a2, a3, a4⟩ := gro_spec l [] s hl hs (fun x hx => (by cases hx))
  unfold putS
  generalize l.foldl gro s = q at a1 a2 a3 a4
  simp only [List.nil_append] at a2
  have f1 : ∀ x ∈ l, (!touchB x q && decide (x.f0.toList < q.f0.toList)) = true ↔ apart x q := fun x hx => by
    have hx := hl.1 x hx
    have ht := @touch_iff x q
    unfold apart at ht
    unfold Rt at hx a1
    unfold apart
    have n1 := nil_lt x.f0.toList
    have n2 := nil_lt q.f0.toList
    cases e : touchB x q <;> simp only [e, Bool.not_true, Bool.not_false, Bool.false_and, Bool.true_and, decide_eq_true_eq] at ht ⊢ <;> grind
  have f2 : ∀ x ∈ l, (!touchB x q && decide (q.f0.toList < x.f0.toList)) = true ↔ apart q x := fun x hx => by
    have hx := hl.1 x hx
    have ht := @touch_iff x q
    unfold apart at ht
    unfold Rt at hx a1
    unfold apart
    have n1 := nil_lt x.f0.toList
    have n2 := nil_lt q.f0.toList
    cases e : touchB x q <;> simp only [e, Bool.not_true, Bool.not_false, Bool.false_and, Bool.true_and, decide_eq_true_eq] at ht ⊢ <;> grind
  refine ⟨⟨fun x hx => ?_, ?_⟩, fun k => ?_, ?_⟩
  · rcases List.mem_append.1 hx with hx | hx
    · exact hl.1 x ((List.mem_filter.1 hx).1)
    · rcases List.mem_cons.1 hx with hx | hx
      · rw [hx]; exact a1
      · exact hl.1 x ((List.mem_filter.1 hx).1)
  · rw [List.pairwise_append, List.pairwise_cons]
    refine ⟨hl.2.filter _, ⟨fun x hx => ?_, hl.2.filter _⟩, fun x hx y hy => ?_⟩
    · rw [List.mem_filter] at hx
      exact (f2 x hx.1).1 hx.2
    · rw [List.mem_filter] at hx
      have h1 := (f1 x hx.1).1 hx.2
      rcases List.mem_cons.1 hy with e | e
      · rw [e]; exact h1
      · rw [List.mem_filter] at e
        exact apart_trans a1 h1 ((f2 y e.1).1 e.2)
  · rw [mem_append, mem_cons]
    have m : ∀ p : S41 → Bool, mem (l.filter p) k → mem l k := fun p ⟨x, hx, hk⟩ => ⟨x, (List.mem_filter.1 hx).1, hk⟩
    constructor
    · rintro (h | h | h)
      · exact .inl (m _ h)
      · exact (a4 k h).symm
      · exact .inl (m _ h)
    · rintro (⟨x, hx, hk⟩ | h)
      · rcases a2 x hx with p | p | p
        · exact .inl ⟨x, List.mem_filter.2 ⟨hx, (f1 x hx).2 p⟩, hk⟩
        · exact .inr (.inr ⟨x, List.mem_filter.2 ⟨hx, (f2 x hx).2 p⟩, hk⟩)
        · exact .inr (.inl (p k hk))
      · exact .inr (.inl (a3 k h))
  · rw [List.length_append, List.length_cons]
    have := two_filters (fun x => !touchB x q && decide (x.f0.toList < q.f0.toList)) (fun x => !touchB x q && decide (q.f0.toList < x.f0.toList)) (fun x hp => by
      simp only [Bool.and_eq_true, decide_eq_true_eq] at hp
      simp [lt_not hp.2]) l
    omega
end Go.Proofs.Ytjefihcbhdennaa.Pure
namespace Go.Proofs.Ytjefihcbhdennaa.S
open Go.RowKit Go.Proofs.YtjefihcbhdennaaW.PrintWords Go.Proofs.YtjefihcbhdennaaW.PrintLast Go.Proofs.YtjefihcbhdennaaW.PrintMore
attribute [local go_sem] max2_int min2_int max2_str min2_str str_leq str_gtr str_geq max_two min_two max_three min_three max_four min_four   -- for this text's walks alone
set_option linter.unusedVariables false
set_option linter.unusedSimpArgs false
mutual
def conductorref09_put.l0 : Nat → List (S41) → List (S41) → List (S41) → Int → Int → ByteArray → ByteArray → Option ((List (S41)))
 | 0, _, _, _, _, _, _, _ => none
 | k + 1, x0, x5, x13, x14, x15, x202000, x202001 => if x15 < x14 then (if 0 ≤ x15 then (if x15 < (x13.length : Int) then ((conductorref09_touches.f ((rd_T41 x13 x15).f0) ((rd_T41 x13 x15).f1) x202000 x202001).bind fun t207 => (if t207 = true then ((conductorref09_cover.f ((rd_T41 x13 x15).f0) ((rd_T41 x13 x15).f1) x202000 x202001).bind fun bt208 => (conductorref09_put.l0 k x0 x5 x13 x14 (wrap64 (x15 + 1)) bt208.1 bt208.2)) else (conductorref09_put.l0 k x0 x5 x13 x14 (wrap64 (x15 + 1)) x202000 x202001))) else (none)) else (none)) else (conductorref09_put.l1 k x0 x5 x0 (x0.length : Int) 0 x202000 x202001)
def conductorref09_put.l1 : Nat → List (S41) → List (S41) → List (S41) → Int → Int → ByteArray → ByteArray → Option ((List (S41)))
 | 0, _, _, _, _, _, _, _ => none
 | k + 1, x0, x5, x26, x27, x28, x202000, x202001 => if x28 < x27 then (if 0 ≤ x28 then (if x28 < (x26.length : Int) then ((conductorref09_touches.f ((rd_T41 x26 x28).f0) ((rd_T41 x26 x28).f1) x202000 x202001).bind fun t212 => (if t212 = true then (conductorref09_put.l1 k x0 x5 x26 x27 (wrap64 (x28 + 1)) x202000 x202001) else (if (Op.bytesLess (((rd_T41 x26 x28).f0).toList) x202000.toList) = true then (if x5.length < 4398046511104 then (conductorref09_put.l1 k x0 (x5 ++ [(⟨(rd_T41 x26 x28).f0, (rd_T41 x26 x28).f1⟩ : S41)]) x26 x27 (wrap64 (x28 + 1)) x202000 x202001) else (none)) else (conductorref09_put.l1 k x0 x5 x26 x27 (wrap64 (x28 + 1)) x202000 x202001)))) else (none)) else (none)) else (if x5.length < 4398046511104 then (conductorref09_put.l2 k (x5 ++ [(⟨x202000, x202001⟩ : S41)]) x0 (x0.length : Int) 0 x202000 x202001) else (none))
def conductorref09_put.l2 : Nat → List (S41) → List (S41) → Int → Int → ByteArray → ByteArray → Option ((List (S41)))
 | 0, _, _, _, _, _, _ => none
 | k + 1, x5, x52, x53, x54, x202000, x202001 => if x54 < x53 then (if 0 ≤ x54 then (if x54 < (x52.length : Int) then ((conductorref09_touches.f ((rd_T41 x52 x54).f0) ((rd_T41 x52 x54).f1) x202000 x202001).bind fun t221 => (if t221 = true then (conductorref09_put.l2 k x5 x52 x53 (wrap64 (x54 + 1)) x202000 x202001) else (if (Op.bytesLess x202000.toList (((rd_T41 x52 x54).f0).toList)) = true then (if x5.length < 4398046511104 then (conductorref09_put.l2 k (x5 ++ [(⟨(rd_T41 x52 x54).f0, (rd_T41 x52 x54).f1⟩ : S41)]) x52 x53 (wrap64 (x54 + 1)) x202000 x202001) else (none)) else (conductorref09_put.l2 k x5 x52 x53 (wrap64 (x54 + 1)) x202000 x202001)))) else (none)) else (none)) else (some x5)
end
def conductorref09_put.f (k : Nat) (l0 : List (S41)) (a1_0 : ByteArray) (a1_1 : ByteArray) : Option ((List (S41))) := conductorref09_put.l0 k l0 (([] : List (S41))) l0 (l0.length : Int) 0 a1_0 a1_1
end Go.Proofs.Ytjefihcbhdennaa.S
namespace Go.Proofs.Ytjefihcbhdennaa.S
open Go.RowKit Go.Proofs.YtjefihcbhdennaaW.PrintWords Go.Proofs.YtjefihcbhdennaaW.PrintLast Go.Proofs.YtjefihcbhdennaaW.PrintMore
attribute [local go_sem] max2_int min2_int max2_str min2_str str_leq str_gtr str_geq max_two min_two max_three min_three max_four min_four   -- for this text's walks alone
set_option linter.unusedVariables false
set_option linter.unusedSimpArgs false
def conductorref09_Join.l0 : Nat → List (S41) → List (S41) → Int → Int → Option ((List (S41)))
 | 0, _, _, _, _ => none
 | k + 1, x5, x13, x14, x15 => if x15 < x14 then (if 0 ≤ x15 then (if x15 < (x13.length : Int) then ((conductorref09_Right.f ((rd_T41 x13 x15).f0) ((rd_T41 x13 x15).f1)).bind fun t239 => (if t239 = true then ((conductorref09_put.f k x5 ((rd_T41 x13 x15).f0) ((rd_T41 x13 x15).f1)).bind fun t240 => (conductorref09_Join.l0 k t240 x13 x14 (wrap64 (x15 + 1)))) else (conductorref09_Join.l0 k x5 x13 x14 (wrap64 (x15 + 1))))) else (none)) else (none)) else (some x5)
def conductorref09_Join.f (k : Nat) (l0 : List (S41)) (l1 : List (S41)) : Option ((List (S41))) := (some (([] : List (S41)) : List (S41))).bind fun y228 => (if y228.length + l0.length < 4398046511104 then ((some (y228 ++ l0 : List (S41))).bind fun y231 => (if y231.length + l1.length < 4398046511104 then ((some (y231 ++ l1 : List (S41))).bind fun y234 => (conductorref09_Join.l0 k (([] : List (S41))) y234 (y234.length : Int) 0)) else (none))) else (none))
end Go.Proofs.Ytjefihcbhdennaa.S
