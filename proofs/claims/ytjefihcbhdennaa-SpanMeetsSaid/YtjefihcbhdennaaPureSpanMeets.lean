/- The plain law of SpanMeets. -/
import Derived.Test.YtjefihcbhdennaaSM
import Derived.Test.YtjefihcbhdennaaS0
import Derived.Test.YtjefihcbhdennaaS26
import Derived.Test.YtjefihcbhdennaaS27
import Derived.Test.YtjefihcbhdennaaS28
import Derived.Test.YtjefihcbhdennaaS30
import Derived.Test.YtjefihcbhdennaaS31
import Derived.Test.YtjefihcbhdennaaS32
import Derived.Test.YtjefihcbhdennaaSK
namespace Go.Proofs.Ytjefihcbhdennaa.Pure
open Go.RowKit Go.Proofs.YtjefihcbhdennaaW.PrintWords Go.Proofs.Ytjefihcbhdennaa.S
theorem rHas_eq' (a b c : ByteArray) : conductorref09_Has.f a b c = span_Has.f a b c := rfl
theorem hasB_iff (x : S41) (key : ByteArray) : hasB x key = true ↔ ¬ key.toList < x.f0.toList ∧ (x.f1.toList = [] ∨ key.toList < x.f1.toList) := by
  have h := hasB_eq x key
  unfold span_Has.f at h
  simp only [bl] at h
  by_cases h1 : key.toList < x.f0.toList <;> by_cases h2 : x.f1.toList = [] <;> by_cases h3 : key.toList < x.f1.toList <;> simp [h1, h2, h3] at h ⊢ <;> simp_all
theorem meets_has (x y : S41) : (hasB x (Lib.maxS x.f0 y.f0) && hasB y (Lib.maxS x.f0 y.f0)) = meetsB x y := by
  have h := refMeets x y
  unfold conductorref09_Meets.f at h
  rw [rHas_eq', rHas_eq', hasB_eq x, hasB_eq y] at h
  cases h1 : hasB x (Lib.maxS x.f0 y.f0) <;> simp [h1] at h ⊢ <;> exact h
theorem both_meets {x y : S41} {key : ByteArray} (h1 : hasB x key = true) (h2 : hasB y key = true) : meetsB x y = true := by
  rw [hasB_iff] at h1 h2
  rw [meetsB_iff]
  have f : ∀ {a c : List UInt8}, ¬ key.toList < a → key.toList < c → a < c := fun {a c} h k => by
    rcases lt_tri a key.toList with e | e | e
    · exact ltt e k
    · rw [e]; exact k
    · exact absurd e h
  exact ⟨h1.2.imp id (f h1.1), h2.2.imp id (f h2.1), h1.2.imp id (f h2.1), h2.2.imp id (f h1.1)⟩
theorem meetsB_comm (x y : S41) : meetsB x y = meetsB y x := by
  rw [Bool.eq_iff_iff, meetsB_iff, meetsB_iff]
  constructor <;> rintro ⟨a, b, c, d⟩ <;> exact ⟨b, a, d, c⟩
theorem meetL_iff (a b : List S41) : meetL a b = true ↔ ∃ x ∈ a, ∃ y ∈ b, meetsB x y = true := by simp [meetL]
theorem meetL_comm (a b : List S41) : meetL a b = meetL b a := by
  rw [Bool.eq_iff_iff, meetL_iff, meetL_iff]
  constructor <;> rintro ⟨x, hx, y, hy, h⟩ <;> exact ⟨y, hy, x, hx, by rw [meetsB_comm]; exact h⟩
theorem in_meets (a b : List S41) (key : ByteArray) (h1 : (a.any fun x => hasB x key) = true) (h2 : (b.any fun x => hasB x key) = true) : meetL a b = true := by
  rw [List.any_eq_true] at h1 h2
  obtain ⟨x, hx, h1⟩ := h1
  obtain ⟨y, hy, h2⟩ := h2
  rw [meetL_iff]; exact ⟨x, hx, y, hy, both_meets h1 h2⟩
theorem sm_loop1 (a b : List S41) (hb : b.length ≤ 9223372036854775807) (key : ByteArray) (n i : Int) (x : S41) (p : Bool) (R : Bool)
    (hc : Ev (fun k => conductorlaw09_SpanMeets.l0 k a b key (p || b.any fun y => meetsB x y) a n (wrap64 (i + 1))) R) : ∀ (d j : Nat) (q : Bool), j + d = b.length → (q || (b.drop j).any fun y => meetsB x y) = (p || b.any fun y => meetsB x y) →
    Ev (fun k => conductorlaw09_SpanMeets.l1 k a b key q a n i b (b.length : Int) (j : Int) x.f0 x.f1) R := by
  intro d
  induction d with
  | zero =>
    intro j q hd hq
    rw [List.drop_eq_nil_of_le (by omega), List.any_nil, Bool.or_false] at hq
    rw [← hq] at hc
    refine Ev.step (fun k => ?_) hc
    simp only [conductorlaw09_SpanMeets.l1]
    rw [if_neg (by omega)]
  | succ d ih =>
    intro j q hd hq
    have hj : j < b.length := by omega
    rw [List.drop_eq_getElem_cons hj, List.any_cons] at hq
    cases q with
    | true =>
      refine Ev.step (fun k => ?_) (ih (j + 1) true (by omega) (by rw [← hq]; simp))
      simp only [conductorlaw09_SpanMeets.l1]
      rw [if_pos (by omega), if_pos (by omega), if_pos (by omega), if_pos trivial, w1 hj hb]
    | false =>
      have hm := meets_has x b[j]
      refine Ev.step (fun k => ?_) (ih (j + 1) (meetsB x b[j]) (by omega) (by rw [← hq]; simp))
      simp only [conductorlaw09_SpanMeets.l1]
      rw [if_pos (by omega), if_pos (by omega), if_pos (by omega), if_neg (by decide), rd41 _ j hj, hasB_eq x, hasB_eq b[j], w1 hj hb]
      simp only [Option.bind_some]
      cases h1 : hasB x (Lib.maxS x.f0 b[j].f0) with
      | true => rw [h1, Bool.true_and] at hm; rw [if_pos rfl, hm]
      | false => rw [h1, Bool.false_and] at hm; rw [if_neg (by decide), ← hm]
theorem sm_j3 (a b : List S41) (key : ByteArray) : Ev (fun k => conductorlaw09_SpanMeets.j3 k a b (meetL a b) false) true := by
  refine Ev.step (f := fun _ => some true) (fun k => ?_) (Ev.now true)
  simp only [conductorlaw09_SpanMeets.j3, if_false, Bool.false_eq_true, meet_f, Option.bind_some, meetL_comm b a]
  simp
theorem sm_loop0 (a b : List S41) (ha : a.length ≤ 9223372036854775807) (hb : b.length ≤ 9223372036854775807) (key : ByteArray) : ∀ (d i : Nat) (p : Bool), i + d = a.length → (p || meetL (a.drop i) b) = meetL a b →
    Ev (fun k => conductorlaw09_SpanMeets.l0 k a b key p a (a.length : Int) (i : Int)) true := by
  intro d
  induction d with
  | zero =>
    intro i p hd hp
    rw [List.drop_eq_nil_of_le (by omega), show meetL [] b = false from rfl, Bool.or_false] at hp
    subst hp
    have h3 := sm_j3 a b key
    refine Ev.step (f := fun k => conductorlaw09_SpanMeets.j3 k a b (meetL a b) false) (fun k => ?_) h3
    simp only [conductorlaw09_SpanMeets.l0]
    rw [if_neg (by omega)]
    simp only [span_In.f, Option.bind_some]
    cases h1 : (a.any fun x => hasB x key) with
    | false => rw [if_neg (by decide)]
    | true =>
      rw [if_pos rfl]
      cases h2 : (b.any fun x => hasB x key) with
      | false => rw [if_neg (by decide)]
      | true => rw [if_pos rfl, in_meets a b key h1 h2]; rfl
  | succ d ih =>
    intro i p hd hp
    have hi : i < a.length := by omega
    rw [List.drop_eq_getElem_cons hi] at hp
    have h0 := ih (i + 1) (p || b.any fun y => meetsB a[i] y) (by omega) (by rw [← hp, Bool.or_assoc]; rfl)
    rw [← w1 hi ha] at h0
    have h1 := sm_loop1 a b hb key (a.length : Int) (i : Int) a[i] p true h0 b.length 0 p (by omega) (by rw [List.drop_zero])
    refine Ev.step (fun k => ?_) h1
    simp only [conductorlaw09_SpanMeets.l0]
    rw [if_pos (by omega), if_pos (by omega), if_pos (by omega), rd41 _ i hi]; rfl
theorem SpanMeets (a : List S41) (ha : a.length ≤ 9223372036854775807) (wa : WL41 a) (b : List S41) (hb : b.length ≤ 9223372036854775807) (wb : WL41 b) (key : ByteArray) (hk : key.size ≤ 9223372036854775807) :
    ∃ k, conductorlaw09_SpanMeets.f k a b key = some true := by
  refine Ev.rounds (g := fun k => conductorlaw09_SpanMeets.f k a b key) ?_
  have hlive : Ev (fun k => conductorlaw09_SpanMeets.j0 k a b key true) true :=
    Ev.step (fun k => by simp only [conductorlaw09_SpanMeets.j0, if_true]) (Ev.bind live09_ev (Ev.now true))
  unfold conductorlaw09_SpanMeets.f
  refine Ev.bind live09_ev (Ev.congr (fun k => by rw [if_pos rfl]) (Ev.bind (Few_ev a ha) ?_))
  cases FewB a with
  | false => exact Ev.congr (fun k => by rw [if_neg (by decide)]) hlive
  | true =>
    refine Ev.congr (fun k => by rw [if_pos rfl]) (Ev.bind (Few_ev b hb) ?_)
    cases FewB b with
    | false => exact Ev.congr (fun k => by rw [if_neg (by decide)]) hlive
    | true =>
      by_cases hs : (key.size : Int) > 300
      · exact Ev.congr (fun k => by rw [if_pos rfl, decide_eq_true hs]) hlive
      · refine Ev.congr (f := fun k => conductorlaw09_SpanMeets.j0 k a b key false) (fun k => by rw [if_pos rfl, decide_eq_false hs]) ?_
        refine Ev.step (fun k => ?_) (sm_loop0 a b ha hb key a.length 0 false (by omega) (by simp))
        simp only [conductorlaw09_SpanMeets.j0, if_false, Bool.false_eq_true]; rfl
end Go.Proofs.Ytjefihcbhdennaa.Pure
