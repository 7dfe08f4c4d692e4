/- The plain law of SpanOnes. -/
import Derived.Test.YtjefihcbhdennaaSM
import Derived.Test.YtjefihcbhdennaaS0
import Derived.Test.YtjefihcbhdennaaS16
import Derived.Test.YtjefihcbhdennaaS19
import Derived.Test.YtjefihcbhdennaaS26
import Derived.Test.YtjefihcbhdennaaS27
import Derived.Test.YtjefihcbhdennaaS29
import Derived.Test.YtjefihcbhdennaaS31
import Derived.Test.YtjefihcbhdennaaSK
namespace Go.Proofs.Ytjefihcbhdennaa.Pure
open Go.RowKit Go.Proofs.YtjefihcbhdennaaW.PrintWords Go.Proofs.Ytjefihcbhdennaa.S
theorem rRight_eq (a b : ByteArray) : conductorref09_Right.f a b = span_Right.f a b := rfl
theorem rHas_eq (a b c : ByteArray) : conductorref09_Has.f a b c = span_Has.f a b c := rfl
theorem right_some (a b : ByteArray) : ∃ r, span_Right.f a b = some r := by unfold span_Right.f; split <;> exact ⟨_, rfl⟩
theorem has_some (a b c : ByteArray) : ∃ r, span_Has.f a b c = some r := by unfold span_Has.f; split; exact ⟨_, rfl⟩; split <;> exact ⟨_, rfl⟩
theorem SpanOnes (a : S41) (ha : W41 a) (b : S41) (hb : W41 b) (key : ByteArray) (hk : key.size ≤ 9223372036854775807) :
    ∃ k, conductorlaw09_SpanOnes.f k a.f0 a.f1 b.f0 b.f1 key = some true := by
  refine Ev.rounds (g := fun k => conductorlaw09_SpanOnes.f k a.f0 a.f1 b.f0 b.f1 key) ?_
  have hlive : Ev (fun k => conductorlaw09_SpanOnes.j0 k key true a.f0 a.f1 b.f0 b.f1) true :=
    Ev.step (fun k => by simp only [conductorlaw09_SpanOnes.j0, if_true]) (Ev.bind live09_ev (Ev.now true))
  unfold conductorlaw09_SpanOnes.f
  refine Ev.bind live09_ev (Ev.congr (fun k => by rw [if_pos rfl]) (Ev.bind (Few_ev [a, b] (by simp)) ?_))
  cases hf : FewB [a, b] with
  | false => exact Ev.congr (fun k => by rw [if_neg (by decide)]) hlive
  | true =>
    by_cases hs : (key.size : Int) > 300
    · exact Ev.congr (fun k => by rw [if_pos rfl, decide_eq_true hs]) hlive
    · refine Ev.congr (f := fun k => conductorlaw09_SpanOnes.j0 k key false a.f0 a.f1 b.f0 b.f1) (fun k => by rw [if_pos rfl, decide_eq_false hs]) ?_
      obtain ⟨r1, h1⟩ := right_some a.f0 a.f1
      obtain ⟨r2, h2⟩ := has_some a.f0 a.f1 key
      refine Ev.step (f := fun _ => some true) (fun k => ?_) (Ev.now true)
      simp only [conductorlaw09_SpanOnes.j0, if_false, Bool.false_eq_true, span_Point.f, conductorref09_Point.f, rRight_eq, rHas_eq, h1, h2, refMeets, meetsB_eq]
      rw [if_pos (show key.size + 1 ≤ 9223372036854775807 by omega)]
      simp [meetsB_eq, refMeets]
end Go.Proofs.Ytjefihcbhdennaa.Pure
