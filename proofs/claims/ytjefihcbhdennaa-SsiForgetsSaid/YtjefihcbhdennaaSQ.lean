/- few records, and Forget. -/
import Derived.Test.YtjefihcbhdennaaSJ
import Derived.Test.YtjefihcbhdennaaSK
namespace Go.Proofs.Ytjefihcbhdennaa.Pure
open Go.RowKit Go.Proofs.YtjefihcbhdennaaW.PrintWords Go.Proofs.YtjefihcbhdennaaW.PrintMore Go.Proofs.Ytjefihcbhdennaa.S
theorem few1_ev (t : S26) (ht : W26 t) : Ev (fun k => conductorlaw10_few.f k [(⟨t.f0, t.f1, t.f2, t.f3, t.f4, t.f5⟩ : S26)]) (fewB [t]) :=
  few_ev [t] (by simp) (fun r hr => by rw [List.mem_singleton] at hr; subst hr; exact ⟨ht.2.2.2.2.1.1, ht.2.2.2.2.2.1⟩)
theorem few_wf (l : List S26) (hl : l.length ≤ 9223372036854775807) (hw : ∀ x ∈ l, W26 x) : Ev (fun k => conductorlaw10_few.f k l) (fewB l) :=
  few_ev l hl (fun r hr => ⟨(hw r hr).2.2.2.2.1.1, (hw r hr).2.2.2.2.2.1⟩)
theorem fewB_spec {l : List S26} (h : fewB l = true) : l.length ≤ 20 ∧ ∀ r ∈ l, r.f4.length ≤ 40 ∧ r.f5.length ≤ 40 := by
  simp only [fewB, FewB, Bool.and_eq_true, decide_eq_true_eq, List.all_eq_true] at h
  exact ⟨by omega, fun r hr => by have := h.2 r hr; omega⟩
end Go.Proofs.Ytjefihcbhdennaa.Pure
