/- The plain law of ChainPuts: what the printed functions compute answers true at every input. No condition. -/
import Derived.Test.YteofdgonpbmdlaaCL
import Derived.Test.YteofdgonpbmdlaaC0
import Derived.Test.YteofdgonpbmdlaaC6
import Derived.Test.YteofdgonpbmdlaaC8
import Derived.Test.YteofdgonpbmdlaaC15
import Derived.Test.YteofdgonpbmdlaaC17
namespace Go.Proofs.Yteofdgonpbmdlaa.Pure
open Go.RowKit Go.Proofs.YteofdgonpbmdlaaW.PrintWords Go.Proofs.Yteofdgonpbmdlaa.C

theorem ChainPuts (l : List S28) (hm : l.length ≤ 9223372036854775807) (hw : ∀ x ∈ l, (Lit.int .u64 x.f0).wf = true ∧ True ∧ ∀ n ∈ x.f2, (Lit.int .u8 n).wf = true) (v : S28) (_hv : (Lit.int .u64 v.f0).wf = true ∧ True ∧ ∀ n ∈ v.f2, (Lit.int .u8 n).wf = true) (_hvm : v.f2.length ≤ 9223372036854775807) : ∃ k, conductorlaw07_ChainPuts.f k l v.f0 v.f1 v.f2 = some true := by
  refine Ev.rounds ?_
  unfold conductorlaw07_ChainPuts.f
  refine Ev.bind live_ev ?_
  simp only [if_true]
  refine Ev.bind (few_ev l hm) ?_
  have hj : Ev (fun k => conductorlaw07_ChainPuts.j0 k l true v.f0 v.f1 v.f2) true := by
    refine Ev.step (f := fun k => (conductorlaw07_live.f k).bind fun t => some t) (fun k => by simp only [conductorlaw07_ChainPuts.j0, if_true]) (Ev.bind live_ev (Ev.now _))
  cases hfw : fewB l with
  | false => simpa using hj
  | true =>
  simp only [if_true]
  obtain ⟨hl, hf⟩ := fewB_spec hfw
  by_cases h1000 : (v.f2.length : Int) > 1000
  · simpa only [decide_eq_true h1000] using hj
  rw [decide_eq_false h1000]
  have hv1 : v.f2.length ≤ 1000 := by omega
  refine Ev.step (fun k => by simp only [conductorlaw07_ChainPuts.j0, Bool.false_eq_true, if_false, Option.bind_some, List.length_nil, List.nil_append]; rw [if_pos (by omega)]) ?_
  obtain ⟨r, hc, hr, hrl⟩ : ∃ r : List S28 × Int, Ev (fun k => chain_Put.f k l v.f0 v.f1 v.f2) r ∧ Ev (fun k => conductorref07_Put.f k l v.f0 v.f1 v.f2) r ∧ r.1.length ≤ 1000 := put_both l (by omega) hw hf v hv1
  refine Ev.bind hc ?_
  refine Ev.bind hr ?_
  refine Ev.bind (rSame_refl _ (by omega)) ?_
  simp only [if_true]
  exact Ev.bind (rSame_refl l hm) (Ev.now _)

end Go.Proofs.Yteofdgonpbmdlaa.Pure
