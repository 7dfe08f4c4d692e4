/- The plain law of ChainFinds: what the printed functions compute answers true at every input. No condition. -/
import Derived.Test.YteofdgonpbmdlaaCL
import Derived.Test.YteofdgonpbmdlaaC0
import Derived.Test.YteofdgonpbmdlaaC2
import Derived.Test.YteofdgonpbmdlaaC3
import Derived.Test.YteofdgonpbmdlaaC8
import Derived.Test.YteofdgonpbmdlaaC12
import Derived.Test.YteofdgonpbmdlaaC13
import Derived.Test.YteofdgonpbmdlaaC14
namespace Go.Proofs.Yteofdgonpbmdlaa.Pure
open Go.RowKit Go.Proofs.YteofdgonpbmdlaaW.PrintWords Go.Proofs.Yteofdgonpbmdlaa.C

theorem ChainFinds (l : List S28) (hm : l.length ≤ 9223372036854775807) (hw : ∀ x ∈ l, (Lit.int .u64 x.f0).wf = true ∧ True ∧ ∀ n ∈ x.f2, (Lit.int .u8 n).wf = true) (a : Int) (_ha : (Lit.int .u64 a).wf = true) : ∃ k, conductorlaw07_ChainFinds.f k l a = some true := by
  refine Ev.rounds ?_
  unfold conductorlaw07_ChainFinds.f
  refine Ev.bind live_ev ?_
  simp only [if_true]
  refine Ev.bind (few_ev l hm) ?_
  have hj : Ev (fun k => conductorlaw07_ChainFinds.j0 k l a true) true := by
    refine Ev.step (f := fun k => (conductorlaw07_live.f k).bind fun t => some t) (fun k => by simp only [conductorlaw07_ChainFinds.j0, if_true]) (Ev.bind live_ev (Ev.now _))
  cases hfw : fewB l with
  | false => simpa using hj
  | true =>
  simp only [if_true]
  obtain ⟨hl, hf⟩ := fewB_spec hfw
  refine Ev.bind (rRight_ev l hm) ?_
  cases hr : rgt 0 l with
  | false => simpa using hj
  | true =>
  obtain ⟨n, _, hn⟩ := upto_is l a hr
  refine Ev.step (fun k => by simp only [conductorlaw07_ChainFinds.j0, Bool.not_true, Bool.false_eq_true, if_false]; rfl) ?_
  refine Ev.bind (g := fun _ => chain_Find.f l a) (Ev.congr (fun _ => find_eq hr hf (by omega) hn) (Ev.now _)) ?_
  refine Ev.bind (rFind_ev l (by omega) a hn) ?_
  refine Ev.bind (g := fun _ => chain_Get.f l a) (Ev.congr (fun _ => get_eq hr hf (by omega) hn) (Ev.now _)) ?_
  refine Ev.bind (rGet_ev l (by omega) a hn) ?_
  refine Ev.bind (g := fun _ => conductorref07_SameOne.f (fndV l n).1 (fndV l n).2.1 (fndV l n).2.2.1 (fndV l n).1 (fndV l n).2.1 (fndV l n).2.2.1) (a := true) (Ev.congr (fun _ => (sameOne_eq ⟨(fndV l n).1, (fndV l n).2.1, (fndV l n).2.2.1⟩ ⟨(fndV l n).1, (fndV l n).2.1, (fndV l n).2.2.1⟩).trans (by rw [sameV_refl])) (Ev.now _)) ?_
  simp only [if_true, beq_self_eq_true]
  refine Ev.bind (g := fun _ => conductorref01_Equal.f (getV l n).1 (getV l n).1) (Ev.congr (fun _ => eq_refl _) (Ev.now _)) ?_
  simp only [if_true]
  refine Ev.bind (g := fun _ => chain_Last.f l) (Ev.congr (fun _ => last_eq (by omega)) (Ev.now _)) ?_
  refine Ev.bind (rLast_ev l (by omega) hw) ?_
  simp only [beq_self_eq_true]
  exact Ev.now _

end Go.Proofs.Yteofdgonpbmdlaa.Pure
