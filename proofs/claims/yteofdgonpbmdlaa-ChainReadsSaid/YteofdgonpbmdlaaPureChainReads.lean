/- The plain law of ChainReads: what the printed functions compute answers true at every input. No condition. -/
import Derived.Test.YteofdgonpbmdlaaCL
import Derived.Test.YteofdgonpbmdlaaC0
import Derived.Test.YteofdgonpbmdlaaC2
import Derived.Test.YteofdgonpbmdlaaC8
import Derived.Test.YteofdgonpbmdlaaC12
import Derived.Test.YteofdgonpbmdlaaC20
namespace Go.Proofs.Yteofdgonpbmdlaa.Pure
open Go.RowKit Go.Proofs.YteofdgonpbmdlaaW.PrintWords Go.Proofs.Yteofdgonpbmdlaa.C

theorem ChainReads (l : List S28) (hm : l.length ≤ 9223372036854775807) (_hw : ∀ x ∈ l, (Lit.int .u64 x.f0).wf = true ∧ True ∧ ∀ n ∈ x.f2, (Lit.int .u8 n).wf = true) (a : Int) (_ha : (Lit.int .u64 a).wf = true) (b : Int) (_hb : (Lit.int .u64 b).wf = true) : ∃ k, conductorlaw07_ChainReads.f k l a b = some true := by
  refine Ev.rounds ?_
  unfold conductorlaw07_ChainReads.f
  refine Ev.bind live_ev ?_
  simp only [if_true]
  refine Ev.bind (few_ev l hm) ?_
  have hj : Ev (fun k => conductorlaw07_ChainReads.j0 k l a b true) true := by
    refine Ev.step (f := fun k => (conductorlaw07_live.f k).bind fun t => some t) (fun k => by simp only [conductorlaw07_ChainReads.j0, if_true]) (Ev.bind live_ev (Ev.now _))
  cases hfw : fewB l with
  | false => simpa using hj
  | true =>
  simp only [if_true]
  obtain ⟨hl, hf⟩ := fewB_spec hfw
  refine Ev.bind (cRight_ev l hm) ?_
  cases hr : rgt 0 l with
  | false => simpa using hj
  | true =>
  simp only [if_true]
  by_cases hab : b < a
  · simpa only [decide_eq_true hab] using hj
  rw [decide_eq_false hab]
  obtain ⟨n, _, hn⟩ := upto_is l a hr
  obtain ⟨n', _, hn'⟩ := upto_is l b hr
  refine Ev.step (fun k => by simp only [conductorlaw07_ChainReads.j0, Bool.false_eq_true, if_false]; rfl) ?_
  refine Ev.bind (cTrim_ev hr (by omega) hf hn) ?_
  refine Ev.bind (g := fun _ => chain_Get.f l b) (Ev.congr (fun _ => get_eq hr hf (by omega) hn') (Ev.now _)) ?_
  have hle : n ≤ n' := hn.le hn' (by omega)
  have htn := tAt_le l n
  have hdr := hn'.drop (tAt l n) (by omega)
  have hrd := rgt_drop hr (tAt l n)
  refine Ev.bind (g := fun _ => chain_Get.f (l.drop (tAt l n)) b) (Ev.congr (fun _ => get_eq hrd (fun v hv => hf v (List.mem_of_mem_drop hv)) (by rw [List.length_drop]; omega) hdr) (Ev.now _)) ?_
  rw [get_trim hn hn' hle]
  refine Ev.bind (g := fun _ => conductorref01_Equal.f (getV l n').1 (getV l n').1) (Ev.congr (fun _ => eq_refl _) (Ev.now _)) ?_
  simp only [if_true, beq_self_eq_true]
  refine Ev.bind (cRight_ev _ (by rw [List.length_drop]; omega)) ?_
  rw [hrd]
  exact Ev.now _

end Go.Proofs.Yteofdgonpbmdlaa.Pure
