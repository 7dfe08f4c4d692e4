/- The plain law of ChainStays: what the printed functions compute answers true at every input. No condition. -/
import Derived.Test.YteofdgonpbmdlaaCL
import Derived.Test.YteofdgonpbmdlaaC0
import Derived.Test.YteofdgonpbmdlaaC2
import Derived.Test.YteofdgonpbmdlaaC8
import Derived.Test.YteofdgonpbmdlaaC12
import Derived.Test.YteofdgonpbmdlaaC21
namespace Go.Proofs.Yteofdgonpbmdlaa.Pure
open Go.RowKit Go.Proofs.YteofdgonpbmdlaaW.PrintWords Go.Proofs.Yteofdgonpbmdlaa.C

theorem ChainStays (l : List S28) (hm : l.length ≤ 9223372036854775807) (_hw : ∀ x ∈ l, (Lit.int .u64 x.f0).wf = true ∧ True ∧ ∀ n ∈ x.f2, (Lit.int .u8 n).wf = true) (v : S28) (_hv : (Lit.int .u64 v.f0).wf = true ∧ True ∧ ∀ n ∈ v.f2, (Lit.int .u8 n).wf = true) (_hvm : v.f2.length ≤ 9223372036854775807) (a : Int) (_ha : (Lit.int .u64 a).wf = true) : ∃ k, conductorlaw07_ChainStays.f k l v.f0 v.f1 v.f2 a = some true := by
  refine Ev.rounds ?_
  unfold conductorlaw07_ChainStays.f
  refine Ev.bind live_ev ?_
  simp only [if_true]
  refine Ev.bind (few_ev l hm) ?_
  have hj : Ev (fun k => conductorlaw07_ChainStays.j0 k l a true v.f0 v.f1 v.f2) true := by
    refine Ev.step (f := fun k => (conductorlaw07_live.f k).bind fun t => some t) (fun k => by simp only [conductorlaw07_ChainStays.j0, if_true]) (Ev.bind live_ev (Ev.now _))
  cases hfw : fewB l with
  | false => simpa using hj
  | true =>
  simp only [if_true]
  obtain ⟨hl, hf⟩ := fewB_spec hfw
  by_cases h1000 : (v.f2.length : Int) > 1000
  · simpa only [decide_eq_true h1000] using hj
  rw [decide_eq_false h1000]
  have hv1 : v.f2.length ≤ 1000 := by omega
  refine Ev.step (fun k => by simp only [conductorlaw07_ChainStays.j0, Bool.false_eq_true, if_false]; rfl) ?_
  by_cases hok : rgt 0 l = true ∧ rgt 0 [v] = true ∧ ¬ v.f0 ≤ (if h : 0 < l.length then l[l.length - 1].f0 else 0)
  · obtain ⟨h1, h2, h3⟩ := hok
    refine Ev.bind (cPut_ok (by omega) hf v hv1 h1 h2 h3) ?_
    simp only [if_true]
    obtain ⟨n, _, hn⟩ := upto_is l a h1
    refine Ev.bind (g := fun _ => chain_Get.f l a) (Ev.congr (fun _ => get_eq h1 hf (by omega) hn) (Ev.now _)) ?_
    have hlt : ∀ j (h : j < l.length), l[j].f0 < v.f0 := fun j h => by
      rw [dif_pos (by omega)] at h3
      by_cases he : j = l.length - 1
      · subst he; omega
      · have := pw_lt ((rgt_iff l 0).1 h1).2 (show j < l.length - 1 by omega) (by omega); omega
    have hr2 : rgt 0 (l ++ [v]) = true := by
      rw [rgt_iff] at h1 h2 ⊢
      refine ⟨fun x hx => ?_, ?_⟩
      · rcases List.mem_append.1 hx with hx | hx
        · exact h1.1 x hx
        · exact h2.1 x hx
      · rw [List.pairwise_append]
        refine ⟨h1.2, h2.2, fun x hx y hy => ?_⟩
        obtain ⟨i, hi, rfl⟩ := List.getElem_of_mem hx
        rw [List.mem_singleton.1 hy]
        exact hlt i hi
    have hf2 : ∀ w ∈ l ++ [v], w.f2.length ≤ 1000 := fun w hw => by
      rcases List.mem_append.1 hw with hw | hw
      · exact hf w hw
      · rw [List.mem_singleton.1 hw]; exact hv1
    have hl2 : (l ++ [v]).length ≤ 1000 := by simp; omega
    by_cases hav : a ≥ v.f0
    · have hn2 : Upto (l ++ [v]) a (l.length + 1) := by
        refine ⟨by simp, fun j h _ => ?_, fun j h hj => by simp at h; omega⟩
        by_cases hj : j < l.length
        · rw [List.getElem_append_left hj]; have := hlt j hj; omega
        · have : j = l.length := by simp at h; omega
          subst this; simpa using hav
      refine Ev.bind (g := fun _ => chain_Get.f (l ++ [v]) a) (Ev.congr (fun _ => get_eq hr2 hf2 hl2 hn2) (Ev.now _)) ?_
      simp only [if_pos hav]
      rw [getV_pos ⟨by omega, by simp⟩]
      simp only [Nat.add_sub_cancel, List.getElem_append_right (Nat.le_refl _), Nat.sub_self, List.getElem_singleton]
      cases hg : v.f1 with
      | true => simp only [if_true, Bool.false_bne]; exact Ev.now _
      | false =>
        simp only [Bool.false_eq_true, if_false, Bool.bne_false, if_true]
        exact Ev.bind (g := fun _ => conductorref01_Equal.f v.f2 v.f2) (Ev.congr (fun _ => eq_refl _) (Ev.now _)) (Ev.now _)
    · have hn2 : Upto (l ++ [v]) a n := by
        have hnl := hn.1
        refine ⟨by simp; omega, fun j h hj => ?_, fun j h hj => ?_⟩
        · rw [List.getElem_append_left (by omega)]; exact hn.2.1 j (by omega) hj
        · by_cases hj2 : j < l.length
          · rw [List.getElem_append_left hj2]; exact hn.2.2 j hj2 hj
          · have : j = l.length := by simp at h; omega
            subst this; simp; omega
      refine Ev.bind (g := fun _ => chain_Get.f (l ++ [v]) a) (Ev.congr (fun _ => get_eq hr2 hf2 hl2 hn2) (Ev.now _)) ?_
      simp only [if_neg hav]
      have e : getV (l ++ [v]) n = getV l n := by
        have hnl := hn.1
        by_cases h0 : 0 < n
        · rw [getV_pos ⟨h0, by simp; omega⟩, getV_pos ⟨h0, hnl⟩]
          have : (l ++ [v])[n - 1]'(by simp; omega) = l[n - 1] := List.getElem_append_left (by omega)
          rw [this]
        · rw [getV_neg (by omega), getV_neg (by omega)]
      rw [e]
      refine Ev.bind (g := fun _ => conductorref01_Equal.f (getV l n).1 (getV l n).1) (Ev.congr (fun _ => eq_refl _) (Ev.now _)) ?_
      simp only [if_true, beq_self_eq_true]
      exact Ev.now _
  · obtain ⟨e, he, hp⟩ := cPut_no (l := l) (by omega) v hok
    refine Ev.bind hp ?_
    simp only [if_neg he]
    exact Ev.now _

end Go.Proofs.Yteofdgonpbmdlaa.Pure
