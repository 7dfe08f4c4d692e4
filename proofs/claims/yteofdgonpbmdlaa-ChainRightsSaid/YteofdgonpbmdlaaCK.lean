/- The types of the chain laws' arguments: what reads as data reads as the printed kinds. -/
import Derived.Test.YteofdgonpbmdlaaC0
import Derived.Test.YteofdgonpbmdlaaO
namespace Go.Proofs.Yteofdgonpbmdlaa.C
open Go.RowKit Go.Proofs.YteofdgonpbmdlaaW.PrintWords
theorem wf_u64 {n : Int} (h : (Lit.int .u64 n).wf = true) : 0 ≤ n ∧ n ≤ 18446744073709551615 := by
  simp [Lit.wf] at h
  first | exact h | (have := h.1; have := h.2; exact ⟨by omega, by omega⟩) | (unfold IntKind.min IntKind.max at h; simp at h; omega)
theorem wf_u8 {n : Int} (h : (Lit.int .u8 n).wf = true) : 0 ≤ n ∧ n ≤ 255 := by
  simp [Lit.wf] at h
  first | exact h | (have := h.1; have := h.2; exact ⟨by omega, by omega⟩)
theorem wf_i64 {n : Int} (h : (Lit.int .i64 n).wf = true) : -9223372036854775808 ≤ n ∧ n ≤ 9223372036854775807 := by
  simp [Lit.wf] at h
  first | exact h | (have := h.1; have := h.2; exact ⟨by omega, by omega⟩)
theorem opens26 : Kd.Opens Try.prog 26 (Kd.slice 5 (Kd.int .u8)) (fun xs => ∀ n ∈ xs, (Lit.int .u8 n).wf = true) := Kd.opens_slice Try.underlying26 (by kernel_rfl) (Kd.opens_int Try.underlying5)
theorem opens28 : Kd.Opens Try.prog 28 k28 (fun x => (Lit.int .u64 x.f0).wf = true ∧ True ∧ ∀ n ∈ x.f2, (Lit.int .u8 n).wf = true) :=
  Kd.opens_struct (fun x : S28 => (x.f0, x.f1, x.f2)) (fun p => ⟨p.1, p.2.1, p.2.2⟩) (fun _ => rfl) Try.underlying28 (by kernel_rfl)
    (Kd.opensF_cons rfl (by kernel_rfl) (Kd.opens_int Try.underlying23) (Kd.opensF_cons rfl (by kernel_rfl) (Kd.opens_bool Try.underlying4) (Kd.opensF_one rfl (by kernel_rfl) opens26)))
theorem opens22 : Kd.Opens Try.prog 22 (Kd.slice 28 k28) (fun xs => ∀ x ∈ xs, (Lit.int .u64 x.f0).wf = true ∧ True ∧ ∀ n ∈ x.f2, (Lit.int .u8 n).wf = true) := Kd.opens_slice Try.underlying22 (by kernel_rfl) opens28
end Go.Proofs.Yteofdgonpbmdlaa.C
