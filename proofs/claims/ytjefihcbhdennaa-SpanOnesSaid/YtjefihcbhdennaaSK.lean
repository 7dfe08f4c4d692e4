/- The types of the laws' arguments: what reads as data reads as the printed kinds. -/
import Derived.Test.YtjefihcbhdennaaS0
import Derived.Test.YtjefihcbhdennaaO
namespace Go.Proofs.Ytjefihcbhdennaa.S
open Go.RowKit Go.Proofs.YtjefihcbhdennaaW.PrintWords
theorem wf_u64 {n : Int} (h : (Lit.int .u64 n).wf = true) : 0 ≤ n ∧ n ≤ 18446744073709551615 := by
  simp [Lit.wf] at h
  first | exact h | (have := h.1; have := h.2; exact ⟨by omega, by omega⟩) | (unfold IntKind.min IntKind.max at h; simp at h; omega)
theorem wf_i64 {n : Int} (h : (Lit.int .i64 n).wf = true) : -9223372036854775808 ≤ n ∧ n ≤ 9223372036854775807 := by
  simp [Lit.wf] at h
  first | exact h | (have := h.1; have := h.2; exact ⟨by omega, by omega⟩)
theorem opens_imp {α : Type} {P : Program} {T : TypeId} {d : Kd α} {wf wf' : α → Prop} (h : Kd.Opens P T d wf) (hi : ∀ w a cs, d.K w a cs → wf a → wf' a) : Kd.Opens P T d wf' := by
  intro H enc w fuel cs x hx
  obtain ⟨a, h1, h2⟩ := h enc w fuel cs x hx
  exact ⟨a, h1, hi w a cs h1 h2⟩
def W41 (x : S41) : Prop := x.f0.size ≤ 9223372036854775807 ∧ x.f1.size ≤ 9223372036854775807
def WL41 (l : List S41) : Prop := l.length ≤ 9223372036854775807 ∧ ∀ x ∈ l, W41 x
def W26 (x : S26) : Prop := (Lit.int .u64 x.f0).wf = true ∧ (Lit.int .u64 x.f1).wf = true ∧ (Lit.int .u64 x.f2).wf = true ∧ (Lit.int .u64 x.f3).wf = true ∧ WL41 x.f4 ∧ WL41 x.f5
theorem opens41 : Kd.Opens Try.prog 41 k41 W41 := Kd.opens_struct (fun x : S41 => (x.f0, x.f1)) (fun p => ⟨p.1, p.2⟩) (fun _ => rfl) Try.underlying41 (by kernel_rfl)
    (Kd.opensF_cons rfl (by kernel_rfl) (Kd.opens_string Try.underlying9) (Kd.opensF_one rfl (by kernel_rfl) (Kd.opens_string Try.underlying9)))
theorem opens24 : Kd.Opens Try.prog 24 (Kd.slice 41 k41) WL41 := opens_imp (Kd.opens_slice Try.underlying24 (by kernel_rfl) opens41) (fun w a cs h k => by
  obtain ⟨A, c, _, _, g⟩ := h
  exact ⟨g.2.1, k⟩)
theorem opens26 : Kd.Opens Try.prog 26 k26 W26 :=
  Kd.opens_struct (fun x : S26 => (x.f0, x.f1, x.f2, x.f3, x.f4, x.f5)) (fun p => ⟨p.1, p.2.1, p.2.2.1, p.2.2.2.1, p.2.2.2.2.1, p.2.2.2.2.2⟩) (fun _ => rfl) Try.underlying26 (by kernel_rfl)
    (Kd.opensF_cons rfl (by kernel_rfl) (Kd.opens_int Try.underlying23) (Kd.opensF_cons rfl (by kernel_rfl) (Kd.opens_int Try.underlying23) (Kd.opensF_cons rfl (by kernel_rfl) (Kd.opens_int Try.underlying23) (Kd.opensF_cons rfl (by kernel_rfl) (Kd.opens_int Try.underlying23) (Kd.opensF_cons rfl (by kernel_rfl) opens24 (Kd.opensF_one rfl (by kernel_rfl) opens24))))))
theorem opens22 : Kd.Opens Try.prog 22 (Kd.slice 26 k26) (fun xs => ∀ x ∈ xs, W26 x) := Kd.opens_slice Try.underlying22 (by kernel_rfl) opens26
theorem k41_heap : Kd.Heap k41 := Kd.heap_iso _ (Kd.heap_pair Kd.heap_string Kd.heap_string)
theorem k26_heap : Kd.Heap k26 := Kd.heap_iso _ (Kd.heap_pair (Kd.heap_int .u64) (Kd.heap_pair (Kd.heap_int .u64) (Kd.heap_pair (Kd.heap_int .u64) (Kd.heap_pair (Kd.heap_int .u64) (Kd.heap_pair (Kd.heap_slice 41 k41_heap) (Kd.heap_slice 41 k41_heap))))))
end Go.Proofs.Ytjefihcbhdennaa.S
