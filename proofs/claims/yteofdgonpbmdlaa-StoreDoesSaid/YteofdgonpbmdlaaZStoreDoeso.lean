/- Merged for the law StoreDoes: of the words that the print laid for this seat what the law names, and texts of this session: WGuard. No condition. -/
import Derived.Test.YteofdgonpbmdlaaZStoreDoesb
namespace Go.Proofs.YteofdgonpbmdlaaW.PrintWords
open Go.RowKit
section
variable {P : Program} {ops : Array Oper} {rest : List Oper} {o : Oper} {a : Act} {Q : Exit → Act → World → Prop} {W : World}
theorem gate_guard (hw : Region.wanted o (yielded ops a.tmps) = true) (h : wpList P ops Q ({ o with guard := none } :: rest) a W) : wpList P ops Q (o :: rest) a W := by
  have h1 : Region.wanted { o with guard := none } (yielded ops a.tmps) = true := rfl
  unfold wpList at h ⊢
  rw [if_pos h1] at h
  rw [if_pos hw]
  exact h
end
end Go.Proofs.YteofdgonpbmdlaaW.PrintWords
