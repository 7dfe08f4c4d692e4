/- Merged for the law StoreDoes: of the words that the print laid for this seat what the law names, and texts of this session: WInv. No condition. -/
import Derived.Test.YteofdgonpbmdlaaZStoreDoesc
namespace Go.Proofs.YteofdgonpbmdlaaW.PrintLast
def up (b : Nat → Bool) (i : Nat) : Nat → Bool := fun j => if j = i then true else b j
section
variable {P : Program} {ops : Array Oper} {Q : Exit → Act → World → Prop} {md : Region.Mode} {T : Bool × List (List Nat × List Nat)} {B : List Nat} {O : List Nat} {b : Nat → Bool} {i j n : Nat}
end
end Go.Proofs.YteofdgonpbmdlaaW.PrintLast
