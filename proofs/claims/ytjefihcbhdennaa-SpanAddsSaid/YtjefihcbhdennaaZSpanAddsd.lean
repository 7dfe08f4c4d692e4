/- Texts of this session, merged for the law SpanAdds: Y. No condition. -/
import Derived.Test.YtjefihcbhdennaaZSpanAddsa
import Derived.Test.YtjefihcbhdennaaZSpanAddsc
namespace Go.Proofs.Ytjefihcbhdennaa.S
open Go.Proofs.YtjefihcbhdennaaW.PrintLast
/-- Of n, the first k. -/
def fst_ (n k : Nat) : Array Bool := (List.replicate k true ++ List.replicate (n - k) false).toArray
section
variable {P : Program} {ops : Array Oper} {Q : Exit → Act → World → Prop} {md : Region.Mode} {S : World → Prop} {ds : List Nat} {T : Bool × List (List Nat × List Nat)}
theorem pk_ {k n : Nat} {N : Tmp} {oi : Oper} {v : Value} {fuel : Nat} {a : Act} {w : World} (hT : rtab md ops = T) (hi : ops[k]? = some oi) (hN : oi.dst = some N) (hc : anyT T (fst_ n k).toList (fst_ n (k + 1)).toList k = true)
    (hQ : ∀ c a w, Q (.panic c) (a.put oi.dst v) w → Q (.panic c) a w) (hy : Yields P ops oi v a) {a' : Act} (ha : a.put (some N) v = a')
    (h : wpAnyLast P md ops Q S ds fuel (fst_ n (k + 1)) a' w) : wpAnyLast P md ops Q S ds (fuel + 1) (fst_ n k) a w :=
  pure_ _ hi hN (any_of hT hc) hQ hy ha h
theorem tk_ {k n : Nat} {N : Tmp} {oi : Oper} {v : Value} {fuel : Nat} {a : Act} {w : World} {B : List Nat} (hT : rtab md ops = T) (hB : waitsOk T.2 B = true) (hi : ops[k]? = some oi) (hN : oi.dst = some N) (hc : takeW T B ds (fst_ n k).toList (fst_ n (k + 1)).toList k = true)
    (hQ : ∀ c a w, Q (.panic c) (a.put oi.dst v) w → Q (.panic c) a w) (hy : YieldsIf P ops S oi v a) (hS : S w) {a' : Act} (ha : a.put (some N) v = a')
    (h : wpAnyLast P md ops Q S ds fuel (fst_ n (k + 1)) a' w) : wpAnyLast P md ops Q S ds (fuel + 1) (fst_ n k) a w :=
  take_ _ hi hN (take_ofW hT hB hc) hQ hy hS ha h
end
end Go.Proofs.Ytjefihcbhdennaa.S
