/- live of the span laws; has, in. -/
import Derived.Test.YtjefihcbhdennaaSPa
import Derived.Test.YtjefihcbhdennaaS0
import Derived.Test.YtjefihcbhdennaaS17
namespace Go.Proofs.Ytjefihcbhdennaa.Pure
open Go.RowKit Go.Proofs.YtjefihcbhdennaaW.PrintWords Go.Proofs.Ytjefihcbhdennaa.S
theorem live09_ev : Ev (fun k => conductorlaw09_live.f k) true := Ev.of conductorlaw09_live.mono (k := 30) (by decide +kernel)
end Go.Proofs.Ytjefihcbhdennaa.Pure
