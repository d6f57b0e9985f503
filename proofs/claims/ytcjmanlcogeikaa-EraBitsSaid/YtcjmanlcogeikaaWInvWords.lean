-- Out of the words that a tool of the kit wrote for this seat: what nothing in this claim names was left out by a program of this session.
import Derived.Test.YtcjmanlcogeikaaWInv
import Derived.Test.YtcjmanlcogeikaaWFootNe
namespace Go.Proofs.YtcjmanlcogeikaaW.PrintWords
open Go.RowKit
end Go.Proofs.YtcjmanlcogeikaaW.PrintWords
namespace Go.Proofs.YtcjmanlcogeikaaW.PrintLast
section
variable {ops : Array Oper} {a : Act} {o og : Oper} {g : Nat} {t : Tmp} {u : Bool}
end
end Go.Proofs.YtcjmanlcogeikaaW.PrintLast
