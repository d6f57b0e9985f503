-- Out of the words that a tool of the kit wrote for this seat: what nothing in this claim names was left out by a program of this session.
import Derived.Test.YtmcicjjaneaokaaWInv
import Derived.Test.YtmcicjjaneaokaaWFootNe
namespace Go.Proofs.YtmcicjjaneaokaaW.PrintWords
open Go.RowKit
end Go.Proofs.YtmcicjjaneaokaaW.PrintWords
namespace Go.Proofs.YtmcicjjaneaokaaW.PrintLast
section
variable {ops : Array Oper} {a : Act} {o og : Oper} {g : Nat} {t : Tmp} {u : Bool}
end
end Go.Proofs.YtmcicjjaneaokaaW.PrintLast
