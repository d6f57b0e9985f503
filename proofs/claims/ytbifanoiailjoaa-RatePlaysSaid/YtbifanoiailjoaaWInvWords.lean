-- Out of the words that a tool of the kit wrote for this seat: what nothing in this claim names was left out by a program of this session.
import Derived.Test.YtbifanoiailjoaaWInv
import Derived.Test.YtbifanoiailjoaaWFootNe
namespace Go.Proofs.YtbifanoiailjoaaW.PrintWords
open Go.RowKit
end Go.Proofs.YtbifanoiailjoaaW.PrintWords
namespace Go.Proofs.YtbifanoiailjoaaW.PrintLast
section
variable {ops : Array Oper} {a : Act} {o og : Oper} {g : Nat} {t : Tmp} {u : Bool}
end
end Go.Proofs.YtbifanoiailjoaaW.PrintLast
