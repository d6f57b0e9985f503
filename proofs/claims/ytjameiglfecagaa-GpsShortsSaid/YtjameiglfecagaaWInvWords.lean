-- Out of the words that a tool of the kit wrote for this seat: what nothing in this claim names was left out by a program of this session.
import Derived.Test.YtjameiglfecagaaWInv
import Derived.Test.YtjameiglfecagaaWFootNe
namespace Go.Proofs.YtjameiglfecagaaW.PrintWords
open Go.RowKit
end Go.Proofs.YtjameiglfecagaaW.PrintWords
namespace Go.Proofs.YtjameiglfecagaaW.PrintLast
section
variable {ops : Array Oper} {a : Act} {o og : Oper} {g : Nat} {t : Tmp} {u : Bool}
end
end Go.Proofs.YtjameiglfecagaaW.PrintLast
