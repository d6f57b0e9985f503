-- Out of the words that a tool of the kit wrote for this seat: what nothing in this claim names was left out by a program of this session.
import Derived.Test.YtonjfggfcnpgbaaWInv
import Derived.Test.YtonjfggfcnpgbaaWFootNe
namespace Go.Proofs.YtonjfggfcnpgbaaW.PrintWords
open Go.RowKit
end Go.Proofs.YtonjfggfcnpgbaaW.PrintWords
namespace Go.Proofs.YtonjfggfcnpgbaaW.PrintLast
section
variable {ops : Array Oper} {a : Act} {o og : Oper} {g : Nat} {t : Tmp} {u : Bool}
end
end Go.Proofs.YtonjfggfcnpgbaaW.PrintLast
