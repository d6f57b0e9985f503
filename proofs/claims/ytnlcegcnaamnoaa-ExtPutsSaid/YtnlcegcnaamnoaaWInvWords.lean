-- Out of the words that a tool of the kit wrote for this seat: what nothing in this claim names was left out by a program of this session.
import Derived.Test.YtnlcegcnaamnoaaWInv
import Derived.Test.YtnlcegcnaamnoaaWFootNe
namespace Go.Proofs.YtnlcegcnaamnoaaW.PrintWords
open Go.RowKit
end Go.Proofs.YtnlcegcnaamnoaaW.PrintWords
namespace Go.Proofs.YtnlcegcnaamnoaaW.PrintLast
section
variable {ops : Array Oper} {a : Act} {o og : Oper} {g : Nat} {t : Tmp} {u : Bool}
end
end Go.Proofs.YtnlcegcnaamnoaaW.PrintLast
