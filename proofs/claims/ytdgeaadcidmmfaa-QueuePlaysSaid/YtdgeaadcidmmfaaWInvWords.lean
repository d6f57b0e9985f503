-- Out of the words that a tool of the kit wrote for this seat: what nothing in this claim names was left out by a program of this session.
import Derived.Test.YtdgeaadcidmmfaaWInv
import Derived.Test.YtdgeaadcidmmfaaWFootNe
namespace Go.Proofs.YtdgeaadcidmmfaaW.PrintWords
open Go.RowKit
end Go.Proofs.YtdgeaadcidmmfaaW.PrintWords
namespace Go.Proofs.YtdgeaadcidmmfaaW.PrintLast
section
variable {ops : Array Oper} {a : Act} {o og : Oper} {g : Nat} {t : Tmp} {u : Bool}
end
end Go.Proofs.YtdgeaadcidmmfaaW.PrintLast
