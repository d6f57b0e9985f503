-- Out of the words that a tool of the kit wrote for this seat: what nothing in this claim names was left out by a program of this session.
import Derived.Test.YtnjeemghkpgcfaaWInv
import Derived.Test.YtnjeemghkpgcfaaWFootNe
namespace Go.Proofs.YtnjeemghkpgcfaaW.PrintWords
open Go.RowKit
end Go.Proofs.YtnjeemghkpgcfaaW.PrintWords
namespace Go.Proofs.YtnjeemghkpgcfaaW.PrintLast
section
variable {ops : Array Oper} {a : Act} {o og : Oper} {g : Nat} {t : Tmp} {u : Bool}
end
end Go.Proofs.YtnjeemghkpgcfaaW.PrintLast
