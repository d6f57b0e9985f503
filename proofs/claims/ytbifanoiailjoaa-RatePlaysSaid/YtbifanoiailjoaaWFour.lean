-- Out of the words that a tool of the kit wrote for this seat: what nothing in this claim names was left out by a program of this session.
import Derived.Test.YtbifanoiailjoaaWTab
/-! ### 56. Four, five, six operations that may come up next, in any order -/
namespace Go.Proofs.YtbifanoiailjoaaW.PrintLast
section
variable {P : Program} {ops : Array Oper} {Q : Exit → Act → World → Prop} {md : Region.Mode} {S : World → Prop} {ds : List Nat} {T : Bool × List (List Nat × List Nat)}
end
end Go.Proofs.YtbifanoiailjoaaW.PrintLast
