-- Out of the words that a tool of the kit wrote for this seat: what nothing in this claim names was left out by a program of this session.
import Derived.Test.YtbifanoiailjoaaWWords
import Derived.Laws.StructEq
/-! ### 53. '==' of structs as_ one Bool -/
namespace Go.Proofs.YtbifanoiailjoaaW.PrintWords
open Go.RowKit
section
variable {P : Program} {d : Nat} {xs ys : Array Value} {f : Field} {fs : List Field} {a b : Value} {r s : Bool} {w : World}
end
end Go.Proofs.YtbifanoiailjoaaW.PrintWords
