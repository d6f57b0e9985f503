-- Out of the words that a tool of the kit wrote for this seat: what nothing in this claim names was left out by a program of this session.
import Derived.Test.YtonjfggfcnpgbaaWWords
/-! ### 55. Reps told from the front, no append: for rows of one-cell elements and of wider ones -/
namespace Go.Proofs.YtonjfggfcnpgbaaW.PrintWords
end Go.Proofs.YtonjfggfcnpgbaaW.PrintWords
