/- The calendar in plain numbers: leap years, where years and months begin, and that a date is told by its number. No condition. -/
import Derived.Test.YtnjeemghkpgcfaaBase
namespace Go.Proofs.Ytnjeemghkpgcfaa.Base
open Go.RowKit
set_option linter.unusedVariables false
set_option linter.unusedSimpArgs false

def lp (y : Int) : Int := if y % 4 = 0 ∧ (y % 100 ≠ 0 ∨ y % 400 = 0) then 1 else 0
/-- The number of the 1 January. -/
def S (y : Int) : Int := 365 * (y - 1970) + (y - 1) / 4 - (y - 1) / 100 + (y - 1) / 400 - 477
/-- The days of a month, and the days of the year ahead of it. -/
def ml (y m : Int) : Int := if m = 2 then 28 + lp y else 30 + (m + m / 8) % 2
def ok (y m d : Int) : Prop := 1 ≤ m ∧ m ≤ 12 ∧ 1 ≤ d ∧ d ≤ ml y m
instance (y m d : Int) : Decidable (ok y m d) := inferInstanceAs (Decidable (_ ∧ _ ∧ _ ∧ _))
end Go.Proofs.Ytnjeemghkpgcfaa.Base
