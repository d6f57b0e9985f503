/- The calendar in plain numbers: leap years, where years and months begin, and that a date is told by its number. No condition. -/
import Derived.Test.YtmcicjjaneaokaaBase
namespace Go.Proofs.Ytmcicjjaneaokaa.Base
open Go.RowKit
set_option linter.unusedVariables false
set_option linter.unusedSimpArgs false

def lp (y : Int) : Int := if y % 4 = 0 ∧ (y % 100 ≠ 0 ∨ y % 400 = 0) then 1 else 0
theorem lp_01 (y : Int) : 0 ≤ lp y ∧ lp y ≤ 1 := by unfold lp; split <;> omega
/-- The number of the 1 January. -/
def S (y : Int) : Int := 365 * (y - 1970) + (y - 1) / 4 - (y - 1) / 100 + (y - 1) / 400 - 477
theorem S_succ (y : Int) : S (y + 1) = S y + 365 + lp y := by unfold S lp; split <;> omega
theorem S_400 (y : Int) : S (y + 400) = S y + 146097 := by unfold S; omega
theorem S_1970 : S 1970 = 0 := by decide
theorem S_mono {a b : Int} (h : a ≤ b) : S a + 365 * (b - a) ≤ S b := by unfold S; omega
/-- The days of a month, and the days of the year ahead of it. -/
def ml (y m : Int) : Int := if m = 2 then 28 + lp y else 30 + (m + m / 8) % 2
def cm (y m : Int) : Int := if m ≤ 2 then 31 * (m - 1) else (153 * (m - 3) + 2) / 5 + 59 + lp y
theorem cm_one (y : Int) : cm y 1 = 0 := by unfold cm; rw [if_pos (by decide)]; rfl
/-- A date's number. -/
def nm (y m d : Int) : Int := S y + cm y m + d - 1
def ok (y m d : Int) : Prop := 1 ≤ m ∧ m ≤ 12 ∧ 1 ≤ d ∧ d ≤ ml y m
instance (y m d : Int) : Decidable (ok y m d) := inferInstanceAs (Decidable (_ ∧ _ ∧ _ ∧ _))
/-- By years that begin in March. -/
def nmM (y m d : Int) : Int := y / 400 * 146097 + (y % 400) * 365 + (y % 400) / 4 - (y % 400) / 100 + (153 * (m - 3) + 2) / 5 + d - 1 - 719468
theorem nmM_late (y m d : Int) (h1 : 3 ≤ m) (h2 : m ≤ 12) : nmM y m d = nm y m d := by
  have e : S y = (y - 1) / 400 * 146097 + (y - 1) % 400 * 365 + (y - 1) % 400 / 4 - (y - 1) % 400 / 100 + 306 - 719468 := by unfold S; omega
  have s := S_succ y
  have e2 : S (y + 1) = y / 400 * 146097 + y % 400 * 365 + y % 400 / 4 - y % 400 / 100 + 306 - 719468 := by unfold S; omega
  unfold nmM nm cm
  rw [if_neg (by omega)]
  omega
theorem nmM_early (y m d : Int) (h1 : 1 ≤ m) (h2 : m ≤ 2) : nmM (y - 1) (m + 12) d = nm y m d := by
  have e : S y = (y - 1) / 400 * 146097 + (y - 1) % 400 * 365 + (y - 1) % 400 / 4 - (y - 1) % 400 / 100 + 306 - 719468 := by unfold S; omega
  unfold nmM nm cm
  rw [if_pos h2]
  have : (153 * (m + 12 - 3) + 2) / 5 = 306 + 31 * (m - 1) := by omega
  omega
end Go.Proofs.Ytmcicjjaneaokaa.Base
