/- The calendar in plain numbers: leap years, where years and months begin, and that a date is told by its number. No condition. -/
import Derived.Test.YtjameiglfecagaaBase
namespace Go.Proofs.Ytjameiglfecagaa.Base
open Go.RowKit
set_option linter.unusedVariables false
set_option linter.unusedSimpArgs false

def lp (y : Int) : Int := if y % 4 = 0 ∧ (y % 100 ≠ 0 ∨ y % 400 = 0) then 1 else 0
theorem lp_01 (y : Int) : 0 ≤ lp y ∧ lp y ≤ 1 := by unfold lp; split <;> omega
/-- The number of the 1 January. -/
def S (y : Int) : Int := 365 * (y - 1970) + (y - 1) / 4 - (y - 1) / 100 + (y - 1) / 400 - 477
theorem S_succ (y : Int) : S (y + 1) = S y + 365 + lp y := by unfold S lp; split <;> omega
theorem S_400 (y : Int) : S (y + 400) = S y + 146097 := by unfold S; omega
theorem S_1970 : S 1970 = 0 := by decide
theorem S_mono {a b : Int} (h : a ≤ b) : S a + 365 * (b - a) ≤ S b := by unfold S; omega
/-- The days of a month, and the days of the year ahead of it. -/
def ml (y m : Int) : Int := if m = 2 then 28 + lp y else 30 + (m + m / 8) % 2
def cm (y m : Int) : Int := if m ≤ 2 then 31 * (m - 1) else (153 * (m - 3) + 2) / 5 + 59 + lp y
theorem cm_one (y : Int) : cm y 1 = 0 := by unfold cm; rw [if_pos (by decide)]; rfl
theorem m12 {m : Int} (h1 : 1 ≤ m) (h2 : m ≤ 12) : m = 1 ∨ m = 2 ∨ m = 3 ∨ m = 4 ∨ m = 5 ∨ m = 6 ∨ m = 7 ∨ m = 8 ∨ m = 9 ∨ m = 10 ∨ m = 11 ∨ m = 12 := by omega
theorem cm_succ (y m : Int) (h1 : 1 ≤ m) (h2 : m ≤ 11) : cm y (m + 1) = cm y m + ml y m := by
  unfold cm ml
  by_cases h : m = 1
  · subst h; simp
  · by_cases h : m = 2
    · subst h; simp; omega
    · rw [if_neg (by omega), if_neg (by omega), if_neg (by omega)]
      have : m = 3 ∨ m = 4 ∨ m = 5 ∨ m = 6 ∨ m = 7 ∨ m = 8 ∨ m = 9 ∨ m = 10 ∨ m = 11 := by omega
      rcases this with h | h | h | h | h | h | h | h | h <;> (subst h; omega)
theorem ml_bd (y m : Int) : 28 ≤ ml y m ∧ ml y m ≤ 31 := by have := lp_01 y; unfold ml; split <;> omega
theorem cm_bd (y m : Int) (h1 : 1 ≤ m) (h2 : m ≤ 12) : 0 ≤ cm y m ∧ cm y m ≤ 335 := by have := lp_01 y; unfold cm; split <;> omega
/-- A date's number. -/
def nm (y m d : Int) : Int := S y + cm y m + d - 1
def ok (y m d : Int) : Prop := 1 ≤ m ∧ m ≤ 12 ∧ 1 ≤ d ∧ d ≤ ml y m
instance (y m d : Int) : Decidable (ok y m d) := inferInstanceAs (Decidable (_ ∧ _ ∧ _ ∧ _))
end Go.Proofs.Ytjameiglfecagaa.Base
