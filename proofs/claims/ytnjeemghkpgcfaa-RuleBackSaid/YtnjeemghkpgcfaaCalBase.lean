/- The calendar in plain numbers: leap years, where years and months begin, and that a date is told by its number. No condition. -/
import Derived.Test.YtnjeemghkpgcfaaBase
namespace Go.Proofs.Ytnjeemghkpgcfaa.Base
open Go.RowKit
set_option linter.unusedVariables false
set_option linter.unusedSimpArgs false

def lp (y : Int) : Int := if y % 4 = 0 ∧ (y % 100 ≠ 0 ∨ y % 400 = 0) then 1 else 0
theorem lp_01 (y : Int) : 0 ≤ lp y ∧ lp y ≤ 1 := by unfold lp; split <;> omega
/-- The number of the 1 January. -/
def S (y : Int) : Int := 365 * (y - 1970) + (y - 1) / 4 - (y - 1) / 100 + (y - 1) / 400 - 477
theorem S_succ (y : Int) : S (y + 1) = S y + 365 + lp y := by unfold S lp; split <;> omega
theorem S_400 (y : Int) : S (y + 400) = S y + 146097 := by unfold S; omega
theorem S_1970 : S 1970 = 0 := by decide
theorem lp_400 (y : Int) : lp (y + 400) = lp y := by unfold lp; congr 1; exact propext ⟨fun h => by omega, fun h => by omega⟩
theorem S_mono {a b : Int} (h : a ≤ b) : S a + 365 * (b - a) ≤ S b := by unfold S; omega
theorem S_lt {a b : Int} (h : S a < S b) : a < b := by
  by_cases h2 : a < b
  · exact h2
  · have := S_mono (show b ≤ a by omega); omega
/-- The days of a month, and the days of the year ahead of it. -/
def ml (y m : Int) : Int := if m = 2 then 28 + lp y else 30 + (m + m / 8) % 2
def cm (y m : Int) : Int := if m ≤ 2 then 31 * (m - 1) else (153 * (m - 3) + 2) / 5 + 59 + lp y
theorem cm_one (y : Int) : cm y 1 = 0 := by unfold cm; rw [if_pos (by decide)]; rfl
theorem m12 {m : Int} (h1 : 1 ≤ m) (h2 : m ≤ 12) : m = 1 ∨ m = 2 ∨ m = 3 ∨ m = 4 ∨ m = 5 ∨ m = 6 ∨ m = 7 ∨ m = 8 ∨ m = 9 ∨ m = 10 ∨ m = 11 ∨ m = 12 := by omega
theorem cm_succ (y m : Int) (h1 : 1 ≤ m) (h2 : m ≤ 11) : cm y (m + 1) = cm y m + ml y m := by
  unfold cm ml
  by_cases h : m = 1
  · subst h; simp
  · by_cases h : m = 2
    · subst h; simp; omega
    · rw [if_neg (by omega), if_neg (by omega), if_neg (by omega)]
      have : m = 3 ∨ m = 4 ∨ m = 5 ∨ m = 6 ∨ m = 7 ∨ m = 8 ∨ m = 9 ∨ m = 10 ∨ m = 11 := by omega
      rcases this with h | h | h | h | h | h | h | h | h <;> (subst h; omega)
theorem cm_last (y : Int) : cm y 12 + ml y 12 = 365 + lp y := by unfold cm ml; simp; omega
theorem ml_bd (y m : Int) : 28 ≤ ml y m ∧ ml y m ≤ 31 := by have := lp_01 y; unfold ml; split <;> omega
theorem cm_mono (y : Int) {a b : Int} (h1 : 1 ≤ a) (h : a ≤ b) (h2 : b ≤ 12) : cm y a + 28 * (b - a) ≤ cm y b := by
  have := lp_01 y
  unfold cm
  by_cases p : a ≤ 2
  · rw [if_pos p]
    by_cases q : b ≤ 2
    · rw [if_pos q]; omega
    · rw [if_neg q]; omega
  · rw [if_neg p, if_neg (by omega)]; omega
theorem cm_bd (y m : Int) (h1 : 1 ≤ m) (h2 : m ≤ 12) : 0 ≤ cm y m ∧ cm y m ≤ 335 := by have := lp_01 y; unfold cm; split <;> omega
theorem cm_ml (y m : Int) (h1 : 1 ≤ m) (h2 : m ≤ 12) : cm y m + ml y m ≤ 365 + lp y := by
  by_cases h : m = 12
  · subst h; rw [cm_last]; omega
  · rw [← cm_succ y m h1 (by omega)]
    have := cm_mono y (show 1 ≤ m + 1 by omega) (show m + 1 ≤ 12 by omega) (by decide)
    have := cm_last y
    have := ml_bd y 12
    omega
/-- A date's number. -/
def nm (y m d : Int) : Int := S y + cm y m + d - 1
def ok (y m d : Int) : Prop := 1 ≤ m ∧ m ≤ 12 ∧ 1 ≤ d ∧ d ≤ ml y m
instance (y m d : Int) : Decidable (ok y m d) := inferInstanceAs (Decidable (_ ∧ _ ∧ _ ∧ _))
theorem nm_bd {y m d : Int} (h : ok y m d) : S y ≤ nm y m d ∧ nm y m d < S (y + 1) := by
  obtain ⟨h1, h2, h3, h4⟩ := h
  have := cm_bd y m h1 h2
  have := cm_ml y m h1 h2
  rw [S_succ]; unfold nm; omega
theorem nm_inj {y m d y' m' d' : Int} (h : ok y m d) (h' : ok y' m' d') (e : nm y m d = nm y' m' d') : y = y' ∧ m = m' ∧ d = d' := by
  have a := nm_bd h
  have b := nm_bd h'
  have hy : y = y' := by
    have := S_lt (show S y < S (y' + 1) by omega)
    have := S_lt (show S y' < S (y + 1) by omega)
    omega
  subst hy
  obtain ⟨h1, h2, h3, h4⟩ := h
  obtain ⟨k1, k2, k3, k4⟩ := h'
  unfold nm at e
  have hm : m = m' := by
    rcases Int.lt_trichotomy m m' with q | q | q
    · have c := cm_succ y m h1 (by omega)
      have := cm_mono y (show 1 ≤ m + 1 by omega) (show m + 1 ≤ m' by omega) k2
      omega
    · exact q
    · have c := cm_succ y m' k1 (by omega)
      have := cm_mono y (show 1 ≤ m' + 1 by omega) (show m' + 1 ≤ m by omega) h2
      omega
  subst hm
  exact ⟨rfl, rfl, by omega⟩
/-- By years that begin in March. -/
def nmM (y m d : Int) : Int := y / 400 * 146097 + (y % 400) * 365 + (y % 400) / 4 - (y % 400) / 100 + (153 * (m - 3) + 2) / 5 + d - 1 - 719468
theorem nmM_late (y m d : Int) (h1 : 3 ≤ m) (h2 : m ≤ 12) : nmM y m d = nm y m d := by
  have e : S y = (y - 1) / 400 * 146097 + (y - 1) % 400 * 365 + (y - 1) % 400 / 4 - (y - 1) % 400 / 100 + 306 - 719468 := by unfold S; omega
  have s := S_succ y
  have e2 : S (y + 1) = y / 400 * 146097 + y % 400 * 365 + y % 400 / 4 - y % 400 / 100 + 306 - 719468 := by unfold S; omega
  unfold nmM nm cm
  rw [if_neg (by omega)]
  omega
theorem nmM_early (y m d : Int) (h1 : 1 ≤ m) (h2 : m ≤ 2) : nmM (y - 1) (m + 12) d = nm y m d := by
  have e : S y = (y - 1) / 400 * 146097 + (y - 1) % 400 * 365 + (y - 1) % 400 / 4 - (y - 1) % 400 / 100 + 306 - 719468 := by unfold S; omega
  unfold nmM nm cm
  rw [if_pos h2]
  have : (153 * (m + 12 - 3) + 2) / 5 = 306 + 31 * (m - 1) := by omega
  omega
/-- The date of a number, by whole 400 years from 1 March. -/
def ofD (f : Int) : Int := (f - f / 1460 + f / 36524 - f / 146096) / 365
theorem ofD_is (f : Int) (h0 : 0 ≤ f) (h1 : f < 146097) : 0 ≤ ofD f ∧ ofD f ≤ 399 ∧ 365 * ofD f + ofD f / 4 - ofD f / 100 ≤ f ∧ f ≤ 365 * ofD f + ofD f / 4 - ofD f / 100 + 364 + lp (ofD f + 1) := by
  unfold ofD lp
  by_cases hc : f = 146096
  · subst hc; decide
  · have e3 : f / 146096 = 0 := by omega
    rw [e3]
    obtain ⟨c, hc1, hc2, hc3⟩ : ∃ c, 0 ≤ c ∧ c ≤ 3 ∧ 36524 * c ≤ f ∧ f < 36524 * c + 36524 := ⟨f / 36524, by omega, by omega, by omega⟩
    have e2 : f / 36524 = c := by omega
    rw [e2]
    obtain ⟨g, hg⟩ : ∃ g, g = f - 36524 * c := ⟨_, rfl⟩
    obtain ⟨q, hq⟩ : ∃ q, q = g / 1461 := ⟨_, rfl⟩
    obtain ⟨r, hr⟩ : ∃ r, r = g % 1461 := ⟨_, rfl⟩
    obtain ⟨j, hj⟩ : ∃ j, j = (if r = 1460 then 3 else r / 365) := ⟨_, rfl⟩
    have key : (f - f / 1460 + c - 0) / 365 = 100 * c + 4 * q + j := by
      split at hj <;> omega
    rw [key]
    have j3 : 0 ≤ j ∧ j ≤ 3 := by split at hj <;> omega
    have q24 : 0 ≤ q ∧ q ≤ 24 := by omega
    have d4 : (100 * c + 4 * q + j) / 4 = 25 * c + q := by omega
    have d100 : (100 * c + 4 * q + j) / 100 = c := by omega
    rw [d4, d100]
    clear key e2 e3
    refine ⟨by omega, by omega, ?_, ?_⟩
    · split at hj <;> omega
    · by_cases h3 : j = 3
      · by_cases h24 : q = 24
        · have : r ≤ 1459 := by omega
          rw [if_neg (by omega)] at hj
          split <;> omega
        · rw [if_pos (by omega)]
          split at hj <;> omega
      · rw [if_neg (by omega)]
        split at hj <;> omega
end Go.Proofs.Ytnjeemghkpgcfaa.Base
