/- WeekYears: the weeks of any year, and their days, are the document's. For every input of Go's kinds; no further condition. -/
import Derived.Test.YtmcicjjaneaokaaMWeekYearsx
import Derived.Test.YtmcicjjaneaokaaCalBase
namespace Go.Proofs.Ytmcicjjaneaokaa.MWeekYears
open Go.RowKit Go.Proofs.YtmcicjjaneaokaaW.PrintWords Go.Proofs.YtmcicjjaneaokaaW.PrintLast Go.Proofs.YtmcicjjaneaokaaW.PrintMore Go.Proofs.Ytmcicjjaneaokaa.Base
set_option linter.unusedVariables false
set_option linter.unusedSimpArgs false

theorem num_is (e : Option Int) : horologenum_Num.f e = some (match e with | none => 0 | some c => if c = 0 then -1 else c) := by
  unfold horologenum_Num.f
  cases e <;> simp
  split <;> rfl
theorem floor_is (a b : Int) (hb : b = 400 ∨ b = 146097) (ha : -100000000 ≤ a ∧ a ≤ 100000000) : day_floor.f a b = some (a / b) := by
  unfold day_floor.f
  rw [tmod_is, tdiv_is]
  rcases hb with rfl | rfl
  · rw [if_neg (by decide)]
    by_cases h : a < 0
    · simp only [if_pos h]
      rw [wr (n := -(-a / 400)) (by omega)]
      split
      · rw [wr (by omega)]; congr 1; omega
      · congr 1; omega
    · simp only [if_neg h]
      rw [if_neg (by omega), wr (by omega)]
  · rw [if_neg (by decide)]
    by_cases h : a < 0
    · simp only [if_pos h]
      rw [wr (n := -(-a / 146097)) (by omega)]
      split
      · rw [wr (by omega)]; congr 1; omega
      · congr 1; omega
    · simp only [if_neg h]
      rw [if_neg (by omega), wr (by omega)]
theorem number_is (y m d : Int) (hy : -30000 ≤ y ∧ y ≤ 30000) (h1 : 1 ≤ m) (h2 : m ≤ 12) (hd : -1000 ≤ d ∧ d ≤ 1000) : day_number.f y m d = some (nm y m d) := by
  have core : ∀ y m : Int, -30001 ≤ y → y ≤ 30001 → 3 ≤ m → m ≤ 14 →
      wrap64 (wrap64 (wrap64 (wrap64 (wrap64 (wrap64 (y / 400 * 146097) + wrap64 (wrap64 (y - wrap64 (y / 400 * 400)) * 365)) + wrap64 (Int.tdiv (wrap64 (y - wrap64 (y / 400 * 400))) 4)) - wrap64 (Int.tdiv (wrap64 (y - wrap64 (y / 400 * 400))) 100)) + wrap64 (wrap64 (wrap64 (Int.tdiv (wrap64 (wrap64 (153 * wrap64 (m - 3)) + 2)) 5) + d) - 1)) - 719468) = nmM y m d := by
    intro y m a1 a2 a3 a4
    have e : y - y / 400 * 400 = y % 400 := by omega
    rw [wr (n := y / 400 * 400) (by omega), e, wr (n := y % 400) (by omega), tdiv_is, tdiv_is, if_neg (by omega), if_neg (by omega)]
    rw [wr (n := m - 3) (by omega), wr (n := 153 * (m - 3)) (by omega), wr (n := 153 * (m - 3) + 2) (by omega), tdiv_is, if_neg (by omega)]
    rw [wr (n := y / 400 * 146097) (by omega), wr (n := y % 400 * 365) (by omega), wr (n := y % 400 / 4) (by omega), wr (n := y % 400 / 100) (by omega), wr (n := (153 * (m - 3) + 2) / 5) (by omega)]
    rw [wr (n := y / 400 * 146097 + y % 400 * 365) (by omega), wr (n := y / 400 * 146097 + y % 400 * 365 + y % 400 / 4) (by omega), wr (n := y / 400 * 146097 + y % 400 * 365 + y % 400 / 4 - y % 400 / 100) (by omega)]
    rw [wr (n := (153 * (m - 3) + 2) / 5 + d) (by omega), wr (n := (153 * (m - 3) + 2) / 5 + d - 1) (by omega), wr (n := y / 400 * 146097 + y % 400 * 365 + y % 400 / 4 - y % 400 / 100 + ((153 * (m - 3) + 2) / 5 + d - 1)) (by omega), wr (by omega)]
    unfold nmM; omega
  unfold day_number.f
  split
  · rw [wr (n := y - 1) (by omega), floor_is _ _ (Or.inl rfl) (by omega), wr (n := m + 12) (by omega)]
    simp only [Option.bind_some]
    rw [core (y - 1) (m + 12) (by omega) (by omega) (by omega) (by omega), nmM_early y m d h1 (by omega)]
  · rw [floor_is _ _ (Or.inl rfl) (by omega)]
    simp only [Option.bind_some]
    rw [core y m (by omega) (by omega) (by omega) (by omega), nmM_late y m d (by omega) h2]
theorem nm_11 (y : Int) : nm y 1 1 = S y := by unfold nm; rw [cm_one]; omega
theorem start_is (y : Int) : day_Start.f y = some (if -20000 ≤ y ∧ y ≤ 20000 then (S y, none) else (0, some 13)) := by
  unfold day_Start.f
  split
  · rw [if_neg (by omega)]
  · split
    · rw [if_neg (by omega)]
    · rw [if_pos (by omega), number_is y 1 1 (by omega) (by decide) (by decide) (by omega), nm_11]
      rfl
theorem weekday_is (n : Int) : day_Weekday.f n = some ((n + 3) % 7 + 1) := by
  unfold day_Weekday.f
  rw [tmod_is n 7]
  split
  · rw [wr (n := -(-n % 7) + 3) (by omega), tmod_is (-(-n % 7) + 3) 7]
    split
    · rw [wr (n := -(-(-(-n % 7) + 3) % 7) + 7) (by omega), tmod_is, if_neg (by omega), wr (by omega)]; congr 1; omega
    · rw [wr (n := (-(-n % 7) + 3) % 7 + 7) (by omega), tmod_is, if_neg (by omega), wr (by omega)]; congr 1; omega
  · rw [wr (n := n % 7 + 3) (by omega), tmod_is (n % 7 + 3) 7, if_neg (by omega), wr (n := (n % 7 + 3) % 7 + 7) (by omega), tmod_is, if_neg (by omega), wr (by omega)]; congr 1; omega
theorem first_is : day_First.f = some (-4371587) := by kernel_rfl
theorem last_is : day_Last.f = some 2932896 := by kernel_rfl
/-- The date of a number. -/
theorem rleap_is (y : Int) : horologeref05_Leap.f y = some (decide (lp y = 1)) := by
  have t4 : Int.tmod y 4 = 0 ↔ y % 4 = 0 := by rw [tmod_is]; split <;> omega
  have t100 : Int.tmod y 100 = 0 ↔ y % 100 = 0 := by rw [tmod_is]; split <;> omega
  have t400 : Int.tmod y 400 = 0 ↔ y % 400 = 0 := by rw [tmod_is]; split <;> omega
  have b100 : (Int.tmod y 100 != 0) = !decide (y % 100 = 0) := by rw [← decide_eq_decide.mpr t100]; rfl
  unfold horologeref05_Leap.f lp
  simp only [t4, t400, b100]
  by_cases p400 : y % 400 = 0
  · have p4 : y % 4 = 0 := by omega
    simp [p4, p400]
  · by_cases p4 : y % 4 = 0 <;> by_cases p100 : y % 100 = 0 <;> simp [p4, p100, p400]
theorem rdays_is (y : Int) : horologeref05_Days.f y = some (365 + lp y) := by
  unfold horologeref05_Days.f
  have l := lp_01 y
  rw [rleap_is]
  simp only [Option.bind_some]
  by_cases h : lp y = 1
  · rw [if_pos (decide_eq_true h), h]; rfl
  · rw [if_neg (by rw [decide_eq_false h]; decide), show lp y = 0 by omega]; rfl
theorem rstart_l2 (y n : Int) (hn : -100000000 ≤ n ∧ n ≤ 100000000) (m : Nat) : ∀ x : Int, 1970 ≤ x → x + m = y → y ≤ 2400 → Ev (fun k => horologeref05_Start.l2 k y (n + S x) x) (n + S y) := by
  induction m with
  | zero =>
    intro x h1 h2 h3
    refine Ev.up ?_
    simp only [horologeref05_Start.l2]
    rw [show x = y by omega]
    exact Ev.neg (by omega) (Ev.now _)
  | succ m ih =>
    intro x h1 h2 h3
    have l := lp_01 x
    have s := S_succ x
    have b1 := S_mono h1
    have b2 := S_mono (show x ≤ 2400 by omega)
    have e1 : S 2400 = 157054 := by decide
    have e0 := S_1970
    refine Ev.up ?_
    simp only [horologeref05_Start.l2, rdays_is, Option.bind_some]
    rw [wr (n := x + 1) (by omega), wr (n := n + S x + (365 + lp x)) (by omega)]
    have := ih (x + 1) (by omega) (by omega) h3
    rw [s] at this
    refine Ev.pos (by omega) ?_
    rw [show n + S x + (365 + lp x) = n + (S x + 365 + lp x) by omega]
    exact this
theorem rstart_l1 (m : Nat) : ∀ y n : Int, 1970 ≤ y → y < 2370 + 400 * m → m ≤ 80 → -50000000 ≤ n → n ≤ 50000000 - 146097 * m → Ev (fun k => horologeref05_Start.l1 k y n) (n + S y) := by
  induction m with
  | zero =>
    intro y n h1 h2 h3 h4 h5
    refine Ev.up ?_
    simp only [horologeref05_Start.l1]
    refine Ev.neg (by omega) ?_
    have := rstart_l2 y n (by omega) (y - 1970).toNat 1970 (by decide) (by omega) (by omega)
    rw [S_1970, Int.add_zero] at this
    exact this
  | succ m ih =>
    intro y n h1 h2 h3 h4 h5
    by_cases h : y ≥ 2370
    · refine Ev.up ?_
      simp only [horologeref05_Start.l1]
      refine Ev.pos h ?_
      rw [wr (n := y - 400) (by omega), wr (n := n + 146097) (by omega)]
      have := ih (y - 400) (n + 146097) (by omega) (by omega) (by omega) (by omega) (by omega)
      have e := S_400 (y - 400)
      rw [show y - 400 + 400 = y by omega] at e
      rw [show n + S y = n + 146097 + S (y - 400) by omega]
      exact this
    · exact ih y n h1 (by omega) (by omega) h4 (by omega)
theorem rstart_l0 (m : Nat) : ∀ y n : Int, 1970 - 400 * m ≤ y → y ≤ 30000 → m ≤ 80 → -50000000 + 146097 * m ≤ n → n ≤ 30000000 → Ev (fun k => horologeref05_Start.l0 k y n) (n + S y) := by
  induction m with
  | zero =>
    intro y n h1 h2 h3 h4 h5
    refine Ev.up ?_
    simp only [horologeref05_Start.l0]
    exact Ev.neg (by omega) (rstart_l1 80 y n (by omega) (by omega) (by omega) (by omega) (by omega))
  | succ m ih =>
    intro y n h1 h2 h3 h4 h5
    by_cases h : y < 1970
    · refine Ev.up ?_
      simp only [horologeref05_Start.l0]
      refine Ev.pos h ?_
      rw [wr (n := y + 400) (by omega), wr (n := n - 146097) (by omega)]
      have := ih (y + 400) (n - 146097) (by omega) (by omega) (by omega) (by omega) (by omega)
      rw [S_400] at this
      rw [show n + S y = n - 146097 + (S y + 146097) by omega]
      exact this
    · exact ih y n (by omega) h2 (by omega) (by omega) h5
theorem rstart_is (y : Int) (h1 : -30000 ≤ y) (h2 : y ≤ 30000) : Ev (fun k => horologeref05_Start.f k y) (S y) := by
  have := rstart_l0 80 y 0 (by omega) h2 (by omega) (by omega) (by omega)
  rw [Int.zero_add] at this
  exact this
theorem rweekday_is (n : Int) : horologeref05_Weekday.f n = some ((n + 3) % 7 + 1) := by
  unfold horologeref05_Weekday.f
  have pick : ∀ r : Int, 0 ≤ r → r < 7 → rd [4, 5, 6, 7, 1, 2, 3] r = (r + 3) % 7 + 1 := by
    intro r h0 h1
    have : r = 0 ∨ r = 1 ∨ r = 2 ∨ r = 3 ∨ r = 4 ∨ r = 5 ∨ r = 6 := by omega
    rcases this with rfl | rfl | rfl | rfl | rfl | rfl | rfl <;> rfl
  have hl : (([4, 5, 6, 7, 1, 2, 3] : List Int).length : Int) = 7 := rfl
  have tb := tmod_is n 7
  by_cases hn : n < 0
  · rw [if_pos hn] at tb
    rw [tb]
    by_cases hz : -((-n) % 7) < 0
    · rw [if_pos hz]
      simp only [Option.bind_some, hl]
      rw [show wrap64 (-((-n) % 7) + 7) = -((-n) % 7) + 7 from wr (by omega), if_pos (by omega), if_pos (by omega), pick _ (by omega) (by omega)]
      congr 1; omega
    · rw [if_neg hz]
      simp only [Option.bind_some, hl]
      rw [if_pos (by omega), if_pos (by omega), pick _ (by omega) (by omega)]
      congr 1; omega
  · rw [if_neg hn] at tb
    rw [tb, if_neg (by omega)]
    simp only [Option.bind_some, hl]
    rw [if_pos (by omega), if_pos (by omega), pick _ (by omega) (by omega)]
    congr 1; omega
/-- The Monday of a year's first week. -/
def mon (y : Int) : Int := S y + 3 - (S y + 6) % 7
theorem S_bd (y : Int) (h : -20001 ≤ y ∧ y ≤ 20001) : -9000000 ≤ S y ∧ S y ≤ 9000000 := by unfold S; omega
theorem monday_is (y : Int) : week_monday.f y = some (if -20000 ≤ y ∧ y ≤ 20000 then (mon y, none) else (0, some 13)) := by
  unfold week_monday.f
  rw [start_is]
  simp only [Option.bind_some]
  by_cases h : -20000 ≤ y ∧ y ≤ 20000
  · have b := S_bd y (by omega)
    rw [if_pos h, if_pos h]
    simp only [Option.isNone_none, if_true]
    rw [show wrap64 (S y + 3) = S y + 3 from wr (by omega), weekday_is]
    simp only [Option.bind_some]
    unfold mon
    generalize S y = s at *
    rw [show (s + 3 + 3) % 7 + 1 - 1 = (s + 6) % 7 by omega, show wrap64 ((s + 6) % 7) = (s + 6) % 7 from wr (by omega), show wrap64 (s + 3 - (s + 6) % 7) = s + 3 - (s + 6) % 7 from wr (by omega)]
  · rw [if_neg h, if_neg h]; rfl
/-- The first Thursday from a day on. -/
def fth (n : Int) : Int := n + 6 - (n + 6) % 7
theorem fth_bd (n : Int) : n ≤ fth n ∧ fth n ≤ n + 6 ∧ fth n % 7 = 0 := by unfold fth; omega
theorem mon_fth (y : Int) : mon y = fth (S y) - 3 := by unfold mon fth; omega
theorem fth_add (n i : Int) : fth (n + 7 * i) = fth n + 7 * i := by unfold fth; omega
/-- How many weeks a year has. -/
def cntV (y : Int) : Int := (mon (y + 1) - mon y) / 7
theorem cnt_fth (y : Int) : 7 * cntV y = fth (S (y + 1)) - fth (S y) ∧ 50 ≤ cntV y ∧ cntV y ≤ 55 := by
  have s := S_succ y
  have l := lp_01 y
  unfold cntV
  rw [mon_fth, mon_fth]
  have a := fth_bd (S y)
  have b := fth_bd (S (y + 1))
  omega
def wkOk (y : Int) : Prop := -10000 ≤ y ∧ y ≤ 10000
instance (y : Int) : Decidable (wkOk y) := inferInstanceAs (Decidable (_ ∧ _))
theorem wright_is (y : Int) : week_right.f y = some (decide (wkOk y)) := by
  unfold week_right.f
  split
  · congr 1; exact decide_eq_decide.mpr ⟨fun q => ⟨by omega, q⟩, fun q => q.2⟩
  · congr 1; exact (decide_eq_false (fun q => by have := q.1; omega)).symm
theorem wmonday_is (y : Int) : week_Monday.f y = some (if wkOk y then (mon y, none) else (0, some 13)) := by
  unfold week_Monday.f
  rw [wright_is]
  simp only [Option.bind_some]
  by_cases h : wkOk y
  · have h' := h
    unfold wkOk at h'
    rw [if_pos (decide_eq_true h), if_pos h, monday_is, if_pos (by omega)]; rfl
  · rw [if_neg (by simpa using h), if_neg h]
theorem mon_bd (y : Int) (h : -20001 ≤ y ∧ y ≤ 20001) : -9000010 ≤ mon y ∧ mon y ≤ 9000010 := by
  have := S_bd y h
  unfold mon; omega
theorem wweeks_is (y : Int) : week_Weeks.f y = some (if wkOk y then (cntV y, none) else (0, some 13)) := by
  unfold week_Weeks.f
  rw [wmonday_is]
  simp only [Option.bind_some]
  by_cases h : wkOk y
  · have h' := h
    unfold wkOk at h'
    have c := cnt_fth y
    have b1 := mon_bd y (by omega)
    have b2 := mon_bd (y + 1) (by omega)
    rw [if_pos h, if_pos h]
    simp only [Option.isNone_none, if_true]
    rw [show wrap64 (y + 1) = y + 1 from wr (by omega), monday_is, if_pos (by omega)]
    simp only [Option.bind_some, Option.isNone_none, if_true]
    unfold cntV at c ⊢
    rw [show wrap64 (mon (y + 1) - mon y) = mon (y + 1) - mon y from wr (by omega), tdiv_is, if_neg (by omega), wr (by omega)]
  · rw [if_neg h, if_neg h]; rfl
def dayOk (y w d : Int) : Prop := 1 ≤ w ∧ w ≤ cntV y ∧ 1 ≤ d ∧ d ≤ 7
instance (y w d : Int) : Decidable (dayOk y w d) := inferInstanceAs (Decidable (_ ∧ _))
/-- The number of a week's day. -/
def wdayV (y w d : Int) : Int × Option Int :=
  if wkOk y then (if dayOk y w d then (if -4371587 ≤ mon y + 7 * (w - 1) + d - 1 ∧ mon y + 7 * (w - 1) + d - 1 ≤ 2932896 then (mon y + 7 * (w - 1) + d - 1, none) else (0, some 13)) else (0, some 1)) else (0, some 13)
theorem wthere_is (n : Int) : week_there.f n = some (decide (-4371587 ≤ n ∧ n ≤ 2932896)) := by
  unfold week_there.f
  rw [first_is]
  simp only [Option.bind_some]
  split
  · rw [last_is]
    simp only [Option.bind_some]
    congr 1; exact decide_eq_decide.mpr ⟨fun q => ⟨by omega, q⟩, fun q => q.2⟩
  · congr 1; exact (decide_eq_false (fun q => by have := q.1; omega)).symm
theorem wsum (y w d : Int) (hy : wkOk y) (h : dayOk y w d) : wrap64 (mon y + wrap64 (wrap64 (wrap64 (7 * wrap64 (w - 1)) + d) - 1)) = mon y + 7 * (w - 1) + d - 1 := by
  unfold wkOk at hy
  have c := cnt_fth y
  have b := mon_bd y (by omega)
  unfold dayOk at h
  rw [show wrap64 (w - 1) = w - 1 from wr (by omega), show wrap64 (7 * (w - 1)) = 7 * (w - 1) from wr (by omega), show wrap64 (7 * (w - 1) + d) = 7 * (w - 1) + d from wr (by omega), show wrap64 (7 * (w - 1) + d - 1) = 7 * (w - 1) + d - 1 from wr (by omega), wr (by omega)]
  omega
theorem wday_is (y w d : Int) : week_Day.f y w d = some (wdayV y w d) := by
  unfold week_Day.f wdayV
  rw [wweeks_is]
  simp only [Option.bind_some]
  by_cases hy : wkOk y
  · rw [if_pos hy, if_pos hy]
    simp only [Option.isNone_none, if_true]
    by_cases h : dayOk y w d
    · have h' := h
      unfold dayOk at h'
      have hy' := hy
      unfold wkOk at hy'
      rw [if_pos h, if_neg (by omega), if_neg (by omega), if_neg (by omega), if_neg (by omega), monday_is, if_pos (by omega)]
      simp only [Option.bind_some, Option.isNone_none, if_true]
      rw [wsum y w d hy h, wthere_is]
      simp only [Option.bind_some]
      by_cases g : -4371587 ≤ mon y + 7 * (w - 1) + d - 1 ∧ mon y + 7 * (w - 1) + d - 1 ≤ 2932896
      · rw [if_pos (decide_eq_true g), if_pos g]
      · rw [if_neg (by simpa using g), if_neg g]
    · rw [if_neg h]
      have h' : ¬ (1 ≤ w ∧ w ≤ cntV y ∧ 1 ≤ d ∧ d ≤ 7) := h
      repeat' split
      all_goals first | rfl | (exfalso; omega)
  · rw [if_neg hy, if_neg hy]; rfl
def en (e : Option Int) : Int := match e with | none => 0 | some c => c
theorem rmonday_l0 (n : Int) (hn : -10000000 ≤ n ∧ n ≤ 10000000) (m : Nat) : ∀ t : Int, n ≤ t → t + m = fth n → Ev (fun k => horologeref06_Monday.l0 k t) (fth n - 3) := by
  have b := fth_bd n
  induction m with
  | zero =>
    intro t h1 h2
    refine Ev.up ?_
    simp only [horologeref06_Monday.l0]
    refine Ev.bindc (rweekday_is t) (Ev.pos (by omega) ?_)
    rw [show wrap64 (t - 3) = t - 3 from wr (by omega)]
    exact Ev.cast (Ev.now _) (by omega)
  | succ m ih =>
    intro t h1 h2
    have ht : ¬ (t + 3) % 7 + 1 = 4 := by unfold fth at h2 b; omega
    refine Ev.up ?_
    simp only [horologeref06_Monday.l0]
    refine Ev.bindc (rweekday_is t) (Ev.neg ht ?_)
    rw [show wrap64 (t + 1) = t + 1 from wr (by omega)]
    exact ih (t + 1) (by omega) (by omega)
theorem rmonday_is (y : Int) (h : -20001 ≤ y ∧ y ≤ 20001) : Ev (fun k => horologeref06_Monday.f k y) (mon y) := by
  unfold horologeref06_Monday.f
  have b := S_bd y h
  have f := fth_bd (S y)
  refine Ev.bind (rstart_is y (by omega) (by omega)) ?_
  rw [mon_fth]
  exact rmonday_l0 (S y) (by omega) (fth (S y) - S y).toNat (S y) (by omega) (by omega)
theorem rweeks_l1 (y many n : Int) (hy : -20000 ≤ y ∧ y ≤ 20000) (hn : -10000000 ≤ n ∧ n ≤ 10000000) (hm : 0 ≤ many ∧ many ≤ 100) {r : Int}
    (hr : Ev (fun k => if fth n < S (y + 1) then horologeref06_Weeks.l0 k y (many + 1) (n + 7) else horologeref06_Weeks.l0 k y many (n + 7)) r) (m : Nat) :
    ∀ t : Int, n ≤ t → t + m = fth n → Ev (fun k => horologeref06_Weeks.l1 k y many n t) r := by
  have b := fth_bd n
  induction m with
  | zero =>
    intro t h1 h2
    have e : t = fth n := by omega
    refine Ev.up ?_
    simp only [horologeref06_Weeks.l1]
    refine Ev.bindc (rweekday_is t) (Ev.pos (by omega) ?_)
    rw [show wrap64 (y + 1) = y + 1 from wr (by omega), show wrap64 (many + 1) = many + 1 from wr (by omega), show wrap64 (n + 7) = n + 7 from wr (by omega), e]
    exact Ev.bind (rstart_is _ (by omega) (by omega)) hr
  | succ m ih =>
    intro t h1 h2
    have ht : ¬ (t + 3) % 7 + 1 = 4 := by unfold fth at h2 b; omega
    refine Ev.up ?_
    simp only [horologeref06_Weeks.l1]
    refine Ev.bindc (rweekday_is t) (Ev.neg ht ?_)
    rw [show wrap64 (t + 1) = t + 1 from wr (by omega)]
    exact ih (t + 1) (by omega) (by omega)
theorem rweeks_l0 (y : Int) (hy : -20000 ≤ y ∧ y ≤ 20000) (m : Nat) : ∀ i : Int, 0 ≤ i → i + m = cntV y → Ev (fun k => horologeref06_Weeks.l0 k y i (S y + 7 * i)) (cntV y) := by
  have c := cnt_fth y
  have b0 := S_bd y (by omega)
  have b1 := S_bd (y + 1) (by omega)
  have f0 := fth_bd (S y)
  have f1 := fth_bd (S (y + 1))
  induction m with
  | zero =>
    intro i h0 hi
    have e : i = cntV y := by omega
    have g := fth_add (S y) i
    have stop : ∀ n : Int, S (y + 1) ≤ n → Ev (fun k => horologeref06_Weeks.l0 k y i n) (cntV y) := by
      intro n hn
      refine Ev.up ?_
      simp only [horologeref06_Weeks.l0]
      rw [show wrap64 (y + 1) = y + 1 from wr (by omega)]
      exact Ev.bind (rstart_is _ (by omega) (by omega)) (Ev.neg (by omega) (Ev.cast (Ev.now _) (by rw [e])))
    by_cases h : S (y + 1) ≤ S y + 7 * i
    · exact stop _ h
    · refine Ev.up ?_
      simp only [horologeref06_Weeks.l0]
      rw [show wrap64 (y + 1) = y + 1 from wr (by omega)]
      refine Ev.bind (rstart_is _ (by omega) (by omega)) (Ev.pos (by omega) ?_)
      have fb := fth_bd (S y + 7 * i)
      refine rweeks_l1 y i (S y + 7 * i) hy (by omega) (by omega) ?_ (fth (S y + 7 * i) - (S y + 7 * i)).toNat (S y + 7 * i) (by omega) (by omega)
      exact Ev.neg (by omega) (stop _ (by omega))
  | succ m ih =>
    intro i h0 hi
    have g := fth_add (S y) i
    have fb := fth_bd (S y + 7 * i)
    have hlt : fth (S y + 7 * i) < S (y + 1) := by omega
    refine Ev.up ?_
    simp only [horologeref06_Weeks.l0]
    rw [show wrap64 (y + 1) = y + 1 from wr (by omega)]
    refine Ev.bind (rstart_is _ (by omega) (by omega)) (Ev.pos (by omega) ?_)
    refine rweeks_l1 y i (S y + 7 * i) hy (by omega) (by omega) ?_ (fth (S y + 7 * i) - (S y + 7 * i)).toNat (S y + 7 * i) (by omega) (by omega)
    refine Ev.pos hlt ?_
    have := ih (i + 1) (by omega) (by omega)
    rw [show S y + 7 * (i + 1) = S y + 7 * i + 7 by omega] at this
    exact this
theorem rweeks_is (y : Int) (hy : -20000 ≤ y ∧ y ≤ 20000) : Ev (fun k => horologeref06_Weeks.f k y) (cntV y) := by
  unfold horologeref06_Weeks.f
  have c := cnt_fth y
  refine Ev.bind (rstart_is y (by omega) (by omega)) ?_
  have := rweeks_l0 y hy (cntV y).toNat 0 (by omega) (by omega)
  rw [show S y + 7 * 0 = S y by omega] at this
  exact this
theorem rfirst_is : Ev (fun k => horologeref05_First.f k) (-4371587) := by
  unfold horologeref05_First.f
  exact Ev.bind (rstart_is _ (by decide) (by decide)) (Ev.cast (Ev.now _) (by decide))
theorem rlast_is : Ev (fun k => horologeref05_Last.f k) 2932896 := by
  unfold horologeref05_Last.f
  exact Ev.bind (rstart_is _ (by decide) (by decide)) (Ev.cast (Ev.now _) (by kernel_rfl))
theorem rwday_is (y w d : Int) : Ev (fun k => horologeref06_Day.f k y w d) ((wdayV y w d).1, en (wdayV y w d).2) := by
  unfold horologeref06_Day.f wdayV
  have bad : ¬ wkOk y → Ev (fun k => horologeref06_Day.j0 k y w d true) (((if wkOk y then (if dayOk y w d then (if -4371587 ≤ mon y + 7 * (w - 1) + d - 1 ∧ mon y + 7 * (w - 1) + d - 1 ≤ 2932896 then (mon y + 7 * (w - 1) + d - 1, none) else (0, some 13)) else (0, some 1)) else (0, some 13)) : Int × Option Int).1, en ((if wkOk y then (if dayOk y w d then (if -4371587 ≤ mon y + 7 * (w - 1) + d - 1 ∧ mon y + 7 * (w - 1) + d - 1 ≤ 2932896 then (mon y + 7 * (w - 1) + d - 1, none) else (0, some 13)) else (0, some 1)) else (0, some 13)) : Int × Option Int).2) := by
    intro h
    rw [if_neg h]
    refine Ev.up ?_
    simp only [horologeref06_Day.j0, if_true]
    exact Ev.now _
  refine Ev.ite (fun q => bad (fun z => by unfold wkOk at z; omega)) (fun q => ?_)
  by_cases q2 : y > 10000
  · rw [decide_eq_true q2]; exact bad (fun z => by unfold wkOk at z; omega)
  · rw [decide_eq_false q2]
    have hy : wkOk y := ⟨by omega, by omega⟩
    rw [if_pos hy]
    have j1b : ¬ dayOk y w d → Ev (fun k => horologeref06_Day.j1 k y w d true) (((if dayOk y w d then (if -4371587 ≤ mon y + 7 * (w - 1) + d - 1 ∧ mon y + 7 * (w - 1) + d - 1 ≤ 2932896 then (mon y + 7 * (w - 1) + d - 1, none) else (0, some 13)) else (0, some 1)) : Int × Option Int).1, en ((if dayOk y w d then (if -4371587 ≤ mon y + 7 * (w - 1) + d - 1 ∧ mon y + 7 * (w - 1) + d - 1 ≤ 2932896 then (mon y + 7 * (w - 1) + d - 1, none) else (0, some 13)) else (0, some 1)) : Int × Option Int).2) := by
      intro h
      rw [if_neg h]
      refine Ev.up ?_
      simp only [horologeref06_Day.j1, if_true]
      exact Ev.now _
    refine Ev.up ?_
    simp only [horologeref06_Day.j0, Bool.false_eq_true, if_false]
    refine Ev.ite (fun z => j1b (fun o => by unfold dayOk at o; omega)) (fun z1 => Ev.bind (rweeks_is y (by omega)) (Ev.ite (fun z => j1b (fun o => by unfold dayOk at o; omega)) (fun z2 => Ev.ite (fun z => j1b (fun o => by unfold dayOk at o; omega)) (fun z3 => ?_))))
    by_cases z4 : d > 7
    · rw [decide_eq_true z4]; exact j1b (fun o => by unfold dayOk at o; omega)
    · rw [decide_eq_false z4]
      have ho : dayOk y w d := ⟨by omega, by omega, by omega, by omega⟩
      rw [if_pos ho]
      refine Ev.up ?_
      simp only [horologeref06_Day.j1, Bool.false_eq_true, if_false]
      refine Ev.bind (rmonday_is y (by omega)) (Ev.bind rfirst_is ?_)
      rw [wsum y w d hy ho]
      refine Ev.ite (fun g => ?_) (fun g => Ev.bind rlast_is (Ev.ite (fun g2 => ?_) (fun g2 => ?_)))
      · rw [if_neg (by omega)]; exact Ev.now _
      · rw [if_neg (by omega)]; exact Ev.now _
      · rw [if_pos (by omega)]; exact Ev.now _
theorem num_en (e : Option Int) (h : e ≠ some 0) : horologenum_Num.f e = some (en e) := by
  rw [num_is]
  cases e with
  | none => rfl
  | some c =>
    have : c ≠ 0 := fun q => h (by rw [q])
    simp [en, this]
theorem wdayV_err (y w d : Int) : (wdayV y w d).2 ≠ some 0 := by
  unfold wdayV
  repeat' split
  all_goals simp
theorem alive_is : Ev (fun k => horologelaw06_alive.f k) true := Ev.of (fun k => horologelaw06_alive.mono k) (k := 30) (by kernel_rfl)
end Go.Proofs.Ytmcicjjaneaokaa.MWeekYears
namespace Go.Proofs.Ytmcicjjaneaokaa.Pure
open Go.RowKit Go.Proofs.Ytmcicjjaneaokaa.MWeekYears Go.Proofs.YtmcicjjaneaokaaW.PrintWords Go.Proofs.YtmcicjjaneaokaaW.PrintLast Go.Proofs.Ytmcicjjaneaokaa.Base
set_option linter.unusedVariables false
set_option linter.unusedSimpArgs false
theorem WeekYears : horologelaw06_WeekYears.Pure := by
  intro y w d hy hw hd
  refine Ev.ok (g := fun k => horologelaw06_WeekYears.f k y w d) ?_
  unfold horologelaw06_WeekYears.f
  refine Ev.bind alive_is (Ev.pos rfl (Ev.bindc (wday_is y w d) (Ev.bindc (wweeks_is y) (Ev.bindc (wmonday_is y) (Ev.bind (rwday_is y w d) (Ev.pos rfl (Ev.bindc (num_en _ (wdayV_err y w d)) ?_)))))))
  rw [bne_self_eq_false]
  refine Ev.up ?_
  simp only [horologelaw06_WeekYears.j0, Bool.false_eq_true, if_false]
  by_cases h : wkOk y
  · have h' := h
    unfold wkOk at h'
    rw [if_pos h, if_pos h]
    refine Ev.neg (by omega) ?_
    rw [decide_eq_false (by omega)]
    refine Ev.up ?_
    simp only [horologelaw06_WeekYears.j1, Bool.false_eq_true, if_false]
    exact Ev.pos rfl (Ev.pos rfl (Ev.bind (rweeks_is y (by omega)) (Ev.pos rfl (Ev.bind (rmonday_is y (by omega)) (Ev.cast (Ev.now _) (beq_self_eq_true _))))))
  · rw [if_neg h, if_neg h]
    have out : Ev (fun k => horologelaw06_WeekYears.j1 k y 0 (some 13) 0 (some 13) true) true := by
      refine Ev.up ?_
      simp only [horologelaw06_WeekYears.j1, if_true]
      refine Ev.bindc (a := true) ?_ (Ev.pos rfl (Ev.bindc (a := true) ?_ (Ev.now _)))
      · unfold horologenum_Is.f; rw [num_is]; rfl
      · unfold horologenum_Is.f; rw [num_is]; rfl
    refine Ev.ite (fun _ => out) (fun h1 => ?_)
    rw [decide_eq_true (by unfold wkOk at h; omega)]
    exact out
end Go.Proofs.Ytmcicjjaneaokaa.Pure
